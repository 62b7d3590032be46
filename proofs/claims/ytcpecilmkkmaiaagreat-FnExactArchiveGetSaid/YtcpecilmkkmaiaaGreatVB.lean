/- What a function of the program does is told by a plain function on lists, strings and whole numbers: the words for it, and the proof that they are right. No condition beyond those that stand in each theorem. -/
import Derived.Test.YtcpecilmkkmaiaaGreatVA
set_option linter.unusedVariables false
set_option linter.unusedSimpArgs false
noncomputable section
namespace Go.Proofs.YtcpecilmkkmaiaaGreat.V
open Go Go.RowKit
section
variable {P : Program} {E : Env} {X : Fix} {C : Ctx} {st : St} {a : Act} {w : World} {R : Type} {k : St → Option R} {r : R} {o : Oper} {Q : Exit → Act → World → Prop}
theorem Rel.RAgrow {w' : World} (hrel : Rel X C st a w) (g : Grow w w') {x : A} {v : Value} (h : RA C w x v) : RA C w' x v := by
  refine h.frame (C := C) (C' := C) (fun k hk => g.same k (hrel.Ilt k hk)) (fun _ h => h) (fun b _ => ⟨rfl, fun _ => rfl, fun _ => rfl, fun ne k hk => ?_⟩) (fun _ _ => rfl)
  cases e : look C.rows b with
  | none => exact absurd e ne
  | some r => exact g.same k (hrel.Flt b r (hrel.rowsEq ▸ e) k hk)
theorem Rel.RAsgrow {w' : World} (hrel : Rel X C st a w) (g : Grow w w') : ∀ {x : List A} {v : List Value}, RAs C w x v → RAs C w' x v
  | [], _, h => h
  | _ :: _, _, ⟨v, vs, e, h1, h2⟩ => ⟨v, vs, e, hrel.RAgrow g h1, hrel.RAsgrow g h2⟩
theorem Rel.freshVar (hrel : Rel X C st a w) (d : Nat) (l : List A) (cs : Array Value) (id : TypeId) (hpin : X.pin d = none) (h : RAs C w l cs.toList) :
    ∃ C', Rel X C' (Zmn st d l) a { w with heap := w.heap.push (.cells cs id (0, 0)) } ∧ RA C' { w with heap := w.heap.push (.cells cs id (0, 0)) } (.vptr d 0) (.pointer (some ⟨w.heap.size, 0, none⟩)) := by
  obtain ⟨g1, g2, g3, g4, g5, g6⟩ := hrel.push cs id (0, 0)
  have hv : VarAt { w with heap := w.heap.push (.cells cs id (0, 0)) } (w.heap.size, 0) cs.toList := VarAt.new (id := id) (n := 0) (by simp)
  exact ⟨_, g1.newVar d l (w.heap.size, 0) cs.toList (hrel.RAsgrow (Grow.push w _) h) hv (fun L' q => by rw [hpin] at q; cases q) (fun _ _ => .inr g3) (fun c m e _ => g6 c m e) g4 g5⟩
theorem Zahq (id : TypeId) (v : Value) : (newVar id v).run P w = .ok ⟨w.heap.size, 0, none⟩ { w with heap := w.heap.push (.cells v.cells id (0, 0)) } := by
  simp only [newVar, Zjs]
theorem op_box {t : TypeId} {x : Operand} (hE : EnvOk P E) (ho : o.op = .box t x) (h : insts E o st k = some r) (hrel : Rel X C st a w) : Does P E X C st o a w k r := by
  simp only [insts, ho] at h
  cases hd : o.dst with
  | none => rw [hd] at h; cases h
  | some d =>
    rw [hd] at h
    simp only [Zji] at h
    split at h
    rotate_left
    · cases h
    rename_i hl
    simp only [Bool.and_eq_true] at hl
    obtain ⟨hl, hd9⟩ := hl
    have hd9 : d < 500 := Nat.lt_of_succ_le (by simpa [Nat.blt] using hd9)
    rw [Ztu, ← hd, Zaa] at h
    obtain ⟨C', q1, q2⟩ := hrel.freshVar d (flat (evD st x)) (a.eval x).cells t (X.low d hd9) (Zgx (hrel.ev x) hl)
    refine Z4f (hrel.frmGrow (Grow.push _ _)) (v := .pointer (some ⟨w.heap.size, 0, none⟩)) ?_ q1 q2 h
    simp only [execOp, ho]
    exact run_v _ (by simp [Instr.box, Zahq])
theorem Rel.freshRow (hrel : Rel X C st a w) (b : Nat) (e : Ty) (xs : List e.den) (cs : Array Value) (id : TypeId) (fr : Nat × Nat) (vs : List Value) (cap : Nat) (OW : Zd)
    (hO : RepNO (α := e.den) (RepO w C.I e) xs none vs OW) (hcap : xs.length ≤ cap) (hsz : cap * e.size ≤ cs.size) (hfr : FrZ e.size fr cs.size) (hvs : ∀ (i : Nat) (v : Value), vs[i]? = some v → cs[i]? = some v)
    (hI : Dis OW C.I) (hF : ∀ c r, c ≠ b → look st.rows c = some r → Dis OW (C.F c)) (hV : ∀ c l, look st.vars c = some l → ¬ OW (C.var c).1) (hlt : ∀ k, OW k → k < w.heap.size) (hown : ∀ k, OW k → X.own k ∨ X.w0.heap.size ≤ k) (hpR : X.pinR b = none) :
    ∃ C', Rel X C' (Zci st b e xs) a { w with heap := w.heap.push (.cells cs id fr) } ∧ RA C' { w with heap := w.heap.push (.cells cs id fr) } (.ref b [] none) (.slice (some ⟨w.heap.size, 0, none⟩) xs.length cap) := by
  obtain ⟨g1, g2, g3, g4, g5, g6⟩ := hrel.push cs id fr
  have g0 : Grow w { w with heap := w.heap.push (.cells cs id fr) } := Grow.push w _
  have hl := hO.length (n := e.size) (fun _ _ _ _ h => h.length)
  exact ⟨_, g1.newRow b e xs (some ⟨w.heap.size, 0, none⟩, xs.length, cap) (fun k => k = w.heap.size ∨ OW k)
    ⟨rfl, hcap, .inr ⟨_, cs, id, fr, vs, OW, rfl, rfl, .inl rfl, fun q => Nat.lt_irrefl _ (hlt _ q), fun _ h => .inr h, g2, by simpa using hsz, hfr,
      ⟨cs, id, fr, g2, by
        have : vs.length ≤ cap * e.size := by rw [hl]; exact Nat.mul_le_mul_right _ hcap
        show 0 + vs.length ≤ cs.size
        omega, fun i v hv => by show cs[0 + i]? = some v; rw [Nat.zero_add]; exact hvs i v hv⟩,
      hO.imp (fun _ h => h) (fun _ _ _ _ sG q => q.frame (fun k hk => g0.same k (hrel.Ilt k hk)) (fun _ h => h) (fun k hk => g0.same k (hlt k (sG k hk))) (fun _ h => h))⟩⟩
    (fun k hk hi => hk.elim (fun q => g4 (q ▸ hi)) (fun q => hI k q hi))
    (fun c r hc hr k hk hf => hk.elim (fun q => g5 c r hr (q ▸ hf)) (fun q => hF c r hc hr k q hf))
    (fun c l hl hk => hk.elim (fun q => g6 c l hl q) (fun q => hV c l hl q))
    (fun k hk => by
      simp only [Array.size_push]
      rcases hk with rfl | hk
      · omega
      · have := hlt k hk; omega)
    (fun k hk => hk.elim (fun q => .inr (q ▸ g3)) (fun q => hown k q)) (fun H' q => by rw [hpR] at q; cases q)⟩
theorem Zake {α : Type} {R' : α → List Value → Prop} {x : α} {vs : List Value} (h : R' x vs) : ∀ n, RepN R' (List.replicate n x) (List.replicate n vs).flatten
  | 0 => rfl
  | n + 1 => ⟨vs, _, by simp [List.replicate_succ], h, Zake h n⟩
theorem Zafw {α : Type} {R' : α → Option Path → List Value → Zd → Prop} {x : α} {vs : List Value} (h : R' x none vs (fun _ => False)) : ∀ n, RepNO R' (List.replicate n x) none (List.replicate n vs).flatten (fun _ => False)
  | 0 => rfl
  | n + 1 => ⟨vs, _, fun _ => False, fun _ => False, by simp [List.replicate_succ], fun _ h => h, fun _ h => h, fun _ h => h.elim, h, Zafw h n⟩
theorem Zkl {I : Zd} : ∀ {t : Ty}, t.whole = true → RepS w I t (zero t) (zeroV t)
  | .int _, _ | .bool, _ | .str, _ | .unit, _ => rfl
  | .row _ e, _ => ⟨none, 0, 0, rfl, rfl, Nat.le_refl _, .inl rfl⟩
  | .any, h => by cases h
  | .arr n e, h => by
    refine ⟨by simp [zero, Zaeu], ?_⟩
    simp only [zero, Zaeu, zeroV]
    exact Zake (Zkl (t := e) h) n
  | .pair a b, h => by
    simp only [Ty.whole, Bool.and_eq_true] at h
    exact ⟨_, _, rfl, Zkl h.1, Zkl h.2⟩
theorem Z4e {I : Zd} : ∀ {t : Ty}, t.whole = true → RepO w I t (zero t) none (zeroV t) (fun _ => False)
  | .int k, h => Zkl (t := .int k) h
  | .bool, h => Zkl (t := .bool) h
  | .str, h => Zkl (t := .str) h
  | .unit, h => Zkl (t := .unit) h
  | .row true e, _ => ⟨none, 0, 0, rfl, .inr ⟨rfl, Nat.le_refl _, .inl rfl⟩⟩
  | .row false e, _ => ⟨none, 0, 0, rfl, rfl, Nat.le_refl _, .inl rfl⟩
  | .any, h => by cases h
  | .arr n e, h => Zkl (t := .arr n e) h
  | .pair a b, h => by
    simp only [Ty.whole, Bool.and_eq_true] at h
    exact ⟨_, _, fun _ => False, fun _ => False, rfl, fun _ h => h, fun _ h => h, fun _ h => h.elim, Z4e h.1, Z4e h.2⟩
theorem Zx3 {t : Ty} {z : Option Value} (h : zeroOk t z = true) (hw : t.whole = true) : ∃ v, z = some v ∧ v.cells.toList = zeroV t := by
  unfold zeroOk at h
  split at h
  · rename_i v
    refine ⟨v, rfl, ?_⟩
    cases t <;> first | exact Z5p h | cases hw
  · cases h
theorem Zaet {α : Type} (l : List α) : ∀ (n i : Nat), i < n * l.length → (List.replicate n l).flatten[i]? = l[i % l.length]?
  | 0, i, h => by simp at h
  | n + 1, i, h => by
    rw [Nat.succ_mul] at h
    simp only [List.replicate_succ, List.flatten_cons]
    by_cases hi : i < l.length
    · rw [List.getElem?_append_left hi, Nat.mod_eq_of_lt hi]
    · rw [List.getElem?_append_right (by omega), Zaet l n (i - l.length) (by omega), ← Nat.mod_eq_sub_mod (by omega)]
theorem Zain {z : Array Value} {l : List Value} (hl : z.toList = l) (n i : Nat) (h : i < n * l.length) : (madeCells z (n * l.length))[i]? = (List.replicate n l).flatten[i]? := by
  subst hl
  have h0 : 0 < z.toList.length := by
    rcases Nat.eq_zero_or_pos z.toList.length with q | q
    · rw [q] at h; simp at h
    · exact q
  have hm : i % z.size < z.size := Nat.mod_lt _ (by simpa using h0)
  rw [Zaet _ _ _ h]
  simp only [madeCells, Array.getElem?_map, Array.getElem?_range, Array.length_toList] at h ⊢
  rw [if_pos h]
  simp [hm]
theorem Zac0 {t : TypeId} {x y : Operand} (hE : EnvOk P E) (ho : o.op = .makeSlice t x y) (h : insts E o st k = some r) (hrel : Rel X C st a w) : Does P E X C st o a w k r := by
  simp only [insts, ho] at h
  obtain ⟨T, h, -, hf⟩ := Ze7 hE h
  simp only [Zji] at h
  split at h
  rotate_left
  · cases h
  rename_i d b e j n j' m hd ex ey
  split at h
  rotate_left
  · cases h
  rename_i hd9
  have hd9 : d < 500 := Nat.lt_of_succ_le (by simpa [Nat.blt] using hd9)
  split at h
  rotate_left
  · cases h
  rename_i hw
  obtain ⟨⟨h1, h2, h3⟩, h⟩ := Zpa h
  rw [Zdf, ← hd, Zaa] at h
  have vx := hrel.ev x
  have vy := hrel.ev y
  rw [ex] at vx; rw [ey] at vy
  have vx : a.eval x = .int j n := vx
  have vy : a.eval y = .int j' m := vy
  obtain ⟨u, i, u1, u2, u3, u4, u5, u6⟩ := Ziy (Zg0 hf)
  obtain ⟨z, z1, z2⟩ := Zx3 (Zsa (Zg0 hf) u1 u3) hw
  have hl := Zed hw
  have hsz : m.toNat * i.size = m.toNat * (zeroV e).length := by rw [u4, hl]
  have hlim := Zae9 h3 u5
  have h3' := Nat.le_trans h3 (Zaio e)
  have hb : (i.bytes : Int) * m ≤ 281474976710656 := by
    have hm : ((m.toNat : Nat) : Int) = m := Int.toNat_of_nonneg (by omega)
    rw [← hm, Int.mul_comm]
    have := Int.ofNat_le.2 hlim
    rw [Int.natCast_mul] at this
    omega
  have hO : RepNO (α := e.den) (RepO w C.I e) (lrep n.toNat (zero e)) none (List.replicate n.toNat (zeroV e)).flatten (fun _ => False) := Zafw (Z4e hw) _
  obtain ⟨C', q1, q2⟩ := hrel.freshRow d e (lrep n.toNat (zero e)) (madeCells z.cells (m.toNat * i.size)) u (0, 0) _ m.toNat (fun _ => False) hO (by simp [lrep]; omega) (by rw [size_madeCells, u4]; exact Nat.le_refl _) ⟨.inl (Nat.le_refl _), fun _ => Nat.le_refl _⟩ (fun i' v hv => by
      rw [hsz]
      have hi := (List.getElem?_eq_some_iff.1 hv).1
      simp only [List.length_flatten, List.map_replicate, List.sum_replicate_nat] at hi
      have : n.toNat * (zeroV e).length ≤ m.toNat * (zeroV e).length := Nat.mul_le_mul_right _ (by omega)
      rw [Zain z2 _ _ (by omega), Zaet _ _ _ (by omega), ← Zaet (zeroV e) n.toNat _ hi]
      exact hv)
    (fun _ h => h.elim) (fun _ _ _ _ _ h => h.elim) (fun _ _ _ h => h) (fun _ h => h.elim) (fun _ h => h.elim) (X.lowR d (.inl hd9))
  simp only [lrep, List.length_replicate] at q2
  refine Z4f (hrel.frmGrow (Grow.push _ _)) (v := .slice (some ⟨w.heap.size, 0, none⟩) n.toNat m.toNat) ?_ q1 q2 h
  simp only [execOp, ho, vx, vy]
  exact run_v _ (run_make w t u i z u1 u3 z1 j j' n m h1 h2 hb (by omega))
theorem Zage {f : Nat} {fs l : Array Operand} (ho : o.op = .makeFunc (.func f) fs l) (h : insts E o st k = some r) (hrel : Rel X C st a w) : Does P E X C st o a w k r := by
  simp only [insts, ho] at h
  split at h
  rotate_left
  · cases h
  rename_i hfs
  rw [Zwr, Zaa] at h
  have hfs : fs = #[] := by cases fs; simp at hfs; simp [hfs]
  refine wp_st (v := .func (.func f) #[] (l.map a.eval)) ?_ hrel ?_ h
  · intro w1 hw1
    simp only [execOp, ho, hfs]
    exact run_v _ (by simp [Instr.makeFunc])
  · refine ⟨l.toList.map a.eval, by rw [← Array.toList_map], ?_⟩
    have : ∀ m : List Operand, RAs C w (m.map (evD st)) (m.map a.eval) := fun m => by
      induction m with
      | nil => rfl
      | cons x m ih => exact ⟨_, _, rfl, hrel.ev x, ih⟩
    exact this _
end
end Go.Proofs.YtcpecilmkkmaiaaGreat.V
namespace Go.Proofs.YtcpecilmkkmaiaaGreat.V
open Go Go.RowKit
section
variable {P : Program} {E : Env} {X : Fix} {C : Ctx} {st : St} {a : Act} {w : World} {R : Type} {k : St → Option R} {r : R} {o : Oper} {Q : Exit → Act → World → Prop}
theorem Zv2 {I F : Zd} : ∀ l : List UInt8, RepNO (α := Int) (RepO w I (.int .u8)) (l.map fun b => (b.toNat : Int)) none (l.map fun b => Value.int .u8 b.toNat) F
  | [] => rfl
  | b :: l => ⟨[_], _, fun _ => False, F, rfl, fun _ h => h.elim, fun _ h => h, fun _ h => h.elim, rfl, Zv2 l⟩
theorem Zab6 {I : Zd} : ∀ {xs : List Int} {vs : List Value}, RepN (RepS w I (.int .u8)) xs vs → vs = xs.map (Value.int .u8)
  | [], _, h => h
  | x :: xs, _, ⟨v1, v2, e, h1, h2⟩ => by subst e; rw [Zab6 h2]; cases h1; rfl
theorem Z9j {src dst e : TypeId} {ad : Option Addr} {len cap : Nat} {xs : List Int} {I : Zd} (hs : P.underlying src = some (.slice e)) (he : P.underlying e = some (.int .u8)) (hd : P.underlying dst = some .string)
    (h : SRow w I (α := (Ty.int .u8).den) (RepS w I (.int .u8)) xs ad len cap) : (convert src dst (.slice ad len cap)).run P w = .ok (.string (strOf xs)) w := by
  obtain ⟨h1, h2, h3⟩ := h
  have hnil : xs = [] → (convert src dst (.slice ad len cap)).run P w = .ok (.string (strOf xs)) w := by
    rintro rfl
    have h1 : len = 0 := h1
    subst h1
    cases ad with
    | none => exact run_convert_bytes_nil w src e hs he _ _ dst hd
    | some ad =>
      rw [run_convert_bytes_string w src dst e _ _ cap hs he hd, run_bytesToString w ad 0 cap [] (by simp [loadCells, loadCellsFrom])]
      rfl
  rcases h3 with h3 | ⟨ad', vs, e1, e2, -, e4, e5⟩
  · exact hnil h3
  · subst e1
    rw [Zmv e2]
    have := Zab6 e5
    subst this
    refine run_convert_bytes_arg w src e hs he ad'.block ad'.off len cap xs h1.symm (fun i hi => ?_) dst hd
    have h1 : len = xs.length := h1
    have hi' : i < xs.length := by omega
    have := Zad2 e4 i (.int .u8 xs[i]) (by simp [hi'])
    rw [Z8b] at this
    rw [this]
    simp [List.getD, hi']
theorem Rel.freshRow' (n : Nat) (hrel : Rel X C st a w) (b : Nat) (e : Ty) (xs : List e.den) (hn : xs.length = n) (cs : Array Value) (id : TypeId) (fr : Nat × Nat) (vs : List Value) (cap : Nat) (OW : Zd)
    (hO : RepNO (α := e.den) (RepO w C.I e) xs none vs OW) (hcap : n ≤ cap) (hsz : cap * e.size ≤ cs.size) (hfr : FrZ e.size fr cs.size) (hvs : ∀ (i : Nat) (v : Value), vs[i]? = some v → cs[i]? = some v)
    (hI : Dis OW C.I) (hF : ∀ c r, c ≠ b → look st.rows c = some r → Dis OW (C.F c)) (hV : ∀ c l, look st.vars c = some l → ¬ OW (C.var c).1) (hlt : ∀ k, OW k → k < w.heap.size) (hown : ∀ k, OW k → X.own k ∨ X.w0.heap.size ≤ k) (hpR : X.pinR b = none) :
    ∃ C', Rel X C' (Zci st b e xs) a { w with heap := w.heap.push (.cells cs id fr) } ∧ RA C' { w with heap := w.heap.push (.cells cs id fr) } (.ref b [] none) (.slice (some ⟨w.heap.size, 0, none⟩) n cap) := by
  subst hn
  exact hrel.freshRow b e xs cs id fr vs cap OW hO hcap hsz hfr hvs hI hF hV hlt hown hpR
theorem Zah9 {s t : TypeId} {x : Operand} (hE : EnvOk P E) (ho : o.op = .convert s t x) (h : insts E o st k = some r) (hrel : Rel X C st a w) : Does P E X C st o a w k r := by
  simp only [insts, ho] at h
  obtain ⟨S, h2, -, hfs⟩ := Ze7 hE h
  clear h
  obtain ⟨T, h, eT, hft⟩ := Ze7 hE h2
  clear h2
  simp only [Zji] at h
  have h1 := hrel.ev x
  have hMs := Zg0 hfs
  have hMt := Zg0 hft
  have hrun : (execOp a.eval o) = (do pure (Next.value (← convert s t (a.eval x)))) := by simp only [execOp, ho]
  split at h
  · rename_i j j' j'' n ex
    rw [Zaa] at h
    rw [ex] at h1
    have h1 : a.eval x = .int j'' n := h1
    refine wp_st (x := .int j' (wr j' n)) (v := .int j' (wr j' n)) ?_ hrel rfl h
    intro w1 hw1
    rw [hrun, h1]
    exact run_v _ (by simp [convert, run_underlying (Zv4 hMs), run_underlying (Zv4 hMt), Conv.intToInt, wr_eq])
  · rename_i b s' ex
    rw [ex] at h1
    have h1 : a.eval x = .string s' := h1
    cases hd : o.dst with
    | none => rw [hd] at h; cases h
    | some d =>
      rw [hd] at h
      simp only at h
      split at h
      rotate_left
      · cases h
      rename_i hd9
      have hd9 : d < 500 := Nat.lt_of_succ_le (by simpa [Nat.blt] using hd9)
      have h := (Zdf st d (.int .u8) (bytesOf s') (fun st => st.putK (some d) (A.ref d [] none) k)).symm.trans h
      rw [← hd, Zaa] at h
      obtain ⟨u, i, u1, u2, u3, u4, u5, u6⟩ := Ziy hMt
      have hu := Zv4 u2
      have hgr := hrel.grow (Grow.drawn w (w.drawn + 1))
      have hcs : (bytesRow s' (grownCap w s'.size 0 u)).toList = s'.data.toList.map (fun b => Value.int .u8 b.toNat) ++ List.replicate (grownCap w s'.size 0 u - s'.size) (.int .u8 0) := by
        simp [bytesRow]
      have hcap : s'.size ≤ grownCap w s'.size 0 u := Nat.le_add_right _ _
      have hsz : (bytesRow s' (grownCap w s'.size 0 u)).size = grownCap w s'.size 0 u := by
        have := congrArg List.length hcs
        simp only [Array.length_toList, List.length_append, List.length_map, List.length_replicate] at this
        have e : s'.data.size = s'.size := rfl
        omega
      have hlen : (bytesOf s').length = s'.size := by simp [bytesOf]
      obtain ⟨C', q1, q2⟩ := hgr.freshRow' s'.size d (.int .u8) (bytesOf s') hlen (bytesRow s' (grownCap w s'.size 0 u)) u ((bytesRow s' (grownCap w s'.size 0 u)).size, (bytesRow s' (grownCap w s'.size 0 u)).size + 1)
        (s'.data.toList.map (fun b => Value.int .u8 b.toNat)) (grownCap w s'.size 0 u) (fun _ => False) (Zv2 _) hcap (by rw [hsz]; exact Nat.le_of_eq (Nat.mul_one _)) ⟨.inr (Nat.le_refl _), fun q => absurd rfl q⟩ (fun i v hv => by
          rw [← Array.getElem?_toList, hcs, List.getElem?_append_left (List.getElem?_eq_some_iff.1 hv).1]
          exact hv) (fun _ h => h.elim) (fun _ _ _ _ _ h => h.elim) (fun _ _ _ h => h) (fun _ h => h.elim) (fun _ h => h.elim) (X.lowR d (.inl hd9))
      refine Z4f (hrel.frmGrow ((Grow.drawn w (w.drawn + 1)).trans (Grow.push _ _))) (v := .slice (some ⟨w.heap.size, 0, none⟩) s'.size (grownCap w s'.size 0 u)) ?_ q1 q2 h (by simp only [Zwt, ho, eT])
      rw [hrun, h1]
      exact run_v _ (run_bytes_of_string w s t u s' (Zme hMs) u1 hu)
  · rename_i b
    obtain ⟨u, i, u1, u2, u3, u4, u5, u6⟩ := Ziy hMs
    have hu := Zv4 u2
    split at h
    · rename_i ex
      rw [Zaa] at h
      rw [ex] at h1
      have h1 : a.eval x = .slice none 0 0 := h1
      refine wp_st (x := .str ⟨#[]⟩) (v := .string ⟨#[]⟩) ?_ hrel rfl h
      intro w1 hw1
      rw [hrun, h1]
      exact run_v _ (run_convert_bytes_nil w1 s u u1 hu 0 0 t (Zme hMt))
    · obtain ⟨e, xs, ad, len, cap, h, hv, hl, hc, hd⟩ := Zxz hrel h h1
      split at h
      · rename_i xs
        rw [Zaa] at h
        refine wp_st (x := .str (strOf xs)) (v := .string (strOf xs)) ?_ hrel rfl h
        intro w1 hw1
        rw [hrun, hv]
        have hs1 : SRow w1 (fun _ => True) (RepS w1 (fun _ => True) (.int .u8)) xs ad len cap := by
          obtain ⟨l1, l2, l3⟩ := hd rfl
          by_cases hn : len = 0
          · exact ⟨l1, l2, .inl (List.length_eq_zero_iff.1 (by omega))⟩
          · exact ⟨l1, l2, l3.imp id fun ⟨ad', vs, e1, e2, e3, e4, e5⟩ => ⟨ad', vs, e1, e2, trivial, e4.same (hw1 _ (by simp [Zahy, ho, hv, e1, hn])), e5.imp (fun _ _ h => h)⟩⟩
        exact run_v _ (Z9j u1 hu (Zme hMt) hs1)
      · cases h
  · rename_i s' ex
    rw [Zaa] at h
    rw [ex] at h1
    have h1 : a.eval x = .string s' := h1
    refine wp_st (x := .str s') (v := .string s') ?_ hrel rfl h
    intro w1 hw1
    rw [hrun, h1]
    exact run_v _ (by simp [convert, run_underlying (Zme hMs), run_underlying (Zme hMt)])
  · cases h
theorem op_min {c : Call} {b : Builtin} (hb : b = .min ∨ b = .max) (ho : o.op = .call c) (hc : c.callee = .builtin b) (h : insts E o st k = some r) (hrel : Rel X C st a w) : Does P E X C st o a w k r := by
  obtain ⟨consts, hrun⟩ := Zgh (P := P) (a := a) ho hc
  have key : ∀ {j j' : IntKind} {n m : Int}, c.args.toList.map (evD st) = [.int j n, .int j' m] → c.args.map a.eval = #[.int j n, .int j' m] := by
    intro j j' n m e
    match h : c.args.toList, e with
    | [x, y], e =>
      simp only [List.map_cons, List.map_nil, List.cons.injEq, and_true] at e
      have hx := hrel.ev x
      have hy := hrel.ev y
      rw [e.1] at hx; rw [e.2] at hy
      have hx : a.eval x = .int j n := hx
      have hy : a.eval y = .int j' m := hy
      apply Array.ext'
      rw [Array.toList_map, h]
      simp [hx, hy]
    | [], e => cases e
    | [_], e => simp at e
    | _ :: _ :: _ :: _, e => simp at e
  rcases hb with rfl | rfl
  all_goals
    simp only [insts, ho, hc, Zwr] at h
    split at h
    rotate_left
    · cases h
    rename_i j n j' m e
    rw [Zaa] at h
  · refine wp_st (x := .int j (mn n m)) (v := .int j (mn n m)) ?_ hrel rfl h
    intro w1 hw1
    rw [hrun, key e]
    exact run_v _ (run_min_int2 _ _ _ _ _ _ _)
  · refine wp_st (x := .int j (mx n m)) (v := .int j (mx n m)) ?_ hrel rfl h
    intro w1 hw1
    rw [hrun, key e]
    exact run_v _ (by rw [run_max_int2]; rfl)
end
end Go.Proofs.YtcpecilmkkmaiaaGreat.V
namespace Go.Proofs.YtcpecilmkkmaiaaGreat.V
open Go Go.RowKit
section
variable {P : Program} {E : Env} {X : Fix} {C C' : Ctx} {st st' : St} {a : Act} {w : World} {R : Type} {k : St → Option R} {r : R} {o : Oper} {Q : Exit → Act → World → Prop}
theorem Z54 {R : Type} (st : St) : ∀ (l : List (Nat × Operand)) (k : List (Nat × A) → R), Zaga st l k = k (l.map fun p => (p.1, evD st p.2))
  | [], k => rfl
  | (i, o) :: l, k => by simp only [Zaga, Zji, Z54 st l, List.map_cons]
theorem Zafj : ∀ (l : List Value) (cs : Array Value) (off n : Nat), ((l.zipIdx n).foldl (fun cs (c : Value × Nat) => cs.setIfInBounds (off + c.2) c.1) cs).toList = sets cs.toList (off + n) l
  | [], _, _, _ => rfl
  | v :: l, cs, off, n => by
    simp only [List.zipIdx_cons, List.foldl_cons, Zafj l, sets, Array.toList_setIfInBounds]
    rfl
theorem Zajf (v : Value) (cs : Array Value) (off : Nat) : (v.cells.zipIdx.foldl (fun cs (c, j) => cs.setIfInBounds (off + j) c) cs).toList = sets cs.toList off v.cells.toList := by
  rw [← Array.foldl_toList, Array.toList_zipIdx]
  exact Zafj _ _ _ _
theorem Z72 {place : Nat → Option (Nat × Nat)} {pl : Nat → Nat} {F : List (Nat × A) → List A → List A} (hF0 : ∀ l, F [] l = l) {n : Nat} :
    ∀ {ps : List (Nat × Operand)} {l : List A} {cs : Array Value}, (∀ i x, (i, x) ∈ ps → ∃ size, place i = some (pl i, size) ∧ fitsL size (flat (evD st x)) = true ∧ pl i + size ≤ n ∧ ∀ ps' l, F ((i, evD st x) :: ps') l = F ps' (putsL l (pl i) (flat (evD st x)))) → Rel X C st a w → l.length = n → RAs C w l cs.toList →
      ∃ cs', Instr.fill place cs (ps.map fun p => (p.1, a.eval p.2)) = some cs' ∧ RAs C w (F (ps.map fun p => (p.1, evD st p.2)) l) cs'.toList ∧ (F (ps.map fun p => (p.1, evD st p.2)) l).length = n
  | [], l, cs, _, _, hl, h => ⟨cs, rfl, by rw [List.map_nil, hF0]; exact h, by rw [List.map_nil, hF0]; exact hl⟩
  | (i, x) :: ps, l, cs, hp, hrel, hl, h => by
    obtain ⟨size, h1, h2, h3, hF1⟩ := hp i x (List.mem_cons_self ..)
    simp only [fitsL, Bool.and_eq_true, Zky] at h2
    have h22 := Nat.eq_of_beq_eq_true h2.2
    have hc := Zgx (hrel.ev x) h2.1
    have hcl := hc.length
    have hlen := h.length
    simp only [Array.length_toList] at hcl hlen
    have hs := h.sets (pl i) hc
    obtain ⟨cs', q1, q2, q3⟩ := Z72 hF0 (n := n) (ps := ps) (l := putsL l (pl i) (flat (evD st x))) (cs := (a.eval x).cells.zipIdx.foldl (fun cs (c, j) => cs.setIfInBounds (pl i + j) c) cs)
      (fun i' x' hm => hp i' x' (List.mem_cons_of_mem _ hm)) hrel (by rw [Zyv, Zy]; exact hl) (by rw [Zyv, Zajf]; exact hs)
    refine ⟨cs', ?_, by rw [List.map_cons, hF1]; exact q2, by rw [List.map_cons, hF1]; exact q3⟩
    simp only [List.map_cons, Instr.fill, h1]
    clear q2 q3 hF0 hF1
    have e1 : (a.eval x).cells.size = size := hcl.trans h22
    have e2 : ¬ (pl i + (a.eval x).cells.size > cs.size) := by omega
    rw [if_neg (by simp only [ne_eq, Bool.or_eq_true, decide_eq_true_eq]; exact fun q => q.elim (fun q => q e1) e2)]
    exact q1
theorem Zajl {t : Ty} : ∀ {s : Ty} {i o off : Nat}, s.field i o = some (off, t) → o ≤ off ∧ off + t.size ≤ o + s.size
  | .pair a b, 0, o, off, h => by
    simp only [Ty.field, Option.some.injEq, Prod.mk.injEq] at h
    obtain ⟨rfl, rfl⟩ := h
    simp only [Ty.size, Zq]
    exact ⟨Nat.le_refl _, by omega⟩
  | .pair a b, i + 1, o, off, h => by
    simp only [Ty.field] at h
    have := Zajl h
    simp only [Ty.size, Zq] at this ⊢
    omega
  | .int _, _, _, _, h | .bool, _, _, _, h | .str, _, _, _, h | .row _ _, _, _, _, h | .arr _ _, _, _, _, h | .unit, _, _, _, h | .any, _, _, _, h => by simp only [Ty.field] at h; cases h
theorem Zaez {P : Program} : ∀ {s : Ty} {l : List Field} {o : Nat} {id : TypeId}, s.chain = true → fitsM P s (some (l, o)) id = true →
    ∃ places, l.mapM (fun f => (P.info? f.type).map fun i => (f.offset, i.size)) = some places ∧ ∀ i off t, s.field i o = some (off, t) → places[i]? = some (off, t.size)
  | .pair a b, [], o, id, _, h => by simp only [fitsM] at h; cases h
  | .pair a b, f :: l, o, id, hc, h => by
    simp only [fitsM, Bool.and_eq_true, beq_iff_eq, decide_eq_true_eq] at h
    obtain ⟨⟨⟨⟨h1, h2⟩, h3⟩, h4⟩, h5⟩ := h
    obtain ⟨pl, q1, q2⟩ := Zaez (s := b) hc h5
    split at h4
    · rename_i inf e
      refine ⟨(f.offset, inf.size) :: pl, by simp [List.mapM_cons, e, q1], fun i off t hf => ?_⟩
      cases i with
      | zero =>
        simp only [Ty.field, Option.some.injEq, Prod.mk.injEq] at hf
        obtain ⟨rfl, rfl⟩ := hf
        simp [h1, beq_iff_eq.1 h4]
      | succ i =>
        simp only [Ty.field] at hf
        rw [List.getElem?_cons_succ]
        exact q2 i off t hf
    · cases h4
  | .unit, [], o, id, _, h => ⟨[], rfl, fun i off t h => by simp [Ty.field] at h⟩
  | .unit, _ :: _, o, id, _, h => by simp only [fitsM] at h; cases h
  | .int _, _, _, _, h, _ | .bool, _, _, _, h, _ | .str, _, _, _, h, _ | .row _ _, _, _, _, h, _ | .arr _ _, _, _, _, h, _ | .any, _, _, _, h, _ => by cases h
theorem Z3i {T : Ty} : ∀ {ps : List (Nat × A)}, Zae0 T ps = true → ∀ i x, (i, x) ∈ ps → ∃ off u, T.field i 0 = some (off, u) ∧ fitsL u.size (flat x) = true
  | (j, y) :: ps, h, i, x, hm => by
    simp only [Zae0, Bool.and_eq_true] at h
    obtain ⟨h1, h2⟩ := h
    rcases List.mem_cons.1 hm with hm | hm
    · simp only [Prod.mk.injEq] at hm
      obtain ⟨rfl, rfl⟩ := hm
      split at h1
      · rename_i off u e
        exact ⟨off, u, e, h1⟩
      · cases h1
    · exact Z3i h2 i x hm
theorem Zsl {n m : Nat} : ∀ {ps : List (Nat × A)}, Zy1 n m ps = true → ∀ i x, (i, x) ∈ ps → i < m ∧ fitsL n (flat x) = true
  | (j, y) :: ps, h, i, x, hm => by
    simp only [Zy1, Bool.and_eq_true] at h
    obtain ⟨⟨h1, h2⟩, h3⟩ := h
    rcases List.mem_cons.1 hm with hm | hm
    · simp only [Prod.mk.injEq] at hm
      obtain ⟨rfl, rfl⟩ := hm
      exact ⟨Nat.lt_of_succ_le (by simpa [Nat.blt] using h1), h2⟩
    · exact Zsl h3 i x hm
theorem op_build {t : TypeId} {ps : Array (Nat × Operand)} (hE : EnvOk P E) (ho : o.op = .build t ps) (h : insts E o st k = some r) (hrel : Rel X C st a w) : Does P E X C st o a w k r := by
  simp only [insts, ho] at h
  obtain ⟨T, h2, -, hf⟩ := Ze7 hE h
  clear h
  simp only [Z54] at h2
  have hM := Zg0 hf
  have hparts : (ps.map fun (i, x) => (i, a.eval x)).toList = ps.toList.map fun p => (p.1, a.eval p.2) := by simp
  have hrun : ∀ {cells : Array Value}, P.built t (ps.toList.map fun p => (p.1, a.eval p.2)) = some cells → ∀ w : World, (execOp a.eval o).run P w = .ok (.value (.agg cells)) w := fun hc w => by
    simp only [execOp, ho]
    exact run_v _ (run_build w t _ _ (by rw [hparts]; exact hc))
  have memo : ∀ {i : Nat} {x : Operand}, (i, x) ∈ ps.toList → (i, evD st x) ∈ ps.toList.map fun p => (p.1, evD st p.2) := fun h => List.mem_map.2 ⟨_, h, rfl⟩
  split at h2
  · rename_i n e
    split at h2
    rotate_left
    · cases h2
    rename_i hc
    simp only [Bool.and_eq_true] at hc
    obtain ⟨hw, hp⟩ := hc
    have hwT : (Ty.arr n e).whole = true := hw
    obtain ⟨i, v, z1, z2, z3, z4⟩ := Zxw hf (by simp)
    obtain ⟨u, i', u1, u2, u3, u4⟩ := Zahe hM
    have hz := Zed hwT
    rw [Zaa] at h2
    have hl0 : (zeroL (.arr n e)).length = (Ty.arr n e).size := by rw [← (Zhq (C := C) (w := w) hz).length]; exact hz
    obtain ⟨cs', q1, q2, q3⟩ := Z72 (F := fun ps l => fillR e.size ps l) (place := fun i => some (i * i'.size, i'.size)) (pl := fun i => i * e.size) (n := (Ty.arr n e).size) (fun _ => rfl)
      (ps := ps.toList) (l := zeroL (.arr n e)) (cs := v.cells) (fun i x hm => by
        obtain ⟨f1, f2⟩ := Zsl hp _ _ (memo hm)
        refine ⟨e.size, by rw [u4], f2, ?_, fun _ _ => rfl⟩
        have : (i + 1) * e.size ≤ n * e.size := Nat.mul_le_mul_right _ f1
        rw [Nat.succ_mul] at this
        exact this) hrel hl0 (by rw [z3]; exact Zhq hz)
    refine wp_st (x := .agg _) (v := .agg cs') (fun w1 _ => hrun ?_ w1) hrel ⟨cs'.toList, by simp, q2⟩ h2
    unfold Program.built
    simp only [z1, u1, z2, u3]
    exact q1
  · rename_i hT
    split at h2
    rotate_left
    · cases h2
    rename_i hc
    simp only [Bool.and_eq_true] at hc
    obtain ⟨⟨hch, hw⟩, hp⟩ := hc
    obtain ⟨i, v, z1, z2, z3, z4⟩ := Zxw hf (by rintro rfl; cases hw)
    have hz := Zed hw
    rw [Zaa] at h2
    have hl0 : (zeroL T).length = T.size := by rw [← (Zhq (C := C) (w := w) hz).length]; exact hz
    cases T <;> try (exfalso; revert hch; simp [Ty.chain]; done)
    case unit => simp only [fitsM] at hM; cases hM
    case pair b d =>
    obtain ⟨fs, f, l, u1, u2, u3⟩ := Zuq hM
    rw [← u2] at u3
    obtain ⟨places, p1, p2⟩ := Zaez hch u3
    obtain ⟨cs', q1, q2, q3⟩ := Z72 (F := fun ps l => fillS (.pair b d) ps l) (place := fun i => places.toArray[i]?) (pl := fun i => match (Ty.pair b d).field i 0 with | some (off, _) => off | none => 0) (n := (Ty.pair b d).size) (fun _ => rfl)
      (ps := ps.toList) (l := zeroL (.pair b d)) (cs := v.cells) (fun i x hm => by
        obtain ⟨off, u, f1, f2⟩ := Z3i hp _ _ (memo hm)
        refine ⟨u.size, ?_, f2, ?_, fun ps' l => by simp only [fillS, f1]⟩
        · simp only [f1]
          simpa using p2 i off u f1
        · simp only [f1]
          have := Zajl f1
          omega) hrel hl0 (by rw [z3]; exact Zhq hz)
    refine wp_st (x := .agg _) (v := .agg cs') (fun w1 _ => hrun ?_ w1) hrel ⟨cs'.toList, by simp, q2⟩ h2
    unfold Program.built
    simp only [z1, u1, z2, p1]
    exact q1
end
end Go.Proofs.YtcpecilmkkmaiaaGreat.V
namespace Go.Proofs.YtcpecilmkkmaiaaGreat.V
open Go Go.RowKit
section
variable {P : Program} {E : Env} {X : Fix} {C C' : Ctx} {st st' : St} {a : Act} {w : World} {R : Type} {k : St → Option R} {r : R} {o : Oper} {Q : Exit → Act → World → Prop}
structure Loose (X : Fix) (C : Ctx) (st : St) (w : World) (S : Zd) : Prop where
  I : Dis S C.I
  F : ∀ c r, look st.rows c = some r → Dis S (C.F c)
  V : ∀ c l, look st.vars c = some l → ¬ S (C.var c).1
  lt : ∀ k, S k → k < w.heap.size
  own : ∀ k, S k → X.own k ∨ X.w0.heap.size ≤ k
theorem Zra {m : List A} {OW FZ : Zd} (hrel : Rel X C st a w) (hm : Moved C C' st st' FZ (keys (srcs m))) (h1 : Of C st m OW) (h2 : Dis OW FZ) : Loose X C' st' w OW := by
  have hb : ∀ k, OW k → ∃ b r, b ∈ keys (srcs m) ∧ look st.rows b = some r ∧ C.F b k := fun k hk => by
    obtain ⟨b, q1, q2, q3⟩ := h1 k hk
    cases e : look st.rows b with
    | none => exact absurd e q2
    | some r => exact ⟨b, r, q1, e, q3⟩
  refine ⟨fun k hk hi => ?_, fun c s hs k hk hf => ?_, fun c l hl hk => ?_, fun k hk => ?_, fun k hk => ?_⟩
  · rcases hm.I3 k hi with hi | hi
    · exact Of.I hrel h1 k hk hi
    · exact h2 k hk hi
  · obtain ⟨b, rb, q1, q2, q3⟩ := hb k hk
    obtain ⟨e1, e2⟩ := hm.rows c s hs
    rw [hm.F] at hf
    exact hrel.rdis b c rb s (fun q => e1 (q ▸ q1)) q2 e2 k q3 hf
  · obtain ⟨b, rb, q1, q2, q3⟩ := hb _ hk
    rw [hm.var] at q3
    exact hrel.vF c l b rb (hm.vars ▸ hl) q2 q3
  · obtain ⟨b, rb, q1, q2, q3⟩ := hb k hk
    exact hrel.Flt b rb q2 k q3
  · obtain ⟨b, rb, q1, q2, q3⟩ := hb k hk
    exact hrel.Fown b rb q2 k q3
theorem madeCells_zero (n : Nat) : (Array.range n).map (fun x => ((#[] : Array Value)[x % (#[] : Array Value).size]!)) = madeCells #[] n := rfl
theorem Z5r {t u : TypeId} {n : Nat} {PV : Array (Nat × Value)} {i : TypeInfo} {z : Value} {cs' : Array Value} (u1 : P.underlying t = some (.slice u)) (u3 : P.info? u = some i) (z1 : i.zero = some z) (hlim : n * i.size ≤ 16777216)
    (hfill : Instr.fill (fun j => some (j * i.size, i.size)) (madeCells z.cells (n * i.size)) PV.toList = some cs') : (Instr.buildSlice t n PV).run P w = .ok (.slice (some ⟨w.heap.size, 0, none⟩) n n) { w with heap := w.heap.push (.cells cs' u (0, 0)) } := by
  have hn : ¬ (n * i.size > 2 ^ 24) := by omega
  by_cases hn0 : n * i.size = 0
  · rw [hn0] at hfill
    have hfill' : Instr.fill (fun j => some (j * i.size, i.size)) (#[] : Array Value) PV.toList = some cs' := by
      rw [← hfill]; congr 1; simp [madeCells, Array.range_zero']
    simp [Instr.buildSlice, run_underlying u1, Zav u3, hn0, hfill', Zjs, Array.range_zero']
  · have hzr : (zeroValue u).run P w = .ok z w := by simp [zeroValue, typeInfo, u3, z1]
    have hfill2 : Instr.fill (fun j => some (j * i.size, i.size)) ((Array.range (n * i.size)).map fun x => z.cells[x % z.cells.size]!) PV.toList = some cs' := hfill
    simp only [Instr.buildSlice, Sem.run_bind, run_underlying u1, Result.andThen_ok, Zav u3, if_neg hn, if_neg hn0, hzr, Sem.run_pure, hfill2, Zjs]
theorem Z9t {t : TypeId} {n : Nat} {ps : Array (Nat × Operand)} (hE : EnvOk P E) (ho : o.op = .buildSlice t n ps) (h : insts E o st k = some r) (hrel : Rel X C st a w) : Does P E X C st o a w k r := by
  simp only [insts, ho] at h
  obtain ⟨T, h2, -, hf⟩ := Ze7 hE h
  clear h
  have hM := Zg0 hf
  have hparts : (ps.map fun (i, x) => (i, a.eval x)).toList = ps.toList.map fun p => (p.1, a.eval p.2) := by simp
  have memo : ∀ {i : Nat} {x : Operand}, (i, x) ∈ ps.toList → (i, evD st x) ∈ ps.toList.map fun p => (p.1, evD st p.2) := fun h => List.mem_map.2 ⟨_, h, rfl⟩
  split at h2
  rotate_left
  · cases h2
  rename_i d b e hd
  split at h2
  rotate_left
  · cases h2
  rename_i hd9
  have hd9 : d < 500 := Nat.lt_of_succ_le (by simpa [Nat.blt] using hd9)
  rw [Z54] at h2
  split at h2
  rotate_left
  · cases h2
  rename_i hc
  simp only [Bool.and_eq_true] at hc
  obtain ⟨⟨hw, hp⟩, hlim⟩ := hc
  have hlim : n * e.size ≤ 16777216 := Nat.le_of_ble_eq_true hlim
  rw [Zc0] at h2
  obtain ⟨u, i, u1, u2, u3, u4, u5, u6⟩ := Ziy hM
  obtain ⟨z, z1, z2⟩ := Zx3 (Zsa hM u1 u3) hw
  have hz := Zed hw
  have hsz : n * i.size = n * (zeroV e).length := by rw [u4, hz]
  have hcells : (madeCells z.cells (n * i.size)).toList = (List.replicate n (zeroV e)).flatten := by
    apply List.ext_getElem?
    intro j
    rw [hsz, Array.getElem?_toList]
    by_cases hj : j < n * (zeroV e).length
    · exact Zain z2 n j hj
    · rw [Array.getElem?_eq_none (by rw [size_madeCells]; omega), List.getElem?_eq_none (by simp; omega)]
  have h0 : RAs C w (joinL (repL n (zeroL e))) (madeCells z.cells (n * i.size)).toList := by
    rw [hcells]
    have := Zhq (C := C) (w := w) (t := .arr n e) (Zed (t := .arr n e) hw)
    simpa only [zeroL, zeroV] using this
  have hl0 : (joinL (repL n (zeroL e))).length = n * e.size := by
    have := h0.length
    simp only [Array.length_toList, size_madeCells, u4] at this
    exact this.symm
  obtain ⟨cs', q1, q2, q3⟩ := Z72 (F := fun ps l => fillR e.size ps l) (place := fun j => some (j * i.size, i.size)) (pl := fun j => j * e.size) (n := n * e.size) (fun _ => rfl)
    (ps := ps.toList) (l := joinL (repL n (zeroL e))) (cs := madeCells z.cells (n * i.size)) (fun j x hm => by
      obtain ⟨f1, f2⟩ := Zsl hp _ _ (memo hm)
      refine ⟨e.size, by rw [u4], f2, ?_, fun _ _ => rfl⟩
      have : (j + 1) * e.size ≤ n * e.size := Nat.mul_le_mul_right _ f1
      rw [Nat.succ_mul] at this
      exact this) hrel hl0 h0
  have hcs : cs'.size = n * e.size := by have := q2.length; rw [Array.length_toList, q3] at this; exact this
  obtain ⟨xs, ms, l', vss, vs2, h2, e1, e2, hs', n1, n2, n3, hZ⟩ := Ztb (f := fun l c => takeK st true e l c) (Z := fun x m v => Taken w X C st a e x m v) (fun l c vs h hs => Zyb hrel (t := e) h hs) n _ _ _ h2 q2
  have hon := Zae1 h2
  have hon' : once (keys (srcs ms.flatten)) = true := by
    have := hon
    rw [e1, Zaw, Zal] at this
    exact (Zax this).1
  obtain ⟨OW, FZ, o1, o2, o3, o4⟩ := Zya hrel (by omega) (by omega) hZ hon'
  have o1' : Of C st (fillR e.size (ps.toList.map fun p => (p.1, evD st p.2)) (joinL (repL n (zeroL e)))) OW := by rw [e1]; exact o1.left
  have o2' : Of C st (fillR e.size (ps.toList.map fun p => (p.1, evD st p.2)) (joinL (repL n (zeroL e)))) FZ := by rw [e1]; exact o2.left
  obtain ⟨-, st', C', h2, hrel', hmv⟩ := Zrb (FZ := FZ) h2 hrel (fun _ => o2')
  have hlo := Zra hrel hmv o1' o3
  have hO : RepNO (α := e.den) (RepO w C'.I e) xs none vss.flatten OW := o4.imp (fun _ h => h) (fun _ _ _ _ _ q => q.frame (Zg _ _) (fun k hk => hk.elim (hmv.I1 k) (hmv.I2 k)) (Zg _ _) (fun _ h => h))
  rw [Zdf, ← hd, Zaa] at h2
  obtain ⟨C2, g1, g2⟩ := hrel'.freshRow' n d e xs n1 cs' u (0, 0) vss.flatten n OW hO (Nat.le_refl _) (by rw [hcs]; exact Nat.le_refl _) ⟨.inl (Nat.le_refl _), fun _ => Nat.le_refl _⟩ (fun j v hv => by
    rw [← Array.getElem?_toList, e2, List.getElem?_append_left (List.getElem?_eq_some_iff.1 hv).1]
    exact hv) hlo.I (fun c s _ hs => hlo.F c s hs) hlo.V hlo.lt hlo.own (X.lowR d (.inl hd9))
  refine Z4f (hrel.frmGrow (Grow.push _ _)) (v := .slice (some ⟨w.heap.size, 0, none⟩) n n) ?_ g1 g2 h2
  simp only [execOp, ho]
  refine run_v _ ?_
  exact Z5r u1 u3 z1 (by rw [u4]; exact hlim) (by rw [hparts]; exact q1)
end
end Go.Proofs.YtcpecilmkkmaiaaGreat.V
namespace Go.Proofs.YtcpecilmkkmaiaaGreat.V
open Go Go.RowKit
section
variable {P : Program} {E : Env} {X : Fix} {C C' : Ctx} {st st' : St} {a : Act} {w w' : World} {R : Type} {k : St → Option R} {r : R} {o : Oper} {Q : Exit → Act → World → Prop}
structure Poked (w w' : World) (b : Nat) (cs : Array Value) (et : TypeId) (fr : Nat × Nat) : Prop where
  os : w'.os = w.os
  tape : w'.tape = w.tape
  output : w'.output = w.output
  size : w'.heap.size = w.heap.size
  this : w'.heap[b]? = some (.cells cs et fr)
  same : ∀ k, k ≠ b → w'.heap[k]? = w.heap[k]?
theorem Zcd {b : Nat} {et : TypeId} {fr : Nat × Nat} : ∀ (vs : List Value) (o : Nat) (w : World) (cs : Array Value), w.heap[b]? = some (.cells cs et fr) → Poked w (w.setCells b o vs) b (sets cs.toList o vs).toArray et fr
  | [], o, w, cs, h => ⟨rfl, rfl, rfl, rfl, by simpa [sets, World.setCells] using h, fun _ _ => rfl⟩
  | v :: vs, o, w, cs, h => by
    have e := setCell_eq_setRow w b o cs et fr v h
    have h1 := setRow_heap w b cs (cs.setIfInBounds o v) et fr h
    have ih := Zcd vs (o + 1) (w.setRow b (cs.setIfInBounds o v)) _ h1
    rw [World.setCells, e]
    exact ⟨ih.os, ih.tape, ih.output, by rw [ih.size, setRow_size], by simpa [sets] using ih.this, fun k hk => (ih.same k hk).trans (setRow_other w b k _ hk)⟩
theorem Zpx {v : Value} (h : Ze5 v = true) : v.oneCell' = true := by cases v <;> first | rfl | (simp [Ze5] at h)
theorem Zfa {b off : Nat} {et : TypeId} {fr : Nat × Nat} {cs : Array Value} {vs : List Value} (h : w.heap[b]? = some (.cells cs et fr)) (hf : FrOk fr cs.size) (hl : off + vs.length ≤ cs.size) (h1 : ∀ v ∈ vs, Ze5 v = true) :
    ∃ w', (storeCells ⟨b, off, none⟩ vs).run P w = .ok () w' ∧ Poked w w' b (sets cs.toList off vs).toArray et fr := by
  refine ⟨w.setCells b off vs, ?_, Zcd vs off w cs h⟩
  exact run_storeCells_cells b off vs 0 w (fun j hj => by simp [World.cell?, h]; omega) (fun j hj => by
    obtain ⟨lo, hi⟩ := fr
    simp only [FrOk] at hf
    simp only [World.frozen?, h, Bool.and_eq_false_iff, decide_eq_false_iff_not]
    omega) (fun v hv => Zpx (h1 v hv))
theorem Poked.frm {b : Nat} {cs : Array Value} {et : TypeId} {fr : Nat × Nat} {tv tr : List Nat} (hp : Poked w w' b cs et fr) (hV : ∀ c l, look st.vars c = some l → c ∉ tv → (C.var c).1 ≠ b) (hF : ∀ c r, look st.rows c = some r → c ∉ tr → ¬ C.F c b) (hI : ¬ C.I b) : Frm C st w w' tv tr :=
  ⟨fun c l h hc => hp.same _ (hV c l h hc), fun c r h hc k hk => hp.same k (fun e => hF c r h hc (e ▸ hk)), fun k hk => hp.same k (fun e => hI (e ▸ hk))⟩
theorem Rel.poke {S : Zd} (hrel : Rel X C st a w) (hL : Loose X C st w S) {b : Nat} {cs : Array Value} {et : TypeId} {fr : Nat × Nat} (hb : S b) (hp : Poked w w' b cs et fr) : Rel X C st a w' := by
  have hi : Same C.I w w' := fun k hk => hp.same k (fun e => hL.I b hb (e ▸ hk))
  have hF : ∀ c r, look st.rows c = some r → Same (C.F c) w w' := fun c r e k hk => hp.same k (fun q => hL.F c r e b hb (q ▸ hk))
  have hS : ∀ c, Stays C C w w' c := fun c => ⟨rfl, fun _ => rfl, fun _ => rfl, fun ne => by
    cases e : look C.rows c with
    | none => exact absurd e ne
    | some r => exact hF c r (hrel.rowsEq ▸ e)⟩
  refine { hrel with
    tmps := fun i => (hrel.tmps i).frame hi (fun _ h => h) (fun b _ => hS b) (fun _ _ => rfl)
    vars := fun c l e => ?_
    rows := fun c r e => ?_
    Ilt := fun k hk => by rw [hp.size]; exact hrel.Ilt k hk
    Flt := fun c r e k hk => by rw [hp.size]; exact hrel.Flt c r e k hk
    frame := ?_ }
  · obtain ⟨vs, q, cs', et', fr', h1, h2⟩ := hrel.vars c l e
    exact ⟨vs, q.frame hi (fun _ h => h) (fun b _ => hS b) (fun _ _ => rfl), cs', et', fr', (hp.same (C.var c).1 (fun q => hL.V c l e (by rw [q]; exact hb))).trans h1, h2⟩
  · obtain ⟨h1, h2, h3⟩ := hrel.rows c r e
    have hFc := hF c r e
    exact ⟨h1, h2, h3.imp id fun ⟨ad, cs, et, fr, vs', G, e1, e2, e3, e4, e5, e6, e7, e8, e9, e10⟩ =>
      ⟨ad, cs, et, fr, vs', G, e1, e2, e3, e4, e5, (hFc _ e3).trans e6, e7, e8, e9.same (hFc _ e3), e10.imp (fun _ h => h) (fun _ _ _ _ sG r => r.frame hi (fun _ h => h) (hFc.sub (fun k hk => e5 k (sG k hk))) (fun _ h => h))⟩⟩
  · have hbo := hL.own b hb
    refine ⟨hp.os.trans hrel.frame.os, hp.tape.trans hrel.frame.tape, hp.output.trans hrel.frame.output, by rw [hp.size]; exact hrel.frame.size, fun k hk ho hr => ?_, fun k hk ho cs0 et0 fr0 e0 => ?_⟩
    · rw [hp.same k (fun e => ?_)]
      · exact hrel.frame.same k hk ho hr
      · subst e
        rcases hbo with hbo | hbo
        · exact ho hbo
        · omega
    · have hk : k ≠ b := fun e => by
        subst e
        rcases hbo with hbo | hbo
        · exact ho hbo
        · omega
      rw [hp.same k hk]
      exact hrel.frame.cells k ‹_› ho cs0 et0 fr0 e0
theorem Zo6 {I : Zd} : ∀ {t : Ty} {x : t.den} {vs : List Value}, RepS w I t x vs → ∀ v ∈ vs, Ze5 v = true
  | .int _, _, _, h | .bool, _, _, h | .str, _, _, h => by cases h; simp [Ze5]
  | .unit, _, _, h => by cases h; simp
  | .row _ _, _, _, ⟨_, _, _, h, _⟩ => by cases h; simp [Ze5]
  | .any, _, _, h => h.elim
  | .arr n e, xs, vs, ⟨_, h2⟩ => by
    have : ∀ {xs : List e.den} {vs : List Value}, RepN (RepS w I e) xs vs → ∀ v ∈ vs, Ze5 v = true := by
      intro xs
      induction xs with
      | nil => intro vs h; cases h; simp
      | cons x xs ih =>
        rintro vs ⟨v1, v2, rfl, h1, h2⟩ v hv
        rcases List.mem_append.1 hv with hv | hv
        · exact Zo6 h1 v hv
        · exact ih h2 v hv
    exact this h2
  | .pair b d, _, _, ⟨v1, v2, e, h1, h2⟩ => by
    subst e
    intro v hv
    rcases List.mem_append.1 hv with hv | hv
    · exact Zo6 h1 v hv
    · exact Zo6 h2 v hv
theorem Zsy {I : Zd} : ∀ {t : Ty} {x : t.den} {h : Option Path} {vs : List Value} {F : Zd}, RepO w I t x h vs F → ∀ v ∈ vs, Ze5 v = true
  | .int k, _, _, _, _, h => Zo6 (t := .int k) h
  | .bool, _, _, _, _, h => Zo6 (t := .bool) h
  | .str, _, _, _, _, h => Zo6 (t := .str) h
  | .unit, _, _, _, _, h => Zo6 (t := .unit) h
  | .arr n e, _, _, _, _, h => Zo6 (t := .arr n e) h
  | .any, _, _, _, _, h => Zo6 (t := .any) h
  | .row true _, _, _, _, _, ⟨_, _, _, h, _⟩ => by cases h; simp [Ze5]
  | .row false _, _, _, _, _, ⟨_, _, _, h, _⟩ => by cases h; simp [Ze5]
  | .pair b d, _, _, _, _, ⟨v1, v2, _, _, e, _, _, _, h1, h2⟩ => by
    subst e
    intro v hv
    rcases List.mem_append.1 hv with hv | hv
    · exact Zsy h1 v hv
    · exact Zsy h2 v hv
theorem Zun {I : Zd} {e : Ty} : ∀ {xs : List e.den} {h : Option Path} {vs : List Value} {F : Zd}, RepNO (RepO w I e) xs h vs F → ∀ v ∈ vs, Ze5 v = true
  | [], _, _, _, h => by cases h; simp
  | x :: xs, _, _, _, ⟨v1, v2, _, _, e, _, _, _, h1, h2⟩ => by
    subst e
    intro v hv
    rcases List.mem_append.1 hv with hv | hv
    · exact Zsy h1 v hv
    · exact Zun h2 v hv
theorem Z0v {α : Type} {R' : α → Option Path → List Value → Zd → Prop} : ∀ {xs ys : List α} {v1 v2 : List Value} {F G : Zd}, RepNO R' xs none v1 F → RepNO R' ys none v2 G → Dis F G → RepNO R' (xs ++ ys) none (v1 ++ v2) (fun k => F k ∨ G k)
  | [], ys, v1, v2, F, G, h, k, _ => by cases h; exact k.imp (fun _ h => .inr h) (fun _ _ _ _ _ h => h)
  | x :: xs, ys, _, v2, F, G, ⟨u1, u2, F1, F2, e, s1, s2, d, h1, h2⟩, k, hd => by
    subst e
    refine ⟨u1, u2 ++ v2, F1, fun k => F2 k ∨ G k, by simp, fun _ h => .inl (s1 _ h), fun k h => h.imp (s2 k) id, fun k q1 q2 => q2.elim (d k q1) (hd k (s1 k q1)), h1, ?_⟩
    exact Z0v h2 k (fun k q => hd k (s2 k q))
theorem Zy0 {I : Zd} : ∀ {t : Ty} {x : t.den} {vs : List Value}, t.plain = true → RepS w I t x vs → RepO w I t x none vs (fun _ => False)
  | .int k, _, _, _, h => h
  | .bool, _, _, _, h => h
  | .str, _, _, _, h => h
  | .unit, _, _, _, h => h
  | .arr n e, _, _, _, h => h
  | .any, _, _, _, h => h
  | .row true _, _, _, hp, _ => by cases hp
  | .row false _, _, _, _, h => h
  | .pair b d, _, _, hp, ⟨v1, v2, e, h1, h2⟩ => by
    simp only [Ty.plain, Bool.and_eq_true] at hp
    exact ⟨v1, v2, fun _ => False, fun _ => False, e, fun _ h => h, fun _ h => h, fun _ h => h.elim, Zy0 hp.1 h1, Zy0 hp.2 h2⟩
theorem Zyz {I : Zd} : ∀ {t : Ty} {x : t.den} {h : Option Path} {vs : List Value} {F : Zd}, t.plain = true → RepO w I t x h vs F → RepS w I t x vs
  | .int k, _, _, _, _, _, h => h
  | .bool, _, _, _, _, _, h => h
  | .str, _, _, _, _, _, h => h
  | .unit, _, _, _, _, _, h => h
  | .arr n e, _, _, _, _, _, h => h
  | .any, _, _, _, _, _, h => h
  | .row true _, _, _, _, _, hp, _ => by cases hp
  | .row false _, _, _, _, _, _, h => h
  | .pair b d, _, _, _, _, hp, ⟨v1, v2, _, _, e, _, _, _, h1, h2⟩ => by
    simp only [Ty.plain, Bool.and_eq_true] at hp
    exact ⟨v1, v2, e, Zyz hp.1 h1, Zyz hp.2 h2⟩
theorem Zh8 {I : Zd} {e : Ty} (he : e.plain = true) : ∀ {xs : List e.den} {vs : List Value}, RepN (RepS w I e) xs vs → RepNO (RepO w I e) xs none vs (fun _ => False)
  | [], _, h => h
  | _ :: _, _, ⟨v1, v2, e', h1, h2⟩ => ⟨v1, v2, fun _ => False, fun _ => False, e', fun _ h => h, fun _ h => h, fun _ h => h.elim, Zy0 he h1, Zh8 he h2⟩
theorem Zq7 {I : Zd} {e : Ty} (he : e.plain = true) : ∀ {xs : List e.den} {h : Option Path} {vs : List Value} {F : Zd}, RepNO (RepO w I e) xs h vs F → RepN (RepS w I e) xs vs
  | [], _, _, _, h => h
  | _ :: _, _, _, _, ⟨v1, v2, _, _, e', _, _, _, h1, h2⟩ => ⟨v1, v2, e', Zyz he h1, Zq7 he h2⟩
end
end Go.Proofs.YtcpecilmkkmaiaaGreat.V
namespace Go.Proofs.YtcpecilmkkmaiaaGreat.V
open Go Go.RowKit
section
variable {P : Program} {E : Env} {X : Fix} {C C' : Ctx} {st st' : St} {a : Act} {w w' : World} {R : Type} {k : St → Option R} {r : R} {o : Oper} {Q : Exit → Act → World → Prop}
theorem own_out {e : Ty} {b : Nat} {p : Path} {cut : Option (Nat × Nat)} {v : Value} {k' : List e.den → Option R} (hrel : Rel X C st a w) (h : Zg1 st true (.ref b p cut) (fun e' xs => if h : e' = e then k' (h ▸ xs) else none) = some r) (hx : RA C w (.ref b p cut) v) :
    ∃ xs a len cap F', k' xs = some r ∧ v = .slice a len cap ∧ ORow w (α := e.den) (RepO w C.I e) e.size xs none a len cap F' ∧ Of C st [.ref b p cut] F' := by
  simp only [Zg1] at h
  obtain ⟨rw, e', xs, h', F', H, hrw, h, hH, hC, hor, hF, hd, _⟩ := Zwd (k := fun e' xs => if h : e' = e then k' (h ▸ cutL xs cut) else none) hrel h hx
  split at h
  · rename_i he
    subst he
    rw [hd rfl] at hor
    obtain ⟨a', len, cap, hv, ho⟩ := hor.cut hC
    have hne : look st.rows b ≠ none := by rw [hrw]; simp
    exact ⟨cutL xs cut, a', len, cap, F', h, hv, ho, fun k hk => ⟨b, by simp [srcs, keys], hne, hF k hk⟩⟩
  · cases h
theorem Z0q {w1 : World} {ad : Addr} {vs : List Value} (hs : ad.spot = none) (h : Zu w ad.block ad.off vs) (hw : w1.heap = w.heap) : ∀ j v, vs[j]? = some v → w1.cell? (ad.add j) = some v := by
  intro j v hv
  have e : w1.cell? (ad.add j) = w.cell? (ad.add j) := by
    simp only [World.cell?, hw]
  rw [e, Zmv hs]
  exact Zad2 h j v hv
theorem Zajk {I : Zd} {e : Ty} {xs : List e.den} {ad : Option Addr} {len cap : Nat} (h : SRow w I (α := e.den) (RepS w I e) xs ad len cap) :
    ∃ vs, vs.length = len * e.size ∧ RepN (RepS w I e) xs vs ∧ ∀ w1 : World, w1.heap = w.heap → (Builtin.firstCells e.size len (.slice ad len cap)).run P w1 = .ok vs.toArray w1 := by
  obtain ⟨h1, h2, h3⟩ := h
  rcases h3 with h3 | ⟨ad', vs, e1, e2, e3, e4, e5⟩
  · subst h3
    have h1 : len = 0 := h1
    subst h1
    refine ⟨[], by simp, rfl, fun w1 _ => ?_⟩
    cases ad with
    | none => exact run_firstCells_none w1 _ _ _ _
    | some ad => exact run_firstCells_some w1 _ _ _ _ _ [] (by simp) (fun j v h => by simp at h)
  · subst e1
    have hl := e5.length (n := e.size) (fun _ _ h => h.length)
    refine ⟨vs, by rw [hl, h1], e5, fun w1 hw => run_firstCells_some w1 _ _ _ _ _ vs (by rw [hl, h1]) (Z0q e2 e4 hw)⟩
theorem Zabq {I F : Zd} {e : Ty} {xs : List e.den} {ad : Option Addr} {len cap : Nat} (h : ORow w (α := e.den) (RepO w I e) e.size xs none ad len cap F) :
    ∃ vs F', vs.length = len * e.size ∧ Sub F' F ∧ RepNO (RepO w I e) xs none vs F' ∧ (∀ w1 : World, w1.heap = w.heap → (Builtin.firstCells e.size len (.slice ad len cap)).run P w1 = .ok vs.toArray w1) ∧
      (cap = 0 ∨ ∃ ad' cs et fr, ad = some ad' ∧ ad'.spot = none ∧ F ad'.block ∧ ¬ F' ad'.block ∧ w.heap[ad'.block]? = some (.cells cs et fr) ∧ ad'.off + cap * e.size ≤ cs.size ∧ FrZ e.size fr cs.size ∧ Zu w ad'.block ad'.off vs) := by
  obtain ⟨h1, h2, h3⟩ := h
  rcases h3 with h3 | ⟨ad', cs, et, fr, vs, F', e1, e2, e3, e4, e5, e6, e7, e8, e9, e10⟩
  · subst h3
    have hlen : len = 0 := by omega
    subst hlen
    have : xs = [] := List.length_eq_zero_iff.1 h1.symm
    subst this
    refine ⟨[], fun _ => False, by simp, fun _ h => h.elim, rfl, fun w1 _ => ?_, .inl rfl⟩
    cases ad with
    | none => exact run_firstCells_none w1 _ _ _ _
    | some ad => exact run_firstCells_some w1 _ _ _ _ _ [] (by simp) (fun j v h => by simp at h)
  · subst e1
    have hl := e10.length (n := e.size) (fun _ _ _ _ h => h.length)
    exact ⟨vs, F', by rw [hl, h1], e5, e10, fun w1 hw => run_firstCells_some w1 _ _ _ _ _ vs (by rw [hl, h1]) (Z0q e2 e9 hw), .inr ⟨ad', cs, et, fr, rfl, e2, e3, e4, e6, e7, e8, e9⟩⟩
def NoInt (P : Program) (u : TypeId) : Prop := P.underlying u = some .string ∨ ∃ e, P.underlying u = some (.slice e)
theorem Zjt {ts : Array TypeId} {t u ty el : TypeId} {i : TypeInfo} {vals : Array Value} {x : Value} {base : Option Addr} {sLen sCap n : Nat} {news : List Value}
    (t0 : ts[0]? = some t) (t1 : ts[1]? = some u) (v0 : vals[0]? = some (.slice base sLen sCap)) (v1 : vals[1]? = some x) (ht : P.underlying t = some (.slice el)) (hi : P.info? el = some i) (hu : NoInt P u)
    (hlen : (Builtin.lenOf x).run P w = .ok n w) (hfc : (Builtin.firstCells i.size n x).run P w = .ok news.toArray w) (hroom : sLen + n ≤ sCap)
    (hst : ∀ ad, base = some ad → (storeCells (ad.add (sLen * i.size)) news).run P w = .ok () w') (hno : base = none → w' = w) :
    (Builtin.append_ ts ty vals).run P w = .ok (.slice base (sLen + n) sCap) w' := by
  cases base with
  | none =>
    obtain rfl := hno rfl
    rcases hu with hu | ⟨e, hu⟩
    · simp [Builtin.append_, t0, t1, v0, v1, run_underlying ht, run_underlying hu, sizeOf, typeInfo, hi, hlen, hfc, hroom]
    · simp [Builtin.append_, t0, t1, v0, v1, run_underlying ht, run_underlying hu, sizeOf, typeInfo, hi, hlen, hfc, hroom]
  | some ad =>
    have := hst ad rfl
    rcases hu with hu | ⟨e, hu⟩
    · simp [Builtin.append_, t0, t1, v0, v1, run_underlying ht, run_underlying hu, sizeOf, typeInfo, hi, hlen, hfc, hroom, this]
    · simp [Builtin.append_, t0, t1, v0, v1, run_underlying ht, run_underlying hu, sizeOf, typeInfo, hi, hlen, hfc, hroom, this]
theorem Zto {ts : Array TypeId} {t u ty el : TypeId} {i : TypeInfo} {z : Value} {vals : Array Value} {x : Value} {base : Option Addr} {sLen sCap n : Nat} {olds news : List Value}
    (t0 : ts[0]? = some t) (t1 : ts[1]? = some u) (v0 : vals[0]? = some (.slice base sLen sCap)) (v1 : vals[1]? = some x) (ht : P.underlying t = some (.slice el)) (hi : P.info? el = some i) (hz : i.zero = some z) (hu : NoInt P u)
    (hlen : (Builtin.lenOf x).run P w = .ok n w) (hfo : (Builtin.firstCells i.size sLen (.slice base sLen sCap)).run P w.drew = .ok olds.toArray w.drew) (hfc : (Builtin.firstCells i.size n x).run P w.drew = .ok news.toArray w.drew)
    (hg : ¬ sLen + n ≤ sCap) (h63 : sLen + n ≤ 9223372036854775807) (hfit : Builtin.nextslicecap (sLen + n) sCap * i.bytes ≤ 281474976710656) :
    (Builtin.append_ ts ty vals).run P w = .ok (.slice (some ⟨w.heap.size, 0, none⟩) (sLen + n) (grownCap w (sLen + n) sCap el))
      (w.drew.alloc (.cells (olds.toArray ++ news.toArray ++ Builtin.zeroCells z.cells (grownCap w (sLen + n) sCap el - (sLen + n))) el)) := by
  have h63' : ¬ (9223372036854775807 < ((sLen : Int) + (n : Int))) := by omega
  have h48' : ¬ (281474976710656 < Builtin.nextslicecap (sLen + n) sCap * i.bytes) := by omega
  rcases hu with hu | ⟨e, hu⟩
  · simp [Builtin.append_, t0, t1, v0, v1, run_underlying ht, run_underlying hu, sizeOf, typeInfo, zeroValue, hi, hz, hlen, hg, h63', h48', Question.forced, hfc, hfo, newRow, grownCap]
    congr 2
    apply Array.ext'
    simp [List.append_assoc]
  · simp [Builtin.append_, t0, t1, v0, v1, run_underlying ht, run_underlying hu, sizeOf, typeInfo, zeroValue, hi, hz, hlen, hg, h63', h48', Question.forced, hfc, hfo, newRow, grownCap]
    congr 2
    apply Array.ext'
    simp [List.append_assoc]
end
end Go.Proofs.YtcpecilmkkmaiaaGreat.V
namespace Go.Proofs.YtcpecilmkkmaiaaGreat.V
open Go Go.RowKit
section
variable {P : Program} {E : Env} {X : Fix} {C C' : Ctx} {st st' : St} {a : Act} {w w' : World} {R : Type} {k : St → Option R} {r : R} {o : Oper} {Q : Exit → Act → World → Prop}
theorem Loose.sub {S T : Zd} (h : Loose X C st w S) (hs : Sub T S) : Loose X C st w T :=
  ⟨fun k hk => h.I k (hs k hk), fun c r e k hk => h.F c r e k (hs k hk), fun c l e hk => h.V c l e (hs _ hk), fun k hk => h.lt k (hs k hk), fun k hk => h.own k (hs k hk)⟩
theorem Of.sub {m : List A} {S T : Zd} (h : Of C st m S) (hs : Sub T S) : Of C st m T := fun k hk => h k (hs k hk)
theorem Zag7 {e : Ty} {x : A} {v : Value} {f : List e.den → Option R} (hrel : Rel X C st a w) (hx : RA C w x v) (h : Zafx st e x f = some r) :
    ∃ ys n vsy G, f ys = some r ∧ n = ys.length ∧ (Builtin.lenOf v).run P w = .ok n w ∧ vsy.length = n * e.size ∧ RepNO (α := e.den) (RepO w C.I e) ys none vsy G ∧ ((∀ k, ¬ G k) ∨ (e.plain = false ∧ Of C st [x] G)) ∧
      ∀ w1 : World, w1.heap = w.heap → (Builtin.firstCells e.size n v).run P w1 = .ok vsy.toArray w1 := by
  unfold Zafx at h
  split at h
  · rename_i t
    split at h
    · have hx : v = .string t := hx
      subst hx
      refine ⟨bytesOf t, t.size, t.data.toList.map (fun b => Value.int .u8 b.toNat), fun _ => False, h, (show t.size = List.length (α := Int) (bytesOf t) by simp [bytesOf]), rfl, by rw [List.length_map]; exact (Nat.mul_one _).symm, Zv2 _, .inl fun _ h => h, fun w1 _ => ?_⟩
      have e1 : t.extract 0 t.size = t := by simp
      simp only [Builtin.firstCells, e1, Sem.run_pure]
      congr 1
      apply Array.ext'
      simp
    · cases h
  · have hx : v = .slice none 0 0 := hx
    subst hx
    exact ⟨[], 0, [], fun _ => False, h, rfl, rfl, by simp, rfl, .inl fun _ h => h, fun w1 _ => run_firstCells_none w1 _ _ _ _⟩
  · rename_i e' ys
    split at h
    · rename_i hp
      split at h
      · rename_i hsh
        obtain ⟨ad, len, cap, rfl, hs⟩ := hx
        have hs2 := hs.convL hsh
        obtain ⟨vs, q1, q2, q3⟩ := Zajk (P := P) hs2
        exact ⟨Go.Proofs.YtcpecilmkkmaiaaGreat.V.convL hsh ys, len, vs, fun _ => False, h, hs2.1, rfl, q1, Zh8 hp q2, .inl fun _ h => h, q3⟩
      · cases h
    · cases h
  · rename_i b p cut
    obtain ⟨ys, ad, len, cap, F', h, rfl, ho, hOf⟩ := own_out hrel h hx
    obtain ⟨vs, F2, q1, q2, q3, q4, q5⟩ := Zabq (P := P) ho
    cases hp : e.plain with
    | true => exact ⟨ys, len, vs, fun _ => False, h, ho.1, rfl, q1, Zh8 hp (Zq7 hp q3), .inl fun _ h => h, q4⟩
    | false => exact ⟨ys, len, vs, F2, h, ho.1, rfl, q1, q3, .inr ⟨rfl, hOf.sub q2⟩, q4⟩
  · cases h
theorem Zaeb {d : Nat} {e : Ty} {s x : A} {v : Value} (hrel : Rel X C st a w) (hs : RA C w s v) (h : Z0t st d e s x k = some r) :
    e.whole = true ∧ ∃ xs base sLen sCap F', v = .slice base sLen sCap ∧ ORow w (α := e.den) (RepO w C.I e) e.size xs none base sLen sCap F' ∧ Of C st [s] F' ∧ Zafx st e x (fun ys => goK st d e (if e.plain = true then [s] else [s, x]) k xs ys) = some r := by
  unfold Z0t at h
  split at h
  rotate_left
  · cases h
  rename_i hw
  refine ⟨hw, ?_⟩
  split at h
  · have hs : v = .slice none 0 0 := hs
    exact ⟨[], none, 0, 0, fun _ => False, hs, ⟨rfl, Nat.le_refl _, .inl rfl⟩, fun _ h => h.elim, h⟩
  · rename_i b p cut
    obtain ⟨xs, ad, len, cap, F', h, hv, ho, hOf⟩ := own_out (k' := fun xs => Zafx st e x (fun ys => goK st d e (if e.plain = true then [.ref b p cut] else [.ref b p cut, x]) k xs ys)) hrel h hs
    exact ⟨xs, ad, len, cap, F', hv, ho, hOf, h⟩
  · cases h
theorem Zahn {cs : List Value} {off : Nat} {vsx vsy : List Value} (h1 : ∀ i v, vsx[i]? = some v → cs[off + i]? = some v) (hl : off + vsx.length + vsy.length ≤ cs.length) :
    ∀ i v, (vsx ++ vsy)[i]? = some v → (sets cs (off + vsx.length) vsy)[off + i]? = some v := by
  intro i v hv
  rw [Zb9]
  by_cases hi : i < vsx.length
  · rw [if_neg (by omega)]
    rw [List.getElem?_append_left hi] at hv
    exact h1 i v hv
  · rw [List.getElem?_append_right (by omega)] at hv
    have := (List.getElem?_eq_some_iff.1 hv).1
    rw [if_pos (by omega), ← hv]
    congr 1
    omega
theorem Z0s {d : Nat} {e : Ty} {s x : A} {ts : Array TypeId} {t u ty : TypeId} {vals : Array Value} {vs0 vx : Value} {b : Bool} (hrel : Rel X C st a w) (hs : RA C w s vs0) (hx : RA C w x vx) (h : Z0t st d e s x k = some r)
    (t0 : ts[0]? = some t) (t1 : ts[1]? = some u) (v0 : vals[0]? = some vs0) (v1 : vals[1]? = some vx) (hM : fitsM P (.row b e) none t = true) (hu : NoInt P u) (hd9 : d < 500) :
    ∃ v w' st' C', (Builtin.append_ ts ty vals).run P w = .ok v w' ∧ Rel X C' st' a w' ∧ RA C' w' (.ref d [] none) v ∧ k (st'.put (some d) (.ref d [] none)) = some r ∧ ∀ tv, Frm C st w w' tv (keys (srcs [s])) := by
  obtain ⟨hw, xs, base, sLen, sCap, F', rfl, ho, hOf, h⟩ := Zaeb hrel hs h
  obtain ⟨ys, n, vsy, G, h, hn, hlen, hvy, hOy, hG, hfy⟩ := Zag7 (P := P) hrel hx h
  obtain ⟨vsx, F2, hvx, hsub, hOx, hfx, hblk⟩ := Zabq (P := P) ho
  obtain ⟨el, i, u1, u2, u3, u4, u5, u6⟩ := Ziy hM
  obtain ⟨z, z1, z2⟩ := Zx3 (Zsa hM u1 u3) hw
  have hz := Zed hw
  unfold goK at h
  obtain ⟨hlim, h⟩ := Zpa h
  have hlim : xs.length + ys.length ≤ limOf e := hlim
  have hlim2 := Zaio e
  have hon := Zae1 h
  have o1 : Of C st (if e.plain = true then [s] else [s, x]) F' := by
    split
    · exact hOf
    · exact hOf.left (n := [x])
  have o2 : Of C st (if e.plain = true then [s] else [s, x]) G := by
    rcases hG with hG | ⟨hp, hG⟩
    · exact fun k hk => absurd hk (hG k)
    · rw [if_neg (by rw [hp]; decide)]
      exact hG.right (m := [s])
  have hdis : Dis F' G := by
    rcases hG with hG | ⟨hp, hG⟩
    · exact fun k _ hk => hG k hk
    · rw [if_neg (by rw [hp]; decide)] at hon
      exact hOf.dis (m := [s]) (n := [x]) hrel hon hG
  obtain ⟨-, st', C', h, hrel', hmv⟩ := Zrb (FZ := fun _ => False) h hrel (fun _ _ h => h.elim)
  have hlo := Zra (OW := fun k => F' k ∨ G k) hrel hmv (o1.or o2) (fun _ _ h => h)
  rw [Zdf, Zaa] at h
  have hlx : sLen = xs.length := ho.1
  have hI : Sub C.I C'.I := hmv.I1
  have hO : RepNO (α := e.den) (RepO w C'.I e) (xs ++ ys) none (vsx ++ vsy) (fun k => F2 k ∨ G k) :=
    (Z0v hOx hOy (fun k h1 h2 => hdis k (hsub k h1) h2)).imp (fun _ h => h) (fun _ _ _ _ _ q => q.frame (Zg _ _) hI (Zg _ _) (fun _ h => h))
  by_cases hroom : sLen + n ≤ sCap
  · rcases hblk with hc0 | ⟨ad, cs, et, fr, rfl, e2, e3, e4, e6, e7, e8, e9⟩
    · subst hc0
      have hn0 : n = 0 := by omega
      have hs0 : sLen = 0 := by omega
      subst hn0; subst hs0
      have hy0 : vsy = [] := List.length_eq_zero_iff.1 (by omega)
      subst hy0
      have hrun := Zjt (w' := w) (ty := ty) t0 t1 v0 v1 u1 u3 hu hlen (by rw [u4]; exact hfy w rfl) hroom (fun ad _ => rfl) (fun _ => rfl)
      have hnew := hrel'.newRow d e (lapp xs ys) (base, 0, 0) (fun _ => False) ⟨by simp [lapp]; omega, Nat.le_refl _, .inl rfl⟩ (fun _ h => h.elim) (fun _ _ _ _ _ h => h.elim) (fun _ _ _ h => h) (fun _ h => h.elim) (fun _ h => h.elim) (fun H' q => by rw [X.lowR d (.inl hd9)] at q; cases q)
      exact ⟨_, _, _, _, hrun, hnew.1, hnew.2, h, fun _ => Frm.refl⟩
    · have hm : sLen * e.size + vsy.length ≤ sCap * e.size := by
        rw [hvy, ← Nat.add_mul]; exact Nat.mul_le_mul_right _ hroom
      obtain ⟨w', r1, r2⟩ := Zfa (P := P) (off := ad.off + sLen * e.size) (vs := vsy) e6 e8.1 (by omega) (Zun hOy)
      have hrun := Zjt (w' := w') (ty := ty) t0 t1 v0 v1 u1 u3 hu hlen (by rw [u4]; exact hfy w rfl) hroom (fun ad' q => by
        obtain rfl := Option.some.inj q
        rw [u4, Zmv e2, Z8b]; exact r1) (fun q => by cases q)
      have hrel2 := hrel'.poke hlo (.inl e3) r2
      have hadI : ¬ C'.I ad.block := fun q => hlo.I _ (.inl e3) q
      have hkb : ∀ k, F2 k ∨ G k → k ≠ ad.block := by
        rintro k (q | q) rfl
        · exact e4 q
        · exact hdis _ e3 q
      obtain ⟨cs9, et9, fr9, g1, g2, g3⟩ := e9
      rw [e6] at g1
      obtain ⟨rfl, rfl, rfl⟩ := by simpa using g1
      have hcell : Zu w' ad.block ad.off (vsx ++ vsy) := by
        refine ⟨_, _, _, r2.this, ?_, fun j v hv => ?_⟩
        · simp only [List.size_toArray, Zy, Array.length_toList, List.length_append]
          omega
        · have := Zahn (cs := cs.toList) (off := ad.off) (vsx := vsx) (vsy := vsy) (fun j v hv => by rw [Array.getElem?_toList]; exact g3 j v hv) (by simp only [Array.length_toList]; omega) j v hv
          rw [hvx] at this
          simpa using this
      have hnew := hrel2.newRow d e (lapp xs ys) (some ad, sLen + n, sCap) (fun k => F' k ∨ G k)
        ⟨by simp [lapp]; omega, hroom, .inr ⟨ad, _, _, _, vsx ++ vsy, fun k => F2 k ∨ G k, rfl, e2, .inl e3, fun q => hkb _ q rfl, fun k q => q.imp (hsub k) id, r2.this, by simpa [Zy] using e7, by simpa [Zy] using e8, hcell,
          hO.imp (fun _ h => h) (fun _ _ _ _ sG q => q.frame (fun k hk => r2.same k (fun e => hadI (e ▸ hk))) (fun _ h => h) (fun k hk => r2.same k (hkb k (sG k hk))) (fun _ h => h))⟩⟩
        hlo.I (fun c r _ e => hlo.F c r e) hlo.V (fun k hk => by rw [r2.size]; exact hlo.lt k hk) hlo.own (fun H' q => by rw [X.lowR d (.inl hd9)] at q; cases q)
      refine ⟨_, _, _, _, hrun, hnew.1, hnew.2, h, fun tv => r2.frm (fun c l hl _ e => ?_) (fun c r' hr hc hk => ?_) (fun hk => ?_)⟩
      · obtain ⟨b', q1, q2, q3⟩ := hOf _ e3
        cases eb : look st.rows b' with
        | none => exact q2 eb
        | some rb => exact hrel.vF c l b' rb hl eb (e ▸ q3)
      · obtain ⟨b', q1, q2, q3⟩ := hOf _ e3
        cases eb : look st.rows b' with
        | none => exact q2 eb
        | some rb => exact hrel.rdis b' c rb r' (fun q => hc (q ▸ q1)) eb hr _ q3 hk
      · exact hOf.I hrel _ e3 hk
  · have hb : (sLen + n) * i.bytes ≤ 140737488355328 := by
      exact Zae9 (by omega) u5
    have hrun := Zto (ty := ty) t0 t1 v0 v1 u1 u3 z1 hu hlen (by rw [u4]; exact hfx w.drew rfl) (by rw [u4]; exact hfy w.drew rfl) hroom (by omega) (growslice_fits (by omega) hb)
    have hlo2 : Loose X C' st' w (fun k => F2 k ∨ G k) := hlo.sub (fun k q => q.elim (fun q => .inl (hsub k q)) .inr)
    have hgr := hrel'.grow (Grow.drawn w (w.drawn + 1))
    have hcap : sLen + n ≤ grownCap w (sLen + n) sCap el := Nat.le_add_right _ _
    have hzs : z.cells.size = e.size := by rw [← Array.length_toList, z2, hz]
    obtain ⟨C2, g1, g2⟩ := hgr.freshRow' (sLen + n) d e (lapp xs ys) (by simp [lapp]; omega) (vsx.toArray ++ vsy.toArray ++ Builtin.zeroCells z.cells (grownCap w (sLen + n) sCap el - (sLen + n))) el (0, 0) (vsx ++ vsy) (grownCap w (sLen + n) sCap el) (fun k => F2 k ∨ G k)
      (hO.imp (fun _ h => h) (fun _ _ _ _ _ q => RepO.frame (w := w) (w' := { w with drawn := w.drawn + 1 }) (fun _ _ => rfl) (fun _ h => h) q (fun _ _ => rfl) (fun _ h => h))) hcap
      (by
        simp only [Array.size_append, List.size_toArray, size_zeroCells, hzs, hvx, hvy]
        rw [← Nat.add_mul, ← Nat.add_mul]
        exact Nat.mul_le_mul_right _ (by omega)) ⟨.inl (Nat.le_refl _), fun _ => Nat.le_refl _⟩ (fun j v hv => by
        have hj := (List.getElem?_eq_some_iff.1 hv).1
        rw [← Array.getElem?_toList]
        simp only [Array.toList_append]
        rw [List.getElem?_append_left (by simpa using hj)]
        exact hv)
      hlo2.I (fun c r _ e => hlo2.F c r e) hlo2.V hlo2.lt hlo2.own (X.lowR d (.inl hd9))
    exact ⟨_, _, _, _, hrun, g1, g2, h, fun tv => hrel.frmGrow ((Grow.drawn w (w.drawn + 1)).trans (Grow.push _ _))⟩
end
end Go.Proofs.YtcpecilmkkmaiaaGreat.V
namespace Go.Proofs.YtcpecilmkkmaiaaGreat.V
open Go Go.RowKit
section
variable {P : Program} {E : Env} {X : Fix} {C C' : Ctx} {st st' : St} {a : Act} {w w' : World} {R : Type} {k : St → Option R} {r : R} {o : Oper} {Q : Exit → Act → World → Prop}
theorem Zajj : ∀ {vss : List (List Value)} (i : Nat) (v : Value), (∀ u ∈ vss, u.length = 1) → vss[i]? = some [v] → vss.flatten[i]? = some v
  | u :: vss, 0, v, h, e => by simp at e; subst e; rfl
  | u :: vss, i + 1, v, h, e => by
    have hu := h u (List.mem_cons_self ..)
    obtain ⟨x, rfl⟩ := List.length_eq_one_iff.1 hu
    simp only [List.flatten_cons, List.singleton_append, List.getElem?_cons_succ] at e ⊢
    exact Zajj i v (fun u hu => h u (List.mem_cons_of_mem _ hu)) e
theorem leaf_RA {I : Zd} {e : Ty} {y : e.den} {vs : List Value} (he : e.leaf = true) (h : RepS w I e y vs) : ∃ v, vs = [v] ∧ RA C w (unflat e (pureL e y)) v := by
  cases e <;> simp only [Ty.leaf] at he <;> try (cases he; done)
  all_goals exact ⟨_, h, rfl⟩
theorem op_index {t : TypeId} {x ix : Operand} (hE : EnvOk P E) (ho : o.op = .index t x ix) (h : insts E o st k = some r) (hrel : Rel X C st a w) : Does P E X C st o a w k r := by
  simp only [insts, ho] at h
  obtain ⟨T, h2, -, hf⟩ := Ze7 hE h
  clear h
  have hM := Zg0 hf
  simp only [Zji] at h2
  have h1 := hrel.ev x
  have hi := hrel.ev ix
  have hrun : (execOp a.eval o) = (do pure (Next.value (← Instr.index t (a.eval x) (a.eval ix)))) := by simp only [execOp, ho]
  split at h2
  · rename_i s j n ex ei
    obtain ⟨⟨c1, c2⟩, h2⟩ := Zpa h2
    rw [Zaa] at h2
    rw [ex] at h1; rw [ei] at hi
    have h1 : a.eval x = .string s := h1
    have hi : a.eval ix = .int j n := hi
    have hlt : n.toNat < s.size := by
      have : slen s = s.size := rfl
      omega
    refine wp_st (x := .int .u8 (bt s n)) (v := .int .u8 (bt s n)) ?_ hrel rfl h2
    intro w1 hw1
    rw [hrun, h1, hi]
    refine run_v _ ?_
    have hb : bt s n = (s[n.toNat].toNat : Int) := by simp only [bt, dif_pos hlt]
    simp [Instr.index, run_underlying (Zme hM), asIntOf, c1, hlt, hb]
  · rename_i m e l j n ex ei
    split at h2
    rotate_left
    · cases h2
    rename_i hleaf
    rw [ex] at h1; rw [ei] at hi
    obtain ⟨vs, hv, hs⟩ := h1
    have hi : a.eval ix = .int j n := hi
    obtain ⟨xs, ms, l', vss, vs2, h2, e1, e2, hs', n1, n2, n3, hZ⟩ := Ztb (f := fun l c => takeK st false e l c) (Z := fun x m v => RepS w (JL C m) e x v) (fun l c vs h hs => Zta hrel (t := e) h hs) m l _ vs h2 hs
    obtain ⟨c1, h2⟩ := Zpa h2
    obtain ⟨y, hy, h2⟩ := Zhw h2
    have hy := Zaea hy
    rw [Zaa] at h2
    have hlt := (List.getElem?_eq_some_iff.1 hy).1
    have hms : ms[n.toNat]? = some ms[n.toNat] := List.getElem?_eq_getElem (by omega)
    have hvs : vss[n.toNat]? = some vss[n.toNat] := List.getElem?_eq_getElem (by omega)
    obtain ⟨v, v1, v2⟩ := leaf_RA (C := C) hleaf (hZ _ _ _ _ hy hms hvs)
    rw [v1] at hvs
    have hone : ∀ u ∈ vss, u.length = 1 := by
      intro u hu
      obtain ⟨i, hi, rfl⟩ := List.mem_iff_getElem.1 hu
      have q := hZ i xs[i] ms[i] vss[i] (List.getElem?_eq_getElem (by omega)) (List.getElem?_eq_getElem (by omega)) (List.getElem?_eq_getElem hi)
      rw [q.length]
      cases e <;> simp only [Ty.leaf] at hleaf <;> first | rfl | cases hleaf
    have hat : vs[n.toNat]? = some v := by
      have := Zajj _ _ hone hvs
      rw [e2, List.getElem?_append_left (List.getElem?_eq_some_iff.1 this).1]
      exact this
    obtain ⟨u, i, u1, u2, u3, u4⟩ := Zahe hM
    have hsz : e.size = 1 := by cases e <;> simp only [Ty.leaf] at hleaf <;> first | rfl | cases hleaf
    have hagg : e.isAgg = false := by cases e <;> simp only [Ty.leaf] at hleaf <;> first | rfl | cases hleaf
    refine wp_st (v := v) ?_ hrel v2 h2
    intro w1 hw1
    rw [hrun, hv, hi]
    refine run_v _ ?_
    have hnm : n < (m : Int) := by omega
    simp [Instr.index, run_underlying u1, asIntOf, c1, hnm, Zav u3, u4, hsz, part, Zha u2, hagg, hat]
  · cases h2
end
end Go.Proofs.YtcpecilmkkmaiaaGreat.V
namespace Go.Proofs.YtcpecilmkkmaiaaGreat.V
open Go Go.RowKit
section
variable {P : Program} {E : Env} {X : Fix} {C C' : Ctx} {st st' : St} {a : Act} {w w' : World} {R : Type} {k : St → Option R} {r : R} {o : Oper} {Q : Exit → Act → World → Prop}
theorem Rel.setVar (hrel : Rel X C st a w) {b : Nat} {l : List A} {q : Nat} {m : List A} {us vs : List Value} (hl : look st.vars b = some l) (hvs : RAs C w l vs) (hm : RAs C w m us) (hq : q + m.length ≤ l.length)
    {cs : Array Value} {et : TypeId} {fr : Nat × Nat} (hcs : w.heap[(C.var b).1]? = some (.cells cs et fr)) (hsz : (C.var b).2 + vs.length ≤ cs.size) (hfr : FrOk fr cs.size) (hat : ∀ i v, vs[i]? = some v → cs[(C.var b).2 + i]? = some v)
    (hp : Poked w w' (C.var b).1 (sets cs.toList ((C.var b).2 + q) us).toArray et fr) : Rel X C { st with vars := lay st.vars b (sets l q m) } a w' := by
  have hi : Same C.I w w' := fun k hk => hp.same k (fun e => hrel.vI b l hl (e ▸ hk))
  have hF : ∀ c r, look st.rows c = some r → Same (C.F c) w w' := fun c r e k hk => hp.same k (fun q => hrel.vF b l c r hl e (q ▸ hk))
  have hS : ∀ c, Stays C C w w' c := fun c => ⟨rfl, fun _ => rfl, fun _ => rfl, fun ne => by
    cases e : look C.rows c with
    | none => exact absurd e ne
    | some r => exact hF c r (hrel.rowsEq ▸ e)⟩
  have hfrm : ∀ {x : List A} {v : List Value}, RAs C w x v → RAs C w' x v := fun h => h.frame (C := C) (C' := C) hi (fun _ h => h) (fun b _ => hS b) (fun _ _ => rfl)
  have hvl := hvs.length
  have hml := hm.length
  have hvar : ∀ c n, look (lay st.vars b (sets l q m)) c = some n → (c = b ∧ n = sets l q m) ∨ (c ≠ b ∧ look st.vars c = some n) := by
    intro c n h
    simp only [Zao] at h
    split at h
    · rename_i q; exact .inl ⟨q.symm, (Option.some.inj h).symm⟩
    · rename_i q; exact .inr ⟨Ne.symm q, h⟩
  have hlen : ∀ c n, look (lay st.vars b (sets l q m)) c = some n → ∃ n', look st.vars c = some n' ∧ n'.length = n.length := by
    intro c n h
    rcases hvar c n h with ⟨rfl, rfl⟩ | ⟨_, h⟩
    · exact ⟨l, hl, by rw [Zy]⟩
    · exact ⟨n, h, rfl⟩
  refine {
    rowsEq := hrel.rowsEq
    defers := hrel.defers
    tlen := hrel.tlen
    tmps := fun i => (hrel.tmps i).frame hi (fun _ h => h) (fun b _ => hS b) (fun _ _ => rfl)
    vars := fun c n e => ?_
    vdis := fun c d n n' hcd h1 h2 he => ?_
    vI := fun c n h => ?_
    vF := fun c n d r h1 h2 => ?_
    rows := fun c r e => ?_
    rdis := hrel.rdis
    rI := hrel.rI
    Ilt := fun k hk => by rw [hp.size]; exact hrel.Ilt k hk
    Flt := fun c r e k hk => by rw [hp.size]; exact hrel.Flt c r e k hk
    Fown := hrel.Fown
    Vown := fun c n h i hi => ?_
    pinsR := hrel.pinsR
    pins := fun c L' hp hn => hrel.pins c L' hp (fun q => hn (by
      simp only [Zao]
      by_cases hc : b = c
      · subst hc; rw [hl] at q; cases q
      · rw [if_neg hc]; exact q))
    Iown := hrel.Iown
    frame := ?_ }
  · rcases hvar c n e with ⟨rfl, rfl⟩ | ⟨hc, e⟩
    · refine ⟨sets vs q us, (hfrm hvs).sets q (hfrm hm), _, _, _, hp.this, by simp [Zy]; omega, by simpa [Zy] using hfr, fun i v hv => ?_⟩
      rw [Zb9] at hv
      simp only [List.getElem?_toArray, Zb9, Array.length_toList]
      by_cases h1 : q ≤ i ∧ i < q + us.length ∧ i < vs.length
      · rw [if_pos h1] at hv
        rw [if_pos (by omega), ← hv]
        congr 1; omega
      · rw [if_neg h1] at hv
        have hi := (List.getElem?_eq_some_iff.1 hv).1
        rw [if_neg (by omega), Array.getElem?_toList]
        exact hat i v hv
    · obtain ⟨vs', h1, cs', et', fr', h2, h3, h4, h5⟩ := hrel.vars c n e
      refine ⟨vs', hfrm h1, ?_⟩
      by_cases hb : (C.var c).1 = (C.var b).1
      · exact absurd hb (hrel.vdis c b n l hc e hl)
      · exact ⟨cs', et', fr', (hp.same _ hb).trans h2, h3, h4, h5⟩
  · obtain ⟨n1, e1, l1⟩ := hlen c n h1
    obtain ⟨n2, e2, l2⟩ := hlen d n' h2
    exact hrel.vdis c d n1 n2 hcd e1 e2 he
  · obtain ⟨n1, e1, l1⟩ := hlen c n h
    exact hrel.vI c n1 e1
  · obtain ⟨n1, e1, l1⟩ := hlen c n h1
    exact hrel.vF c n1 d r e1 h2
  · obtain ⟨h1, h2, h3⟩ := hrel.rows c r e
    have hFc := hF c r e
    exact ⟨h1, h2, h3.imp id fun ⟨ad, cs, et, fr, vs', G, e1, e2, e3, e4, e5, e6, e7, e8, e9, e10⟩ =>
      ⟨ad, cs, et, fr, vs', G, e1, e2, e3, e4, e5, (hFc _ e3).trans e6, e7, e8, e9.same (hFc _ e3), e10.imp (fun _ h => h) (fun _ _ _ _ sG r => r.frame hi (fun _ h => h) (hFc.sub (fun k hk => e5 k (sG k hk))) (fun _ h => h))⟩⟩
  · obtain ⟨n1, e1, l1⟩ := hlen c n h
    exact hrel.Vown c n1 e1 i (by omega)
  · refine ⟨hp.os.trans hrel.frame.os, hp.tape.trans hrel.frame.tape, hp.output.trans hrel.frame.output, by rw [hp.size]; exact hrel.frame.size, fun k hk ho hr => ?_, fun k hk ho cs0 et0 fr0 e0 => ?_⟩
    · by_cases hkb : k = (C.var b).1
      · subst hkb
        rw [← hrel.frame.same _ hk ho hr, hp.this, hcs]
        cases us with
        | nil => simp [sets]
        | cons u us =>
          have hl0 : 0 < l.length := by simp at hml; omega
          rcases hrel.Vown b l hl 0 hl0 with h1 | h1
          · exact absurd h1 (hr _)
          · omega
      · rw [hp.same k hkb]; exact hrel.frame.same k hk ho hr
    · by_cases hkb : k = (C.var b).1
      · subst hkb
        obtain ⟨cs1, g1, g2, g3⟩ := hrel.frame.cells _ hk ho cs0 et0 fr0 e0
        rw [hcs] at g1
        obtain ⟨rfl, rfl, rfl⟩ := by simpa using g1
        refine ⟨_, hp.this, by simpa [Zy] using g2, fun i hi => ?_⟩
        simp only [List.getElem?_toArray, Zb9, Array.length_toList]
        rw [if_neg, Array.getElem?_toList]
        · exact g3 i hi
        · rintro ⟨q1, q2, q3⟩
          rcases hrel.Vown b l hl (i - (C.var b).2) (by omega) with h1 | h1
          · rw [show (C.var b).2 + (i - (C.var b).2) = i by omega] at h1
            exact hi h1
          · omega
      · rw [hp.same k hkb]; exact hrel.frame.cells k hk ho cs0 et0 fr0 e0
end
end Go.Proofs.YtcpecilmkkmaiaaGreat.V
namespace Go.Proofs.YtcpecilmkkmaiaaGreat.V
open Go Go.RowKit
section
variable {P : Program} {E : Env} {X : Fix} {C C' : Ctx} {st st' : St} {a : Act} {w w' : World} {R : Type} {k : St → Option R} {r : R} {o : Oper} {Q : Exit → Act → World → Prop}
def Zs1 (h : Option Path) (p : Path) : Prop := h = none ∨ ∃ q, h = some (p ++ q)
theorem Zs1.fst {h : Option Path} {p : Path} (k : Zs1 h (.fld 0 :: p)) : Zs1 (hF h) p ∧ hS h = none := by
  rcases k with rfl | ⟨q, rfl⟩
  · exact ⟨.inl rfl, rfl⟩
  · exact ⟨.inr ⟨q, rfl⟩, rfl⟩
theorem Zs1.snd {h : Option Path} {i : Nat} {p : Path} (k : Zs1 h (.fld (i + 1) :: p)) : hF h = none ∧ Zs1 (hS h) (.fld i :: p) := by
  rcases k with rfl | ⟨q, rfl⟩
  · exact ⟨rfl, .inl rfl⟩
  · exact ⟨rfl, .inr ⟨q, rfl⟩⟩
theorem Zs1.ne {h : Option Path} {s : Step} {p : Path} (k : Zs1 h (s :: p)) : h ≠ some [] := by
  rcases k with rfl | ⟨q, rfl⟩
  · exact fun e => by cases e
  · exact fun e => by cases e
theorem Zakf {I : Zd} {e : Ty} {p : Path} : ∀ {xs : List e.den} {h0 : Option Path} {i : Nat} {x : e.den} {vs : List Value} {F : Zd} {b o : Nat}, Zs1 h0 (.idx i :: p) → RepNO (RepO w I e) xs h0 vs F → xs[i]? = some x → Zu w b o vs →
    ∃ h1 v1 F1, Zs1 h1 p ∧ RepO w I e x h1 v1 F1 ∧ Sub F1 F ∧ Zu w b (o + i * e.size) v1 ∧ i * e.size + e.size ≤ vs.length ∧
      ∀ (w' : World) (x' : e.den) (v1' : List Value) (OW : Zd), RepO w' I e x' none v1' (fun k => F1 k ∨ OW k) → Zu w' b (o + i * e.size) v1' → Dis OW F → Same I w w' → (∀ k, F k → ¬ F1 k → w'.heap[k]? = w.heap[k]?) →
        (∀ o' us, Zu w b o' us → (o' + us.length ≤ o + i * e.size ∨ o + i * e.size + e.size ≤ o') → Zu w' b o' us) →
        ∃ vs', vs'.length = vs.length ∧ Zu w' b o vs' ∧ RepNO (RepO w' I e) (xs.set i x') none vs' (fun k => F k ∨ OW k)
  | [], h0, i, x, vs, F, b, o, hh, h, e1, hc => by simp at e1
  | x0 :: xs, h0, 0, x, vs, F, b, o, hh, ⟨v1, v2, F1, F2, e0, s1, s2, d, h1, h2⟩, e1, hc => by
    simp only [List.getElem?_cons_zero, Option.some.injEq] at e1
    subst e1; subst e0
    have hl := h1.length
    have hT : hT h0 = none := by rcases hh with rfl | ⟨q, rfl⟩ <;> rfl
    have hH : Zs1 (hH h0) p := by
      rcases hh with rfl | ⟨q, rfl⟩
      · exact .inl rfl
      · exact .inr ⟨q, rfl⟩
    rw [hT] at h2
    simp only [Nat.zero_mul, Nat.add_zero]
    refine ⟨_, v1, F1, hH, h1, s1, hc.left, by simp; omega, fun w' x' v1' OW g1 g2 g3 g4 g5 g6 => ?_⟩
    have hl' := g1.length
    refine ⟨v1' ++ v2, by simp; omega, g2.join ?_, v1', v2, fun k => F1 k ∨ OW k, F2, rfl, fun k q => q.imp (s1 k) id, fun k q => .inl (s2 k q), fun k q1 q2 => q1.elim (fun q => d k q q2) (fun q => g3 k q (s2 k q2)), g1, ?_⟩
    · rw [hl', ← hl]
      exact g6 _ _ hc.right (.inr (by omega))
    · exact h2.imp (fun _ h => h) (fun _ _ _ _ sG q => q.frame g4 (fun _ h => h) (fun k hk => g5 k (s2 k (sG k hk)) (fun q => d k q (sG k hk))) (fun _ h => h))
  | x0 :: xs, h0, i + 1, x, vs, F, b, o, hh, ⟨v1, v2, F1, F2, e0, s1, s2, d, h1, h2⟩, e1, hc => by
    subst e0
    have hl := h1.length
    have hH : hH h0 = none := by rcases hh with rfl | ⟨q, rfl⟩ <;> rfl
    have hT : Zs1 (hT h0) (.idx i :: p) := by
      rcases hh with rfl | ⟨q, rfl⟩
      · exact .inl rfl
      · exact .inr ⟨q, rfl⟩
    rw [hH] at h1
    obtain ⟨h', u1, G, q0, q1, q2, q3, q4, q5⟩ := Zakf hT h2 (by simpa using e1) hc.right
    have hoff : o + v1.length + i * e.size = o + (i + 1) * e.size := by rw [hl, Nat.succ_mul]; omega
    rw [hoff] at q3 q5
    refine ⟨h', u1, G, q0, q1, fun k q => s2 k (q2 k q), q3, by simp only [List.length_append]; rw [Nat.succ_mul]; omega, fun w' x' v1' OW g1 g2 g3 g4 g5 g6 => ?_⟩
    obtain ⟨vs', l1, l2, l3⟩ := q5 w' x' v1' OW g1 g2 (fun k q1 q2 => g3 k q1 (s2 k q2)) g4 (fun k q1 q2 => g5 k (s2 k q1) q2) g6
    have hv1 : Zu w' b o v1 := g6 _ _ hc.left (.inl (by rw [Nat.succ_mul]; omega))
    refine ⟨v1 ++ vs', by simp only [List.length_append]; omega, hv1.join l2, v1, vs', F1, fun k => F2 k ∨ OW k, rfl, fun k q => .inl (s1 k q), fun k q => q.imp (s2 k) id, fun k q1 q2 => q2.elim (fun q => d k q1 q) (fun q => g3 k q (s1 k q1)), ?_, l3⟩
    exact h1.frame g4 (fun _ h => h) (fun k hk => g5 k (s1 k hk) (fun q => d k hk (q2 k q))) (fun _ h => h)
theorem Zu6 {b : Nat} {off : Nat} {et : TypeId} {fr : Nat × Nat} {cs : Array Value} {us : List Value} (h : w.heap[b]? = some (.cells cs et fr)) (hp : Poked w w' b (sets cs.toList off us).toArray et fr) {c o' : Nat} {vs : List Value} (hc : Zu w c o' vs)
    (hr : c = b → o' + vs.length ≤ off ∨ off + us.length ≤ o') : Zu w' c o' vs := by
  by_cases hcb : c = b
  · subst hcb
    obtain ⟨cs', et', fr', h1, h2, h3⟩ := hc
    rw [h] at h1
    obtain ⟨rfl, rfl, rfl⟩ := by simpa using h1
    refine ⟨_, _, _, hp.this, by simpa [Zy] using h2, fun i v hv => ?_⟩
    have hi := (List.getElem?_eq_some_iff.1 hv).1
    have := hr rfl
    simp only [List.getElem?_toArray, Zb9, Array.length_toList]
    rw [if_neg (by omega), Array.getElem?_toList]
    exact h3 i v hv
  · exact hc.same (hp.same c hcb)
theorem Zahz {b : Nat} {off : Nat} {et : TypeId} {fr : Nat × Nat} {cs : Array Value} {us : List Value} (hl : off + us.length ≤ cs.size) (hp : Poked w w' b (sets cs.toList off us).toArray et fr) : Zu w' b off us := by
  refine ⟨_, _, _, hp.this, by simpa [Zy] using hl, fun i v hv => ?_⟩
  have hi := (List.getElem?_eq_some_iff.1 hv).1
  simp only [List.getElem?_toArray, Zb9, Array.length_toList]
  rw [if_pos (by omega), ← hv]
  congr 1; omega
def SetOk (w : World) (I : Zd) (R : Type) (r : R) (t' : Ty) (y : t'.den) (us : List Value) (OW : Zd) (T : Ty) : Prop :=
  ∀ (x : T.den) (p : Path) (k : T.den → Option R) (vs : List Value) (F : Zd) (L : Nat × Nat) (h0 : Option Path), Zs1 h0 p → setK T x p t' y k = some r → RepO w I T x h0 vs F → Zu w L.1 L.2 vs → ¬ F L.1 → ¬ I L.1 → Dis F I → Dis OW F → ¬ OW L.1 → Dis OW I →
    (∃ cs et fr, w.heap[L.1]? = some (.cells cs et fr) ∧ FrOk fr cs.size) →
    ∃ (x' : T.den) (M : Nat × Nat) (cs : Array Value) (et : TypeId) (fr : Nat × Nat), k x' = some r ∧ w.heap[M.1]? = some (.cells cs et fr) ∧ FrOk fr cs.size ∧ M.2 + us.length ≤ cs.size ∧ (M.1 = L.1 ∧ L.2 ≤ M.2 ∧ M.2 + us.length ≤ L.2 + vs.length ∨ F M.1) ∧ (∀ G : Zd, Sub F G → G L.1 → Res w G T p L M t') ∧
      ∀ w', Poked w w' M.1 (sets cs.toList M.2 us).toArray et fr → ∃ vs', vs'.length = vs.length ∧ Zu w' L.1 L.2 vs' ∧ RepO w' I T x' none vs' (fun k => F k ∨ OW k)
theorem Zpv {I : Zd} {t' : Ty} {y : t'.den} {us : List Value} {OW F : Zd} {L : Nat × Nat} {vs : List Value} (hy : RepO w I t' y none us OW) (hl : vs.length = t'.size) (hc : Zu w L.1 L.2 vs) (hLI : ¬ I L.1) (hOL : ¬ OW L.1) (hcs : ∃ cs et fr, w.heap[L.1]? = some (.cells cs et fr) ∧ FrOk fr cs.size) :
    ∃ (cs : Array Value) (et : TypeId) (fr : Nat × Nat), w.heap[L.1]? = some (.cells cs et fr) ∧ FrOk fr cs.size ∧ L.2 + us.length ≤ cs.size ∧ (L.1 = L.1 ∧ L.2 ≤ L.2 ∧ L.2 + us.length ≤ L.2 + vs.length ∨ F L.1) ∧
      ∀ w', Poked w w' L.1 (sets cs.toList L.2 us).toArray et fr → ∃ vs', vs'.length = vs.length ∧ Zu w' L.1 L.2 vs' ∧ RepO w' I t' y none vs' (fun k => F k ∨ OW k) := by
  obtain ⟨cs, et, fr, h1, h2⟩ := hcs
  obtain ⟨cs', et', fr', g1, g2, g3⟩ := hc
  rw [h1] at g1
  obtain ⟨rfl, rfl, rfl⟩ := by simpa using g1
  have hul := hy.length
  refine ⟨cs, et, fr, h1, h2, by omega, .inl ⟨rfl, Nat.le_refl _, by omega⟩, fun w' hp => ⟨us, by omega, Zahz (by omega) hp, ?_⟩⟩
  exact hy.frame (fun k hk => hp.same k (fun e => hLI (e ▸ hk))) (fun _ h => h) (fun k hk => hp.same k (fun e => hOL (e ▸ hk))) (fun _ h => .inr h)
theorem row_set {I : Zd} {t' : Ty} {y : t'.den} {us : List Value} {OW : Zd} {e : Ty} (ih : SetOk w I R r t' y us OW e) {xs : List e.den} {x : e.den} {i : Nat} {p : Path} {ad : Option Addr} {len cap : Nat} {F : Zd} {k : List e.den → Option R} {h0 : Option Path} (hh : Zs1 h0 (.idx i :: p))
    (ho : ORow w (α := e.den) (RepO w I e) e.size xs h0 ad len cap F) (hx : at? (α := e.den) xs i = some x) (h : setK e x p t' y (fun x' => k (lset xs i x')) = some r) (hFI : Dis F I) (hOF : Dis OW F) (hOI : Dis OW I) :
    ∃ (x' : e.den) (M : Nat × Nat) (cs : Array Value) (et : TypeId) (fr : Nat × Nat), k (lset xs i x') = some r ∧ w.heap[M.1]? = some (.cells cs et fr) ∧ FrOk fr cs.size ∧ M.2 + us.length ≤ cs.size ∧ F M.1 ∧
      (∃ ad', ad = some ad' ∧ ad'.spot = none ∧ F ad'.block ∧ ∀ G : Zd, Sub F G → Res w G e p (ad'.block, ad'.off + i * e.size) M t') ∧
      ∀ w', Poked w w' M.1 (sets cs.toList M.2 us).toArray et fr → ORow w' (α := e.den) (RepO w' I e) e.size (lset xs i x') none ad len cap (fun k => F k ∨ OW k) := by
  have hx := Zaea hx
  have hi := (List.getElem?_eq_some_iff.1 hx).1
  obtain ⟨h1, h2, h3⟩ := ho
  rcases h3 with h3 | ⟨ad', cs, et, fr, vs, F', rfl, e2, e3, e4, e5, e6, e7, e8, e9, e10⟩
  · omega
  obtain ⟨h', v1, F1, q0, q1, q2, q3, q4, q5⟩ := Zakf hh e10 hx e9
  have hv1 := q1.length
  obtain ⟨x', M, cs2, et2, fr2, g1, g2, g3, g4, g5, g6, g7⟩ := ih _ _ _ _ _ (ad'.block, ad'.off + i * e.size) _ q0 h q1 q3 (fun q => e4 (q2 _ q)) (fun q => hFI _ e3 q) (fun k q => hFI k (e5 k (q2 k q))) (fun k u q => hOF k u (e5 k (q2 k q))) (fun q => hOF _ q e3) hOI ⟨cs, et, fr, e6, e8.1⟩
  have hMF : F M.1 := by
    rcases g5 with ⟨g5, _⟩ | g5
    · rw [g5]; exact e3
    · exact e5 _ (q2 _ g5)
  refine ⟨x', M, cs2, et2, fr2, g1, g2, g3, g4, hMF, ⟨ad', rfl, e2, e3, fun G hG => g6 G (fun k q => hG k (e5 k (q2 k q))) (hG _ e3)⟩, fun w' hp => ?_⟩
  obtain ⟨v1', l1, l2, l3⟩ := g7 w' hp
  have hsame : ∀ k, F' k → ¬ F1 k → w'.heap[k]? = w.heap[k]? := fun k q1' q2' => hp.same k (fun e => by
    subst e
    rcases g5 with ⟨g5, _⟩ | g5
    · simp only at g5; rw [g5] at q1'; exact e4 q1'
    · exact q2' g5)
  obtain ⟨vs', m1, m2, m3⟩ := q5 w' x' v1' OW l3 l2 (fun k u q => hOF k u (e5 k q)) (fun k hk => hp.same k (fun e => hFI _ hMF (e ▸ hk))) hsame (fun o' us' hc hr => Zu6 g2 hp hc (fun e => by
    rcases g5 with ⟨g5, g51, g52⟩ | g5
    · simp only at g51 g52
      omega
    · exact absurd (q2 _ g5) (by rw [← e]; exact e4)))
  have hblk : ∃ cs', w'.heap[ad'.block]? = some (.cells cs' et fr) ∧ cs'.size = cs.size := by
    by_cases hb : ad'.block = M.1
    · rw [hb] at e6
      rw [e6] at g2
      obtain ⟨rfl, rfl, rfl⟩ := by simpa using g2
      exact ⟨_, by rw [hb]; exact hp.this, by simp [Zy]⟩
    · exact ⟨cs, (hp.same _ hb).trans e6, rfl⟩
  obtain ⟨cs', b1, b2⟩ := hblk
  exact ⟨by simp [lset, h1], h2, .inr ⟨ad', cs', et, fr, vs', fun k => F' k ∨ OW k, rfl, e2, .inl e3, fun q => q.elim e4 (fun q => hOF _ q e3), fun k q => q.imp (e5 k) id, b1, by rw [b2]; exact e7, by rw [b2]; exact e8, m2, m3⟩⟩
theorem Zxq {I : Zd} {t' : Ty} {y : t'.den} {us : List Value} {OW : Zd} (hy : RepO w I t' y none us OW) : ∀ T : Ty, SetOk w I R r t' y us OW T
  | .pair b d => by
    intro x p k vs F L h0 hh h hr hc hFL hLI hFI hOF hOL hOI hcs
    obtain ⟨v1, v2, F1, F2, e0, s1, s2, hd, h1, h2⟩ := hr
    subst e0
    have hl1 := h1.length
    match p, hh, h with
    | [], hh, h =>
      simp only [setK] at h
      split at h
      · rename_i he
        subst he
        obtain ⟨cs, et, fr, g1, g2, g3, g4, g5⟩ := Zpv (F := F) (vs := v1 ++ v2) hy (by rw [List.length_append, hl1, h2.length]; rfl) hc hLI hOL hcs
        exact ⟨_, L, cs, et, fr, h, g1, g2, g3, g4, fun G _ _ => ⟨rfl, rfl⟩, g5⟩
      · cases h
    | .fld 0 :: p, hh, h =>
      simp only [setK] at h
      obtain ⟨hh1, hh2⟩ := hh.fst
      rw [hh2] at h2
      obtain ⟨x', M, cs, et, fr, g1, g2, g3, g4, g5, g6, g7⟩ := Zxq hy b _ _ _ _ _ L _ hh1 h h1 hc.left (fun q => hFL (s1 _ q)) hLI (fun k q => hFI k (s1 k q)) (fun k u q => hOF k u (s1 k q)) hOL hOI hcs
      refine ⟨(x', x.2), M, cs, et, fr, g1, g2, g3, g4, g5.imp (fun ⟨q1, q2, q3⟩ => ⟨q1, q2, by simp only [List.length_append]; omega⟩) (s1 _), fun G hG hL => g6 G (fun k q => hG k (s1 k q)) hL, fun w' hp => ?_⟩
      obtain ⟨v1', l1, l2, l3⟩ := g7 w' hp
      have hM2 : ¬ F2 M.1 := fun q => g5.elim (fun u => hFL (by rw [← u.1]; exact s2 _ q)) (fun u => hd _ u q)
      refine ⟨v1' ++ v2, by simp only [List.length_append]; omega, l2.join ?_, v1', v2, fun k => F1 k ∨ OW k, F2, rfl, fun k q => q.imp (s1 k) id, fun k q => .inl (s2 k q), fun k q1 q2 => q1.elim (fun q => hd k q q2) (fun q => hOF k q (s2 k q2)), l3, ?_⟩
      · rw [l1]
        exact Zu6 g2 hp hc.right (fun e => by
          rcases g5 with ⟨u1, u2, u3⟩ | u
          · right; omega
          · exact absurd (s1 _ u) (by rw [← e]; exact hFL))
      · refine h2.frame (fun k hk => hp.same k (fun e => ?_)) (fun _ h => h) (fun k hk => hp.same k (fun e => hM2 (e ▸ hk))) (fun _ h => h)
        subst e
        exact g5.elim (fun u => hLI (by rw [← u.1]; exact hk)) (fun u => hFI _ (s1 _ u) hk)
    | .fld (i + 1) :: p, hh, h =>
      simp only [setK] at h
      obtain ⟨hh1, hh2⟩ := hh.snd
      rw [hh1] at h1
      obtain ⟨x', M, cs, et, fr, g1, g2, g3, g4, g5, g6, g7⟩ := Zxq hy d _ _ _ _ _ (L.1, L.2 + v1.length) _ hh2 h h2 hc.right (fun q => hFL (s2 _ q)) hLI (fun k q => hFI k (s2 k q)) (fun k u q => hOF k u (s2 k q)) hOL hOI hcs
      refine ⟨(x.1, x'), M, cs, et, fr, g1, g2, g3, g4, g5.imp (fun ⟨q1, q2, q3⟩ => ⟨q1, by simp only at q2; omega, by simp only [List.length_append]; simp only at q3; omega⟩) (s2 _), fun G hG hL => by rw [hl1] at g6; exact g6 G (fun k q => hG k (s2 k q)) hL, fun w' hp => ?_⟩
      obtain ⟨v2', l1, l2, l3⟩ := g7 w' hp
      have hM1 : ¬ F1 M.1 := fun q => g5.elim (fun u => hFL (by have := u.1; simp only at this; rw [← this]; exact s1 _ q)) (fun u => hd _ q u)
      refine ⟨v1 ++ v2', by simp only [List.length_append]; omega, Zu.join ?_ l2, v1, v2', F1, fun k => F2 k ∨ OW k, rfl, fun k q => .inl (s1 k q), fun k q => q.imp (s2 k) id, fun k q1 q2 => q2.elim (fun q => hd k q1 q) (fun q => hOF k q (s1 k q1)), ?_, l3⟩
      · exact Zu6 g2 hp hc.left (fun e => by
          rcases g5 with ⟨u1, u2, u3⟩ | u
          · left; simp only at u2; omega
          · exact absurd (s2 _ u) (by rw [← e]; exact hFL))
      · refine h1.frame (fun k hk => hp.same k (fun e => ?_)) (fun _ h => h) (fun k hk => hp.same k (fun e => hM1 (e ▸ hk))) (fun _ h => h)
        subst e
        exact g5.elim (fun u => hLI (by have := u.1; simp only at this; rw [← this]; exact hk)) (fun u => hFI _ (s2 _ u) hk)
    | .idx i :: p, hh, h => simp only [setK] at h; cases h
  | .row true e => by
    intro x p k vs F L h0 hh h hr hc hFL hLI hFI hOF hOL hOI hcs
    match p, hh, h with
    | [], hh, h =>
      simp only [setK] at h
      split at h
      · rename_i he
        subst he
        obtain ⟨cs, et, fr, g1, g2, g3, g4, g5⟩ := Zpv (F := F) hy hr.length hc hLI hOL hcs
        exact ⟨_, L, cs, et, fr, h, g1, g2, g3, g4, fun G _ _ => ⟨rfl, rfl⟩, g5⟩
      · cases h
    | .idx i :: p, hh, h =>
      simp only [setK] at h
      obtain ⟨ad, len, cap, hv, ho⟩ := hr
      subst hv
      rcases ho with ho | ho
      · exact (hh.ne ho).elim
      obtain ⟨x0, hx0, h⟩ := Zhw h
      obtain ⟨x', M, cs, et, fr, g1, g2, g3, g4, g5, ⟨ad', rfl, g61, g62, g63⟩, g7⟩ := row_set (Zxq hy e) hh ho hx0 h hFI hOF hOI
      refine ⟨_, M, cs, et, fr, g1, g2, g3, g4, .inr g5, fun G hG hL => ⟨ad', len, cap, hc.cell, g61, hL, g63 G hG⟩, fun w' hp => ⟨_, rfl, hc.same (hp.same _ (fun e => hFL (by rw [e]; exact g5))), ?_⟩⟩
      exact ⟨some ad', len, cap, rfl, .inr (g7 w' hp)⟩
    | .fld i :: p, hh, h => simp only [setK] at h; cases h
  | .row false e => by
    intro x p k vs F L h0 hh h hr hc hFL hLI hFI hOF hOL hOI hcs
    match p, hh, h with
    | [], hh, h =>
      simp only [setK] at h
      split at h
      · rename_i he
        subst he
        obtain ⟨cs, et, fr, g1, g2, g3, g4, g5⟩ := Zpv (F := F) hy hr.length hc hLI hOL hcs
        exact ⟨_, L, cs, et, fr, h, g1, g2, g3, g4, fun G _ _ => ⟨rfl, rfl⟩, g5⟩
      · cases h
    | _ :: _, hh, h => simp only [setK] at h; cases h
  | .int _ => by
    intro x p k vs F L h0 hh h hr hc hFL hLI hFI hOF hOL hOI hcs
    match p, hh, h with
    | [], hh, h =>
      simp only [setK] at h
      split at h
      · rename_i he
        subst he
        obtain ⟨cs, et, fr, g1, g2, g3, g4, g5⟩ := Zpv (F := F) hy hr.length hc hLI hOL hcs
        exact ⟨_, L, cs, et, fr, h, g1, g2, g3, g4, fun G _ _ => ⟨rfl, rfl⟩, g5⟩
      · cases h
    | _ :: _, hh, h => simp only [setK] at h; cases h
  | .bool => by
    intro x p k vs F L h0 hh h hr hc hFL hLI hFI hOF hOL hOI hcs
    match p, hh, h with
    | [], hh, h =>
      simp only [setK] at h
      split at h
      · rename_i he
        subst he
        obtain ⟨cs, et, fr, g1, g2, g3, g4, g5⟩ := Zpv (F := F) hy hr.length hc hLI hOL hcs
        exact ⟨_, L, cs, et, fr, h, g1, g2, g3, g4, fun G _ _ => ⟨rfl, rfl⟩, g5⟩
      · cases h
    | _ :: _, hh, h => simp only [setK] at h; cases h
  | .str => by
    intro x p k vs F L h0 hh h hr hc hFL hLI hFI hOF hOL hOI hcs
    match p, hh, h with
    | [], hh, h =>
      simp only [setK] at h
      split at h
      · rename_i he
        subst he
        obtain ⟨cs, et, fr, g1, g2, g3, g4, g5⟩ := Zpv (F := F) hy hr.length hc hLI hOL hcs
        exact ⟨_, L, cs, et, fr, h, g1, g2, g3, g4, fun G _ _ => ⟨rfl, rfl⟩, g5⟩
      · cases h
    | _ :: _, hh, h => simp only [setK] at h; cases h
  | .arr _ _ => by
    intro x p k vs F L h0 hh h hr hc hFL hLI hFI hOF hOL hOI hcs
    match p, hh, h with
    | [], hh, h =>
      simp only [setK] at h
      split at h
      · rename_i he
        subst he
        obtain ⟨cs, et, fr, g1, g2, g3, g4, g5⟩ := Zpv (F := F) hy hr.length hc hLI hOL hcs
        exact ⟨_, L, cs, et, fr, h, g1, g2, g3, g4, fun G _ _ => ⟨rfl, rfl⟩, g5⟩
      · cases h
    | _ :: _, hh, h => simp only [setK] at h; cases h
  | .unit => by
    intro x p k vs F L h0 hh h hr hc hFL hLI hFI hOF hOL hOI hcs
    match p, hh, h with
    | [], hh, h =>
      simp only [setK] at h
      split at h
      · rename_i he
        subst he
        obtain ⟨cs, et, fr, g1, g2, g3, g4, g5⟩ := Zpv (F := F) hy hr.length hc hLI hOL hcs
        exact ⟨_, L, cs, et, fr, h, g1, g2, g3, g4, fun G _ _ => ⟨rfl, rfl⟩, g5⟩
      · cases h
    | _ :: _, hh, h => simp only [setK] at h; cases h
  | .any => by
    intro x p k vs F L h0 hh h hr hc hFL hLI hFI hOF hOL hOI hcs
    exact hr.elim
end
end Go.Proofs.YtcpecilmkkmaiaaGreat.V
namespace Go.Proofs.YtcpecilmkkmaiaaGreat.V
open Go Go.RowKit
theorem Zic (b : Nat) : ∀ l : List A, (Zbh b l).length = l.length
  | [] => rfl
  | _ :: l => by simp [Zbh, Zic b l]
theorem Zzw (b : Nat) : ∀ (l : List A) (i : Nat), getL (Zbh b l) i = Zea b (getL l i)
  | [], _ => by simp [Zbh, getL, Zea]
  | _ :: _, 0 => rfl
  | _ :: l, i + 1 => Zzw b l i
theorem Z7z {w w' : World} {F F' : Zd} : ∀ {t : Ty} {p : Path} {L M : Nat × Nat} {u : Ty}, flds p = true → Res w F t p L M u → Res w' F' t p L M u
  | .pair a b, [], _, _, _, _, r => r
  | .pair a b, .fld 0 :: p, _, _, _, h, r => Z7z (t := a) (p := p) h r
  | .pair a b, .fld (i + 1) :: p, _, _, _, h, r => Z7z (t := b) (p := .fld i :: p) h r
  | .pair a b, .idx i :: p, _, _, _, h, _ => by cases h
  | .row true e, [], _, _, _, _, r => r
  | .row true e, .idx i :: p, _, _, _, h, _ => by cases h
  | .row true e, .fld i :: p, _, _, _, _, r => r.elim
  | .row false _, [], _, _, _, _, r => r
  | .int _, [], _, _, _, _, r => r
  | .bool, [], _, _, _, _, r => r
  | .str, [], _, _, _, _, r => r
  | .arr _ _, [], _, _, _, _, r => r
  | .unit, [], _, _, _, _, r => r
  | .any, [], _, _, _, _, r => r
theorem Zp0 (l m : List A) : leaves (l ++ m) = (leaves l && leaves m) := by
  induction l with
  | nil => rfl
  | cons x l ih => simp [leaves, ih, Bool.and_assoc]
theorem Zuj {R : Type} {r : R} : ∀ {t : Ty} {x : t.den} {p : Path} {k : (u : Ty) → u.den → Option R}, getK t x p k = some r → ∃ u y, k u y = some r
  | .pair b d, x, [], k, h => ⟨_, _, h⟩
  | .pair b d, x, .fld 0 :: p, k, h => Zuj (t := b) (p := p) h
  | .pair b d, x, .fld (i + 1) :: p, k, h => Zuj (t := d) (p := .fld i :: p) h
  | .pair b d, x, .idx i :: p, k, h => by simp only [getK] at h; cases h
  | .row true e, x, [], k, h => ⟨_, _, h⟩
  | .row true e, x, .idx i :: p, k, h => by
    simp only [getK] at h
    obtain ⟨y, _, h⟩ := Zhw h
    exact Zuj (t := e) h
  | .row true e, x, .fld i :: p, k, h => by simp only [getK] at h; cases h
  | .row false e, x, p, k, h => by cases p <;> simp only [getK] at h; exact ⟨_, _, h⟩; cases h
  | .int _, x, p, k, h => by cases p <;> simp only [getK] at h; exact ⟨_, _, h⟩; cases h
  | .bool, x, p, k, h => by cases p <;> simp only [getK] at h; exact ⟨_, _, h⟩; cases h
  | .str, x, p, k, h => by cases p <;> simp only [getK] at h; exact ⟨_, _, h⟩; cases h
  | .arr _ _, x, p, k, h => by cases p <;> simp only [getK] at h; exact ⟨_, _, h⟩; cases h
  | .unit, x, p, k, h => by cases p <;> simp only [getK] at h; exact ⟨_, _, h⟩; cases h
  | .any, x, p, k, h => by cases p <;> simp only [getK] at h; exact ⟨_, _, h⟩; cases h
def Ctx.setR (C : Ctx) (b : Nat) (r : Rw) (OW : Zd) : Ctx := { C with F := fun c => if c = b then (fun k => C.F b k ∨ OW k) else C.F c, rows := lay C.rows b r }
mutual
theorem RA.setR {C : Ctx} {w w' : World} {b : Nat} {e : Ty} {xs ys : List e.den} {g : Option Path} {OW : Zd} (hb : look C.rows b = some ⟨e, xs, g⟩) (hi : Same C.I w w') (hF : ∀ c r, c ≠ b → look C.rows c = some r → Same (C.F c) w w') :
    ∀ {x : A} {v : Value}, RA C w x v → RA (C.setR b ⟨e, ys, none⟩ OW) w' (Zea b x) v
  | .int _ _, _, h => h
  | .bool _, _, h => h
  | .str _, _, h => h
  | .nil, _, h => h
  | .row e xs, v, h => by
    obtain ⟨a, len, cap, hv, k⟩ := h
    exact ⟨a, len, cap, hv, SRow.imp hi (fun _ h => h) (fun _ _ h => RepS.frame hi (fun _ h => h) h) k⟩
  | .ref c q cut, v, h => by
    unfold Zea
    split
    · exact trivial
    · rename_i hk
      refine ⟨h.1, fun r hr => ?_⟩
      simp only [Ctx.setR, Zao] at hr
      by_cases hc : b = c
      · subst hc
        rw [if_pos rfl] at hr
        obtain rfl := Option.some.inj hr
        have hq : q = [] := by
          cases q with
          | nil => rfl
          | cons s q => simp [isNil] at hk
        subst hq
        obtain ⟨H, sz, h1, h2⟩ := h.2 _ hb
        exact ⟨H, sz, h1, h2⟩
      · rw [if_neg hc] at hr
        obtain ⟨H, sz, h1, h2⟩ := h.2 _ hr
        refine ⟨H, sz, ?_, h2⟩
        simp only [Ctx.setR, if_neg (Ne.symm hc)]
        exact h1.same (hF c r (Ne.symm hc) hr)
  | .vptr b o, v, h => h
  | .rptr c q, v, h => by
    unfold Zea
    split
    · exact trivial
    · rename_i hk
      refine ⟨h.1, fun r hr => ?_⟩
      simp only [Ctx.setR, Zao] at hr
      by_cases hc : b = c
      · subst hc
        rw [if_pos rfl] at hr
        obtain rfl := Option.some.inj hr
        obtain ⟨M, u, h1, h2⟩ := h.2 _ hb
        refine ⟨M, u, ?_, h2⟩
        match q, h1, hk with
        | .idx i :: p, ⟨ad, e1, e2, e3, e4⟩, hk =>
          simp only [Nat.beq_refl, Bool.true_and, shallow, Bool.not_eq_true', Bool.not_eq_false] at hk
          refine ⟨ad, e1, e2, ?_, Z7z hk e4⟩
          simp only [Ctx.setR, if_true]
          exact .inl e3
      · rw [if_neg hc] at hr
        obtain ⟨M, u, h1, h2⟩ := h.2 _ hr
        refine ⟨M, u, ?_, h2⟩
        simp only [Ctx.setR, if_neg (Ne.symm hc)]
        exact h1.same (hF c r (Ne.symm hc) hr)
  | .sptr t x, v, h => by
    obtain ⟨ad, vs, h1, h2, h3, h4, h5⟩ := h
    exact ⟨ad, vs, h1, h2, h3, h4.same (hi _ h3), h5.frame hi (fun _ h => h)⟩
  | .fn f l, v, ⟨vs, h1, h2⟩ => ⟨vs, h1, h2.setR hb hi hF⟩
  | .agg l, v, ⟨vs, h1, h2⟩ => ⟨vs, h1, h2.setR hb hi hF⟩
  | .tup l, v, ⟨vs, h1, h2⟩ => ⟨vs, h1, h2.setR hb hi hF⟩
  | .dead, _, _ => trivial
theorem RAs.setR {C : Ctx} {w w' : World} {b : Nat} {e : Ty} {xs ys : List e.den} {g : Option Path} {OW : Zd} (hb : look C.rows b = some ⟨e, xs, g⟩) (hi : Same C.I w w') (hF : ∀ c r, c ≠ b → look C.rows c = some r → Same (C.F c) w w') :
    ∀ {x : List A} {v : List Value}, RAs C w x v → RAs (C.setR b ⟨e, ys, none⟩ OW) w' (Zbh b x) v
  | [], _, h => h
  | _ :: _, _, ⟨v, vs', e1, h1, h2⟩ => ⟨v, vs', e1, h1.setR hb hi hF, h2.setR hb hi hF⟩
end
def Zch (st : St) (b : Nat) (r : Rw) : St := killD { st with rows := lay st.rows b r } b
section
variable {P : Program} {E : Env} {X : Fix} {C C' : Ctx} {st st' : St} {a : Act} {w w' : World} {R : Type} {k : St → Option R} {r : R} {o : Oper} {Q : Exit → Act → World → Prop}
theorem Rel.setRow (hrel : Rel X C st a w) {b : Nat} {e : Ty} {xs ys : List e.den} {g : Option Path} {OW : Zd} (hb : look st.rows b = some ⟨e, xs, g⟩) (hL : Loose X C st w OW) {cb : Nat} {cs : Array Value} {et : TypeId} {fr : Nat × Nat} (hM : C.F b cb) (hp : Poked w w' cb cs et fr)
    (ho : ORow w' (α := e.den) (RepO w' C.I e) e.size ys none (C.hdr b).1 (C.hdr b).2.1 (C.hdr b).2.2 (fun k => C.F b k ∨ OW k)) : Rel X (C.setR b ⟨e, ys, none⟩ OW) (Zch st b ⟨e, ys, none⟩) a w' := by
  have hb' : look C.rows b = some ⟨e, xs, g⟩ := by rw [hrel.rowsEq]; exact hb
  have hi : Same C.I w w' := fun k hk => hp.same k (fun q => hrel.rI b _ hb cb hM (q ▸ hk))
  have hF : ∀ c r, c ≠ b → look C.rows c = some r → Same (C.F c) w w' := fun c r hc hr k hk => hp.same k (fun q => hrel.rdis b c _ r (Ne.symm hc) hb (by rw [← hrel.rowsEq]; exact hr) cb hM (q ▸ hk))
  have hvar : ∀ c m, look (Zch st b ⟨e, ys, none⟩).vars c = some m → ∃ l, look st.vars c = some l ∧ m = Zbh b l := by
    intro c m h
    simp only [Zch, killD, Zcp] at h
    cases q : look st.vars c with
    | none => rw [q] at h; cases h
    | some l => rw [q] at h; exact ⟨l, rfl, (Option.some.inj h).symm⟩
  have hrow : ∀ c r, look (Zch st b ⟨e, ys, none⟩).rows c = some r → (c = b ∧ r = ⟨e, ys, none⟩) ∨ (c ≠ b ∧ look st.rows c = some r) := by
    intro c r h
    simp only [Zch, killD, Zao] at h
    split at h
    · rename_i q; exact .inl ⟨q.symm, (Option.some.inj h).symm⟩
    · rename_i q; exact .inr ⟨Ne.symm q, h⟩
  refine {
    rowsEq := by simp only [Ctx.setR, Zch, killD, hrel.rowsEq]
    defers := hrel.defers
    tlen := by simp only [Zch, killD, Zic, hrel.tlen]
    tmps := fun i => by simp only [Zch, killD, Zzw]; exact (hrel.tmps i).setR hb' hi hF
    vars := fun c m h => ?_
    vdis := fun c d l m hcd h1 h2 he => ?_
    vI := fun c m h => ?_
    vF := fun c m d r h1 h2 => ?_
    rows := fun c r h => ?_
    rdis := fun c d r s hcd h1 h2 => ?_
    rI := fun c r h => ?_
    Ilt := fun k hk => by rw [hp.size]; exact hrel.Ilt k hk
    Flt := fun c r h k hk => ?_
    Fown := fun c r h k hk => ?_
    Vown := fun c m h i hi => ?_
    pinsR := fun c H' hp hn => hrel.pinsR c H' hp (fun q => hn (by
      simp only [Zch, killD, Zao]
      split
      · rename_i hc
        subst hc
        rw [hb] at q; cases q
      · exact q))
    pins := fun c L hp hn => hrel.pins c L hp (fun q => hn (by simp only [Zch, killD, Zcp, q]; rfl))
    Iown := hrel.Iown
    frame := ?_ }
  · obtain ⟨l, q, rfl⟩ := hvar c m h
    obtain ⟨vs, h1, cs', et', fr', h2, h3⟩ := hrel.vars c l q
    exact ⟨vs, h1.setR hb' hi hF, cs', et', fr', (hp.same (C.var c).1 (fun u => hrel.vF c l b _ q hb (by rw [u]; exact hM))).trans h2, h3⟩
  · obtain ⟨l', q, rfl⟩ := hvar c l h1
    obtain ⟨m', q', rfl⟩ := hvar d m h2
    exact hrel.vdis c d l' m' hcd q q' he
  · obtain ⟨l, q, rfl⟩ := hvar c m h
    exact hrel.vI c l q
  · obtain ⟨l, q, rfl⟩ := hvar c m h1
    rcases hrow d r h2 with ⟨rfl, rfl⟩ | ⟨hd, h2⟩
    · simp only [Ctx.setR, if_true]
      exact fun u => u.elim (hrel.vF c l d _ q hb) (hL.V c l q)
    · simp only [Ctx.setR, if_neg hd]; exact hrel.vF c l d r q h2
  · rcases hrow c r h with ⟨rfl, rfl⟩ | ⟨hc, h⟩
    · simp only [Ctx.setR, if_true]; exact ho
    · simp only [Ctx.setR, if_neg hc]
      have hFc := hF c r hc (by rw [hrel.rowsEq]; exact h)
      obtain ⟨h1, h2, h3⟩ := hrel.rows c r h
      exact ⟨h1, h2, h3.imp id fun ⟨ad, cs, et, fr, vs', G, e1, e2, e3, e4, e5, e6, e7, e8, e9, e10⟩ =>
        ⟨ad, cs, et, fr, vs', G, e1, e2, e3, e4, e5, (hFc _ e3).trans e6, e7, e8, e9.same (hFc _ e3), e10.imp (fun _ h => h) (fun _ _ _ _ sG r => r.frame hi (fun _ h => h) (hFc.sub (fun k hk => e5 k (sG k hk))) (fun _ h => h))⟩⟩
  · rcases hrow c r h1 with ⟨rfl, rfl⟩ | ⟨hc, h1⟩ <;> rcases hrow d s h2 with ⟨rfl, rfl⟩ | ⟨hd, h2⟩
    · exact absurd rfl hcd
    · simp only [Ctx.setR, if_true, if_neg hd]
      exact fun k q1 q2 => q1.elim (fun q1 => hrel.rdis _ _ _ _ hcd hb h2 k q1 q2) (fun q1 => hL.F d s h2 k q1 q2)
    · simp only [Ctx.setR, if_true, if_neg hc]
      exact fun k q1 q2 => q2.elim (fun q2 => hrel.rdis _ _ _ _ hcd ‹look st.rows c = some r› hb k q1 q2) (fun q2 => hL.F c r ‹look st.rows c = some r› k q2 q1)
    · simp only [Ctx.setR, if_neg hc, if_neg hd]; exact hrel.rdis c d r s hcd h1 h2
  · rcases hrow c r h with ⟨rfl, rfl⟩ | ⟨hc, h⟩
    · simp only [Ctx.setR, if_true]; exact fun k q1 q2 => q1.elim (fun q1 => hrel.rI _ _ hb k q1 q2) (fun q1 => hL.I k q1 q2)
    · simp only [Ctx.setR, if_neg hc]; exact hrel.rI c r h
  · rw [hp.size]
    rcases hrow c r h with ⟨rfl, rfl⟩ | ⟨hc, h⟩
    · simp only [Ctx.setR, if_true] at hk; exact hk.elim (hrel.Flt _ _ hb k) (hL.lt k)
    · simp only [Ctx.setR, if_neg hc] at hk; exact hrel.Flt c r h k hk
  · rcases hrow c r h with ⟨rfl, rfl⟩ | ⟨hc, h⟩
    · simp only [Ctx.setR, if_true] at hk; exact hk.elim (hrel.Fown _ _ hb k) (hL.own k)
    · simp only [Ctx.setR, if_neg hc] at hk; exact hrel.Fown c r h k hk
  · obtain ⟨l, q, rfl⟩ := hvar c m h
    exact hrel.Vown c l q i (by simpa only [Zic] using hi)
  · have hbo := hrel.Fown b _ hb cb hM
    refine ⟨hp.os.trans hrel.frame.os, hp.tape.trans hrel.frame.tape, hp.output.trans hrel.frame.output, by rw [hp.size]; exact hrel.frame.size, fun k hk ho hr => ?_, fun k hk ho cs0 et0 fr0 e0 => ?_⟩
    · rw [hp.same k (fun e => by subst e; rcases hbo with hbo | hbo; exact ho hbo; omega)]
      exact hrel.frame.same k hk ho hr
    · rw [hp.same k (fun e => by subst e; rcases hbo with hbo | hbo; exact ho hbo; omega)]
      exact hrel.frame.cells k hk ho cs0 et0 fr0 e0
theorem Zacw : ∀ {p q : Path} {k : Option R}, plugK p q k = some r → (∃ s, q = p ++ s) ∧ k = some r
  | [], q, k, h => ⟨⟨q, rfl⟩, h⟩
  | .fld i :: p, .fld j :: q, k, h => by
    simp only [plugK] at h
    split at h
    · rename_i e
      have e := Nat.eq_of_beq_eq_true e
      subst e
      obtain ⟨⟨s, rfl⟩, h2⟩ := Zacw h
      exact ⟨⟨s, rfl⟩, h2⟩
    · cases h
  | .idx i :: p, .idx j :: q, k, h => by
    simp only [plugK] at h
    obtain ⟨e, h3⟩ := Zpa h
    have e : i = j := by omega
    subst e
    obtain ⟨⟨s, rfl⟩, h2⟩ := Zacw h3
    exact ⟨⟨s, rfl⟩, h2⟩
  | .fld _ :: _, .idx _ :: _, k, h => by simp only [plugK] at h; cases h
  | .idx _ :: _, .fld _ :: _, k, h => by simp only [plugK] at h; cases h
  | .fld _ :: _, [], k, h => by simp only [plugK] at h; cases h
  | .idx _ :: _, [], k, h => by simp only [plugK] at h; cases h
theorem hole_out {h0 : Option Path} {p : Path} {k : Option R} (h : holeK h0 p k = some r) : Zs1 h0 p ∧ k = some r := by
  cases h0 with
  | none => exact ⟨.inl rfl, h⟩
  | some q =>
    obtain ⟨⟨s, hs⟩, h2⟩ := Zacw h
    exact ⟨.inr ⟨s, by rw [hs]⟩, h2⟩
theorem Zye {b : Nat} {p : Path} {t : Ty} {x : t.den} {v : Value} {us : List Value} {OW : Zd} (hrel : Rel X C st a w) (h : Zxk st b p t x k = some r) (hv : RA C w (.rptr b p) v) (hy : RepO w C.I t x none us OW) (hL : Loose X C st w OW) :
    ∃ (e : Ty) (xs ys : List e.den) (M : Nat × Nat) (cs : Array Value) (et : TypeId) (fr : Nat × Nat), (∃ g, look st.rows b = some ⟨e, xs, g⟩) ∧ k (Zch st b ⟨e, ys, none⟩) = some r ∧ v = .pointer (some ⟨M.1, M.2, none⟩) ∧ w.heap[M.1]? = some (.cells cs et fr) ∧ FrOk fr cs.size ∧ M.2 + us.length ≤ cs.size ∧ C.F b M.1 ∧
      ∀ w', Poked w w' M.1 (sets cs.toList M.2 us).toArray et fr → Rel X (C.setR b ⟨e, ys, none⟩ OW) (Zch st b ⟨e, ys, none⟩) a w' := by
  unfold Zxk at h
  split at h
  rotate_left
  · cases h
  rename_i e xs g hb
  have hb' : look C.rows b = some ⟨e, xs, g⟩ := by rw [hrel.rowsEq]; exact hb
  obtain ⟨hh, h⟩ := hole_out h
  obtain ⟨M, u, h1, h2⟩ := hv.2 _ hb'
  match p, hh, h1, h with
  | .idx i :: p, hh, ⟨ad, e1, e2, e3, e4⟩, h =>
    simp only [setK, Zcz] at h
    obtain ⟨x0, hx0, h⟩ := Zhw h
    have ho := hrel.rows b _ hb
    obtain ⟨x', M', cs, et, fr, g1, g2, g3, g4, g5, ⟨ad', g61, g62, g63, g64⟩, g7⟩ := row_set (k := fun ys => k (killD { st with rows := lay st.rows b ⟨e, ys, none⟩ } b)) (Zxq hy e) hh ho hx0 h (hrel.rI b _ hb) (hL.F b _ hb) hL.I
    rw [e1] at g61
    obtain rfl := Option.some.inj g61
    obtain ⟨hMM, -⟩ := (g64 (C.F b) (fun _ h => h)).one e4
    subst hMM
    exact ⟨e, xs, _, M', cs, et, fr, ⟨_, hb⟩, g1, h2, g2, g3, g4, g5, fun w' hp => hrel.setRow hb hL g5 hp (g7 w' hp)⟩
theorem Z8m {α : Type} {f : List A → (α → List A → Option R) → Option R} (hf : ∀ l c, f l c = some r → ∃ x m l', c x l' = some r ∧ l = m ++ l' ∧ leaves m = true) :
    ∀ (n : Nat) (l : List A) (c : List α → List A → Option R), takeN f n l c = some r → ∃ x m l', c x l' = some r ∧ l = m ++ l' ∧ leaves m = true
  | 0, l, c, h => ⟨[], [], l, h, rfl, rfl⟩
  | n + 1, l, c, h => by
    simp only [takeN] at h
    obtain ⟨x, m, l', h, e1, e2⟩ := hf _ _ h
    obtain ⟨xs, m', l'', h, e3, e4⟩ := Z8m hf n l' _ h
    exact ⟨x :: xs, m ++ m', l'', h, by rw [e1, e3]; simp, by rw [Zp0, e2, e4]; rfl⟩
theorem Zxj {own : Bool} : ∀ {t : Ty} {l : List A} {c : t.den → List A → Option R}, takeK st own t l c = some r → ∃ x m l', c x l' = some r ∧ l = m ++ l' ∧ leaves m = true
  | .int k, l, c, h => by
    simp only [takeK] at h
    split at h
    · split at h
      · exact ⟨_, [_], _, h, rfl, rfl⟩
      · cases h
    · cases h
  | .bool, l, c, h => by
    simp only [takeK] at h
    split at h
    · exact ⟨_, [_], _, h, rfl, rfl⟩
    · cases h
  | .str, l, c, h => by
    simp only [takeK] at h
    split at h
    · exact ⟨_, [_], _, h, rfl, rfl⟩
    · cases h
  | .row o e, l, c, h => by
    simp only [takeK] at h
    split at h
    · exact ⟨_, [_], _, h, rfl, rfl⟩
    · split at h
      · cases h
      · split at h
        · exact ⟨_, [_], _, h, rfl, rfl⟩
        · cases h
    · rename_i b p cut l
      have key : ∀ {f : (e' : Ty) → List e'.den → Option R}, Zg1 st true (.ref b p cut) f = some r → ∃ e' xs, f e' xs = some r := by
        intro f h
        simp only [Zg1, rowK, if_true] at h
        split at h
        · cases h
        · split at h
          · obtain ⟨t, x, h⟩ := Zuj h
            split at h
            · exact ⟨_, _, h⟩
            · cases h
          · split at h
            · cases h
            · obtain ⟨t, x, h⟩ := Zuj h
              split at h
              · exact ⟨_, _, h⟩
              · cases h
      obtain ⟨e', xs, h⟩ := key h
      split at h
      · split at h
        · exact ⟨_, [_], _, h, rfl, rfl⟩
        · split at h
          · cases h
          · split at h
            · exact ⟨_, [_], _, h, rfl, rfl⟩
            · cases h
      · split at h
        · exact ⟨_, [_], _, h, rfl, rfl⟩
        · cases h
    · cases h
  | .arr n e, l, c, h => by
    simp only [takeK] at h
    exact Z8m (fun l c h => Zxj (t := e) h) n l c h
  | .pair b d, l, c, h => by
    simp only [takeK] at h
    obtain ⟨x, m, l', h, e1, e2⟩ := Zxj (t := b) h
    obtain ⟨y, m', l'', h, e3, e4⟩ := Zxj (t := d) h
    exact ⟨(x, y), m ++ m', l'', h, by rw [e1, e3]; simp, by rw [Zp0, e2, e4]; rfl⟩
  | .unit, l, c, h => ⟨(), [], l, h, rfl, rfl⟩
  | .any, l, c, h => by simp only [takeK] at h; cases h
theorem Zsc {own : Bool} {t : Ty} {l : List A} {c : t.den → Option R} (h : Zjn st own t l c = some r) : leaves l = true := by
  obtain ⟨x, m, l', h, e1, e2⟩ := Zxj h
  split at h
  · rw [e1, List.append_nil]; exact e2
  · cases h
theorem Zeq {t : Ty} {l : List A} {c : t.den → Option R} {vs : List Value} (hrel : Rel X C st a w) (h : Zjn st true t l c = some r) (hs : RAs C w l vs) : ∃ x, c x = some r ∧ Taken w X C st a t x l vs := by
  obtain ⟨x, m, l', vs1, vs2, h, e1, e2, h2, h3⟩ := Zyb hrel h hs
  split at h
  · cases h2
    rw [List.append_nil] at e1 e2
    subst e1; subst e2
    exact ⟨x, h, h3⟩
  · cases h
theorem Zsb {t : Ty} {l : List A} {c : t.den → Option R} {vs : List Value} (hrel : Rel X C st a w) (h : Zjn st false t l c = some r) (hs : RAs C w l vs) : ∃ x, c x = some r ∧ RepS w (JL C l) t x vs := by
  obtain ⟨x, m, l', vs1, vs2, h, e1, e2, h2, h3⟩ := Zta hrel h hs
  split at h
  · cases h2
    rw [List.append_nil] at e1 e2
    subst e1; subst e2
    exact ⟨x, h, h3⟩
  · cases h
theorem Moved.rptr {FZ : Zd} {g : List Nat} (hm : Moved C C' st st' FZ g) (hrel : Rel X C st a w) (hrel' : Rel X C' st' a w) {b : Nat} {p : Path} {v : Value} (h : RA C w (.rptr b p) v) : RA C' w (.rptr b p) v :=
  ⟨h.1, fun r hr => by
    have := hm.rows b r (by rw [← hrel'.rowsEq]; exact hr)
    rw [hm.F, hm.hdr]
    exact h.2 r (by rw [hrel.rowsEq]; exact this.2)⟩
theorem op_store {t : TypeId} {x y : Operand} (hE : EnvOk P E) (ho : o.op = .store t x y) (h : insts E o st k = some r) (hrel : Rel X C st a w) : Does P E X C st o a w k r := by
  simp only [insts, ho] at h
  obtain ⟨T, h2, -, hf⟩ := Ze7 hE h
  clear h
  simp only [Zji] at h2
  have hx := hrel.ev x
  have hy := hrel.ev y
  have hM := Zg0 hf
  obtain ⟨i, i1, i2⟩ := Z71 hf
  have hrun : (execOp a.eval o) = (do Instr.storeAt t (a.eval x) (a.eval y); pure .skip) := by simp only [execOp, ho]
  have run : ∀ {b off : Nat} {w' : World}, a.eval x = .pointer (some ⟨b, off, none⟩) → (a.eval y).cells.size = T.size → (storeCells ⟨b, off, none⟩ (a.eval y).cells.toList).run P w = .ok () w' → (execOp a.eval o).run P w = .ok .skip w' := fun e1 e2 e3 => by
    rw [hrun, e1]
    simp [Instr.storeAt, Instr.sureAddr, storeVar, Zav i1, i2, e2, e3]
  unfold storeK at h2
  split at h2
  · rename_i b q ex
    rw [ex] at hx
    have hx : a.eval x = .pointer (some ⟨(C.var b).1, (C.var b).2 + q, none⟩) := hx
    obtain ⟨TT, VV, WW⟩ := st
    simp only at h2
    split at h2
    rotate_left
    · cases h2
    rename_i l hl
    split at h2
    rotate_left
    · cases h2
    rename_i hc
    simp only [Bool.and_eq_true, fitsL, Zky] at hc
    obtain ⟨⟨c1, c2⟩, c3⟩ := hc
    have c2 := Nat.eq_of_beq_eq_true c2
    have c3 : q + T.size ≤ l.length := Nat.le_of_ble_eq_true c3
    rw [Zc0, Z96, Zaa, Zyv] at h2
    obtain ⟨vs, hvs, cs, et, fr, g1, g2, g3, g4⟩ := hrel.vars b l hl
    have hfl := Zgx hy c1
    have hfll := hfl.length
    have hvl := hvs.length
    obtain ⟨w', r1, r2⟩ := Zfa (P := P) (off := (C.var b).2 + q) g1 g3 (by omega) (Zair hfl c1)
    refine Z8e (r2.frm (fun c l' hl' hc e => hrel.vdis c b l' l (fun q => hc (by simp [tvOf, ho, ex, q])) hl' hl e) (fun c r' hr _ hk => hrel.vF b l c r' hl hr hk) (hrel.vI b l hl)) (run hx (by simp only [Array.length_toList] at hfll; omega) r1) (hrel.setVar hl hvs hfl (by omega) g1 g2 g3 g4 r2) h2
  · rename_i b p ex
    rw [ex] at hx
    have hlv := Zsc h2
    have hfl := Zgx hy hlv
    obtain ⟨x', h2, hT⟩ := Zeq hrel h2 hfl
    obtain ⟨OW, FZ, o1, o2, o3, o4⟩ := hT (Zae1 h2)
    obtain ⟨-, st', C', h2, hrel', hmv⟩ := Zrb (FZ := FZ) h2 hrel (fun _ => o2)
    have hlo := Zra hrel hmv o1 o3
    have hyO : RepO w C'.I T x' none (a.eval y).cells.toList OW := o4.frame (Zg _ _) (fun k hk => hk.elim (hmv.I1 k) (hmv.I2 k)) (Zg _ _) (fun _ h => h)
    obtain ⟨e, xs, ys, M, cs, et, fr, ⟨gg, g0⟩, g1, g2, g3, g4, g5, g6, g7⟩ := Zye hrel' h2 (hmv.rptr hrel hrel' hx) hyO hlo
    rw [Zaa] at g1
    have hlen := hyO.length
    obtain ⟨w', r1, r2⟩ := Zfa (P := P) (off := M.2) g3 g4 g5 (Zsy hyO)
    have hFb : C.F b M.1 := by rw [← hmv.F]; exact g6
    have hbr : ∃ rb, look st.rows b = some rb := by
      obtain ⟨e1, e2⟩ := hmv.rows b _ g0
      exact ⟨_, e2⟩
    obtain ⟨rb, hbr⟩ := hbr
    exact Z8e (r2.frm (fun c l hl _ e => hrel.vF c l b rb hl hbr (e ▸ hFb)) (fun c r' hr hc hk => hrel.rdis b c rb r' (fun q => hc (by simp [trOf, ho, ex, q])) hbr hr _ hFb hk) (fun hk => hrel.rI b rb hbr _ hFb hk)) (run g2 (by simpa using hlen) r1) (g7 w' r2) g1
  · cases h2
theorem op_slice0 {t : TypeId} {x : Operand} {lo hi : Option Operand} {m : Operand} (hE : EnvOk P E) (ho : o.op = .slice t x lo hi (some m)) (h : insts E o st k = some r) (hrel : Rel X C st a w) : Does P E X C st o a w k r := by
  have key : ∀ {j j' : IntKind} {d : Nat} {b : Bool} {e : Ty}, o.op = .slice t x none (some (.const (.int j 0))) (some (.const (.int j' 0))) → o.dst = some d → fitsM P (.row b e) none t = true → d < 500 → (∃ ad n c, a.eval x = .slice ad n c) → k ((Zci st d e []).put o.dst (.ref d [] none)) = some r → Does P E X C st o a w k r := by
    intro j j' d b e ho hd hM hd9 ⟨ad, n, c, hx⟩ hk
    obtain ⟨u, i, u1, u2, u3, u4, u5, u6⟩ := Ziy hM
    have hrun : ∃ ad', (execOp a.eval o).run P w = .ok (.value (.slice ad' 0 0)) w := by
      have hsb : ∀ (j : IntKind) (y : Nat) (c : BoundsCode), (Instr.sliceBound (.int j 0) y c).run P w = .ok 0 w := by
        intro j y c
        simp [Instr.sliceBound, asIntOf]
      refine ⟨ad, ?_⟩
      simp only [execOp, ho, hx]
      refine run_v _ ?_
      simp [Instr.sliceAt, Instr.slice, underlying, u1, Instr.sliceBounds, Act.eval, hsb, Zav u3]
    obtain ⟨ad', hrun⟩ := hrun
    obtain ⟨g1, g2⟩ := hrel.newRow d e [] (ad', 0, 0) (fun _ => False) ⟨rfl, Nat.le_refl _, .inl rfl⟩ (fun _ h => h.elim) (fun _ _ _ _ _ h => h.elim) (fun _ _ _ h => h) (fun _ h => h.elim) (fun _ h => h.elim) (fun H' q => by rw [X.lowR d (.inl hd9)] at q; cases q)
    exact Z4f Frm.refl hrun g1 g2 hk (by rw [ho]; rfl)
  simp only [insts, ho] at h
  split at h
  rotate_left
  · cases h
  rename_i hz
  unfold zero3 at hz
  split at hz
  · rename_i j n j' n'
    simp only [Bool.and_eq_true, decide_eq_true_eq] at hz
    obtain ⟨rfl, rfl⟩ := hz
    obtain ⟨T, h2, -, hf⟩ := Ze7 hE h
    clear h
    simp only [Zji] at h2
    have hx := hrel.ev x
    split at h2
    · rename_i d b e hd ex
      rw [ex] at hx
      split at h2
      rotate_left
      · cases h2
      rename_i hd9
      rw [Zdf, ← hd, Zaa] at h2
      exact key ho hd (Zg0 hf) (Nat.lt_of_succ_le (by simpa [Nat.blt] using hd9)) ⟨none, 0, 0, hx⟩ h2
    · rename_i d b e e' xs hd ex
      rw [ex] at hx
      obtain ⟨ad, n, c, hv, _⟩ := hx
      split at h2
      rotate_left
      · cases h2
      rename_i hd9
      rw [Zdf, ← hd, Zaa] at h2
      exact key ho hd (Zg0 hf) (Nat.lt_of_succ_le (by simpa [Nat.blt] using hd9)) ⟨ad, n, c, hv⟩ h2
    · rename_i d b e b' p cut hd ex
      rw [ex] at hx
      obtain ⟨⟨ad, n, c, hv⟩, _⟩ := hx
      split at h2
      rotate_left
      · cases h2
      rename_i hd9
      rw [Zdf, ← hd, Zaa] at h2
      exact key ho hd (Zg0 hf) (Nat.lt_of_succ_le (by simpa [Nat.blt] using hd9)) ⟨ad, n, c, hv⟩ h2
    · cases h2
  · cases hz
theorem Z70 {I J : Zd} : ∀ {t : Ty} {x : t.den} {vs : List Value}, t.plain = true → t.free = true → RepS w I t x vs → RepS w J t x vs
  | .int _, _, _, _, _, h => h
  | .bool, _, _, _, _, h => h
  | .str, _, _, _, _, h => h
  | .row true _, _, _, h, _, _ => by cases h
  | .row false _, _, _, _, h, _ => by cases h
  | .arr n e, x, vs, hp, hf, h => by
    have hl : e.leaf = true := hf
    exact ⟨h.1, RepN.imp (fun x vs h => by cases e <;> first | exact h | (cases hl)) h.2⟩
  | .pair p q, x, vs, hp, hf, ⟨v1, v2, e, h1, h2⟩ => by
    simp only [Ty.plain, Ty.free, Bool.and_eq_true] at hp hf
    exact ⟨v1, v2, e, Z70 hp.1 hf.1 h1, Z70 hp.2 hf.2 h2⟩
  | .unit, _, _, _, _, h => h
  | .any, _, _, _, _, h => h
theorem Zlm {α : Type} {R' : α → List Value → Prop} {n : Nat} (hn : ∀ x vs, R' x vs → vs.length = n) : ∀ {xs : List α} {vs : List Value} (m : Nat), RepN R' xs vs → RepN R' (xs.take m) (vs.take (m * n)) ∧ RepN R' (xs.drop m) (vs.drop (m * n))
  | xs, vs, 0, h => ⟨by simp [RepN], by simpa using h⟩
  | [], vs, m + 1, h => by
    have h : vs = [] := h
    subst h
    exact ⟨by simp [RepN], by simp [RepN]⟩
  | x :: xs, vs, m + 1, h => by
    obtain ⟨v1, v2, e, h1, h2⟩ := h
    have hl := hn _ _ h1
    subst e
    obtain ⟨g1, g2⟩ := Zlm hn m h2
    have e1 : (m + 1) * n = v1.length + m * n := by rw [hl, Nat.succ_mul, Nat.add_comm]
    rw [e1]
    refine ⟨⟨v1, v2.take (m * n), ?_, h1, g1⟩, ?_⟩
    · rw [List.take_append, List.take_of_length_le (by omega)]; congr 2; omega
    · have e2 : (v1 ++ v2).drop (v1.length + m * n) = v2.drop (m * n) := by rw [List.drop_append]; simp
      rw [e2]; exact g2
theorem Zqz {α : Type} {R' : α → List Value → Prop} : ∀ {xs ys : List α} {vs us : List Value}, RepN R' xs vs → RepN R' ys us → RepN R' (xs ++ ys) (vs ++ us)
  | [], ys, vs, us, h, k => by
    have h : vs = [] := h
    subst h; exact k
  | x :: xs, ys, vs, us, ⟨v1, v2, e, h1, h2⟩, k => ⟨v1, v2 ++ us, by rw [e, List.append_assoc], h1, Zqz h2 k⟩
theorem sets_mid {α : Type} : ∀ (l : List α) (o : Nat) (ys : List α), o + ys.length ≤ l.length → sets l o ys = l.take o ++ ys ++ l.drop (o + ys.length) := by
  intro l o ys h
  apply List.ext_getElem?
  intro j
  rw [Zb9]
  by_cases h1 : j < o
  · rw [if_neg (by omega), List.append_assoc, List.getElem?_append_left (by rw [List.length_take]; omega), List.getElem?_take_of_lt h1]
  · by_cases h2 : j < o + ys.length
    · rw [if_pos ⟨by omega, h2, by omega⟩, List.getElem?_append_left (by rw [List.length_append, List.length_take]; omega), List.getElem?_append_right (by rw [List.length_take]; omega), List.length_take, Nat.min_eq_left (by omega)]
    · rw [if_neg (by omega), List.getElem?_append_right (by rw [List.length_append, List.length_take]; omega), List.length_append, List.length_take, Nat.min_eq_left (by omega), List.getElem?_drop]
      congr 1; omega
theorem Zag8 {e : Ty} {x : A} {v : Value} {f : List e.den → Option R} (hp : e.plain = true) (hfr : e.free = true) (hrel : Rel X C st a w) (hx : RA C w x v) (h : withCK st e x f = some r) :
    ∃ ys vs, f ys = some r ∧ (∀ w1 : World, (Builtin.lenOf v).run P w1 = .ok ys.length w1) ∧ vs.length = ys.length * e.size ∧ RepN (RepS w C.I e) ys vs ∧ ∀ m, m ≤ ys.length → (Builtin.firstCells e.size m v).run P w = .ok (vs.take (m * e.size)).toArray w := by
  have key : ∀ {J : Zd} {ys : List e.den} {ad : Option Addr} {len cap : Nat}, f ys = some r → SRow w J (α := e.den) (RepS w J e) ys ad len cap → v = .slice ad len cap → ∃ ys vs, f ys = some r ∧ (∀ w1 : World, (Builtin.lenOf v).run P w1 = .ok (List.length (α := e.den) ys) w1) ∧ vs.length = List.length (α := e.den) ys * e.size ∧ RepN (RepS w C.I e) ys vs ∧ ∀ m, m ≤ List.length (α := e.den) ys → (Builtin.firstCells e.size m v).run P w = .ok (vs.take (m * e.size)).toArray w := by
    intro J ys ad len cap hf hs hv
    obtain ⟨h1, h2, h3⟩ := hs
    subst hv
    rcases h3 with h3 | ⟨ad', vs, e1, e2, e3, e4, e5⟩
    · subst h3
      refine ⟨[], [], hf, fun w1 => by rw [h1]; simp [Builtin.lenOf], by simp, rfl, fun m hm => ?_⟩
      have hm : m = 0 := Nat.le_zero.1 hm
      subst hm
      rw [show (List.take (0 * e.size) ([] : List Value)).toArray = ([] : List Value).toArray by simp]
      cases ad with
      | none => exact run_firstCells_none w e.size 0 len cap
      | some ad => exact run_firstCells_some w e.size 0 ad len cap [] (by simp) (fun j v h => by simp at h)
    · subst e1
      have hl := e5.length (n := e.size) (fun _ _ h => h.length)
      refine ⟨ys, vs, hf, fun w1 => by rw [← h1]; simp [Builtin.lenOf], hl, RepN.imp (fun x vs h => Z70 hp hfr h) e5, fun m hm => ?_⟩
      have hle : m * e.size ≤ vs.length := by rw [hl]; exact Nat.mul_le_mul_right _ hm
      refine run_firstCells_some w _ _ _ _ _ (vs.take (m * e.size)) (by rw [List.length_take]; omega) (fun j u hu => ?_)
      refine Z0q e2 e4 rfl j u ?_
      rw [List.getElem?_take] at hu
      split at hu
      · exact hu
      · cases hu
  cases x <;> simp only [withCK] at h <;> try (cases h; done)
  case nil =>
    have hx : v = .slice none 0 0 := hx
    exact key (J := fun _ => False) h ⟨rfl, Nat.le_refl _, .inl rfl⟩ hx
  all_goals
    obtain ⟨e', ys, ad, len, cap, h, hv, -, -, hs⟩ := Zxz hrel h hx
    split at h
    · rename_i hsh
      exact key h ((hs rfl).convL hsh) hv
    · cases h
theorem op_copy {c : Call} (hE : EnvOk P E) (ho : o.op = .call c) (hc : c.callee = .builtin .copy) (h : insts E o st k = some r) (hrel : Rel X C st a w) : Does P E X C st o a w k r := by
  simp only [insts, ho, hc, Zwr] at h
  obtain ⟨consts, hrun⟩ := Zgh (P := P) (a := a) ho hc
  split at h
  rotate_left
  · cases h
  rename_i t ts ht
  obtain ⟨T, h2, -, hf⟩ := Ze7 hE h
  clear h
  have t0 : c.argTypes[0]? = some t := by rw [← Array.getElem?_toList, ht]; rfl
  split at h2
  rotate_left
  · cases h2
  rename_i b cut s bo e hargs
  split at h2
  rotate_left
  · cases h2
  rename_i hpe
  simp only [Bool.and_eq_true] at hpe
  obtain ⟨hp, hfr, -⟩ := hpe
  match hl : c.args.toList, hargs with
  | [], q => cases q
  | [_], q => simp at q
  | _ :: _ :: _ :: _, q => simp at q
  | [dx, sx], hargs =>
    simp only [List.map_cons, List.map_nil, List.cons.injEq, and_true] at hargs
    obtain ⟨hd, rfl⟩ := hargs
    have v0 : (c.args.map a.eval)[0]? = some (a.eval dx) := by rw [Array.getElem?_map, ← Array.getElem?_toList, hl]; rfl
    have v1 : (c.args.map a.eval)[1]? = some (a.eval sx) := by rw [Array.getElem?_map, ← Array.getElem?_toList, hl]; rfl
    have hdv := hrel.ev dx
    rw [hd] at hdv
    unfold copyK at h2
    split at h2
    rotate_left
    · cases h2
    rename_i e' xs hb
    split at h2
    rotate_left
    · cases h2
    rename_i he
    subst he
    simp only at h2
    obtain ⟨ys, us, h2, hlen, hul, hur, hfc⟩ := Zag8 (P := P) hp hfr hrel (hrel.ev sx) h2
    unfold chk at h2
    split at h2
    rotate_left
    · cases h2
    rename_i h0
    rw [Zcz, Zaa] at h2
    have hb' : look C.rows b = some ⟨e', xs, none⟩ := by rw [hrel.rowsEq]; exact hb
    obtain ⟨H, sz, hH, hC⟩ := hdv.2 _ hb'
    obtain ⟨rfl, rfl⟩ : H = C.hdr b ∧ sz = e'.size := hH
    have hor := hrel.rows b _ hb
    obtain ⟨l1, l2, l3⟩ := hor
    have l1 : (C.hdr b).2.1 = List.length (α := e'.den) xs := l1
    have h0 : 0 < List.length (α := e'.den) xs := h0
    rcases l3 with l3 | ⟨ad, cs, et, fr, vs, F', e1, e2, e3, e4, e5, e6, e7, e8, e9, e10⟩
    · omega
    have e7 : ad.off + (C.hdr b).2.2 * e'.size ≤ cs.size := e7
    obtain ⟨u, i, u1, u2, u3, u4, u5, u6⟩ := Ziy (Zg0 hf)
    have hxr := Zq7 hp e10
    have hxl : vs.length = List.length (α := e'.den) xs * e'.size := hxr.length (n := e'.size) (fun _ _ h => h.length)
    obtain ⟨lo, hlo⟩ : ∃ lo, lo = loOf cut := ⟨_, rfl⟩
    obtain ⟨hi, hhi⟩ : ∃ hi, hi = hiOf (List.length (α := e'.den) xs) cut := ⟨_, rfl⟩
    obtain ⟨m, hm⟩ : ∃ m, m = min (hi - lo) (List.length (α := e'.den) ys) := ⟨_, rfl⟩
    have hcut : lo ≤ hi ∧ hi ≤ List.length (α := e'.den) xs ∧ ∃ base cap', a.eval dx = .slice base (hi - lo) cap' ∧ ((hi - lo = 0) ∨ base = some ⟨ad.block, ad.off + lo * e'.size, none⟩) := by
      cases cut with
      | none =>
        have hC : a.eval dx = .slice (C.hdr b).1 (C.hdr b).2.1 (C.hdr b).2.2 := hC
        simp only [loOf, hiOf] at hlo hhi
        subst hlo; subst hhi
        refine ⟨Nat.zero_le _, Nat.le_refl _, _, _, by rw [hC, l1]; rfl, .inr ?_⟩
        rw [e1, Zmv e2]; simp
      | some c =>
        obtain ⟨l, h⟩ := c
        simp only [loOf, hiOf] at hlo hhi
        subst hlo; subst hhi
        obtain ⟨c1, c2, a', cap', c3, c4, c5, c6⟩ := hC
        refine ⟨c1, by omega, a', cap', c3, ?_⟩
        rcases c6 with c6 | ⟨ad2, c6, c7⟩
        · left; omega
        · right
          rw [e1] at c6
          obtain rfl := Option.some.inj c6
          rw [c7, Zmv e2]
          simp [Addr.add]
    obtain ⟨q1, q2, base, cap', q3, q4⟩ := hcut
    have hm1 : m ≤ hi - lo := by omega
    have hm2 : m ≤ List.length (α := e'.den) ys := by omega
    obtain ⟨us', hus'⟩ : ∃ us', us' = us.take (m * e'.size) := ⟨_, rfl⟩
    have hul' : us'.length = m * e'.size := by
      rw [hus', List.length_take, hul]
      exact Nat.min_eq_left (Nat.mul_le_mul_right _ hm2)
    have hmul : (lo + m) * e'.size ≤ List.length (α := e'.den) xs * e'.size := Nat.mul_le_mul_right _ (by omega)
    have hmul2 : (C.hdr b).2.2 * e'.size ≥ List.length (α := e'.den) xs * e'.size := Nat.mul_le_mul_right _ (by omega)
    have hadd : (lo + m) * e'.size = lo * e'.size + m * e'.size := Nat.add_mul _ _ _
    have hroom : ad.off + lo * e'.size + us'.length ≤ cs.size := by rw [hul']; omega
    have hone : ∀ v ∈ us', Ze5 v = true := by
      have h1 := (Zlm (fun _ _ h => h.length) m hur).1
      rw [← hus'] at h1
      have h2 := Zh8 hp h1
      exact Zun h2
    obtain ⟨w', r1, r2⟩ := Zfa (P := P) (off := ad.off + lo * e'.size) e6 e8.1 hroom hone
    have hstore : ∃ w', (match base with | some a => storeCells a us' | none => (pure () : Sem Unit)).run P w = .ok () w' ∧ Poked w w' ad.block (sets cs.toList (ad.off + lo * e'.size) us').toArray et fr := by
      rcases q4 with q4 | q4
      · have : us' = [] := List.length_eq_zero_iff.1 (by rw [hul', show m = 0 by omega, Nat.zero_mul])
        rw [this] at r2 r1 ⊢
        refine ⟨w, ?_, by have h := Zcd [] ad.off w cs e6; simpa [sets, World.setCells] using h⟩
        cases base with
        | none => rfl
        | some a => simp [storeCells]
      · rw [q4]
        exact ⟨w', r1, r2⟩
    clear r1 r2 w'
    obtain ⟨w', r1, r2⟩ := hstore
    have hrun' : (Builtin.copy_ c.argTypes o.type (c.args.map a.eval)).run P w = .ok (goInt m) w' := by
      have hmn : Nat.min (List.length (α := e'.den) ys) (hi - lo) = m := by rw [hm]; exact Nat.min_comm _ _
      have hfc := hfc m hm2
      rw [← hus'] at hfc
      cases base with
      | none =>
        simp only at r1
        simp [Builtin.copy_, t0, v0, v1, q3, run_underlying u1, hlen, Zav u3, u4, hmn, hfc] at r1 ⊢
        exact r1
      | some a' =>
        simp only at r1
        simp [Builtin.copy_, t0, v0, v1, q3, run_underlying u1, hlen, Zav u3, u4, hmn, hfc, r1]
    have htr : trOf E st o = [b] := by simp [trOf, ho, hc, hl, hd, srcs, keys]
    have hsame : Same C.I w w' := fun k hk => r2.same k (fun q => hrel.rI b _ hb ad.block e3 (q ▸ hk))
    have hnew : ORow w' (α := e'.den) (RepO w' C.I e') e'.size (lput xs lo m ys) none (C.hdr b).1 (C.hdr b).2.1 (C.hdr b).2.2 (fun k => C.F b k ∨ (fun _ => False) k) := by
      refine ⟨?_, l2, .inr ⟨ad, _, et, fr, sets vs (lo * e'.size) us', fun _ => False, e1, e2, .inl e3, fun h => h, fun _ h => h.elim, r2.this, ?_, ?_, ⟨_, et, fr, r2.this, ?_, ?_⟩, ?_⟩⟩
      · rw [l1]; simp only [lput, List.length_append, List.length_take, List.length_drop]; omega
      · simp only [List.size_toArray, Zy, Array.length_toList]; exact e7
      · simp only [List.size_toArray, Zy, Array.length_toList]; exact e8
      · simp only [List.size_toArray, Zy, Array.length_toList]; omega
      · intro j v hv
        obtain ⟨cs2, et2, fr2, g1, g2, g3⟩ := e9
        rw [e6] at g1
        simp only [Option.some.injEq, Obj.cells.injEq] at g1
        obtain ⟨rfl, rfl, rfl⟩ := g1
        rw [List.getElem?_toArray, Zb9]
        rw [Zb9] at hv
        by_cases hj : lo * e'.size ≤ j ∧ j < lo * e'.size + us'.length ∧ j < vs.length
        · rw [if_pos hj] at hv
          rw [if_pos ⟨by omega, by omega, by simp; omega⟩, show ad.off + j - (ad.off + lo * e'.size) = j - lo * e'.size by omega]
          exact hv
        · rw [if_neg hj] at hv
          have hjl := (List.getElem?_eq_some_iff.1 hv).1
          rw [if_neg (by omega), Array.getElem?_toList]
          exact g3 j v hv
      · have k1 := Zlm (fun _ _ h => h.length) (n := e'.size) lo hxr
        have k2 := Zlm (fun _ _ h => h.length) (n := e'.size) (lo + m) hxr
        have k3 := (Zlm (fun _ _ h => h.length) (n := e'.size) m hur).1
        rw [← hus'] at k3
        have k4 : RepN (RepS w C.I e') (lput xs lo m ys) (sets vs (lo * e'.size) us') := by
          rw [sets_mid _ _ _ (by rw [hul', hxl]; omega), hul', ← hadd]
          exact Zqz (Zqz k1.1 k3) k2.2
        exact Zh8 hp (RepN.imp (fun x vs h => h.frame hsame (fun _ h => h)) k4)
    have hrel' := hrel.setRow (OW := fun _ => False) hb ⟨fun k h => h.elim, fun c r e k h => h.elim, fun c l e h => h, fun k h => h.elim, fun k h => h.elim⟩ e3 r2 hnew
    refine Z4f (x := .int .i64 (m : Int)) (v := goInt m) (by rw [htr]; exact r2.frm (fun c l hl' _ e => hrel.vF c l b _ hl' hb (e ▸ e3)) (fun c r' hr hc' hk => hrel.rdis b c _ r' (fun q => hc' (by simp [q])) hb hr _ e3 hk) (fun hk => hrel.rI b _ hb _ e3 hk)) (by rw [hrun]; exact run_v _ hrun') hrel' rfl ?_
    have hmm : nmin (lgap (loOf cut) (hiOf (llen xs) cut)) (llen ys) = m := by rw [hm, hlo, hhi]; rfl
    rw [hmm, ← hlo] at h2
    exact h2
end
end Go.Proofs.YtcpecilmkkmaiaaGreat.V
namespace Go.Proofs.YtcpecilmkkmaiaaGreat.V
open Go Go.RowKit
section
variable {P : Program} {E : Env} {X : Fix} {C C' : Ctx} {st st' : St} {a : Act} {w w' : World} {R : Type} {k : St → Option R} {r : R} {o : Oper} {Q : Exit → Act → World → Prop}
def Ctx.holeR (C : Ctx) (b : Nat) (r : Rw) (F1 : Zd) : Ctx := { C with F := fun c => if c = b then F1 else C.F c, rows := lay C.rows b r }
theorem Zadv {F : Zd} : ∀ {t : Ty} {p : Path} {L M : Nat × Nat} {u : Ty}, flds p = true → Res w F t p L M u → M.1 = L.1
  | .pair a b, [], _, _, _, _, r => by rw [r.1]
  | .pair a b, .fld 0 :: p, _, _, _, h, r => Zadv (t := a) (p := p) h r
  | .pair a b, .fld (i + 1) :: p, L, _, _, h, r => Zadv (t := b) (p := .fld i :: p) (L := (L.1, L.2 + a.size)) h r
  | .pair a b, .idx i :: p, _, _, _, h, _ => by cases h
  | .row true e, [], _, _, _, _, r => by rw [r.1]
  | .row true e, .idx i :: p, _, _, _, h, _ => by cases h
  | .row true e, .fld i :: p, _, _, _, _, r => r.elim
  | .row false _, [], _, _, _, _, r => by rw [r.1]
  | .int _, [], _, _, _, _, r => by rw [r.1]
  | .bool, [], _, _, _, _, r => by rw [r.1]
  | .str, [], _, _, _, _, r => by rw [r.1]
  | .arr _ _, [], _, _, _, _, r => by rw [r.1]
  | .unit, [], _, _, _, _, r => by rw [r.1]
  | .any, [], _, _, _, _, r => by rw [r.1]
mutual
theorem RA.hole {C : Ctx} {b : Nat} {e : Ty} {xs ys : List e.den} {g g' : Option Path} {F1 : Zd} (hb : look C.rows b = some ⟨e, xs, g⟩) (hm : ∀ ad, (C.hdr b).1 = some ad → C.F b ad.block → F1 ad.block) :
    ∀ {x : A} {v : Value}, RA C w x v → RA (C.holeR b ⟨e, ys, g'⟩ F1) w (Zea b x) v
  | .int _ _, _, h => h
  | .bool _, _, h => h
  | .str _, _, h => h
  | .nil, _, h => h
  | .row e xs, v, h => h
  | .ref c q cut, v, h => by
    unfold Zea
    split
    · exact trivial
    · rename_i hk
      refine ⟨h.1, fun r hr => ?_⟩
      simp only [Ctx.holeR, Zao] at hr
      by_cases hc : b = c
      · subst hc
        rw [if_pos rfl] at hr
        obtain rfl := Option.some.inj hr
        have hq : q = [] := by
          cases q with
          | nil => rfl
          | cons s q => simp [isNil] at hk
        subst hq
        obtain ⟨H, sz, h1, h2⟩ := h.2 _ hb
        exact ⟨H, sz, h1, h2⟩
      · rw [if_neg hc] at hr
        obtain ⟨H, sz, h1, h2⟩ := h.2 _ hr
        refine ⟨H, sz, ?_, h2⟩
        simp only [Ctx.holeR, if_neg (Ne.symm hc)]
        exact h1
  | .vptr b o, v, h => h
  | .rptr c q, v, h => by
    unfold Zea
    split
    · exact trivial
    · rename_i hk
      refine ⟨h.1, fun r hr => ?_⟩
      simp only [Ctx.holeR, Zao] at hr
      by_cases hc : b = c
      · subst hc
        rw [if_pos rfl] at hr
        obtain rfl := Option.some.inj hr
        obtain ⟨M, u, h1, h2⟩ := h.2 _ hb
        refine ⟨M, u, ?_, h2⟩
        match q, h1, hk with
        | .idx i :: p, ⟨ad, e1, e2, e3, e4⟩, hk =>
          simp only [Nat.beq_refl, Bool.true_and, shallow, Bool.not_eq_true', Bool.not_eq_false] at hk
          refine ⟨ad, e1, e2, ?_, Z7z hk e4⟩
          have hM := Zadv hk e4
          simp only at hM
          simp only [Ctx.holeR, if_true]
          rw [hM] at e3 ⊢
          exact hm ad e1 e3
      · rw [if_neg hc] at hr
        obtain ⟨M, u, h1, h2⟩ := h.2 _ hr
        refine ⟨M, u, ?_, h2⟩
        simp only [Ctx.holeR, if_neg (Ne.symm hc)]
        exact h1
  | .sptr t x, v, h => h
  | .fn f l, v, ⟨vs, h1, h2⟩ => ⟨vs, h1, h2.hole hb hm⟩
  | .agg l, v, ⟨vs, h1, h2⟩ => ⟨vs, h1, h2.hole hb hm⟩
  | .tup l, v, ⟨vs, h1, h2⟩ => ⟨vs, h1, h2.hole hb hm⟩
  | .dead, _, _ => trivial
theorem RAs.hole {C : Ctx} {b : Nat} {e : Ty} {xs ys : List e.den} {g g' : Option Path} {F1 : Zd} (hb : look C.rows b = some ⟨e, xs, g⟩) (hm : ∀ ad, (C.hdr b).1 = some ad → C.F b ad.block → F1 ad.block) :
    ∀ {x : List A} {v : List Value}, RAs C w x v → RAs (C.holeR b ⟨e, ys, g'⟩ F1) w (Zbh b x) v
  | [], _, h => h
  | _ :: _, _, ⟨v, vs', e1, h1, h2⟩ => ⟨v, vs', e1, h1.hole hb hm, h2.hole hb hm⟩
end
theorem Rel.holeRow (hrel : Rel X C st a w) {b : Nat} {e : Ty} {xs ys : List e.den} {g g' : Option Path} {F1 : Zd} (hb : look st.rows b = some ⟨e, xs, g⟩) (hs : Sub F1 (C.F b)) (hm : ∀ ad, (C.hdr b).1 = some ad → C.F b ad.block → F1 ad.block)
    (ho : ORow w (α := e.den) (RepO w C.I e) e.size ys g' (C.hdr b).1 (C.hdr b).2.1 (C.hdr b).2.2 F1) : Rel X (C.holeR b ⟨e, ys, g'⟩ F1) (Zch st b ⟨e, ys, g'⟩) a w := by
  have hb' : look C.rows b = some ⟨e, xs, g⟩ := by rw [hrel.rowsEq]; exact hb
  have hvar : ∀ c m, look (Zch st b ⟨e, ys, g'⟩).vars c = some m → ∃ l, look st.vars c = some l ∧ m = Zbh b l := by
    intro c m h
    simp only [Zch, killD, Zcp] at h
    cases q : look st.vars c with
    | none => rw [q] at h; cases h
    | some l => rw [q] at h; exact ⟨l, rfl, (Option.some.inj h).symm⟩
  have hrow : ∀ c r, look (Zch st b ⟨e, ys, g'⟩).rows c = some r → (c = b ∧ r = ⟨e, ys, g'⟩) ∨ (c ≠ b ∧ look st.rows c = some r) := by
    intro c r h
    simp only [Zch, killD, Zao] at h
    split at h
    · rename_i q; exact .inl ⟨q.symm, (Option.some.inj h).symm⟩
    · rename_i q; exact .inr ⟨Ne.symm q, h⟩
  have hF : ∀ c r, look (Zch st b ⟨e, ys, g'⟩).rows c = some r → (∃ r', look st.rows c = some r') ∧ Sub ((C.holeR b ⟨e, ys, g'⟩ F1).F c) (C.F c) := by
    intro c r h
    rcases hrow c r h with ⟨rfl, rfl⟩ | ⟨hc, h⟩
    · exact ⟨⟨_, hb⟩, by simp only [Ctx.holeR, if_true]; exact hs⟩
    · exact ⟨⟨_, h⟩, by simp only [Ctx.holeR, if_neg hc]; exact fun _ h => h⟩
  refine {
    rowsEq := by simp only [Ctx.holeR, Zch, killD, hrel.rowsEq]
    defers := hrel.defers
    tlen := by simp only [Zch, killD, Zic, hrel.tlen]
    tmps := fun i => by simp only [Zch, killD, Zzw]; exact (hrel.tmps i).hole hb' hm
    vars := fun c m h => ?_
    vdis := fun c d l m hcd h1 h2 he => ?_
    vI := fun c m h => ?_
    vF := fun c m d r h1 h2 q => ?_
    rows := fun c r h => ?_
    rdis := fun c d r s hcd h1 h2 k q1 q2 => ?_
    rI := fun c r h k q1 q2 => ?_
    Ilt := hrel.Ilt
    Flt := fun c r h k hk => ?_
    Fown := fun c r h k hk => ?_
    Vown := fun c m h i hi => ?_
    pinsR := fun c H' hp hn => hrel.pinsR c H' hp (fun q => hn (by
      simp only [Zch, killD, Zao]
      split
      · rename_i hc
        subst hc
        rw [hb] at q; cases q
      · exact q))
    pins := fun c L hp hn => hrel.pins c L hp (fun q => hn (by simp only [Zch, killD, Zcp, q]; rfl))
    Iown := hrel.Iown
    frame := hrel.frame }
  · obtain ⟨l, q, rfl⟩ := hvar c m h
    obtain ⟨vs, h1, h2⟩ := hrel.vars c l q
    exact ⟨vs, h1.hole hb' hm, h2⟩
  · obtain ⟨l', q, rfl⟩ := hvar c l h1
    obtain ⟨m', q', rfl⟩ := hvar d m h2
    exact hrel.vdis c d l' m' hcd q q' he
  · obtain ⟨l, q, rfl⟩ := hvar c m h
    exact hrel.vI c l q
  · obtain ⟨l, q', rfl⟩ := hvar c m h1
    obtain ⟨⟨r', u1⟩, u2⟩ := hF d r h2
    exact hrel.vF c l d r' q' u1 (u2 _ q)
  · rcases hrow c r h with ⟨rfl, rfl⟩ | ⟨hc, h⟩
    · simp only [Ctx.holeR, if_true]; exact ho
    · simp only [Ctx.holeR, if_neg hc]; exact hrel.rows c r h
  · obtain ⟨⟨r', u1⟩, u2⟩ := hF c r h1
    obtain ⟨⟨s', u3⟩, u4⟩ := hF d s h2
    exact hrel.rdis c d r' s' hcd u1 u3 k (u2 k q1) (u4 k q2)
  · obtain ⟨⟨r', u1⟩, u2⟩ := hF c r h
    exact hrel.rI c r' u1 k (u2 k q1) q2
  · obtain ⟨⟨r', u1⟩, u2⟩ := hF c r h
    exact hrel.Flt c r' u1 k (u2 k hk)
  · obtain ⟨⟨r', u1⟩, u2⟩ := hF c r h
    exact hrel.Fown c r' u1 k (u2 k hk)
  · obtain ⟨l, q, rfl⟩ := hvar c m h
    exact hrel.Vown c l q i (by simpa only [Zic] using hi)
theorem Zsz {I : Zd} {e : Ty} : ∀ {xs : List e.den} {i : Nat} {x : e.den} {vs : List Value} {F : Zd} {b o : Nat}, RepNO (RepO w I e) xs none vs F → xs[i]? = some x → Zu w b o vs →
    ∃ v1 F1, RepO w I e x none v1 F1 ∧ Sub F1 F ∧ Zu w b (o + i * e.size) v1 ∧
      ∀ (q : Path) (F1' : Zd), RepO w I e x (some q) v1 F1' → Sub F1' F1 → RepNO (RepO w I e) xs (some (.idx i :: q)) vs (fun k => F1' k ∨ (F k ∧ ¬ F1 k))
  | [], i, x, vs, F, b, o, h, e1, hc => by simp at e1
  | x0 :: xs, 0, x, vs, F, b, o, ⟨v1, v2, F1, F2, e0, s1, s2, d, h1, h2⟩, e1, hc => by
    simp only [List.getElem?_cons_zero, Option.some.injEq] at e1
    subst e1; subst e0
    simp only [Nat.zero_mul, Nat.add_zero]
    exact ⟨v1, F1, h1, s1, hc.left, fun q F1' g1 g2 => ⟨v1, v2, F1', F2, rfl, fun k hk => .inl hk, fun k hk => .inr ⟨s2 k hk, fun h => d k h hk⟩, fun k q1 q2 => d k (g2 k q1) q2, g1, h2⟩⟩
  | x0 :: xs, i + 1, x, vs, F, b, o, ⟨v1, v2, F1, F2, e0, s1, s2, d, h1, h2⟩, e1, hc => by
    subst e0
    have hl := h1.length
    obtain ⟨u1, G, q1, q2, q3, q4⟩ := Zsz h2 (by simpa using e1) hc.right
    have hoff : o + v1.length + i * e.size = o + (i + 1) * e.size := by rw [hl, Nat.succ_mul]; omega
    rw [hoff] at q3
    exact ⟨u1, G, q1, fun k q => s2 k (q2 k q), q3, fun q F1' g1 g2 => ⟨v1, v2, F1, fun k => F1' k ∨ (F2 k ∧ ¬ G k), rfl, fun k hk => .inr ⟨s1 k hk, fun h => d k hk (q2 k h)⟩, fun k hk => hk.imp id (fun h => ⟨s2 k h.1, h.2⟩), fun k p1 p2 => p2.elim (fun h => d k p1 (q2 k (g2 k h))) (fun h => d k p1 h.1), h1, q4 q F1' g1 g2⟩⟩
theorem Znx {I : Zd} : ∀ {T : Ty} {x : T.den} {p : Path} {k : (u : Ty) → u.den → Option R} {vs : List Value} {F : Zd} {L : Nat × Nat}, getK T x p k = some r → RepO w I T x none vs F → Zu w L.1 L.2 vs →
    ∃ (M : Nat × Nat) (u : Ty) (y : u.den) (us : List Value) (F' : Zd), k u y = some r ∧ (∀ G : Zd, Sub F G → G L.1 → Res w G T p L M u ∧ G M.1) ∧ Zu w M.1 M.2 us ∧ RepO w I u y none us F' ∧ Sub F' F ∧
      ∀ c, u = .row true c → ∃ F1, Sub F1 F ∧ Dis F1 F' ∧ RepO w I T x (some p) vs F1
  | .pair b d, x, [], k, vs, F, L, h, hr, hc => ⟨L, _, _, vs, F, h, fun _ _ hL => ⟨⟨rfl, rfl⟩, hL⟩, hc, hr, fun _ h => h, fun c e => by cases e⟩
  | .pair b d, x, .fld 0 :: p, k, vs, F, L, h, ⟨v1, v2, F1, F2, e0, s1, s2, hd, h1, h2⟩, hc => by
    subst e0
    simp only [getK] at h
    obtain ⟨M, u, y, us, F', g1, g2, g3, g4, g5, g6⟩ := Znx (T := b) h h1 hc.left
    refine ⟨M, u, y, us, F', g1, fun G hG hL => g2 G (fun k q => hG k (s1 k q)) hL, g3, g4, fun k q => s1 k (g5 k q), fun c e => ?_⟩
    obtain ⟨G1, i1, i2, i3⟩ := g6 c e
    exact ⟨fun k => G1 k ∨ F2 k, fun k q => q.elim (fun q => s1 k (i1 k q)) (s2 k), fun k q1 q2 => q1.elim (fun q => i2 k q q2) (fun q => hd k (g5 k q2) q), v1, v2, G1, F2, rfl, fun k q => .inl q, fun k q => .inr q, fun k q1 q2 => hd k (i1 k q1) q2, i3, h2⟩
  | .pair b d, x, .fld (i + 1) :: p, k, vs, F, L, h, ⟨v1, v2, F1, F2, e0, s1, s2, hd, h1, h2⟩, hc => by
    subst e0
    simp only [getK] at h
    have hl1 := h1.length
    have hc2 := hc.right
    rw [hl1] at hc2
    obtain ⟨M, u, y, us, F', g1, g2, g3, g4, g5, g6⟩ := Znx (T := d) (L := (L.1, L.2 + b.size)) h h2 hc2
    refine ⟨M, u, y, us, F', g1, fun G hG hL => g2 G (fun k q => hG k (s2 k q)) hL, g3, g4, fun k q => s2 k (g5 k q), fun c e => ?_⟩
    obtain ⟨G1, i1, i2, i3⟩ := g6 c e
    exact ⟨fun k => F1 k ∨ G1 k, fun k q => q.elim (s1 k) (fun q => s2 k (i1 k q)), fun k q1 q2 => q1.elim (fun q => hd k q (g5 k q2)) (fun q => i2 k q q2), v1, v2, F1, G1, rfl, fun k q => .inl q, fun k q => .inr q, fun k q1 q2 => hd k q1 (i1 k q2), h1, i3⟩
  | .pair b d, x, .idx i :: p, k, vs, F, L, h, hr, hc => by simp only [getK] at h; cases h
  | .row true c, xs, [], k, vs, F, L, h, hr, hc => by
    refine ⟨L, _, _, vs, F, h, fun _ _ hL => ⟨⟨rfl, rfl⟩, hL⟩, hc, hr, fun _ h => h, fun c' e => ⟨fun _ => False, fun _ h => h.elim, fun _ h => h.elim, ?_⟩⟩
    obtain ⟨ad, len, cap, ev, -⟩ := hr
    exact ⟨ad, len, cap, ev, .inl rfl⟩
  | .row true c, xs, .idx i :: p, k, vs, F, L, h, ⟨ad0, len, cap, ev, hr⟩, hc => by
    subst ev
    simp only [getK] at h
    obtain ⟨x, hx, h⟩ := Zhw h
    have hx := Zaea hx
    obtain ⟨l1, l2, hr⟩ := hr.resolve_left (by simp)
    have hlt := (List.getElem?_eq_some_iff.1 hx).1
    rcases hr with hr | ⟨ad, cs, et, fr, vs', F', e1, e2, e3, e4, e5, e6, e7, e8, e9, e10⟩
    · omega
    subst e1
    obtain ⟨v1, F1, q1, q2, q3, q4⟩ := Zsz e10 hx e9
    obtain ⟨M, u, y, us, F'', g1, g2, g3, g4, g5, g6⟩ := Znx (T := c) (L := (ad.block, ad.off + i * c.size)) h q1 q3
    refine ⟨M, u, y, us, F'', g1, fun G hG hL => ⟨⟨ad, len, cap, hc.cell, e2, hL, (g2 G (fun k q => hG k (e5 k (q2 k q))) (hG _ e3)).1⟩, (g2 G (fun k q => hG k (e5 k (q2 k q))) (hG _ e3)).2⟩, g3, g4, fun k q => e5 k (q2 k (g5 k q)), fun c' e => ?_⟩
    obtain ⟨G1, i1, i2, i3⟩ := g6 c' e
    refine ⟨fun k => k = ad.block ∨ (G1 k ∨ (F' k ∧ ¬ F1 k)), fun k q => ?_, fun k q1 q2' => ?_, ad, len, cap, rfl, .inr ⟨l1, l2, .inr ⟨ad, cs, et, fr, vs', fun k => G1 k ∨ (F' k ∧ ¬ F1 k), rfl, e2, .inl rfl, fun q => ?_, fun k q => .inr q, e6, e7, e8, e9, q4 p G1 i3 i1⟩⟩⟩
    · rcases q with rfl | q | q
      · exact e3
      · exact e5 k (q2 k (i1 k q))
      · exact e5 k q.1
    · rcases q1 with rfl | q | q
      · exact e4 (q2 _ (g5 _ q2'))
      · exact i2 k q q2'
      · exact q.2 (g5 k q2')
    · exact q.elim (fun q => e4 (q2 _ (i1 _ q))) (fun q => e4 q.1)
  | .row true c, xs, .fld i :: p, k, vs, F, L, h, hr, hc => by simp only [getK] at h; cases h
  | .row false c, xs, [], k, vs, F, L, h, hr, hc => ⟨L, _, _, vs, F, h, fun _ _ hL => ⟨⟨rfl, rfl⟩, hL⟩, hc, hr, fun _ h => h, fun c' e => by cases e⟩
  | .int j, x, [], k, vs, F, L, h, hr, hc => ⟨L, _, _, vs, F, h, fun _ _ hL => ⟨⟨rfl, rfl⟩, hL⟩, hc, hr, fun _ h => h, fun c' e => by cases e⟩
  | .bool, x, [], k, vs, F, L, h, hr, hc => ⟨L, _, _, vs, F, h, fun _ _ hL => ⟨⟨rfl, rfl⟩, hL⟩, hc, hr, fun _ h => h, fun c' e => by cases e⟩
  | .str, x, [], k, vs, F, L, h, hr, hc => ⟨L, _, _, vs, F, h, fun _ _ hL => ⟨⟨rfl, rfl⟩, hL⟩, hc, hr, fun _ h => h, fun c' e => by cases e⟩
  | .arr n c, x, [], k, vs, F, L, h, hr, hc => ⟨L, _, _, vs, F, h, fun _ _ hL => ⟨⟨rfl, rfl⟩, hL⟩, hc, hr, fun _ h => h, fun c' e => by cases e⟩
  | .unit, x, [], k, vs, F, L, h, hr, hc => ⟨L, _, _, vs, F, h, fun _ _ hL => ⟨⟨rfl, rfl⟩, hL⟩, hc, hr, fun _ h => h, fun c' e => by cases e⟩
  | .any, x, [], k, vs, F, L, h, hr, hc => ⟨L, _, _, vs, F, h, fun _ _ hL => ⟨⟨rfl, rfl⟩, hL⟩, hc, hr, fun _ h => h, fun c' e => by cases e⟩
theorem Zagc {I : Zd} {e : Ty} {xs : List e.den} {i : Nat} {p : Path} {ad0 : Option Addr} {len cap : Nat} {F : Zd} {k : (u : Ty) → u.den → Option R} (ho : ORow w (α := e.den) (RepO w I e) e.size xs none ad0 len cap F) (h : getK (.row true e) xs (.idx i :: p) k = some r) :
    ∃ (M : Nat × Nat) (u : Ty) (y : u.den) (us : List Value) (F' : Zd), k u y = some r ∧ ResR w F e ad0 (.idx i :: p) M u ∧ Zu w M.1 M.2 us ∧ RepO w I u y none us F' ∧ Sub F' F ∧
      ∀ c, u = .row true c → ∃ F1, Sub F1 F ∧ Dis F1 F' ∧ ORow w (α := e.den) (RepO w I e) e.size xs (some (.idx i :: p)) ad0 len cap F1 ∧ ∀ ad, ad0 = some ad → F1 ad.block := by
  simp only [getK] at h
  obtain ⟨x, hx, h⟩ := Zhw h
  have hx := Zaea hx
  obtain ⟨l1, l2, hr⟩ := ho
  have hlt := (List.getElem?_eq_some_iff.1 hx).1
  rcases hr with hr | ⟨ad, cs, et, fr, vs', F', e1, e2, e3, e4, e5, e6, e7, e8, e9, e10⟩
  · omega
  subst e1
  obtain ⟨v1, F1, q1, q2, q3, q4⟩ := Zsz e10 hx e9
  obtain ⟨M, u, y, us, F'', g1, g2, g3, g4, g5, g6⟩ := Znx (T := e) (L := (ad.block, ad.off + i * e.size)) h q1 q3
  obtain ⟨g21, g22⟩ := g2 F (fun k q => e5 k (q2 k q)) e3
  refine ⟨M, u, y, us, F'', g1, ⟨ad, rfl, e2, g22, g21⟩, g3, g4, fun k q => e5 k (q2 k (g5 k q)), fun c' e => ?_⟩
  obtain ⟨G1, i1, i2, i3⟩ := g6 c' e
  refine ⟨fun k => k = ad.block ∨ (G1 k ∨ (F' k ∧ ¬ F1 k)), fun k q => ?_, fun k q1 q2' => ?_, ⟨l1, l2, .inr ⟨ad, cs, et, fr, vs', fun k => G1 k ∨ (F' k ∧ ¬ F1 k), rfl, e2, .inl rfl, fun q => ?_, fun k q => .inr q, e6, e7, e8, e9, q4 p G1 i3 i1⟩⟩, fun ad' q => .inl (by cases q; rfl)⟩
  · rcases q with rfl | q | q
    · exact e3
    · exact e5 k (q2 k (i1 k q))
    · exact e5 k q.1
  · rcases q1 with rfl | q | q
    · exact e4 (q2 _ (g5 _ q2'))
    · exact i2 k q q2'
    · exact q.2 (g5 k q2')
  · exact q.elim (fun q => e4 (q2 _ (i1 _ q))) (fun q => e4 q.1)
theorem Z8i {b d : Nat} {p : Path} {cut : Option (Nat × Nat)} {v : Value} (hrel : Rel X C st a w) (hd : X.pinR d = none) (h : Zaej st b p d k = some r) (hx : RA C w (.ref b p cut) v) :
    ∃ st' C', k st' = some r ∧ Rel X C' st' a w ∧ RA C' w (.ref d [] cut) v ∧ (∀ w' tv tv' tr tr', (∀ c, c ∉ tv' → c ∉ tv) → (∀ c, c ∉ tr' → c ≠ b ∧ (c ≠ d → c ∉ tr)) → Frm C' st' w w' tv tr → Frm C st w w' tv' tr') ∧ (∀ x vx, RA C w x vx → RA C' w (killA d [] (Zea b x)) vx) ∧ b ≠ d ∧ (∃ rb, look st.rows b = some rb) ∧ (∃ rb, look st'.rows b = some rb) ∧ ∀ c, look st'.vars c = (look st.vars c).map (fun l => killL d [] (Zbh b l)) := by
  unfold Zaej at h
  split at h
  rotate_left
  · cases h
  rename_i i p hnd
  split at h
  rotate_left
  · cases h
  rename_i e xs hb
  have hb' : look C.rows b = some ⟨e, xs, none⟩ := by rw [hrel.rowsEq]; exact hb
  obtain ⟨M, u, y, us, F', g1, g2, g3, g4, g5, g6⟩ := Zagc (hrel.rows b _ hb) h
  split at g1
  rotate_left
  · cases g1
  rename_i c ys
  obtain ⟨F1, f1, f2, f3, f4⟩ := g6 c rfl
  simp only [Zcz] at g1
  obtain ⟨ys', hys⟩ : ∃ ys' : List c.den, ys' = ys := ⟨ys, rfl⟩
  have g1 : k (Zci (Zch st b ⟨e, xs, some (.idx i :: p)⟩) d c ys') = some r := by
    rw [hys]; exact (Zdf _ d c (ys : List c.den) k).symm.trans g1
  have hbd : b ≠ d := fun q => by rw [q, hnd] at hb; cases hb
  obtain ⟨⟨av, lv, cv, hv⟩, hx2⟩ := hx
  obtain ⟨H, sz, hH, hC⟩ := hx2 _ hb'
  obtain ⟨M', o', e', r1, r2, r3⟩ := hH
  obtain ⟨rfl, ru⟩ := g2.one r1
  obtain ⟨rfl, rfl⟩ : o' = true ∧ e' = c := by
    have := ru
    simp only [Ty.row.injEq] at this
    exact ⟨this.1.symm, this.2.symm⟩
  obtain ⟨ha, hl, hcp, hus, ho⟩ := g4
  subst hus
  have hcell := g3.cell
  rw [r3] at hcell
  obtain ⟨e1, e2, e3⟩ : H.1 = ha ∧ H.2.1 = hl ∧ H.2.2 = hcp := by simpa using hcell
  have hrel1 := hrel.holeRow (ys := xs) (g' := some (.idx i :: p)) hb f1 (fun ad q _ => f4 ad q) f3
  have hnew := hrel1.newRow d e' ys' H F' (by rw [e1, e2, e3, hys]; exact ho.resolve_left (by simp)) (fun k q1 q2 => hrel.rI b _ hb k (g5 k q1) q2)
    (fun c' r' hc hr k q1 q2 => by
      simp only [Zch, killD, Zao] at hr
      split at hr
      · rename_i hcb
        subst hcb
        simp only [Ctx.holeR, if_true] at q2
        exact f2 k q2 q1
      · rename_i hcb
        simp only [Ctx.holeR, if_neg (Ne.symm hcb)] at q2
        exact hrel.rdis b c' _ r' hcb hb hr k (g5 k q1) q2)
    (fun c' l' hl' q => by
      simp only [Zch, killD, Zcp] at hl'
      cases hq : look st.vars c' with
      | none => rw [hq] at hl'; cases hl'
      | some l => exact hrel.vF c' l b _ hq hb (g5 _ q))
    (fun k q => hrel.Flt b _ hb k (g5 k q)) (fun k q => hrel.Fown b _ hb k (g5 k q)) (fun H' q => by rw [hd] at q; cases q)
  refine ⟨_, _, g1, hnew.1, ⟨⟨av, lv, cv, hv⟩, fun r' hr' => ?_⟩, fun w' tv tv' tr tr' htv' htr' hf => ⟨fun b' l' hl' hb' => ?_, fun c' r' hr' hc' => ?_, hf.I⟩, fun x vx hxv => ?_, hbd, ⟨_, hb⟩, ⟨⟨e, xs, some (.idx i :: p)⟩, by simp only [Zci, Zch, killD, Zao, if_neg (Ne.symm hbd), if_true]⟩, fun c => by
    simp only [Zci, killS, Zch, killD, Zcp, Option.map_map]; rfl⟩
  · simp only [Ctx.row, Zao, if_true] at hr'
    obtain rfl := Option.some.inj hr'
    refine ⟨H, e'.size, ⟨by simp only [Ctx.row, if_true], rfl⟩, ?_⟩
    rw [← r2]; exact hC
  · have : look (Zci (Zch st b ⟨e, xs, some (.idx i :: p)⟩) d e' ys').vars b' = some (killL d [] (Zbh b l')) := by
      simp only [Zci, killS, Zch, killD, Zcp, hl', Option.map_some]
    exact hf.V b' _ this (htv' _ hb')
  · have hcb : c' ≠ b := (htr' c' hc').1
    have hcd : c' ≠ d := fun q => by rw [q, hnd] at hr'; cases hr'
    have h2 : look (Zci (Zch st b ⟨e, xs, some (.idx i :: p)⟩) d e' ys').rows c' = some r' := by
      simp only [Zci, Zch, killD, Zao, if_neg (Ne.symm hcd), if_neg (Ne.symm hcb)]
      exact hr'
    have := hf.R c' r' h2 ((htr' c' hc').2 hcd)
    simp only [Ctx.row, if_neg hcd, Ctx.holeR, if_neg hcb] at this
    exact this
  · have h1 := hxv.hole (ys := xs) (g' := some (.idx i :: p)) hb' (F1 := F1) (fun ad q _ => f4 ad q)
    exact (h1.kill d []).frame (C := C.holeR b ⟨e, xs, some (.idx i :: p)⟩ F1) (C' := (C.holeR b ⟨e, xs, some (.idx i :: p)⟩ F1).row d H F' ⟨e', ys', none⟩) (Zg _ _) (fun _ h => h)
      (fun c' hc => by
        have hcd : c' ≠ d := fun q => by subst q; exact Zadj _ _ hc
        exact ⟨by simp only [Ctx.row, Zao, if_neg (Ne.symm hcd)], fun _ => by simp only [Ctx.row, if_neg hcd], fun _ => by simp only [Ctx.row, if_neg hcd], fun _ => Zg _ _⟩) (fun _ _ => rfl)
theorem Zag3 {d : Nat} {e : Ty} {s x : A} {ts : Array TypeId} {t u ty : TypeId} {vals : Array Value} {vs0 vx : Value} {b : Bool} (hrel : Rel X C st a w) (hs : RA C w s vs0) (hx : RA C w x vx) (h : Zab2 st d e s x k = some r)
    (t0 : ts[0]? = some t) (t1 : ts[1]? = some u) (v0 : vals[0]? = some vs0) (v1 : vals[1]? = some vx) (hM : fitsM P (.row b e) none t = true) (hu : NoInt P u) (hd9 : d < 500) :
    ∃ v w' st' C', (Builtin.append_ ts ty vals).run P w = .ok v w' ∧ Rel X C' st' a w' ∧ RA C' w' (.ref d [] none) v ∧ k (st'.put (some d) (.ref d [] none)) = some r ∧ ∀ tv, Frm C st w w' tv (keys (srcs [s])) := by
  unfold Zab2 at h
  split at h
  · rename_i b' i p cut
    obtain ⟨st', C', h, hrel', hs', hfr, htr, -⟩ := Z8i hrel (X.lowR _ (.inr (by simp only [Zq]; omega))) h hs
    obtain ⟨v, w', st2, C2, q1, q2, q3, q4, q5⟩ := Z0s (ty := ty) hrel' hs' (htr x vx hx) h t0 t1 v0 v1 hM hu hd9
    exact ⟨v, w', st2, C2, q1, q2, q3, q4, fun tv => hfr w' tv _ _ _ (fun _ h => h) (fun c hc => ⟨fun q => hc (by simp [srcs, keys, q]), fun q => by simpa [srcs, keys] using q⟩) (q5 tv)⟩
  · exact Z0s (ty := ty) hrel hs hx h t0 t1 v0 v1 hM hu hd9
theorem op_append {c : Call} (hE : EnvOk P E) (ho : o.op = .call c) (hc : c.callee = .builtin .append) (h : insts E o st k = some r) (hrel : Rel X C st a w) : Does P E X C st o a w k r := by
  simp only [insts, ho, hc, Zwr] at h
  obtain ⟨consts, hrun⟩ := Zgh (P := P) (a := a) ho hc
  split at h
  rotate_left
  · cases h
  rename_i t u ts ht
  obtain ⟨T, h2, -, hf⟩ := Ze7 hE h
  clear h
  obtain ⟨U, h, -, hfu⟩ := Ze7 hE h2
  clear h2
  have t0 : c.argTypes[0]? = some t := by rw [← Array.getElem?_toList, ht]; rfl
  have t1 : c.argTypes[1]? = some u := by rw [← Array.getElem?_toList, ht]; rfl
  split at h
  rotate_left
  · cases h
  rename_i d s x b e hd hargs
  split at h
  rotate_left
  · cases h
  rename_i hd9
  have hd9 : d < 500 := Nat.lt_of_succ_le (by simpa [Nat.blt] using hd9)
  have hu : NoInt P u ∧ Zab2 st d e s x k = some r := by
    split at h
    · exact ⟨.inl (Zme (Zg0 hfu)), h⟩
    · obtain ⟨v, i, q, _⟩ := Ziy (Zg0 hfu)
      exact ⟨.inr ⟨v, q⟩, h⟩
    · cases h
  obtain ⟨hu, h⟩ := hu
  match hl : c.args.toList, hargs with
  | [sx, xx], hargs =>
    simp only [List.map_cons, List.map_nil, List.cons.injEq, and_true] at hargs
    obtain ⟨rfl, rfl⟩ := hargs
    have v0 : (c.args.map a.eval)[0]? = some (a.eval sx) := by rw [Array.getElem?_map, ← Array.getElem?_toList, hl]; rfl
    have v1 : (c.args.map a.eval)[1]? = some (a.eval xx) := by rw [Array.getElem?_map, ← Array.getElem?_toList, hl]; rfl
    obtain ⟨v, w', st', C', q1, q2, q3, q4, q5⟩ := Zag3 (ty := o.type) hrel (hrel.ev sx) (hrel.ev xx) h t0 t1 v0 v1 (Zg0 hf) hu hd9
    rw [← hd] at q4
    have htr : trOf E st o = keys (srcs [evD st sx]) := by simp only [trOf, ho, hc, hl]
    exact Z4f (by rw [htr]; exact q5 _) (by rw [hrun]; exact run_v _ q1) q2 q3 q4
  | [], e => cases e
  | [_], e => simp at e
  | _ :: _ :: _ :: _, e => simp at e
end
end Go.Proofs.YtcpecilmkkmaiaaGreat.V
namespace Go.Proofs.YtcpecilmkkmaiaaGreat.V
open Go Go.RowKit
section
variable {P : Program} {E : Env} {X : Fix} {C C' : Ctx} {st st' : St} {a : Act} {w w' : World} {R : Type} {k : St → Option R} {r : R} {o : Oper} {Q : Exit → Act → World → Prop}
def Zuo (P : Program) (E : Env) : Prop := ∀ {R : Type} {X : Fix} {C : Ctx} {st : St} {a : Act} {w : World} {k : St → Option R} {r : R} {o : Oper} {Q : Exit → Act → World → Prop} {c : Call} {f : Operand}, o.op = .call c → c.callee = .value f → insts E o st k = some r → Rel X C st a w → o.wp P a w (fun a' w' => Goes X k r a' w' ∧ Frm C st w w' (tvOf E st o) (trOf E st o)) Q
theorem Zzy (hE : EnvOk P E) (hv : ∀ (c : Call) (f : Operand), o.op = .call c → c.callee ≠ .value f) (h : insts E o st k = some r) (hrel : Rel X C st a w) : Does P E X C st o a w k r := by
  cases ho : o.op
  case move x => exact op_move (.inl ho) (by simpa only [insts, ho] using h) hrel
  case assign x => exact op_move (.inr ho) (by simpa only [insts, ho] using h) hrel
  case nilCheck x => exact Zagd ho h hrel
  case pick x y z => exact op_pick ho h hrel
  case binOp op t x y u =>
    simp only [insts, ho, Zji, Zaa] at h
    split at h
    · rename_i e; exact op_nil hE ho e h hrel
    · exact op_bin hE ho h hrel
  case unOp => exact op_un ho h hrel
  case alloc => exact op_alloc hE ho h hrel
  case box => exact op_box hE ho h hrel
  case build => exact op_build hE ho h hrel
  case buildSlice => exact Z9t hE ho h hrel
  case load => exact op_load hE ho h hrel
  case store => exact op_store hE ho h hrel
  case fieldAddr => exact Zac2 hE ho h hrel
  case field => exact op_field hE ho h hrel
  case extract => exact Zah8 ho h hrel
  case indexAddr => exact Zac1 hE ho h hrel
  case index => exact op_index hE ho h hrel
  case makeSlice => exact Zac0 hE ho h hrel
  case convert => exact Zah9 hE ho h hrel
  case slice t x lo hi mx =>
    cases mx with
    | none => exact op_slice hE ho h hrel
    | some m => exact op_slice0 hE ho h hrel
  case makeFunc fn fs l =>
    cases fn with
    | func f => exact Zage ho h hrel
    | _ => simp only [insts, ho] at h; cases h
  case call c =>
    cases hc : c.callee with
    | builtin b =>
      cases b
      case len => exact op_len hE ho hc h hrel
      case append => exact op_append hE ho hc h hrel
      case copy => exact op_copy hE ho hc h hrel
      case min => exact op_min (.inl rfl) ho hc h hrel
      case max => exact op_min (.inr rfl) ho hc h hrel
      all_goals
        simp only [insts, ho, hc, Zwr] at h
        cases h
    | value f => exact absurd hc (hv c f ho)
    | invoke x y =>
      simp only [insts, ho, hc, Zwr] at h
      cases h
  all_goals
    simp only [insts, ho] at h
    cases h
theorem Does.wpf (h : Does P E X C st o a w k r) : o.wp P a w (fun a' w' => Goes X k r a' w' ∧ Frm C st w w' (tvOf E st o) (trOf E st o)) Q := by
  rcases h with ⟨v, h, g⟩ | ⟨_, w', hf, ⟨v, h, g⟩ | ⟨h, g⟩⟩
  · unfold Oper.wp
    rw [h w (fun _ _ => rfl)]
    exact ⟨g, Frm.refl⟩
  · unfold Oper.wp
    rw [h]
    exact ⟨g, hf⟩
  · unfold Oper.wp
    rw [h]
    exact ⟨g, hf⟩
theorem Z61 (hE : EnvOk P E) (hC : Zuo P E) (h : insts E o st k = some r) (hrel : Rel X C st a w) : o.wp P a w (fun a' w' => Goes X k r a' w' ∧ Frm C st w w' (tvOf E st o) (trOf E st o)) Q := by
  by_cases hv : ∃ (c : Call) (f : Operand), o.op = .call c ∧ c.callee = .value f
  · obtain ⟨c, f, ho, hc⟩ := hv
    exact hC ho hc h hrel
  · exact (Zzy hE (fun c f ho hc => hv ⟨c, f, ho, hc⟩) h hrel).wpf
theorem Zago (hE : EnvOk P E) (hC : Zuo P E) (h : insts E o st k = some r) (hrel : Rel X C st a w) : o.wp P a w (Goes X k r) Q :=
  Oper.wp_mono (fun a w h => h.1) (Z61 hE hC h hrel)
theorem Z5v {C : Ctx} {w : World} : RA C w (.tup []) undef := ⟨[], rfl, rfl⟩
theorem Z3x {d : Nat} {want : Bool} {yes no : St → Option R} (h : guardK st d want yes no = some r) (hrel : Rel X C st a w) :
    (∃ b, a.tmps.getD d undef = .bool b ∧ (if b = want then yes st else no st) = some r) ∨ (a.tmps.getD d undef = undef ∧ no st = some r) := by
  simp only [guardK, Zji] at h
  split at h
  · rename_i e
    right
    have hr := hrel.tmps d
    have e : getL st.tmps d = .tup [] := e
    rw [e] at hr
    obtain ⟨vs, h1, h2⟩ := hr
    cases vs with
    | nil => exact ⟨h1, h⟩
    | cons v vs => cases h2
  · obtain ⟨b, e1, h⟩ := Z4l h hrel
    exact .inl ⟨b, e1, h⟩
theorem Zv3 {ops : Array Oper} {tmps : Array Value} {j d : Nat} (hd : (ops[j]?).bind (·.dst) = some d) (h : tmps.getD d undef = undef) : yielded ops tmps j = none := by
  unfold yielded
  rw [hd]
  rw [Array.getD_eq_getD_getElem?] at h
  cases e : tmps[d]? with
  | none => simp [e]
  | some v =>
    rw [e] at h
    have h : v = undef := by simpa using h
    simp [e, h, undef]
theorem Rel.putTmp {i : Nat} {x : A} (hrel : Rel X C st a w) (hx : RA C w x (a.tmps.getD i undef)) : Rel X C { st with tmps := putL st.tmps i x } a w := by
  refine { hrel with
    tlen := by simp only [Zjk]; exact hrel.tlen
    tmps := fun j => ?_ }
  rw [Zvu]
  split
  · rename_i e; rw [← e.1]; exact hx
  · exact hrel.tmps j
theorem Z0i : ∀ {l : List (Nat × Option Nat)} {st : St} {C : Ctx} {a : Act} {w : World} {k : St → Option R}, frozK l st k = some r → Rel X C st a w → ∃ st' C', k st' = some r ∧ Rel X C' st' a w
  | [], st, C, a, w, k, h, hrel => ⟨st, C, h, hrel⟩
  | (i, j) :: l, st, C, a, w, k, h, hrel => by
    simp only [frozK, Zgv] at h
    have h0 := hrel.tmps i
    split at h
    · rename_i b cut hm
      rw [hm] at h0
      simp only [Zg1] at h
      obtain ⟨rw', e', xs, h', F', H, hrw, h, hH, hC, hor, hF, hd, _⟩ := Zwd (k := fun e' xs => Zft { st with rows := drop st.rows b } fun st' => putLK st'.tmps i (.row e' (cutL xs cut)) fun T => frozK l ⟨T, st'.vars, st'.rows⟩ k) hrel h h0
      simp only [Zcz, Znv] at h
      rw [hd rfl] at hor
      obtain ⟨a', len, cap, hv, ho⟩ := hor.cut hC
      have h1 := hrel.dropRow b F' (fun k hk => ⟨rw', hrw, hF k hk⟩)
      have hS := RepO.toS (I := C.I) (J := fun k => C.I k ∨ F' k) (fun _ h => .inl h) (t := .row true e') (x := cutL xs cut) (F := F') (fun _ h => .inr h) ⟨a', len, cap, rfl, .inr ho⟩
      obtain ⟨a2, len2, cap2, e2, hsr⟩ := hS
      simp only [List.cons.injEq, Value.slice.injEq, and_true] at e2
      obtain ⟨rfl, rfl, rfl⟩ := e2
      exact Z0i h (h1.putTmp (i := i) (x := .row e' (cutL xs cut)) ⟨a', len, cap, hv, hsr⟩)
    · rename_i j m hm
      rw [hm] at h0
      obtain ⟨vs, hv, hs⟩ := h0
      have hj : RA C w (getL m j) ((vs[j]?).getD undef) := by
        rw [Zr7]
        cases e : m[j]? with
        | none => exact trivial
        | some x =>
          obtain ⟨u, q1, q2⟩ := hs.get e
          rw [q1]; exact q2
      split at h
      · rename_i b cut hm0
        rw [hm0] at hj
        simp only [Zg1] at h
        obtain ⟨rw', e', xs, h', F', H, hrw, h, hH, hC, hor, hF, hd, _⟩ := Zwd (k := fun e' xs => Zft { st with rows := drop st.rows b } fun st' => putLK m j (.row e' (cutL xs cut)) fun m => putLK st'.tmps i (.agg m) fun T => frozK l ⟨T, st'.vars, st'.rows⟩ k) hrel h hj
        simp only [Zcz, Znv, Zd4] at h
        rw [hd rfl] at hor
        obtain ⟨a', len, cap, hv', ho⟩ := hor.cut hC
        have h1 := hrel.dropRow b F' (fun k hk => ⟨rw', hrw, hF k hk⟩)
        have hS := RepO.toS (I := C.I) (J := fun k => C.I k ∨ F' k) (fun _ h => .inl h) (t := .row true e') (x := cutL xs cut) (F := F') (fun _ h => .inr h) ⟨a', len, cap, rfl, .inr ho⟩
        obtain ⟨a2, len2, cap2, e2, hsr⟩ := hS
        simp only [List.cons.injEq, Value.slice.injEq, and_true] at e2
        obtain ⟨rfl, rfl, rfl⟩ := e2
        have h2 := h1.tmps i
        simp only [hm] at h2
        obtain ⟨vs1, hv1, hs1⟩ := h2
        rw [hv] at hv1
        have hv1 : vs = vs1 := by simpa using hv1
        subst hv1
        have hs2 : RAs { C with rows := drop C.rows b, I := fun k => C.I k ∨ F' k } w (m.set j (.row e' (cutL xs cut))) vs := by
          by_cases hjl : j < m.length
          · have hl1 := hs1.length
            have hx' := hs1.set j (a := .row e' (cutL xs cut)) (v := (vs[j]?).getD undef) ⟨a', len, cap, hv', hsr⟩
            have e : vs.set j ((vs[j]?).getD undef) = vs := by
              rw [List.getElem?_eq_getElem (by omega)]
              simp
            rw [e] at hx'
            exact hx'
          · rw [List.set_eq_of_length_le (by omega)]; exact hs1
        exact Z0i (by simpa only [Zd4] using h) (h1.putTmp (i := i) (x := .agg (m.set j (.row e' (cutL xs cut)))) (by rw [hv]; exact ⟨vs, rfl, hs2⟩))
      · exact Z0i h hrel
    · exact Z0i h hrel
theorem Zq9 (hE : EnvOk P E) (hC : Zuo P E) (hQ : ∀ st C a w, k st = some r → Rel X C st a w → Q .normal a w) {all : List Oper} {ops : Array Oper} (hall : ops.toList = all) :
    ∀ {l : List Oper} {st : St} {C : Ctx} {a : Act} {w : World}, Zacz E all l st k = some r → Rel X C st a w → wpList P ops Q l a w
  | [], st, C, a, w, h, hrel => hQ _ _ _ _ h hrel
  | o :: l, st, C, a, w, h, hrel => by
    simp only [Zacz] at h
    unfold wpList
    have step : frozK (lendS E o st) st (fun st => insts E o st (fun st => Zacz E all l st k)) = some r → (o.wp P a w (wpList P ops Q l) Q ∨ (o.asks P a w ∧ LetsOut Q)) := fun h => by
      obtain ⟨st', C', h, hrel'⟩ := Z0i h hrel
      exact .inl (Oper.wp_mono (fun a w ⟨st, C, h1, h2⟩ => Zq9 hE hC hQ hall h1 h2) (Zago (Q := Q) hE hC h hrel'))
    cases hg : o.guard with
    | none =>
      rw [hg] at h
      rw [if_pos (by simp [Region.wanted, hg])]
      exact step h
    | some g =>
      obtain ⟨j, want⟩ := g
      rw [hg] at h
      simp only at h
      cases hd : (all[j]?).bind (·.dst) with
      | none => rw [hd] at h; cases h
      | some d =>
        rw [hd] at h
        have hd' : (ops[j]?).bind (·.dst) = some d := by rw [← Array.getElem?_toList, hall]; exact hd
        rcases Z3x h hrel with ⟨b, e1, h⟩ | ⟨e1, h⟩
        · have hy : yielded ops a.tmps j = some b := by
            have e2 : a.tmps[d]? = some (.bool b) := by
              rw [Array.getD_eq_getD_getElem?] at e1
              cases e3 : a.tmps[d]? with
              | none => rw [e3] at e1; cases e1
              | some v => rw [e3] at e1; simpa using e1
            unfold yielded
            rw [hd']
            simp [e2]
          by_cases hb : b = want
          · rw [if_pos hb] at h
            rw [if_pos (by simp [Region.wanted, hg, hy, hb])]
            exact step h
          · rw [if_neg hb, Zaa] at h
            rw [if_neg (by simp [Region.wanted, hg, hy, hb])]
            exact Zq9 hE hC hQ hall h (hrel.put o.dst Z5v)
        · rw [Zaa] at h
          rw [if_neg (by simp [Region.wanted, hg, Zv3 hd' e1])]
          exact Zq9 hE hC hQ hall h (hrel.put o.dst Z5v)
end
end Go.Proofs.YtcpecilmkkmaiaaGreat.V
namespace Go.Proofs.YtcpecilmkkmaiaaGreat.V
open Go Go.RowKit
theorem Zu4 : ∀ {p q : Path}, Zls p q = true → p = q
  | [], [], _ => rfl
  | .fld i :: p, .fld j :: q, h => by
    simp only [Zls, Bool.and_eq_true] at h
    rw [Nat.eq_of_beq_eq_true h.1, Zu4 h.2]
  | .idx _ :: _, [], h => by simp [Zls] at h
  | .fld _ :: _, [], h => by simp [Zls] at h
  | [], _ :: _, h => by simp [Zls] at h
  | .idx _ :: _, _ :: _, h => by simp [Zls] at h
  | .fld _ :: _, .idx _ :: _, h => by simp [Zls] at h
section
variable {C : Ctx} {w : World}
mutual
theorem Zacn : ∀ {a b : A} {v : Value}, sameA a b = true → RA C w b v → RA C w a v
  | .dead, _, _, _, _ => trivial
  | .nil, .nil, _, _, h => h
  | .ref b p none, .ref c q none, v, hs, h => by
    simp only [sameA, Bool.and_eq_true] at hs
    rw [Nat.eq_of_beq_eq_true hs.1, Zu4 hs.2]; exact h
  | .vptr b o, .vptr c q, v, hs, h => by
    simp only [sameA, Bool.and_eq_true] at hs
    rw [Nat.eq_of_beq_eq_true hs.1, Nat.eq_of_beq_eq_true hs.2]; exact h
  | .rptr b p, .rptr c q, v, hs, h => by
    simp only [sameA, Bool.and_eq_true] at hs
    rw [Nat.eq_of_beq_eq_true hs.1, Zu4 hs.2]; exact h
  | .fn f l, .fn g m, v, hs, ⟨vs, h1, h2⟩ => by
    simp only [sameA, Bool.and_eq_true] at hs
    rw [Nat.eq_of_beq_eq_true hs.1]; exact ⟨vs, h1, Z5q hs.2 h2⟩
  | .agg l, .agg m, v, hs, ⟨vs, h1, h2⟩ => ⟨vs, h1, Z5q (by simpa only [sameA] using hs) h2⟩
  | .int _ _, b, _, h, _ => by cases b <;> simp [sameA] at h
  | .bool _, b, _, h, _ => by cases b <;> simp [sameA] at h
  | .str _, b, _, h, _ => by cases b <;> simp [sameA] at h
  | .row _ _, b, _, h, _ => by cases b <;> simp [sameA] at h
  | .sptr _ _, b, _, h, _ => by cases b <;> simp [sameA] at h
  | .tup _, b, _, h, _ => by cases b <;> simp [sameA] at h
  | .ref _ _ (some _), b, _, h, _ => by cases b <;> simp [sameA] at h
  | .ref _ _ none, .ref _ _ (some _), _, h, _ => by simp [sameA] at h
  | .nil, .int _ _, _, h, _ | .nil, .bool _, _, h, _ | .nil, .str _, _, h, _ | .nil, .row _ _, _, h, _ | .nil, .ref _ _ _, _, h, _ | .nil, .vptr _ _, _, h, _ | .nil, .rptr _ _, _, h, _ | .nil, .sptr _ _, _, h, _ | .nil, .fn _ _, _, h, _ | .nil, .agg _, _, h, _ | .nil, .tup _, _, h, _ | .nil, .dead, _, h, _ => by simp [sameA] at h
  | .ref _ _ none, .int _ _, _, h, _ | .ref _ _ none, .bool _, _, h, _ | .ref _ _ none, .str _, _, h, _ | .ref _ _ none, .row _ _, _, h, _ | .ref _ _ none, .nil, _, h, _ | .ref _ _ none, .vptr _ _, _, h, _ | .ref _ _ none, .rptr _ _, _, h, _ | .ref _ _ none, .sptr _ _, _, h, _ | .ref _ _ none, .fn _ _, _, h, _ | .ref _ _ none, .agg _, _, h, _ | .ref _ _ none, .tup _, _, h, _ | .ref _ _ none, .dead, _, h, _ => by simp [sameA] at h
  | .vptr _ _, .int _ _, _, h, _ | .vptr _ _, .bool _, _, h, _ | .vptr _ _, .str _, _, h, _ | .vptr _ _, .row _ _, _, h, _ | .vptr _ _, .nil, _, h, _ | .vptr _ _, .ref _ _ _, _, h, _ | .vptr _ _, .rptr _ _, _, h, _ | .vptr _ _, .sptr _ _, _, h, _ | .vptr _ _, .fn _ _, _, h, _ | .vptr _ _, .agg _, _, h, _ | .vptr _ _, .tup _, _, h, _ | .vptr _ _, .dead, _, h, _ => by simp [sameA] at h
  | .rptr _ _, .int _ _, _, h, _ | .rptr _ _, .bool _, _, h, _ | .rptr _ _, .str _, _, h, _ | .rptr _ _, .row _ _, _, h, _ | .rptr _ _, .nil, _, h, _ | .rptr _ _, .ref _ _ _, _, h, _ | .rptr _ _, .vptr _ _, _, h, _ | .rptr _ _, .sptr _ _, _, h, _ | .rptr _ _, .fn _ _, _, h, _ | .rptr _ _, .agg _, _, h, _ | .rptr _ _, .tup _, _, h, _ | .rptr _ _, .dead, _, h, _ => by simp [sameA] at h
  | .fn _ _, .int _ _, _, h, _ | .fn _ _, .bool _, _, h, _ | .fn _ _, .str _, _, h, _ | .fn _ _, .row _ _, _, h, _ | .fn _ _, .nil, _, h, _ | .fn _ _, .ref _ _ _, _, h, _ | .fn _ _, .rptr _ _, _, h, _ | .fn _ _, .sptr _ _, _, h, _ | .fn _ _, .vptr _ _, _, h, _ | .fn _ _, .agg _, _, h, _ | .fn _ _, .tup _, _, h, _ | .fn _ _, .dead, _, h, _ => by simp [sameA] at h
  | .agg _, .int _ _, _, h, _ | .agg _, .bool _, _, h, _ | .agg _, .str _, _, h, _ | .agg _, .row _ _, _, h, _ | .agg _, .nil, _, h, _ | .agg _, .ref _ _ _, _, h, _ | .agg _, .rptr _ _, _, h, _ | .agg _, .sptr _ _, _, h, _ | .agg _, .fn _ _, _, h, _ | .agg _, .vptr _ _, _, h, _ | .agg _, .tup _, _, h, _ | .agg _, .dead, _, h, _ => by simp [sameA] at h
theorem Z5q : ∀ {l m : List A} {vs : List Value}, sameL l m = true → RAs C w m vs → RAs C w l vs
  | [], [], _, _, h => h
  | a :: l, b :: m, _, hs, ⟨v, vs, e, h1, h2⟩ => by
    simp only [sameL, Bool.and_eq_true] at hs
    exact ⟨v, vs, e, Zacn hs.1 h1, Z5q hs.2 h2⟩
  | [], _ :: _, _, h, _ => by simp [sameL] at h
  | _ :: _, [], _, h, _ => by simp [sameL] at h
end
variable {R : Type} {r : R}
theorem leafS {t : Ty} {a : A} {c : t.den → Option R} (h : (match a with | .sptr t' x => if h : shape t' = shape t then c (conv h x) else none | _ => none) = some r) : ∃ x, c x = some r ∧ ∀ v, RA C w a v → RA C w (.sptr t x) v := by
  split at h
  · rename_i t' x
    split at h
    · rename_i hsh
      exact ⟨_, h, fun v ⟨ad, vs, h1, h2, h3, h4, h5⟩ => ⟨ad, vs, h1, h2, h3, h4, h5.conv hsh⟩⟩
    · cases h
  · cases h
theorem Zafa {t : Ty} {a : A} {c : t.den → Option R} (h : Znu t a c = some r) : ∃ x, c x = some r ∧ ∀ v, RA C w a v → RA C w (leafA t x) v := by
  cases t with
  | int k =>
    simp only [Znu] at h
    split at h
    · split at h
      · rename_i e; subst e; exact ⟨_, h, fun _ h => h⟩
      · cases h
    · cases h
  | bool =>
    simp only [Znu] at h
    split at h
    · exact ⟨_, h, fun _ h => h⟩
    · cases h
  | str =>
    simp only [Znu] at h
    split at h
    · exact ⟨_, h, fun _ h => h⟩
    · cases h
  | row o e =>
    simp only [Znu] at h
    split at h
    · exact ⟨_, h, fun v hv => ⟨none, 0, 0, hv, rfl, Nat.le_refl _, .inl rfl⟩⟩
    · split at h
      · rename_i hsh
        exact ⟨_, h, fun v ⟨ad, len, cap, h1, h2⟩ => ⟨ad, len, cap, h1, h2.convL hsh⟩⟩
      · cases h
    · cases h
  | arr n e => exact leafS h
  | pair b d => exact leafS h
  | unit => exact leafS h
  | any => exact leafS h
theorem Z6z : ∀ {l : List Kd} {m : List A} {c : (kdsTy l).den → Option R}, Zlt l m c = some r → ∃ x, c x = some r ∧ ∀ vs, RAs C w m vs → RAs C w (Z3w l x) vs
  | [], [], c, h => ⟨(), h, fun _ h => h⟩
  | .leaf t :: l, a :: m, c, h => by
    simp only [Zlt] at h
    obtain ⟨x, h, hx⟩ := Zafa (C := C) (w := w) h
    obtain ⟨y, h, hy⟩ := Z6z h
    exact ⟨(x, y), h, fun vs ⟨v, vs', e, h1, h2⟩ => ⟨v, vs', e, hx _ h1, hy _ h2⟩⟩
  | .fix b :: l, a :: m, c, h => by
    simp only [Zlt] at h
    split at h
    · rename_i hs
      obtain ⟨y, h, hy⟩ := Z6z h
      exact ⟨y, h, fun vs ⟨v, vs', e, h1, h2⟩ => ⟨v, vs', e, Zacn hs h1, hy _ h2⟩⟩
    · cases h
  | .leaf _ :: _, [], c, h => by simp only [Zlt] at h; cases h
  | .fix _ :: _, [], c, h => by simp only [Zlt] at h; cases h
  | [], _ :: _, c, h => by simp only [Zlt] at h; cases h
theorem Zs8 {T0 : List A} {val : Nat → Value} (hT : ∀ i, RA C w (getL T0 i) (val i)) : ∀ {l : List (Nat × TKd)} {c : (Z8k l).den → Option R}, Zgi T0 l c = some r →
    ∃ x, c x = some r ∧ ∀ T, (∀ i, RA C w (getL T i) (val i)) → (∀ i, RA C w (getL (Zsx l x T) i) (val i)) ∧ (Zsx l x T).length = T.length
  | [], c, h => ⟨(), h, fun T hT => ⟨hT, rfl⟩⟩
  | (i, .one (.leaf t)) :: l, c, h => by
    simp only [Zgi, Zgv] at h
    obtain ⟨x, h, hx⟩ := Zafa (C := C) (w := w) h
    obtain ⟨y, h, hy⟩ := Zs8 hT h
    refine ⟨(x, y), h, fun T hT' => ?_⟩
    have := hy (putL T i (leafA t x)) (fun j => by
      rw [Zvu]
      split
      · rename_i e; rw [← e.1]; exact hx _ (hT i)
      · exact hT' j)
    exact ⟨this.1, this.2.trans (Zjk _ _ _)⟩
  | (i, .one (.fix b)) :: l, c, h => by
    simp only [Zgi, Zgv] at h
    split at h
    · rename_i hs
      obtain ⟨y, h, hy⟩ := Zs8 hT h
      refine ⟨y, h, fun T hT' => ?_⟩
      have := hy (putL T i b) (fun j => by
        rw [Zvu]
        split
        · rename_i e; rw [← e.1]; exact Zacn hs (hT i)
        · exact hT' j)
      exact ⟨this.1, this.2.trans (Zjk _ _ _)⟩
    · cases h
  | (i, .agg ks) :: l, c, h => by
    simp only [Zgi, Zgv] at h
    split at h
    rotate_left
    · cases h
    rename_i m hm
    obtain ⟨x, h, hx⟩ := Z6z (C := C) (w := w) h
    obtain ⟨y, h, hy⟩ := Zs8 hT h
    refine ⟨(x, y), h, fun T hT' => ?_⟩
    have h0 := hT i
    rw [hm] at h0
    obtain ⟨vs, hv, hs⟩ := h0
    have := hy (putL T i (.agg (Z3w ks x))) (fun j => by
      rw [Zvu]
      split
      · rename_i e; rw [← e.1]; exact ⟨vs, hv, hx vs hs⟩
      · exact hT' j)
    exact ⟨this.1, this.2.trans (Zjk _ _ _)⟩
  | (i, .cap f t) :: l, c, h => by
    simp only [Zgi, Zgv] at h
    split at h
    rotate_left
    · cases h
    rename_i f' p hm
    split at h
    rotate_left
    · cases h
    rename_i hf
    obtain rfl := Nat.eq_of_beq_eq_true hf
    obtain ⟨x, h, hx⟩ := leafS (C := C) (w := w) (c := fun x => Zgi T0 l fun y => c (x, y)) h
    obtain ⟨y, h, hy⟩ := Zs8 hT h
    refine ⟨(x, y), h, fun T hT' => ?_⟩
    have h0 := hT i
    rw [hm] at h0
    obtain ⟨vs, hv, v1, vs1, e1, h1, h2⟩ := h0
    have := hy (putL T i (.fn f [.sptr t x])) (fun j => by
      rw [Zvu]
      split
      · rename_i e; rw [← e.1]; exact ⟨vs, hv, v1, vs1, e1, hx _ h1, h2⟩
      · exact hT' j)
    exact ⟨this.1, this.2.trans (Zjk _ _ _)⟩
theorem Zaeg {V : List (Nat × List A)} : ∀ {l : List (Nat × List Kd)} {c : (Zag9 l).den → Option R}, Zxn V l c = some r →
    ∃ x, c x = some r ∧ ∀ i m', look (Zvt l x) i = some m' → ∃ m, look V i = some m ∧ ∀ vs, RAs C w m vs → RAs C w m' vs
  | [], c, h => ⟨(), h, fun i m' h => by simp [Zvt, look] at h⟩
  | (i, ks) :: l, c, h => by
    simp only [Zxn] at h
    split at h
    · rename_i m hm
      obtain ⟨x, h, hx⟩ := Z6z (C := C) (w := w) h
      obtain ⟨y, h, hy⟩ := Zaeg h
      refine ⟨(x, y), h, fun j m' hj => ?_⟩
      simp only [Zvt, look] at hj
      split at hj
      · rename_i e
        obtain rfl := Option.some.inj hj
        rw [← Nat.eq_of_beq_eq_true e]
        exact ⟨m, hm, hx⟩
      · exact hy j m' hj
    · cases h
theorem Zaer {W : List (Nat × Rw)} : ∀ {l : List (Nat × Ty)} {c : (Zahs l).den → Option R}, Zxo W l c = some r → ∃ x, c x = some r ∧ ∀ i s, look (Ziu l x) i = some s → look W i = some s
  | [], c, h => ⟨(), h, fun i m' h => by simp [Ziu, look] at h⟩
  | (i, e) :: l, c, h => by
    simp only [Zxo] at h
    split at h
    · rename_i e' xs hm
      split at h
      · rename_i he
        subst he
        obtain ⟨y, h, hy⟩ := Zaer h
        refine ⟨(xs, y), h, fun j m' hj => ?_⟩
        simp only [Ziu, look] at hj
        split at hj
        · rename_i e
          obtain rfl := Option.some.inj hj
          rw [← Nat.eq_of_beq_eq_true e]
          exact hm
        · exact hy j m' hj
      · cases h
    · cases h
theorem padL_dead (n : Nat) : ∀ i, getL (padL n []) i = .dead := by
  induction n with
  | zero => intro i; rfl
  | succ n ih => intro i; cases i; rfl; exact ih _
theorem Z3j (n : Nat) : ∀ l, (padL n l).length = n := by
  induction n with
  | zero => intro l; rfl
  | succ n ih => intro l; cases l <;> simp [padL, ih]
theorem Zaca {X : Fix} {st : St} {a : Act} {n : Nat} {p : Tpl} {c : p.ty.den → Option R} (hrel : Rel X C st a w) (h : Zys n p st c = some r) : ∃ x, c x = some r ∧ ∃ C', Rel X C' (p.head n x) a w := by
  obtain ⟨T, V, W⟩ := st
  simp only [Zys] at h
  split at h
  · cases h
  rename_i hn
  have hn : T.length = n := Nat.eq_of_beq_eq_true (by rw [← Zky]; simpa using hn)
  obtain ⟨x, h, hx⟩ := Zs8 (C := C) (w := w) (T0 := T) (val := fun i => a.tmps.getD i undef) hrel.tmps h
  obtain ⟨y, h, hy⟩ := Zaeg (C := C) (w := w) h
  obtain ⟨z, h, hz⟩ := Zaer h
  refine ⟨(x, y, z), h, { C with rows := Ziu p.rows z }, ?_⟩
  have hr : ∀ c s, look (Ziu p.rows z) c = some s → look C.rows c = some s := fun c s q => by rw [hrel.rowsEq]; exact hz c s q
  have hRA : ∀ {x : A} {v : Value}, RA C w x v → RA { C with rows := Ziu p.rows z } w x v := fun h => h.shrink (C := C) (C' := { C with rows := Ziu p.rows z }) rfl rfl rfl rfl hr
  have hRAs : ∀ {x : List A} {v : List Value}, RAs C w x v → RAs { C with rows := Ziu p.rows z } w x v := fun h => h.shrink (C := C) (C' := { C with rows := Ziu p.rows z }) rfl rfl rfl rfl hr
  obtain ⟨g1, g2⟩ := hx (padL n []) (fun i => by rw [padL_dead]; exact trivial)
  refine {
    rowsEq := rfl
    defers := hrel.defers
    tlen := by rw [hrel.tlen]; simp only [Tpl.head]; rw [g2, Z3j]; exact hn
    tmps := fun i => hRA (g1 i)
    vars := fun c m e => ?_
    vdis := fun c d l m hcd h1 h2 => ?_
    vI := fun c m e => ?_
    vF := fun c m d s h1 h2 => ?_
    rows := fun c s e => hrel.rows c s (hz c s e)
    rdis := fun c d s u hcd h1 h2 => hrel.rdis c d s u hcd (hz c s h1) (hz d u h2)
    rI := fun c s e => hrel.rI c s (hz c s e)
    Ilt := hrel.Ilt
    Flt := fun c s e => hrel.Flt c s (hz c s e)
    Fown := fun c s e => hrel.Fown c s (hz c s e)
    Vown := fun c m e i hi => ?_
    pins := fun c L hp hn => by
      cases e : look (Zvt p.vars y) c with
      | none => exact absurd e hn
      | some m =>
        obtain ⟨m', e1, _⟩ := hy c m e
        exact hrel.pins c L hp (by rw [e1]; simp)
    pinsR := fun c H' hp hn => by
      cases e : look (Ziu p.rows z) c with
      | none => exact absurd e hn
      | some s => exact hrel.pinsR c H' hp (by rw [hz c s e]; simp)
    Iown := hrel.Iown
    frame := hrel.frame }
  · obtain ⟨m', e1, e2⟩ := hy c m e
    obtain ⟨vs, q1, q2⟩ := hrel.vars c m' e1
    exact ⟨vs, hRAs (e2 vs q1), q2⟩
  · obtain ⟨l', e1, _⟩ := hy c l h1
    obtain ⟨m', e2, _⟩ := hy d m h2
    exact hrel.vdis c d l' m' hcd e1 e2
  · obtain ⟨m', e1, e2⟩ := hy c m e
    exact hrel.vI c m' e1
  · obtain ⟨m', e1, e2⟩ := hy c m h1
    exact hrel.vF c m' d s e1 (hz d s h2)
  · obtain ⟨m', e1, e2⟩ := hy c m e
    obtain ⟨vs, q1, q2⟩ := hrel.vars c m' e1
    have := (e2 vs q1).length
    have := q1.length
    exact hrel.Vown c m' e1 i (by omega)
end
end Go.Proofs.YtcpecilmkkmaiaaGreat.V
namespace Go.Proofs.YtcpecilmkkmaiaaGreat.V
open Go Go.RowKit
section
variable {P : Program} {E : Env} {X : Fix} {C C' : Ctx} {st st' : St} {a : Act} {w w' : World} {R : Type} {r : R}
structure Apart (C : Ctx) (st : St) (S : Zd) : Prop where
  I : Dis S C.I
  F : ∀ c r, look st.rows c = some r → Dis S (C.F c)
  V : ∀ c l, look st.vars c = some l → ¬ S (C.var c).1
theorem Loose.apart {S : Zd} (h : Loose X C st w S) : Apart C st S := ⟨h.I, h.F, h.V⟩
structure Laid (X : Fix) (w : World) (C C' : Ctx) (st st' : St) (O : Zd) (b b' : Nat) : Prop where
  le : b ≤ b'
  I : C'.I = C.I
  var : C'.var = C.var
  vars : ∀ c m, look st'.vars c = some m → ∃ m', look st.vars c = some m' ∧ m.length = m'.length
  vars2 : ∀ c m, look st.vars c = some m → ∃ m', look st'.vars c = some m' ∧ m'.length = m.length
  apart : ∀ S, Apart C st S → Dis S O → Apart C' st' S
  keep : ∀ x v, RA C w x v → (∀ c, mR c x → c < b ∨ b' ≤ c) → RA C' w x v
  keeps : ∀ x v, RAs C w x v → (∀ c, mRs c x → c < b ∨ b' ≤ c) → RAs C' w x v
theorem Laid.loose {O : Zd} {b b' : Nat} (h : Laid X w C C' st st' O b b') (S : Zd) (q : Loose X C st w S) (d : Dis S O) : Loose X C' st' w S :=
  ⟨(h.apart S q.apart d).I, (h.apart S q.apart d).F, (h.apart S q.apart d).V, q.lt, q.own⟩
theorem Laid.refl (b : Nat) : Laid X w C C st st (fun _ => False) b b :=
  ⟨Nat.le_refl _, rfl, rfl, fun c m h => ⟨m, h, rfl⟩, fun c m h => ⟨m, h, rfl⟩, fun S h _ => h, fun x v h _ => h, fun x v h _ => h⟩
theorem Laid.mono {O O' : Zd} {b b' : Nat} (h : Laid X w C C' st st' O b b') (hs : Sub O O') : Laid X w C C' st st' O' b b' :=
  ⟨h.le, h.I, h.var, h.vars, h.vars2, fun S q d => h.apart S q (fun k q1 q2 => d k q1 (hs k q2)), h.keep, h.keeps⟩
theorem Laid.trans {C2 : Ctx} {st2 : St} {O O' : Zd} {b b' b2 : Nat} (h : Laid X w C C' st st' O b b') (k : Laid X w C' C2 st' st2 O' b' b2) : Laid X w C C2 st st2 (fun i => O i ∨ O' i) b b2 := by
  refine ⟨Nat.le_trans h.le k.le, k.I.trans h.I, k.var.trans h.var, fun c m e => ?_, fun c m e => ?_, fun S q d => k.apart S (h.apart S q (fun i q1 q2 => d i q1 (.inl q2))) (fun i q1 q2 => d i q1 (.inr q2)), fun x v q hm => ?_, fun x v q hm => ?_⟩
  · obtain ⟨m', e1, e2⟩ := k.vars c m e
    obtain ⟨m2, e3, e4⟩ := h.vars c m' e1
    exact ⟨m2, e3, e2.trans e4⟩
  · obtain ⟨m', e1, e2⟩ := h.vars2 c m e
    obtain ⟨m2, e3, e4⟩ := k.vars2 c m' e1
    exact ⟨m2, e3, e4.trans e2⟩
  · have l1 := h.le
    have l2 := k.le
    exact k.keep x v (h.keep x v q (fun c hc => (hm c hc).imp id (fun q => by omega))) (fun c hc => (hm c hc).imp (fun q => by omega) id)
  · have l1 := h.le
    have l2 := k.le
    exact k.keeps x v (h.keeps x v q (fun c hc => (hm c hc).imp id (fun q => by omega))) (fun c hc => (hm c hc).imp (fun q => by omega) id)
theorem pureL_mR {t : Ty} {x : t.den} : ∀ c, ¬ mRs c (pureL t x) := by
  induction t with
  | int k => intro c h; simp [pureL, mRs, mR] at h
  | bool => intro c h; simp [pureL, mRs, mR] at h
  | str => intro c h; simp [pureL, mRs, mR] at h
  | row o e => intro c h; simp [pureL, mRs, mR] at h
  | unit => intro c h; simp [pureL, mRs] at h
  | any => intro c h; simp [pureL, mRs, mR] at h
  | pair p q ihp ihq =>
    intro c h
    simp only [pureL, Zo] at h
    have app : ∀ l m : List A, mRs c (l ++ m) → mRs c l ∨ mRs c m := by
      intro l
      induction l with
      | nil => exact fun m h => .inr h
      | cons y l ih => exact fun m h => h.elim (fun h => .inl (.inl h)) (fun h => (ih m h).imp .inr id)
    exact (app _ _ h).elim (ihp c) (ihq c)
  | arr n e ih =>
    intro c h
    simp only [pureL, Zaiy] at h
    have app : ∀ l m : List A, mRs c (l ++ m) → mRs c l ∨ mRs c m := by
      intro l
      induction l with
      | nil => exact fun m h => .inr h
      | cons y l ih => exact fun m h => h.elim (fun h => .inl (.inl h)) (fun h => (ih m h).imp .inr id)
    have : ∀ xs : List e.den, ¬ mRs c (mapL (pureL e) xs).flatten := by
      intro xs
      induction xs with
      | nil => exact fun h => h
      | cons y xs ihx => exact fun h => (app _ _ (by simpa only [mapL, List.flatten_cons] using h)).elim (ih c) ihx
    exact this _ h
theorem Z93 {c : Nat} : ∀ {l m : List A}, mRs c (l ++ m) → mRs c l ∨ mRs c m
  | [], _, h => .inr h
  | _ :: l, _, h => h.elim (fun h => .inl (.inl h)) (fun h => (Z93 (l := l) h).imp .inr id)
theorem Zu9 {t : Ty} {x : t.den} {us : List Value} {O : Zd} {b : Nat} (hrel : Rel X C st a w) (h : RepS w C.I t x us) :
    Rel X C st a w ∧ RAs C w (pureL t x) us ∧ (∀ c, mRs c (pureL t x) → b ≤ c ∧ c < b) ∧ Laid X w C C st st O b b :=
  ⟨hrel, Znw h, fun c q => absurd q (pureL_mR c), (Laid.refl b).mono (fun _ h => h.elim)⟩
def HdrV (v : Value) (H : Option Addr × Nat × Nat) : Prop := v = .slice H.1 H.2.1 H.2.2
def PinR (X : Fix) : Ty → Nat → List Value → Prop
  | .row true _, b, us => ∀ H', X.pinR b = some H' → us = [.slice H'.1 H'.2.1 H'.2.2]
  | .pair p q, b, us => PinR X p b (us.take p.size) ∧ PinR X q (Nat.add b (nrows p)) (us.drop p.size)
  | _, _, _ => True
theorem PinR.free : ∀ {t : Ty} {b : Nat} {us : List Value}, (∀ c, b ≤ c → X.pinR c = none) → PinR X t b us
  | .row true _, b, us, h => fun H' q => by rw [h b (Nat.le_refl _)] at q; cases q
  | .pair p q, b, us, h => ⟨PinR.free h, PinR.free (fun c hc => h c (by simp only [Zq] at hc; omega))⟩
  | .row false _, _, _, _ => trivial
  | .int _, _, _, _ => trivial
  | .bool, _, _, _ => trivial
  | .str, _, _, _ => trivial
  | .arr _ _, _, _, _ => trivial
  | .unit, _, _, _ => trivial
  | .any, _, _, _ => trivial
theorem Zhb : ∀ {t : Ty} {x : t.den} {b : Nat} {st : St} {C : Ctx} {k : List A → St → Nat → R} {us : List Value} {O : Zd}, Rel X C st a w → RepO w C.I t x none us O → Loose X C st w O → PinR X t b us →
    ∃ l st' C', Zjy t x b st k = k l st' (Nat.add b (nrows t)) ∧ Rel X C' st' a w ∧ RAs C' w l us ∧ (∀ c, mRs c l → b ≤ c ∧ c < Nat.add b (nrows t)) ∧ Laid X w C C' st st' O b (Nat.add b (nrows t))
  | .row true e, xs, b, st, C, k, us, O, hrel, ⟨ad, len, cap, hu, ho⟩, hL, hpR => by
    rcases ho with ho | ho
    · cases ho
    subst hu
    have hnew := hrel.newRow b e xs (ad, len, cap) O ho hL.I (fun c r _ e => hL.F c r e) hL.V hL.lt hL.own (fun H' q => by
      have := hpR H' q
      simp only [List.cons.injEq, Value.slice.injEq, and_true] at this
      obtain ⟨rfl, rfl, rfl⟩ := this
      rfl)
    refine ⟨[.ref b [] none], _, _, (by simp only [Zjy]; exact Zdf _ _ _ _ _), hnew.1, ⟨_, _, rfl, hnew.2, rfl⟩, fun c h => ?_, ?_⟩
    · rcases h with h | h
      · have h : b = c := h
        subst h
        exact ⟨Nat.le_refl _, Nat.lt_succ_self _⟩
      · exact h.elim
    · have hS : ∀ c, c ≠ b → Stays C (C.row b (ad, len, cap) O ⟨e, xs, none⟩) w w c := fun c hc =>
        ⟨by simp only [Ctx.row, Zao, if_neg (Ne.symm hc)], fun _ => by simp only [Ctx.row, if_neg hc], fun _ => by simp only [Ctx.row, if_neg hc], fun _ => Zg _ _⟩
      refine ⟨Nat.le_succ _, rfl, rfl, fun c m h => ?_, fun c m h => ⟨killL b [] m, by simp only [Zci, killS, Zcp, h]; rfl, Zds _ _ _⟩, fun S q d => ⟨q.I, fun c s h => ?_, fun c l h => ?_⟩, fun x v h hm => ?_, fun x v h hm => ?_⟩
      · simp only [Zci, killS, Zcp] at h
        cases e2 : look st.vars c with
        | none => rw [e2] at h; cases h
        | some m' => rw [e2] at h; exact ⟨m', rfl, by rw [← Option.some.inj h, Zds]⟩
      · simp only [Zci, killS, Zao] at h
        by_cases hc : b = c
        · subst hc
          simp only [Ctx.row, if_true]; exact d
        · rw [if_neg hc] at h
          simp only [Ctx.row, if_neg (Ne.symm hc)]; exact q.F c s h
      · simp only [Zci, killS, Zcp] at h
        cases e2 : look st.vars c with
        | none => rw [e2] at h; cases h
        | some m' => exact q.V c m' e2
      · exact h.frame (C := C) (C' := C.row b (ad, len, cap) O ⟨e, xs, none⟩) (Zg _ _) (fun _ h => h) (fun c hc => hS c (fun q => by have := hm c hc; simp only [nrows, Zq] at this; omega)) (fun _ _ => rfl)
      · exact h.frame (C := C) (C' := C.row b (ad, len, cap) O ⟨e, xs, none⟩) (Zg _ _) (fun _ h => h) (fun c hc => hS c (fun q => by have := hm c hc; simp only [nrows, Zq] at this; omega)) (fun _ _ => rfl)
  | .pair p q, x, b, st, C, k, us, O, hrel, ⟨v1, v2, F1, F2, e0, s1, s2, hd, h1, h2⟩, hL, ⟨hp1, hp2⟩ => by
    subst e0
    have hlp := h1.length
    rw [List.take_left' hlp] at hp1
    rw [List.drop_left' hlp] at hp2
    obtain ⟨l, st1, C1, e1, r1, a1, m1, L1⟩ := Zhb (t := p) (x := x.1) (b := b) (k := fun l st b => Zjy q x.2 b st fun m st b => k (appL l m) st b) hrel h1 (hL.sub s1) hp1
    have hL2 := L1.loose F2 (hL.sub s2) (fun k q1 q2 => hd k q2 q1)
    obtain ⟨m, st2, C2, e2, r2, a2, m2, L2⟩ := Zhb (t := q) (x := x.2) (b := Nat.add b (nrows p)) (k := fun m st b => k (appL l m) st b) r1 (by rw [L1.I]; exact h2) hL2 hp2
    have eb : Nat.add (Nat.add b (nrows p)) (nrows q) = Nat.add b (nrows (.pair p q)) := by simp only [nrows, Zq]; omega
    rw [eb] at e2 m2 L2
    refine ⟨l ++ m, st2, C2, ?_, r2, (L2.keeps _ _ a1 (fun c hc => .inl (m1 c hc).2)).append a2, fun c hc => ?_, (L1.trans L2).mono (fun k q => q.elim (s1 k) (s2 k))⟩
    · simp only [Zjy]
      rw [e1, e2, Zo]
    · have l1 := L1.le
      have l2 := L2.le
      rcases Z93 hc with hc | hc
      · have := m1 c hc; omega
      · have := m2 c hc; omega
  | .row false e, x, b, st, C, k, us, O, hrel, h, hL, _ => ⟨_, st, C, rfl, Zu9 (t := .row false e) hrel h⟩
  | .int j, x, b, st, C, k, us, O, hrel, h, hL, _ => ⟨_, st, C, rfl, Zu9 (t := .int j) hrel h⟩
  | .bool, x, b, st, C, k, us, O, hrel, h, hL, _ => ⟨_, st, C, rfl, Zu9 (t := .bool) hrel h⟩
  | .str, x, b, st, C, k, us, O, hrel, h, hL, _ => ⟨_, st, C, rfl, Zu9 (t := .str) hrel h⟩
  | .arr n e, x, b, st, C, k, us, O, hrel, h, hL, _ => ⟨_, st, C, rfl, Zu9 (t := .arr n e) hrel h⟩
  | .unit, x, b, st, C, k, us, O, hrel, h, hL, _ => ⟨_, st, C, rfl, Zu9 (t := .unit) hrel h⟩
  | .any, x, b, st, C, k, us, O, hrel, h, hL, _ => h.elim
end
end Go.Proofs.YtcpecilmkkmaiaaGreat.V
namespace Go.Proofs.YtcpecilmkkmaiaaGreat.V
open Go Go.RowKit
def ValOf (t : Ty) (v : Value) (us : List Value) : Prop := (t.isAgg = true → v = .agg us.toArray) ∧ (t.isAgg = false → us = [v])
def Zs2 (w : World) (I : Zd) : (ms : List Mode) → (Zkk ms).den → List Value → Zd → List (Nat × Nat × Nat) → Prop
  | [], _, vs, _, V => vs = [] ∧ V = []
  | .val t :: ms, x, vs, O, V => ∃ v us vs', vs = v :: vs' ∧ ValOf t v us ∧ RepS w I t x.1 us ∧ Zs2 w I ms x.2 vs' O V
  | .rptr t :: ms, x, vs, O, V => ∃ ad us vs', vs = .pointer (some ad) :: vs' ∧ ad.spot = none ∧ I ad.block ∧ Zu w ad.block ad.off us ∧ RepS w I t x.1 us ∧ Zs2 w I ms x.2 vs' O V
  | .io t :: ms, x, vs, O, V => ∃ b o us vs' O1 O2 V', vs = .pointer (some ⟨b, o, none⟩) :: vs' ∧ V = (b, o, t.size) :: V' ∧ VarAt w (b, o) us ∧ RepO w I t x.1 none us O1 ∧ Sub O1 O ∧ Sub O2 O ∧ Dis O1 O2 ∧ (∀ v ∈ V', v.1 ≠ b) ∧ Zs2 w I ms x.2 vs' O2 V'
  | .own t :: ms, x, vs, O, V => ∃ v us vs' O1 O2, vs = v :: vs' ∧ ValOf t v us ∧ RepO w I t x.1 none us O1 ∧ Sub O1 O ∧ Sub O2 O ∧ Dis O1 O2 ∧ Zs2 w I ms x.2 vs' O2 V
  | .bor t :: ms, x, vs, O, V => ∃ v us vs' O1 O2, vs = v :: vs' ∧ ValOf t v us ∧ RepO w I t x.1 none us O1 ∧ Sub O1 O ∧ Sub O2 O ∧ Dis O1 O2 ∧ Zs2 w I ms x.2 vs' O2 V
  | .fn f :: ms, x, vs, O, V => ∃ vs', vs = .func (.func f) #[] #[] :: vs' ∧ Zs2 w I ms x.2 vs' O V
  | .fnr f t :: ms, x, vs, O, V => ∃ ad us vs', vs = .func (.func f) #[] #[.pointer (some ad)] :: vs' ∧ ad.spot = none ∧ I ad.block ∧ Zu w ad.block ad.off us ∧ RepS w I t x.1 us ∧ Zs2 w I ms x.2 vs' O V
def rowsC : Ty → List Value → List Value
  | .row true _, us => us
  | .pair p q, us => rowsC p (us.take p.size) ++ rowsC q (us.drop p.size)
  | _, _ => []
def PinE (X : Fix) : Ty → Nat → List Value → Prop
  | .row true _, b, us => ∃ H, X.pinR b = some H ∧ us = [.slice H.1 H.2.1 H.2.2]
  | .pair p q, b, us => PinE X p b (us.take p.size) ∧ PinE X q (Nat.add b (nrows p)) (us.drop p.size)
  | _, _, _ => True
theorem PinE.pinR {X : Fix} : ∀ {t : Ty} {b : Nat} {us : List Value}, PinE X t b us → PinR X t b us
  | .row true _, b, us, ⟨H, h1, h2⟩ => fun H' q => by
    rw [h1] at q
    obtain rfl := Option.some.inj q
    exact h2
  | .pair p q, b, us, ⟨h1, h2⟩ => ⟨h1.pinR, h2.pinR⟩
  | .row false _, _, _, _ => trivial
  | .int _, _, _, _ => trivial
  | .bool, _, _, _ => trivial
  | .str, _, _, _ => trivial
  | .arr _ _, _, _, _ => trivial
  | .unit, _, _, _ => trivial
  | .any, _, _, _ => trivial
theorem PinR.range {X : Fix} : ∀ {t : Ty} {b : Nat} {us : List Value}, (∀ c, b ≤ c → c < b + nrows t → X.pinR c = none) → PinR X t b us
  | .row true _, b, us, h => fun H' q => by rw [h b (Nat.le_refl _) (by simp [nrows])] at q; cases q
  | .pair p q, b, us, h => ⟨PinR.range (fun c h1 h2 => h c h1 (by simp only [nrows, Zq]; omega)), PinR.range (fun c h1 h2 => h c (by simp only [Zq] at h1; omega) (by simp only [nrows, Zq] at h2 ⊢; omega))⟩
  | .row false _, _, _, _ => trivial
  | .int _, _, _, _ => trivial
  | .bool, _, _, _ => trivial
  | .str, _, _, _ => trivial
  | .arr _ _, _, _, _ => trivial
  | .unit, _, _, _ => trivial
  | .any, _, _, _ => trivial
def Z8c (X : Fix) : List Mode → Nat → List (Nat × Nat × Nat) → List Value → Prop
  | [], _, _, _ => True
  | .io _ :: ms, i, V, vals => match V with
    | (b, o, n) :: V => X.pin (Nat.add 900 i) = some (b, o) ∧ (∀ j, j < n → X.rng b (o + j)) ∧ (∀ c, 500 + i * 20 ≤ c → c < 500 + i * 20 + 20 → X.pinR c = none) ∧ Z8c X ms (Nat.succ i) V vals.tail
    | [] => False
  | .bor t :: ms, i, V, vals => PinE X t (Nat.add 500 (Nat.mul i 20)) (vals.headD undef).cells.toList ∧ Z8c X ms (Nat.succ i) V vals.tail
  | .val _ :: ms, i, V, vals | .rptr _ :: ms, i, V, vals | .own _ :: ms, i, V, vals | .fn _ :: ms, i, V, vals | .fnr _ _ :: ms, i, V, vals => (∀ c, 500 + i * 20 ≤ c → c < 500 + i * 20 + 20 → X.pinR c = none) ∧ Z8c X ms (Nat.succ i) V vals.tail
theorem ValOf.cells {t : Ty} {v : Value} {us : List Value} (h : ValOf t v us) (hl : us.length = t.size) (h1 : ∀ u ∈ us, Ze5 u = true) : v.cells.toList = us := by
  cases ht : t.isAgg with
  | true =>
    rw [h.1 ht]
    simp [Value.cells]
  | false =>
    have e := h.2 ht
    subst e
    have := h1 v (List.mem_cons_self ..)
    cases v <;> first | rfl | (simp [Ze5] at this)
section
variable {P : Program} {E : Env} {X : Fix} {C C' : Ctx} {st st' : St} {a : Act} {w w' : World} {R : Type} {r : R}
theorem Rel.push1 {x : A} {v : Value} (hrel : Rel X C st a w) (hx : RA C w x v) : Rel X C { st with tmps := st.tmps ++ [x] } { a with tmps := a.tmps.push v } w := by
  refine { hrel with
    tlen := by simp [hrel.tlen]
    tmps := fun i => ?_ }
  have hl := hrel.tlen
  have h0 := hrel.tmps i
  simp only [Zr7, Array.getD_eq_getD_getElem?] at h0 ⊢
  rcases Nat.lt_trichotomy i st.tmps.length with hi | hi | hi
  · rw [List.getElem?_append_left hi, Array.getElem?_push, if_neg (by omega)]
    exact h0
  · subst hi
    rw [List.getElem?_append_right (Nat.le_refl _), Array.getElem?_push, if_pos (by omega)]
    simpa using hx
  · rw [List.getElem?_eq_none (by simp; omega)]
    exact trivial
theorem Zsk (st : St) (x : A) (k : St → R) : pushK st x k = k { st with tmps := st.tmps ++ [x] } := by
  obtain ⟨T, V, W⟩ := st
  simp only [pushK, Zgb, Zc0, Zo]
theorem ValOf.RA {t : Ty} {l : List A} {v : Value} {us : List Value} (h : ValOf t v us) (hs : RAs C w l us) : RA C w (unflat t l) v := hs.unflat h.1 h.2
theorem Zkm : ∀ {ms : List Mode} {x : (Zkk ms).den} {vals : List Value} {O : Zd} {V : List (Nat × Nat × Nat)} {i : Nat} {st : St} {C : Ctx} {tm : List Value} {k : St → Option R}, Zs2 w C.I ms x vals O V → Rel X C st ⟨tm.toArray, []⟩ w → Loose X C st w O →
    (∀ v ∈ V, Apart C st (fun k => k = v.1) ∧ ¬ O v.1) → Z8c X ms i V vals → Zmz ms x i st k = some r → ∃ st' C', k st' = some r ∧ Rel X C' st' ⟨(tm ++ vals).toArray, []⟩ w ∧ C'.I = C.I
  | [], x, vals, O, V, i, st, C, tm, k, h, hrel, hL, hV, hp, hs => by
    obtain ⟨rfl, -⟩ := h
    exact ⟨st, C, hs, by simpa using hrel, rfl⟩
  | .val t :: ms, x, vals, O, V, i, st, C, tm, k, ⟨v, us, vs', e, hv, hx, h⟩, hrel, hL, hV, hp, hs => by
    subst e
    simp only [Zmz, Zc0, Zsk] at hs
    obtain ⟨st', C', q1, q2, q3⟩ := Zkm (ms := ms) (x := x.2) (i := Nat.succ i) (k := k) (st := { st with tmps := st.tmps ++ [unflat t (pureL t x.1)] }) (tm := tm ++ [v]) h (by simpa using hrel.push1 (hv.RA (Znw hx))) ⟨hL.I, hL.F, hL.V, hL.lt, hL.own⟩ (fun u hu => ⟨⟨(hV u hu).1.I, (hV u hu).1.F, (hV u hu).1.V⟩, (hV u hu).2⟩) hp.2 hs
    exact ⟨st', C', q1, by simpa using q2, q3⟩
  | .rptr t :: ms, x, vals, O, V, i, st, C, tm, k, ⟨ad, us, vs', e, h1, h2, h3, h4, h⟩, hrel, hL, hV, hp, hs => by
    subst e
    simp only [Zmz, Zsk] at hs
    obtain ⟨st', C', q1, q2, q3⟩ := Zkm (ms := ms) (x := x.2) (i := Nat.succ i) (k := k) (st := { st with tmps := st.tmps ++ [.sptr t x.1] }) (tm := tm ++ [.pointer (some ad)]) h (by simpa using hrel.push1 (x := .sptr t x.1) (v := .pointer (some ad)) ⟨ad, us, rfl, h1, h2, h3, h4⟩) ⟨hL.I, hL.F, hL.V, hL.lt, hL.own⟩ (fun u hu => ⟨⟨(hV u hu).1.I, (hV u hu).1.F, (hV u hu).1.V⟩, (hV u hu).2⟩) hp.2 hs
    exact ⟨st', C', q1, by simpa using q2, q3⟩
  | .fnr f t :: ms, x, vals, O, V, i, st, C, tm, k, ⟨ad, us, vs', e, h1, h2, h3, h4, h⟩, hrel, hL, hV, hp, hs => by
    subst e
    simp only [Zmz, Zsk] at hs
    obtain ⟨st', C', q1, q2, q3⟩ := Zkm (ms := ms) (x := x.2) (i := Nat.succ i) (k := k) (st := { st with tmps := st.tmps ++ [.fn f [.sptr t x.1]] }) (tm := tm ++ [.func (.func f) #[] #[.pointer (some ad)]]) h (by simpa using hrel.push1 (x := .fn f [.sptr t x.1]) (v := .func (.func f) #[] #[.pointer (some ad)]) ⟨[.pointer (some ad)], rfl, _, [], rfl, ⟨ad, us, rfl, h1, h2, h3, h4⟩, rfl⟩) ⟨hL.I, hL.F, hL.V, hL.lt, hL.own⟩ (fun u hu => ⟨⟨(hV u hu).1.I, (hV u hu).1.F, (hV u hu).1.V⟩, (hV u hu).2⟩) hp.2 hs
    exact ⟨st', C', q1, by simpa using q2, q3⟩
  | .fn f :: ms, x, vals, O, V, i, st, C, tm, k, ⟨vs', e, h⟩, hrel, hL, hV, hp, hs => by
    subst e
    simp only [Zmz, Zsk] at hs
    obtain ⟨st', C', q1, q2, q3⟩ := Zkm (ms := ms) (x := x.2) (i := Nat.succ i) (k := k) (st := { st with tmps := st.tmps ++ [.fn f []] }) (tm := tm ++ [.func (.func f) #[] #[]]) h (by simpa using hrel.push1 (x := .fn f []) (v := .func (.func f) #[] #[]) ⟨[], rfl, rfl⟩) ⟨hL.I, hL.F, hL.V, hL.lt, hL.own⟩ (fun u hu => ⟨⟨(hV u hu).1.I, (hV u hu).1.F, (hV u hu).1.V⟩, (hV u hu).2⟩) hp.2 hs
    exact ⟨st', C', q1, by simpa using q2, q3⟩
  | .own t :: ms, x, vals, O, V, i, st, C, tm, k, ⟨v, us, vs', O1, O2, e, hv, hx, s1, s2, hd, h⟩, hrel, hL, hV, hp, hs => by
    subst e
    simp only [Zmz] at hs
    split at hs
    rotate_left
    · cases hs
    rename_i hnr
    have hnr : nrows t ≤ 20 := Nat.le_of_ble_eq_true hnr
    obtain ⟨hp1, hp⟩ := hp
    obtain ⟨l, st1, C1, e1, r1, a1, m1, L1⟩ := Zhb (b := Nat.add 500 (Nat.mul i 20)) (k := fun l st _ => Ze8 l fun l => pushK st (unflat t l) fun st => Zmz ms x.2 (Nat.succ i) st k) hrel hx (hL.sub s1) (PinR.range (fun c q1 q2 => hp1 c q1 (by simp only [Zq, Zkh] at q2; omega)))
    rw [e1] at hs
    simp only [Zc0, Zsk] at hs
    have hl := L1.loose O2 (hL.sub s2) (fun k q1 q2 => hd k q2 q1)
    obtain ⟨st', C', q1, q2, q3⟩ := Zkm (ms := ms) (x := x.2) (i := Nat.succ i) (k := k) (st := { st1 with tmps := st1.tmps ++ [unflat t l] }) (tm := tm ++ [v]) (by rw [L1.I]; exact h) (by simpa using r1.push1 (hv.RA a1)) ⟨hl.I, hl.F, hl.V, hl.lt, hl.own⟩ (fun u hu => by
      have := L1.apart _ (hV u hu).1 (fun k q1 q2 => (hV u hu).2 (by subst q1; exact s1 _ q2))
      exact ⟨⟨this.I, this.F, this.V⟩, fun q => (hV u hu).2 (s2 _ q)⟩) hp hs
    exact ⟨st', C', q1, by simpa using q2, q3.trans L1.I⟩
  | .bor t :: ms, x, vals, O, V, i, st, C, tm, k, ⟨v, us, vs', O1, O2, e, hv, hx, s1, s2, hd, h⟩, hrel, hL, hV, hp, hs => by
    subst e
    simp only [Zmz] at hs
    split at hs
    rotate_left
    · cases hs
    rename_i hnr
    have hnr : nrows t ≤ 20 := Nat.le_of_ble_eq_true hnr
    obtain ⟨hp1, hp⟩ := hp
    obtain ⟨l, st1, C1, e1, r1, a1, m1, L1⟩ := Zhb (b := Nat.add 500 (Nat.mul i 20)) (k := fun l st _ => Ze8 l fun l => pushK st (unflat t l) fun st => Zmz ms x.2 (Nat.succ i) st k) hrel hx (hL.sub s1) (PinE.pinR (by rw [List.headD_cons, hv.cells hx.length (Zsy hx)] at hp1; exact hp1))
    rw [e1] at hs
    simp only [Zc0, Zsk] at hs
    have hl := L1.loose O2 (hL.sub s2) (fun k q1 q2 => hd k q2 q1)
    obtain ⟨st', C', q1, q2, q3⟩ := Zkm (ms := ms) (x := x.2) (i := Nat.succ i) (k := k) (st := { st1 with tmps := st1.tmps ++ [unflat t l] }) (tm := tm ++ [v]) (by rw [L1.I]; exact h) (by simpa using r1.push1 (hv.RA a1)) ⟨hl.I, hl.F, hl.V, hl.lt, hl.own⟩ (fun u hu => by
      have := L1.apart _ (hV u hu).1 (fun k q1 q2 => (hV u hu).2 (by subst q1; exact s1 _ q2))
      exact ⟨⟨this.I, this.F, this.V⟩, fun q => (hV u hu).2 (s2 _ q)⟩) hp hs
    exact ⟨st', C', q1, by simpa using q2, q3.trans L1.I⟩
  | .io t :: ms, x, vals, O, V, i, st, C, tm, k, ⟨b, o, us, vs', O1, O2, V', e, eV, hv, hx, s1, s2, hd, hne, h⟩, hrel, hL, hV, hp, hs => by
    subst e; subst eV
    simp only [Zmz] at hs
    split at hs
    rotate_left
    · cases hs
    rename_i hnr
    have hnr : nrows t ≤ 20 := Nat.le_of_ble_eq_true hnr
    obtain ⟨hp1, hp2, hpR, hp3⟩ := hp
    obtain ⟨l, st1, C1, e1, r1, a1, m1, L1⟩ := Zhb (b := Nat.add 500 (Nat.mul i 20)) (k := fun l st _ => Z3m st (Nat.add 900 i) l fun st => pushK st (.vptr (Nat.add 900 i) 0) fun st => Zmz ms x.2 (Nat.succ i) st k) hrel hx (hL.sub s1) (PinR.range (fun c q1 q2 => hpR c q1 (by simp only [Zq, Zkh] at q2; omega)))
    rw [e1] at hs
    simp only [Ztu, Zsk] at hs
    have hl := L1.loose O2 (hL.sub s2) (fun k q1 q2 => hd k q2 q1)
    obtain ⟨hA, hO⟩ := hV _ (List.mem_cons_self ..)
    have hA1 := L1.apart _ hA (fun k q1 q2 => hO (by subst q1; exact s1 _ q2))
    have hlen := hx.length
    have hal := a1.length
    obtain ⟨g1, g2⟩ := r1.newVar (Nat.add 900 i) l (b, o) us a1 hv (fun L' q => by rw [hp1] at q; exact Option.some.inj q) (fun j hj => .inl (hp2 j (by omega))) (fun c m e _ q => hA1.V c m e q) (fun q => hA1.I b rfl q) (fun c s e q => hA1.F c s e b rfl q)
    have hvar : ∀ c m, look (Zmn st1 (Nat.add 900 i) l).vars c = some m → c = Nat.add 900 i ∨ ∃ m', look st1.vars c = some m' := by
      intro c m h
      simp only [Zmn, Zao, Zcp] at h
      split at h
      · rename_i q; exact .inl q.symm
      · cases e : look st1.vars c with
        | none => rw [e] at h; cases h
        | some m' => exact .inr ⟨m', rfl⟩
    obtain ⟨st', C', q1, q2, q3⟩ := Zkm (ms := ms) (x := x.2) (k := k) (st := { Zmn st1 (Nat.add 900 i) l with tmps := (Zmn st1 (Nat.add 900 i) l).tmps ++ [.vptr (Nat.add 900 i) 0] }) (tm := tm ++ [.pointer (some ⟨b, o, none⟩)]) (O := O2) (V := V') (i := Nat.succ i) (C := { C1 with var := fun c => if c = Nat.add 900 i then (b, o) else C1.var c }) (by rw [show ({ C1 with var := fun c => if c = Nat.add 900 i then (b, o) else C1.var c } : Ctx).I = C.I from L1.I]; exact h) (by simpa using g1.push1 g2)
      ⟨hl.I, hl.F, fun c m e q => by
        simp only at q
        split at q
        · exact hO (s2 _ q)
        · rename_i hc
          obtain hc' | ⟨m', e'⟩ := hvar c m e
          · exact hc hc'
          · exact hl.V c m' e' q, hl.lt, hl.own⟩
      (fun u hu => by
        have hu' := hV u (List.mem_cons_of_mem _ hu)
        have := L1.apart _ hu'.1 (fun k q1 q2 => hu'.2 (by subst q1; exact s1 _ q2))
        refine ⟨⟨this.I, this.F, fun c m e q => ?_⟩, fun q => hu'.2 (s2 _ q)⟩
        simp only at q
        split at q
        · exact hne u hu q.symm
        · rename_i hc
          obtain hc' | ⟨m', e'⟩ := hvar c m e
          · exact hc hc'
          · exact this.V c m' e' q) hp3 hs
    exact ⟨st', C', q1, by simpa using q2, q3.trans L1.I⟩
end
end Go.Proofs.YtcpecilmkkmaiaaGreat.V
namespace Go.Proofs.YtcpecilmkkmaiaaGreat.V
open Go Go.RowKit
def ResV : List Ty → List Value → List Value → Prop
  | [], vs, us => vs = [] ∧ us = []
  | t :: ts, vs, us => ∃ v vs' u1 u2, vs = v :: vs' ∧ us = u1 ++ u2 ∧ ValOf t v u1 ∧ u1.length = t.size ∧ ResV ts vs' u2
section
variable {P : Program} {E : Env} {X : Fix} {C C' : Ctx} {st st' : St} {a : Act} {w w' : World} {R : Type} {r : R}
def Zaf8 (tmps : Array Value) : ResultVar → Sem Value
  | .tmp t => pure (tmps.getD t undef)
  | .cell a t => do loadVar t (← asAddr (tmps.getD a undef))
theorem fitsA_out {t : Ty} {x : A} {v : Value} (h : fitsA t x = true) (hx : RA C w x v) : RAs C w (flat x) v.cells.toList ∧ ValOf t v v.cells.toList ∧ v.cells.toList.length = t.size := by
  simp only [fitsA, Bool.and_eq_true] at h
  obtain ⟨⟨h1, h2⟩, h3⟩ := h
  have h2 := Nat.eq_of_beq_eq_true h2
  rw [Zky] at h2
  have hc := Zgx hx h1
  refine ⟨hc, ?_, by rw [hc.length, h2]⟩
  cases x
  case agg l =>
    obtain ⟨vs, rfl, _⟩ := hx
    cases ht : t.isAgg with
    | true => exact ⟨fun _ => by simp [Value.cells], fun q => by rw [ht] at q; cases q⟩
    | false => simp [aggOk, ht, Zagn] at h3
  all_goals
    simp only [flat] at h1
    have h1 := Z6k hx (by simpa [leaves] using h1)
    cases ht : t.isAgg with
    | true => simp [aggOk, ht, Zagn] at h3
    | false =>
      refine ⟨fun q => (by rw [ht] at q; cases q), fun _ => ?_⟩
      cases v <;> first | rfl | (simp [Ze5] at h1)
theorem Zaht (hE : EnvOk P E) (hrel : Rel X C st a w) : ∀ {rs : List ResultVar} {res : List Ty} {k : List A → Option R}, resK E st rs res k = some r →
    ∃ l vs us, k l = some r ∧ RAs C w l us ∧ (rs.mapM (Zaf8 a.tmps)).run P w = .ok vs w ∧ ResV res vs us
  | [], [], k, h => ⟨[], [], [], h, rfl, rfl, rfl, rfl⟩
  | .tmp t :: rs, ty :: res, k, h => by
    simp only [resK, Zgv] at h
    split at h
    rotate_left
    · cases h
    rename_i hf
    obtain ⟨l, vs, us, h, h1, h2, h3⟩ := Zaht hE hrel h
    obtain ⟨g1, g2, g3⟩ := fitsA_out hf (hrel.tmps t)
    refine ⟨_, _, _, h, by rw [Zo]; exact g1.append h1, ?_, _, vs, _, us, rfl, rfl, g2, g3, h3⟩
    simp [List.mapM_cons, Zaf8, h2]
  | .cell x id :: rs, ty :: res, k, h => by
    simp only [resK] at h
    obtain ⟨T, h2, -, hf⟩ := Ze7 hE h
    clear h
    split at h2
    rotate_left
    · cases h2
    rename_i he
    have hs1 := Zwc he
    have hs2 := Zaiz he
    simp only [← hs1] at h2
    rw [Zgv] at h2
    split at h2
    rotate_left
    · cases h2
    rename_i b q ex
    split at h2
    rotate_left
    · cases h2
    rename_i c hc
    split at h2
    rotate_left
    · cases h2
    rename_i hl
    obtain ⟨l, vs, us, h2, h1, h3, h4⟩ := Zaht hE hrel h2
    have hx := hrel.tmps x
    rw [ex] at hx
    have hx : a.tmps.getD x undef = .pointer (some ⟨(C.var b).1, (C.var b).2 + q, none⟩) := hx
    obtain ⟨vv, hv, hat⟩ := hrel.vars b c hc
    have hl : q + T.size ≤ lenL c := Nat.le_of_ble_eq_true hl
    simp only [Zg3, Zho, Zky] at hl h2
    have hs := (hv.drop q).take T.size
    have hsl := hs.length
    obtain ⟨cs, et, fr, k1, k2, k3, k4⟩ := hat
    have hvl := hv.length
    simp only [List.length_take, List.length_drop] at hsl
    have hcell : Zu w (C.var b).1 ((C.var b).2 + q) ((vv.drop q).take T.size) := by
      refine ⟨cs, et, fr, k1, by simp only [List.length_take, List.length_drop]; omega, fun j v hj => ?_⟩
      rw [List.getElem?_take] at hj
      split at hj
      · rw [List.getElem?_drop] at hj
        have := k4 _ _ hj
        rwa [← Nat.add_assoc] at this
      · cases hj
    have hlen : ((vv.drop q).take T.size).length = T.size := by simp only [List.length_take, List.length_drop]; omega
    obtain ⟨v, r1, r2, r3⟩ := Zu5 (P := P) hf hcell hlen
    refine ⟨_, _, _, h2, by rw [Zo]; exact hs.append h1, ?_, v, vs, _, us, rfl, rfl, ⟨fun q => r2 (by rw [hs2]; exact q), fun q => r3 (by rw [hs2]; exact q)⟩, by rw [← hs1]; exact hlen, h4⟩
    simp [List.mapM_cons, Zaf8, h3, hx, asAddr, r1]
  | [], _ :: _, k, h => by simp only [resK] at h; cases h
  | .tmp _ :: _, [], k, h => by simp only [resK] at h; cases h
  | .cell _ _ :: _, [], k, h => by simp only [resK] at h; cases h
end
end Go.Proofs.YtcpecilmkkmaiaaGreat.V
namespace Go.Proofs.YtcpecilmkkmaiaaGreat.V
open Go Go.RowKit
def RngOf (V : List (Nat × Nat × Nat)) (b i : Nat) : Prop := ∃ v ∈ V, v.1 = b ∧ v.2.1 ≤ i ∧ i < v.2.1 + v.2.2
def oneOf (vs : List Value) : Value := match vs with | [v] => v | vs => .tuple vs.toArray
def Zo7 (w : World) (I : Zd) : (ms : List Mode) → (Zdc ms).den → List (Nat × Nat × Nat) → List Value → Zd → Prop
  | [], _, _, _, _ => True
  | .io t :: ms, x, V, vals, O => ∃ b o n us O1 O2 V', V = (b, o, n) :: V' ∧ VarAt w (b, o) us ∧ RepO w I t x.1 none us O1 ∧ Sub O1 O ∧ Sub O2 O ∧ Dis O1 O2 ∧ Zo7 w I ms x.2 V' vals.tail O2
  | .bor t :: ms, x, V, vals, O => ∃ O1 O2, RepO w I (rowsT t) x.1 none (rowsC t (vals.headD undef).cells.toList) O1 ∧ Sub O1 O ∧ Sub O2 O ∧ Dis O1 O2 ∧ Zo7 w I ms x.2 V vals.tail O2
  | .val _ :: ms, x, V, vals, O | .rptr _ :: ms, x, V, vals, O | .own _ :: ms, x, V, vals, O | .fn _ :: ms, x, V, vals, O | .fnr _ _ :: ms, x, V, vals, O => Zo7 w I ms x V vals.tail O
section
variable {P : Program} {E : Env} {X : Fix} {C C' : Ctx} {st st' : St} {a : Act} {w w' : World} {R : Type} {r : R}
theorem Zo7.sub {I I' : Zd} (hI : Sub I I') : ∀ {ms : List Mode} {x : (Zdc ms).den} {V : List (Nat × Nat × Nat)} {vals : List Value} {O O' : Zd}, Zo7 w I ms x V vals O → Sub O O' → Zo7 w I' ms x V vals O'
  | [], _, _, _, _, _, _, _ => trivial
  | .io t :: ms, x, V, vals, O, O', ⟨b, o, n, us, O1, O2, V', e, h1, h2, s1, s2, d, h⟩, hO =>
    ⟨b, o, n, us, O1, O2, V', e, h1, h2.frame (Zg _ _) hI (Zg _ _) (fun _ h => h), fun k q => hO k (s1 k q), fun k q => hO k (s2 k q), d, h.sub hI (fun _ h => h)⟩
  | .bor t :: ms, x, V, vals, O, O', ⟨O1, O2, h2, s1, s2, d, h⟩, hO =>
    ⟨O1, O2, h2.frame (Zg _ _) hI (Zg _ _) (fun _ h => h), fun k q => hO k (s1 k q), fun k q => hO k (s2 k q), d, h.sub hI (fun _ h => h)⟩
  | .val _ :: ms, x, V, vals, O, O', h, hO => Zo7.sub (ms := ms) hI h hO
  | .rptr _ :: ms, x, V, vals, O, O', h, hO => Zo7.sub (ms := ms) hI h hO
  | .own _ :: ms, x, V, vals, O, O', h, hO => Zo7.sub (ms := ms) hI h hO
  | .fn _ :: ms, x, V, vals, O, O', h, hO => Zo7.sub (ms := ms) hI h hO
  | .fnr _ _ :: ms, x, V, vals, O, O', h, hO => Zo7.sub (ms := ms) hI h hO
theorem Z5u (hrel : Rel X C st a w) : ∀ {t : Ty} {b : Nat} {us : List Value}, PinE X t b us → RAs C w (refsL t b) (rowsC t us)
  | .row true e, b, us, ⟨H, h1, h2⟩ => by
    subst h2
    refine ⟨_, [], rfl, ⟨⟨_, _, _, rfl⟩, fun r hr => ?_⟩, rfl⟩
    have := hrel.pinsR b H h1 (by rw [← hrel.rowsEq, hr]; simp)
    exact ⟨H, r.e.size, ⟨this.symm, rfl⟩, rfl⟩
  | .pair p q, b, us, ⟨h1, h2⟩ => by
    simp only [refsL, rowsC, Zo]
    exact (Z5u hrel h1).append (Z5u hrel h2)
  | .row false _, _, _, _ => rfl
  | .int _, _, _, _ => rfl
  | .bool, _, _, _ => rfl
  | .str, _, _, _ => rfl
  | .arr _ _, _, _, _ => rfl
  | .unit, _, _, _ => rfl
  | .any, _, _, _ => rfl
theorem Zwq (hrel : Rel X C st a w) : ∀ {ms : List Mode} {i : Nat} {V : List (Nat × Nat × Nat)} {vals : List Value} {k : (Zdc ms).den → Option R}, Z8c X ms i V vals → once (keys (srcs (ioL st ms i))) = true → finK st ms i k = some r →
    ∃ o O FZ, k o = some r ∧ Of C st (ioL st ms i) O ∧ Of C st (ioL st ms i) FZ ∧ Dis O FZ ∧ Zo7 w (fun k => C.I k ∨ FZ k) ms o V vals O
  | [], i, V, vals, k, _, _, h => ⟨(), fun _ => False, fun _ => False, h, fun _ h => h.elim, fun _ h => h.elim, fun _ h => h.elim, trivial⟩
  | .val t :: ms, i, V, vals, k, hp, ho, h => Zwq hrel (ms := ms) (i := Nat.succ i) (V := V) (vals := vals.tail) (k := k) hp.2 ho h
  | .rptr t :: ms, i, V, vals, k, hp, ho, h => Zwq hrel (ms := ms) (i := Nat.succ i) (V := V) (vals := vals.tail) (k := k) hp.2 ho h
  | .fnr f t :: ms, i, V, vals, k, hp, ho, h => Zwq hrel (ms := ms) (i := Nat.succ i) (V := V) (vals := vals.tail) (k := k) hp.2 ho h
  | .own t :: ms, i, V, vals, k, hp, ho, h => Zwq hrel (ms := ms) (i := Nat.succ i) (V := V) (vals := vals.tail) (k := k) hp.2 ho h
  | .fn t :: ms, i, V, vals, k, hp, ho, h => Zwq hrel (ms := ms) (i := Nat.succ i) (V := V) (vals := vals.tail) (k := k) hp.2 ho h
  | .bor t :: ms, i, V, vals, k, ⟨hp1, hp⟩, ho, h => by
    simp only [finK] at h
    obtain ⟨x, h, hT⟩ := Zeq hrel h (Z5u hrel hp1)
    have eL : ioL st (.bor t :: ms) i = refsL t (Nat.add 500 (Nat.mul i 20)) ++ ioL st ms (Nat.succ i) := by
      simp only [ioL, Zo]
    rw [eL] at ho ⊢
    have ho' := ho
    rw [Zaw, Zal] at ho'
    obtain ⟨o1, o2, o3⟩ := Zax ho'
    obtain ⟨W1, Z1, a1, a2, a3, a4⟩ := hT o1
    obtain ⟨y, W2, Z2, h, b1, b2, b3, b4⟩ := Zwq hrel (ms := ms) hp o2 h
    refine ⟨(x, y), fun k => W1 k ∨ W2 k, fun k => Z1 k ∨ Z2 k, h, a1.left.or b1.right, a2.left.or b2.right, ?_, W1, W2, ?_, fun _ h => .inl h, fun _ h => .inr h, a1.dis hrel ho b1, ?_⟩
    · rintro k (k1 | k1) (k2 | k2)
      · exact a3 k k1 k2
      · exact a1.dis hrel ho b2 k k1 k2
      · exact a2.dis hrel ho b1 k k2 k1
      · exact b3 k k1 k2
    · exact a4.frame (Zg _ _) (fun k h => h.imp id .inl) (Zg _ _) (fun _ h => h)
    · exact b4.sub (fun k h => h.imp id .inr) (fun _ h => h)
  | .io t :: ms, i, [], vals, k, hp, ho, h => hp.elim
  | .io t :: ms, i, (b, o, n) :: V, vals, k, ⟨hp1, hp2, _, hp⟩, ho, h => by
    simp only [finK] at h
    split at h
    rotate_left
    · cases h
    rename_i l hl
    obtain ⟨vs, hvs, hat⟩ := hrel.vars _ l hl
    obtain ⟨x, h, hT⟩ := Zeq hrel h hvs
    have hv : C.var (Nat.add 900 i) = (b, o) := hrel.pins _ _ hp1 (by rw [hl]; simp)
    have eL : ioL st (.io t :: ms) i = l ++ ioL st ms (Nat.succ i) := by
      simp only [ioL, hl, Option.getD_some, Zo]
    rw [eL] at ho ⊢
    have ho' := ho
    rw [Zaw, Zal] at ho'
    obtain ⟨o1, o2, o3⟩ := Zax ho'
    obtain ⟨W1, Z1, a1, a2, a3, a4⟩ := hT o1
    obtain ⟨y, W2, Z2, h, b1, b2, b3, b4⟩ := Zwq hrel (ms := ms) hp o2 h
    refine ⟨(x, y), fun k => W1 k ∨ W2 k, fun k => Z1 k ∨ Z2 k, h, a1.left.or b1.right, a2.left.or b2.right, ?_, b, o, n, vs, W1, W2, V, rfl, by rw [← hv]; exact hat, ?_, fun _ h => .inl h, fun _ h => .inr h, a1.dis hrel ho b1, ?_⟩
    · rintro k (k1 | k1) (k2 | k2)
      · exact a3 k k1 k2
      · exact a1.dis hrel ho b2 k k1 k2
      · exact a2.dis hrel ho b1 k k2 k1
      · exact b3 k k1 k2
    · exact a4.frame (Zg _ _) (fun k h => h.imp id .inl) (Zg _ _) (fun _ h => h)
    · exact b4.sub (fun k h => h.imp id .inr) (fun _ h => h)
theorem Zqw (hrel : Rel X C st a w) : ∀ {ms : List Mode} {i : Nat} {V : List (Nat × Nat × Nat)} {vals : List Value} {k : (Zdc ms).den → Option R}, Z8c X ms i V vals → V.length = (ms.filter (fun m => match m with | .io _ => true | _ => false)).length → finK st ms i k = some r →
    ∀ v ∈ V, ∃ c l, look st.vars c = some l ∧ (C.var c).1 = v.1
  | [], i, V, vals, k, _, hl, h, v, hv => by
    cases V with
    | nil => cases hv
    | cons u V => cases hl
  | .val t :: ms, i, V, vals, k, hp, hl, h, v, hv => Zqw hrel (ms := ms) (i := Nat.succ i) (V := V) (vals := vals.tail) (k := k) hp.2 hl h v hv
  | .rptr t :: ms, i, V, vals, k, hp, hl, h, v, hv => Zqw hrel (ms := ms) (i := Nat.succ i) (V := V) (vals := vals.tail) (k := k) hp.2 hl h v hv
  | .fnr f t :: ms, i, V, vals, k, hp, hl, h, v, hv => Zqw hrel (ms := ms) (i := Nat.succ i) (V := V) (vals := vals.tail) (k := k) hp.2 hl h v hv
  | .own t :: ms, i, V, vals, k, hp, hl, h, v, hv => Zqw hrel (ms := ms) (i := Nat.succ i) (V := V) (vals := vals.tail) (k := k) hp.2 hl h v hv
  | .fn t :: ms, i, V, vals, k, hp, hl, h, v, hv => Zqw hrel (ms := ms) (i := Nat.succ i) (V := V) (vals := vals.tail) (k := k) hp.2 hl h v hv
  | .bor t :: ms, i, V, vals, k, ⟨hp1, hp⟩, hl, h, v, hv => by
    simp only [finK] at h
    obtain ⟨x, h, hT⟩ := Zeq hrel h (Z5u hrel hp1)
    exact Zqw hrel (ms := ms) hp (by simpa using hl) h v hv
  | .io t :: ms, i, [], vals, k, hp, hl, h, v, hv => hp.elim
  | .io t :: ms, i, (b, o, n) :: V, vals, k, ⟨hp1, hp2, _, hp⟩, hl, h, v, hv => by
    simp only [finK] at h
    split at h
    rotate_left
    · cases h
    rename_i l hlk
    rcases List.mem_cons.1 hv with rfl | hv
    · exact ⟨_, l, hlk, by rw [hrel.pins _ _ hp1 (by rw [hlk]; simp)]⟩
    · obtain ⟨vs, hvs, hat⟩ := hrel.vars _ l hlk
      obtain ⟨x, h, hT⟩ := Zeq hrel h hvs
      exact Zqw hrel (ms := ms) hp (by simpa using hl) h v hv
structure Back (w w' : World) (I OW : Zd) (V : List (Nat × Nat × Nat)) (ms : List Mode) (res : List Ty) (rt : Ty) (out : (Zdc ms).den × rt.den) (vals vs us : List Value) (I' O1 O2 : Zd) : Prop where
  I2 : ∀ k, I' k → I k ∨ OW k ∨ w.heap.size ≤ k
  O : ∀ k, O1 k ∨ O2 k → OW k ∨ w.heap.size ≤ k
  lt : ∀ k, I' k ∨ O1 k ∨ O2 k → k < w'.heap.size
  d1 : Dis O1 O2
  d2 : Dis O1 I'
  d3 : Dis O2 I'
  dV : ∀ u ∈ V, ¬ I' u.1 ∧ ¬ O1 u.1 ∧ ¬ O2 u.1
  res : ResV res vs us
  val : RepO w' I' rt out.2 none us O1
  outs : Zo7 w' I' ms out.1 V vals O2
theorem end_out (hE : EnvOk P E) (hrel : Rel X C st a w) {fn : Func} {ms : List Mode} {res : List Ty} {rt : Ty} {out : (Zdc ms).den × rt.den} {V : List (Nat × Nat × Nat)} {vals : List Value} {I : Zd} (hp : Z8c X ms 0 V vals) (hVl : V.length = (ms.filter (fun m => match m with | .io _ => true | _ => false)).length) (hX : ∀ k, X.inp k ↔ I k)
    (h : retK E fn ms res rt st = some out) :
    ∃ vs us I' O1 O2, (fn.results.toList.mapM (Zaf8 a.tmps)).run P w = .ok vs w ∧ Back X.w0 w I X.own V ms res rt out vals vs us I' O1 O2 := by
  unfold retK at h
  obtain ⟨l, vs, us, h, h1, h2, h3⟩ := Zaht hE hrel h
  split at h
  rotate_left
  · cases h
  rename_i ho
  rw [Zo] at ho
  have ho' := ho
  rw [Zaw, Zal] at ho'
  obtain ⟨o1, o2, o3⟩ := Zax ho'
  obtain ⟨x, h, hT⟩ := Zeq hrel h h1
  obtain ⟨W1, Z1, a1, a2, a3, a4⟩ := hT o1
  have hvar := Zqw hrel hp hVl h
  obtain ⟨y, W2, Z2, h, b1, b2, b3, b4⟩ := Zwq hrel hp o2 h
  obtain rfl := Option.some.inj h
  have lt : ∀ {m : List A} {S : Zd}, Of C st m S → ∀ k, S k → k < w.heap.size := fun {m S} hS k hk => by
    obtain ⟨b, q1, q2, q3⟩ := hS k hk
    cases e : look st.rows b with
    | none => exact absurd e q2
    | some r => exact hrel.Flt b r e k q3
  have own : ∀ {m : List A} {S : Zd}, Of C st m S → ∀ k, S k → X.own k ∨ X.w0.heap.size ≤ k := fun {m S} hS k hk => by
    obtain ⟨b, q1, q2, q3⟩ := hS k hk
    cases e : look st.rows b with
    | none => exact absurd e q2
    | some r => exact hrel.Fown b r e k q3
  have vr : ∀ {m : List A} {S : Zd}, Of C st m S → ∀ c l, look st.vars c = some l → ¬ S (C.var c).1 := fun {m S} hS c l hl hk => by
    obtain ⟨b, q1, q2, q3⟩ := hS _ hk
    cases e : look st.rows b with
    | none => exact absurd e q2
    | some r => exact hrel.vF c l b r hl e q3
  refine ⟨vs, us, fun k => C.I k ∨ (Z1 k ∨ Z2 k), W1, W2, h2, ?_⟩
  exact {
    I2 := fun k q => by
      rcases q with q | q | q
      · exact (hrel.Iown k q).imp (hX k).1 id
      · exact .inr (own a2 k q)
      · exact .inr (own b2 k q)
    O := fun k q => q.elim (own a1 k) (own b1 k)
    lt := fun k q => by
      rcases q with (q | q | q) | q | q
      · exact hrel.Ilt k q
      · exact lt a2 k q
      · exact lt b2 k q
      · exact lt a1 k q
      · exact lt b1 k q
    d1 := a1.dis hrel ho b1
    d2 := fun k q1 q2 => by
      rcases q2 with q2 | q2 | q2
      · exact a1.I hrel k q1 q2
      · exact a3 k q1 q2
      · exact a1.dis hrel ho b2 k q1 q2
    d3 := fun k q1 q2 => by
      rcases q2 with q2 | q2 | q2
      · exact b1.I hrel k q1 q2
      · exact a2.dis hrel ho b1 k q2 q1
      · exact b3 k q1 q2
    dV := fun u hu => by
      obtain ⟨c, l', hl', he⟩ := hvar u hu
      rw [← he]
      refine ⟨fun q => ?_, vr a1 c l' hl', vr b1 c l' hl'⟩
      rcases q with q | q | q
      · exact hrel.vI c l' hl' q
      · exact vr a2 c l' hl' q
      · exact vr b2 c l' hl' q
    res := h3
    val := a4.frame (Zg _ _) (fun k h => h.imp id .inl) (Zg _ _) (fun _ h => h)
    outs := b4.sub (fun k h => h.imp id .inr) (fun _ h => h) }
end
end Go.Proofs.YtcpecilmkkmaiaaGreat.V
namespace Go.Proofs.YtcpecilmkkmaiaaGreat.V
open Go Go.RowKit
def Nam (C : Ctx) (st : St) (bs : List Nat) (S : Zd) : Prop := ∀ k, S k → ∃ b, b ∈ bs ∧ look st.rows b ≠ none ∧ C.F b k
def Zjj (C : Ctx) (st : St) : List Mode → List A → List (Nat × Nat × Nat) → Prop
  | .io t :: ms, a :: l, V => ∃ b o c V', a = .vptr b o ∧ look st.vars b = some c ∧ o + t.size ≤ c.length ∧ V = ((C.var b).1, (C.var b).2 + o, t.size) :: V' ∧ Zjj C st ms l V'
  | .val _ :: ms, _ :: l, V | .rptr _ :: ms, _ :: l, V | .own _ :: ms, _ :: l, V | .bor _ :: ms, _ :: l, V | .fn _ :: ms, _ :: l, V | .fnr _ _ :: ms, _ :: l, V => Zjj C st ms l V
  | [], _, V => V = []
  | _, [], _ => False
def movR (st : St) : List Mode → List A → List Nat
  | .own _ :: ms, a :: l => appL (keys (srcs (flat a))) (movR st ms l)
  | .io t :: ms, a :: l => appL (match a with
    | .vptr b o => (match look st.vars b with | some c => keys (srcs (takeL t.size (dropL o c))) | none => [])
    | _ => []) (movR st ms l)
  | _ :: ms, _ :: l => movR st ms l
  | _, _ => []
def borR : List Mode → List A → List Nat
  | .bor _ :: ms, a :: l => appL (keys (srcs (flat a))) (borR ms l)
  | _ :: ms, _ :: l => borR ms l
  | _, _ => []
def NamB (C : Ctx) (st : St) (bs : List Nat) : Zd := fun k => ∃ b, b ∈ bs ∧ look st.rows b ≠ none ∧ C.F b k
def BorC (st : St) : Ty → List A → Prop
  | .row true e, m => m = [.nil] ∨ ∃ b xs, m = [.ref b [] none] ∧ look st.rows b = some ⟨e, xs, none⟩
  | .pair p q, m => BorC st p (m.take p.size) ∧ BorC st q (m.drop p.size)
  | _, m => srcs m = []
def BorOk (st : St) : List Mode → List A → Prop
  | .bor t :: ms, a :: l => leaves (flat a) = true ∧ (flat a).length = t.size ∧ BorC st t (flat a) ∧ BorOk st ms l
  | .val _ :: ms, _ :: l | .rptr _ :: ms, _ :: l | .own _ :: ms, _ :: l | .io _ :: ms, _ :: l | .fn _ :: ms, _ :: l | .fnr _ _ :: ms, _ :: l => BorOk st ms l
  | _, _ => True
section
variable {P : Program} {E : Env} {X : Fix} {C C' : Ctx} {st st' : St} {a : Act} {w w' : World} {R : Type} {r : R}
theorem VarAt.cut {L : Nat × Nat} {vs : List Value} (h : VarAt w L vs) (o n : Nat) (ho : o + n ≤ vs.length) : VarAt w (L.1, L.2 + o) ((vs.drop o).take n) := by
  obtain ⟨cs, et, fr, h1, h2, h3, h4⟩ := h
  refine ⟨cs, et, fr, h1, by simp; omega, h3, fun i v hv => ?_⟩
  rw [List.getElem?_take] at hv
  split at hv
  · rw [List.getElem?_drop] at hv
    have := h4 _ _ hv
    show cs[L.2 + o + i]? = some v
    rwa [show L.2 + o + i = L.2 + (o + i) by omega]
  · cases hv
theorem Nam.mono {bs bs' : List Nat} {S : Zd} (h : Nam C st bs S) (hs : ∀ b, b ∈ bs → b ∈ bs') : Nam C st bs' S := fun k hk => by
  obtain ⟨b, q1, q2⟩ := h k hk
  exact ⟨b, hs b q1, q2⟩
theorem Nam.or {bs bs' : List Nat} {S T : Zd} (h : Nam C st bs S) (k : Nam C st bs' T) : Nam C st (bs ++ bs') (fun i => S i ∨ T i) := fun i hi => hi.elim (fun q => h.mono (fun b q => List.mem_append_left _ q) i q) (fun q => k.mono (fun b q => List.mem_append_right _ q) i q)
theorem Nam.dis {bs bs' : List Nat} {S T : Zd} (hrel : Rel X C st a w) (hd : ∀ b, b ∈ bs → b ∈ bs' → False) (h : Nam C st bs S) (k : Nam C st bs' T) : Dis S T := by
  intro i hi ki
  obtain ⟨b, h1, h2, h3⟩ := h i hi
  obtain ⟨c, k1, k2, k3⟩ := k i ki
  have hbc : b ≠ c := fun e => hd b h1 (e ▸ k1)
  cases e1 : look st.rows b with
  | none => exact h2 e1
  | some r => cases e2 : look st.rows c with
    | none => exact k2 e2
    | some s => exact hrel.rdis b c r s hbc e1 e2 i h3 k3
theorem Zjj.mem : ∀ {ms : List Mode} {l : List A} {V : List (Nat × Nat × Nat)}, Zjj C st ms l V → ∀ v ∈ V, ∃ b o c, b ∈ Zki ms l ∧ look st.vars b = some c ∧ v.1 = (C.var b).1 ∧ v.2.1 = (C.var b).2 + o ∧ o + v.2.2 ≤ c.length
  | .io t :: ms, x :: l, V, h, v, hv => by
    obtain ⟨b, o, c, V', e, h1, h2, h3, h4⟩ := h
    subst e; subst h3
    rcases List.mem_cons.1 hv with rfl | hv
    · exact ⟨b, o, c, List.mem_cons_self .., h1, rfl, rfl, h2⟩
    · obtain ⟨b', o', c', q, q'⟩ := Zjj.mem h4 v hv
      exact ⟨b', o', c', List.mem_cons_of_mem _ q, q'⟩
  | .val t :: ms, _ :: l, V, h, v, hv => Zjj.mem (ms := ms) h v hv
  | .rptr t :: ms, _ :: l, V, h, v, hv => Zjj.mem (ms := ms) h v hv
  | .fnr f t :: ms, _ :: l, V, h, v, hv => Zjj.mem (ms := ms) h v hv
  | .own t :: ms, _ :: l, V, h, v, hv => Zjj.mem (ms := ms) h v hv
  | .bor t :: ms, _ :: l, V, h, v, hv => Zjj.mem (ms := ms) h v hv
  | .fn t :: ms, _ :: l, V, h, v, hv => Zjj.mem (ms := ms) h v hv
  | [], _, V, h, v, hv => by have h : V = [] := h; subst h; cases hv
  | _ :: _, [], V, h, v, hv => by
    rename_i m ms
    cases m <;> exact h.elim
theorem Zaix (c : List A) (o n : Nat) : ∀ b, b ∈ keys (srcs ((c.drop o).take n)) → b ∈ keys (srcs c) := by
  intro b h
  have e : c = c.take o ++ ((c.drop o).take n ++ (c.drop o).drop n) := by rw [List.take_append_drop, List.take_append_drop]
  rw [e, Zaw, Zaw, Zal, Zal]
  exact List.mem_append_right _ (List.mem_append_left _ h)
theorem valOf {t : Ty} {x : A} {v : Value} (h1 : leaves (flat x) = true) (h3 : aggOk t x = true) (hx : RA C w x v) : ValOf t v v.cells.toList := by
  cases x
  case agg l =>
    obtain ⟨vs, rfl, _⟩ := hx
    cases ht : t.isAgg with
    | true => exact ⟨fun _ => by simp [Value.cells], fun q => by rw [ht] at q; cases q⟩
    | false => simp [aggOk, ht, Zagn] at h3
  all_goals
    simp only [flat] at h1
    have h1 := Z6k hx (by simpa [leaves] using h1)
    cases ht : t.isAgg with
    | true => simp [aggOk, ht, Zagn] at h3
    | false =>
      refine ⟨fun q => (by rw [ht] at q; cases q), fun _ => ?_⟩
      cases v <;> first | rfl | (simp [Ze5] at h1)
structure Lets (C : Ctx) (st : St) (ms : List Mode) (l : List A) (FZ I : Zd) : Prop where
  S : Sub C.I I
  R : ∀ b, b ∈ lentR st ms l → look st.rows b ≠ none → Sub (C.F b) I
  V : ∀ b, b ∈ lentV ms l → look st.vars b ≠ none → I (C.var b).1
  Z : Sub FZ I
theorem Zjw : ∀ {ms : List Mode} {l : List A} (b : Nat), b ∈ movR st ms l → b ∈ Za5 st ms l
  | .own _ :: ms, x :: l, b, h => by
    simp only [movR, Za5, Zo, List.mem_append] at h ⊢
    exact h.imp id (Zjw b)
  | .bor _ :: ms, x :: l, b, h => by
    simp only [Za5, Zo, List.mem_append]
    exact .inr (Zjw (ms := ms) b h)
  | .io _ :: ms, x :: l, b, h => by
    simp only [movR, Za5, Zo, List.mem_append] at h ⊢
    exact h.imp id (Zjw b)
  | .val _ :: ms, x :: l, b, h => Zjw (ms := ms) b h
  | .rptr _ :: ms, x :: l, b, h => Zjw (ms := ms) b h
  | .fn _ :: ms, x :: l, b, h => Zjw (ms := ms) b h
  | .fnr _ _ :: ms, x :: l, b, h => Zjw (ms := ms) b h
  | [], _, b, h => by simp [movR] at h
  | m :: _, [], b, h => by simp [movR] at h
theorem Z6j : ∀ {t : Ty} {l : List A} {c : t.den → List A → Option R}, lendK st t l c = some r → ∃ x m l', c x l' = some r ∧ l = m ++ l' ∧ leaves m = true
  | .int k, l, c, h => by
    simp only [lendK] at h
    split at h
    · split at h
      · exact ⟨_, [_], _, h, rfl, rfl⟩
      · cases h
    · cases h
  | .bool, l, c, h => by
    simp only [lendK] at h
    split at h
    · exact ⟨_, [_], _, h, rfl, rfl⟩
    · cases h
  | .str, l, c, h => by
    simp only [lendK] at h
    split at h
    · exact ⟨_, [_], _, h, rfl, rfl⟩
    · cases h
  | .row true e, l, c, h => by
    simp only [lendK] at h
    split at h
    · exact ⟨_, [_], _, h, rfl, rfl⟩
    · split at h
      · split at h
        · exact ⟨_, [_], _, h, rfl, rfl⟩
        · cases h
      · cases h
    · cases h
  | .row false e, l, c, h => by simp only [lendK] at h; cases h
  | .arr n e, l, c, h => by simp only [lendK] at h; cases h
  | .any, l, c, h => by simp only [lendK] at h; cases h
  | .unit, l, c, h => ⟨(), [], l, h, rfl, rfl⟩
  | .pair p q, l, c, h => by
    simp only [lendK] at h
    obtain ⟨x, m, l', h, e1, e2⟩ := Z6j (t := p) h
    obtain ⟨y, m', l'', h, e3, e4⟩ := Z6j (t := q) h
    exact ⟨(x, y), m ++ m', l'', h, by rw [e1, e3]; simp, by rw [Zp0, e2, e4]; rfl⟩
theorem Zac8 (hrel : Rel X C st a w) : ∀ {t : Ty} {l : List A} {c : t.den → List A → Option R} {vs : List Value}, lendK st t l c = some r → RAs C w l vs →
    ∃ x m l' vs1 vs2, c x l' = some r ∧ l = m ++ l' ∧ vs = vs1 ++ vs2 ∧ RAs C w l' vs2 ∧ m.length = t.size ∧ BorC st t m ∧ (once (keys (srcs m)) = true → RepO w C.I t x none vs1 (NamB C st (keys (srcs m))))
  | .int k, l, c, vs, h, hs => by
    simp only [lendK] at h
    split at h
    · split at h
      · rename_i e
        subst e
        obtain ⟨v, vs', e, h1, h2⟩ := hs
        subst e
        exact ⟨_, [_], _, [v], vs', h, rfl, rfl, h2, rfl, rfl, fun _ => by rw [show v = _ from h1]; rfl⟩
      · cases h
    · cases h
  | .bool, l, c, vs, h, hs => by
    simp only [lendK] at h
    split at h
    · obtain ⟨v, vs', e, h1, h2⟩ := hs
      subst e
      exact ⟨_, [_], _, [v], vs', h, rfl, rfl, h2, rfl, rfl, fun _ => by rw [show v = _ from h1]; rfl⟩
    · cases h
  | .str, l, c, vs, h, hs => by
    simp only [lendK] at h
    split at h
    · obtain ⟨v, vs', e, h1, h2⟩ := hs
      subst e
      exact ⟨_, [_], _, [v], vs', h, rfl, rfl, h2, rfl, rfl, fun _ => by rw [show v = _ from h1]; rfl⟩
    · cases h
  | .row true e, l, c, vs, h, hs => by
    simp only [lendK] at h
    split at h
    · obtain ⟨v, vs', e, h1, h2⟩ := hs
      subst e
      have h1 : v = .slice none 0 0 := h1
      subst h1
      exact ⟨([] : List _), [.nil], _, [_], vs', h, rfl, rfl, h2, rfl, .inl rfl, fun _ => ⟨none, 0, 0, rfl, .inr ⟨rfl, Nat.le_refl _, .inl rfl⟩⟩⟩
    · rename_i b l
      split at h
      rotate_left
      · cases h
      rename_i e' xs hb
      split at h
      rotate_left
      · cases h
      rename_i he
      subst he
      obtain ⟨v, vs', e2, h1, h2⟩ := hs
      subst e2
      have hb' : look C.rows b = some ⟨e', xs, none⟩ := by rw [hrel.rowsEq]; exact hb
      obtain ⟨H, sz, ⟨q1, q2⟩, q3⟩ := h1.2 _ hb'
      subst q1
      have q3 : v = .slice (C.hdr b).1 (C.hdr b).2.1 (C.hdr b).2.2 := q3
      refine ⟨xs, [.ref b [] none], l, [v], vs', h, rfl, rfl, h2, rfl, .inr ⟨b, xs, rfl, hb⟩, fun _ => ⟨_, _, _, by rw [q3], .inr ?_⟩⟩
      obtain ⟨l1, l2, l3⟩ := hrel.rows b _ hb
      have hs : Sub (C.F b) (NamB C st (keys (srcs [.ref b [] none]))) := fun k hk => ⟨b, by simp [srcs, keys], by rw [hb]; simp, hk⟩
      exact ⟨l1, l2, l3.imp id fun ⟨ad, cs, et, fr, vs', G, e1, e2, e3, e4, e5, e6, e7, e8, e9, e10⟩ =>
        ⟨ad, cs, et, fr, vs', G, e1, e2, hs _ e3, e4, fun k hk => hs k (e5 k hk), e6, e7, e8, e9, e10⟩⟩
    · cases h
  | .row false e, l, c, vs, h, hs => by simp only [lendK] at h; cases h
  | .arr n e, l, c, vs, h, hs => by simp only [lendK] at h; cases h
  | .any, l, c, vs, h, hs => by simp only [lendK] at h; cases h
  | .unit, l, c, vs, h, hs => ⟨(), [], l, [], vs, h, rfl, rfl, hs, rfl, rfl, fun _ => rfl⟩
  | .pair p q, l, c, vs, h, hs => by
    simp only [lendK] at h
    obtain ⟨x, m, l', vs1, vs2, hA, e1, e2, hs', n1, b1, f1⟩ := Zac8 hrel (t := p) h hs
    obtain ⟨y, m', l'', vs1', vs2', hB, e3, e4, hs'', n2, b2, f2⟩ := Zac8 hrel (t := q) hA hs'
    subst e1; subst e2; subst e3; subst e4
    refine ⟨(x, y), m ++ m', l'', vs1 ++ vs1', vs2', hB, by simp, by simp, hs'', by simp [n1, n2, Ty.size, Zq], ⟨by rw [List.take_left' n1]; exact b1, by rw [List.drop_left' n1]; exact b2⟩, fun ho => ?_⟩
    have ho' := ho
    rw [Zaw, Zal] at ho'
    obtain ⟨o1, o2, o3⟩ := Zax ho'
    have s1 : Sub (NamB C st (keys (srcs m))) (NamB C st (keys (srcs (m ++ m')))) := fun k ⟨b, h1, h2⟩ => ⟨b, by rw [Zaw, Zal]; exact List.mem_append_left _ h1, h2⟩
    have s2 : Sub (NamB C st (keys (srcs m'))) (NamB C st (keys (srcs (m ++ m')))) := fun k ⟨b, h1, h2⟩ => ⟨b, by rw [Zaw, Zal]; exact List.mem_append_right _ h1, h2⟩
    exact ⟨vs1, vs1', _, _, rfl, s1, s2, Nam.dis hrel o3 (fun _ h => h) (fun _ h => h), f1 o1, f2 o2⟩
theorem Zix (hrel : Rel X C st a w) : ∀ {ms : List Mode} {l : List A} {vals : List Value} {k : (Zkk ms).den → List (Nat × Path) → Option R}, argsK st ms l k = some r → RAs C w l vals →
    ∃ x g, k x g = some r ∧ keys g = movR st ms l ∧ BorOk st ms l ∧ (once (Za5 st ms l) = true → once (Zki ms l) = true → ∃ O FZ V, Nam C st (Za5 st ms l) O ∧ Nam C st (movR st ms l) FZ ∧ Dis O FZ ∧ Zjj C st ms l V ∧
      ∀ I, Lets C st ms l FZ I → Zs2 w I ms x vals O V)
  | [], l, vals, k, h, hs => by
    simp only [argsK] at h
    split at h
    · have hs : vals = [] := hs
      subst hs
      exact ⟨(), [], h, rfl, trivial, fun _ _ => ⟨fun _ => False, fun _ => False, [], fun _ h => h.elim, fun _ h => h.elim, fun _ h => h.elim, rfl, fun I hI => ⟨rfl, rfl⟩⟩⟩
    · cases h
  | m :: ms, [], vals, k, h, hs => by simp only [argsK] at h; cases h
  | .val t :: ms, y :: l, vals, k, h, hs => by
    simp only [argsK] at h
    obtain ⟨v, vs, rfl, hy, hs⟩ := hs
    split at h
    rotate_left
    · cases h
    rename_i hag
    have hlv := Zsc h
    obtain ⟨x, h, hx⟩ := Zsb hrel h (Zgx hy hlv)
    obtain ⟨xs, g, h, hg, hbo, ih⟩ := Zix hrel h hs
    refine ⟨(x, xs), g, h, hg, hbo, fun o1 o2 => ?_⟩
    obtain ⟨O, FZ, V, q1, q2, q3, q4, q5⟩ := ih o1 o2
    refine ⟨O, FZ, V, q1, q2, q3, q4, fun I hI => ⟨v, _, vs, rfl, valOf hlv hag hy, hx.frame (Zg _ _) ?_, q5 I ⟨hI.S, fun b hb => hI.R b (by simp only [lentR, Zo]; exact List.mem_append_right _ hb), hI.V, hI.Z⟩⟩⟩
    rintro k (hk | ⟨b, hb, hn, hk⟩)
    · exact hI.S k hk
    · exact hI.R b (by simp only [lentR, Zo]; exact List.mem_append_left _ hb) (by rw [← hrel.rowsEq]; exact hn) k hk
  | .rptr t :: ms, y :: l, vals, k, h, hs => by
    simp only [argsK] at h
    obtain ⟨v, vs, rfl, hy, hs⟩ := hs
    cases y <;> simp only [readK] at h <;> try (cases h; done)
    case vptr b o =>
      split at h
      rotate_left
      · cases h
      rename_i c hc
      split at h
      rotate_left
      · cases h
      rename_i hl
      have hl : o + t.size ≤ lenL c := Nat.le_of_ble_eq_true hl
      rw [Zky] at hl
      simp only [Zg3, Zho] at h
      obtain ⟨us, hus, hat⟩ := hrel.vars b c hc
      have hul := hus.length
      have hcut := hat.cut o t.size (by omega)
      obtain ⟨x, h, hx⟩ := Zsb hrel h ((hus.drop o).take t.size)
      obtain ⟨xs, g, h, hg, hbo, ih⟩ := Zix hrel h hs
      refine ⟨(x, xs), g, h, hg, hbo, fun o1 o2 => ?_⟩
      obtain ⟨O, FZ, V, q1, q2, q3, q4, q5⟩ := ih o1 o2
      have hy : v = .pointer (some ⟨(C.var b).1, (C.var b).2 + o, none⟩) := hy
      refine ⟨O, FZ, V, q1, q2, q3, q4, fun I hI => ⟨_, _, vs, by rw [hy], rfl, hI.V b (List.mem_cons_self ..) (by rw [hc]; simp), ?_, hx.frame (Zg _ _) ?_, q5 I ⟨hI.S, fun b' hb => hI.R b' (by simp only [lentR, hc, Zo]; exact List.mem_append_right _ hb), fun b' hb => hI.V b' (List.mem_cons_of_mem _ hb), hI.Z⟩⟩⟩
      · obtain ⟨cs, et, fr, k1, k2, k3, k4⟩ := hcut
        exact ⟨cs, et, fr, k1, k2, k4⟩
      · rintro k (hk | ⟨b', hb, hn, hk⟩)
        · exact hI.S k hk
        · exact hI.R b' (by simp only [lentR, hc, Zo]; exact List.mem_append_left _ (Zaix _ _ _ _ hb)) (by rw [← hrel.rowsEq]; exact hn) k hk
    case rptr b p =>
      simp only [Bool.false_eq_true, if_false] at h
      obtain ⟨rw', hrw, hd⟩ := Z5t hrel h
      have hrw' : look C.rows b = some rw' := by rw [hrel.rowsEq]; exact hrw
      obtain ⟨M', u', e1, e2⟩ := hy.2 rw' hrw'
      rcases hd with ⟨hp, _⟩ | ⟨M, u, y, us, F', hk, hres, hc, ⟨h', hr, hn, hd⟩, hF⟩
      · subst hp; exact e1.elim
      obtain ⟨rfl, rfl⟩ := hres.one e1
      obtain rfl := hd rfl
      split at hk
      rotate_left
      · cases hk
      rename_i hsh
      obtain ⟨xs, g, h, hg, hbo, ih⟩ := Zix hrel hk hs
      refine ⟨(Go.Proofs.YtcpecilmkkmaiaaGreat.V.conv hsh y, xs), g, h, hg, hbo, fun o1 o2 => ?_⟩
      obtain ⟨O, FZ, V, q1, q2, q3, q4, q5⟩ := ih o1 o2
      refine ⟨O, FZ, V, q1, q2, q3, q4, fun I hI => ?_⟩
      have hFI : Sub (C.F b) I := hI.R b (by simp only [lentR, Zo]; exact List.mem_append_left _ (List.mem_cons_self ..)) (by rw [hrw]; simp)
      refine ⟨⟨M.1, M.2, none⟩, us, vs, by rw [e2], rfl, hFI _ hres.blk, hc, (hr.toS (J := I) hI.S (fun k hk => hFI k (hF k hk))).conv hsh, q5 I ⟨hI.S, fun b' hb => hI.R b' (by simp only [lentR, Zo]; exact List.mem_append_right _ hb), hI.V, hI.Z⟩⟩
    case sptr t' y =>
      simp only [Bool.false_eq_true, if_false] at h
      split at h
      rotate_left
      · cases h
      rename_i hsh
      obtain ⟨ad, us, e1, e2, e3, e4, e5⟩ := hy
      obtain ⟨xs, g, h, hg, hbo, ih⟩ := Zix hrel h hs
      refine ⟨(Go.Proofs.YtcpecilmkkmaiaaGreat.V.conv hsh y, xs), g, h, hg, hbo, fun o1 o2 => ?_⟩
      obtain ⟨O, FZ, V, q1, q2, q3, q4, q5⟩ := ih o1 o2
      exact ⟨O, FZ, V, q1, q2, q3, q4, fun I hI => ⟨ad, us, vs, by rw [e1], e2, hI.S _ e3, e4, (e5.frame (Zg _ _) hI.S).conv hsh, q5 I ⟨hI.S, fun b' hb => hI.R b' (by simp only [lentR, Zo]; exact List.mem_append_right _ hb), hI.V, hI.Z⟩⟩⟩
  | .fnr f t :: ms, y :: l, vals, k, h, hs => by
    simp only [argsK] at h
    obtain ⟨v0, vs, rfl, hy0, hs⟩ := hs
    split at h
    rotate_left
    · cases h
    rename_i f' y
    split at h
    rotate_left
    · cases h
    rename_i hf
    obtain rfl := Nat.eq_of_beq_eq_true hf
    obtain ⟨us0, rfl, v, us1, rfl, hy, hu1⟩ := hy0
    have hu1 : us1 = [] := hu1
    subst hu1
    cases y <;> simp only [readK] at h <;> try (cases h; done)
    case vptr b o =>
      split at h
      rotate_left
      · cases h
      rename_i c hc
      split at h
      rotate_left
      · cases h
      rename_i hl
      have hl : o + t.size ≤ lenL c := Nat.le_of_ble_eq_true hl
      rw [Zky] at hl
      simp only [Zg3, Zho] at h
      obtain ⟨us, hus, hat⟩ := hrel.vars b c hc
      have hul := hus.length
      have hcut := hat.cut o t.size (by omega)
      obtain ⟨x, h, hx⟩ := Zsb hrel h ((hus.drop o).take t.size)
      obtain ⟨xs, g, h, hg, hbo, ih⟩ := Zix hrel h hs
      refine ⟨(x, xs), g, h, hg, hbo, fun o1 o2 => ?_⟩
      obtain ⟨O, FZ, V, q1, q2, q3, q4, q5⟩ := ih o1 o2
      have hy : v = .pointer (some ⟨(C.var b).1, (C.var b).2 + o, none⟩) := hy
      refine ⟨O, FZ, V, q1, q2, q3, q4, fun I hI => ⟨_, _, vs, by rw [hy], rfl, hI.V b (List.mem_cons_self ..) (by rw [hc]; simp), ?_, hx.frame (Zg _ _) ?_, q5 I ⟨hI.S, fun b' hb => hI.R b' (by simp only [lentR, hc, Zo]; exact List.mem_append_right _ hb), fun b' hb => hI.V b' (List.mem_cons_of_mem _ hb), hI.Z⟩⟩⟩
      · obtain ⟨cs, et, fr, k1, k2, k3, k4⟩ := hcut
        exact ⟨cs, et, fr, k1, k2, k4⟩
      · rintro k (hk | ⟨b', hb, hn, hk⟩)
        · exact hI.S k hk
        · exact hI.R b' (by simp only [lentR, hc, Zo]; exact List.mem_append_left _ (Zaix _ _ _ _ hb)) (by rw [← hrel.rowsEq]; exact hn) k hk
    case rptr b p =>
      simp only [Bool.false_eq_true, if_false] at h
      obtain ⟨rw', hrw, hd⟩ := Z5t hrel h
      have hrw' : look C.rows b = some rw' := by rw [hrel.rowsEq]; exact hrw
      obtain ⟨M', u', e1, e2⟩ := hy.2 rw' hrw'
      rcases hd with ⟨hp, _⟩ | ⟨M, u, y, us, F', hk, hres, hc, ⟨h', hr, hn, hd⟩, hF⟩
      · subst hp; exact e1.elim
      obtain ⟨rfl, rfl⟩ := hres.one e1
      obtain rfl := hd rfl
      split at hk
      rotate_left
      · cases hk
      rename_i hsh
      obtain ⟨xs, g, h, hg, hbo, ih⟩ := Zix hrel hk hs
      refine ⟨(Go.Proofs.YtcpecilmkkmaiaaGreat.V.conv hsh y, xs), g, h, hg, hbo, fun o1 o2 => ?_⟩
      obtain ⟨O, FZ, V, q1, q2, q3, q4, q5⟩ := ih o1 o2
      refine ⟨O, FZ, V, q1, q2, q3, q4, fun I hI => ?_⟩
      have hFI : Sub (C.F b) I := hI.R b (by simp only [lentR, Zo]; exact List.mem_append_left _ (List.mem_cons_self ..)) (by rw [hrw]; simp)
      refine ⟨⟨M.1, M.2, none⟩, us, vs, by rw [e2], rfl, hFI _ hres.blk, hc, (hr.toS (J := I) hI.S (fun k hk => hFI k (hF k hk))).conv hsh, q5 I ⟨hI.S, fun b' hb => hI.R b' (by simp only [lentR, Zo]; exact List.mem_append_right _ hb), hI.V, hI.Z⟩⟩
    case sptr t' y =>
      simp only [Bool.false_eq_true, if_false] at h
      split at h
      rotate_left
      · cases h
      rename_i hsh
      obtain ⟨ad, us, e1, e2, e3, e4, e5⟩ := hy
      obtain ⟨xs, g, h, hg, hbo, ih⟩ := Zix hrel h hs
      refine ⟨(Go.Proofs.YtcpecilmkkmaiaaGreat.V.conv hsh y, xs), g, h, hg, hbo, fun o1 o2 => ?_⟩
      obtain ⟨O, FZ, V, q1, q2, q3, q4, q5⟩ := ih o1 o2
      exact ⟨O, FZ, V, q1, q2, q3, q4, fun I hI => ⟨ad, us, vs, by rw [e1], e2, hI.S _ e3, e4, (e5.frame (Zg _ _) hI.S).conv hsh, q5 I ⟨hI.S, fun b' hb => hI.R b' (by simp only [lentR, Zo]; exact List.mem_append_right _ hb), hI.V, hI.Z⟩⟩⟩
  | .io t :: ms, y :: l, vals, k, h, hs => by
    simp only [argsK] at h
    obtain ⟨v, vs, rfl, hy, hs⟩ := hs
    cases y <;> simp only [readK, if_true] at h <;> try (cases h; done)
    case vptr b o =>
      split at h
      rotate_left
      · cases h
      rename_i c hc
      split at h
      rotate_left
      · cases h
      rename_i hl
      have hl : o + t.size ≤ lenL c := Nat.le_of_ble_eq_true hl
      rw [Zky] at hl
      simp only [Zg3, Zho] at h
      obtain ⟨us, hus, hat⟩ := hrel.vars b c hc
      have hul := hus.length
      have hcut := hat.cut o t.size (by omega)
      obtain ⟨x, h, hT⟩ := Zeq hrel h ((hus.drop o).take t.size)
      obtain ⟨xs, g, h, hg, hbo, ih⟩ := Zix hrel h hs
      have eG : Za5 st (.io t :: ms) (.vptr b o :: l) = keys (srcs ((c.drop o).take t.size)) ++ Za5 st ms l := by
        simp only [Za5, hc, Zo, Zg3, Zho]
      have eM : movR st (.io t :: ms) (.vptr b o :: l) = keys (srcs ((c.drop o).take t.size)) ++ movR st ms l := by
        simp only [movR, hc, Zo, Zg3, Zho]
      refine ⟨(x, xs), _, h, by rw [eM, Zo, Zal, hg], hbo, fun o1 o2 => ?_⟩
      rw [eG] at o1 ⊢
      rw [eM]
      obtain ⟨p1, p2, p3⟩ := Zax o1
      simp only [Zki, once, Bool.and_eq_true, Bool.not_eq_true'] at o2
      obtain ⟨W1, Z1, a1, a2, a3, a4⟩ := hT p1
      obtain ⟨O, FZ, V, q1, q2, q3, q4, q5⟩ := ih p2 o2.2
      have hy : v = .pointer (some ⟨(C.var b).1, (C.var b).2 + o, none⟩) := hy
      have d1 : Dis W1 O := Nam.dis hrel p3 a1 q1
      refine ⟨fun k => W1 k ∨ O k, fun k => Z1 k ∨ FZ k, ((C.var b).1, (C.var b).2 + o, t.size) :: V, Nam.or a1 q1, Nam.or a2 q2, ?_, ⟨b, o, c, V, rfl, hc, hl, rfl, q4⟩, fun I hI => ⟨(C.var b).1, (C.var b).2 + o, _, vs, W1, O, V, by rw [hy], rfl, hcut, a4.frame (Zg _ _) (fun k q => q.elim (hI.S k) (fun q => hI.Z k (.inl q))) (Zg _ _) (fun _ h => h), fun _ h => .inl h, fun _ h => .inr h, d1, fun u hu q => ?_, q5 I ⟨hI.S, fun b' hb => hI.R b' hb, hI.V, fun k q => hI.Z k (.inr q)⟩⟩⟩
      · rintro k (k1 | k1) (k2 | k2)
        · exact a3 k k1 k2
        · exact Nam.dis hrel p3 a1 (q2.mono (Zjw (ms := ms) (l := l))) k k1 k2
        · exact Nam.dis hrel p3 a2 q1 k k2 k1
        · exact q3 k k1 k2
      · obtain ⟨b', o', c', m1, m2, m3, -⟩ := q4.mem u hu
        have hne : b ≠ b' := fun e => by
          have := o2.1
          rw [(Za7 _ _).2 (e ▸ m1)] at this
          cases this
        exact hrel.vdis b b' c c' hne hc m2 (by rw [← m3, q])
  | .own t :: ms, y :: l, vals, k, h, hs => by
    simp only [argsK] at h
    obtain ⟨v, vs, rfl, hy, hs⟩ := hs
    split at h
    rotate_left
    · cases h
    rename_i hag
    have hlv := Zsc h
    obtain ⟨x, h, hT⟩ := Zeq hrel h (Zgx hy hlv)
    obtain ⟨xs, g, h, hg, hbo, ih⟩ := Zix hrel h hs
    have eG : Za5 st (.own t :: ms) (y :: l) = keys (srcs (flat y)) ++ Za5 st ms l := by
      simp only [Za5, Zo]
    have eM : movR st (.own t :: ms) (y :: l) = keys (srcs (flat y)) ++ movR st ms l := by
      simp only [movR, Zo]
    refine ⟨(x, xs), _, h, by rw [eM, Zo, Zal, hg], hbo, fun o1 o2 => ?_⟩
    rw [eG] at o1 ⊢
    rw [eM]
    obtain ⟨p1, p2, p3⟩ := Zax o1
    obtain ⟨W1, Z1, a1, a2, a3, a4⟩ := hT p1
    obtain ⟨O, FZ, V, q1, q2, q3, q4, q5⟩ := ih p2 o2
    have d1 : Dis W1 O := Nam.dis hrel p3 a1 q1
    refine ⟨fun k => W1 k ∨ O k, fun k => Z1 k ∨ FZ k, V, Nam.or a1 q1, Nam.or a2 q2, ?_, q4, fun I hI => ⟨v, _, vs, W1, O, rfl, valOf hlv hag hy, a4.frame (Zg _ _) (fun k q => q.elim (hI.S k) (fun q => hI.Z k (.inl q))) (Zg _ _) (fun _ h => h), fun _ h => .inl h, fun _ h => .inr h, d1, q5 I ⟨hI.S, fun b' hb => hI.R b' hb, hI.V, fun k q => hI.Z k (.inr q)⟩⟩⟩
    rintro k (k1 | k1) (k2 | k2)
    · exact a3 k k1 k2
    · exact Nam.dis hrel p3 a1 (q2.mono (Zjw (ms := ms) (l := l))) k k1 k2
    · exact Nam.dis hrel p3 a2 q1 k k2 k1
    · exact q3 k k1 k2
  | .bor t :: ms, y :: l, vals, k, h, hs => by
    simp only [argsK] at h
    obtain ⟨v, vs, rfl, hy, hs⟩ := hs
    split at h
    rotate_left
    · cases h
    rename_i hag
    have hlv : leaves (flat y) = true := by
      obtain ⟨x, m, l', h, e1, e2⟩ := Z6j h
      cases l' with
      | nil => rw [e1, List.append_nil]; exact e2
      | cons z l' => cases h
    obtain ⟨x, m, l', vs1, vs2, h, e1, e2, h2, n1, hbc, hF⟩ := Zac8 hrel h (Zgx hy hlv)
    cases l' with
    | cons z l' => cases h
    | nil =>
    have h2 : vs2 = [] := h2
    subst h2
    rw [List.append_nil] at e1 e2
    subst e1; subst e2
    obtain ⟨xs, g, h, hg, hbo, ih⟩ := Zix hrel h hs
    have eG : Za5 st (.bor t :: ms) (y :: l) = keys (srcs (flat y)) ++ Za5 st ms l := by
      simp only [Za5, Zo]
    refine ⟨(x, xs), g, h, hg, ⟨hlv, n1, hbc, hbo⟩, fun o1 o2 => ?_⟩
    rw [eG] at o1 ⊢
    obtain ⟨p1, p2, p3⟩ := Zax o1
    have a1 : Nam C st (keys (srcs (flat y))) (NamB C st (keys (srcs (flat y)))) := fun _ h => h
    obtain ⟨O, FZ, V, q1, q2, q3, q4, q5⟩ := ih p2 o2
    have d1 : Dis (NamB C st (keys (srcs (flat y)))) O := Nam.dis hrel p3 a1 q1
    refine ⟨fun k => NamB C st (keys (srcs (flat y))) k ∨ O k, FZ, V, Nam.or a1 q1, q2, ?_, q4, fun I hI => ⟨v, _, vs, _, O, rfl, valOf hlv hag hy, (hF p1).frame (Zg _ _) hI.S (Zg _ _) (fun _ h => h), fun _ h => .inl h, fun _ h => .inr h, d1, q5 I ⟨hI.S, fun b' hb => hI.R b' hb, hI.V, hI.Z⟩⟩⟩
    rintro k (k1 | k1) k2
    · exact Nam.dis hrel p3 a1 (q2.mono (Zjw (ms := ms) (l := l))) k k1 k2
    · exact q3 k k1 k2
  | .fn f :: ms, y :: l, vals, k, h, hs => by
    simp only [argsK] at h
    obtain ⟨v, vs, rfl, hy, hs⟩ := hs
    split at h
    rotate_left
    · cases h
    rename_i f'
    split at h
    rotate_left
    · cases h
    rename_i hf
    obtain rfl := Nat.eq_of_beq_eq_true hf
    obtain ⟨us, rfl, hus⟩ := hy
    have hus : us = [] := hus
    subst hus
    obtain ⟨xs, g, h, hg, hbo, ih⟩ := Zix hrel h hs
    refine ⟨((), xs), g, h, hg, hbo, fun o1 o2 => ?_⟩
    obtain ⟨O, FZ, V, q1, q2, q3, q4, q5⟩ := ih o1 o2
    exact ⟨O, FZ, V, q1, q2, q3, q4, fun I hI => ⟨vs, rfl, q5 I ⟨hI.S, fun b' hb => hI.R b' hb, hI.V, hI.Z⟩⟩⟩
end
end Go.Proofs.YtcpecilmkkmaiaaGreat.V
namespace Go.Proofs.YtcpecilmkkmaiaaGreat.V
open Go Go.RowKit
def Dims (V V' : List (Nat × List A)) : Prop := ∀ b, (look V b = none ∧ look V' b = none) ∨ ∃ c c', look V b = some c ∧ look V' b = some c' ∧ c'.length = c.length ∧ ∀ i : Nat, c[i]? = some A.dead → c'[i]? = some A.dead
theorem Dims.refl (V : List (Nat × List A)) : Dims V V := fun b => by
  cases e : look V b with
  | none => exact .inl ⟨rfl, rfl⟩
  | some c => exact .inr ⟨c, c, rfl, rfl, rfl, fun _ h => h⟩
theorem Dims.trans {V V' V2 : List (Nat × List A)} (h : Dims V V') (k : Dims V' V2) : Dims V V2 := fun b => by
  rcases h b with ⟨h1, h2⟩ | ⟨c, c', h1, h2, h3, h4⟩
  · rcases k b with ⟨k1, k2⟩ | ⟨d, d', k1, k2, k3, k4⟩
    · exact .inl ⟨h1, k2⟩
    · rw [h2] at k1; cases k1
  · rcases k b with ⟨k1, k2⟩ | ⟨d, d', k1, k2, k3, k4⟩
    · rw [h2] at k1; cases k1
    · rw [h2] at k1
      obtain rfl := Option.some.inj k1
      exact .inr ⟨c, d', h1, k2, k3.trans h3, fun i q => k4 i (h4 i q)⟩
section
variable {P : Program} {E : Env} {X : Fix} {C C' : Ctx} {st st' : St} {a : Act} {w w' : World} {R : Type} {r : R}
def Lens (V V' : List (Nat × List A)) : Prop := ∀ b c, look V b = some c → ∃ c', look V' b = some c' ∧ c'.length = c.length
theorem Dims.lens {V V' : List (Nat × List A)} (h : Dims V V') : Lens V V' := fun b c e => by
  rcases h b with ⟨q, _⟩ | ⟨d, d', q1, q2, q3, _⟩
  · rw [e] at q; cases q
  · rw [e] at q1
    obtain rfl := Option.some.inj q1
    exact ⟨d', q2, q3⟩
theorem Zjj.mono : ∀ {ms : List Mode} {l : List A} {V : List (Nat × Nat × Nat)}, Zjj C st ms l V → C'.var = C.var → Lens st.vars st'.vars → Zjj C' st' ms l V
  | .io t :: ms, x :: l, V, ⟨b, o, c, V', e, h1, h2, h3, h4⟩, hv, hd => by
    obtain ⟨d', q2, q3⟩ := hd b c h1
    exact ⟨b, o, d', V', e, q2, by rw [q3]; exact h2, by rw [hv]; exact h3, h4.mono hv hd⟩
  | .val t :: ms, _ :: l, V, h, hv, hd => Zjj.mono (ms := ms) h hv hd
  | .rptr t :: ms, _ :: l, V, h, hv, hd => Zjj.mono (ms := ms) h hv hd
  | .fnr f t :: ms, _ :: l, V, h, hv, hd => Zjj.mono (ms := ms) h hv hd
  | .own t :: ms, _ :: l, V, h, hv, hd => Zjj.mono (ms := ms) h hv hd
  | .bor t :: ms, _ :: l, V, h, hv, hd => Zjj.mono (ms := ms) h hv hd
  | .fn t :: ms, _ :: l, V, h, hv, hd => Zjj.mono (ms := ms) h hv hd
  | [], _, V, h, hv, hd => h
  | m :: _, [], V, h, hv, hd => by cases m <;> exact h.elim
theorem Zaeq {α : Type} {cs us : List α} {o : Nat} (h : ∀ i v, us[i]? = some v → cs[o + i]? = some v) : sets cs o us = cs := by
  apply List.ext_getElem?
  intro j
  rw [Zb9]
  split
  · rename_i hj
    have hlt : j - o < us.length := by omega
    have := h (j - o) us[j - o] (List.getElem?_eq_getElem hlt)
    rw [show o + (j - o) = j by omega] at this
    rw [this, List.getElem?_eq_getElem hlt]
  · rfl
theorem Rel.setVar0 (hrel : Rel X C st a w) {b : Nat} {l : List A} {q : Nat} {m : List A} {us : List Value} (hl : look st.vars b = some l) (hm : RAs C w m us) (hq : q + m.length ≤ l.length)
    (hat : Zu w (C.var b).1 ((C.var b).2 + q) us) : Rel X C { st with vars := lay st.vars b (sets l q m) } a w := by
  obtain ⟨vs, hvs, cs, et, fr, h1, h2, h3, h4⟩ := hrel.vars b l hl
  obtain ⟨cs', et', fr', k1, k2, k3⟩ := hat
  have h1' : w.heap[(C.var b).1]? = some (.cells cs et fr) := h1
  rw [h1'] at k1
  obtain ⟨rfl, rfl, rfl⟩ := by simpa using k1
  refine hrel.setVar hl hvs hm hq h1 h2 h3 h4 ⟨rfl, rfl, rfl, rfl, ?_, fun _ _ => rfl⟩
  rw [Zaeq (fun i v hv => by rw [Array.getElem?_toList]; exact k3 i v hv)]
  exact h1
theorem Zakg (n : Nat) : ∀ {vs : List Value}, vs.length = n → RAs C w (List.replicate n .dead) vs
  | [], h => by simp at h; subst h; rfl
  | v :: vs, h => by
    subst h
    exact ⟨v, vs, rfl, trivial, Zakg vs.length rfl⟩
theorem Zif : ∀ {ms : List Mode} {l : List A} {V : List (Nat × Nat × Nat)} {st : St}, Zjj C st ms l V → Rel X C st a w →
    Rel X C { st with vars := Zgu ms l st.vars } a w ∧ Dims st.vars (Zgu ms l st.vars) ∧
      ∀ v ∈ V, ∃ b c, look (Zgu ms l st.vars) b = some c ∧ v.1 = (C.var b).1 ∧ ∀ (i : Nat) x, v.2.1 ≤ (C.var b).2 + i → (C.var b).2 + i < v.2.1 + v.2.2 → c[i]? = some x → x = .dead
  | .io t :: ms, x :: l, V, st, ⟨b, o, c, V', e, h1, h2, h3, h4⟩, hrel => by
    subst e; subst h3
    obtain ⟨vs, hvs, hat⟩ := hrel.vars b c h1
    have hvl := hvs.length
    have hcut := hat.cut o t.size (by omega)
    have hr1 := hrel.setVar0 (m := List.replicate t.size .dead) h1 (Zakg t.size (vs := (vs.drop o).take t.size) (by simp only [List.length_take, List.length_drop]; omega)) (by simpa using h2) (by
      obtain ⟨cs, et, fr, k1, k2, k3, k4⟩ := hcut
      exact ⟨cs, et, fr, k1, k2, k4⟩)
    have hd1 : Dims st.vars (lay st.vars b (sets c o (List.replicate t.size A.dead))) := fun b' => by
      by_cases hb : b = b'
      · subst hb
        right
        refine ⟨c, _, h1, by rw [Zao, if_pos rfl], Zy _ _ _, fun i hi => ?_⟩
        rw [Zb9]
        split
        · rename_i hj
          rw [List.getElem?_replicate, if_pos (by simp at hj; omega)]
        · exact hi
      · rcases Dims.refl st.vars b' with ⟨q1, q2⟩ | ⟨d, d', q1, q2, q3, q4⟩
        · exact .inl ⟨q1, by rw [Zao, if_neg hb]; exact q2⟩
        · exact .inr ⟨d, d', q1, by rw [Zao, if_neg hb]; exact q2, q3, q4⟩
    have eH : Zgu (.io t :: ms) (.vptr b o :: l) st.vars = Zgu ms l (lay st.vars b (sets c o (List.replicate t.size A.dead))) := by
      simp only [Zgu, h1, Zyv, Zaeu]
    rw [eH]
    obtain ⟨i1, i2, i3⟩ := Zif (ms := ms) (l := l) (V := V') (st := { st with vars := lay st.vars b (sets c o (List.replicate t.size A.dead)) }) (h4.mono rfl hd1.lens) hr1
    refine ⟨i1, hd1.trans i2, fun v hv => ?_⟩
    rcases List.mem_cons.1 hv with rfl | hv
    · rcases i2 b with ⟨q, _⟩ | ⟨d, d', q1, q2, q3, q4⟩
      · simp only [Zao, if_true] at q; cases q
      · simp only [Zao, if_true] at q1
        obtain rfl := Option.some.inj q1
        refine ⟨b, d', q2, rfl, fun i y hi1 hi2 hy => ?_⟩
        simp only at hi1 hi2
        rw [Zy] at q3
        have hd := q4 i (by
          rw [Zb9, if_pos (by simp; omega), List.getElem?_replicate, if_pos (by omega)])
        rw [hy] at hd
        exact Option.some.inj hd
    · exact i3 v hv
  | .val t :: ms, _ :: l, V, st, h, hrel => Zif (ms := ms) (l := l) h hrel
  | .rptr t :: ms, _ :: l, V, st, h, hrel => Zif (ms := ms) (l := l) h hrel
  | .fnr f t :: ms, _ :: l, V, st, h, hrel => Zif (ms := ms) (l := l) h hrel
  | .own t :: ms, _ :: l, V, st, h, hrel => Zif (ms := ms) (l := l) h hrel
  | .bor t :: ms, _ :: l, V, st, h, hrel => Zif (ms := ms) (l := l) h hrel
  | .fn t :: ms, _ :: l, V, st, h, hrel => Zif (ms := ms) (l := l) h hrel
  | [], [], V, st, h, hrel => by
    have h : V = [] := h
    subst h
    exact ⟨hrel, Dims.refl _, fun v hv => by cases hv⟩
  | [], _ :: _, V, st, h, hrel => by
    have h : V = [] := h
    subst h
    exact ⟨hrel, Dims.refl _, fun v hv => by cases hv⟩
  | m :: _, [], V, st, h, hrel => by cases m <;> exact h.elim
theorem Keeps.trans {w0 : World} {own O : Zd} {rng R' : Nat → Nat → Prop} (h : Keeps w0 own rng w) (k : Keeps w O R' w') (hO : ∀ k, O k → own k ∨ w0.heap.size ≤ k) (hR : ∀ k i, R' k i → rng k i ∨ w0.heap.size ≤ k) : Keeps w0 own rng w' := by
  have hs := h.size
  have hO' : ∀ k, k < w0.heap.size → ¬ own k → ¬ O k := fun k hk ho q => by
    rcases hO k q with q | q
    · exact ho q
    · omega
  refine ⟨k.os.trans h.os, k.tape.trans h.tape, k.output.trans h.output, Nat.le_trans h.size k.size, fun b hb ho hr => ?_, fun b hb ho cs et fr e => ?_⟩
  · rw [k.same b (by omega) (hO' b hb ho) (fun i q => by
      rcases hR b i q with q | q
      · exact hr i q
      · omega)]
    exact h.same b hb ho hr
  · obtain ⟨cs1, e1, e2, e3⟩ := h.cells b hb ho cs et fr e
    obtain ⟨cs2, f1, f2, f3⟩ := k.cells b (by omega) (hO' b hb ho) cs1 et fr e1
    exact ⟨cs2, f1, f2.trans e2, fun i hi => (f3 i (fun q => by
      rcases hR b i q with q | q
      · exact hi q
      · omega)).trans (e3 i hi)⟩
mutual
theorem Zaiu : ∀ x : A, Zgz [] x = x
  | .int _ _ | .bool _ | .str _ | .nil | .row _ _ | .vptr _ _ | .sptr _ _ | .dead => rfl
  | .ref c q cut => by simp [Zgz, natIn]
  | .rptr c q => by simp [Zgz, natIn]
  | .agg l => by simp only [Zgz, Zj6 l]
  | .tup l => by simp only [Zgz, Zj6 l]
  | .fn f l => by simp only [Zgz, Zj6 l]
theorem Zj6 : ∀ l : List A, Zio [] l = l
  | [] => rfl
  | x :: l => by simp only [Zio, Zaiu x, Zj6 l]
end
theorem Zf4 (bs : List Nat) : ∀ l : List A, (Zio bs l).length = l.length
  | [] => rfl
  | _ :: l => by simp [Zio, Zf4 bs l]
theorem Zaay (bs : List Nat) : ∀ (l : List A) (i : Nat), getL (Zio bs l) i = Zgz bs (getL l i)
  | [], _ => by simp [Zio, getL, Zgz]
  | _ :: _, 0 => rfl
  | _ :: l, i + 1 => Zaay bs l i
theorem Z3u (bs : List Nat) : ∀ (l : List A) (i : Nat) (x : A), (Zio bs l)[i]? = some x → ∃ y, l[i]? = some y ∧ x = Zgz bs y
  | [], i, x, h => by simp [Zio] at h
  | y :: l, 0, x, h => ⟨y, rfl, by simpa [Zio, eq_comm] using h⟩
  | y :: l, i + 1, x, h => by
    obtain ⟨z, h1, h2⟩ := Z3u bs l i x (by simpa [Zio] using h)
    exact ⟨z, by simpa using h1, h2⟩
def Turned (C : Ctx) (w' : World) (I : Zd) (W : List (Nat × Rw)) (G : Nat → Zd) (b : Nat) (r : Rw) : Prop :=
  ∃ (e : Ty) (xs ys : List e.den), r = ⟨e, ys, none⟩ ∧ look W b = some ⟨e, xs, none⟩ ∧ ORow w' (α := e.den) (RepO w' I e) e.size ys none (C.hdr b).1 (C.hdr b).2.1 (C.hdr b).2.2 (G b)
mutual
theorem RA.swap {bs : List Nat} (hi : Same C.I w w') (hI : Sub C.I C'.I) (hS : ∀ c, c ∉ bs → Stays C C' w w' c) (hT : ∀ c, c ∈ bs → C'.hdr c = C.hdr c ∧ ∀ r', look C'.rows c = some r' → ∃ r, look C.rows c = some r ∧ r'.e = r.e) (hv : C'.var = C.var) : ∀ {x : A} {v : Value}, RA C w x v → RA C' w' (Zgz bs x) v
  | .int _ _, _, h => h
  | .bool _, _, h => h
  | .str _, _, h => h
  | .nil, _, h => h
  | .row e xs, v, ⟨a, len, cap, hv', k⟩ => ⟨a, len, cap, hv', SRow.imp hi hI (fun _ _ h => RepS.frame hi hI h) k⟩
  | .ref b p cut, v, h => by
    by_cases hb : b ∈ bs
    · unfold Zgz
      rw [(Za7 _ _).2 hb]
      cases p with
      | cons s p => exact trivial
      | nil =>
        obtain ⟨t1, t2⟩ := hT b hb
        refine ⟨h.1, fun r' hr' => ?_⟩
        obtain ⟨r, hr, he⟩ := t2 r' hr'
        obtain ⟨H, sz, ⟨q1, q2⟩, q3⟩ := h.2 r hr
        exact ⟨H, sz, ⟨by rw [t1]; exact q1, by rw [he]; exact q2⟩, q3⟩
    · have e : Zgz bs (.ref b p cut) = .ref b p cut := by
        unfold Zgz
        rw [if_neg (by simp [Bool.eq_false_iff.2 (fun q => hb ((Za7 _ _).1 q))])]
      rw [e]
      exact h.frame (C := C) (C' := C') hi hI (fun c hc => by cases hc; exact hS _ hb) (fun c hc => hc.elim)
  | .vptr b o, v, h => by
    simp only [Zgz, RA, hv]
    exact h
  | .rptr b p, v, h => by
    by_cases hb : b ∈ bs
    · unfold Zgz
      rw [if_pos ((Za7 _ _).2 hb)]
      exact trivial
    · have e : Zgz bs (.rptr b p) = .rptr b p := by
        unfold Zgz
        rw [if_neg (fun q => hb ((Za7 _ _).1 q))]
      rw [e]
      exact h.frame (C := C) (C' := C') hi hI (fun c hc => by cases hc; exact hS _ hb) (fun c hc => hc.elim)
  | .sptr t x, v, ⟨ad, vs, h1, h2, h3, h4, h5⟩ => ⟨ad, vs, h1, h2, hI _ h3, h4.same (hi _ h3), h5.frame hi hI⟩
  | .fn f l, v, ⟨vs, h1, h2⟩ => ⟨vs, h1, h2.swap hi hI hS hT hv⟩
  | .agg l, v, ⟨vs, h1, h2⟩ => ⟨vs, h1, h2.swap hi hI hS hT hv⟩
  | .tup l, v, ⟨vs, h1, h2⟩ => ⟨vs, h1, h2.swap hi hI hS hT hv⟩
  | .dead, _, _ => trivial
theorem RAs.swap {bs : List Nat} (hi : Same C.I w w') (hI : Sub C.I C'.I) (hS : ∀ c, c ∉ bs → Stays C C' w w' c) (hT : ∀ c, c ∈ bs → C'.hdr c = C.hdr c ∧ ∀ r', look C'.rows c = some r' → ∃ r, look C.rows c = some r ∧ r'.e = r.e) (hv : C'.var = C.var) : ∀ {x : List A} {v : List Value}, RAs C w x v → RAs C' w' (Zio bs x) v
  | [], _, h => h
  | _ :: _, _, ⟨v, vs, e, h1, h2⟩ => ⟨v, vs, e, h1.swap hi hI hS hT hv, h2.swap hi hI hS hT hv⟩
end
theorem Zf3 (W : List (Nat × Rw)) : ∀ (B : List (Nat × Rw)) (c : Nat), (c ∉ keysB B → look (Ztw W B) c = look W c) ∧ (c ∈ keysB B → ∃ r, (c, r) ∈ B ∧ look (Ztw W B) c = some r)
  | [], c => ⟨fun _ => rfl, fun h => by cases h⟩
  | (b, r) :: B, c => by
    obtain ⟨h1, h2⟩ := Zf3 W B c
    simp only [keysB, Ztw, Zao, List.mem_cons]
    by_cases hb : b = c
    · subst hb
      refine ⟨fun q => absurd (.inl rfl) q, fun _ => ⟨r, .inl rfl, by rw [if_pos rfl]⟩⟩
    · rw [if_neg hb]
      refine ⟨fun q => h1 (fun q' => q (.inr q')), fun q => ?_⟩
      rcases q with q | q
      · exact absurd q.symm hb
      · obtain ⟨r', m1, m2⟩ := h2 q
        exact ⟨r', .inr m1, m2⟩
theorem Z4j (B : List (Nat × Rw)) (st : St) : swapS B st = ⟨Zio (keysB B) st.tmps, mapL (fun v => (v.1, Zio (keysB B) v.2)) st.vars, Ztw st.rows B⟩ := by
  cases B with
  | nil =>
    obtain ⟨T, V, W⟩ := st
    have hV : mapL (fun v : Nat × List A => (v.1, Zio (keysB []) v.2)) V = V := by
      induction V with
      | nil => rfl
      | cons v V ih =>
        show (v.1, Zio [] v.2) :: mapL (fun v : Nat × List A => (v.1, Zio (keysB []) v.2)) V = v :: V
        rw [ih, Zj6]
    simp only [swapS, keysB, Zj6, Ztw]
    rw [show mapL (fun v : Nat × List A => (v.1, v.2)) V = V from by simpa only [keysB, Zj6] using hV]
  | cons b B => rfl
theorem Rel.after {O J : Zd} {B : List (Nat × Rw)} {G : Nat → Zd} {V : List (Nat × Nat × Nat)} (hrel : Rel X C st a w)
    (hOI : Dis O C.I) (hOF : ∀ c r, look st.rows c = some r → c ∉ keysB B → Dis O (C.F c)) (hOV : ∀ c l, look st.vars c = some l → ¬ O (C.var c).1) (hOown : ∀ k, O k → X.own k ∨ X.w0.heap.size ≤ k)
    (hV : ∀ v ∈ V, ∃ b c, look st.vars b = some c ∧ v.1 = (C.var b).1 ∧ ∀ (i : Nat) x, v.2.1 ≤ (C.var b).2 + i → (C.var b).2 + i < v.2.1 + v.2.2 → c[i]? = some x → x = .dead)
    (hV2 : ∀ k i, RngOf V k i → X.rng k i ∨ X.w0.heap.size ≤ k) (hk : Keeps w O (RngOf V) w')
    (hJ : ∀ k, J k → C.I k ∨ O k ∨ w.heap.size ≤ k) (hJlt : ∀ k, J k → k < w'.heap.size)
    (hB : ∀ b r, (b, r) ∈ B → Turned C w' (fun k => C.I k ∨ J k) st.rows G b r) (hGd : ∀ b c, b ∈ keysB B → c ∈ keysB B → b ≠ c → Dis (G b) (G c)) (hGO : ∀ b, b ∈ keysB B → ∀ k, G b k → O k ∨ w.heap.size ≤ k) (hGJ : ∀ b, b ∈ keysB B → Dis (G b) J) (hGlt : ∀ b, b ∈ keysB B → ∀ k, G b k → k < w'.heap.size) :
    Rel X { C with I := fun k => C.I k ∨ J k, F := fun c => if natIn c (keysB B) = true then G c else C.F c, rows := Ztw C.rows B } (swapS B st) a w' ∧ ∀ x v, RA C w x v → RA { C with I := fun k => C.I k ∨ J k, F := fun c => if natIn c (keysB B) = true then G c else C.F c, rows := Ztw C.rows B } w' (Zgz (keysB B) x) v := by
  have hi : Same C.I w w' := fun k q => hk.same k (hrel.Ilt k q) (fun q' => hOI k q' q) (fun i ⟨v, hv, e, _⟩ => by
    obtain ⟨b, c, h1, h2, _⟩ := hV v hv
    exact hrel.vI b c h1 (by rw [← h2, e]; exact q))
  have hF : ∀ c r, look st.rows c = some r → c ∉ keysB B → Same (C.F c) w w' := fun c r e hc k q => hk.same k (hrel.Flt c r e k q) (fun q' => hOF c r e hc k q' q) (fun i ⟨v, hv, e', _⟩ => by
    obtain ⟨b, c', h1, h2, _⟩ := hV v hv
    exact hrel.vF b c' c r h1 e (by rw [← h2, e']; exact q))
  have hns : ∀ c, c ∉ keysB B → natIn c (keysB B) = false := fun c hc => Bool.eq_false_iff.2 (fun q => hc ((Za7 _ _).1 q))
  have hyes : ∀ c, c ∈ keysB B → natIn c (keysB B) = true := fun c hc => (Za7 _ _).2 hc
  let C2 : Ctx := { C with I := fun k => C.I k ∨ J k, F := fun c => if natIn c (keysB B) = true then G c else C.F c, rows := Ztw C.rows B }
  have hS : ∀ c, c ∉ keysB B → Stays C C2 w w' c := fun c hc => ⟨(Zf3 C.rows B c).1 hc, fun _ => rfl, fun _ => by show (if natIn c (keysB B) = true then G c else C.F c) = C.F c; rw [hns c hc]; rfl, fun ne => by
    cases e : look C.rows c with
    | none => exact absurd e ne
    | some r => exact hF c r (hrel.rowsEq ▸ e) hc⟩
  have hT : ∀ c, c ∈ keysB B → C2.hdr c = C.hdr c ∧ ∀ r', look C2.rows c = some r' → ∃ r, look C.rows c = some r ∧ r'.e = r.e := fun c hc => ⟨rfl, fun r' hr' => by
    obtain ⟨r, m1, m2⟩ := (Zf3 C.rows B c).2 hc
    have hr' : look (Ztw C.rows B) c = some r' := hr'
    rw [m2] at hr'
    obtain rfl := Option.some.inj hr'
    obtain ⟨e, xs, ys, e1, e2, _⟩ := hB c r m1
    subst e1
    exact ⟨⟨e, xs, none⟩, by rw [hrel.rowsEq]; exact e2, rfl⟩⟩
  have hIs : Sub C.I C2.I := fun _ h => .inl h
  have hfrm : ∀ {x : A} {v : Value}, RA C w x v → RA C2 w' (Zgz (keysB B) x) v := fun h => h.swap (C := C) (C' := C2) hi hIs hS hT rfl
  have hvars : ∀ c l, look (mapL (fun v : Nat × List A => (v.1, Zio (keysB B) v.2)) st.vars) c = some l → ∃ l', look st.vars c = some l' ∧ l = Zio (keysB B) l' := fun c l e => by
    rw [Zcp] at e
    cases q : look st.vars c with
    | none => rw [q] at e; cases e
    | some l' => rw [q] at e; exact ⟨l', rfl, (Option.some.inj e).symm⟩
  have hrows : ∀ c r, look (Ztw st.rows B) c = some r → (c ∉ keysB B ∧ look st.rows c = some r) ∨ (c ∈ keysB B ∧ (c, r) ∈ B ∧ Turned C w' (fun k => C.I k ∨ J k) st.rows G c r) := fun c r e => by
    by_cases hc : c ∈ keysB B
    · obtain ⟨r', m1, m2⟩ := (Zf3 st.rows B c).2 hc
      rw [m2] at e
      obtain rfl := Option.some.inj e
      exact .inr ⟨hc, m1, hB c r' m1⟩
    · rw [(Zf3 st.rows B c).1 hc] at e
      exact .inl ⟨hc, e⟩
  have hw0 := hrel.frame.size
  have hGown : ∀ b, b ∈ keysB B → ∀ k, G b k → X.own k ∨ X.w0.heap.size ≤ k := fun b hb k q => (hGO b hb k q).elim (hOown k) (fun q => .inr (Nat.le_trans hw0 q))
  have hGI : ∀ b, b ∈ keysB B → Dis (G b) C.I := fun b hb k q1 q2 => (hGO b hb k q1).elim (fun q => hOI k q q2) (fun q => Nat.lt_irrefl _ (Nat.lt_of_lt_of_le (hrel.Ilt k q2) q))
  have hGF : ∀ b, b ∈ keysB B → ∀ c r, look st.rows c = some r → c ∉ keysB B → Dis (G b) (C.F c) := fun b hb c r e hc k q1 q2 => (hGO b hb k q1).elim (fun q => hOF c r e hc k q q2) (fun q => Nat.lt_irrefl _ (Nat.lt_of_lt_of_le (hrel.Flt c r e k q2) q))
  have vlt : ∀ c l, look st.vars c = some l → (C.var c).1 < w.heap.size := fun c l e => by
    obtain ⟨vs, hvs, cs, et, fr, h1, _⟩ := hrel.vars c l e
    exact (Array.getElem?_eq_some_iff.1 h1).1
  have hGV : ∀ b, b ∈ keysB B → ∀ c l, look st.vars c = some l → ¬ G b (C.var c).1 := fun b hb c l e q1 => (hGO b hb _ q1).elim (fun q => hOV c l e q) (fun q => Nat.lt_irrefl _ (Nat.lt_of_lt_of_le (vlt c l e) q))
  refine ⟨?_, fun x v h => hfrm h⟩
  rw [Z4j]
  refine {
    rowsEq := by rw [hrel.rowsEq]
    defers := hrel.defers
    tlen := by simp only [Zf4]; exact hrel.tlen
    tmps := fun i => by simp only [Zaay]; exact hfrm (hrel.tmps i)
    vars := fun b l e => ?_
    vdis := fun b c l m hbc h1 h2 => ?_
    vI := fun b l e q => ?_
    vF := fun b l c r h1 h2 => ?_
    rows := fun c r e => ?_
    rdis := fun b c r s hbc h1 h2 => ?_
    rI := fun c r e k q1 q2 => ?_
    Ilt := fun k q => q.elim (fun q => Nat.lt_of_lt_of_le (hrel.Ilt k q) hk.size) (hJlt k)
    Flt := fun c r e k q => ?_
    Fown := fun c r e k q => ?_
    Vown := fun b l e i hi' => ?_
    pins := fun b L hp hn => hrel.pins b L hp (fun q => hn (by rw [Zcp, q]; rfl))
    pinsR := fun b H hp hn => hrel.pinsR b H hp (fun q => hn (by
      by_cases hb : b ∈ keysB B
      · obtain ⟨r, m1, m2⟩ := (Zf3 st.rows B b).2 hb
        obtain ⟨e, xs, ys, e1, e2, _⟩ := hB b r m1
        rw [q] at e2; cases e2
      · rw [(Zf3 st.rows B b).1 hb]; exact q))
    Iown := fun k q => q.elim (hrel.Iown k) (fun q => (hJ k q).elim (hrel.Iown k) (fun q => q.elim (fun q => .inr (hOown k q)) (fun q => .inr (.inr (Nat.le_trans hw0 q)))))
    frame := hrel.frame.trans hk hOown hV2 }
  · obtain ⟨l', e', rfl⟩ := hvars b l e
    obtain ⟨vs, hvs, cs, et, fr, h1, h2, h3, h4⟩ := hrel.vars b l' e'
    have hlt : (C.var b).1 < w.heap.size := vlt b l' e'
    obtain ⟨cs', k1, k2, k3⟩ := hk.cells _ hlt (hOV b l' e') cs et fr h1
    have hvl := hvs.length
    have hget : ∀ i, i < l'.length → ((cs'.toList.drop (C.var b).2).take l'.length)[i]? = cs'[(C.var b).2 + i]? := fun i hi => by
      rw [List.getElem?_take, if_pos hi, List.getElem?_drop, Array.getElem?_toList]
    have hlen : ((cs'.toList.drop (C.var b).2).take l'.length).length = l'.length := by
      simp only [List.length_take, List.length_drop, Array.length_toList]; omega
    refine ⟨(cs'.toList.drop (C.var b).2).take l'.length, RAs.of (by rw [hlen, Zf4]) (fun i x v hx hv => ?_), cs', et, fr, k1, by rw [hlen]; show (C.var b).2 + l'.length ≤ cs'.size; omega, by rw [k2]; exact h3, fun i v hv => ?_⟩
    · obtain ⟨x0, hx0, rfl⟩ := Z3u _ _ _ _ hx
      have hil := (List.getElem?_eq_some_iff.1 hx0).1
      rw [hget i hil] at hv
      by_cases hr : RngOf V (C.var b).1 ((C.var b).2 + i)
      · obtain ⟨u, hu, q1, q2, q3⟩ := hr
        obtain ⟨b', c, m1, m2, m3⟩ := hV u hu
        have hbb : b' = b := Classical.byContradiction fun q => hrel.vdis b' b c l' q m1 e' (by rw [← m2, q1])
        subst hbb
        rw [e'] at m1
        obtain rfl := Option.some.inj m1
        rw [m3 i x0 q2 q3 hx0]
        exact trivial
      · rw [k3 _ hr] at hv
        obtain ⟨u, hu1, hu2⟩ := hvs.get hx0
        rw [h4 i u hu1] at hv
        obtain rfl := Option.some.inj hv
        exact hfrm hu2
    · have hil := (List.getElem?_eq_some_iff.1 hv).1
      rw [hget i (by omega)] at hv
      exact hv
  · obtain ⟨l', e1, _⟩ := hvars b l h1
    obtain ⟨m', e2, _⟩ := hvars c m h2
    exact hrel.vdis b c l' m' hbc e1 e2
  · obtain ⟨l', e', _⟩ := hvars b l e
    rcases q with q | q
    · exact hrel.vI b l' e' q
    · rcases hJ _ q with q | q | q
      · exact hrel.vI b l' e' q
      · exact hOV b l' e' q
      · exact Nat.lt_irrefl _ (Nat.lt_of_lt_of_le (vlt b l' e') q)
  · obtain ⟨l', e1, _⟩ := hvars b l h1
    rcases hrows c r h2 with ⟨hc, h2⟩ | ⟨hc, _⟩
    · simp only [hns c hc]; exact hrel.vF b l' c r e1 h2
    · simp only [hyes c hc, if_true]; exact hGV c hc b l' e1
  · rcases hrows c r e with ⟨hc, e⟩ | ⟨hc, _, e0, xs, ys, rfl, _, ho⟩
    · simp only [hns c hc]
      have hFc := hF c r e hc
      obtain ⟨h1, h2, h3⟩ := hrel.rows c r e
      exact ⟨h1, h2, h3.imp id fun ⟨ad, cs, et, fr, vs', G', e1, e2, e3, e4, e5, e6, e7, e8, e9, e10⟩ =>
        ⟨ad, cs, et, fr, vs', G', e1, e2, e3, e4, e5, (hFc _ e3).trans e6, e7, e8, e9.same (hFc _ e3), e10.imp (fun _ h => h) (fun _ _ _ _ sG r => r.frame hi (fun _ h => .inl h) (hFc.sub (fun k hk => e5 k (sG k hk))) (fun _ h => h))⟩⟩
    · simp only [hyes c hc, if_true]; exact ho
  · rcases hrows b r h1 with ⟨hb, h1⟩ | ⟨hb, _⟩ <;> rcases hrows c s h2 with ⟨hc, h2⟩ | ⟨hc, _⟩
    · simp only [hns b hb, hns c hc]; exact hrel.rdis b c r s hbc h1 h2
    · simp only [hns b hb, hyes c hc, if_true]; exact fun k q1 q2 => hGF c hc b r h1 hb k q2 q1
    · simp only [hyes b hb, hns c hc, if_true]; exact hGF b hb c s h2 hc
    · simp only [hyes b hb, hyes c hc, if_true]; exact hGd b c hb hc hbc
  · rcases hrows c r e with ⟨hc, e⟩ | ⟨hc, _⟩
    · simp only [hns c hc] at q1
      have q1 : C.F c k := q1
      rcases q2 with q2 | q2
      · exact hrel.rI c r e k q1 q2
      · rcases hJ k q2 with q | q | q
        · exact hrel.rI c r e k q1 q
        · exact hOF c r e hc k q q1
        · exact Nat.lt_irrefl _ (Nat.lt_of_lt_of_le (hrel.Flt c r e k q1) q)
    · simp only [hyes c hc, if_true] at q1
      exact q2.elim (hGI c hc k q1) (hGJ c hc k q1)
  · rcases hrows c r e with ⟨hc, e⟩ | ⟨hc, _⟩
    · simp only [hns c hc] at q
      exact Nat.lt_of_lt_of_le (hrel.Flt c r e k q) hk.size
    · simp only [hyes c hc, if_true] at q
      exact hGlt c hc k q
  · rcases hrows c r e with ⟨hc, e⟩ | ⟨hc, _⟩
    · simp only [hns c hc] at q
      exact hrel.Fown c r e k q
    · simp only [hyes c hc, if_true] at q
      exact hGown c hc k q
  · obtain ⟨l', e', rfl⟩ := hvars b l e
    exact hrel.Vown b l' e' i (by simpa only [Zf4] using hi')
end
end Go.Proofs.YtcpecilmkkmaiaaGreat.V
