/- What slices.Delete, slices.Insert, slices.Clone do, as plain functions. No condition beyond those that stand in each theorem. -/
import Derived.Test.YtcpecilmkkmaiaaGreatVC
import Derived.Test.YtcpecilmkkmaiaaGreatVIns
import Derived.Test.YtcpecilmkkmaiaaGreatVIns2
import Derived.Test.YtcpecilmkkmaiaaGreatVIns3
import Derived.Shelf.SlicesE.Clone
import Derived.Test.YtcpecilmkkmaiaaGreatProg
set_option linter.unusedVariables false
set_option linter.unusedSimpArgs false
noncomputable section
namespace Go.Proofs.YtcpecilmkkmaiaaGreat.V
open Go Go.RowKit Go.Proofs
abbrev ET : Ty := .pair .str (.pair .str .unit)
abbrev Elt : Type := ByteArray × ByteArray × Unit
theorem et_rep {w w' : World} {I J : Zd} {x : ET.den} {vs : List Value} (h : RepS w I ET x vs) : RepS w' J ET x vs := h
theorem Zabs {w w' : World} {I J : Zd} {xs : List ET.den} {vs : List Value} (h : RepN (RepS w I ET) xs vs) : RepN (RepS w' J ET) xs vs := RepN.imp (fun _ _ h => et_rep h) h
section
variable {w w' : World} {I OW : Zd} {V : List (Nat × Nat × Nat)} {ms : List Mode} {vals : List Value}
theorem Z0r {f : (Zkk ms).den → Option ((Zdc ms).den × (Ty.pair (.row true ET) .unit).den)} {out : (Zdc ms).den} {ys : List Elt} {b off len cap : Nat} {cs : Array Value} {et : TypeId} {fr : Nat × Nat} {vs : List Value}
    (hK : Keeps w OW (RngOf V) w') (hb : OW b ∨ w.heap.size ≤ b) (hd : Dis OW I) (hlt : ∀ k, I k ∨ OW k → k < w.heap.size) (hV : ∀ v ∈ V, ¬ I v.1 ∧ ¬ OW v.1) (hVlt : ∀ v ∈ V, v.1 < w.heap.size)
    (hout : Zo7 w' I ms out V vals (fun _ => False)) (hl : len = ys.length) (hc : len ≤ cap) (h : w'.heap[b]? = some (.cells cs et fr)) (hsz : off + cap * 2 ≤ cs.size) (hfr : FrZ 2 fr cs.size)
    (hat : ∀ i v, vs[i]? = some v → cs[off + i]? = some v) (hr : RepN (RepS w' I ET) ys vs) :
    Came ⟨ms, [.row true ET], .pair (.row true ET) .unit, f⟩ (out, (ys, ())) w I OW V vals (.returned (.slice (some ⟨b, off, none⟩) len cap)) w' := by
  have hvl : vs.length = ys.length * 2 := hr.length (n := 2) (fun _ _ h => h.length)
  have hbl := (Array.getElem?_eq_some_iff.1 h).1
  refine ⟨_, rfl, hK, [.slice (some ⟨b, off, none⟩) len cap], [.slice (some ⟨b, off, none⟩) len cap], I, (fun k => k = b), fun _ => False, rfl, ?_⟩
  exact {
    I2 := fun k hk => .inl hk
    O := fun k hk => by
      rcases hk with rfl | hk
      · exact hb
      · exact hk.elim
    lt := fun k hk => by
      rcases hk with hk | rfl | hk
      · exact Nat.lt_of_lt_of_le (hlt k (.inl hk)) hK.size
      · exact hbl
      · exact hk.elim
    d1 := fun k _ hk => hk
    d2 := fun k hk hi => by
      subst hk
      rcases hb with hb | hb
      · exact hd k hb hi
      · exact absurd (hlt k (.inl hi)) (by omega)
    d3 := fun k hk => hk.elim
    dV := fun u hu => ⟨(hV u hu).1, fun q => by
      have q : u.1 = b := q
      rcases hb with hb | hb
      · exact (hV u hu).2 (by rw [q]; exact hb)
      · exact absurd (hVlt u hu) (by omega), fun q => q⟩
    res := ⟨_, [], [_], [], rfl, rfl, ⟨fun q => (by cases q), fun _ => rfl⟩, rfl, rfl, rfl⟩
    val := ⟨[_], [], (fun k => k = b), fun _ => False, rfl, fun _ h => h, fun _ h => h.elim, fun _ _ h => h, ⟨_, _, _, rfl, .inr ⟨hl, hc, .inr ⟨⟨b, off, none⟩, cs, et, fr, vs, fun _ => False, rfl, rfl, rfl, fun h => h, fun _ h => h.elim, h, hsz, hfr, ⟨cs, et, fr, h, by have : ys.length * 2 ≤ cap * 2 := Nat.mul_le_mul_right _ (by omega); show off + vs.length ≤ _; omega, hat⟩, Zh8 rfl hr⟩⟩⟩, rfl⟩
    outs := hout }
theorem Zvj {g : Nat} {cs : Array Value} {et : TypeId} {fr : Nat × Nat} {rng : Nat → Nat → Prop} (hp : Poked w w' g cs et fr) (hg : OW g) : Keeps w OW rng w' :=
  ⟨hp.os, hp.tape, hp.output, by rw [hp.size]; exact Nat.le_refl _, fun k _ ho _ => hp.same k (fun q => ho (q ▸ hg)), fun k _ ho cs0 et0 fr0 e => ⟨cs0, by rw [hp.same k (fun q => ho (q ▸ hg))]; exact e, rfl, fun _ _ => rfl⟩⟩
theorem keeps_drew {rng : Nat → Nat → Prop} : Keeps w OW rng w.drew := ⟨rfl, rfl, rfl, Nat.le_refl _, fun _ _ _ _ => rfl, fun k _ _ cs et fr e => ⟨cs, e, rfl, fun _ _ => rfl⟩⟩
theorem Zt3 {rng : Nat → Nat → Prop} (h : Keeps w.drew OW rng w') : Keeps w OW rng w' := ⟨h.os, h.tape, h.output, h.size, h.same, h.cells⟩
theorem Zaey {w w1 w2 : World} {g : Nat} {cs cs' : Array Value} {et et' : TypeId} {fr fr' : Nat × Nat} (h : Poked w w1 g cs et fr) (k : Poked w1 w2 g cs' et' fr') : Poked w w2 g cs' et' fr' :=
  ⟨k.os.trans h.os, k.tape.trans h.tape, k.output.trans h.output, k.size.trans h.size, k.this, fun q hq => (k.same q hq).trans (h.same q hq)⟩
theorem Zyr {xs : List Elt} {a : Option Addr} {len cap : Nat} {F : Zd} (h : ORow w (α := ET.den) (RepO w I ET) 2 xs none a len cap F) (hc : 0 < cap) :
    len = xs.length ∧ len ≤ cap ∧ ∃ g o cs et fr vs, a = some ⟨g, o, none⟩ ∧ F g ∧ w.heap[g]? = some (.cells cs et fr) ∧ o + cap * 2 ≤ cs.size ∧ FrZ 2 fr cs.size ∧ vs.length = xs.length * 2 ∧ (∀ i v, vs[i]? = some v → cs[o + i]? = some v) ∧ RepN (RepS w I ET) xs vs ∧ ∀ v ∈ vs, Ze5 v = true := by
  obtain ⟨h1, h2, h3⟩ := h
  rcases h3 with h3 | ⟨ad, cs, et, fr, vs, F', e1, e2, e3, e4, e5, e6, e7, e8, e9, e10⟩
  · omega
  · have hr := Zq7 (e := ET) rfl e10
    obtain ⟨cs2, et2, fr2, g1, g2, g3⟩ := e9
    rw [e6] at g1
    simp only [Option.some.injEq, Obj.cells.injEq] at g1
    obtain ⟨rfl, rfl, rfl⟩ := g1
    exact ⟨h1, h2, ad.block, ad.off, cs, et, fr, vs, by rw [e1]; congr 1; exact Zmv e2, e3, e6, e7, e8, hr.length (n := 2) (fun _ _ h => h.length), g3, hr, Zun e10⟩
end
theorem get_at {α : Type} {l : List α} {i : Nat} (h : i < l.length) : ∃ x, l[i]? = some x := ⟨l[i], List.getElem?_eq_getElem h⟩
def Z38 (x : List Elt × Int × Int × Unit) : Option (Unit × (List Elt × Unit)) :=
  if 0 ≤ x.2.1 ∧ x.2.2.1 = x.2.1 + 1 ∧ x.2.1 < x.1.length then some ((), x.1.take x.2.1.toNat ++ x.1.drop (x.2.1.toNat + 1), ()) else none
theorem Zady {w : World} {I OW O1 : Zd} {xs : List Elt} {n1 n2 : Int} {a : Option Addr} {len cap : Nat} {r : Unit × (List Elt × Unit)} (ho : ORow w (α := ET.den) (RepO w I ET) 2 xs none a len cap O1) (s1 : Sub O1 OW)
    (hd : Dis OW I) (hlt : ∀ k, I k ∨ OW k → k < w.heap.size) (hx : Z38 (xs, n1, n2, ()) = some r) :
    Calls Tryz.prog 136 #[.slice a len cap, .int .i64 n1, .int .i64 n2] w (Came ⟨[.own (.row true ET), .val (.int .i64), .val (.int .i64)], [.row true ET], .pair (.row true ET) .unit, Z38⟩ r w I OW [] [.slice a len cap, .int .i64 n1, .int .i64 n2]) := by
  unfold Z38 at hx
  split at hx
  rotate_left
  · cases hx
  rename_i hc
  obtain ⟨h0, h1, h2⟩ := hc
  simp only at h0 h1 h2
  obtain ⟨i, rfl⟩ := Int.eq_ofNat_of_zero_le h0
  subst h1
  simp only [Int.toNat_natCast] at hx
  cases hx
  have hcap : 0 < cap := by have h3 : len = xs.length := ho.1; have := ho.2.1; omega
  obtain ⟨l1, l2, g, o, cs, et, fr, row, rfl, hg, hb, hcs, hfr, hrl, hrow, hrep, hone⟩ := Zyr ho hcap
  have hin : i < xs.length := by omega
  subst l1
  refine (Go.Proofs.YtcpecilmkkmaiaaGreatX.delete_raw g o xs.length cap i cs et fr row w hb hfr.1 hcs (by omega) hin hrl hrow (fun v hv => Zpx (hone v hv))).mono ?_
  rintro e w' ⟨rfl, rfl⟩
  obtain ⟨news, hnews⟩ : ∃ news, news = row.drop ((i + 1) * 2) := ⟨_, rfl⟩
  have hnl : news.length = (xs.length - (i + 1)) * 2 := by rw [hnews, List.length_drop, hrl]; omega
  rw [← hnews]
  have p1 := Zcd (et := et) (fr := fr) news (o + i * 2) w.drew cs hb
  have p2 := Zcd (et := et) (fr := fr) [.string ⟨#[]⟩, .string ⟨#[]⟩] (o + (xs.length - 1) * 2) _ _ p1.this
  have p := Zaey p1 p2
  have hsz : ((sets (sets cs.toList (o + i * 2) news).toArray.toList (o + (xs.length - 1) * 2) [Value.string ⟨#[]⟩, .string ⟨#[]⟩]).toArray).size = cs.size := by simp [Zy]
  have hlen : (xs.take i ++ xs.drop (i + 1)).length = xs.length - 1 := by rw [List.length_append, List.length_take, List.length_drop]; omega
  have k1 := Zlm (fun _ _ h => RepS.length h) (n := 2) i hrep
  have k2 := Zlm (fun _ _ h => RepS.length h) (n := 2) (i + 1) hrep
  refine Z0r (ms := [.own (.row true ET), .val (.int .i64), .val (.int .i64)]) (vs := row.take (i * 2) ++ news) (out := ()) (Zt3 (Zvj p (s1 g hg))) (.inl (s1 g hg)) hd hlt (fun v hv => by cases hv) (fun v hv => by cases hv) trivial hlen.symm (by omega) p.this (by rw [hsz]; exact hcs) (by rw [hsz]; exact hfr) (fun j v hv => ?_) (Zabs (Zqz k1.1 (by rw [hnews]; exact k2.2)))
  have hj := (List.getElem?_eq_some_iff.1 hv).1
  rw [List.length_append, List.length_take, hnl, hrl] at hj
  rw [List.getElem?_toArray, Zb9, if_neg (by simp; omega)]
  show (sets cs.toList (o + i * 2) news)[o + j]? = some v
  rw [Zb9]
  by_cases hj2 : j < i * 2
  · rw [if_neg (by omega), Array.getElem?_toList]
    rw [List.getElem?_append_left (by rw [List.length_take]; omega), List.getElem?_take_of_lt hj2] at hv
    exact hrow j v hv
  · rw [List.getElem?_append_right (by rw [List.length_take]; omega), List.length_take, Nat.min_eq_left (by omega)] at hv
    rw [if_pos ⟨by omega, by omega, by simp; omega⟩, ← hv]
    congr 1; omega
theorem Zadi (hE : Zq1 Tryz.prog 136) : Known Tryz.prog 136 ⟨[.own (.row true ET), .val (.int .i64), .val (.int .i64)], [.row true ET], .pair (.row true ET) .unit, Z38⟩ := by
  refine ⟨hE, ?_⟩
  intro w I OW V x vals r hA hd hlt hV hx
  obtain ⟨v, us, vs', O1, O2, rfl, hv, ⟨a, len, cap, rfl, ho⟩, s1, s2, -, hA⟩ := hA
  obtain ⟨v1, u1, l1, rfl, q1, r1, v2, u2, l2, rfl, q2, r2, rfl, rfl⟩ := hA
  have r1 : u1 = [.int .i64 x.2.1] := r1
  have r2 : u2 = [.int .i64 x.2.2.1] := r2
  subst r1; subst r2
  obtain rfl := (List.cons.inj (q1.2 rfl)).1
  obtain rfl := (List.cons.inj (q2.2 rfl)).1
  obtain rfl := (List.cons.inj (hv.2 rfl)).1
  exact Zady (xs := x.1) (ho.resolve_left (by simp)) s1 hd hlt hx
def Z3v (x : List Elt × Int × List Elt × Unit) : Option (Unit × (List Elt × Unit)) :=
  match x.2.2.1 with
  | [y] => if 0 ≤ x.2.1 ∧ x.2.1 ≤ x.1.length ∧ (x.1.length + 1) * 32 ≤ 140737488355328 then some ((), x.1.take x.2.1.toNat ++ ([y] ++ x.1.drop x.2.1.toNat), ()) else none
  | _ => none
theorem Zafe {w w' : World} {OW : Zd} {rng : Nat → Nat → Prop} (h1 : w'.os = w.os) (h2 : w'.tape = w.tape) (h3 : w'.output = w.output) (h4 : w.heap.size ≤ w'.heap.size) (h5 : ∀ k, k < w.heap.size → w'.heap[k]? = w.heap[k]?) : Keeps w OW rng w' :=
  ⟨h1, h2, h3, h4, fun k hk _ _ => h5 k hk, fun k hk _ cs et fr e => ⟨cs, by rw [h5 k hk]; exact e, rfl, fun _ _ => rfl⟩⟩
set_option maxHeartbeats 2000000 in
set_option maxRecDepth 100000 in
open Go.Proofs.YtcpecilmkkmaiaaGreatX in
theorem Zadk {w : World} {I OW O1 O2 : Zd} {xs ys : List Elt} {n1 : Int} {a b : Option Addr} {len cap len2 cap2 : Nat} {r : Unit × (List Elt × Unit)} (ho : ORow w (α := ET.den) (RepO w I ET) 2 xs none a len cap O1) (ho2 : ORow w (α := ET.den) (RepO w I ET) 2 ys none b len2 cap2 O2) (s1 : Sub O1 OW)
    (hdis : Dis O1 O2) (hd : Dis OW I) (hlt : ∀ k, I k ∨ OW k → k < w.heap.size) (hx : Z3v (xs, n1, ys, ()) = some r) :
    Calls Tryz.prog 137 #[.slice a len cap, .int .i64 n1, .slice b len2 cap2] w (Came ⟨[.own (.row true ET), .val (.int .i64), .own (.row true ET)], [.row true ET], .pair (.row true ET) .unit, Z3v⟩ r w I OW [] [.slice a len cap, .int .i64 n1, .slice b len2 cap2]) := by
  unfold Z3v at hx
  split at hx
  rotate_left
  · cases hx
  rename_i y hy
  simp only at hy
  subst hy
  split at hx
  rotate_left
  · cases hx
  rename_i hc
  obtain ⟨h0, h1, hbig⟩ := hc
  simp only at h0 h1 hbig
  obtain ⟨i, rfl⟩ := Int.eq_ofNat_of_zero_le h0
  simp only [Int.toNat_natCast] at hx
  cases hx
  have hlen : len = xs.length := ho.1
  have hlc : len ≤ cap := ho.2.1
  have hlen2 : len2 = 1 := ho2.1
  obtain ⟨-, -, vb, vo, cv, et', fr', vs, rfl, hvF, hv, hcv, hfr2, hvl, hvs, hvr, hv1⟩ := Zyr ho2 (by have := ho2.2.1; omega)
  have hvl : vs.length = 2 := hvl
  have h1v : ∀ v ∈ vs, v.oneCell' = true := fun v hv => Zpx (hv1 v hv)
  have hfr' : fr'.2 ≤ fr'.1 := hfr2.2 (by decide)
  subst hlen
  subst hlen2
  obtain ⟨i0, hi0, hz0, hz1, hz2⟩ := info_parts (show (Tryz.prog.info? 82).map (fun i => (i.zero, i.size, i.bytes)) = some (some (.agg #[.string ⟨#[]⟩, .string ⟨#[]⟩]), 2, 32) by kernel_rfl)
  have hbel : ∀ k, k < w.heap.size → (w.drew.alloc (.cells #[] 0)).heap[k]? = w.heap[k]? := fun k hk => alloc_old2 w.drew _ k hk
  have hfv : ∀ W : World, W.heap = w.heap → (Builtin.firstCells i0.size 1 (.slice (some ⟨vb, vo, none⟩) 1 cap2)).run Tryz.prog W = .ok vs.toArray W := fun W hW => by
    rw [hz1]
    exact run_firstCells_some W 2 1 ⟨vb, vo, none⟩ 1 cap2 vs (by rw [hvl]) (fun j u hu => by
      rw [Addr.add_lit]
      show W.cell? _ = _
      have e : W.cell? ⟨vb, vo + j, none⟩ = w.cell? ⟨vb, vo + j, none⟩ := by simp only [World.cell?, hW]
      rw [e, cell_row hv]
      exact hvs j u hu)
  have hys : (xs.take i ++ ([y] ++ xs.drop i)).length = xs.length + 1 := by simp only [List.length_append, List.length_take, List.length_drop, List.length_singleton]; omega
  have hlenv : ∀ W : World, (Builtin.lenOf (.slice (some ⟨vb, vo, none⟩) 1 cap2)).run Tryz.prog W = .ok 1 W := fun W => by simp [Builtin.lenOf]
  by_cases hin : i = xs.length
  · subst hin
    have hxe : xs.take xs.length ++ ([y] ++ xs.drop xs.length) = xs ++ [y] := by simp
    rw [hxe] at hys ⊢
    by_cases hroom : xs.length + 1 ≤ cap
    · obtain ⟨-, -, g, o, cs, et, fr, row, rfl, hg, hb, hcs, hfr, hrl, hrow, hrep, hone⟩ := Zyr ho (by omega)
      obtain ⟨w1, q1, q2⟩ := Zfa (P := Tryz.prog) (off := o + xs.length * 2) (vs := vs) hb hfr.1 (by omega) hv1
      have hrun : ∀ ty, (Builtin.append_ #[41, 41] ty #[.slice (some ⟨g, o, none⟩) xs.length cap, .slice (some ⟨vb, vo, none⟩) 1 cap2]).run Tryz.prog w = .ok (.slice (some ⟨g, o, none⟩) (xs.length + 1) cap) w1 := fun ty =>
        Zjt (t := 41) (u := 41) (el := 82) (i := i0) rfl rfl rfl rfl Tryz.underlying41 hi0 (.inr ⟨_, Tryz.underlying41⟩) (hlenv w) (hfv w rfl) hroom (fun ad had => by cases had; rw [hz1, Addr.add_lit]; exact q1) (fun q => by cases q)
      refine (insert_end (some ⟨g, o, none⟩) xs.length cap vb vo cap2 hlc (fun q => by cases q) w w1 _ hrun).mono ?_
      rintro e w' ⟨rfl, rfl⟩
      refine Z0r (ms := [.own (.row true ET), .val (.int .i64), .own (.row true ET)]) (vs := row ++ vs) (out := ()) (Zvj q2 (s1 g hg)) (.inl (s1 g hg)) hd hlt (fun v hv => by cases hv) (fun v hv => by cases hv) trivial hys.symm hroom q2.this (by simp [Zy]; exact hcs) (by simpa [Zy] using hfr) (fun j v hv => ?_) (Zabs (Zqz hrep hvr))
      have hj := (List.getElem?_eq_some_iff.1 hv).1
      rw [List.length_append, hrl, hvl] at hj
      rw [List.getElem?_toArray, Zb9]
      by_cases hj2 : j < xs.length * 2
      · rw [if_neg (by omega), Array.getElem?_toList]
        rw [List.getElem?_append_left (by omega)] at hv
        exact hrow j v hv
      · rw [List.getElem?_append_right (by omega)] at hv
        rw [if_pos ⟨by omega, by omega, by simp; omega⟩, ← hv]
        congr 1; omega
    · have hcap : cap = xs.length := by omega
      subst hcap
      obtain ⟨row, hrl, hrep, hold⟩ : ∃ row : List Value, row.length = xs.length * 2 ∧ RepN (RepS w I ET) xs row ∧ (Builtin.firstCells i0.size xs.length (.slice a xs.length xs.length)).run Tryz.prog w.drew = .ok row.toArray w.drew := by
        by_cases hz : 0 < xs.length
        · obtain ⟨-, -, g, o, cs, et, fr, row, rfl, hg, hb, hcs, hfr, hrl, hrow, hrep, hone⟩ := Zyr ho hz
          refine ⟨row, hrl, hrep, ?_⟩
          rw [hz1]
          exact run_firstCells_some w.drew 2 xs.length ⟨g, o, none⟩ xs.length xs.length row hrl (fun j u hu => by
            rw [Addr.add_lit]
            show w.cell? _ = _
            rw [cell_row hb]
            exact hrow j u hu)
        · have : xs = [] := List.length_eq_zero_iff.1 (by omega)
          subst this
          refine ⟨[], rfl, rfl, ?_⟩
          cases a with
          | none => exact run_firstCells_none w.drew _ _ _ _
          | some a => exact run_firstCells_some w.drew _ _ a _ _ [] (by simp) (fun j v h => by simp at h)
      have hg63 : Builtin.nextslicecap (xs.length + 1) xs.length * i0.bytes ≤ 281474976710656 := by rw [hz2]; exact growslice_fits (by omega) hbig
      have hrun : ∀ ty, (Builtin.append_ #[41, 41] ty #[.slice a xs.length xs.length, .slice (some ⟨vb, vo, none⟩) 1 cap2]).run Tryz.prog w = .ok (.slice (some ⟨w.heap.size, 0, none⟩) (xs.length + 1) (grownCap w (xs.length + 1) xs.length 82)) (w.drew.alloc (.cells (row.toArray ++ vs.toArray ++ Builtin.zeroCells zz (grownCap w (xs.length + 1) xs.length 82 - (xs.length + 1))) 82)) := fun ty =>
        Zto (t := 41) (u := 41) (el := 82) (i := i0) rfl rfl rfl rfl Tryz.underlying41 hi0 hz0 (.inr ⟨_, Tryz.underlying41⟩) (hlenv w) hold (hfv w.drew rfl) hroom (by omega) hg63
      have hA : a = none → xs.length = 0 ∧ xs.length = 0 := fun q => by
        rcases ho.2.2 with h | ⟨ad, cs, et, fr, vs, F', e, _⟩
        · exact ⟨h, h⟩
        · rw [q] at e; cases e
      refine (insert_end a xs.length xs.length vb vo cap2 (Nat.le_refl _) hA w _ _ hrun).mono ?_
      rintro e w' ⟨rfl, rfl⟩
      have hG := grownCap_ge w (xs.length + 1) xs.length 82
      refine Z0r (ms := [.own (.row true ET), .val (.int .i64), .own (.row true ET)]) (vs := row ++ vs) (out := ()) (et := 82) (fr := (0, 0)) (Zafe rfl rfl rfl (below_alloc (Below.refl w.drew.heap.size w.drew) _).size (fun k hk => alloc_old2 w.drew _ k hk)) (.inr (Nat.le_refl _)) hd hlt (fun v hv => by cases hv) (fun v hv => by cases hv) trivial hys.symm hG (alloc_new w.drew _) ?_ ⟨.inl (Nat.le_refl _), fun _ => Nat.le_refl _⟩ (fun j v hv => ?_) (Zabs (Zqz hrep hvr))
      · simp only [Array.size_append, List.size_toArray, zz_size, hrl, hvl]; omega
      · rw [Nat.zero_add, Array.getElem?_append_left (by simp only [Array.size_append, List.size_toArray]; have := (List.getElem?_eq_some_iff.1 hv).1; rw [List.length_append] at this; exact this)]
        rw [List.append_toArray, List.getElem?_toArray]
        exact hv
  · have hilt : i < xs.length := by omega
    obtain ⟨-, -, g, o, cs, et, fr, row, rfl, hg, hb, hcs, hfr, hrl, hrow, hrep, hone⟩ := Zyr ho (by omega)
    have h1r : ∀ v ∈ row, v.oneCell' = true := fun v hv => Zpx (hone v hv)
    have k1 := Zlm (fun _ _ h => RepS.length h) (n := 2) i hrep
    have hrep2 : RepN (RepS w I ET) (xs.take i ++ ([y] ++ xs.drop i)) (row.take (i * 2) ++ (vs ++ row.drop (i * 2))) := Zqz k1.1 (Zqz hvr k1.2)
    have hdl : (row.drop (i * 2)).length = (xs.length - i) * 2 := by rw [List.length_drop, hrl]; omega
    have hne : vb ≠ g := fun q => hdis g hg (q ▸ hvF)
    have hget : ∀ (f : Nat → Option Value), (∀ j, j < i * 2 → f j = row[j]?) → (∀ j, j < 2 → f (i * 2 + j) = vs[j]?) → (∀ j, j < (xs.length - i) * 2 → f ((i + 1) * 2 + j) = (row.drop (i * 2))[j]?) → ∀ j v, (row.take (i * 2) ++ (vs ++ row.drop (i * 2)))[j]? = some v → f j = some v := by
      intro f f1 f2 f3 j v hv
      have hj := (List.getElem?_eq_some_iff.1 hv).1
      simp only [List.length_append, List.length_take, hdl, hrl, hvl] at hj
      by_cases c1 : j < i * 2
      · rw [List.getElem?_append_left (by rw [List.length_take]; omega), List.getElem?_take_of_lt c1] at hv
        rw [f1 j c1, hv]
      · rw [List.getElem?_append_right (by rw [List.length_take]; omega), List.length_take, Nat.min_eq_left (by omega)] at hv
        by_cases c2 : j < i * 2 + 2
        · rw [List.getElem?_append_left (by omega)] at hv
          have := f2 (j - i * 2) (by omega)
          rw [show i * 2 + (j - i * 2) = j by omega] at this
          rw [this, hv]
        · rw [List.getElem?_append_right (by omega), hvl] at hv
          have := f3 (j - i * 2 - 2) (by omega)
          rw [show (i + 1) * 2 + (j - i * 2 - 2) = j by omega] at this
          rw [this, hv]
    by_cases hroom : xs.length + 1 ≤ cap
    · refine (insert_shift g o xs.length cap i vb vo cap2 cs cv et et' fr fr' row vs w hb hfr.1 hfr' hcs hroom hbig hilt hrl hrow h1r hv hne hvl hvs h1v).mono ?_
      rintro e w' ⟨rfl, rfl⟩
      have p1 := Zcd (et := et) (fr := fr) (row.drop (i * 2)) (o + (i + 1) * 2) w.drew cs hb
      have p2 := Zcd (et := et) (fr := fr) vs (o + i * 2) _ _ p1.this
      have p := Zaey p1 p2
      refine Z0r (ms := [.own (.row true ET), .val (.int .i64), .own (.row true ET)]) (vs := row.take (i * 2) ++ (vs ++ row.drop (i * 2))) (out := ()) (Zt3 (Zvj p (s1 g hg))) (.inl (s1 g hg)) hd hlt (fun v hv => by cases hv) (fun v hv => by cases hv) trivial hys.symm hroom p.this (by simp [Zy]; exact hcs) (by simpa [Zy] using hfr) (hget _ (fun j hj => ?_) (fun j hj => ?_) (fun j hj => ?_)) (Zabs hrep2)
      · rw [List.getElem?_toArray, Zb9, if_neg (by omega)]
        show (sets cs.toList (o + (i + 1) * 2) (row.drop (i * 2)))[o + j]? = _
        rw [Zb9, if_neg (by omega), Array.getElem?_toList]
        obtain ⟨u, hu⟩ := get_at (l := row) (i := j) (by omega)
        rw [hu]; exact hrow j u hu
      · rw [List.getElem?_toArray, Zb9, if_pos ⟨by omega, by omega, by simp [Zy]; omega⟩]
        congr 1; omega
      · rw [List.getElem?_toArray, Zb9, if_neg (by omega)]
        show (sets cs.toList (o + (i + 1) * 2) (row.drop (i * 2)))[o + ((i + 1) * 2 + j)]? = _
        rw [Zb9, if_pos ⟨by omega, by omega, by simp; omega⟩]
        congr 1; omega
    · have hcap : cap = xs.length := by omega
      subst hcap
      refine (insert_grow g o xs.length i vb vo cap2 cs cv et et' fr fr' row vs w hb hbig hilt hrl hrow h1r hv hvl hvs h1v).mono ?_
      rintro e w' ⟨rfl, rfl⟩
      have hG := grownCap_ge w (xs.length + 1) xs.length 82
      generalize grownCap w (xs.length + 1) xs.length 82 = G at hG
      obtain ⟨ROW, hROW⟩ : ∃ ROW : Array Value, ROW = (row.take (i * 2)).toArray ++ Builtin.zeroCells zz (xs.length + 1 - i) ++ Builtin.zeroCells zz (G - (xs.length + 1)) := ⟨_, rfl⟩
      rw [← hROW]
      have hRl : ROW.size = G * 2 := by
        rw [hROW]; simp only [Array.size_append, List.size_toArray, zz_size, List.length_take, hrl]; omega
      have hR1 : ∀ j, j < i * 2 → ROW[j]? = row[j]? := fun j hj => by
        rw [hROW, Array.append_assoc, Array.getElem?_append_left (by simp [hrl]; omega), List.getElem?_toArray, List.getElem?_take_of_lt hj]
      have p1 := Zcd (et := 82) (fr := (0, 0)) vs (i * 2) (w.alloc (.cells ROW 82)).drew ROW (alloc_new w _)
      have p2 := Zcd (et := 82) (fr := (0, 0)) (row.drop (i * 2)) ((i + 1) * 2) ((w.alloc (.cells ROW 82)).drew.setCells w.heap.size (i * 2) vs).drew _ p1.this
      refine Z0r (ms := [.own (.row true ET), .val (.int .i64), .own (.row true ET)]) (vs := row.take (i * 2) ++ (vs ++ row.drop (i * 2))) (out := ()) (off := 0) (et := 82) (fr := (0, 0)) (Zafe ?_ ?_ ?_ ?_ (fun k hk => ?_)) (.inr (Nat.le_refl _)) hd hlt (fun v hv => by cases hv) (fun v hv => by cases hv) trivial hys.symm hG p2.this ?_ ⟨.inl (Nat.le_refl _), fun _ => Nat.le_refl _⟩ (hget _ (fun j hj => ?_) (fun j hj => ?_) (fun j hj => ?_)) (Zabs hrep2)
      · exact p2.os.trans p1.os
      · exact p2.tape.trans p1.tape
      · exact p2.output.trans p1.output
      · rw [p2.size]
        show _ ≤ ((w.alloc (.cells ROW 82)).drew.setCells w.heap.size (i * 2) vs).heap.size
        rw [p1.size]
        exact (below_alloc (Below.refl w.heap.size w) (.cells ROW 82)).size
      · rw [p2.same k (by omega)]
        show ((w.alloc (.cells ROW 82)).drew.setCells w.heap.size (i * 2) vs).heap[k]? = _
        rw [p1.same k (by omega)]
        exact alloc_old2 w _ k hk
      · simp [Zy]; omega
      · rw [Nat.zero_add, List.getElem?_toArray, Zb9, if_neg (by omega)]
        show (sets ROW.toList (i * 2) vs)[j]? = _
        rw [Zb9, if_neg (by omega), Array.getElem?_toList]
        exact hR1 j hj
      · rw [Nat.zero_add, List.getElem?_toArray, Zb9, if_neg (by omega)]
        show (sets ROW.toList (i * 2) vs)[i * 2 + j]? = _
        rw [Zb9, if_pos ⟨by omega, by omega, by simp; omega⟩]
        congr 1; omega
      · rw [Nat.zero_add, List.getElem?_toArray, Zb9, if_pos ⟨by omega, by omega, by simp [Zy]; omega⟩]
        congr 1; omega
theorem Zadh (hE : Zq1 Tryz.prog 137) : Known Tryz.prog 137 ⟨[.own (.row true ET), .val (.int .i64), .own (.row true ET)], [.row true ET], .pair (.row true ET) .unit, Z3v⟩ := by
  refine ⟨hE, ?_⟩
  intro w I OW V x vals r hA hd hlt hV hx
  obtain ⟨v, us, vs', O1, O2, rfl, hv, ⟨a, len, cap, rfl, ho⟩, s1, s2, hdis, hA⟩ := hA
  obtain ⟨v1, u1, l1, rfl, q1, r1, v2, u2, l2, O3, O4, rfl, hv2, ⟨b, len2, cap2, rfl, ho2⟩, s3, s4, -, rfl, rfl⟩ := hA
  have r1 : u1 = [.int .i64 x.2.1] := r1
  subst r1
  obtain rfl := (List.cons.inj (q1.2 rfl)).1
  obtain rfl := (List.cons.inj (hv2.2 rfl)).1
  obtain rfl := (List.cons.inj (hv.2 rfl)).1
  exact Zadk (xs := x.1) (ys := x.2.2.1) (ho.resolve_left (by simp)) (ho2.resolve_left (by simp)) s1 (fun k h1 h2 => hdis k h1 (s3 k h2)) hd hlt hx
end Go.Proofs.YtcpecilmkkmaiaaGreat.V
namespace Go.Proofs.YtcpecilmkkmaiaaGreat.V
open Go Go.RowKit Go.Proofs Go.Shelf Go.Lib
def Z75 (e : Ty) (bytes : Nat) (x : List e.den × Unit) : Option (Unit × (List e.den × Unit)) :=
  if x.1.length * bytes ≤ 140737488355328 then some ((), x.1, ()) else none
section
variable {P : Program} {ρ : Ren}
set_option maxHeartbeats 2000000 in
set_option maxRecDepth 100000 in
theorem Zajv (L : SlLaysE0.n41 P ρ) (i0 : TypeInfo) (z : Value) (size bytes : Nat) (hi : P.info? (ρ.t 23) = some i0) (hz0 : i0.zero = some z) (hz1 : i0.size = size) (hz2 : i0.bytes = bytes) (hzs : z.cells.size = size) (hsz : 0 < size)
    (z23 : ∀ w, (Go.sizeOf (ρ.t 23)).run P w = .ok size w) (a : Addr) (c : Nat) (w : World) :
    Calls P (ρ.f 41) #[.slice (some a) 0 c] w fun e w' => ∃ v', e = .returned v' ∧ w'.ownsRow w.heap.size (ρ.t 23) size v' 0 [] ∧ Below w.heap.size w w' := by
  have mixed := L.mixed; have t4 := L.t4; have a4 := L.a4; have z4 := L.z4; have v4 := L.v4; have t22 := L.t22; have a22 := L.a22; have z22 := L.z22; have v22 := L.v22
  have q22 : ∀ (w : World) (a : Option Addr) (n c n' c' : Nat), (binOp .eql (ρ.t 22) (.slice a n c) (.slice none n' c')).run P w = .ok (.bool a.isNone) w := fun w a n c n' c' => Lib.run_eql_slice_nil w _ _ a n c n' c' L.t22
  have u22 : ∀ w, Sem.run P (underlying (ρ.t 22)) w = .ok (TypeDesc.slice (ρ.t 23)) w := run_underlying t22
  obtain ⟨_, _, FG⟩ := L.f41
  go_enter FG, SlBodyN.n41_ntmps ρ
  go_wp2_with (at_builtin; refine wpList_append_own _ rfl _ _ (ρ.t 22) rfl w.heap.size (ρ.t 23) i0 z size bytes t22 hi hz0 hz1 hz2 hzs hsz _ _ _ rfl (World.ownsRow_made w #[] 0 (Nat.le_refl _) (Nat.zero_le _) (by simp)) a 0 c [] rfl (by simp) (by intro j u hj; simp at hj) (by intro u hu; cases hu) (by unfold maxLen; omega) (by omega) (by simp) ?_)
  intro v' w1 hown hgrow hnil
  go_wp2
  go_ret
  refine ⟨v', rfl, by simpa using hown, ?_⟩
  exact ((Below.refl _ w).alloc (Nat.le_refl _) _).grown hgrow (by simp) (by intro k hk; simp [Value.ownBlock] at hk; omega)
theorem Z0p {w w' : World} {I OW : Zd} {e : Ty} {bytes : Nat} {f : (Zkk [.val (.row false e)]).den → Option ((Zdc [.val (.row false e)]).den × (Ty.pair (.row true e) .unit).den)} {V : List (Nat × Nat × Nat)} {vals : List Value} {ys : List e.den} {v' : Value} {et : TypeId} {vs : List Value} (he : e.plain = true) (hb : Below w.heap.size w w')
    (hlt : ∀ k, I k ∨ OW k → k < w.heap.size) (hV : ∀ v ∈ V, ¬ I v.1 ∧ ¬ OW v.1) (hVlt : ∀ v ∈ V, v.1 < w.heap.size) (h1 : ∀ u ∈ vs, Ze5 u = true)
    (ho : w'.ownsRow w.heap.size et e.size v' ys.length vs) (hr : RepN (RepS w I e) ys vs) :
    Came ⟨[.val (.row false e)], [.row true e], .pair (.row true e) .unit, f⟩ ((), (ys, ())) w I OW V vals (.returned v') w' := by
  have hr' : RepN (RepS w' I e) ys vs := RepN.imp (fun _ _ h => RepS.frame (fun k hk => hb.block k (hlt k (.inl hk))) (fun _ h => h) h) hr
  have hkeep : Keeps w OW (RngOf V) w' := Keeps.of_below hb _ _
  obtain ⟨hvl, ho⟩ := ho
  rcases ho with ⟨rfl, hn⟩ | ⟨g, cap, cur, rfl, hg, hc, h2, h3, h4, h5⟩
  · have : ys = [] := List.length_eq_zero_iff.1 hn
    subst this
    refine ⟨_, rfl, hkeep, [.slice none 0 0], [.slice none 0 0], I, fun _ => False, fun _ => False, rfl, ?_⟩
    exact {
      I2 := fun k hk => .inl hk
      O := fun k hk => by rcases hk with hk | hk <;> exact hk.elim
      lt := fun k hk => by
        rcases hk with hk | hk | hk
        · exact Nat.lt_of_lt_of_le (hlt k (.inl hk)) hb.size
        · exact hk.elim
        · exact hk.elim
      d1 := fun k hk => hk.elim
      d2 := fun k hk => hk.elim
      d3 := fun k hk => hk.elim
      dV := fun u hu => ⟨(hV u hu).1, fun h => h, fun h => h⟩
      res := ⟨_, [], [_], [], rfl, rfl, ⟨fun q => (by cases q), fun _ => rfl⟩, rfl, rfl, rfl⟩
      val := ⟨[_], [], (fun _ => False), fun _ => False, rfl, fun _ h => h, fun _ h => h.elim, fun _ h => h.elim, ⟨_, _, _, rfl, .inr ⟨rfl, Nat.le_refl _, .inl rfl⟩⟩, rfl⟩
      outs := trivial }
  · have hgl := (Array.getElem?_eq_some_iff.1 hc).1
    refine ⟨_, rfl, hkeep, [.slice (some ⟨g, 0, none⟩) ys.length cap], [.slice (some ⟨g, 0, none⟩) ys.length cap], I, (fun k => k = g), fun _ => False, rfl, ?_⟩
    exact {
      I2 := fun k hk => .inl hk
      O := fun k hk => by
        rcases hk with rfl | hk
        · exact .inr hg
        · exact hk.elim
      lt := fun k hk => by
        rcases hk with hk | rfl | hk
        · exact Nat.lt_of_lt_of_le (hlt k (.inl hk)) hb.size
        · exact hgl
        · exact hk.elim
      d1 := fun k _ hk => hk
      d2 := fun k hk hi => by
        subst hk
        exact absurd (hlt k (.inl hi)) (by omega)
      d3 := fun k hk => hk.elim
      dV := fun u hu => ⟨(hV u hu).1, fun q => by
        have q : u.1 = g := q
        have := hVlt u hu
        omega, fun q => q⟩
      res := ⟨_, [], [_], [], rfl, rfl, ⟨fun q => (by cases q), fun _ => rfl⟩, rfl, rfl, rfl⟩
      val := ⟨[_], [], (fun k => k = g), fun _ => False, rfl, fun _ h => h, fun _ h => h.elim, fun _ _ h => h, ⟨_, _, _, rfl, .inr ⟨rfl, h2, .inr ⟨⟨g, 0, none⟩, cur, et, (0, 0), vs, fun _ => False, rfl, rfl, rfl, fun h => h, fun _ h => h.elim, hc, by show 0 + cap * e.size ≤ _; omega, ⟨.inl (Nat.le_refl _), fun _ => Nat.le_refl _⟩, ⟨cur, et, (0, 0), hc, by show 0 + vs.length ≤ _; have : ys.length * e.size ≤ cap * e.size := Nat.mul_le_mul_right _ h2; omega, fun i v hv => by
        show cur[0 + i]? = some v
        rw [Nat.zero_add, ← Array.getElem?_toList]
        rw [← h5] at hv
        have hi := (List.getElem?_eq_some_iff.1 hv).1
        rw [List.getElem?_take_of_lt (by rw [List.length_take] at hi; omega)] at hv
        exact hv⟩, Zh8 he hr'⟩⟩⟩, rfl⟩
      outs := trivial }
theorem Z3s (L : SlLaysE0.n41 P ρ) (e : Ty) (he : e.plain = true) (i0 : TypeInfo) (z : Value) (bytes : Nat) (hi : P.info? (ρ.t 23) = some i0) (hz0 : i0.zero = some z) (hz1 : i0.size = e.size) (hz2 : i0.bytes = bytes) (hzs : z.cells.size = e.size) (hsz : 0 < e.size) (hby : 0 < bytes)
    (z23 : ∀ w, (Go.sizeOf (ρ.t 23)).run P w = .ok e.size w) (hE : Zq1 P (ρ.f 41)) : Known P (ρ.f 41) ⟨[.val (.row false e)], [.row true e], .pair (.row true e) .unit, Z75 e bytes⟩ := by
  refine ⟨hE, ?_⟩
  intro w I OW V x vals r hA hd hlt hV hx
  obtain ⟨v, us, vs', rfl, hv, hx0, rfl, rfl⟩ := hA
  obtain ⟨a, len, cap, rfl, hs⟩ := hx0
  obtain rfl := (List.cons.inj (hv.2 rfl)).1
  have hx : (if List.length (α := e.den) x.1 * bytes ≤ 140737488355328 then some ((), x.1, ()) else none) = some r := hx
  split at hx
  rotate_left
  · cases hx
  rename_i hbig
  obtain rfl := Option.some.inj hx
  have hs : SRow w I (α := e.den) (RepS w I e) x.1 a len cap := hs
  obtain ⟨xs, u⟩ := x
  simp only at hs hbig
  obtain ⟨hl, hc, h3⟩ := hs
  have hl : len = List.length (α := e.den) xs := hl
  subst hl
  have hone : ∀ {ys : List e.den} {vs : List Value}, RepN (RepS w I e) ys vs → ∀ u ∈ vs, Ze5 u = true := fun h => Zun (Zh8 he h)
  cases a with
  | none =>
    have hn : xs = [] := by
      rcases h3 with h3 | ⟨ad, vs, e, _⟩
      · exact h3
      · cases e
    subst hn
    refine (AnyE.slices_Clone_nil L _ cap w).mono fun e w' he' => ?_
    obtain ⟨rfl, rfl⟩ := he'
    exact Z0p (et := 0) (bytes := bytes) (vs := []) he (Below.refl _ _) hlt hV (fun v hv => by cases hv) (fun u hu => by cases hu) (World.ownsRow_nil _ _ _ _) rfl
  | some ad =>
    by_cases hn : xs = []
    · subst hn
      refine (Zajv L i0 z e.size bytes hi hz0 hz1 hz2 hzs hsz z23 ad cap w).mono fun e w' he' => ?_
      obtain ⟨v', rfl, ho, hb⟩ := he'
      exact Z0p (bytes := bytes) (vs := []) he hb hlt hV (fun v hv => by cases hv) (fun u hu => by cases hu) ho rfl
    · obtain ⟨ad', vs, e1, e2, e3, ⟨cs, et, fr, g1, g2, g3⟩, e5⟩ := h3.resolve_left hn
      obtain rfl := Option.some.inj e1
      have hvl : vs.length = xs.length * e.size := e5.length (n := e.size) (fun _ _ h => h.length)
      obtain ⟨g, o, sp⟩ := ad
      have e2 : sp = none := e2
      subst e2
      have hn1 : xs.length ≤ xs.length * bytes := Nat.le_mul_of_pos_right _ hby
      refine (AnyE.slices_Clone L i0 z e.size bytes hi hz0 hz1 hz2 hzs hsz z23 g o xs.length cap vs w hvl (by unfold maxLen; omega) hbig (fun j u hu => ?_) (fun u hu => Zpx (hone e5 u hu))).mono fun e w' he' => ?_
      · show w.cell? ⟨g, o + j, none⟩ = _; rw [show w.cell? ⟨g, o + j, none⟩ = cs[o + j]? by simp [World.cell?, g1]]
        exact g3 j u hu
      · obtain ⟨v', rfl, ho, -, hb⟩ := he'
        exact Z0p (bytes := bytes) (vs := vs) he hb hlt hV (fun v hv => by cases hv) (hone e5) ho e5
end
def Zad1 : Ren := ⟨fun | 41 => 147 | n => n, fun | 4 => 4 | 22 => 101 | 23 => 135 | n => n, fun n => n⟩
theorem Zabx : SlLaysE0.n41 Tryz.prog Zad1 where
  mixed := by kernel_rfl
  f41 := ⟨ "slices.Clone[[]loop.example/g00118/impl.Attr,loop.example/g00118/impl.Attr]", by kernel_rfl, Tryz.func147.trans (congrArg some (by kernel_rfl))⟩
  t4 := Tryz.underlying4
  a4 := Tryz.isAgg4
  z4 := Tryz.sizeOf4
  v4 := Tryz.zeroValue4
  t22 := Tryz.underlying101
  a22 := Tryz.isAgg101
  z22 := Tryz.sizeOf101
  v22 := Tryz.zeroValue101
theorem Z6x : Known Tryz.prog 147 ⟨[.val (.row false (.pair .str (.pair .str .unit)))], [.row true (.pair .str (.pair .str .unit))], .pair (.row true (.pair .str (.pair .str .unit))) .unit, Z75 (.pair .str (.pair .str .unit)) 32⟩ := by
  obtain ⟨i0, hi, hz0, hz1, hz2⟩ := info_parts (show (Tryz.prog.info? 135).map (fun i => (i.zero, i.size, i.bytes)) = some (some (.agg #[.string ByteArray.empty, .string ByteArray.empty]), 2, 32) by kernel_rfl)
  exact Z3s Zabx (.pair .str (.pair .str .unit)) rfl i0 (.agg #[.string ByteArray.empty, .string ByteArray.empty]) 32 hi hz0 hz1 hz2 rfl (by decide) (by decide) Tryz.sizeOf135 (Zih Tryz.func147 (by kernel_rfl))
def Zad0 : Ren := ⟨fun | 41 => 148 | n => n, fun | 4 => 4 | 22 => 102 | 23 => 3 | n => n, fun n => n⟩
theorem Zabw : SlLaysE0.n41 Tryz.prog Zad0 where
  mixed := by kernel_rfl
  f41 := ⟨ "slices.Clone[[]int,int]", by kernel_rfl, Tryz.func148.trans (congrArg some (by kernel_rfl))⟩
  t4 := Tryz.underlying4
  a4 := Tryz.isAgg4
  z4 := Tryz.sizeOf4
  v4 := Tryz.zeroValue4
  t22 := Tryz.underlying102
  a22 := Tryz.isAgg102
  z22 := Tryz.sizeOf102
  v22 := Tryz.zeroValue102
theorem Z6w : Known Tryz.prog 148 ⟨[.val (.row false (.int .i64))], [.row true (.int .i64)], .pair (.row true (.int .i64)) .unit, Z75 (.int .i64) 8⟩ := by
  obtain ⟨i0, hi, hz0, hz1, hz2⟩ := info_parts (show (Tryz.prog.info? 3).map (fun i => (i.zero, i.size, i.bytes)) = some (some (.int .i64 0), 1, 8) by kernel_rfl)
  exact Z3s Zabw (.int .i64) rfl i0 (.int .i64 0) 8 hi hz0 hz1 hz2 rfl (by decide) (by decide) Tryz.sizeOf3 (Zih Tryz.func148 (by kernel_rfl))
end Go.Proofs.YtcpecilmkkmaiaaGreat.V
