/- The functions that FnExactArchiveOk reaches, each as a plain function, and the plain law about them: the statement answers true at every input. No condition beyond those that stand in each theorem. -/
import Derived.Test.YtaakhgjlekllgaaVC
import Derived.Test.YtaakhgjlekllgaaVIns
import Derived.Test.YtaakhgjlekllgaaVIns2
import Derived.Test.YtaakhgjlekllgaaVIns3
import Derived.KernelRfl
import Derived.Test.YtaakhgjlekllgaaChecked
import Derived.Test.YtaakhgjlekllgaaXShelf
set_option linter.unusedVariables false
set_option linter.unusedSimpArgs false
noncomputable section
namespace Go.Proofs.Ytaakhgjlekllgaa.V
open Go Go.RowKit Go.Proofs
abbrev ET : Ty := .pair .str (.pair .str .unit)
abbrev Elt : Type := ByteArray × ByteArray × Unit
theorem et_rep {w w' : World} {I J : Blocks} {x : ET.den} {vs : List Value} (h : RepS w I ET x vs) : RepS w' J ET x vs := h
theorem et_reps {w w' : World} {I J : Blocks} {xs : List ET.den} {vs : List Value} (h : RepN (RepS w I ET) xs vs) : RepN (RepS w' J ET) xs vs := RepN.imp (fun _ _ h => et_rep h) h
section
variable {w w' : World} {I OW : Blocks} {V : List (Nat × Nat × Nat)} {ms : List Mode} {vals : List Value}
theorem came_row {f : (argsTy ms).den → Option ((outsTy ms).den × (Ty.pair (.row true ET) .unit).den)} {out : (outsTy ms).den} {ys : List Elt} {b off len cap : Nat} {cs : Array Value} {et : TypeId} {fr : Nat × Nat} {vs : List Value}
    (hK : Keeps w OW (RngOf V) w') (hb : OW b ∨ w.heap.size ≤ b) (hd : Dis OW I) (hlt : ∀ k, I k ∨ OW k → k < w.heap.size) (hV : ∀ v ∈ V, ¬ I v.1 ∧ ¬ OW v.1) (hVlt : ∀ v ∈ V, v.1 < w.heap.size)
    (hout : OutsAt w' I ms out V vals (fun _ => False)) (hl : len = ys.length) (hc : len ≤ cap) (h : w'.heap[b]? = some (.cells cs et fr)) (hsz : off + cap * 2 ≤ cs.size) (hfr : FrZ 2 fr cs.size)
    (hat : ∀ i v, vs[i]? = some v → cs[off + i]? = some v) (hr : RepN (RepS w' I ET) ys vs) :
    Came ⟨ms, [.row true ET], .pair (.row true ET) .unit, f⟩ (out, (ys, ())) w I OW V vals (.returned (.slice (some ⟨b, off, none⟩) len cap)) w' := by
  have hvl : vs.length = ys.length * 2 := hr.length (n := 2) (fun _ _ h => h.length)
  have hbl := (Array.getElem?_eq_some_iff.1 h).1
  refine ⟨_, rfl, hK, [.slice (some ⟨b, off, none⟩) len cap], [.slice (some ⟨b, off, none⟩) len cap], I, (fun k => k = b), fun _ => False, rfl, ?_⟩
  exact {
    I2 := fun k hk => .inl hk
    O := fun k hk => by
      rcases hk with rfl | hk
      · exact hb
      · exact hk.elim
    lt := fun k hk => by
      rcases hk with hk | rfl | hk
      · exact Nat.lt_of_lt_of_le (hlt k (.inl hk)) hK.size
      · exact hbl
      · exact hk.elim
    d1 := fun k _ hk => hk
    d2 := fun k hk hi => by
      subst hk
      rcases hb with hb | hb
      · exact hd k hb hi
      · exact absurd (hlt k (.inl hi)) (by omega)
    d3 := fun k hk => hk.elim
    dV := fun u hu => ⟨(hV u hu).1, fun q => by
      have q : u.1 = b := q
      rcases hb with hb | hb
      · exact (hV u hu).2 (by rw [q]; exact hb)
      · exact absurd (hVlt u hu) (by omega), fun q => q⟩
    res := ⟨_, [], [_], [], rfl, rfl, ⟨fun q => (by cases q), fun _ => rfl⟩, rfl, rfl, rfl⟩
    val := ⟨[_], [], (fun k => k = b), fun _ => False, rfl, fun _ h => h, fun _ h => h.elim, fun _ _ h => h, ⟨_, _, _, rfl, .inr ⟨hl, hc, .inr ⟨⟨b, off, none⟩, cs, et, fr, vs, fun _ => False, rfl, rfl, rfl, fun h => h, fun _ h => h.elim, h, hsz, hfr, ⟨cs, et, fr, h, by have : ys.length * 2 ≤ cap * 2 := Nat.mul_le_mul_right _ (by omega); show off + vs.length ≤ _; omega, hat⟩, plain_RepN rfl hr⟩⟩⟩, rfl⟩
    outs := hout }
theorem keeps_poked {g : Nat} {cs : Array Value} {et : TypeId} {fr : Nat × Nat} {rng : Nat → Nat → Prop} (hp : Poked w w' g cs et fr) (hg : OW g) : Keeps w OW rng w' :=
  ⟨hp.os, hp.tape, hp.output, by rw [hp.size]; exact Nat.le_refl _, fun k _ ho _ => hp.same k (fun q => ho (q ▸ hg)), fun k _ ho cs0 et0 fr0 e => ⟨cs0, by rw [hp.same k (fun q => ho (q ▸ hg))]; exact e, rfl, fun _ _ => rfl⟩⟩
theorem keeps_drew {rng : Nat → Nat → Prop} : Keeps w OW rng w.drew := ⟨rfl, rfl, rfl, Nat.le_refl _, fun _ _ _ _ => rfl, fun k _ _ cs et fr e => ⟨cs, e, rfl, fun _ _ => rfl⟩⟩
theorem keeps_drew_out {rng : Nat → Nat → Prop} (h : Keeps w.drew OW rng w') : Keeps w OW rng w' := ⟨h.os, h.tape, h.output, h.size, h.same, h.cells⟩
theorem poked_two {w w1 w2 : World} {g : Nat} {cs cs' : Array Value} {et et' : TypeId} {fr fr' : Nat × Nat} (h : Poked w w1 g cs et fr) (k : Poked w1 w2 g cs' et' fr') : Poked w w2 g cs' et' fr' :=
  ⟨k.os.trans h.os, k.tape.trans h.tape, k.output.trans h.output, k.size.trans h.size, k.this, fun q hq => (k.same q hq).trans (h.same q hq)⟩
theorem row_lies {xs : List Elt} {a : Option Addr} {len cap : Nat} {F : Blocks} (h : ORow w (α := ET.den) (RepO w I ET) 2 xs none a len cap F) (hc : 0 < cap) :
    len = xs.length ∧ len ≤ cap ∧ ∃ g o cs et fr vs, a = some ⟨g, o, none⟩ ∧ F g ∧ w.heap[g]? = some (.cells cs et fr) ∧ o + cap * 2 ≤ cs.size ∧ FrZ 2 fr cs.size ∧ vs.length = xs.length * 2 ∧ (∀ i v, vs[i]? = some v → cs[o + i]? = some v) ∧ RepN (RepS w I ET) xs vs ∧ ∀ v ∈ vs, oneCell v = true := by
  obtain ⟨h1, h2, h3⟩ := h
  rcases h3 with h3 | ⟨ad, cs, et, fr, vs, F', e1, e2, e3, e4, e5, e6, e7, e8, e9, e10⟩
  · omega
  · have hr := plain_RepNO (e := ET) rfl e10
    obtain ⟨cs2, et2, fr2, g1, g2, g3⟩ := e9
    rw [e6] at g1
    simp only [Option.some.injEq, Obj.cells.injEq] at g1
    obtain ⟨rfl, rfl, rfl⟩ := g1
    exact ⟨h1, h2, ad.block, ad.off, cs, et, fr, vs, by rw [e1]; congr 1; exact addr_eq e2, e3, e6, e7, e8, hr.length (n := 2) (fun _ _ h => h.length), g3, hr, RepNO_one e10⟩
end
theorem get_at {α : Type} {l : List α} {i : Nat} (h : i < l.length) : ∃ x, l[i]? = some x := ⟨l[i], List.getElem?_eq_getElem h⟩
def deleteF (x : List Elt × Int × Int × Unit) : Option (Unit × (List Elt × Unit)) :=
  if 0 ≤ x.2.1 ∧ x.2.2.1 = x.2.1 + 1 ∧ x.2.1 < x.1.length then some ((), x.1.take x.2.1.toNat ++ x.1.drop (x.2.1.toNat + 1), ()) else none
theorem delete_calls {w : World} {I OW O1 : Blocks} {xs : List Elt} {n1 n2 : Int} {a : Option Addr} {len cap : Nat} {r : Unit × (List Elt × Unit)} (ho : ORow w (α := ET.den) (RepO w I ET) 2 xs none a len cap O1) (s1 : Sub O1 OW)
    (hd : Dis OW I) (hlt : ∀ k, I k ∨ OW k → k < w.heap.size) (hx : deleteF (xs, n1, n2, ()) = some r) :
    Calls Try.prog 88 #[.slice a len cap, .int .i64 n1, .int .i64 n2] w (Came ⟨[.own (.row true ET), .val (.int .i64), .val (.int .i64)], [.row true ET], .pair (.row true ET) .unit, deleteF⟩ r w I OW [] [.slice a len cap, .int .i64 n1, .int .i64 n2]) := by
  unfold deleteF at hx
  split at hx
  rotate_left
  · cases hx
  rename_i hc
  obtain ⟨h0, h1, h2⟩ := hc
  simp only at h0 h1 h2
  obtain ⟨i, rfl⟩ := Int.eq_ofNat_of_zero_le h0
  subst h1
  simp only [Int.toNat_natCast] at hx
  cases hx
  have hcap : 0 < cap := by have h3 : len = xs.length := ho.1; have := ho.2.1; omega
  obtain ⟨l1, l2, g, o, cs, et, fr, row, rfl, hg, hb, hcs, hfr, hrl, hrow, hrep, hone⟩ := row_lies ho hcap
  have hin : i < xs.length := by omega
  subst l1
  refine (Go.Proofs.YtaakhgjlekllgaaX.delete_raw g o xs.length cap i cs et fr row w hb hfr.1 hcs (by omega) hin hrl hrow (fun v hv => oneCell_eq (hone v hv))).mono ?_
  rintro e w' ⟨rfl, rfl⟩
  obtain ⟨news, hnews⟩ : ∃ news, news = row.drop ((i + 1) * 2) := ⟨_, rfl⟩
  have hnl : news.length = (xs.length - (i + 1)) * 2 := by rw [hnews, List.length_drop, hrl]; omega
  rw [← hnews]
  have p1 := setCells_poked (et := et) (fr := fr) news (o + i * 2) w.drew cs hb
  have p2 := setCells_poked (et := et) (fr := fr) [.string ⟨#[]⟩, .string ⟨#[]⟩] (o + (xs.length - 1) * 2) _ _ p1.this
  have p := poked_two p1 p2
  have hsz : ((sets (sets cs.toList (o + i * 2) news).toArray.toList (o + (xs.length - 1) * 2) [Value.string ⟨#[]⟩, .string ⟨#[]⟩]).toArray).size = cs.size := by simp [sets_length]
  have hlen : (xs.take i ++ xs.drop (i + 1)).length = xs.length - 1 := by rw [List.length_append, List.length_take, List.length_drop]; omega
  have k1 := RepN_take (fun _ _ h => RepS.length h) (n := 2) i hrep
  have k2 := RepN_take (fun _ _ h => RepS.length h) (n := 2) (i + 1) hrep
  refine came_row (ms := [.own (.row true ET), .val (.int .i64), .val (.int .i64)]) (vs := row.take (i * 2) ++ news) (out := ()) (keeps_drew_out (keeps_poked p (s1 g hg))) (.inl (s1 g hg)) hd hlt (fun v hv => by cases hv) (fun v hv => by cases hv) trivial hlen.symm (by omega) p.this (by rw [hsz]; exact hcs) (by rw [hsz]; exact hfr) (fun j v hv => ?_) (et_reps (RepN_app k1.1 (by rw [hnews]; exact k2.2)))
  have hj := (List.getElem?_eq_some_iff.1 hv).1
  rw [List.length_append, List.length_take, hnl, hrl] at hj
  rw [List.getElem?_toArray, sets_get, if_neg (by simp; omega)]
  show (sets cs.toList (o + i * 2) news)[o + j]? = some v
  rw [sets_get]
  by_cases hj2 : j < i * 2
  · rw [if_neg (by omega), Array.getElem?_toList]
    rw [List.getElem?_append_left (by rw [List.length_take]; omega), List.getElem?_take_of_lt hj2] at hv
    exact hrow j v hv
  · rw [List.getElem?_append_right (by rw [List.length_take]; omega), List.length_take, Nat.min_eq_left (by omega)] at hv
    rw [if_pos ⟨by omega, by omega, by simp; omega⟩, ← hv]
    congr 1; omega
theorem known_delete (hE : Entered Try.prog 88) : Known Try.prog 88 ⟨[.own (.row true ET), .val (.int .i64), .val (.int .i64)], [.row true ET], .pair (.row true ET) .unit, deleteF⟩ := by
  refine ⟨hE, ?_⟩
  intro w I OW V x vals r hA hd hlt hV hx
  obtain ⟨v, us, vs', O1, O2, rfl, hv, ⟨a, len, cap, rfl, ho⟩, s1, s2, -, hA⟩ := hA
  obtain ⟨v1, u1, l1, rfl, q1, r1, v2, u2, l2, rfl, q2, r2, rfl, rfl⟩ := hA
  have r1 : u1 = [.int .i64 x.2.1] := r1
  have r2 : u2 = [.int .i64 x.2.2.1] := r2
  subst r1; subst r2
  obtain rfl := (List.cons.inj (q1.2 rfl)).1
  obtain rfl := (List.cons.inj (q2.2 rfl)).1
  obtain rfl := (List.cons.inj (hv.2 rfl)).1
  exact delete_calls (xs := x.1) (ho.resolve_left (by simp)) s1 hd hlt hx
def insertF (x : List Elt × Int × List Elt × Unit) : Option (Unit × (List Elt × Unit)) :=
  match x.2.2.1 with
  | [y] => if 0 ≤ x.2.1 ∧ x.2.1 ≤ x.1.length ∧ (x.1.length + 1) * 32 ≤ 140737488355328 then some ((), x.1.take x.2.1.toNat ++ ([y] ++ x.1.drop x.2.1.toNat), ()) else none
  | _ => none
theorem keeps_new {w w' : World} {OW : Blocks} {rng : Nat → Nat → Prop} (h1 : w'.os = w.os) (h2 : w'.tape = w.tape) (h3 : w'.output = w.output) (h4 : w.heap.size ≤ w'.heap.size) (h5 : ∀ k, k < w.heap.size → w'.heap[k]? = w.heap[k]?) : Keeps w OW rng w' :=
  ⟨h1, h2, h3, h4, fun k hk _ _ => h5 k hk, fun k hk _ cs et fr e => ⟨cs, by rw [h5 k hk]; exact e, rfl, fun _ _ => rfl⟩⟩
set_option maxHeartbeats 2000000 in
set_option maxRecDepth 100000 in
open Go.Proofs.YtaakhgjlekllgaaX in
theorem insert_calls {w : World} {I OW O1 O2 : Blocks} {xs ys : List Elt} {n1 : Int} {a b : Option Addr} {len cap len2 cap2 : Nat} {r : Unit × (List Elt × Unit)} (ho : ORow w (α := ET.den) (RepO w I ET) 2 xs none a len cap O1) (ho2 : ORow w (α := ET.den) (RepO w I ET) 2 ys none b len2 cap2 O2) (s1 : Sub O1 OW)
    (hdis : Dis O1 O2) (hd : Dis OW I) (hlt : ∀ k, I k ∨ OW k → k < w.heap.size) (hx : insertF (xs, n1, ys, ()) = some r) :
    Calls Try.prog 89 #[.slice a len cap, .int .i64 n1, .slice b len2 cap2] w (Came ⟨[.own (.row true ET), .val (.int .i64), .own (.row true ET)], [.row true ET], .pair (.row true ET) .unit, insertF⟩ r w I OW [] [.slice a len cap, .int .i64 n1, .slice b len2 cap2]) := by
  unfold insertF at hx
  split at hx
  rotate_left
  · cases hx
  rename_i y hy
  simp only at hy
  subst hy
  split at hx
  rotate_left
  · cases hx
  rename_i hc
  obtain ⟨h0, h1, hbig⟩ := hc
  simp only at h0 h1 hbig
  obtain ⟨i, rfl⟩ := Int.eq_ofNat_of_zero_le h0
  simp only [Int.toNat_natCast] at hx
  cases hx
  have hlen : len = xs.length := ho.1
  have hlc : len ≤ cap := ho.2.1
  have hlen2 : len2 = 1 := ho2.1
  obtain ⟨-, -, vb, vo, cv, et', fr', vs, rfl, hvF, hv, hcv, hfr2, hvl, hvs, hvr, hv1⟩ := row_lies ho2 (by have := ho2.2.1; omega)
  have hvl : vs.length = 2 := hvl
  have h1v : ∀ v ∈ vs, v.oneCell' = true := fun v hv => oneCell_eq (hv1 v hv)
  have hfr' : fr'.2 ≤ fr'.1 := hfr2.2 (by decide)
  subst hlen
  subst hlen2
  obtain ⟨i0, hi0, hz0, hz1, hz2⟩ := info_parts (show (Try.prog.info? 64).map (fun i => (i.zero, i.size, i.bytes)) = some (some (.agg #[.string ⟨#[]⟩, .string ⟨#[]⟩]), 2, 32) by kernel_rfl)
  have hbel : ∀ k, k < w.heap.size → (w.drew.alloc (.cells #[] 0)).heap[k]? = w.heap[k]? := fun k hk => alloc_old2 w.drew _ k hk
  have hfv : ∀ W : World, W.heap = w.heap → (Builtin.firstCells i0.size 1 (.slice (some ⟨vb, vo, none⟩) 1 cap2)).run Try.prog W = .ok vs.toArray W := fun W hW => by
    rw [hz1]
    exact run_firstCells_some W 2 1 ⟨vb, vo, none⟩ 1 cap2 vs (by rw [hvl]) (fun j u hu => by
      rw [Addr.add_lit]
      show W.cell? _ = _
      have e : W.cell? ⟨vb, vo + j, none⟩ = w.cell? ⟨vb, vo + j, none⟩ := by simp only [World.cell?, hW]
      rw [e, cell_row hv]
      exact hvs j u hu)
  have hys : (xs.take i ++ ([y] ++ xs.drop i)).length = xs.length + 1 := by simp only [List.length_append, List.length_take, List.length_drop, List.length_singleton]; omega
  have hlenv : ∀ W : World, (Builtin.lenOf (.slice (some ⟨vb, vo, none⟩) 1 cap2)).run Try.prog W = .ok 1 W := fun W => by simp [Builtin.lenOf]
  by_cases hin : i = xs.length
  · subst hin
    have hxe : xs.take xs.length ++ ([y] ++ xs.drop xs.length) = xs ++ [y] := by simp
    rw [hxe] at hys ⊢
    by_cases hroom : xs.length + 1 ≤ cap
    · obtain ⟨-, -, g, o, cs, et, fr, row, rfl, hg, hb, hcs, hfr, hrl, hrow, hrep, hone⟩ := row_lies ho (by omega)
      obtain ⟨w1, q1, q2⟩ := run_store_poked (P := Try.prog) (off := o + xs.length * 2) (vs := vs) hb hfr.1 (by omega) hv1
      have hrun : ∀ ty, (Builtin.append_ #[42, 42] ty #[.slice (some ⟨g, o, none⟩) xs.length cap, .slice (some ⟨vb, vo, none⟩) 1 cap2]).run Try.prog w = .ok (.slice (some ⟨g, o, none⟩) (xs.length + 1) cap) w1 := fun ty =>
        run_append_room2 (t := 42) (u := 42) (el := 64) (i := i0) rfl rfl rfl rfl Try.underlying42 hi0 (.inr ⟨_, Try.underlying42⟩) (hlenv w) (hfv w rfl) hroom (fun ad had => by cases had; rw [hz1, Addr.add_lit]; exact q1) (fun q => by cases q)
      refine (insert_end (some ⟨g, o, none⟩) xs.length cap vb vo cap2 hlc (fun q => by cases q) w w1 _ hrun).mono ?_
      rintro e w' ⟨rfl, rfl⟩
      refine came_row (ms := [.own (.row true ET), .val (.int .i64), .own (.row true ET)]) (vs := row ++ vs) (out := ()) (keeps_poked q2 (s1 g hg)) (.inl (s1 g hg)) hd hlt (fun v hv => by cases hv) (fun v hv => by cases hv) trivial hys.symm hroom q2.this (by simp [sets_length]; exact hcs) (by simpa [sets_length] using hfr) (fun j v hv => ?_) (et_reps (RepN_app hrep hvr))
      have hj := (List.getElem?_eq_some_iff.1 hv).1
      rw [List.length_append, hrl, hvl] at hj
      rw [List.getElem?_toArray, sets_get]
      by_cases hj2 : j < xs.length * 2
      · rw [if_neg (by omega), Array.getElem?_toList]
        rw [List.getElem?_append_left (by omega)] at hv
        exact hrow j v hv
      · rw [List.getElem?_append_right (by omega)] at hv
        rw [if_pos ⟨by omega, by omega, by simp; omega⟩, ← hv]
        congr 1; omega
    · have hcap : cap = xs.length := by omega
      subst hcap
      obtain ⟨row, hrl, hrep, hold⟩ : ∃ row : List Value, row.length = xs.length * 2 ∧ RepN (RepS w I ET) xs row ∧ (Builtin.firstCells i0.size xs.length (.slice a xs.length xs.length)).run Try.prog w.drew = .ok row.toArray w.drew := by
        by_cases hz : 0 < xs.length
        · obtain ⟨-, -, g, o, cs, et, fr, row, rfl, hg, hb, hcs, hfr, hrl, hrow, hrep, hone⟩ := row_lies ho hz
          refine ⟨row, hrl, hrep, ?_⟩
          rw [hz1]
          exact run_firstCells_some w.drew 2 xs.length ⟨g, o, none⟩ xs.length xs.length row hrl (fun j u hu => by
            rw [Addr.add_lit]
            show w.cell? _ = _
            rw [cell_row hb]
            exact hrow j u hu)
        · have : xs = [] := List.length_eq_zero_iff.1 (by omega)
          subst this
          refine ⟨[], rfl, rfl, ?_⟩
          cases a with
          | none => exact run_firstCells_none w.drew _ _ _ _
          | some a => exact run_firstCells_some w.drew _ _ a _ _ [] (by simp) (fun j v h => by simp at h)
      have hg63 : Builtin.nextslicecap (xs.length + 1) xs.length * i0.bytes ≤ 281474976710656 := by rw [hz2]; exact growslice_fits (by omega) hbig
      have hrun : ∀ ty, (Builtin.append_ #[42, 42] ty #[.slice a xs.length xs.length, .slice (some ⟨vb, vo, none⟩) 1 cap2]).run Try.prog w = .ok (.slice (some ⟨w.heap.size, 0, none⟩) (xs.length + 1) (grownCap w (xs.length + 1) xs.length 64)) (w.drew.alloc (.cells (row.toArray ++ vs.toArray ++ Builtin.zeroCells zz (grownCap w (xs.length + 1) xs.length 64 - (xs.length + 1))) 64)) := fun ty =>
        run_append_new (t := 42) (u := 42) (el := 64) (i := i0) rfl rfl rfl rfl Try.underlying42 hi0 hz0 (.inr ⟨_, Try.underlying42⟩) (hlenv w) hold (hfv w.drew rfl) hroom (by omega) hg63
      have hA : a = none → xs.length = 0 ∧ xs.length = 0 := fun q => by
        rcases ho.2.2 with h | ⟨ad, cs, et, fr, vs, F', e, _⟩
        · exact ⟨h, h⟩
        · rw [q] at e; cases e
      refine (insert_end a xs.length xs.length vb vo cap2 (Nat.le_refl _) hA w _ _ hrun).mono ?_
      rintro e w' ⟨rfl, rfl⟩
      have hG := grownCap_ge w (xs.length + 1) xs.length 64
      refine came_row (ms := [.own (.row true ET), .val (.int .i64), .own (.row true ET)]) (vs := row ++ vs) (out := ()) (et := 64) (fr := (0, 0)) (keeps_new rfl rfl rfl (below_alloc (Below.refl w.drew.heap.size w.drew) _).size (fun k hk => alloc_old2 w.drew _ k hk)) (.inr (Nat.le_refl _)) hd hlt (fun v hv => by cases hv) (fun v hv => by cases hv) trivial hys.symm hG (alloc_new w.drew _) ?_ ⟨.inl (Nat.le_refl _), fun _ => Nat.le_refl _⟩ (fun j v hv => ?_) (et_reps (RepN_app hrep hvr))
      · simp only [Array.size_append, List.size_toArray, zz_size, hrl, hvl]; omega
      · rw [Nat.zero_add, Array.getElem?_append_left (by simp only [Array.size_append, List.size_toArray]; have := (List.getElem?_eq_some_iff.1 hv).1; rw [List.length_append] at this; exact this)]
        rw [List.append_toArray, List.getElem?_toArray]
        exact hv
  · have hilt : i < xs.length := by omega
    obtain ⟨-, -, g, o, cs, et, fr, row, rfl, hg, hb, hcs, hfr, hrl, hrow, hrep, hone⟩ := row_lies ho (by omega)
    have h1r : ∀ v ∈ row, v.oneCell' = true := fun v hv => oneCell_eq (hone v hv)
    have k1 := RepN_take (fun _ _ h => RepS.length h) (n := 2) i hrep
    have hrep2 : RepN (RepS w I ET) (xs.take i ++ ([y] ++ xs.drop i)) (row.take (i * 2) ++ (vs ++ row.drop (i * 2))) := RepN_app k1.1 (RepN_app hvr k1.2)
    have hdl : (row.drop (i * 2)).length = (xs.length - i) * 2 := by rw [List.length_drop, hrl]; omega
    have hne : vb ≠ g := fun q => hdis g hg (q ▸ hvF)
    have hget : ∀ (f : Nat → Option Value), (∀ j, j < i * 2 → f j = row[j]?) → (∀ j, j < 2 → f (i * 2 + j) = vs[j]?) → (∀ j, j < (xs.length - i) * 2 → f ((i + 1) * 2 + j) = (row.drop (i * 2))[j]?) → ∀ j v, (row.take (i * 2) ++ (vs ++ row.drop (i * 2)))[j]? = some v → f j = some v := by
      intro f f1 f2 f3 j v hv
      have hj := (List.getElem?_eq_some_iff.1 hv).1
      simp only [List.length_append, List.length_take, hdl, hrl, hvl] at hj
      by_cases c1 : j < i * 2
      · rw [List.getElem?_append_left (by rw [List.length_take]; omega), List.getElem?_take_of_lt c1] at hv
        rw [f1 j c1, hv]
      · rw [List.getElem?_append_right (by rw [List.length_take]; omega), List.length_take, Nat.min_eq_left (by omega)] at hv
        by_cases c2 : j < i * 2 + 2
        · rw [List.getElem?_append_left (by omega)] at hv
          have := f2 (j - i * 2) (by omega)
          rw [show i * 2 + (j - i * 2) = j by omega] at this
          rw [this, hv]
        · rw [List.getElem?_append_right (by omega), hvl] at hv
          have := f3 (j - i * 2 - 2) (by omega)
          rw [show (i + 1) * 2 + (j - i * 2 - 2) = j by omega] at this
          rw [this, hv]
    by_cases hroom : xs.length + 1 ≤ cap
    · refine (insert_shift g o xs.length cap i vb vo cap2 cs cv et et' fr fr' row vs w hb hfr.1 hfr' hcs hroom hbig hilt hrl hrow h1r hv hne hvl hvs h1v).mono ?_
      rintro e w' ⟨rfl, rfl⟩
      have p1 := setCells_poked (et := et) (fr := fr) (row.drop (i * 2)) (o + (i + 1) * 2) w.drew cs hb
      have p2 := setCells_poked (et := et) (fr := fr) vs (o + i * 2) _ _ p1.this
      have p := poked_two p1 p2
      refine came_row (ms := [.own (.row true ET), .val (.int .i64), .own (.row true ET)]) (vs := row.take (i * 2) ++ (vs ++ row.drop (i * 2))) (out := ()) (keeps_drew_out (keeps_poked p (s1 g hg))) (.inl (s1 g hg)) hd hlt (fun v hv => by cases hv) (fun v hv => by cases hv) trivial hys.symm hroom p.this (by simp [sets_length]; exact hcs) (by simpa [sets_length] using hfr) (hget _ (fun j hj => ?_) (fun j hj => ?_) (fun j hj => ?_)) (et_reps hrep2)
      · rw [List.getElem?_toArray, sets_get, if_neg (by omega)]
        show (sets cs.toList (o + (i + 1) * 2) (row.drop (i * 2)))[o + j]? = _
        rw [sets_get, if_neg (by omega), Array.getElem?_toList]
        obtain ⟨u, hu⟩ := get_at (l := row) (i := j) (by omega)
        rw [hu]; exact hrow j u hu
      · rw [List.getElem?_toArray, sets_get, if_pos ⟨by omega, by omega, by simp [sets_length]; omega⟩]
        congr 1; omega
      · rw [List.getElem?_toArray, sets_get, if_neg (by omega)]
        show (sets cs.toList (o + (i + 1) * 2) (row.drop (i * 2)))[o + ((i + 1) * 2 + j)]? = _
        rw [sets_get, if_pos ⟨by omega, by omega, by simp; omega⟩]
        congr 1; omega
    · have hcap : cap = xs.length := by omega
      subst hcap
      refine (insert_grow g o xs.length i vb vo cap2 cs cv et et' fr fr' row vs w hb hbig hilt hrl hrow h1r hv hvl hvs h1v).mono ?_
      rintro e w' ⟨rfl, rfl⟩
      have hG := grownCap_ge w (xs.length + 1) xs.length 64
      generalize grownCap w (xs.length + 1) xs.length 64 = G at hG
      obtain ⟨ROW, hROW⟩ : ∃ ROW : Array Value, ROW = (row.take (i * 2)).toArray ++ Builtin.zeroCells zz (xs.length + 1 - i) ++ Builtin.zeroCells zz (G - (xs.length + 1)) := ⟨_, rfl⟩
      rw [← hROW]
      have hRl : ROW.size = G * 2 := by
        rw [hROW]; simp only [Array.size_append, List.size_toArray, zz_size, List.length_take, hrl]; omega
      have hR1 : ∀ j, j < i * 2 → ROW[j]? = row[j]? := fun j hj => by
        rw [hROW, Array.append_assoc, Array.getElem?_append_left (by simp [hrl]; omega), List.getElem?_toArray, List.getElem?_take_of_lt hj]
      have p1 := setCells_poked (et := 64) (fr := (0, 0)) vs (i * 2) (w.alloc (.cells ROW 64)).drew ROW (alloc_new w _)
      have p2 := setCells_poked (et := 64) (fr := (0, 0)) (row.drop (i * 2)) ((i + 1) * 2) ((w.alloc (.cells ROW 64)).drew.setCells w.heap.size (i * 2) vs).drew _ p1.this
      refine came_row (ms := [.own (.row true ET), .val (.int .i64), .own (.row true ET)]) (vs := row.take (i * 2) ++ (vs ++ row.drop (i * 2))) (out := ()) (off := 0) (et := 64) (fr := (0, 0)) (keeps_new ?_ ?_ ?_ ?_ (fun k hk => ?_)) (.inr (Nat.le_refl _)) hd hlt (fun v hv => by cases hv) (fun v hv => by cases hv) trivial hys.symm hG p2.this ?_ ⟨.inl (Nat.le_refl _), fun _ => Nat.le_refl _⟩ (hget _ (fun j hj => ?_) (fun j hj => ?_) (fun j hj => ?_)) (et_reps hrep2)
      · exact p2.os.trans p1.os
      · exact p2.tape.trans p1.tape
      · exact p2.output.trans p1.output
      · rw [p2.size]
        show _ ≤ ((w.alloc (.cells ROW 64)).drew.setCells w.heap.size (i * 2) vs).heap.size
        rw [p1.size]
        exact (below_alloc (Below.refl w.heap.size w) (.cells ROW 64)).size
      · rw [p2.same k (by omega)]
        show ((w.alloc (.cells ROW 64)).drew.setCells w.heap.size (i * 2) vs).heap[k]? = _
        rw [p1.same k (by omega)]
        exact alloc_old2 w _ k hk
      · simp [sets_length]; omega
      · rw [Nat.zero_add, List.getElem?_toArray, sets_get, if_neg (by omega)]
        show (sets ROW.toList (i * 2) vs)[j]? = _
        rw [sets_get, if_neg (by omega), Array.getElem?_toList]
        exact hR1 j hj
      · rw [Nat.zero_add, List.getElem?_toArray, sets_get, if_neg (by omega)]
        show (sets ROW.toList (i * 2) vs)[i * 2 + j]? = _
        rw [sets_get, if_pos ⟨by omega, by omega, by simp; omega⟩]
        congr 1; omega
      · rw [Nat.zero_add, List.getElem?_toArray, sets_get, if_pos ⟨by omega, by omega, by simp [sets_length]; omega⟩]
        congr 1; omega
theorem known_insert (hE : Entered Try.prog 89) : Known Try.prog 89 ⟨[.own (.row true ET), .val (.int .i64), .own (.row true ET)], [.row true ET], .pair (.row true ET) .unit, insertF⟩ := by
  refine ⟨hE, ?_⟩
  intro w I OW V x vals r hA hd hlt hV hx
  obtain ⟨v, us, vs', O1, O2, rfl, hv, ⟨a, len, cap, rfl, ho⟩, s1, s2, hdis, hA⟩ := hA
  obtain ⟨v1, u1, l1, rfl, q1, r1, v2, u2, l2, O3, O4, rfl, hv2, ⟨b, len2, cap2, rfl, ho2⟩, s3, s4, -, rfl, rfl⟩ := hA
  have r1 : u1 = [.int .i64 x.2.1] := r1
  subst r1
  obtain rfl := (List.cons.inj (q1.2 rfl)).1
  obtain rfl := (List.cons.inj (hv2.2 rfl)).1
  obtain rfl := (List.cons.inj (hv.2 rfl)).1
  exact insert_calls (xs := x.1) (ys := x.2.2.1) (ho.resolve_left (by simp)) (ho2.resolve_left (by simp)) s1 (fun k h1 h2 => hdis k h1 (s3 k h2)) hd hlt hx
end Go.Proofs.Ytaakhgjlekllgaa.V
set_option maxRecDepth 100000
namespace Go.Proofs.Ytaakhgjlekllgaa.V
open Go Go.Proofs
@[irreducible] def fuel : Nat := 18446744073709551616
abbrev T25 : Ty := .pair (.int .i64) (.pair .str (.pair .str .unit))
abbrev S25 : Ty := .pair (.int .i64) (.pair .str (.pair .str .unit))
abbrev T64 : Ty := .pair .str (.pair .str .unit)
abbrev S64 : Ty := .pair .str (.pair .str .unit)
abbrev T166 : Ty := .pair (.int .i64) (.pair .str .unit)
abbrev S166 : Ty := .pair (.int .i64) (.pair .str .unit)
abbrev T51 : Ty := .pair (.row true .str) (.pair (.row true T166) .unit)
abbrev S51 : Ty := .pair (.row false .str) (.pair (.row false S166) .unit)
abbrev T167 : Ty := .pair (.int .i64) (.pair .str .unit)
abbrev S167 : Ty := .pair (.int .i64) (.pair .str .unit)
abbrev T55 : Ty := .pair (.row true .str) (.pair (.row true T167) .unit)
abbrev S55 : Ty := .pair (.row false .str) (.pair (.row false S167) .unit)
abbrev T69 : Ty := .pair (.int .i64) (.pair (.int .i64) (.pair (.int .i64) .unit))
abbrev S69 : Ty := .pair (.int .i64) (.pair (.int .i64) (.pair (.int .i64) .unit))
abbrev T73 : Ty := .pair (.int .i64) (.pair (.int .i64) (.pair (.int .i64) .unit))
abbrev S73 : Ty := .pair (.int .i64) (.pair (.int .i64) (.pair (.int .i64) .unit))
abbrev T78 : Ty := .pair .bool (.pair T55 (.pair T69 (.pair (.row true T64) .unit)))
abbrev S78 : Ty := .pair .bool (.pair S55 (.pair S69 (.pair (.row false S64) .unit)))
abbrev T190 : Ty := .pair .str (.pair .str .unit)
abbrev S190 : Ty := .pair .str (.pair .str .unit)
abbrev T94 : Ty := .pair .bool (.pair T51 (.pair T73 (.pair (.row true T190) .unit)))
abbrev S94 : Ty := .pair .bool (.pair S51 (.pair S73 (.pair (.row false S190) .unit)))
abbrev T108 : Ty := .pair (.row true (.int .u8)) (.pair (.int .i64) (.pair .bool .unit))
abbrev S108 : Ty := .pair (.row false (.int .u8)) (.pair (.int .i64) (.pair .bool .unit))
def tyTab : List (Nat × Ty) := [(3, (.int .i64)), (4, .bool), (5, (.int .u8)), (9, .str), (22, (.row true (.int .u8))), (25, T25), (32, (.row true T25)), (42, (.row true T64)), (48, (.row true .str)), (49, (.row true T166)), (51, T51), (53, (.row true T167)), (55, T55), (64, T64), (69, T69), (73, T73), (78, T78), (92, (.row true T190)), (94, T94), (108, T108), (126, .any), (156, (.int .u64)), (157, .any), (166, T166), (167, T167), (170, .any), (190, T190)]
def tyE (i : Nat) : Ty := (look tyTab i).getD .unit
theorem mixed_ok : Try.prog.follows .mixedOrders = true := by kernel_rfl
theorem tab_ok : tabOk Try.prog tyTab = true := by kernel_rfl
def slices_Delete_Entry : ((List (ByteArray × ByteArray × Unit)) × Int × Int × Unit) → Option (Unit × ((List (ByteArray × ByteArray × Unit)) × Unit)) := deleteF
theorem slices_Delete_Entry_o : Known Try.prog 88 ⟨[.own (.row true T64), .val (.int .i64), .val (.int .i64)], [(.row true T64)], (.pair (.row true T64) .unit), slices_Delete_Entry⟩ := known_delete (entered_of Try.func88 (by kernel_rfl))
def slices_Insert_Entry : ((List (ByteArray × ByteArray × Unit)) × Int × (List (ByteArray × ByteArray × Unit)) × Unit) → Option (Unit × ((List (ByteArray × ByteArray × Unit)) × Unit)) := insertF
theorem slices_Insert_Entry_o : Known Try.prog 89 ⟨[.own (.row true T64), .val (.int .i64), .own (.row true T64)], [(.row true T64)], (.pair (.row true T64) .unit), slices_Insert_Entry⟩ := known_insert (entered_of Try.func89 (by kernel_rfl))
def strings_Repeat : (ByteArray × Int × Unit) → Option (Unit × (ByteArray × Unit)) := repeatF
theorem strings_Repeat_o : Known Try.prog 120 ⟨[.val .str, .val (.int .i64)], [.str], (.pair .str .unit), strings_Repeat⟩ := known_repeat (entered_of Try.func120 (by kernel_rfl)) (fun s c w h1 h2 => Try.strings_Repeat s c w h1 h2)
def math_bits_Mul : (Int × Int × Unit) → Option (Unit × (Int × Int × Unit)) := mulG
theorem math_bits_Mul_o : Known Try.prog 158 ⟨[.val (.int .u64), .val (.int .u64)], [(.int .u64), (.int .u64)], (.pair (.int .u64) (.pair (.int .u64) .unit)), math_bits_Mul⟩ := known_mulG (entered_of Try.func158 (by kernel_rfl)) (fun x y w h1 h2 => Try.bits_Mul x y h1 h2 w)
def laws_toByteS_P0 : Tpl := ⟨[(0, .one (.leaf (.row false (.int .u8)))), (3, .one (.fix (.ref 10000 [] none))), (4, .one (.leaf (.int .i64)))], [], [(10000, (.int .u8))]⟩
def laws_toByteS_O0 : Tpl := ⟨[(3, .one (.fix (.ref 10500 [] none)))], [], [(10500, (.int .u8))]⟩
def laws_toByteS_k0 (N : Nat) : Nat → ((Unit × (Unit × ((List Int) × Unit))) → Option (Unit × ((List Int) × Unit))) → (((List Int) × Int × Unit) × (Unit × ((List Int) × Unit))) → Option (Unit × ((List Int) × Unit))
  | 0, _, _ => none
  | n + 1, k, x =>
    tb (ilt x.1.2.1 (((llen x.1.1) : Nat) : Int))
    (chk (0 ≤ x.1.2.1) (obind (at? x.1.1 (Int.toNat x.1.2.1)) fun v0 =>
        chk ((0 ≤ x.1.2.1) ∧ (x.1.2.1 < (((llen x.2.2.1) : Nat) : Int))) (obind (at? x.2.2.1 (Int.toNat x.1.2.1)) fun v1 =>
          laws_toByteS_k0 N n k ((x.1.1, (wr .i64 (x.1.2.1 + 1)), ()), (), (lset x.2.2.1 (Int.toNat x.1.2.1) v0), ())) (none)) (none))
    (k ((), (), x.2.2.1, ()))
def laws_toByteS_k (N : Nat) (x0 : (List Int)) : Option (Unit × ((List Int) × Unit)) :=
  chk ((0 ≤ (((llen x0) : Nat) : Int)) ∧ (((((llen x0) : Nat) : Int) ≤ (((llen x0) : Nat) : Int)) ∧ ((Int.toNat (((llen x0) : Nat) : Int)) ≤ 140737488355328))) (laws_toByteS_k0 N N (fun v0 =>
      some ((), v0.2.2.1, ())) ((x0, 0, ()), (), (lrep (Int.toNat (((llen x0) : Nat) : Int)) (0 : Int)), ())) (none)
def laws_toByteS (x : ((List Int) × Unit)) : Option (Unit × ((List Int) × Unit)) := laws_toByteS_k fuel x.1
def laws_toByteS_s : List (Nat × Con) := []
def laws_toByteS_E : Env := ⟨fun j => (look tyTab j).getD .unit, fun j => look laws_toByteS_s j⟩
theorem laws_toByteS_r0 (N n : Nat) (k : laws_toByteS_O0.ty.den → Option (Unit × ((List Int) × Unit))) (x : laws_toByteS_P0.ty.den) : roundK laws_toByteS_E ⟨Try.f23.ntmps, N, (fun i => look [(0, ⟨laws_toByteS_P0, laws_toByteS_O0, [.tmp 3 10000 (.int .u8)], [.tmp 3 10500 (.int .u8)], laws_toByteS_k0 N⟩)] i), retK laws_toByteS_E Try.f23 [.val (.row false (.int .u8))] [(.row true (.int .u8))] (.pair (.row true (.int .u8)) .unit)⟩ (Try.f23.body.getD .skip) 0 ⟨laws_toByteS_P0, laws_toByteS_O0, [.tmp 3 10000 (.int .u8)], [.tmp 3 10500 (.int .u8)], laws_toByteS_k0 N⟩ (laws_toByteS_k0 N n k) k x = laws_toByteS_k0 N (n + 1) k x := by kernel_rfl
theorem laws_toByteS_f_eq (N : Nat) (x0 : (List Int)) : funK laws_toByteS_E Try.f23 [.val (.row false (.int .u8))] [(.row true (.int .u8))] (.pair (.row true (.int .u8)) .unit) (fun i => look [(0, ⟨laws_toByteS_P0, laws_toByteS_O0, [.tmp 3 10000 (.int .u8)], [.tmp 3 10500 (.int .u8)], laws_toByteS_k0 N⟩)] i) N (x0, ()) = laws_toByteS_k N x0 := by kernel_rfl
theorem laws_toByteS_o : Known Try.prog 23 ⟨[.val (.row false (.int .u8))], [(.row true (.int .u8))], (.pair (.row true (.int .u8)) .unit), laws_toByteS⟩ := known_of (tab := tyTab) (cons := laws_toByteS_s) (segs := [(0, ⟨laws_toByteS_P0, laws_toByteS_O0, [.tmp 3 10000 (.int .u8)], [.tmp 3 10500 (.int .u8)], laws_toByteS_k0 fuel⟩)]) (n := fuel) mixed_ok tab_ok .nil Try.func23 (by kernel_rfl) ⟨⟨fun _ _ => rfl, fun n k x => laws_toByteS_r0 fuel n k x⟩, trivial⟩ (fun x => laws_toByteS_f_eq fuel x.1)
def laws_eqByteS_P0 : Tpl := ⟨[(0, .one (.leaf (.row false (.int .u8)))), (1, .one (.leaf (.row false (.int .u8)))), (5, .one (.leaf (.int .i64)))], [], []⟩
def laws_eqByteS_O0 : Tpl := ⟨[], [], []⟩
def laws_eqByteS_k0 (N : Nat) : Nat → ((Unit × (Unit × Unit)) → Option (Unit × (Bool × Unit))) → (((List Int) × (List Int) × Int × Unit) × (Unit × Unit)) → Option (Unit × (Bool × Unit))
  | 0, _, _ => none
  | n + 1, k, x =>
    tb (ilt x.1.2.2.1 (((llen x.1.1) : Nat) : Int))
    (chk (0 ≤ x.1.2.2.1) (obind (at? x.1.1 (Int.toNat x.1.2.2.1)) fun v0 =>
        chk (0 ≤ x.1.2.2.1) (obind (at? x.1.2.1 (Int.toNat x.1.2.2.1)) fun v1 =>
          tb (bnot (ieq v0 v1))
          (some ((), false, ()))
          (laws_eqByteS_k0 N n k ((x.1.1, x.1.2.1, (wr .i64 (x.1.2.2.1 + 1)), ()), (), ()))) (none)) (none))
    (k ((), (), ()))
def laws_eqByteS_k (N : Nat) (x0 : (List Int)) (x1 : (List Int)) : Option (Unit × (Bool × Unit)) :=
  tb (bnot (ieq (((llen x0) : Nat) : Int) (((llen x1) : Nat) : Int)))
  (some ((), false, ()))
  (laws_eqByteS_k0 N N (fun v0 =>
      some ((), true, ())) ((x0, x1, 0, ()), (), ()))
def laws_eqByteS (x : ((List Int) × (List Int) × Unit)) : Option (Unit × (Bool × Unit)) := laws_eqByteS_k fuel x.1 x.2.1
def laws_eqByteS_s : List (Nat × Con) := []
def laws_eqByteS_E : Env := ⟨fun j => (look tyTab j).getD .unit, fun j => look laws_eqByteS_s j⟩
theorem laws_eqByteS_r0 (N n : Nat) (k : laws_eqByteS_O0.ty.den → Option (Unit × (Bool × Unit))) (x : laws_eqByteS_P0.ty.den) : roundK laws_eqByteS_E ⟨Try.f25.ntmps, N, (fun i => look [(0, ⟨laws_eqByteS_P0, laws_eqByteS_O0, [], [], laws_eqByteS_k0 N⟩)] i), retK laws_eqByteS_E Try.f25 [.val (.row false (.int .u8)), .val (.row false (.int .u8))] [.bool] (.pair .bool .unit)⟩ (Try.f25.body.getD .skip) 0 ⟨laws_eqByteS_P0, laws_eqByteS_O0, [], [], laws_eqByteS_k0 N⟩ (laws_eqByteS_k0 N n k) k x = laws_eqByteS_k0 N (n + 1) k x := by kernel_rfl
theorem laws_eqByteS_f_eq (N : Nat) (x0 : (List Int)) (x1 : (List Int)) : funK laws_eqByteS_E Try.f25 [.val (.row false (.int .u8)), .val (.row false (.int .u8))] [.bool] (.pair .bool .unit) (fun i => look [(0, ⟨laws_eqByteS_P0, laws_eqByteS_O0, [], [], laws_eqByteS_k0 N⟩)] i) N (x0, x1, ()) = laws_eqByteS_k N x0 x1 := by kernel_rfl
theorem laws_eqByteS_o : Known Try.prog 25 ⟨[.val (.row false (.int .u8)), .val (.row false (.int .u8))], [.bool], (.pair .bool .unit), laws_eqByteS⟩ := known_of (tab := tyTab) (cons := laws_eqByteS_s) (segs := [(0, ⟨laws_eqByteS_P0, laws_eqByteS_O0, [], [], laws_eqByteS_k0 fuel⟩)]) (n := fuel) mixed_ok tab_ok .nil Try.func25 (by kernel_rfl) ⟨⟨fun _ _ => rfl, fun n k x => laws_eqByteS_r0 fuel n k x⟩, trivial⟩ (fun x => laws_eqByteS_f_eq fuel x.1 x.2.1)
def laws_markByteS_P0 : Tpl := ⟨[(0, .one (.fix (.ref 500 [] none))), (1, .one (.leaf (.int .i64))), (5, .one (.leaf (.int .i64)))], [], [(500, (.int .u8))]⟩
def laws_markByteS_O0 : Tpl := ⟨[(1, .one (.leaf (.int .i64)))], [], [(500, (.int .u8))]⟩
def laws_markByteS_k0 (N : Nat) : Nat → (((Int × Unit) × (Unit × ((List Int) × Unit))) → Option (((List Int) × Unit) × (Int × Unit))) → ((Int × Int × Unit) × (Unit × ((List Int) × Unit))) → Option (((List Int) × Unit) × (Int × Unit))
  | 0, _, _ => none
  | n + 1, k, x =>
    tb (ilt x.1.2.1 (((llen x.2.2.1) : Nat) : Int))
    (chk ((0 ≤ x.1.2.1) ∧ (x.1.2.1 < (((llen x.2.2.1) : Nat) : Int))) (obind (at? x.2.2.1 (Int.toNat x.1.2.1)) fun v0 =>
        laws_markByteS_k0 N n k (((wr .i64 (x.1.1 + 1)), (wr .i64 (x.1.2.1 + 1)), ()), (), (lset x.2.2.1 (Int.toNat x.1.2.1) (wr .u8 x.1.1)), ())) (none))
    (k ((x.1.1, ()), (), x.2.2.1, ()))
def laws_markByteS_k (N : Nat) (x0 : (List Int)) (x1 : Int) : Option (((List Int) × Unit) × (Int × Unit)) :=
  laws_markByteS_k0 N N (fun v0 =>
    some ((v0.2.2.1, ()), v0.1.1, ())) ((x1, 0, ()), (), x0, ())
def laws_markByteS (x : ((List Int) × Int × Unit)) : Option (((List Int) × Unit) × (Int × Unit)) := laws_markByteS_k fuel x.1 x.2.1
def laws_markByteS_s : List (Nat × Con) := []
def laws_markByteS_E : Env := ⟨fun j => (look tyTab j).getD .unit, fun j => look laws_markByteS_s j⟩
theorem laws_markByteS_r0 (N n : Nat) (k : laws_markByteS_O0.ty.den → Option (((List Int) × Unit) × (Int × Unit))) (x : laws_markByteS_P0.ty.den) : roundK laws_markByteS_E ⟨Try.f26.ntmps, N, (fun i => look [(0, ⟨laws_markByteS_P0, laws_markByteS_O0, [], [], laws_markByteS_k0 N⟩)] i), retK laws_markByteS_E Try.f26 [.bor (.row true (.int .u8)), .val (.int .i64)] [(.int .i64)] (.pair (.int .i64) .unit)⟩ (Try.f26.body.getD .skip) 0 ⟨laws_markByteS_P0, laws_markByteS_O0, [], [], laws_markByteS_k0 N⟩ (laws_markByteS_k0 N n k) k x = laws_markByteS_k0 N (n + 1) k x := by kernel_rfl
theorem laws_markByteS_f_eq (N : Nat) (x0 : (List Int)) (x1 : Int) : funK laws_markByteS_E Try.f26 [.bor (.row true (.int .u8)), .val (.int .i64)] [(.int .i64)] (.pair (.int .i64) .unit) (fun i => look [(0, ⟨laws_markByteS_P0, laws_markByteS_O0, [], [], laws_markByteS_k0 N⟩)] i) N (x0, x1, ()) = laws_markByteS_k N x0 x1 := by kernel_rfl
theorem laws_markByteS_o : Known Try.prog 26 ⟨[.bor (.row true (.int .u8)), .val (.int .i64)], [(.int .i64)], (.pair (.int .i64) .unit), laws_markByteS⟩ := known_of (tab := tyTab) (cons := laws_markByteS_s) (segs := [(0, ⟨laws_markByteS_P0, laws_markByteS_O0, [], [], laws_markByteS_k0 fuel⟩)]) (n := fuel) mixed_ok tab_ok .nil Try.func26 (by kernel_rfl) ⟨⟨fun _ _ => rfl, fun n k x => laws_markByteS_r0 fuel n k x⟩, trivial⟩ (fun x => laws_markByteS_f_eq fuel x.1 x.2.1)
def laws_szStringS_P0 : Tpl := ⟨[(0, .one (.leaf (.row false .str))), (1, .one (.leaf (.int .i64))), (5, .one (.leaf (.int .i64)))], [], []⟩
def laws_szStringS_O0 : Tpl := ⟨[(1, .one (.leaf (.int .i64)))], [], []⟩
def laws_szStringS_k0 (N : Nat) : Nat → (((Int × Unit) × (Unit × Unit)) → Option (Unit × (Int × Unit))) → (((List ByteArray) × Int × Int × Unit) × (Unit × Unit)) → Option (Unit × (Int × Unit))
  | 0, _, _ => none
  | n + 1, k, x =>
    tb (ilt x.1.2.2.1 (((llen x.1.1) : Nat) : Int))
    (chk (0 ≤ x.1.2.2.1) (obind (at? x.1.1 (Int.toNat x.1.2.2.1)) fun v0 =>
        tb (ilt (wr .i64 (x.1.2.1 - (((slen v0) : Nat) : Int))) 0)
        (some ((), (-1), ()))
        (laws_szStringS_k0 N n k ((x.1.1, (wr .i64 (x.1.2.1 - (((slen v0) : Nat) : Int))), (wr .i64 (x.1.2.2.1 + 1)), ()), (), ()))) (none))
    (k ((x.1.2.1, ()), (), ()))
def laws_szStringS_k (N : Nat) (x0 : (List ByteArray)) (x1 : Int) : Option (Unit × (Int × Unit)) :=
  tb (ilt (wr .i64 (x1 - (((llen x0) : Nat) : Int))) 0)
  (some ((), (-1), ()))
  (laws_szStringS_k0 N N (fun v0 =>
      some ((), v0.1.1, ())) ((x0, (wr .i64 (x1 - (((llen x0) : Nat) : Int))), 0, ()), (), ()))
def laws_szStringS (x : ((List ByteArray) × Int × Unit)) : Option (Unit × (Int × Unit)) := laws_szStringS_k fuel x.1 x.2.1
def laws_szStringS_s : List (Nat × Con) := []
def laws_szStringS_E : Env := ⟨fun j => (look tyTab j).getD .unit, fun j => look laws_szStringS_s j⟩
theorem laws_szStringS_r0 (N n : Nat) (k : laws_szStringS_O0.ty.den → Option (Unit × (Int × Unit))) (x : laws_szStringS_P0.ty.den) : roundK laws_szStringS_E ⟨Try.f91.ntmps, N, (fun i => look [(0, ⟨laws_szStringS_P0, laws_szStringS_O0, [], [], laws_szStringS_k0 N⟩)] i), retK laws_szStringS_E Try.f91 [.val (.row false .str), .val (.int .i64)] [(.int .i64)] (.pair (.int .i64) .unit)⟩ (Try.f91.body.getD .skip) 0 ⟨laws_szStringS_P0, laws_szStringS_O0, [], [], laws_szStringS_k0 N⟩ (laws_szStringS_k0 N n k) k x = laws_szStringS_k0 N (n + 1) k x := by kernel_rfl
theorem laws_szStringS_f_eq (N : Nat) (x0 : (List ByteArray)) (x1 : Int) : funK laws_szStringS_E Try.f91 [.val (.row false .str), .val (.int .i64)] [(.int .i64)] (.pair (.int .i64) .unit) (fun i => look [(0, ⟨laws_szStringS_P0, laws_szStringS_O0, [], [], laws_szStringS_k0 N⟩)] i) N (x0, x1, ()) = laws_szStringS_k N x0 x1 := by kernel_rfl
theorem laws_szStringS_o : Known Try.prog 91 ⟨[.val (.row false .str), .val (.int .i64)], [(.int .i64)], (.pair (.int .i64) .unit), laws_szStringS⟩ := known_of (tab := tyTab) (cons := laws_szStringS_s) (segs := [(0, ⟨laws_szStringS_P0, laws_szStringS_O0, [], [], laws_szStringS_k0 fuel⟩)]) (n := fuel) mixed_ok tab_ok .nil Try.func91 (by kernel_rfl) ⟨⟨fun _ _ => rfl, fun n k x => laws_szStringS_r0 fuel n k x⟩, trivial⟩ (fun x => laws_szStringS_f_eq fuel x.1 x.2.1)
def laws_szPut_k (N : Nat) (x0 : (Int × ByteArray × Unit)) (x1 : Int) : Option (Unit × (Int × Unit)) :=
  tb (ilt (wr .i64 (x1 - (((slen x0.2.1) : Nat) : Int))) 0)
  (some ((), (-1), ()))
  (some ((), (wr .i64 (x1 - (((slen x0.2.1) : Nat) : Int))), ()))
def laws_szPut (x : ((Int × ByteArray × Unit) × Int × Unit)) : Option (Unit × (Int × Unit)) := laws_szPut_k fuel x.1 x.2.1
def laws_szPut_s : List (Nat × Con) := []
def laws_szPut_E : Env := ⟨fun j => (look tyTab j).getD .unit, fun j => look laws_szPut_s j⟩
theorem laws_szPut_f_eq (N : Nat) (x0 : (Int × ByteArray × Unit)) (x1 : Int) : funK laws_szPut_E Try.f144 [.val S166, .val (.int .i64)] [(.int .i64)] (.pair (.int .i64) .unit) (fun i => look [] i) N (x0, x1, ()) = laws_szPut_k N x0 x1 := by kernel_rfl
theorem laws_szPut_o : Known Try.prog 144 ⟨[.val S166, .val (.int .i64)], [(.int .i64)], (.pair (.int .i64) .unit), laws_szPut⟩ := known_of (tab := tyTab) (cons := laws_szPut_s) (segs := []) (n := fuel) mixed_ok tab_ok .nil Try.func144 (by kernel_rfl) trivial (fun x => laws_szPut_f_eq fuel x.1 x.2.1)
def laws_szPutS_P0 : Tpl := ⟨[(0, .one (.leaf (.row false (.pair (.int .i64) (.pair .str .unit))))), (1, .one (.leaf (.int .i64))), (5, .one (.leaf (.int .i64)))], [], []⟩
def laws_szPutS_O0 : Tpl := ⟨[(1, .one (.leaf (.int .i64)))], [], []⟩
def laws_szPutS_k0 (N : Nat) : Nat → (((Int × Unit) × (Unit × Unit)) → Option (Unit × (Int × Unit))) → (((List (Int × (ByteArray × Unit))) × Int × Int × Unit) × (Unit × Unit)) → Option (Unit × (Int × Unit))
  | 0, _, _ => none
  | n + 1, k, x =>
    tb (ilt x.1.2.2.1 (((llen x.1.1) : Nat) : Int))
    (chk (0 ≤ x.1.2.2.1) (obind (at? x.1.1 (Int.toNat x.1.2.2.1)) fun v0 =>
        obind (laws_szPut ((v0.1, v0.2.1, ()), x.1.2.1, ())) fun v1 =>
        tb (ilt v1.2.1 0)
        (some ((), (-1), ()))
        (laws_szPutS_k0 N n k ((x.1.1, v1.2.1, (wr .i64 (x.1.2.2.1 + 1)), ()), (), ()))) (none))
    (k ((x.1.2.1, ()), (), ()))
def laws_szPutS_k (N : Nat) (x0 : (List (Int × ByteArray × Unit))) (x1 : Int) : Option (Unit × (Int × Unit)) :=
  tb (ilt (wr .i64 (x1 - (((llen x0) : Nat) : Int))) 0)
  (some ((), (-1), ()))
  (laws_szPutS_k0 N N (fun v0 =>
      some ((), v0.1.1, ())) ((x0, (wr .i64 (x1 - (((llen x0) : Nat) : Int))), 0, ()), (), ()))
def laws_szPutS (x : ((List (Int × ByteArray × Unit)) × Int × Unit)) : Option (Unit × (Int × Unit)) := laws_szPutS_k fuel x.1 x.2.1
def laws_szPutS_s : List (Nat × Con) := [(144, ⟨[.val S166, .val (.int .i64)], [(.int .i64)], (.pair (.int .i64) .unit), laws_szPut⟩)]
def laws_szPutS_E : Env := ⟨fun j => (look tyTab j).getD .unit, fun j => look laws_szPutS_s j⟩
theorem laws_szPutS_r0 (N n : Nat) (k : laws_szPutS_O0.ty.den → Option (Unit × (Int × Unit))) (x : laws_szPutS_P0.ty.den) : roundK laws_szPutS_E ⟨Try.f92.ntmps, N, (fun i => look [(0, ⟨laws_szPutS_P0, laws_szPutS_O0, [], [], laws_szPutS_k0 N⟩)] i), retK laws_szPutS_E Try.f92 [.val (.row false S166), .val (.int .i64)] [(.int .i64)] (.pair (.int .i64) .unit)⟩ (Try.f92.body.getD .skip) 0 ⟨laws_szPutS_P0, laws_szPutS_O0, [], [], laws_szPutS_k0 N⟩ (laws_szPutS_k0 N n k) k x = laws_szPutS_k0 N (n + 1) k x := by kernel_rfl
theorem laws_szPutS_f_eq (N : Nat) (x0 : (List (Int × ByteArray × Unit))) (x1 : Int) : funK laws_szPutS_E Try.f92 [.val (.row false S166), .val (.int .i64)] [(.int .i64)] (.pair (.int .i64) .unit) (fun i => look [(0, ⟨laws_szPutS_P0, laws_szPutS_O0, [], [], laws_szPutS_k0 N⟩)] i) N (x0, x1, ()) = laws_szPutS_k N x0 x1 := by kernel_rfl
theorem laws_szPutS_o : Known Try.prog 92 ⟨[.val (.row false S166), .val (.int .i64)], [(.int .i64)], (.pair (.int .i64) .unit), laws_szPutS⟩ := known_of (tab := tyTab) (cons := laws_szPutS_s) (segs := [(0, ⟨laws_szPutS_P0, laws_szPutS_O0, [], [], laws_szPutS_k0 fuel⟩)]) (n := fuel) mixed_ok tab_ok (.cons laws_szPut_o .nil) Try.func92 (by kernel_rfl) ⟨⟨fun _ _ => rfl, fun n k x => laws_szPutS_r0 fuel n k x⟩, trivial⟩ (fun x => laws_szPutS_f_eq fuel x.1 x.2.1)
def laws_szDisk_k (N : Nat) (x0 : ((List ByteArray) × (List (Int × ByteArray × Unit)) × Unit)) (x1 : Int) : Option (Unit × (Int × Unit)) :=
  obind (laws_szStringS (x0.1, x1, ())) fun v0 =>
  tb (ilt v0.2.1 0)
  (some ((), (-1), ()))
  (obind (laws_szPutS (x0.2.1, v0.2.1, ())) fun v1 =>
    tb (ilt v1.2.1 0)
    (some ((), (-1), ()))
    (some ((), v1.2.1, ())))
def laws_szDisk (x : (((List ByteArray) × (List (Int × ByteArray × Unit)) × Unit) × Int × Unit)) : Option (Unit × (Int × Unit)) := laws_szDisk_k fuel x.1 x.2.1
def laws_szDisk_s : List (Nat × Con) := [(91, ⟨[.val (.row false .str), .val (.int .i64)], [(.int .i64)], (.pair (.int .i64) .unit), laws_szStringS⟩), (92, ⟨[.val (.row false S166), .val (.int .i64)], [(.int .i64)], (.pair (.int .i64) .unit), laws_szPutS⟩)]
def laws_szDisk_E : Env := ⟨fun j => (look tyTab j).getD .unit, fun j => look laws_szDisk_s j⟩
theorem laws_szDisk_f_eq (N : Nat) (x0 : ((List ByteArray) × (List (Int × ByteArray × Unit)) × Unit)) (x1 : Int) : funK laws_szDisk_E Try.f36 [.val S51, .val (.int .i64)] [(.int .i64)] (.pair (.int .i64) .unit) (fun i => look [] i) N (x0, x1, ()) = laws_szDisk_k N x0 x1 := by kernel_rfl
theorem laws_szDisk_o : Known Try.prog 36 ⟨[.val S51, .val (.int .i64)], [(.int .i64)], (.pair (.int .i64) .unit), laws_szDisk⟩ := known_of (tab := tyTab) (cons := laws_szDisk_s) (segs := []) (n := fuel) mixed_ok tab_ok (.cons laws_szStringS_o (.cons laws_szPutS_o .nil)) Try.func36 (by kernel_rfl) trivial (fun x => laws_szDisk_f_eq fuel x.1 x.2.1)
def spec_l1In_k (N : Nat) (x0 : Int) (x1 : Int) (x2 : Int) : Option (Unit × (Bool × Unit)) :=
  tb (ile x1 x0)
  (some ((), (ile x0 x2), ()))
  (some ((), false, ()))
def spec_l1In (x : (Int × Int × Int × Unit)) : Option (Unit × (Bool × Unit)) := spec_l1In_k fuel x.1 x.2.1 x.2.2.1
def spec_l1In_s : List (Nat × Con) := []
def spec_l1In_E : Env := ⟨fun j => (look tyTab j).getD .unit, fun j => look spec_l1In_s j⟩
theorem spec_l1In_f_eq (N : Nat) (x0 : Int) (x1 : Int) (x2 : Int) : funK spec_l1In_E Try.f96 [.val (.int .i64), .val (.int .i64), .val (.int .i64)] [.bool] (.pair .bool .unit) (fun i => look [] i) N (x0, x1, x2, ()) = spec_l1In_k N x0 x1 x2 := by kernel_rfl
theorem spec_l1In_o : Known Try.prog 96 ⟨[.val (.int .i64), .val (.int .i64), .val (.int .i64)], [.bool], (.pair .bool .unit), spec_l1In⟩ := known_of (tab := tyTab) (cons := spec_l1In_s) (segs := []) (n := fuel) mixed_ok tab_ok .nil Try.func96 (by kernel_rfl) trivial (fun x => spec_l1In_f_eq fuel x.1 x.2.1 x.2.2.1)
def spec_l15Sector_k (N : Nat) (x0 : Int) : Option (Unit × (Bool × Unit)) :=
  obind (spec_l1In (x0, 0, 129, ())) fun v0 =>
  some ((), v0.2.1, ())
def spec_l15Sector (x : (Int × Unit)) : Option (Unit × (Bool × Unit)) := spec_l15Sector_k fuel x.1
def spec_l15Sector_s : List (Nat × Con) := [(96, ⟨[.val (.int .i64), .val (.int .i64), .val (.int .i64)], [.bool], (.pair .bool .unit), spec_l1In⟩)]
def spec_l15Sector_E : Env := ⟨fun j => (look tyTab j).getD .unit, fun j => look spec_l15Sector_s j⟩
theorem spec_l15Sector_f_eq (N : Nat) (x0 : Int) : funK spec_l15Sector_E Try.f145 [.val (.int .i64)] [.bool] (.pair .bool .unit) (fun i => look [] i) N (x0, ()) = spec_l15Sector_k N x0 := by kernel_rfl
theorem spec_l15Sector_o : Known Try.prog 145 ⟨[.val (.int .i64)], [.bool], (.pair .bool .unit), spec_l15Sector⟩ := known_of (tab := tyTab) (cons := spec_l15Sector_s) (segs := []) (n := fuel) mixed_ok tab_ok (.cons spec_l1In_o .nil) Try.func145 (by kernel_rfl) trivial (fun x => spec_l15Sector_f_eq fuel x.1)
def spec_DiskOk_P0 : Tpl := ⟨[(1, .one (.fix (.vptr 1 0))), (3, .one (.leaf (.int .i64)))], [(1, [.leaf (.row false .str), .leaf (.row false (.pair (.int .i64) (.pair .str .unit)))])], []⟩
def spec_DiskOk_O0 : Tpl := ⟨[(1, .one (.fix (.vptr 1 0)))], [(1, [.leaf (.row false .str), .leaf (.row false (.pair (.int .i64) (.pair .str .unit)))])], []⟩
def spec_DiskOk_k0 (N : Nat) : Nat → ((Unit × ((((List ByteArray) × (List (Int × (ByteArray × Unit))) × Unit) × Unit) × Unit)) → Option (Unit × (Bool × Unit))) → ((Int × Unit) × ((((List ByteArray) × (List (Int × (ByteArray × Unit))) × Unit) × Unit) × Unit)) → Option (Unit × (Bool × Unit))
  | 0, _, _ => none
  | n + 1, k, x =>
    tb (ilt x.1.1 (((llen x.2.1.1.1) : Nat) : Int))
    (chk (0 ≤ x.1.1) (obind (at? x.2.1.1.1 (Int.toNat x.1.1)) fun v0 =>
        tb (bnot (ieq (((slen v0) : Nat) : Int) 64))
        (some ((), false, ()))
        (spec_DiskOk_k0 N n k (((wr .i64 (x.1.1 + 1)), ()), ((x.2.1.1.1, x.2.1.1.2.1, ()), ()), ()))) (none))
    (k ((), ((x.2.1.1.1, x.2.1.1.2.1, ()), ()), ()))
def spec_DiskOk_P2 : Tpl := ⟨[(1, .one (.fix (.vptr 1 0))), (4, .one (.leaf (.int .i64)))], [(1, [.leaf (.row false .str), .leaf (.row false (.pair (.int .i64) (.pair .str .unit)))])], []⟩
def spec_DiskOk_O2 : Tpl := ⟨[], [], []⟩
def spec_DiskOk_k2 (N : Nat) : Nat → ((Unit × (Unit × Unit)) → Option (Unit × (Bool × Unit))) → ((Int × Unit) × ((((List ByteArray) × (List (Int × (ByteArray × Unit))) × Unit) × Unit) × Unit)) → Option (Unit × (Bool × Unit))
  | 0, _, _ => none
  | n + 1, k, x =>
    tb (ilt x.1.1 (((llen x.2.1.1.2.1) : Nat) : Int))
    (chk (0 ≤ x.1.1) (obind (at? x.2.1.1.2.1 (Int.toNat x.1.1)) fun v0 =>
        obind (spec_l15Sector (v0.1, ())) fun v1 =>
        tb (bnot v1.2.1)
        (some ((), false, ()))
        (chk (0 ≤ x.1.1) (obind (at? x.2.1.1.2.1 (Int.toNat x.1.1)) fun v2 =>
            tb (bnot (ieq (((slen v2.2.1) : Nat) : Int) 64))
            (some ((), false, ()))
            (spec_DiskOk_k2 N n k (((wr .i64 (x.1.1 + 1)), ()), ((x.2.1.1.1, x.2.1.1.2.1, ()), ()), ()))) (none))) (none))
    (k ((), (), ()))
def spec_DiskOk_k (N : Nat) (x0 : ((List ByteArray) × (List (Int × ByteArray × Unit)) × Unit)) : Option (Unit × (Bool × Unit)) :=
  tb (bnot (ieq (((llen x0.1) : Nat) : Int) 130))
  (some ((), false, ()))
  (tb (ilt 200 (((llen x0.2.1) : Nat) : Int))
    (some ((), false, ()))
    (spec_DiskOk_k0 N N (fun v0 =>
        spec_DiskOk_k2 N N (fun v1 =>
          some ((), true, ())) ((0, ()), ((v0.2.1.1.1, v0.2.1.1.2.1, ()), ()), ())) ((0, ()), ((x0.1, x0.2.1, ()), ()), ())))
def spec_DiskOk (x : (((List ByteArray) × (List (Int × ByteArray × Unit)) × Unit) × Unit)) : Option (Unit × (Bool × Unit)) := spec_DiskOk_k fuel x.1
def spec_DiskOk_s : List (Nat × Con) := [(145, ⟨[.val (.int .i64)], [.bool], (.pair .bool .unit), spec_l15Sector⟩)]
def spec_DiskOk_E : Env := ⟨fun j => (look tyTab j).getD .unit, fun j => look spec_DiskOk_s j⟩
theorem spec_DiskOk_r0 (N n : Nat) (k : spec_DiskOk_O0.ty.den → Option (Unit × (Bool × Unit))) (x : spec_DiskOk_P0.ty.den) : roundK spec_DiskOk_E ⟨Try.f93.ntmps, N, (fun i => look [(0, ⟨spec_DiskOk_P0, spec_DiskOk_O0, [], [], spec_DiskOk_k0 N⟩), (2, ⟨spec_DiskOk_P2, spec_DiskOk_O2, [], [], spec_DiskOk_k2 N⟩)] i), retK spec_DiskOk_E Try.f93 [.val S55] [.bool] (.pair .bool .unit)⟩ (Try.f93.body.getD .skip) 0 ⟨spec_DiskOk_P0, spec_DiskOk_O0, [], [], spec_DiskOk_k0 N⟩ (spec_DiskOk_k0 N n k) k x = spec_DiskOk_k0 N (n + 1) k x := by kernel_rfl
theorem spec_DiskOk_r2 (N n : Nat) (k : spec_DiskOk_O2.ty.den → Option (Unit × (Bool × Unit))) (x : spec_DiskOk_P2.ty.den) : roundK spec_DiskOk_E ⟨Try.f93.ntmps, N, (fun i => look [(0, ⟨spec_DiskOk_P0, spec_DiskOk_O0, [], [], spec_DiskOk_k0 N⟩), (2, ⟨spec_DiskOk_P2, spec_DiskOk_O2, [], [], spec_DiskOk_k2 N⟩)] i), retK spec_DiskOk_E Try.f93 [.val S55] [.bool] (.pair .bool .unit)⟩ (Try.f93.body.getD .skip) 2 ⟨spec_DiskOk_P2, spec_DiskOk_O2, [], [], spec_DiskOk_k2 N⟩ (spec_DiskOk_k2 N n k) k x = spec_DiskOk_k2 N (n + 1) k x := by kernel_rfl
theorem spec_DiskOk_f_eq (N : Nat) (x0 : ((List ByteArray) × (List (Int × ByteArray × Unit)) × Unit)) : funK spec_DiskOk_E Try.f93 [.val S55] [.bool] (.pair .bool .unit) (fun i => look [(0, ⟨spec_DiskOk_P0, spec_DiskOk_O0, [], [], spec_DiskOk_k0 N⟩), (2, ⟨spec_DiskOk_P2, spec_DiskOk_O2, [], [], spec_DiskOk_k2 N⟩)] i) N (x0, ()) = spec_DiskOk_k N x0 := by kernel_rfl
theorem spec_DiskOk_o : Known Try.prog 93 ⟨[.val S55], [.bool], (.pair .bool .unit), spec_DiskOk⟩ := known_of (tab := tyTab) (cons := spec_DiskOk_s) (segs := [(0, ⟨spec_DiskOk_P0, spec_DiskOk_O0, [], [], spec_DiskOk_k0 fuel⟩), (2, ⟨spec_DiskOk_P2, spec_DiskOk_O2, [], [], spec_DiskOk_k2 fuel⟩)]) (n := fuel) mixed_ok tab_ok (.cons spec_l15Sector_o .nil) Try.func93 (by kernel_rfl) ⟨⟨fun _ _ => rfl, fun n k x => spec_DiskOk_r0 fuel n k x⟩, ⟨⟨fun _ _ => rfl, fun n k x => spec_DiskOk_r2 fuel n k x⟩, trivial⟩⟩ (fun x => spec_DiskOk_f_eq fuel x.1)
def spec_l15Copy_k (N : Nat) (x0 : ((List ByteArray) × (List (Int × ByteArray × Unit)) × Unit)) : Option (Unit × (((List ByteArray) × (List (Int × ByteArray × Unit)) × Unit) × Unit)) :=
  chk ((plus 0 (llen x0.1)) ≤ 8796093022208) (chk ((plus 0 (llen x0.2.1)) ≤ 5864062014805) (some ((), ((lapp [] x0.1), (lapp [] x0.2.1), ()), ())) (none)) (none)
def spec_l15Copy (x : (((List ByteArray) × (List (Int × ByteArray × Unit)) × Unit) × Unit)) : Option (Unit × (((List ByteArray) × (List (Int × ByteArray × Unit)) × Unit) × Unit)) := spec_l15Copy_k fuel x.1
def spec_l15Copy_s : List (Nat × Con) := []
def spec_l15Copy_E : Env := ⟨fun j => (look tyTab j).getD .unit, fun j => look spec_l15Copy_s j⟩
theorem spec_l15Copy_f_eq (N : Nat) (x0 : ((List ByteArray) × (List (Int × ByteArray × Unit)) × Unit)) : funK spec_l15Copy_E Try.f94 [.val S55] [T55] (.pair T55 .unit) (fun i => look [] i) N (x0, ()) = spec_l15Copy_k N x0 := by kernel_rfl
theorem spec_l15Copy_o : Known Try.prog 94 ⟨[.val S55], [T55], (.pair T55 .unit), spec_l15Copy⟩ := known_of (tab := tyTab) (cons := spec_l15Copy_s) (segs := []) (n := fuel) mixed_ok tab_ok .nil Try.func94 (by kernel_rfl) trivial (fun x => spec_l15Copy_f_eq fuel x.1)
def spec_l16Area_k (N : Nat) (x0 : Int) : Option (Unit × (Bool × Unit)) :=
  tb (ieq x0 0)
  (some ((), true, ()))
  (some ((), (ieq x0 1), ()))
def spec_l16Area (x : (Int × Unit)) : Option (Unit × (Bool × Unit)) := spec_l16Area_k fuel x.1
def spec_l16Area_s : List (Nat × Con) := []
def spec_l16Area_E : Env := ⟨fun j => (look tyTab j).getD .unit, fun j => look spec_l16Area_s j⟩
theorem spec_l16Area_f_eq (N : Nat) (x0 : Int) : funK spec_l16Area_E Try.f95 [.val (.int .i64)] [.bool] (.pair .bool .unit) (fun i => look [] i) N (x0, ()) = spec_l16Area_k N x0 := by kernel_rfl
theorem spec_l16Area_o : Known Try.prog 95 ⟨[.val (.int .i64)], [.bool], (.pair .bool .unit), spec_l16Area⟩ := known_of (tab := tyTab) (cons := spec_l16Area_s) (segs := []) (n := fuel) mixed_ok tab_ok .nil Try.func95 (by kernel_rfl) trivial (fun x => spec_l16Area_f_eq fuel x.1)
def spec_l15Of_P0 : Tpl := ⟨[(1, .one (.leaf (.int .i64))), (2, .one (.fix (.vptr 2 0))), (5, .one (.leaf (.int .i64)))], [(2, [.leaf (.row false .str), .leaf (.row false (.pair (.int .i64) (.pair .str .unit)))])], []⟩
def spec_l15Of_O0 : Tpl := ⟨[(1, .one (.leaf (.int .i64))), (2, .one (.fix (.vptr 2 0)))], [(2, [.leaf (.row false .str), .leaf (.row false (.pair (.int .i64) (.pair .str .unit)))])], []⟩
def spec_l15Of_k0 (N : Nat) : Nat → (((Int × Unit) × ((((List ByteArray) × (List (Int × (ByteArray × Unit))) × Unit) × Unit) × Unit)) → Option (Unit × (ByteArray × Unit))) → ((Int × Int × Unit) × ((((List ByteArray) × (List (Int × (ByteArray × Unit))) × Unit) × Unit) × Unit)) → Option (Unit × (ByteArray × Unit))
  | 0, _, _ => none
  | n + 1, k, x =>
    tb (ile 0 x.1.2.1)
    (chk (0 ≤ x.1.2.1) (obind (at? x.2.1.1.2.1 (Int.toNat x.1.2.1)) fun v0 =>
        tb (ieq v0.1 x.1.1)
        (chk (0 ≤ x.1.2.1) (obind (at? x.2.1.1.2.1 (Int.toNat x.1.2.1)) fun v1 =>
            some ((), v1.2.1, ())) (none))
        (spec_l15Of_k0 N n k ((x.1.1, (wr .i64 (x.1.2.1 - 1)), ()), ((x.2.1.1.1, x.2.1.1.2.1, ()), ()), ()))) (none))
    (k ((x.1.1, ()), ((x.2.1.1.1, x.2.1.1.2.1, ()), ()), ()))
def spec_l15Of_k (N : Nat) (x0 : ((List ByteArray) × (List (Int × ByteArray × Unit)) × Unit)) (x1 : Int) : Option (Unit × (ByteArray × Unit)) :=
  spec_l15Of_k0 N N (fun v0 =>
    chk (0 ≤ v0.1.1) (obind (at? v0.2.1.1.1 (Int.toNat v0.1.1)) fun v1 =>
      some ((), v1, ())) (none)) ((x1, (wr .i64 ((((llen x0.2.1) : Nat) : Int) - 1)), ()), ((x0.1, x0.2.1, ()), ()), ())
def spec_l15Of (x : (((List ByteArray) × (List (Int × ByteArray × Unit)) × Unit) × Int × Unit)) : Option (Unit × (ByteArray × Unit)) := spec_l15Of_k fuel x.1 x.2.1
def spec_l15Of_s : List (Nat × Con) := []
def spec_l15Of_E : Env := ⟨fun j => (look tyTab j).getD .unit, fun j => look spec_l15Of_s j⟩
theorem spec_l15Of_r0 (N n : Nat) (k : spec_l15Of_O0.ty.den → Option (Unit × (ByteArray × Unit))) (x : spec_l15Of_P0.ty.den) : roundK spec_l15Of_E ⟨Try.f97.ntmps, N, (fun i => look [(0, ⟨spec_l15Of_P0, spec_l15Of_O0, [], [], spec_l15Of_k0 N⟩)] i), retK spec_l15Of_E Try.f97 [.val S55, .val (.int .i64)] [.str] (.pair .str .unit)⟩ (Try.f97.body.getD .skip) 0 ⟨spec_l15Of_P0, spec_l15Of_O0, [], [], spec_l15Of_k0 N⟩ (spec_l15Of_k0 N n k) k x = spec_l15Of_k0 N (n + 1) k x := by kernel_rfl
theorem spec_l15Of_f_eq (N : Nat) (x0 : ((List ByteArray) × (List (Int × ByteArray × Unit)) × Unit)) (x1 : Int) : funK spec_l15Of_E Try.f97 [.val S55, .val (.int .i64)] [.str] (.pair .str .unit) (fun i => look [(0, ⟨spec_l15Of_P0, spec_l15Of_O0, [], [], spec_l15Of_k0 N⟩)] i) N (x0, x1, ()) = spec_l15Of_k N x0 x1 := by kernel_rfl
theorem spec_l15Of_o : Known Try.prog 97 ⟨[.val S55, .val (.int .i64)], [.str], (.pair .str .unit), spec_l15Of⟩ := known_of (tab := tyTab) (cons := spec_l15Of_s) (segs := [(0, ⟨spec_l15Of_P0, spec_l15Of_O0, [], [], spec_l15Of_k0 fuel⟩)]) (n := fuel) mixed_ok tab_ok .nil Try.func97 (by kernel_rfl) ⟨⟨fun _ _ => rfl, fun n k x => spec_l15Of_r0 fuel n k x⟩, trivial⟩ (fun x => spec_l15Of_f_eq fuel x.1 x.2.1)
def spec_DiskPut_k (N : Nat) (x0 : ((List ByteArray) × (List (Int × ByteArray × Unit)) × Unit)) (x1 : Int) (x2 : ByteArray) : Option (Unit × (((List ByteArray) × (List (Int × ByteArray × Unit)) × Unit) × Bool × Unit)) :=
  obind (spec_DiskOk ((x0.1, x0.2.1, ()), ())) fun v0 =>
  tb (bnot v0.2.1)
  (some ((), ([], [], ()), false, ()))
  (obind (spec_l15Copy ((x0.1, x0.2.1, ()), ())) fun v1 =>
    obind (spec_l15Sector (x1, ())) fun v2 =>
    tb (bnot v2.2.1)
    (some ((), (v1.2.1.1, v1.2.1.2.1, ()), false, ()))
    (tb (bnot (ieq (((slen x2) : Nat) : Int) 64))
      (some ((), (v1.2.1.1, v1.2.1.2.1, ()), false, ()))
      (tb (ieq (((llen x0.2.1) : Nat) : Int) 200)
        (some ((), (v1.2.1.1, v1.2.1.2.1, ()), false, ()))
        (chk ((plus (llen v1.2.1.2.1) (llen [(x1, x2, ())])) ≤ 5864062014805) (some ((), (v1.2.1.1, (lapp v1.2.1.2.1 [(x1, x2, ())]), ()), true, ())) (none)))))
def spec_DiskPut (x : (((List ByteArray) × (List (Int × ByteArray × Unit)) × Unit) × Int × ByteArray × Unit)) : Option (Unit × (((List ByteArray) × (List (Int × ByteArray × Unit)) × Unit) × Bool × Unit)) := spec_DiskPut_k fuel x.1 x.2.1 x.2.2.1
def spec_DiskPut_s : List (Nat × Con) := [(93, ⟨[.val S55], [.bool], (.pair .bool .unit), spec_DiskOk⟩), (94, ⟨[.val S55], [T55], (.pair T55 .unit), spec_l15Copy⟩), (145, ⟨[.val (.int .i64)], [.bool], (.pair .bool .unit), spec_l15Sector⟩)]
def spec_DiskPut_E : Env := ⟨fun j => (look tyTab j).getD .unit, fun j => look spec_DiskPut_s j⟩
theorem spec_DiskPut_f_eq (N : Nat) (x0 : ((List ByteArray) × (List (Int × ByteArray × Unit)) × Unit)) (x1 : Int) (x2 : ByteArray) : funK spec_DiskPut_E Try.f98 [.val S55, .val (.int .i64), .val .str] [T55, .bool] (.pair T55 (.pair .bool .unit)) (fun i => look [] i) N (x0, x1, x2, ()) = spec_DiskPut_k N x0 x1 x2 := by kernel_rfl
theorem spec_DiskPut_o : Known Try.prog 98 ⟨[.val S55, .val (.int .i64), .val .str], [T55, .bool], (.pair T55 (.pair .bool .unit)), spec_DiskPut⟩ := known_of (tab := tyTab) (cons := spec_DiskPut_s) (segs := []) (n := fuel) mixed_ok tab_ok (.cons spec_DiskOk_o (.cons spec_l15Copy_o (.cons spec_l15Sector_o .nil))) Try.func98 (by kernel_rfl) trivial (fun x => spec_DiskPut_f_eq fuel x.1 x.2.1 x.2.2.1)
def spec_AreaPut_P2 : Tpl := ⟨[(1, .one (.leaf (.int .i64))), (2, .one (.leaf (.int .i64))), (3, .one (.leaf (.row false (.int .u8)))), (8, .one (.fix (.vptr 8 0))), (10, .one (.fix (.vptr 10 0))), (11, .one (.fix (.vptr 11 0))), (12, .one (.leaf (.int .i64))), (13, .one (.leaf (.int .i64))), (14, .one (.leaf (.int .i64))), (15, .one (.fix (.ref 12000 [] none))), (16, .one (.leaf (.int .i64))), (54, .one (.leaf (.int .i64))), (55, .one (.leaf (.row false (.int .u8)))), (56, .one (.leaf (.int .i64))), (57, .one (.leaf (.int .i64))), (58, .one (.leaf (.int .i64))), (59, .one (.leaf .bool)), (62, .one (.leaf (.row false (.int .u8)))), (63, .one (.leaf (.int .i64))), (64, .one (.leaf .bool))], [(8, [.fix .nil, .fix .nil]), (10, [.fix (.ref 12001 [] none), .fix (.ref 12002 [] none)]), (11, [.fix (.ref 12003 [] none), .fix (.ref 12004 [] none)])], [(12000, (.int .u8)), (12001, .str), (12002, (.pair (.int .i64) (.pair .str .unit))), (12003, .str), (12004, (.pair (.int .i64) (.pair .str .unit)))]⟩
def spec_AreaPut_O2 : Tpl := ⟨[(1, .one (.leaf (.int .i64))), (2, .one (.leaf (.int .i64))), (3, .one (.leaf (.row false (.int .u8)))), (8, .one (.fix (.vptr 8 0))), (10, .one (.fix (.vptr 10 0))), (11, .one (.fix (.vptr 11 0))), (12, .one (.leaf (.int .i64))), (14, .one (.leaf (.int .i64))), (15, .one (.fix (.ref 12500 [] none))), (54, .one (.leaf (.int .i64))), (55, .one (.leaf (.row false (.int .u8)))), (56, .one (.leaf (.int .i64))), (57, .one (.leaf (.int .i64))), (58, .one (.leaf (.int .i64))), (59, .one (.leaf .bool)), (62, .one (.leaf (.row false (.int .u8)))), (63, .one (.leaf (.int .i64))), (64, .one (.leaf .bool))], [(8, [.fix .nil, .fix .nil]), (10, [.fix (.ref 12501 [] none), .fix (.ref 12502 [] none)]), (11, [.fix (.ref 12503 [] none), .fix (.ref 12504 [] none)])], [(12500, (.int .u8)), (12501, .str), (12502, (.pair (.int .i64) (.pair .str .unit))), (12503, .str), (12504, (.pair (.int .i64) (.pair .str .unit)))]⟩
def spec_AreaPut_k2 (N : Nat) : Nat → (((Int × Int × (List Int) × Int × Int × Int × (List Int) × Int × Int × Int × Bool × (List Int) × Int × Bool × Unit) × ((Unit × Unit × Unit × Unit) × ((List Int) × (List ByteArray) × (List (Int × (ByteArray × Unit))) × (List ByteArray) × (List (Int × (ByteArray × Unit))) × Unit))) → Option (Unit × (((List ByteArray) × (List (Int × ByteArray × Unit)) × Unit) × Bool × Unit))) → ((Int × Int × (List Int) × Int × Int × Int × Int × Int × (List Int) × Int × Int × Int × Bool × (List Int) × Int × Bool × Unit) × ((Unit × Unit × Unit × Unit) × ((List Int) × (List ByteArray) × (List (Int × (ByteArray × Unit))) × (List ByteArray) × (List (Int × (ByteArray × Unit))) × Unit))) → Option (Unit × (((List ByteArray) × (List (Int × ByteArray × Unit)) × Unit) × Bool × Unit))
  | 0, _, _ => none
  | n + 1, k, x =>
    tb (ilt x.1.2.2.2.2.2.2.1 64)
    (tb (ile x.1.2.1 (wr .i64 (x.1.2.2.2.2.1 + x.1.2.2.2.2.2.2.1)))
      (tb (ilt (wr .i64 (x.1.2.2.2.2.1 + x.1.2.2.2.2.2.2.1)) (wr .i64 (x.1.2.1 + (((llen x.1.2.2.1) : Nat) : Int))))
        (chk (0 ≤ (wr .i64 ((wr .i64 (x.1.2.2.2.2.1 + x.1.2.2.2.2.2.2.1)) - x.1.2.1))) (obind (at? x.1.2.2.1 (Int.toNat (wr .i64 ((wr .i64 (x.1.2.2.2.2.1 + x.1.2.2.2.2.2.2.1)) - x.1.2.1)))) fun v0 =>
            chk ((0 ≤ x.1.2.2.2.2.2.2.1) ∧ (x.1.2.2.2.2.2.2.1 < (((llen x.2.2.1) : Nat) : Int))) (obind (at? x.2.2.1 (Int.toNat x.1.2.2.2.2.2.2.1)) fun v1 =>
              spec_AreaPut_k2 N n k ((x.1.1, x.1.2.1, x.1.2.2.1, x.1.2.2.2.1, x.1.2.2.2.2.1, x.1.2.2.2.2.2.1, (wr .i64 (x.1.2.2.2.2.2.2.1 + 1)), x.1.2.2.2.2.2.2.2.1, x.1.2.2.2.2.2.2.2.2.1, x.1.2.2.2.2.2.2.2.2.2.1, x.1.2.2.2.2.2.2.2.2.2.2.1, x.1.2.2.2.2.2.2.2.2.2.2.2.1, x.1.2.2.2.2.2.2.2.2.2.2.2.2.1, x.1.2.2.2.2.2.2.2.2.2.2.2.2.2.1, x.1.2.2.2.2.2.2.2.2.2.2.2.2.2.2.1, x.1.2.2.2.2.2.2.2.2.2.2.2.2.2.2.2.1, ()), ((), (), (), ()), (lset x.2.2.1 (Int.toNat x.1.2.2.2.2.2.2.1) v0), x.2.2.2.1, x.2.2.2.2.1, x.2.2.2.2.2.1, x.2.2.2.2.2.2.1, ())) (none)) (none))
        (spec_AreaPut_k2 N n k ((x.1.1, x.1.2.1, x.1.2.2.1, x.1.2.2.2.1, x.1.2.2.2.2.1, x.1.2.2.2.2.2.1, (wr .i64 (x.1.2.2.2.2.2.2.1 + 1)), x.1.2.2.2.2.2.2.2.1, x.1.2.2.2.2.2.2.2.2.1, x.1.2.2.2.2.2.2.2.2.2.1, x.1.2.2.2.2.2.2.2.2.2.2.1, x.1.2.2.2.2.2.2.2.2.2.2.2.1, x.1.2.2.2.2.2.2.2.2.2.2.2.2.1, x.1.2.2.2.2.2.2.2.2.2.2.2.2.2.1, x.1.2.2.2.2.2.2.2.2.2.2.2.2.2.2.1, x.1.2.2.2.2.2.2.2.2.2.2.2.2.2.2.2.1, ()), ((), (), (), ()), x.2.2.1, x.2.2.2.1, x.2.2.2.2.1, x.2.2.2.2.2.1, x.2.2.2.2.2.2.1, ())))
      (spec_AreaPut_k2 N n k ((x.1.1, x.1.2.1, x.1.2.2.1, x.1.2.2.2.1, x.1.2.2.2.2.1, x.1.2.2.2.2.2.1, (wr .i64 (x.1.2.2.2.2.2.2.1 + 1)), x.1.2.2.2.2.2.2.2.1, x.1.2.2.2.2.2.2.2.2.1, x.1.2.2.2.2.2.2.2.2.2.1, x.1.2.2.2.2.2.2.2.2.2.2.1, x.1.2.2.2.2.2.2.2.2.2.2.2.1, x.1.2.2.2.2.2.2.2.2.2.2.2.2.1, x.1.2.2.2.2.2.2.2.2.2.2.2.2.2.1, x.1.2.2.2.2.2.2.2.2.2.2.2.2.2.2.1, x.1.2.2.2.2.2.2.2.2.2.2.2.2.2.2.2.1, ()), ((), (), (), ()), x.2.2.1, x.2.2.2.1, x.2.2.2.2.1, x.2.2.2.2.2.1, x.2.2.2.2.2.2.1, ())))
    (k ((x.1.1, x.1.2.1, x.1.2.2.1, x.1.2.2.2.1, x.1.2.2.2.2.2.1, x.1.2.2.2.2.2.2.2.1, x.1.2.2.2.2.2.2.2.2.1, x.1.2.2.2.2.2.2.2.2.2.1, x.1.2.2.2.2.2.2.2.2.2.2.1, x.1.2.2.2.2.2.2.2.2.2.2.2.1, x.1.2.2.2.2.2.2.2.2.2.2.2.2.1, x.1.2.2.2.2.2.2.2.2.2.2.2.2.2.1, x.1.2.2.2.2.2.2.2.2.2.2.2.2.2.2.1, x.1.2.2.2.2.2.2.2.2.2.2.2.2.2.2.2.1, ()), ((), (), (), ()), x.2.2.1, x.2.2.2.1, x.2.2.2.2.1, x.2.2.2.2.2.1, x.2.2.2.2.2.2.1, ()))
def spec_AreaPut_P0 : Tpl := ⟨[(1, .one (.leaf (.int .i64))), (2, .one (.leaf (.int .i64))), (3, .one (.leaf (.row false (.int .u8)))), (8, .one (.fix (.vptr 8 0))), (10, .one (.fix (.vptr 10 0))), (11, .one (.fix (.vptr 11 0))), (12, .one (.leaf (.int .i64)))], [(8, [.fix .nil, .fix .nil]), (10, [.fix (.ref 10000 [] none), .fix (.ref 10001 [] none)]), (11, [.fix (.ref 10002 [] none), .fix (.ref 10003 [] none)])], [(10000, .str), (10001, (.pair (.int .i64) (.pair .str .unit))), (10002, .str), (10003, (.pair (.int .i64) (.pair .str .unit)))]⟩
def spec_AreaPut_O0 : Tpl := ⟨[(8, .one (.fix (.vptr 8 0))), (11, .one (.fix (.vptr 11 0)))], [(8, [.fix .nil, .fix .nil]), (11, [.fix (.ref 10500 [] none), .fix (.ref 10501 [] none)])], [(10500, .str), (10501, (.pair (.int .i64) (.pair .str .unit)))]⟩
def spec_AreaPut_k0 (N : Nat) : Nat → ((Unit × ((Unit × Unit × Unit) × ((List ByteArray) × (List (Int × (ByteArray × Unit))) × Unit))) → Option (Unit × (((List ByteArray) × (List (Int × ByteArray × Unit)) × Unit) × Bool × Unit))) → ((Int × Int × (List Int) × Int × Unit) × ((Unit × Unit × Unit × Unit) × ((List ByteArray) × (List (Int × (ByteArray × Unit))) × (List ByteArray) × (List (Int × (ByteArray × Unit))) × Unit))) → Option (Unit × (((List ByteArray) × (List (Int × ByteArray × Unit)) × Unit) × Bool × Unit))
  | 0, _, _ => none
  | n + 1, k, x =>
    tb (ilt x.1.2.2.2.1 64)
    (tb (ile (wr .i64 ((wr .i64 (x.1.2.2.2.1 * 64)) + 64)) x.1.2.1)
      (spec_AreaPut_k0 N n k ((x.1.1, x.1.2.1, x.1.2.2.1, (wr .i64 (x.1.2.2.2.1 + 1)), ()), ((), (), (), ()), x.2.2.1, x.2.2.2.1, x.2.2.2.2.1, x.2.2.2.2.2.1, ()))
      (tb (ile (wr .i64 (x.1.2.1 + (((llen x.1.2.2.1) : Nat) : Int))) (wr .i64 (x.1.2.2.2.1 * 64)))
        (spec_AreaPut_k0 N n k ((x.1.1, x.1.2.1, x.1.2.2.1, (wr .i64 (x.1.2.2.2.1 + 1)), ()), ((), (), (), ()), x.2.2.1, x.2.2.2.1, x.2.2.2.2.1, x.2.2.2.2.2.1, ()))
        (tb (ieq (((llen x.1.2.2.1) : Nat) : Int) 0)
          (spec_AreaPut_k0 N n k ((x.1.1, x.1.2.1, x.1.2.2.1, (wr .i64 (x.1.2.2.2.1 + 1)), ()), ((), (), (), ()), x.2.2.1, x.2.2.2.1, x.2.2.2.2.1, x.2.2.2.2.2.1, ()))
          (obind (spec_l15Of ((x.2.2.2.2.1, x.2.2.2.2.2.1, ()), (wr .i64 ((wr .i64 (2 + (wr .i64 (64 * x.1.1)))) + x.1.2.2.2.1)), ())) fun v0 =>
            spec_AreaPut_k2 N N (fun v1 =>
              obind (spec_DiskPut ((v1.2.2.2.2.2.1, v1.2.2.2.2.2.2.1, ()), v1.1.2.2.2.2.1, (strOf v1.2.2.1), ())) fun v2 =>
              tb (bnot v2.2.2.1)
              (some ((), (v1.2.2.2.1, v1.2.2.2.2.1, ()), false, ()))
              (spec_AreaPut_k0 N n k ((v1.1.1, v1.1.2.1, v1.1.2.2.1, (wr .i64 (v1.1.2.2.2.1 + 1)), ()), ((), (), (), ()), v1.2.2.2.1, v1.2.2.2.2.1, v2.2.1.1, v2.2.1.2.1, ()))) ((x.1.1, x.1.2.1, x.1.2.2.1, x.1.2.2.2.1, (wr .i64 (x.1.2.2.2.1 * 64)), (wr .i64 ((wr .i64 (2 + (wr .i64 (64 * x.1.1)))) + x.1.2.2.2.1)), 0, x.1.2.1, x.1.2.2.1, (((llen x.1.2.2.1) : Nat) : Int), (wr .i64 (x.1.2.1 + (((llen x.1.2.2.1) : Nat) : Int))), (wr .i64 (x.1.2.2.2.1 * 64)), (ile (wr .i64 (x.1.2.1 + (((llen x.1.2.2.1) : Nat) : Int))) (wr .i64 (x.1.2.2.2.1 * 64))), x.1.2.2.1, (((llen x.1.2.2.1) : Nat) : Int), (ieq (((llen x.1.2.2.1) : Nat) : Int) 0), ()), ((), (), (), ()), (bytesOf v0.2.1), x.2.2.1, x.2.2.2.1, x.2.2.2.2.1, x.2.2.2.2.2.1, ())))))
    (k ((), ((), (), ()), x.2.2.2.2.1, x.2.2.2.2.2.1, ()))
def spec_AreaPut_k (N : Nat) (x0 : ((List ByteArray) × (List (Int × ByteArray × Unit)) × Unit)) (x1 : Int) (x2 : Int) (x3 : (List Int)) : Option (Unit × (((List ByteArray) × (List (Int × ByteArray × Unit)) × Unit) × Bool × Unit)) :=
  obind (spec_DiskOk ((x0.1, x0.2.1, ()), ())) fun v0 =>
  tb (bnot v0.2.1)
  (some ((), ([], [], ()), false, ()))
  (obind (spec_l15Copy ((x0.1, x0.2.1, ()), ())) fun v1 =>
    obind (spec_l16Area (x1, ())) fun v2 =>
    tb (bnot v2.2.1)
    (some ((), (v1.2.1.1, v1.2.1.2.1, ()), false, ()))
    (obind (spec_l1In (x2, 0, 4096, ())) fun v3 =>
      tb (bnot v3.2.1)
      (some ((), (v1.2.1.1, v1.2.1.2.1, ()), false, ()))
      (tb (ilt (wr .i64 (4096 - x2)) (((llen x3) : Nat) : Int))
        (some ((), (v1.2.1.1, v1.2.1.2.1, ()), false, ()))
        (obind (spec_l15Copy ((x0.1, x0.2.1, ()), ())) fun v4 =>
          spec_AreaPut_k0 N N (fun v5 =>
            some ((), (v5.2.2.1, v5.2.2.2.1, ()), true, ())) ((x1, x2, x3, 0, ()), ((), (), (), ()), v1.2.1.1, v1.2.1.2.1, v4.2.1.1, v4.2.1.2.1, ())))))
def spec_AreaPut (x : (((List ByteArray) × (List (Int × ByteArray × Unit)) × Unit) × Int × Int × (List Int) × Unit)) : Option (Unit × (((List ByteArray) × (List (Int × ByteArray × Unit)) × Unit) × Bool × Unit)) := spec_AreaPut_k fuel x.1 x.2.1 x.2.2.1 x.2.2.2.1
def spec_AreaPut_s : List (Nat × Con) := [(93, ⟨[.val S55], [.bool], (.pair .bool .unit), spec_DiskOk⟩), (94, ⟨[.val S55], [T55], (.pair T55 .unit), spec_l15Copy⟩), (95, ⟨[.val (.int .i64)], [.bool], (.pair .bool .unit), spec_l16Area⟩), (96, ⟨[.val (.int .i64), .val (.int .i64), .val (.int .i64)], [.bool], (.pair .bool .unit), spec_l1In⟩), (97, ⟨[.val S55, .val (.int .i64)], [.str], (.pair .str .unit), spec_l15Of⟩), (98, ⟨[.val S55, .val (.int .i64), .val .str], [T55, .bool], (.pair T55 (.pair .bool .unit)), spec_DiskPut⟩)]
def spec_AreaPut_E : Env := ⟨fun j => (look tyTab j).getD .unit, fun j => look spec_AreaPut_s j⟩
theorem spec_AreaPut_r2 (N n : Nat) (k : spec_AreaPut_O2.ty.den → Option (Unit × (((List ByteArray) × (List (Int × ByteArray × Unit)) × Unit) × Bool × Unit))) (x : spec_AreaPut_P2.ty.den) : roundK spec_AreaPut_E ⟨Try.f37.ntmps, N, (fun i => look [(0, ⟨spec_AreaPut_P0, spec_AreaPut_O0, [.cell 10 0 10000 .str, .cell 10 1 10001 (.pair (.int .i64) (.pair .str .unit)), .cell 11 0 10002 .str, .cell 11 1 10003 (.pair (.int .i64) (.pair .str .unit))], [.cell 11 0 10500 .str, .cell 11 1 10501 (.pair (.int .i64) (.pair .str .unit))], spec_AreaPut_k0 N⟩), (2, ⟨spec_AreaPut_P2, spec_AreaPut_O2, [.tmp 15 12000 (.int .u8), .cell 10 0 12001 .str, .cell 10 1 12002 (.pair (.int .i64) (.pair .str .unit)), .cell 11 0 12003 .str, .cell 11 1 12004 (.pair (.int .i64) (.pair .str .unit))], [.tmp 15 12500 (.int .u8), .cell 10 0 12501 .str, .cell 10 1 12502 (.pair (.int .i64) (.pair .str .unit)), .cell 11 0 12503 .str, .cell 11 1 12504 (.pair (.int .i64) (.pair .str .unit))], spec_AreaPut_k2 N⟩)] i), retK spec_AreaPut_E Try.f37 [.val S55, .val (.int .i64), .val (.int .i64), .val (.row false (.int .u8))] [T55, .bool] (.pair T55 (.pair .bool .unit))⟩ (Try.f37.body.getD .skip) 2 ⟨spec_AreaPut_P2, spec_AreaPut_O2, [.tmp 15 12000 (.int .u8), .cell 10 0 12001 .str, .cell 10 1 12002 (.pair (.int .i64) (.pair .str .unit)), .cell 11 0 12003 .str, .cell 11 1 12004 (.pair (.int .i64) (.pair .str .unit))], [.tmp 15 12500 (.int .u8), .cell 10 0 12501 .str, .cell 10 1 12502 (.pair (.int .i64) (.pair .str .unit)), .cell 11 0 12503 .str, .cell 11 1 12504 (.pair (.int .i64) (.pair .str .unit))], spec_AreaPut_k2 N⟩ (spec_AreaPut_k2 N n k) k x = spec_AreaPut_k2 N (n + 1) k x := by kernel_rfl
theorem spec_AreaPut_r0 (N n : Nat) (k : spec_AreaPut_O0.ty.den → Option (Unit × (((List ByteArray) × (List (Int × ByteArray × Unit)) × Unit) × Bool × Unit))) (x : spec_AreaPut_P0.ty.den) : roundK spec_AreaPut_E ⟨Try.f37.ntmps, N, (fun i => look [(0, ⟨spec_AreaPut_P0, spec_AreaPut_O0, [.cell 10 0 10000 .str, .cell 10 1 10001 (.pair (.int .i64) (.pair .str .unit)), .cell 11 0 10002 .str, .cell 11 1 10003 (.pair (.int .i64) (.pair .str .unit))], [.cell 11 0 10500 .str, .cell 11 1 10501 (.pair (.int .i64) (.pair .str .unit))], spec_AreaPut_k0 N⟩), (2, ⟨spec_AreaPut_P2, spec_AreaPut_O2, [.tmp 15 12000 (.int .u8), .cell 10 0 12001 .str, .cell 10 1 12002 (.pair (.int .i64) (.pair .str .unit)), .cell 11 0 12003 .str, .cell 11 1 12004 (.pair (.int .i64) (.pair .str .unit))], [.tmp 15 12500 (.int .u8), .cell 10 0 12501 .str, .cell 10 1 12502 (.pair (.int .i64) (.pair .str .unit)), .cell 11 0 12503 .str, .cell 11 1 12504 (.pair (.int .i64) (.pair .str .unit))], spec_AreaPut_k2 N⟩)] i), retK spec_AreaPut_E Try.f37 [.val S55, .val (.int .i64), .val (.int .i64), .val (.row false (.int .u8))] [T55, .bool] (.pair T55 (.pair .bool .unit))⟩ (Try.f37.body.getD .skip) 0 ⟨spec_AreaPut_P0, spec_AreaPut_O0, [.cell 10 0 10000 .str, .cell 10 1 10001 (.pair (.int .i64) (.pair .str .unit)), .cell 11 0 10002 .str, .cell 11 1 10003 (.pair (.int .i64) (.pair .str .unit))], [.cell 11 0 10500 .str, .cell 11 1 10501 (.pair (.int .i64) (.pair .str .unit))], spec_AreaPut_k0 N⟩ (spec_AreaPut_k0 N n k) k x = spec_AreaPut_k0 N (n + 1) k x := by kernel_rfl
theorem spec_AreaPut_f_eq (N : Nat) (x0 : ((List ByteArray) × (List (Int × ByteArray × Unit)) × Unit)) (x1 : Int) (x2 : Int) (x3 : (List Int)) : funK spec_AreaPut_E Try.f37 [.val S55, .val (.int .i64), .val (.int .i64), .val (.row false (.int .u8))] [T55, .bool] (.pair T55 (.pair .bool .unit)) (fun i => look [(0, ⟨spec_AreaPut_P0, spec_AreaPut_O0, [.cell 10 0 10000 .str, .cell 10 1 10001 (.pair (.int .i64) (.pair .str .unit)), .cell 11 0 10002 .str, .cell 11 1 10003 (.pair (.int .i64) (.pair .str .unit))], [.cell 11 0 10500 .str, .cell 11 1 10501 (.pair (.int .i64) (.pair .str .unit))], spec_AreaPut_k0 N⟩), (2, ⟨spec_AreaPut_P2, spec_AreaPut_O2, [.tmp 15 12000 (.int .u8), .cell 10 0 12001 .str, .cell 10 1 12002 (.pair (.int .i64) (.pair .str .unit)), .cell 11 0 12003 .str, .cell 11 1 12004 (.pair (.int .i64) (.pair .str .unit))], [.tmp 15 12500 (.int .u8), .cell 10 0 12501 .str, .cell 10 1 12502 (.pair (.int .i64) (.pair .str .unit)), .cell 11 0 12503 .str, .cell 11 1 12504 (.pair (.int .i64) (.pair .str .unit))], spec_AreaPut_k2 N⟩)] i) N (x0, x1, x2, x3, ()) = spec_AreaPut_k N x0 x1 x2 x3 := by kernel_rfl
theorem spec_AreaPut_o : Known Try.prog 37 ⟨[.val S55, .val (.int .i64), .val (.int .i64), .val (.row false (.int .u8))], [T55, .bool], (.pair T55 (.pair .bool .unit)), spec_AreaPut⟩ := known_of (tab := tyTab) (cons := spec_AreaPut_s) (segs := [(0, ⟨spec_AreaPut_P0, spec_AreaPut_O0, [.cell 10 0 10000 .str, .cell 10 1 10001 (.pair (.int .i64) (.pair .str .unit)), .cell 11 0 10002 .str, .cell 11 1 10003 (.pair (.int .i64) (.pair .str .unit))], [.cell 11 0 10500 .str, .cell 11 1 10501 (.pair (.int .i64) (.pair .str .unit))], spec_AreaPut_k0 fuel⟩), (2, ⟨spec_AreaPut_P2, spec_AreaPut_O2, [.tmp 15 12000 (.int .u8), .cell 10 0 12001 .str, .cell 10 1 12002 (.pair (.int .i64) (.pair .str .unit)), .cell 11 0 12003 .str, .cell 11 1 12004 (.pair (.int .i64) (.pair .str .unit))], [.tmp 15 12500 (.int .u8), .cell 10 0 12501 .str, .cell 10 1 12502 (.pair (.int .i64) (.pair .str .unit)), .cell 11 0 12503 .str, .cell 11 1 12504 (.pair (.int .i64) (.pair .str .unit))], spec_AreaPut_k2 fuel⟩)]) (n := fuel) mixed_ok tab_ok (.cons spec_DiskOk_o (.cons spec_l15Copy_o (.cons spec_l16Area_o (.cons spec_l1In_o (.cons spec_l15Of_o (.cons spec_DiskPut_o .nil)))))) Try.func37 (by kernel_rfl) ⟨⟨fun _ _ => rfl, fun n k x => spec_AreaPut_r0 fuel n k x⟩, ⟨⟨fun _ _ => rfl, fun n k x => spec_AreaPut_r2 fuel n k x⟩, trivial⟩⟩ (fun x => spec_AreaPut_f_eq fuel x.1 x.2.1 x.2.2.1 x.2.2.2.1)
def laws_toStringS_P0 : Tpl := ⟨[(0, .one (.leaf (.row false .str))), (3, .one (.fix (.ref 10000 [] none))), (4, .one (.leaf (.int .i64)))], [], [(10000, .str)]⟩
def laws_toStringS_O0 : Tpl := ⟨[(3, .one (.fix (.ref 10500 [] none)))], [], [(10500, .str)]⟩
def laws_toStringS_k0 (N : Nat) : Nat → ((Unit × (Unit × ((List ByteArray) × Unit))) → Option (Unit × ((List ByteArray) × Unit))) → (((List ByteArray) × Int × Unit) × (Unit × ((List ByteArray) × Unit))) → Option (Unit × ((List ByteArray) × Unit))
  | 0, _, _ => none
  | n + 1, k, x =>
    tb (ilt x.1.2.1 (((llen x.1.1) : Nat) : Int))
    (chk (0 ≤ x.1.2.1) (obind (at? x.1.1 (Int.toNat x.1.2.1)) fun v0 =>
        chk ((0 ≤ x.1.2.1) ∧ (x.1.2.1 < (((llen x.2.2.1) : Nat) : Int))) (obind (at? x.2.2.1 (Int.toNat x.1.2.1)) fun v1 =>
          laws_toStringS_k0 N n k ((x.1.1, (wr .i64 (x.1.2.1 + 1)), ()), (), (lset x.2.2.1 (Int.toNat x.1.2.1) v0), ())) (none)) (none))
    (k ((), (), x.2.2.1, ()))
def laws_toStringS_k (N : Nat) (x0 : (List ByteArray)) : Option (Unit × ((List ByteArray) × Unit)) :=
  chk ((0 ≤ (((llen x0) : Nat) : Int)) ∧ (((((llen x0) : Nat) : Int) ≤ (((llen x0) : Nat) : Int)) ∧ ((Int.toNat (((llen x0) : Nat) : Int)) ≤ 8796093022208))) (laws_toStringS_k0 N N (fun v0 =>
      some ((), v0.2.2.1, ())) ((x0, 0, ()), (), (lrep (Int.toNat (((llen x0) : Nat) : Int)) (⟨#[]⟩ : ByteArray)), ())) (none)
def laws_toStringS (x : ((List ByteArray) × Unit)) : Option (Unit × ((List ByteArray) × Unit)) := laws_toStringS_k fuel x.1
def laws_toStringS_s : List (Nat × Con) := []
def laws_toStringS_E : Env := ⟨fun j => (look tyTab j).getD .unit, fun j => look laws_toStringS_s j⟩
theorem laws_toStringS_r0 (N n : Nat) (k : laws_toStringS_O0.ty.den → Option (Unit × ((List ByteArray) × Unit))) (x : laws_toStringS_P0.ty.den) : roundK laws_toStringS_E ⟨Try.f99.ntmps, N, (fun i => look [(0, ⟨laws_toStringS_P0, laws_toStringS_O0, [.tmp 3 10000 .str], [.tmp 3 10500 .str], laws_toStringS_k0 N⟩)] i), retK laws_toStringS_E Try.f99 [.val (.row false .str)] [(.row true .str)] (.pair (.row true .str) .unit)⟩ (Try.f99.body.getD .skip) 0 ⟨laws_toStringS_P0, laws_toStringS_O0, [.tmp 3 10000 .str], [.tmp 3 10500 .str], laws_toStringS_k0 N⟩ (laws_toStringS_k0 N n k) k x = laws_toStringS_k0 N (n + 1) k x := by kernel_rfl
theorem laws_toStringS_f_eq (N : Nat) (x0 : (List ByteArray)) : funK laws_toStringS_E Try.f99 [.val (.row false .str)] [(.row true .str)] (.pair (.row true .str) .unit) (fun i => look [(0, ⟨laws_toStringS_P0, laws_toStringS_O0, [.tmp 3 10000 .str], [.tmp 3 10500 .str], laws_toStringS_k0 N⟩)] i) N (x0, ()) = laws_toStringS_k N x0 := by kernel_rfl
theorem laws_toStringS_o : Known Try.prog 99 ⟨[.val (.row false .str)], [(.row true .str)], (.pair (.row true .str) .unit), laws_toStringS⟩ := known_of (tab := tyTab) (cons := laws_toStringS_s) (segs := [(0, ⟨laws_toStringS_P0, laws_toStringS_O0, [.tmp 3 10000 .str], [.tmp 3 10500 .str], laws_toStringS_k0 fuel⟩)]) (n := fuel) mixed_ok tab_ok .nil Try.func99 (by kernel_rfl) ⟨⟨fun _ _ => rfl, fun n k x => laws_toStringS_r0 fuel n k x⟩, trivial⟩ (fun x => laws_toStringS_f_eq fuel x.1)
def laws_toPut_k (N : Nat) (x0 : (Int × ByteArray × Unit)) : Option (Unit × ((Int × ByteArray × Unit) × Unit)) :=
  some ((), (x0.1, x0.2.1, ()), ())
def laws_toPut (x : ((Int × ByteArray × Unit) × Unit)) : Option (Unit × ((Int × ByteArray × Unit) × Unit)) := laws_toPut_k fuel x.1
def laws_toPut_s : List (Nat × Con) := []
def laws_toPut_E : Env := ⟨fun j => (look tyTab j).getD .unit, fun j => look laws_toPut_s j⟩
theorem laws_toPut_f_eq (N : Nat) (x0 : (Int × ByteArray × Unit)) : funK laws_toPut_E Try.f146 [.val S166] [T167] (.pair T167 .unit) (fun i => look [] i) N (x0, ()) = laws_toPut_k N x0 := by kernel_rfl
theorem laws_toPut_o : Known Try.prog 146 ⟨[.val S166], [T167], (.pair T167 .unit), laws_toPut⟩ := known_of (tab := tyTab) (cons := laws_toPut_s) (segs := []) (n := fuel) mixed_ok tab_ok .nil Try.func146 (by kernel_rfl) trivial (fun x => laws_toPut_f_eq fuel x.1)
def laws_toPutS_P0 : Tpl := ⟨[(0, .one (.leaf (.row false (.pair (.int .i64) (.pair .str .unit))))), (3, .one (.fix (.ref 10000 [] none))), (4, .one (.leaf (.int .i64)))], [], [(10000, (.pair (.int .i64) (.pair .str .unit)))]⟩
def laws_toPutS_O0 : Tpl := ⟨[(3, .one (.fix (.ref 10500 [] none)))], [], [(10500, (.pair (.int .i64) (.pair .str .unit)))]⟩
def laws_toPutS_k0 (N : Nat) : Nat → ((Unit × (Unit × ((List (Int × (ByteArray × Unit))) × Unit))) → Option (Unit × ((List (Int × ByteArray × Unit)) × Unit))) → (((List (Int × (ByteArray × Unit))) × Int × Unit) × (Unit × ((List (Int × (ByteArray × Unit))) × Unit))) → Option (Unit × ((List (Int × ByteArray × Unit)) × Unit))
  | 0, _, _ => none
  | n + 1, k, x =>
    tb (ilt x.1.2.1 (((llen x.1.1) : Nat) : Int))
    (chk (0 ≤ x.1.2.1) (obind (at? x.1.1 (Int.toNat x.1.2.1)) fun v0 =>
        obind (laws_toPut ((v0.1, v0.2.1, ()), ())) fun v1 =>
        chk ((0 ≤ x.1.2.1) ∧ (x.1.2.1 < (((llen x.2.2.1) : Nat) : Int))) (obind (at? x.2.2.1 (Int.toNat x.1.2.1)) fun v2 =>
          laws_toPutS_k0 N n k ((x.1.1, (wr .i64 (x.1.2.1 + 1)), ()), (), (lset x.2.2.1 (Int.toNat x.1.2.1) (v1.2.1.1, v1.2.1.2.1, ())), ())) (none)) (none))
    (k ((), (), x.2.2.1, ()))
def laws_toPutS_k (N : Nat) (x0 : (List (Int × ByteArray × Unit))) : Option (Unit × ((List (Int × ByteArray × Unit)) × Unit)) :=
  chk ((0 ≤ (((llen x0) : Nat) : Int)) ∧ (((((llen x0) : Nat) : Int) ≤ (((llen x0) : Nat) : Int)) ∧ ((Int.toNat (((llen x0) : Nat) : Int)) ≤ 5864062014805))) (laws_toPutS_k0 N N (fun v0 =>
      some ((), v0.2.2.1, ())) ((x0, 0, ()), (), (lrep (Int.toNat (((llen x0) : Nat) : Int)) ((0 : Int), (⟨#[]⟩ : ByteArray), PUnit.unit)), ())) (none)
def laws_toPutS (x : ((List (Int × ByteArray × Unit)) × Unit)) : Option (Unit × ((List (Int × ByteArray × Unit)) × Unit)) := laws_toPutS_k fuel x.1
def laws_toPutS_s : List (Nat × Con) := [(146, ⟨[.val S166], [T167], (.pair T167 .unit), laws_toPut⟩)]
def laws_toPutS_E : Env := ⟨fun j => (look tyTab j).getD .unit, fun j => look laws_toPutS_s j⟩
theorem laws_toPutS_r0 (N n : Nat) (k : laws_toPutS_O0.ty.den → Option (Unit × ((List (Int × ByteArray × Unit)) × Unit))) (x : laws_toPutS_P0.ty.den) : roundK laws_toPutS_E ⟨Try.f100.ntmps, N, (fun i => look [(0, ⟨laws_toPutS_P0, laws_toPutS_O0, [.tmp 3 10000 (.pair (.int .i64) (.pair .str .unit))], [.tmp 3 10500 (.pair (.int .i64) (.pair .str .unit))], laws_toPutS_k0 N⟩)] i), retK laws_toPutS_E Try.f100 [.val (.row false S166)] [(.row true T167)] (.pair (.row true T167) .unit)⟩ (Try.f100.body.getD .skip) 0 ⟨laws_toPutS_P0, laws_toPutS_O0, [.tmp 3 10000 (.pair (.int .i64) (.pair .str .unit))], [.tmp 3 10500 (.pair (.int .i64) (.pair .str .unit))], laws_toPutS_k0 N⟩ (laws_toPutS_k0 N n k) k x = laws_toPutS_k0 N (n + 1) k x := by kernel_rfl
theorem laws_toPutS_f_eq (N : Nat) (x0 : (List (Int × ByteArray × Unit))) : funK laws_toPutS_E Try.f100 [.val (.row false S166)] [(.row true T167)] (.pair (.row true T167) .unit) (fun i => look [(0, ⟨laws_toPutS_P0, laws_toPutS_O0, [.tmp 3 10000 (.pair (.int .i64) (.pair .str .unit))], [.tmp 3 10500 (.pair (.int .i64) (.pair .str .unit))], laws_toPutS_k0 N⟩)] i) N (x0, ()) = laws_toPutS_k N x0 := by kernel_rfl
theorem laws_toPutS_o : Known Try.prog 100 ⟨[.val (.row false S166)], [(.row true T167)], (.pair (.row true T167) .unit), laws_toPutS⟩ := known_of (tab := tyTab) (cons := laws_toPutS_s) (segs := [(0, ⟨laws_toPutS_P0, laws_toPutS_O0, [.tmp 3 10000 (.pair (.int .i64) (.pair .str .unit))], [.tmp 3 10500 (.pair (.int .i64) (.pair .str .unit))], laws_toPutS_k0 fuel⟩)]) (n := fuel) mixed_ok tab_ok (.cons laws_toPut_o .nil) Try.func100 (by kernel_rfl) ⟨⟨fun _ _ => rfl, fun n k x => laws_toPutS_r0 fuel n k x⟩, trivial⟩ (fun x => laws_toPutS_f_eq fuel x.1)
def laws_toDisk_k (N : Nat) (x0 : ((List ByteArray) × (List (Int × ByteArray × Unit)) × Unit)) : Option (Unit × (((List ByteArray) × (List (Int × ByteArray × Unit)) × Unit) × Unit)) :=
  obind (laws_toStringS (x0.1, ())) fun v0 =>
  obind (laws_toPutS (x0.2.1, ())) fun v1 =>
  some ((), (v0.2.1, v1.2.1, ()), ())
def laws_toDisk (x : (((List ByteArray) × (List (Int × ByteArray × Unit)) × Unit) × Unit)) : Option (Unit × (((List ByteArray) × (List (Int × ByteArray × Unit)) × Unit) × Unit)) := laws_toDisk_k fuel x.1
def laws_toDisk_s : List (Nat × Con) := [(99, ⟨[.val (.row false .str)], [(.row true .str)], (.pair (.row true .str) .unit), laws_toStringS⟩), (100, ⟨[.val (.row false S166)], [(.row true T167)], (.pair (.row true T167) .unit), laws_toPutS⟩)]
def laws_toDisk_E : Env := ⟨fun j => (look tyTab j).getD .unit, fun j => look laws_toDisk_s j⟩
theorem laws_toDisk_f_eq (N : Nat) (x0 : ((List ByteArray) × (List (Int × ByteArray × Unit)) × Unit)) : funK laws_toDisk_E Try.f38 [.val S51] [T55] (.pair T55 .unit) (fun i => look [] i) N (x0, ()) = laws_toDisk_k N x0 := by kernel_rfl
theorem laws_toDisk_o : Known Try.prog 38 ⟨[.val S51], [T55], (.pair T55 .unit), laws_toDisk⟩ := known_of (tab := tyTab) (cons := laws_toDisk_s) (segs := []) (n := fuel) mixed_ok tab_ok (.cons laws_toStringS_o (.cons laws_toPutS_o .nil)) Try.func38 (by kernel_rfl) trivial (fun x => laws_toDisk_f_eq fuel x.1)
def impl_inRange_k (N : Nat) (x0 : Int) (x1 : Int) (x2 : Int) : Option (Unit × (Bool × Unit)) :=
  tb (ile x1 x0)
  (some ((), (ile x0 x2), ()))
  (some ((), false, ()))
def impl_inRange (x : (Int × Int × Int × Unit)) : Option (Unit × (Bool × Unit)) := impl_inRange_k fuel x.1 x.2.1 x.2.2.1
def impl_inRange_s : List (Nat × Con) := []
def impl_inRange_E : Env := ⟨fun j => (look tyTab j).getD .unit, fun j => look impl_inRange_s j⟩
theorem impl_inRange_f_eq (N : Nat) (x0 : Int) (x1 : Int) (x2 : Int) : funK impl_inRange_E Try.f73 [.val (.int .i64), .val (.int .i64), .val (.int .i64)] [.bool] (.pair .bool .unit) (fun i => look [] i) N (x0, x1, x2, ()) = impl_inRange_k N x0 x1 x2 := by kernel_rfl
theorem impl_inRange_o : Known Try.prog 73 ⟨[.val (.int .i64), .val (.int .i64), .val (.int .i64)], [.bool], (.pair .bool .unit), impl_inRange⟩ := known_of (tab := tyTab) (cons := impl_inRange_s) (segs := []) (n := fuel) mixed_ok tab_ok .nil Try.func73 (by kernel_rfl) trivial (fun x => impl_inRange_f_eq fuel x.1 x.2.1 x.2.2.1)
def impl_isSector_k (N : Nat) (x0 : Int) : Option (Unit × (Bool × Unit)) :=
  obind (impl_inRange (x0, 0, 129, ())) fun v0 =>
  some ((), v0.2.1, ())
def impl_isSector (x : (Int × Unit)) : Option (Unit × (Bool × Unit)) := impl_isSector_k fuel x.1
def impl_isSector_s : List (Nat × Con) := [(73, ⟨[.val (.int .i64), .val (.int .i64), .val (.int .i64)], [.bool], (.pair .bool .unit), impl_inRange⟩)]
def impl_isSector_E : Env := ⟨fun j => (look tyTab j).getD .unit, fun j => look impl_isSector_s j⟩
theorem impl_isSector_f_eq (N : Nat) (x0 : Int) : funK impl_isSector_E Try.f123 [.val (.int .i64)] [.bool] (.pair .bool .unit) (fun i => look [] i) N (x0, ()) = impl_isSector_k N x0 := by kernel_rfl
theorem impl_isSector_o : Known Try.prog 123 ⟨[.val (.int .i64)], [.bool], (.pair .bool .unit), impl_isSector⟩ := known_of (tab := tyTab) (cons := impl_isSector_s) (segs := []) (n := fuel) mixed_ok tab_ok (.cons impl_inRange_o .nil) Try.func123 (by kernel_rfl) trivial (fun x => impl_isSector_f_eq fuel x.1)
def impl_DiskOk_P0 : Tpl := ⟨[(1, .one (.fix (.vptr 1 0))), (8, .one (.leaf (.row false .str))), (9, .one (.leaf (.int .i64))), (10, .one (.leaf (.int .i64)))], [(1, [.leaf (.row false .str), .leaf (.row false (.pair (.int .i64) (.pair .str .unit)))])], []⟩
def impl_DiskOk_O0 : Tpl := ⟨[(1, .one (.fix (.vptr 1 0)))], [(1, [.leaf (.row false .str), .leaf (.row false (.pair (.int .i64) (.pair .str .unit)))])], []⟩
def impl_DiskOk_k0 (N : Nat) : Nat → ((Unit × ((((List ByteArray) × (List (Int × (ByteArray × Unit))) × Unit) × Unit) × Unit)) → Option (Unit × (Bool × Unit))) → (((List ByteArray) × Int × Int × Unit) × ((((List ByteArray) × (List (Int × (ByteArray × Unit))) × Unit) × Unit) × Unit)) → Option (Unit × (Bool × Unit))
  | 0, _, _ => none
  | n + 1, k, x =>
    tb (ilt x.1.2.2.1 x.1.2.1)
    (chk (0 ≤ x.1.2.2.1) (obind (at? x.1.1 (Int.toNat x.1.2.2.1)) fun v0 =>
        tb (bnot (ieq (((slen v0) : Nat) : Int) 64))
        (some ((), false, ()))
        (impl_DiskOk_k0 N n k ((x.1.1, x.1.2.1, (wr .i64 (x.1.2.2.1 + 1)), ()), ((x.2.1.1.1, x.2.1.1.2.1, ()), ()), ()))) (none))
    (k ((), ((x.2.1.1.1, x.2.1.1.2.1, ()), ()), ()))
def impl_DiskOk_P2 : Tpl := ⟨[(1, .one (.fix (.vptr 1 0))), (19, .one (.leaf (.row false (.pair (.int .i64) (.pair .str .unit))))), (20, .one (.leaf (.int .i64))), (21, .one (.leaf (.int .i64)))], [(1, [.leaf (.row false .str), .leaf (.row false (.pair (.int .i64) (.pair .str .unit)))])], []⟩
def impl_DiskOk_O2 : Tpl := ⟨[(1, .one (.fix (.vptr 1 0)))], [(1, [.leaf (.row false .str), .leaf (.row false (.pair (.int .i64) (.pair .str .unit)))])], []⟩
def impl_DiskOk_k2 (N : Nat) : Nat → ((Unit × ((((List ByteArray) × (List (Int × (ByteArray × Unit))) × Unit) × Unit) × Unit)) → Option (Unit × (Bool × Unit))) → (((List (Int × (ByteArray × Unit))) × Int × Int × Unit) × ((((List ByteArray) × (List (Int × (ByteArray × Unit))) × Unit) × Unit) × Unit)) → Option (Unit × (Bool × Unit))
  | 0, _, _ => none
  | n + 1, k, x =>
    tb (ilt x.1.2.2.1 x.1.2.1)
    (chk (0 ≤ x.1.2.2.1) (obind (at? x.1.1 (Int.toNat x.1.2.2.1)) fun v0 =>
        obind (impl_isSector (v0.1, ())) fun v1 =>
        tb (bnot v1.2.1)
        (some ((), false, ()))
        (tb (bnot (ieq (((slen v0.2.1) : Nat) : Int) 64))
          (some ((), false, ()))
          (impl_DiskOk_k2 N n k ((x.1.1, x.1.2.1, (wr .i64 (x.1.2.2.1 + 1)), ()), ((x.2.1.1.1, x.2.1.1.2.1, ()), ()), ())))) (none))
    (k ((), ((x.2.1.1.1, x.2.1.1.2.1, ()), ()), ()))
def impl_DiskOk_k (N : Nat) (x0 : ((List ByteArray) × (List (Int × ByteArray × Unit)) × Unit)) : Option (Unit × (Bool × Unit)) :=
  impl_DiskOk_k0 N N (fun v0 =>
    impl_DiskOk_k2 N N (fun v1 =>
      tb (ieq (((llen v1.2.1.1.1) : Nat) : Int) 130)
      (some ((), (ile (((llen v1.2.1.1.2.1) : Nat) : Int) 200), ()))
      (some ((), false, ()))) ((v0.2.1.1.2.1, (((llen v0.2.1.1.2.1) : Nat) : Int), 0, ()), ((v0.2.1.1.1, v0.2.1.1.2.1, ()), ()), ())) ((x0.1, (((llen x0.1) : Nat) : Int), 0, ()), ((x0.1, x0.2.1, ()), ()), ())
def impl_DiskOk (x : (((List ByteArray) × (List (Int × ByteArray × Unit)) × Unit) × Unit)) : Option (Unit × (Bool × Unit)) := impl_DiskOk_k fuel x.1
def impl_DiskOk_s : List (Nat × Con) := [(123, ⟨[.val (.int .i64)], [.bool], (.pair .bool .unit), impl_isSector⟩)]
def impl_DiskOk_E : Env := ⟨fun j => (look tyTab j).getD .unit, fun j => look impl_DiskOk_s j⟩
theorem impl_DiskOk_r0 (N n : Nat) (k : impl_DiskOk_O0.ty.den → Option (Unit × (Bool × Unit))) (x : impl_DiskOk_P0.ty.den) : roundK impl_DiskOk_E ⟨Try.f101.ntmps, N, (fun i => look [(0, ⟨impl_DiskOk_P0, impl_DiskOk_O0, [], [], impl_DiskOk_k0 N⟩), (2, ⟨impl_DiskOk_P2, impl_DiskOk_O2, [], [], impl_DiskOk_k2 N⟩)] i), retK impl_DiskOk_E Try.f101 [.val S55] [.bool] (.pair .bool .unit)⟩ (Try.f101.body.getD .skip) 0 ⟨impl_DiskOk_P0, impl_DiskOk_O0, [], [], impl_DiskOk_k0 N⟩ (impl_DiskOk_k0 N n k) k x = impl_DiskOk_k0 N (n + 1) k x := by kernel_rfl
theorem impl_DiskOk_r2 (N n : Nat) (k : impl_DiskOk_O2.ty.den → Option (Unit × (Bool × Unit))) (x : impl_DiskOk_P2.ty.den) : roundK impl_DiskOk_E ⟨Try.f101.ntmps, N, (fun i => look [(0, ⟨impl_DiskOk_P0, impl_DiskOk_O0, [], [], impl_DiskOk_k0 N⟩), (2, ⟨impl_DiskOk_P2, impl_DiskOk_O2, [], [], impl_DiskOk_k2 N⟩)] i), retK impl_DiskOk_E Try.f101 [.val S55] [.bool] (.pair .bool .unit)⟩ (Try.f101.body.getD .skip) 2 ⟨impl_DiskOk_P2, impl_DiskOk_O2, [], [], impl_DiskOk_k2 N⟩ (impl_DiskOk_k2 N n k) k x = impl_DiskOk_k2 N (n + 1) k x := by kernel_rfl
theorem impl_DiskOk_f_eq (N : Nat) (x0 : ((List ByteArray) × (List (Int × ByteArray × Unit)) × Unit)) : funK impl_DiskOk_E Try.f101 [.val S55] [.bool] (.pair .bool .unit) (fun i => look [(0, ⟨impl_DiskOk_P0, impl_DiskOk_O0, [], [], impl_DiskOk_k0 N⟩), (2, ⟨impl_DiskOk_P2, impl_DiskOk_O2, [], [], impl_DiskOk_k2 N⟩)] i) N (x0, ()) = impl_DiskOk_k N x0 := by kernel_rfl
theorem impl_DiskOk_o : Known Try.prog 101 ⟨[.val S55], [.bool], (.pair .bool .unit), impl_DiskOk⟩ := known_of (tab := tyTab) (cons := impl_DiskOk_s) (segs := [(0, ⟨impl_DiskOk_P0, impl_DiskOk_O0, [], [], impl_DiskOk_k0 fuel⟩), (2, ⟨impl_DiskOk_P2, impl_DiskOk_O2, [], [], impl_DiskOk_k2 fuel⟩)]) (n := fuel) mixed_ok tab_ok (.cons impl_isSector_o .nil) Try.func101 (by kernel_rfl) ⟨⟨fun _ _ => rfl, fun n k x => impl_DiskOk_r0 fuel n k x⟩, ⟨⟨fun _ _ => rfl, fun n k x => impl_DiskOk_r2 fuel n k x⟩, trivial⟩⟩ (fun x => impl_DiskOk_f_eq fuel x.1)
def slices_Clone_string_k (N : Nat) (x0 : (List ByteArray)) : Option (Unit × ((List ByteArray) × Unit)) :=
  agree (isNil x0)
  (some ((), [], ()))
  (chk ((plus 0 (llen x0)) ≤ 8796093022208) (some ((), (lapp [] x0), ())) (none))
def slices_Clone_string (x : ((List ByteArray) × Unit)) : Option (Unit × ((List ByteArray) × Unit)) := slices_Clone_string_k fuel x.1
def slices_Clone_string_s : List (Nat × Con) := []
def slices_Clone_string_E : Env := ⟨fun j => (look tyTab j).getD .unit, fun j => look slices_Clone_string_s j⟩
theorem slices_Clone_string_f_eq (N : Nat) (x0 : (List ByteArray)) : funK slices_Clone_string_E Try.f147 [.val (.row false .str)] [(.row true .str)] (.pair (.row true .str) .unit) (fun i => look [] i) N (x0, ()) = slices_Clone_string_k N x0 := by kernel_rfl
theorem slices_Clone_string_o : Known Try.prog 147 ⟨[.val (.row false .str)], [(.row true .str)], (.pair (.row true .str) .unit), slices_Clone_string⟩ := known_of (tab := tyTab) (cons := slices_Clone_string_s) (segs := []) (n := fuel) mixed_ok tab_ok .nil Try.func147 (by kernel_rfl) trivial (fun x => slices_Clone_string_f_eq fuel x.1)
def slices_Clone_Put_k (N : Nat) (x0 : (List (Int × ByteArray × Unit))) : Option (Unit × ((List (Int × ByteArray × Unit)) × Unit)) :=
  agree (isNil x0)
  (some ((), [], ()))
  (chk ((plus 0 (llen x0)) ≤ 5864062014805) (some ((), (lapp [] x0), ())) (none))
def slices_Clone_Put (x : ((List (Int × ByteArray × Unit)) × Unit)) : Option (Unit × ((List (Int × ByteArray × Unit)) × Unit)) := slices_Clone_Put_k fuel x.1
def slices_Clone_Put_s : List (Nat × Con) := []
def slices_Clone_Put_E : Env := ⟨fun j => (look tyTab j).getD .unit, fun j => look slices_Clone_Put_s j⟩
theorem slices_Clone_Put_f_eq (N : Nat) (x0 : (List (Int × ByteArray × Unit))) : funK slices_Clone_Put_E Try.f148 [.val (.row false S167)] [(.row true T167)] (.pair (.row true T167) .unit) (fun i => look [] i) N (x0, ()) = slices_Clone_Put_k N x0 := by kernel_rfl
theorem slices_Clone_Put_o : Known Try.prog 148 ⟨[.val (.row false S167)], [(.row true T167)], (.pair (.row true T167) .unit), slices_Clone_Put⟩ := known_of (tab := tyTab) (cons := slices_Clone_Put_s) (segs := []) (n := fuel) mixed_ok tab_ok .nil Try.func148 (by kernel_rfl) trivial (fun x => slices_Clone_Put_f_eq fuel x.1)
def impl_copyDisk_k (N : Nat) (x0 : ((List ByteArray) × (List (Int × ByteArray × Unit)) × Unit)) : Option (Unit × (((List ByteArray) × (List (Int × ByteArray × Unit)) × Unit) × Unit)) :=
  obind (slices_Clone_string (x0.1, ())) fun v0 =>
  obind (slices_Clone_Put (x0.2.1, ())) fun v1 =>
  some ((), (v0.2.1, v1.2.1, ()), ())
def impl_copyDisk (x : (((List ByteArray) × (List (Int × ByteArray × Unit)) × Unit) × Unit)) : Option (Unit × (((List ByteArray) × (List (Int × ByteArray × Unit)) × Unit) × Unit)) := impl_copyDisk_k fuel x.1
def impl_copyDisk_s : List (Nat × Con) := [(147, ⟨[.val (.row false .str)], [(.row true .str)], (.pair (.row true .str) .unit), slices_Clone_string⟩), (148, ⟨[.val (.row false S167)], [(.row true T167)], (.pair (.row true T167) .unit), slices_Clone_Put⟩)]
def impl_copyDisk_E : Env := ⟨fun j => (look tyTab j).getD .unit, fun j => look impl_copyDisk_s j⟩
theorem impl_copyDisk_f_eq (N : Nat) (x0 : ((List ByteArray) × (List (Int × ByteArray × Unit)) × Unit)) : funK impl_copyDisk_E Try.f102 [.val S55] [T55] (.pair T55 .unit) (fun i => look [] i) N (x0, ()) = impl_copyDisk_k N x0 := by kernel_rfl
theorem impl_copyDisk_o : Known Try.prog 102 ⟨[.val S55], [T55], (.pair T55 .unit), impl_copyDisk⟩ := known_of (tab := tyTab) (cons := impl_copyDisk_s) (segs := []) (n := fuel) mixed_ok tab_ok (.cons slices_Clone_string_o (.cons slices_Clone_Put_o .nil)) Try.func102 (by kernel_rfl) trivial (fun x => impl_copyDisk_f_eq fuel x.1)
def impl_Disk_sector_P0 : Tpl := ⟨[(0, .one (.leaf (.pair (.row true .str) (.pair (.row true (.pair (.int .i64) (.pair .str .unit))) .unit)))), (1, .one (.leaf (.int .i64))), (5, .one (.leaf (.int .i64)))], [], []⟩
def impl_Disk_sector_O0 : Tpl := ⟨[(0, .one (.leaf (.pair (.row true .str) (.pair (.row true (.pair (.int .i64) (.pair .str .unit))) .unit)))), (1, .one (.leaf (.int .i64)))], [], []⟩
def impl_Disk_sector_k0 (N : Nat) : Nat → (((((List ByteArray) × ((List (Int × (ByteArray × Unit))) × Unit)) × Int × Unit) × (Unit × Unit)) → Option (Unit × (ByteArray × Unit))) → ((((List ByteArray) × ((List (Int × (ByteArray × Unit))) × Unit)) × Int × Int × Unit) × (Unit × Unit)) → Option (Unit × (ByteArray × Unit))
  | 0, _, _ => none
  | n + 1, k, x =>
    tb (ile 0 x.1.2.2.1)
    (chk (0 ≤ x.1.2.2.1) (obind (at? x.1.1.2.1 (Int.toNat x.1.2.2.1)) fun v0 =>
        tb (ieq v0.1 x.1.2.1)
        (chk (0 ≤ x.1.2.2.1) (obind (at? x.1.1.2.1 (Int.toNat x.1.2.2.1)) fun v1 =>
            some ((), v1.2.1, ())) (none))
        (impl_Disk_sector_k0 N n k ((x.1.1, x.1.2.1, (wr .i64 (x.1.2.2.1 - 1)), ()), (), ()))) (none))
    (k ((x.1.1, x.1.2.1, ()), (), ()))
def impl_Disk_sector_k (N : Nat) (x0 : ((List ByteArray) × (List (Int × ByteArray × Unit)) × Unit)) (x1 : Int) : Option (Unit × (ByteArray × Unit)) :=
  impl_Disk_sector_k0 N N (fun v0 =>
    chk (0 ≤ v0.1.2.1) (obind (at? v0.1.1.1 (Int.toNat v0.1.2.1)) fun v1 =>
      some ((), v1, ())) (none)) ((x0, x1, (wr .i64 ((((llen x0.2.1) : Nat) : Int) - 1)), ()), (), ())
def impl_Disk_sector (x : (((List ByteArray) × (List (Int × ByteArray × Unit)) × Unit) × Int × Unit)) : Option (Unit × (ByteArray × Unit)) := impl_Disk_sector_k fuel x.1 x.2.1
def impl_Disk_sector_s : List (Nat × Con) := []
def impl_Disk_sector_E : Env := ⟨fun j => (look tyTab j).getD .unit, fun j => look impl_Disk_sector_s j⟩
theorem impl_Disk_sector_r0 (N n : Nat) (k : impl_Disk_sector_O0.ty.den → Option (Unit × (ByteArray × Unit))) (x : impl_Disk_sector_P0.ty.den) : roundK impl_Disk_sector_E ⟨Try.f112.ntmps, N, (fun i => look [(0, ⟨impl_Disk_sector_P0, impl_Disk_sector_O0, [], [], impl_Disk_sector_k0 N⟩)] i), retK impl_Disk_sector_E Try.f112 [.rptr T55, .val (.int .i64)] [.str] (.pair .str .unit)⟩ (Try.f112.body.getD .skip) 0 ⟨impl_Disk_sector_P0, impl_Disk_sector_O0, [], [], impl_Disk_sector_k0 N⟩ (impl_Disk_sector_k0 N n k) k x = impl_Disk_sector_k0 N (n + 1) k x := by kernel_rfl
theorem impl_Disk_sector_f_eq (N : Nat) (x0 : ((List ByteArray) × (List (Int × ByteArray × Unit)) × Unit)) (x1 : Int) : funK impl_Disk_sector_E Try.f112 [.rptr T55, .val (.int .i64)] [.str] (.pair .str .unit) (fun i => look [(0, ⟨impl_Disk_sector_P0, impl_Disk_sector_O0, [], [], impl_Disk_sector_k0 N⟩)] i) N (x0, x1, ()) = impl_Disk_sector_k N x0 x1 := by kernel_rfl
theorem impl_Disk_sector_o : Known Try.prog 112 ⟨[.rptr T55, .val (.int .i64)], [.str], (.pair .str .unit), impl_Disk_sector⟩ := known_of (tab := tyTab) (cons := impl_Disk_sector_s) (segs := [(0, ⟨impl_Disk_sector_P0, impl_Disk_sector_O0, [], [], impl_Disk_sector_k0 fuel⟩)]) (n := fuel) mixed_ok tab_ok .nil Try.func112 (by kernel_rfl) ⟨⟨fun _ _ => rfl, fun n k x => impl_Disk_sector_r0 fuel n k x⟩, trivial⟩ (fun x => impl_Disk_sector_f_eq fuel x.1 x.2.1)
def impl_isArea_k (N : Nat) (x0 : Int) : Option (Unit × (Bool × Unit)) :=
  tb (ieq x0 0)
  (some ((), true, ()))
  (some ((), (ieq x0 1), ()))
def impl_isArea (x : (Int × Unit)) : Option (Unit × (Bool × Unit)) := impl_isArea_k fuel x.1
def impl_isArea_s : List (Nat × Con) := []
def impl_isArea_E : Env := ⟨fun j => (look tyTab j).getD .unit, fun j => look impl_isArea_s j⟩
theorem impl_isArea_f_eq (N : Nat) (x0 : Int) : funK impl_isArea_E Try.f157 [.val (.int .i64)] [.bool] (.pair .bool .unit) (fun i => look [] i) N (x0, ()) = impl_isArea_k N x0 := by kernel_rfl
theorem impl_isArea_o : Known Try.prog 157 ⟨[.val (.int .i64)], [.bool], (.pair .bool .unit), impl_isArea⟩ := known_of (tab := tyTab) (cons := impl_isArea_s) (segs := []) (n := fuel) mixed_ok tab_ok .nil Try.func157 (by kernel_rfl) trivial (fun x => impl_isArea_f_eq fuel x.1)
def impl_fitsArea_k (N : Nat) (x0 : Int) (x1 : Int) (x2 : Int) : Option (Unit × (Bool × Unit)) :=
  obind (impl_isArea (x0, ())) fun v0 =>
  tb v0.2.1
  (obind (impl_inRange (x1, 0, 4096, ())) fun v1 =>
    tb v1.2.1
    (obind (impl_inRange (x2, 0, (wr .i64 (4096 - x1)), ())) fun v2 =>
      some ((), v2.2.1, ()))
    (some ((), false, ())))
  (some ((), false, ()))
def impl_fitsArea (x : (Int × Int × Int × Unit)) : Option (Unit × (Bool × Unit)) := impl_fitsArea_k fuel x.1 x.2.1 x.2.2.1
def impl_fitsArea_s : List (Nat × Con) := [(73, ⟨[.val (.int .i64), .val (.int .i64), .val (.int .i64)], [.bool], (.pair .bool .unit), impl_inRange⟩), (157, ⟨[.val (.int .i64)], [.bool], (.pair .bool .unit), impl_isArea⟩)]
def impl_fitsArea_E : Env := ⟨fun j => (look tyTab j).getD .unit, fun j => look impl_fitsArea_s j⟩
theorem impl_fitsArea_f_eq (N : Nat) (x0 : Int) (x1 : Int) (x2 : Int) : funK impl_fitsArea_E Try.f127 [.val (.int .i64), .val (.int .i64), .val (.int .i64)] [.bool] (.pair .bool .unit) (fun i => look [] i) N (x0, x1, x2, ()) = impl_fitsArea_k N x0 x1 x2 := by kernel_rfl
theorem impl_fitsArea_o : Known Try.prog 127 ⟨[.val (.int .i64), .val (.int .i64), .val (.int .i64)], [.bool], (.pair .bool .unit), impl_fitsArea⟩ := known_of (tab := tyTab) (cons := impl_fitsArea_s) (segs := []) (n := fuel) mixed_ok tab_ok (.cons impl_inRange_o (.cons impl_isArea_o .nil)) Try.func127 (by kernel_rfl) trivial (fun x => impl_fitsArea_f_eq fuel x.1 x.2.1 x.2.2.1)
def impl_first_k (N : Nat) (x0 : Int) : Option (Unit × (Int × Unit)) :=
  some ((), (wr .i64 (2 + (wr .i64 (64 * x0)))), ())
def impl_first (x : (Int × Unit)) : Option (Unit × (Int × Unit)) := impl_first_k fuel x.1
def impl_first_s : List (Nat × Con) := []
def impl_first_E : Env := ⟨fun j => (look tyTab j).getD .unit, fun j => look impl_first_s j⟩
theorem impl_first_f_eq (N : Nat) (x0 : Int) : funK impl_first_E Try.f149 [.val (.int .i64)] [(.int .i64)] (.pair (.int .i64) .unit) (fun i => look [] i) N (x0, ()) = impl_first_k N x0 := by kernel_rfl
theorem impl_first_o : Known Try.prog 149 ⟨[.val (.int .i64)], [(.int .i64)], (.pair (.int .i64) .unit), impl_first⟩ := known_of (tab := tyTab) (cons := impl_first_s) (segs := []) (n := fuel) mixed_ok tab_ok .nil Try.func149 (by kernel_rfl) trivial (fun x => impl_first_f_eq fuel x.1)
def impl_Disk_put_k (N : Nat) (x0 : ((List ByteArray) × (List (Int × ByteArray × Unit)) × Unit)) (x1 : Int) (x2 : ByteArray) : Option ((((List ByteArray) × (List (Int × ByteArray × Unit)) × Unit) × Unit) × (Bool × Unit)) :=
  obind (impl_isSector (x1, ())) fun v0 =>
  tb (bnot v0.2.1)
  (some (((x0.1, x0.2.1, ()), ()), false, ()))
  (tb (bnot (ieq (((slen x2) : Nat) : Int) 64))
    (some (((x0.1, x0.2.1, ()), ()), false, ()))
    (tb (ile 200 (((llen x0.2.1) : Nat) : Int))
      (some (((x0.1, x0.2.1, ()), ()), false, ()))
      (chk ((plus (llen x0.2.1) (llen [(x1, x2, ())])) ≤ 5864062014805) (some (((x0.1, (lapp x0.2.1 [(x1, x2, ())]), ()), ()), true, ())) (none))))
def impl_Disk_put (x : (((List ByteArray) × (List (Int × ByteArray × Unit)) × Unit) × Int × ByteArray × Unit)) : Option ((((List ByteArray) × (List (Int × ByteArray × Unit)) × Unit) × Unit) × (Bool × Unit)) := impl_Disk_put_k fuel x.1 x.2.1 x.2.2.1
def impl_Disk_put_s : List (Nat × Con) := [(123, ⟨[.val (.int .i64)], [.bool], (.pair .bool .unit), impl_isSector⟩)]
def impl_Disk_put_E : Env := ⟨fun j => (look tyTab j).getD .unit, fun j => look impl_Disk_put_s j⟩
theorem impl_Disk_put_f_eq (N : Nat) (x0 : ((List ByteArray) × (List (Int × ByteArray × Unit)) × Unit)) (x1 : Int) (x2 : ByteArray) : funK impl_Disk_put_E Try.f150 [.io T55, .val (.int .i64), .val .str] [.bool] (.pair .bool .unit) (fun i => look [] i) N (x0, x1, x2, ()) = impl_Disk_put_k N x0 x1 x2 := by kernel_rfl
theorem impl_Disk_put_o : Known Try.prog 150 ⟨[.io T55, .val (.int .i64), .val .str], [.bool], (.pair .bool .unit), impl_Disk_put⟩ := known_of (tab := tyTab) (cons := impl_Disk_put_s) (segs := []) (n := fuel) mixed_ok tab_ok (.cons impl_isSector_o .nil) Try.func150 (by kernel_rfl) trivial (fun x => impl_Disk_put_f_eq fuel x.1 x.2.1 x.2.2.1)
def impl_Disk_putArea_P0 : Tpl := ⟨[(0, .one (.fix (.vptr 900 0))), (1, .one (.leaf (.int .i64))), (2, .one (.leaf (.int .i64))), (3, .one (.leaf (.row false (.int .u8))))], [(900, [.fix (.ref 10000 [] none), .fix (.ref 10001 [] none)])], [(10000, .str), (10001, (.pair (.int .i64) (.pair .str .unit)))]⟩
def impl_Disk_putArea_O0 : Tpl := ⟨[], [(900, [.fix (.ref 10500 [] none), .fix (.ref 10501 [] none)])], [(10500, .str), (10501, (.pair (.int .i64) (.pair .str .unit)))]⟩
def impl_Disk_putArea_k0 (N : Nat) : Nat → ((Unit × ((Unit × Unit) × ((List ByteArray) × (List (Int × (ByteArray × Unit))) × Unit))) → Option ((((List ByteArray) × (List (Int × ByteArray × Unit)) × Unit) × Unit) × (Bool × Unit))) → ((Int × Int × (List Int) × Unit) × ((Unit × Unit) × ((List ByteArray) × (List (Int × (ByteArray × Unit))) × Unit))) → Option ((((List ByteArray) × (List (Int × ByteArray × Unit)) × Unit) × Unit) × (Bool × Unit))
  | 0, _, _ => none
  | n + 1, k, x =>
    tb (ilt 0 (((llen x.1.2.2.1) : Nat) : Int))
    (obind (impl_first (x.1.1, ())) fun v0 =>
      chk ((64 : Int) = 0) (none) (obind (impl_Disk_sector ((x.2.2.1, x.2.2.2.1, ()), (wr .i64 (v0.2.1 + (wr .i64 (Int.tdiv x.1.2.1 64)))), ())) fun v1 =>
        chk ((64 : Int) = 0) (none) (chk (((0 : Int) ≤ 0) ∧ ((0 ≤ (Int.tmod x.1.2.1 64)) ∧ ((Int.tmod x.1.2.1 64) ≤ (((slen v1.2.1) : Nat) : Int)))) (chk (((0 : Int) ≤ 0) ∧ ((0 ≤ (mn (((llen x.1.2.2.1) : Nat) : Int) (wr .i64 (64 - (Int.tmod x.1.2.1 64))))) ∧ ((mn (((llen x.1.2.2.1) : Nat) : Int) (wr .i64 (64 - (Int.tmod x.1.2.1 64)))) ≤ (((llen x.1.2.2.1) : Nat) : Int)))) (chk ((plus (slen (scut v1.2.1 (Int.toNat 0) (Int.toNat (Int.tmod x.1.2.1 64)))) (slen (strOf (lcut x.1.2.2.1 (Int.toNat 0) (Int.toNat (mn (((llen x.1.2.2.1) : Nat) : Int) (wr .i64 (64 - (Int.tmod x.1.2.1 64))))))))) < slim) (chk ((0 ≤ (wr .i64 ((Int.tmod x.1.2.1 64) + (mn (((llen x.1.2.2.1) : Nat) : Int) (wr .i64 (64 - (Int.tmod x.1.2.1 64))))))) ∧ (((wr .i64 ((Int.tmod x.1.2.1 64) + (mn (((llen x.1.2.2.1) : Nat) : Int) (wr .i64 (64 - (Int.tmod x.1.2.1 64)))))) ≤ (((slen v1.2.1) : Nat) : Int)) ∧ ((((slen v1.2.1) : Nat) : Int) ≤ (((slen v1.2.1) : Nat) : Int)))) (chk ((plus (slen (sapp (scut v1.2.1 (Int.toNat 0) (Int.toNat (Int.tmod x.1.2.1 64))) (strOf (lcut x.1.2.2.1 (Int.toNat 0) (Int.toNat (mn (((llen x.1.2.2.1) : Nat) : Int) (wr .i64 (64 - (Int.tmod x.1.2.1 64))))))))) (slen (scut v1.2.1 (Int.toNat (wr .i64 ((Int.tmod x.1.2.1 64) + (mn (((llen x.1.2.2.1) : Nat) : Int) (wr .i64 (64 - (Int.tmod x.1.2.1 64))))))) (Int.toNat (((slen v1.2.1) : Nat) : Int))))) < slim) (obind (impl_Disk_put ((x.2.2.1, x.2.2.2.1, ()), (wr .i64 (v0.2.1 + (wr .i64 (Int.tdiv x.1.2.1 64)))), (sapp (sapp (scut v1.2.1 (Int.toNat 0) (Int.toNat (Int.tmod x.1.2.1 64))) (strOf (lcut x.1.2.2.1 (Int.toNat 0) (Int.toNat (mn (((llen x.1.2.2.1) : Nat) : Int) (wr .i64 (64 - (Int.tmod x.1.2.1 64)))))))) (scut v1.2.1 (Int.toNat (wr .i64 ((Int.tmod x.1.2.1 64) + (mn (((llen x.1.2.2.1) : Nat) : Int) (wr .i64 (64 - (Int.tmod x.1.2.1 64))))))) (Int.toNat (((slen v1.2.1) : Nat) : Int)))), ())) fun v2 =>
                    tb (bnot v2.2.1)
                    (some (((v2.1.1.1, v2.1.1.2.1, ()), ()), false, ()))
                    (chk ((0 ≤ (mn (((llen x.1.2.2.1) : Nat) : Int) (wr .i64 (64 - (Int.tmod x.1.2.1 64))))) ∧ (((mn (((llen x.1.2.2.1) : Nat) : Int) (wr .i64 (64 - (Int.tmod x.1.2.1 64)))) ≤ (((llen x.1.2.2.1) : Nat) : Int)) ∧ ((((llen x.1.2.2.1) : Nat) : Int) ≤ (((llen x.1.2.2.1) : Nat) : Int)))) (impl_Disk_putArea_k0 N n k ((x.1.1, (wr .i64 (x.1.2.1 + (mn (((llen x.1.2.2.1) : Nat) : Int) (wr .i64 (64 - (Int.tmod x.1.2.1 64)))))), (lcut x.1.2.2.1 (Int.toNat (mn (((llen x.1.2.2.1) : Nat) : Int) (wr .i64 (64 - (Int.tmod x.1.2.1 64))))) (Int.toNat (((llen x.1.2.2.1) : Nat) : Int))), ()), ((), ()), v2.1.1.1, v2.1.1.2.1, ())) (none))) (none)) (none)) (none)) (none)) (none))))
    (k ((), ((), ()), x.2.2.1, x.2.2.2.1, ()))
def impl_Disk_putArea_k (N : Nat) (x0 : ((List ByteArray) × (List (Int × ByteArray × Unit)) × Unit)) (x1 : Int) (x2 : Int) (x3 : (List Int)) : Option ((((List ByteArray) × (List (Int × ByteArray × Unit)) × Unit) × Unit) × (Bool × Unit)) :=
  obind (impl_fitsArea (x1, x2, (((llen x3) : Nat) : Int), ())) fun v0 =>
  tb (bnot v0.2.1)
  (some (((x0.1, x0.2.1, ()), ()), false, ()))
  (impl_Disk_putArea_k0 N N (fun v1 =>
      some (((v1.2.2.1, v1.2.2.2.1, ()), ()), true, ())) ((x1, x2, x3, ()), ((), ()), x0.1, x0.2.1, ()))
def impl_Disk_putArea (x : (((List ByteArray) × (List (Int × ByteArray × Unit)) × Unit) × Int × Int × (List Int) × Unit)) : Option ((((List ByteArray) × (List (Int × ByteArray × Unit)) × Unit) × Unit) × (Bool × Unit)) := impl_Disk_putArea_k fuel x.1 x.2.1 x.2.2.1 x.2.2.2.1
def impl_Disk_putArea_s : List (Nat × Con) := [(112, ⟨[.rptr T55, .val (.int .i64)], [.str], (.pair .str .unit), impl_Disk_sector⟩), (127, ⟨[.val (.int .i64), .val (.int .i64), .val (.int .i64)], [.bool], (.pair .bool .unit), impl_fitsArea⟩), (149, ⟨[.val (.int .i64)], [(.int .i64)], (.pair (.int .i64) .unit), impl_first⟩), (150, ⟨[.io T55, .val (.int .i64), .val .str], [.bool], (.pair .bool .unit), impl_Disk_put⟩)]
def impl_Disk_putArea_E : Env := ⟨fun j => (look tyTab j).getD .unit, fun j => look impl_Disk_putArea_s j⟩
theorem impl_Disk_putArea_r0 (N n : Nat) (k : impl_Disk_putArea_O0.ty.den → Option ((((List ByteArray) × (List (Int × ByteArray × Unit)) × Unit) × Unit) × (Bool × Unit))) (x : impl_Disk_putArea_P0.ty.den) : roundK impl_Disk_putArea_E ⟨Try.f103.ntmps, N, (fun i => look [(0, ⟨impl_Disk_putArea_P0, impl_Disk_putArea_O0, [.cell 900 0 10000 .str, .cell 900 1 10001 (.pair (.int .i64) (.pair .str .unit))], [.cell 900 0 10500 .str, .cell 900 1 10501 (.pair (.int .i64) (.pair .str .unit))], impl_Disk_putArea_k0 N⟩)] i), retK impl_Disk_putArea_E Try.f103 [.io T55, .val (.int .i64), .val (.int .i64), .val (.row false (.int .u8))] [.bool] (.pair .bool .unit)⟩ (Try.f103.body.getD .skip) 0 ⟨impl_Disk_putArea_P0, impl_Disk_putArea_O0, [.cell 900 0 10000 .str, .cell 900 1 10001 (.pair (.int .i64) (.pair .str .unit))], [.cell 900 0 10500 .str, .cell 900 1 10501 (.pair (.int .i64) (.pair .str .unit))], impl_Disk_putArea_k0 N⟩ (impl_Disk_putArea_k0 N n k) k x = impl_Disk_putArea_k0 N (n + 1) k x := by kernel_rfl
theorem impl_Disk_putArea_f_eq (N : Nat) (x0 : ((List ByteArray) × (List (Int × ByteArray × Unit)) × Unit)) (x1 : Int) (x2 : Int) (x3 : (List Int)) : funK impl_Disk_putArea_E Try.f103 [.io T55, .val (.int .i64), .val (.int .i64), .val (.row false (.int .u8))] [.bool] (.pair .bool .unit) (fun i => look [(0, ⟨impl_Disk_putArea_P0, impl_Disk_putArea_O0, [.cell 900 0 10000 .str, .cell 900 1 10001 (.pair (.int .i64) (.pair .str .unit))], [.cell 900 0 10500 .str, .cell 900 1 10501 (.pair (.int .i64) (.pair .str .unit))], impl_Disk_putArea_k0 N⟩)] i) N (x0, x1, x2, x3, ()) = impl_Disk_putArea_k N x0 x1 x2 x3 := by kernel_rfl
theorem impl_Disk_putArea_o : Known Try.prog 103 ⟨[.io T55, .val (.int .i64), .val (.int .i64), .val (.row false (.int .u8))], [.bool], (.pair .bool .unit), impl_Disk_putArea⟩ := known_of (tab := tyTab) (cons := impl_Disk_putArea_s) (segs := [(0, ⟨impl_Disk_putArea_P0, impl_Disk_putArea_O0, [.cell 900 0 10000 .str, .cell 900 1 10001 (.pair (.int .i64) (.pair .str .unit))], [.cell 900 0 10500 .str, .cell 900 1 10501 (.pair (.int .i64) (.pair .str .unit))], impl_Disk_putArea_k0 fuel⟩)]) (n := fuel) mixed_ok tab_ok (.cons impl_Disk_sector_o (.cons impl_fitsArea_o (.cons impl_first_o (.cons impl_Disk_put_o .nil)))) Try.func103 (by kernel_rfl) ⟨⟨fun _ _ => rfl, fun n k x => impl_Disk_putArea_r0 fuel n k x⟩, trivial⟩ (fun x => impl_Disk_putArea_f_eq fuel x.1 x.2.1 x.2.2.1 x.2.2.2.1)
def impl_AreaPut_k (N : Nat) (x0 : ((List ByteArray) × (List (Int × ByteArray × Unit)) × Unit)) (x1 : Int) (x2 : Int) (x3 : (List Int)) : Option (Unit × (((List ByteArray) × (List (Int × ByteArray × Unit)) × Unit) × Bool × Unit)) :=
  obind (impl_DiskOk ((x0.1, x0.2.1, ()), ())) fun v0 =>
  tb (bnot v0.2.1)
  (some ((), ([], [], ()), false, ()))
  (obind (impl_copyDisk ((x0.1, x0.2.1, ()), ())) fun v1 =>
    obind (impl_Disk_putArea ((v1.2.1.1, v1.2.1.2.1, ()), x1, x2, x3, ())) fun v2 =>
    tb (bnot v2.2.1)
    (obind (impl_copyDisk ((x0.1, x0.2.1, ()), ())) fun v3 =>
      some ((), (v3.2.1.1, v3.2.1.2.1, ()), false, ()))
    (some ((), (v2.1.1.1, v2.1.1.2.1, ()), true, ())))
def impl_AreaPut (x : (((List ByteArray) × (List (Int × ByteArray × Unit)) × Unit) × Int × Int × (List Int) × Unit)) : Option (Unit × (((List ByteArray) × (List (Int × ByteArray × Unit)) × Unit) × Bool × Unit)) := impl_AreaPut_k fuel x.1 x.2.1 x.2.2.1 x.2.2.2.1
def impl_AreaPut_s : List (Nat × Con) := [(101, ⟨[.val S55], [.bool], (.pair .bool .unit), impl_DiskOk⟩), (102, ⟨[.val S55], [T55], (.pair T55 .unit), impl_copyDisk⟩), (103, ⟨[.io T55, .val (.int .i64), .val (.int .i64), .val (.row false (.int .u8))], [.bool], (.pair .bool .unit), impl_Disk_putArea⟩)]
def impl_AreaPut_E : Env := ⟨fun j => (look tyTab j).getD .unit, fun j => look impl_AreaPut_s j⟩
theorem impl_AreaPut_f_eq (N : Nat) (x0 : ((List ByteArray) × (List (Int × ByteArray × Unit)) × Unit)) (x1 : Int) (x2 : Int) (x3 : (List Int)) : funK impl_AreaPut_E Try.f39 [.val S55, .val (.int .i64), .val (.int .i64), .val (.row false (.int .u8))] [T55, .bool] (.pair T55 (.pair .bool .unit)) (fun i => look [] i) N (x0, x1, x2, x3, ()) = impl_AreaPut_k N x0 x1 x2 x3 := by kernel_rfl
theorem impl_AreaPut_o : Known Try.prog 39 ⟨[.val S55, .val (.int .i64), .val (.int .i64), .val (.row false (.int .u8))], [T55, .bool], (.pair T55 (.pair .bool .unit)), impl_AreaPut⟩ := known_of (tab := tyTab) (cons := impl_AreaPut_s) (segs := []) (n := fuel) mixed_ok tab_ok (.cons impl_DiskOk_o (.cons impl_copyDisk_o (.cons impl_Disk_putArea_o .nil))) Try.func39 (by kernel_rfl) trivial (fun x => impl_AreaPut_f_eq fuel x.1 x.2.1 x.2.2.1 x.2.2.2.1)
def laws_eqStringS_P0 : Tpl := ⟨[(0, .one (.leaf (.row false .str))), (1, .one (.leaf (.row false .str))), (5, .one (.leaf (.int .i64)))], [], []⟩
def laws_eqStringS_O0 : Tpl := ⟨[], [], []⟩
def laws_eqStringS_k0 (N : Nat) : Nat → ((Unit × (Unit × Unit)) → Option (Unit × (Bool × Unit))) → (((List ByteArray) × (List ByteArray) × Int × Unit) × (Unit × Unit)) → Option (Unit × (Bool × Unit))
  | 0, _, _ => none
  | n + 1, k, x =>
    tb (ilt x.1.2.2.1 (((llen x.1.1) : Nat) : Int))
    (chk (0 ≤ x.1.2.2.1) (obind (at? x.1.1 (Int.toNat x.1.2.2.1)) fun v0 =>
        chk (0 ≤ x.1.2.2.1) (obind (at? x.1.2.1 (Int.toNat x.1.2.2.1)) fun v1 =>
          tb (bnot (seq v0 v1))
          (some ((), false, ()))
          (laws_eqStringS_k0 N n k ((x.1.1, x.1.2.1, (wr .i64 (x.1.2.2.1 + 1)), ()), (), ()))) (none)) (none))
    (k ((), (), ()))
def laws_eqStringS_k (N : Nat) (x0 : (List ByteArray)) (x1 : (List ByteArray)) : Option (Unit × (Bool × Unit)) :=
  tb (bnot (ieq (((llen x0) : Nat) : Int) (((llen x1) : Nat) : Int)))
  (some ((), false, ()))
  (laws_eqStringS_k0 N N (fun v0 =>
      some ((), true, ())) ((x0, x1, 0, ()), (), ()))
def laws_eqStringS (x : ((List ByteArray) × (List ByteArray) × Unit)) : Option (Unit × (Bool × Unit)) := laws_eqStringS_k fuel x.1 x.2.1
def laws_eqStringS_s : List (Nat × Con) := []
def laws_eqStringS_E : Env := ⟨fun j => (look tyTab j).getD .unit, fun j => look laws_eqStringS_s j⟩
theorem laws_eqStringS_r0 (N n : Nat) (k : laws_eqStringS_O0.ty.den → Option (Unit × (Bool × Unit))) (x : laws_eqStringS_P0.ty.den) : roundK laws_eqStringS_E ⟨Try.f104.ntmps, N, (fun i => look [(0, ⟨laws_eqStringS_P0, laws_eqStringS_O0, [], [], laws_eqStringS_k0 N⟩)] i), retK laws_eqStringS_E Try.f104 [.val (.row false .str), .val (.row false .str)] [.bool] (.pair .bool .unit)⟩ (Try.f104.body.getD .skip) 0 ⟨laws_eqStringS_P0, laws_eqStringS_O0, [], [], laws_eqStringS_k0 N⟩ (laws_eqStringS_k0 N n k) k x = laws_eqStringS_k0 N (n + 1) k x := by kernel_rfl
theorem laws_eqStringS_f_eq (N : Nat) (x0 : (List ByteArray)) (x1 : (List ByteArray)) : funK laws_eqStringS_E Try.f104 [.val (.row false .str), .val (.row false .str)] [.bool] (.pair .bool .unit) (fun i => look [(0, ⟨laws_eqStringS_P0, laws_eqStringS_O0, [], [], laws_eqStringS_k0 N⟩)] i) N (x0, x1, ()) = laws_eqStringS_k N x0 x1 := by kernel_rfl
theorem laws_eqStringS_o : Known Try.prog 104 ⟨[.val (.row false .str), .val (.row false .str)], [.bool], (.pair .bool .unit), laws_eqStringS⟩ := known_of (tab := tyTab) (cons := laws_eqStringS_s) (segs := [(0, ⟨laws_eqStringS_P0, laws_eqStringS_O0, [], [], laws_eqStringS_k0 fuel⟩)]) (n := fuel) mixed_ok tab_ok .nil Try.func104 (by kernel_rfl) ⟨⟨fun _ _ => rfl, fun n k x => laws_eqStringS_r0 fuel n k x⟩, trivial⟩ (fun x => laws_eqStringS_f_eq fuel x.1 x.2.1)
def laws_eqPut_k (N : Nat) (x0 : (Int × ByteArray × Unit)) (x1 : (Int × ByteArray × Unit)) : Option (Unit × (Bool × Unit)) :=
  tb (bnot (ieq x0.1 x1.1))
  (some ((), false, ()))
  (tb (bnot (seq x0.2.1 x1.2.1))
    (some ((), false, ()))
    (some ((), true, ())))
def laws_eqPut (x : ((Int × ByteArray × Unit) × (Int × ByteArray × Unit) × Unit)) : Option (Unit × (Bool × Unit)) := laws_eqPut_k fuel x.1 x.2.1
def laws_eqPut_s : List (Nat × Con) := []
def laws_eqPut_E : Env := ⟨fun j => (look tyTab j).getD .unit, fun j => look laws_eqPut_s j⟩
theorem laws_eqPut_f_eq (N : Nat) (x0 : (Int × ByteArray × Unit)) (x1 : (Int × ByteArray × Unit)) : funK laws_eqPut_E Try.f151 [.val S167, .val S167] [.bool] (.pair .bool .unit) (fun i => look [] i) N (x0, x1, ()) = laws_eqPut_k N x0 x1 := by kernel_rfl
theorem laws_eqPut_o : Known Try.prog 151 ⟨[.val S167, .val S167], [.bool], (.pair .bool .unit), laws_eqPut⟩ := known_of (tab := tyTab) (cons := laws_eqPut_s) (segs := []) (n := fuel) mixed_ok tab_ok .nil Try.func151 (by kernel_rfl) trivial (fun x => laws_eqPut_f_eq fuel x.1 x.2.1)
def laws_eqPutS_P0 : Tpl := ⟨[(0, .one (.leaf (.row false (.pair (.int .i64) (.pair .str .unit))))), (1, .one (.leaf (.row false (.pair (.int .i64) (.pair .str .unit))))), (5, .one (.leaf (.int .i64)))], [], []⟩
def laws_eqPutS_O0 : Tpl := ⟨[], [], []⟩
def laws_eqPutS_k0 (N : Nat) : Nat → ((Unit × (Unit × Unit)) → Option (Unit × (Bool × Unit))) → (((List (Int × (ByteArray × Unit))) × (List (Int × (ByteArray × Unit))) × Int × Unit) × (Unit × Unit)) → Option (Unit × (Bool × Unit))
  | 0, _, _ => none
  | n + 1, k, x =>
    tb (ilt x.1.2.2.1 (((llen x.1.1) : Nat) : Int))
    (chk (0 ≤ x.1.2.2.1) (obind (at? x.1.1 (Int.toNat x.1.2.2.1)) fun v0 =>
        chk (0 ≤ x.1.2.2.1) (obind (at? x.1.2.1 (Int.toNat x.1.2.2.1)) fun v1 =>
          obind (laws_eqPut ((v0.1, v0.2.1, ()), (v1.1, v1.2.1, ()), ())) fun v2 =>
          tb (bnot v2.2.1)
          (some ((), false, ()))
          (laws_eqPutS_k0 N n k ((x.1.1, x.1.2.1, (wr .i64 (x.1.2.2.1 + 1)), ()), (), ()))) (none)) (none))
    (k ((), (), ()))
def laws_eqPutS_k (N : Nat) (x0 : (List (Int × ByteArray × Unit))) (x1 : (List (Int × ByteArray × Unit))) : Option (Unit × (Bool × Unit)) :=
  tb (bnot (ieq (((llen x0) : Nat) : Int) (((llen x1) : Nat) : Int)))
  (some ((), false, ()))
  (laws_eqPutS_k0 N N (fun v0 =>
      some ((), true, ())) ((x0, x1, 0, ()), (), ()))
def laws_eqPutS (x : ((List (Int × ByteArray × Unit)) × (List (Int × ByteArray × Unit)) × Unit)) : Option (Unit × (Bool × Unit)) := laws_eqPutS_k fuel x.1 x.2.1
def laws_eqPutS_s : List (Nat × Con) := [(151, ⟨[.val S167, .val S167], [.bool], (.pair .bool .unit), laws_eqPut⟩)]
def laws_eqPutS_E : Env := ⟨fun j => (look tyTab j).getD .unit, fun j => look laws_eqPutS_s j⟩
theorem laws_eqPutS_r0 (N n : Nat) (k : laws_eqPutS_O0.ty.den → Option (Unit × (Bool × Unit))) (x : laws_eqPutS_P0.ty.den) : roundK laws_eqPutS_E ⟨Try.f105.ntmps, N, (fun i => look [(0, ⟨laws_eqPutS_P0, laws_eqPutS_O0, [], [], laws_eqPutS_k0 N⟩)] i), retK laws_eqPutS_E Try.f105 [.val (.row false S167), .val (.row false S167)] [.bool] (.pair .bool .unit)⟩ (Try.f105.body.getD .skip) 0 ⟨laws_eqPutS_P0, laws_eqPutS_O0, [], [], laws_eqPutS_k0 N⟩ (laws_eqPutS_k0 N n k) k x = laws_eqPutS_k0 N (n + 1) k x := by kernel_rfl
theorem laws_eqPutS_f_eq (N : Nat) (x0 : (List (Int × ByteArray × Unit))) (x1 : (List (Int × ByteArray × Unit))) : funK laws_eqPutS_E Try.f105 [.val (.row false S167), .val (.row false S167)] [.bool] (.pair .bool .unit) (fun i => look [(0, ⟨laws_eqPutS_P0, laws_eqPutS_O0, [], [], laws_eqPutS_k0 N⟩)] i) N (x0, x1, ()) = laws_eqPutS_k N x0 x1 := by kernel_rfl
theorem laws_eqPutS_o : Known Try.prog 105 ⟨[.val (.row false S167), .val (.row false S167)], [.bool], (.pair .bool .unit), laws_eqPutS⟩ := known_of (tab := tyTab) (cons := laws_eqPutS_s) (segs := [(0, ⟨laws_eqPutS_P0, laws_eqPutS_O0, [], [], laws_eqPutS_k0 fuel⟩)]) (n := fuel) mixed_ok tab_ok (.cons laws_eqPut_o .nil) Try.func105 (by kernel_rfl) ⟨⟨fun _ _ => rfl, fun n k x => laws_eqPutS_r0 fuel n k x⟩, trivial⟩ (fun x => laws_eqPutS_f_eq fuel x.1 x.2.1)
def laws_eqDisk_k (N : Nat) (x0 : ((List ByteArray) × (List (Int × ByteArray × Unit)) × Unit)) (x1 : ((List ByteArray) × (List (Int × ByteArray × Unit)) × Unit)) : Option (Unit × (Bool × Unit)) :=
  obind (laws_eqStringS (x0.1, x1.1, ())) fun v0 =>
  tb (bnot v0.2.1)
  (some ((), false, ()))
  (obind (laws_eqPutS (x0.2.1, x1.2.1, ())) fun v1 =>
    tb (bnot v1.2.1)
    (some ((), false, ()))
    (some ((), true, ())))
def laws_eqDisk (x : (((List ByteArray) × (List (Int × ByteArray × Unit)) × Unit) × ((List ByteArray) × (List (Int × ByteArray × Unit)) × Unit) × Unit)) : Option (Unit × (Bool × Unit)) := laws_eqDisk_k fuel x.1 x.2.1
def laws_eqDisk_s : List (Nat × Con) := [(104, ⟨[.val (.row false .str), .val (.row false .str)], [.bool], (.pair .bool .unit), laws_eqStringS⟩), (105, ⟨[.val (.row false S167), .val (.row false S167)], [.bool], (.pair .bool .unit), laws_eqPutS⟩)]
def laws_eqDisk_E : Env := ⟨fun j => (look tyTab j).getD .unit, fun j => look laws_eqDisk_s j⟩
theorem laws_eqDisk_f_eq (N : Nat) (x0 : ((List ByteArray) × (List (Int × ByteArray × Unit)) × Unit)) (x1 : ((List ByteArray) × (List (Int × ByteArray × Unit)) × Unit)) : funK laws_eqDisk_E Try.f40 [.val S55, .val S55] [.bool] (.pair .bool .unit) (fun i => look [] i) N (x0, x1, ()) = laws_eqDisk_k N x0 x1 := by kernel_rfl
theorem laws_eqDisk_o : Known Try.prog 40 ⟨[.val S55, .val S55], [.bool], (.pair .bool .unit), laws_eqDisk⟩ := known_of (tab := tyTab) (cons := laws_eqDisk_s) (segs := []) (n := fuel) mixed_ok tab_ok (.cons laws_eqStringS_o (.cons laws_eqPutS_o .nil)) Try.func40 (by kernel_rfl) trivial (fun x => laws_eqDisk_f_eq fuel x.1 x.2.1)
def laws_markText_P0 : Tpl := ⟨[(0, .one (.leaf (.int .i64))), (3, .one (.leaf .str))], [], []⟩
def laws_markText_O0 : Tpl := ⟨[(3, .one (.leaf .str))], [], []⟩
def laws_markText_k0 (N : Nat) : Nat → (((ByteArray × Unit) × (Unit × Unit)) → Option (Unit × (ByteArray × Unit))) → ((Int × ByteArray × Unit) × (Unit × Unit)) → Option (Unit × (ByteArray × Unit))
  | 0, _, _ => none
  | n + 1, k, x =>
    tb (ilt 0 x.1.1)
    (chk ((10 : Int) = 0) (none) (chk ((plus (slen (strOf [(wr .u8 (wr .i64 (48 + (Int.tmod x.1.1 10))))])) (slen x.1.2.1)) < slim) (chk ((10 : Int) = 0) (none) (laws_markText_k0 N n k (((wr .i64 (Int.tdiv x.1.1 10)), (sapp (strOf [(wr .u8 (wr .i64 (48 + (Int.tmod x.1.1 10))))]) x.1.2.1), ()), (), ()))) (none)))
    (k ((x.1.2.1, ()), (), ()))
def laws_markText_k (N : Nat) (x0 : Int) : Option (Unit × (ByteArray × Unit)) :=
  tb (ile x0 0)
  (some ((), (⟨#[109, 48]⟩ : ByteArray), ()))
  (laws_markText_k0 N N (fun v0 =>
      chk ((plus (slen (⟨#[109]⟩ : ByteArray)) (slen v0.1.1)) < slim) (some ((), (sapp (⟨#[109]⟩ : ByteArray) v0.1.1), ())) (none)) ((x0, (⟨#[]⟩ : ByteArray), ()), (), ()))
def laws_markText (x : (Int × Unit)) : Option (Unit × (ByteArray × Unit)) := laws_markText_k fuel x.1
def laws_markText_s : List (Nat × Con) := []
def laws_markText_E : Env := ⟨fun j => (look tyTab j).getD .unit, fun j => look laws_markText_s j⟩
theorem laws_markText_r0 (N n : Nat) (k : laws_markText_O0.ty.den → Option (Unit × (ByteArray × Unit))) (x : laws_markText_P0.ty.den) : roundK laws_markText_E ⟨Try.f84.ntmps, N, (fun i => look [(0, ⟨laws_markText_P0, laws_markText_O0, [], [], laws_markText_k0 N⟩)] i), retK laws_markText_E Try.f84 [.val (.int .i64)] [.str] (.pair .str .unit)⟩ (Try.f84.body.getD .skip) 0 ⟨laws_markText_P0, laws_markText_O0, [], [], laws_markText_k0 N⟩ (laws_markText_k0 N n k) k x = laws_markText_k0 N (n + 1) k x := by kernel_rfl
theorem laws_markText_f_eq (N : Nat) (x0 : Int) : funK laws_markText_E Try.f84 [.val (.int .i64)] [.str] (.pair .str .unit) (fun i => look [(0, ⟨laws_markText_P0, laws_markText_O0, [], [], laws_markText_k0 N⟩)] i) N (x0, ()) = laws_markText_k N x0 := by kernel_rfl
theorem laws_markText_o : Known Try.prog 84 ⟨[.val (.int .i64)], [.str], (.pair .str .unit), laws_markText⟩ := known_of (tab := tyTab) (cons := laws_markText_s) (segs := [(0, ⟨laws_markText_P0, laws_markText_O0, [], [], laws_markText_k0 fuel⟩)]) (n := fuel) mixed_ok tab_ok .nil Try.func84 (by kernel_rfl) ⟨⟨fun _ _ => rfl, fun n k x => laws_markText_r0 fuel n k x⟩, trivial⟩ (fun x => laws_markText_f_eq fuel x.1)
def laws_markStringS_P0 : Tpl := ⟨[(0, .one (.fix (.ref 500 [] none))), (1, .one (.leaf (.int .i64))), (5, .one (.leaf (.int .i64)))], [], [(500, .str)]⟩
def laws_markStringS_O0 : Tpl := ⟨[(1, .one (.leaf (.int .i64)))], [], [(500, .str)]⟩
def laws_markStringS_k0 (N : Nat) : Nat → (((Int × Unit) × (Unit × ((List ByteArray) × Unit))) → Option (((List ByteArray) × Unit) × (Int × Unit))) → ((Int × Int × Unit) × (Unit × ((List ByteArray) × Unit))) → Option (((List ByteArray) × Unit) × (Int × Unit))
  | 0, _, _ => none
  | n + 1, k, x =>
    tb (ilt x.1.2.1 (((llen x.2.2.1) : Nat) : Int))
    (obind (laws_markText (x.1.1, ())) fun v0 =>
      chk ((0 ≤ x.1.2.1) ∧ (x.1.2.1 < (((llen x.2.2.1) : Nat) : Int))) (obind (at? x.2.2.1 (Int.toNat x.1.2.1)) fun v1 =>
        laws_markStringS_k0 N n k (((wr .i64 (x.1.1 + 1)), (wr .i64 (x.1.2.1 + 1)), ()), (), (lset x.2.2.1 (Int.toNat x.1.2.1) v0.2.1), ())) (none))
    (k ((x.1.1, ()), (), x.2.2.1, ()))
def laws_markStringS_k (N : Nat) (x0 : (List ByteArray)) (x1 : Int) : Option (((List ByteArray) × Unit) × (Int × Unit)) :=
  laws_markStringS_k0 N N (fun v0 =>
    some ((v0.2.2.1, ()), v0.1.1, ())) ((x1, 0, ()), (), x0, ())
def laws_markStringS (x : ((List ByteArray) × Int × Unit)) : Option (((List ByteArray) × Unit) × (Int × Unit)) := laws_markStringS_k fuel x.1 x.2.1
def laws_markStringS_s : List (Nat × Con) := [(84, ⟨[.val (.int .i64)], [.str], (.pair .str .unit), laws_markText⟩)]
def laws_markStringS_E : Env := ⟨fun j => (look tyTab j).getD .unit, fun j => look laws_markStringS_s j⟩
theorem laws_markStringS_r0 (N n : Nat) (k : laws_markStringS_O0.ty.den → Option (((List ByteArray) × Unit) × (Int × Unit))) (x : laws_markStringS_P0.ty.den) : roundK laws_markStringS_E ⟨Try.f106.ntmps, N, (fun i => look [(0, ⟨laws_markStringS_P0, laws_markStringS_O0, [], [], laws_markStringS_k0 N⟩)] i), retK laws_markStringS_E Try.f106 [.bor (.row true .str), .val (.int .i64)] [(.int .i64)] (.pair (.int .i64) .unit)⟩ (Try.f106.body.getD .skip) 0 ⟨laws_markStringS_P0, laws_markStringS_O0, [], [], laws_markStringS_k0 N⟩ (laws_markStringS_k0 N n k) k x = laws_markStringS_k0 N (n + 1) k x := by kernel_rfl
theorem laws_markStringS_f_eq (N : Nat) (x0 : (List ByteArray)) (x1 : Int) : funK laws_markStringS_E Try.f106 [.bor (.row true .str), .val (.int .i64)] [(.int .i64)] (.pair (.int .i64) .unit) (fun i => look [(0, ⟨laws_markStringS_P0, laws_markStringS_O0, [], [], laws_markStringS_k0 N⟩)] i) N (x0, x1, ()) = laws_markStringS_k N x0 x1 := by kernel_rfl
theorem laws_markStringS_o : Known Try.prog 106 ⟨[.bor (.row true .str), .val (.int .i64)], [(.int .i64)], (.pair (.int .i64) .unit), laws_markStringS⟩ := known_of (tab := tyTab) (cons := laws_markStringS_s) (segs := [(0, ⟨laws_markStringS_P0, laws_markStringS_O0, [], [], laws_markStringS_k0 fuel⟩)]) (n := fuel) mixed_ok tab_ok (.cons laws_markText_o .nil) Try.func106 (by kernel_rfl) ⟨⟨fun _ _ => rfl, fun n k x => laws_markStringS_r0 fuel n k x⟩, trivial⟩ (fun x => laws_markStringS_f_eq fuel x.1 x.2.1)
def laws_markPutS_P0 : Tpl := ⟨[(0, .one (.fix (.ref 500 [] none))), (1, .one (.leaf (.int .i64))), (5, .one (.leaf (.int .i64)))], [], [(500, (.pair (.int .i64) (.pair .str .unit)))]⟩
def laws_markPutS_O0 : Tpl := ⟨[(1, .one (.leaf (.int .i64)))], [], [(500, (.pair (.int .i64) (.pair .str .unit)))]⟩
def laws_markPutS_k0 (N : Nat) : Nat → (((Int × Unit) × (Unit × ((List (Int × (ByteArray × Unit))) × Unit))) → Option (((List (Int × ByteArray × Unit)) × Unit) × (Int × Unit))) → ((Int × Int × Unit) × (Unit × ((List (Int × (ByteArray × Unit))) × Unit))) → Option (((List (Int × ByteArray × Unit)) × Unit) × (Int × Unit))
  | 0, _, _ => none
  | n + 1, k, x =>
    tb (ilt x.1.2.1 (((llen x.2.2.1) : Nat) : Int))
    (chk ((0 ≤ x.1.2.1) ∧ (x.1.2.1 < (((llen x.2.2.1) : Nat) : Int))) (obind (at? x.2.2.1 (Int.toNat x.1.2.1)) fun v0 =>
        obind (laws_markText ((wr .i64 (x.1.1 + 1)), ())) fun v1 =>
        chk ((0 ≤ x.1.2.1) ∧ (x.1.2.1 < (((llen (lset x.2.2.1 (Int.toNat x.1.2.1) (x.1.1, v0.2))) : Nat) : Int))) (obind (at? (lset x.2.2.1 (Int.toNat x.1.2.1) (x.1.1, v0.2)) (Int.toNat x.1.2.1)) fun v2 =>
          laws_markPutS_k0 N n k (((wr .i64 ((wr .i64 (x.1.1 + 1)) + 1)), (wr .i64 (x.1.2.1 + 1)), ()), (), (lset (lset x.2.2.1 (Int.toNat x.1.2.1) (x.1.1, v0.2)) (Int.toNat x.1.2.1) (v2.1, v1.2.1, v2.2.2)), ())) (none)) (none))
    (k ((x.1.1, ()), (), x.2.2.1, ()))
def laws_markPutS_k (N : Nat) (x0 : (List (Int × ByteArray × Unit))) (x1 : Int) : Option (((List (Int × ByteArray × Unit)) × Unit) × (Int × Unit)) :=
  laws_markPutS_k0 N N (fun v0 =>
    some ((v0.2.2.1, ()), v0.1.1, ())) ((x1, 0, ()), (), x0, ())
def laws_markPutS (x : ((List (Int × ByteArray × Unit)) × Int × Unit)) : Option (((List (Int × ByteArray × Unit)) × Unit) × (Int × Unit)) := laws_markPutS_k fuel x.1 x.2.1
def laws_markPutS_s : List (Nat × Con) := [(84, ⟨[.val (.int .i64)], [.str], (.pair .str .unit), laws_markText⟩)]
def laws_markPutS_E : Env := ⟨fun j => (look tyTab j).getD .unit, fun j => look laws_markPutS_s j⟩
theorem laws_markPutS_r0 (N n : Nat) (k : laws_markPutS_O0.ty.den → Option (((List (Int × ByteArray × Unit)) × Unit) × (Int × Unit))) (x : laws_markPutS_P0.ty.den) : roundK laws_markPutS_E ⟨Try.f107.ntmps, N, (fun i => look [(0, ⟨laws_markPutS_P0, laws_markPutS_O0, [], [], laws_markPutS_k0 N⟩)] i), retK laws_markPutS_E Try.f107 [.bor (.row true T167), .val (.int .i64)] [(.int .i64)] (.pair (.int .i64) .unit)⟩ (Try.f107.body.getD .skip) 0 ⟨laws_markPutS_P0, laws_markPutS_O0, [], [], laws_markPutS_k0 N⟩ (laws_markPutS_k0 N n k) k x = laws_markPutS_k0 N (n + 1) k x := by kernel_rfl
theorem laws_markPutS_f_eq (N : Nat) (x0 : (List (Int × ByteArray × Unit))) (x1 : Int) : funK laws_markPutS_E Try.f107 [.bor (.row true T167), .val (.int .i64)] [(.int .i64)] (.pair (.int .i64) .unit) (fun i => look [(0, ⟨laws_markPutS_P0, laws_markPutS_O0, [], [], laws_markPutS_k0 N⟩)] i) N (x0, x1, ()) = laws_markPutS_k N x0 x1 := by kernel_rfl
theorem laws_markPutS_o : Known Try.prog 107 ⟨[.bor (.row true T167), .val (.int .i64)], [(.int .i64)], (.pair (.int .i64) .unit), laws_markPutS⟩ := known_of (tab := tyTab) (cons := laws_markPutS_s) (segs := [(0, ⟨laws_markPutS_P0, laws_markPutS_O0, [], [], laws_markPutS_k0 fuel⟩)]) (n := fuel) mixed_ok tab_ok (.cons laws_markText_o .nil) Try.func107 (by kernel_rfl) ⟨⟨fun _ _ => rfl, fun n k x => laws_markPutS_r0 fuel n k x⟩, trivial⟩ (fun x => laws_markPutS_f_eq fuel x.1 x.2.1)
def laws_markDisk_k (N : Nat) (x0 : ((List ByteArray) × (List (Int × ByteArray × Unit)) × Unit)) (x1 : Int) : Option ((((List ByteArray) × (List (Int × ByteArray × Unit)) × Unit) × Unit) × (Int × Unit)) :=
  obind (laws_markStringS (x0.1, x1, ())) fun v0 =>
  obind (laws_markPutS (x0.2.1, v0.2.1, ())) fun v1 =>
  some (((v0.1.1, v1.1.1, ()), ()), v1.2.1, ())
def laws_markDisk (x : (((List ByteArray) × (List (Int × ByteArray × Unit)) × Unit) × Int × Unit)) : Option ((((List ByteArray) × (List (Int × ByteArray × Unit)) × Unit) × Unit) × (Int × Unit)) := laws_markDisk_k fuel x.1 x.2.1
def laws_markDisk_s : List (Nat × Con) := [(106, ⟨[.bor (.row true .str), .val (.int .i64)], [(.int .i64)], (.pair (.int .i64) .unit), laws_markStringS⟩), (107, ⟨[.bor (.row true T167), .val (.int .i64)], [(.int .i64)], (.pair (.int .i64) .unit), laws_markPutS⟩)]
def laws_markDisk_E : Env := ⟨fun j => (look tyTab j).getD .unit, fun j => look laws_markDisk_s j⟩
theorem laws_markDisk_f_eq (N : Nat) (x0 : ((List ByteArray) × (List (Int × ByteArray × Unit)) × Unit)) (x1 : Int) : funK laws_markDisk_E Try.f41 [.bor T55, .val (.int .i64)] [(.int .i64)] (.pair (.int .i64) .unit) (fun i => look [] i) N (x0, x1, ()) = laws_markDisk_k N x0 x1 := by kernel_rfl
theorem laws_markDisk_o : Known Try.prog 41 ⟨[.bor T55, .val (.int .i64)], [(.int .i64)], (.pair (.int .i64) .unit), laws_markDisk⟩ := known_of (tab := tyTab) (cons := laws_markDisk_s) (segs := []) (n := fuel) mixed_ok tab_ok (.cons laws_markStringS_o (.cons laws_markPutS_o .nil)) Try.func41 (by kernel_rfl) trivial (fun x => laws_markDisk_f_eq fuel x.1 x.2.1)
def laws_heldStringS_P0 : Tpl := ⟨[(0, .one (.leaf (.row false .str))), (1, .one (.leaf (.int .i64))), (5, .one (.leaf (.int .i64)))], [], []⟩
def laws_heldStringS_O0 : Tpl := ⟨[(1, .one (.leaf (.int .i64)))], [], []⟩
def laws_heldStringS_k0 (N : Nat) : Nat → (((Int × Unit) × (Unit × Unit)) → Option (Unit × (Int × Unit))) → (((List ByteArray) × Int × Int × Unit) × (Unit × Unit)) → Option (Unit × (Int × Unit))
  | 0, _, _ => none
  | n + 1, k, x =>
    tb (ilt x.1.2.2.1 (((llen x.1.1) : Nat) : Int))
    (chk (0 ≤ x.1.2.2.1) (obind (at? x.1.1 (Int.toNat x.1.2.2.1)) fun v0 =>
        obind (laws_markText (x.1.2.1, ())) fun v1 =>
        tb (bnot (seq v0 v1.2.1))
        (some ((), (-1), ()))
        (laws_heldStringS_k0 N n k ((x.1.1, (wr .i64 (x.1.2.1 + 1)), (wr .i64 (x.1.2.2.1 + 1)), ()), (), ()))) (none))
    (k ((x.1.2.1, ()), (), ()))
def laws_heldStringS_k (N : Nat) (x0 : (List ByteArray)) (x1 : Int) : Option (Unit × (Int × Unit)) :=
  laws_heldStringS_k0 N N (fun v0 =>
    some ((), v0.1.1, ())) ((x0, x1, 0, ()), (), ())
def laws_heldStringS (x : ((List ByteArray) × Int × Unit)) : Option (Unit × (Int × Unit)) := laws_heldStringS_k fuel x.1 x.2.1
def laws_heldStringS_s : List (Nat × Con) := [(84, ⟨[.val (.int .i64)], [.str], (.pair .str .unit), laws_markText⟩)]
def laws_heldStringS_E : Env := ⟨fun j => (look tyTab j).getD .unit, fun j => look laws_heldStringS_s j⟩
theorem laws_heldStringS_r0 (N n : Nat) (k : laws_heldStringS_O0.ty.den → Option (Unit × (Int × Unit))) (x : laws_heldStringS_P0.ty.den) : roundK laws_heldStringS_E ⟨Try.f108.ntmps, N, (fun i => look [(0, ⟨laws_heldStringS_P0, laws_heldStringS_O0, [], [], laws_heldStringS_k0 N⟩)] i), retK laws_heldStringS_E Try.f108 [.val (.row false .str), .val (.int .i64)] [(.int .i64)] (.pair (.int .i64) .unit)⟩ (Try.f108.body.getD .skip) 0 ⟨laws_heldStringS_P0, laws_heldStringS_O0, [], [], laws_heldStringS_k0 N⟩ (laws_heldStringS_k0 N n k) k x = laws_heldStringS_k0 N (n + 1) k x := by kernel_rfl
theorem laws_heldStringS_f_eq (N : Nat) (x0 : (List ByteArray)) (x1 : Int) : funK laws_heldStringS_E Try.f108 [.val (.row false .str), .val (.int .i64)] [(.int .i64)] (.pair (.int .i64) .unit) (fun i => look [(0, ⟨laws_heldStringS_P0, laws_heldStringS_O0, [], [], laws_heldStringS_k0 N⟩)] i) N (x0, x1, ()) = laws_heldStringS_k N x0 x1 := by kernel_rfl
theorem laws_heldStringS_o : Known Try.prog 108 ⟨[.val (.row false .str), .val (.int .i64)], [(.int .i64)], (.pair (.int .i64) .unit), laws_heldStringS⟩ := known_of (tab := tyTab) (cons := laws_heldStringS_s) (segs := [(0, ⟨laws_heldStringS_P0, laws_heldStringS_O0, [], [], laws_heldStringS_k0 fuel⟩)]) (n := fuel) mixed_ok tab_ok (.cons laws_markText_o .nil) Try.func108 (by kernel_rfl) ⟨⟨fun _ _ => rfl, fun n k x => laws_heldStringS_r0 fuel n k x⟩, trivial⟩ (fun x => laws_heldStringS_f_eq fuel x.1 x.2.1)
def laws_heldPutS_P0 : Tpl := ⟨[(0, .one (.leaf (.row false (.pair (.int .i64) (.pair .str .unit))))), (1, .one (.leaf (.int .i64))), (5, .one (.leaf (.int .i64)))], [], []⟩
def laws_heldPutS_O0 : Tpl := ⟨[(1, .one (.leaf (.int .i64)))], [], []⟩
def laws_heldPutS_k0 (N : Nat) : Nat → (((Int × Unit) × (Unit × Unit)) → Option (Unit × (Int × Unit))) → (((List (Int × (ByteArray × Unit))) × Int × Int × Unit) × (Unit × Unit)) → Option (Unit × (Int × Unit))
  | 0, _, _ => none
  | n + 1, k, x =>
    tb (ilt x.1.2.2.1 (((llen x.1.1) : Nat) : Int))
    (chk (0 ≤ x.1.2.2.1) (obind (at? x.1.1 (Int.toNat x.1.2.2.1)) fun v0 =>
        tb (bnot (ieq v0.1 x.1.2.1))
        (some ((), (-1), ()))
        (chk (0 ≤ x.1.2.2.1) (obind (at? x.1.1 (Int.toNat x.1.2.2.1)) fun v1 =>
            obind (laws_markText ((wr .i64 (x.1.2.1 + 1)), ())) fun v2 =>
            tb (bnot (seq v1.2.1 v2.2.1))
            (some ((), (-1), ()))
            (laws_heldPutS_k0 N n k ((x.1.1, (wr .i64 ((wr .i64 (x.1.2.1 + 1)) + 1)), (wr .i64 (x.1.2.2.1 + 1)), ()), (), ()))) (none))) (none))
    (k ((x.1.2.1, ()), (), ()))
def laws_heldPutS_k (N : Nat) (x0 : (List (Int × ByteArray × Unit))) (x1 : Int) : Option (Unit × (Int × Unit)) :=
  laws_heldPutS_k0 N N (fun v0 =>
    some ((), v0.1.1, ())) ((x0, x1, 0, ()), (), ())
def laws_heldPutS (x : ((List (Int × ByteArray × Unit)) × Int × Unit)) : Option (Unit × (Int × Unit)) := laws_heldPutS_k fuel x.1 x.2.1
def laws_heldPutS_s : List (Nat × Con) := [(84, ⟨[.val (.int .i64)], [.str], (.pair .str .unit), laws_markText⟩)]
def laws_heldPutS_E : Env := ⟨fun j => (look tyTab j).getD .unit, fun j => look laws_heldPutS_s j⟩
theorem laws_heldPutS_r0 (N n : Nat) (k : laws_heldPutS_O0.ty.den → Option (Unit × (Int × Unit))) (x : laws_heldPutS_P0.ty.den) : roundK laws_heldPutS_E ⟨Try.f109.ntmps, N, (fun i => look [(0, ⟨laws_heldPutS_P0, laws_heldPutS_O0, [], [], laws_heldPutS_k0 N⟩)] i), retK laws_heldPutS_E Try.f109 [.val (.row false S167), .val (.int .i64)] [(.int .i64)] (.pair (.int .i64) .unit)⟩ (Try.f109.body.getD .skip) 0 ⟨laws_heldPutS_P0, laws_heldPutS_O0, [], [], laws_heldPutS_k0 N⟩ (laws_heldPutS_k0 N n k) k x = laws_heldPutS_k0 N (n + 1) k x := by kernel_rfl
theorem laws_heldPutS_f_eq (N : Nat) (x0 : (List (Int × ByteArray × Unit))) (x1 : Int) : funK laws_heldPutS_E Try.f109 [.val (.row false S167), .val (.int .i64)] [(.int .i64)] (.pair (.int .i64) .unit) (fun i => look [(0, ⟨laws_heldPutS_P0, laws_heldPutS_O0, [], [], laws_heldPutS_k0 N⟩)] i) N (x0, x1, ()) = laws_heldPutS_k N x0 x1 := by kernel_rfl
theorem laws_heldPutS_o : Known Try.prog 109 ⟨[.val (.row false S167), .val (.int .i64)], [(.int .i64)], (.pair (.int .i64) .unit), laws_heldPutS⟩ := known_of (tab := tyTab) (cons := laws_heldPutS_s) (segs := [(0, ⟨laws_heldPutS_P0, laws_heldPutS_O0, [], [], laws_heldPutS_k0 fuel⟩)]) (n := fuel) mixed_ok tab_ok (.cons laws_markText_o .nil) Try.func109 (by kernel_rfl) ⟨⟨fun _ _ => rfl, fun n k x => laws_heldPutS_r0 fuel n k x⟩, trivial⟩ (fun x => laws_heldPutS_f_eq fuel x.1 x.2.1)
def laws_heldDisk_k (N : Nat) (x0 : ((List ByteArray) × (List (Int × ByteArray × Unit)) × Unit)) (x1 : Int) : Option (Unit × (Int × Unit)) :=
  obind (laws_heldStringS (x0.1, x1, ())) fun v0 =>
  tb (ilt v0.2.1 0)
  (some ((), (-1), ()))
  (obind (laws_heldPutS (x0.2.1, v0.2.1, ())) fun v1 =>
    tb (ilt v1.2.1 0)
    (some ((), (-1), ()))
    (some ((), v1.2.1, ())))
def laws_heldDisk (x : (((List ByteArray) × (List (Int × ByteArray × Unit)) × Unit) × Int × Unit)) : Option (Unit × (Int × Unit)) := laws_heldDisk_k fuel x.1 x.2.1
def laws_heldDisk_s : List (Nat × Con) := [(108, ⟨[.val (.row false .str), .val (.int .i64)], [(.int .i64)], (.pair (.int .i64) .unit), laws_heldStringS⟩), (109, ⟨[.val (.row false S167), .val (.int .i64)], [(.int .i64)], (.pair (.int .i64) .unit), laws_heldPutS⟩)]
def laws_heldDisk_E : Env := ⟨fun j => (look tyTab j).getD .unit, fun j => look laws_heldDisk_s j⟩
theorem laws_heldDisk_f_eq (N : Nat) (x0 : ((List ByteArray) × (List (Int × ByteArray × Unit)) × Unit)) (x1 : Int) : funK laws_heldDisk_E Try.f42 [.val S55, .val (.int .i64)] [(.int .i64)] (.pair (.int .i64) .unit) (fun i => look [] i) N (x0, x1, ()) = laws_heldDisk_k N x0 x1 := by kernel_rfl
theorem laws_heldDisk_o : Known Try.prog 42 ⟨[.val S55, .val (.int .i64)], [(.int .i64)], (.pair (.int .i64) .unit), laws_heldDisk⟩ := known_of (tab := tyTab) (cons := laws_heldDisk_s) (segs := []) (n := fuel) mixed_ok tab_ok (.cons laws_heldStringS_o (.cons laws_heldPutS_o .nil)) Try.func42 (by kernel_rfl) trivial (fun x => laws_heldDisk_f_eq fuel x.1 x.2.1)
def laws_FnExactAreaPut_k (N : Nat) (x0 : ((List ByteArray) × (List (Int × ByteArray × Unit)) × Unit)) (x1 : Int) (x2 : Int) (x3 : (List Int)) : Option (Unit × (Bool × Unit)) :=
  tb (ilt 1048576 (((llen x3) : Nat) : Int))
  (some ((), true, ()))
  (obind (laws_szDisk ((x0.1, x0.2.1, ()), 1048576, ())) fun v0 =>
    tb (ilt v0.2.1 0)
    (some ((), true, ()))
    (obind (laws_toDisk ((x0.1, x0.2.1, ()), ())) fun v1 =>
      obind (laws_toByteS (x3, ())) fun v2 =>
      obind (spec_AreaPut ((v1.2.1.1, v1.2.1.2.1, ()), x1, x2, v2.2.1, ())) fun v3 =>
      obind (laws_toDisk ((x0.1, x0.2.1, ()), ())) fun v4 =>
      obind (laws_toByteS (x3, ())) fun v5 =>
      obind (impl_AreaPut ((v4.2.1.1, v4.2.1.2.1, ()), x1, x2, v5.2.1, ())) fun v6 =>
      obind (laws_eqDisk ((v6.2.1.1, v6.2.1.2.1, ()), (v3.2.1.1, v3.2.1.2.1, ()), ())) fun v7 =>
      tb (bnot v7.2.1)
      (some ((), false, ()))
      (tb (bnot (beq v6.2.2.1 v3.2.2.1))
        (some ((), false, ()))
        (obind (laws_toDisk ((x0.1, x0.2.1, ()), ())) fun v8 =>
          obind (laws_eqDisk ((v4.2.1.1, v4.2.1.2.1, ()), (v8.2.1.1, v8.2.1.2.1, ()), ())) fun v9 =>
          tb (bnot v9.2.1)
          (some ((), false, ()))
          (obind (laws_toByteS (x3, ())) fun v10 =>
            obind (laws_eqByteS (v5.2.1, v10.2.1, ())) fun v11 =>
            tb (bnot v11.2.1)
            (some ((), false, ()))
            (obind (laws_markDisk ((v4.2.1.1, v4.2.1.2.1, ()), 1, ())) fun v12 =>
              obind (laws_markByteS (v5.2.1, v12.2.1, ())) fun v13 =>
              tb (ilt v13.2.1 0)
              (some ((), false, ()))
              (obind (laws_eqDisk ((v6.2.1.1, v6.2.1.2.1, ()), (v3.2.1.1, v3.2.1.2.1, ()), ())) fun v14 =>
                tb (bnot v14.2.1)
                (some ((), false, ()))
                (tb (bnot (beq v6.2.2.1 v3.2.2.1))
                  (some ((), false, ()))
                  (obind (laws_markDisk ((v6.2.1.1, v6.2.1.2.1, ()), 1, ())) fun v15 =>
                    obind (laws_heldDisk ((v15.1.1.1, v15.1.1.2.1, ()), 1, ())) fun v16 =>
                    tb (ilt v16.2.1 0)
                    (some ((), false, ()))
                    (tb (bnot (ieq v16.2.1 v15.2.1))
                      (some ((), false, ()))
                      (obind (laws_toDisk ((x0.1, x0.2.1, ()), ())) fun v17 =>
                        obind (laws_toByteS (x3, ())) fun v18 =>
                        obind (impl_AreaPut ((v17.2.1.1, v17.2.1.2.1, ()), x1, x2, v18.2.1, ())) fun v19 =>
                        obind (laws_eqDisk ((v19.2.1.1, v19.2.1.2.1, ()), (v3.2.1.1, v3.2.1.2.1, ()), ())) fun v20 =>
                        tb (bnot v20.2.1)
                        (some ((), false, ()))
                        (tb (bnot (beq v19.2.2.1 v3.2.2.1))
                          (some ((), false, ()))
                          (obind (laws_heldDisk ((v15.1.1.1, v15.1.1.2.1, ()), 1, ())) fun v21 =>
                            tb (ilt v21.2.1 0)
                            (some ((), false, ()))
                            (tb (bnot (ieq v21.2.1 v15.2.1))
                              (some ((), false, ()))
                              (some ((), true, ()))))))))))))))))
def laws_FnExactAreaPut (x : (((List ByteArray) × (List (Int × ByteArray × Unit)) × Unit) × Int × Int × (List Int) × Unit)) : Option (Unit × (Bool × Unit)) := laws_FnExactAreaPut_k fuel x.1 x.2.1 x.2.2.1 x.2.2.2.1
def laws_FnExactAreaPut_s : List (Nat × Con) := [(23, ⟨[.val (.row false (.int .u8))], [(.row true (.int .u8))], (.pair (.row true (.int .u8)) .unit), laws_toByteS⟩), (25, ⟨[.val (.row false (.int .u8)), .val (.row false (.int .u8))], [.bool], (.pair .bool .unit), laws_eqByteS⟩), (26, ⟨[.bor (.row true (.int .u8)), .val (.int .i64)], [(.int .i64)], (.pair (.int .i64) .unit), laws_markByteS⟩), (36, ⟨[.val S51, .val (.int .i64)], [(.int .i64)], (.pair (.int .i64) .unit), laws_szDisk⟩), (37, ⟨[.val S55, .val (.int .i64), .val (.int .i64), .val (.row false (.int .u8))], [T55, .bool], (.pair T55 (.pair .bool .unit)), spec_AreaPut⟩), (38, ⟨[.val S51], [T55], (.pair T55 .unit), laws_toDisk⟩), (39, ⟨[.val S55, .val (.int .i64), .val (.int .i64), .val (.row false (.int .u8))], [T55, .bool], (.pair T55 (.pair .bool .unit)), impl_AreaPut⟩), (40, ⟨[.val S55, .val S55], [.bool], (.pair .bool .unit), laws_eqDisk⟩), (41, ⟨[.bor T55, .val (.int .i64)], [(.int .i64)], (.pair (.int .i64) .unit), laws_markDisk⟩), (42, ⟨[.val S55, .val (.int .i64)], [(.int .i64)], (.pair (.int .i64) .unit), laws_heldDisk⟩)]
def laws_FnExactAreaPut_E : Env := ⟨fun j => (look tyTab j).getD .unit, fun j => look laws_FnExactAreaPut_s j⟩
theorem laws_FnExactAreaPut_f_eq (N : Nat) (x0 : ((List ByteArray) × (List (Int × ByteArray × Unit)) × Unit)) (x1 : Int) (x2 : Int) (x3 : (List Int)) : funK laws_FnExactAreaPut_E Try.f6 [.val S51, .val (.int .i64), .val (.int .i64), .val (.row false (.int .u8))] [.bool] (.pair .bool .unit) (fun i => look [] i) N (x0, x1, x2, x3, ()) = laws_FnExactAreaPut_k N x0 x1 x2 x3 := by kernel_rfl
theorem laws_FnExactAreaPut_o : Known Try.prog 6 ⟨[.val S51, .val (.int .i64), .val (.int .i64), .val (.row false (.int .u8))], [.bool], (.pair .bool .unit), laws_FnExactAreaPut⟩ := known_of (tab := tyTab) (cons := laws_FnExactAreaPut_s) (segs := []) (n := fuel) mixed_ok tab_ok (.cons laws_toByteS_o (.cons laws_eqByteS_o (.cons laws_markByteS_o (.cons laws_szDisk_o (.cons spec_AreaPut_o (.cons laws_toDisk_o (.cons impl_AreaPut_o (.cons laws_eqDisk_o (.cons laws_markDisk_o (.cons laws_heldDisk_o .nil)))))))))) Try.func6 (by kernel_rfl) trivial (fun x => laws_FnExactAreaPut_f_eq fuel x.1 x.2.1 x.2.2.1 x.2.2.2.1)
def spec_PutNum_P0 : Tpl := ⟨[(0, .one (.leaf (.int .i64))), (3, .one (.fix (.ref 10000 [] none)))], [], [(10000, (.int .u8))]⟩
def spec_PutNum_O0 : Tpl := ⟨[(0, .one (.leaf (.int .i64))), (3, .one (.fix (.ref 10500 [] none)))], [], [(10500, (.int .u8))]⟩
def spec_PutNum_k0 (N : Nat) : Nat → (((Int × Unit) × (Unit × ((List Int) × Unit))) → Option (Unit × ((List Int) × Unit))) → ((Int × Unit) × (Unit × ((List Int) × Unit))) → Option (Unit × ((List Int) × Unit))
  | 0, _, _ => none
  | n + 1, k, x =>
    tb (ilt 127 x.1.1)
    (chk ((128 : Int) = 0) (none) (chk ((plus (llen x.2.2.1) (llen [(wr .u8 (wr .i64 ((Int.tmod x.1.1 128) + 128)))])) ≤ 140737488355328) (chk ((128 : Int) = 0) (none) (spec_PutNum_k0 N n k (((wr .i64 (Int.tdiv x.1.1 128)), ()), (), (lapp x.2.2.1 [(wr .u8 (wr .i64 ((Int.tmod x.1.1 128) + 128)))]), ()))) (none)))
    (k ((x.1.1, ()), (), x.2.2.1, ()))
def spec_PutNum_k (N : Nat) (x0 : Int) : Option (Unit × ((List Int) × Unit)) :=
  tb (ilt x0 0)
  (some ((), [], ()))
  (spec_PutNum_k0 N N (fun v0 =>
      chk ((plus (llen v0.2.2.1) (llen [(wr .u8 v0.1.1)])) ≤ 140737488355328) (some ((), (lapp v0.2.2.1 [(wr .u8 v0.1.1)]), ())) (none)) ((x0, ()), (), [], ()))
def spec_PutNum (x : (Int × Unit)) : Option (Unit × ((List Int) × Unit)) := spec_PutNum_k fuel x.1
def spec_PutNum_s : List (Nat × Con) := []
def spec_PutNum_E : Env := ⟨fun j => (look tyTab j).getD .unit, fun j => look spec_PutNum_s j⟩
theorem spec_PutNum_r0 (N n : Nat) (k : spec_PutNum_O0.ty.den → Option (Unit × ((List Int) × Unit))) (x : spec_PutNum_P0.ty.den) : roundK spec_PutNum_E ⟨Try.f77.ntmps, N, (fun i => look [(0, ⟨spec_PutNum_P0, spec_PutNum_O0, [.tmp 3 10000 (.int .u8)], [.tmp 3 10500 (.int .u8)], spec_PutNum_k0 N⟩)] i), retK spec_PutNum_E Try.f77 [.val (.int .i64)] [(.row true (.int .u8))] (.pair (.row true (.int .u8)) .unit)⟩ (Try.f77.body.getD .skip) 0 ⟨spec_PutNum_P0, spec_PutNum_O0, [.tmp 3 10000 (.int .u8)], [.tmp 3 10500 (.int .u8)], spec_PutNum_k0 N⟩ (spec_PutNum_k0 N n k) k x = spec_PutNum_k0 N (n + 1) k x := by kernel_rfl
theorem spec_PutNum_f_eq (N : Nat) (x0 : Int) : funK spec_PutNum_E Try.f77 [.val (.int .i64)] [(.row true (.int .u8))] (.pair (.row true (.int .u8)) .unit) (fun i => look [(0, ⟨spec_PutNum_P0, spec_PutNum_O0, [.tmp 3 10000 (.int .u8)], [.tmp 3 10500 (.int .u8)], spec_PutNum_k0 N⟩)] i) N (x0, ()) = spec_PutNum_k N x0 := by kernel_rfl
theorem spec_PutNum_o : Known Try.prog 77 ⟨[.val (.int .i64)], [(.row true (.int .u8))], (.pair (.row true (.int .u8)) .unit), spec_PutNum⟩ := known_of (tab := tyTab) (cons := spec_PutNum_s) (segs := [(0, ⟨spec_PutNum_P0, spec_PutNum_O0, [.tmp 3 10000 (.int .u8)], [.tmp 3 10500 (.int .u8)], spec_PutNum_k0 fuel⟩)]) (n := fuel) mixed_ok tab_ok .nil Try.func77 (by kernel_rfl) ⟨⟨fun _ _ => rfl, fun n k x => spec_PutNum_r0 fuel n k x⟩, trivial⟩ (fun x => spec_PutNum_f_eq fuel x.1)
def spec_l16Right_k (N : Nat) (x0 : (Int × Int × Int × Unit)) : Option (Unit × (Bool × Unit)) :=
  obind (spec_l1In (x0.1, 1, 1000000000, ())) fun v0 =>
  tb v0.2.1
  (obind (spec_l1In (x0.2.1, 0, 1, ())) fun v1 =>
    tb v1.2.1
    (obind (spec_l1In (x0.2.2.1, 0, 4096, ())) fun v2 =>
      some ((), v2.2.1, ()))
    (some ((), false, ())))
  (some ((), false, ()))
def spec_l16Right (x : ((Int × Int × Int × Unit) × Unit)) : Option (Unit × (Bool × Unit)) := spec_l16Right_k fuel x.1
def spec_l16Right_s : List (Nat × Con) := [(96, ⟨[.val (.int .i64), .val (.int .i64), .val (.int .i64)], [.bool], (.pair .bool .unit), spec_l1In⟩)]
def spec_l16Right_E : Env := ⟨fun j => (look tyTab j).getD .unit, fun j => look spec_l16Right_s j⟩
theorem spec_l16Right_f_eq (N : Nat) (x0 : (Int × Int × Int × Unit)) : funK spec_l16Right_E Try.f121 [.val S69] [.bool] (.pair .bool .unit) (fun i => look [] i) N (x0, ()) = spec_l16Right_k N x0 := by kernel_rfl
theorem spec_l16Right_o : Known Try.prog 121 ⟨[.val S69], [.bool], (.pair .bool .unit), spec_l16Right⟩ := known_of (tab := tyTab) (cons := spec_l16Right_s) (segs := []) (n := fuel) mixed_ok tab_ok (.cons spec_l1In_o .nil) Try.func121 (by kernel_rfl) trivial (fun x => spec_l16Right_f_eq fuel x.1)
def spec_HeadPack_P0 : Tpl := ⟨[(4, .one (.fix (.ref 10000 [] none)))], [], [(10000, (.int .u8))]⟩
def spec_HeadPack_O0 : Tpl := ⟨[(4, .one (.fix (.ref 10500 [] none)))], [], [(10500, (.int .u8))]⟩
def spec_HeadPack_k0 (N : Nat) : Nat → ((Unit × (Unit × ((List Int) × Unit))) → Option (Unit × (ByteArray × Bool × Unit))) → (Unit × (Unit × ((List Int) × Unit))) → Option (Unit × (ByteArray × Bool × Unit))
  | 0, _, _ => none
  | n + 1, k, x =>
    tb (ilt (((llen x.2.2.1) : Nat) : Int) 64)
    (chk ((plus (llen x.2.2.1) (llen [0])) ≤ 140737488355328) (spec_HeadPack_k0 N n k ((), (), (lapp x.2.2.1 [0]), ())) (none))
    (k ((), (), x.2.2.1, ()))
def spec_HeadPack_k (N : Nat) (x0 : (Int × Int × Int × Unit)) : Option (Unit × (ByteArray × Bool × Unit)) :=
  obind (spec_l16Right ((x0.1, x0.2.1, x0.2.2.1, ()), ())) fun v0 =>
  tb (bnot v0.2.1)
  (some ((), (⟨#[]⟩ : ByteArray), false, ()))
  (obind (spec_PutNum (x0.1, ())) fun v1 =>
    obind (spec_PutNum (x0.2.1, ())) fun v2 =>
    chk ((plus (llen v1.2.1) (llen v2.2.1)) ≤ 140737488355328) (obind (spec_PutNum (x0.2.2.1, ())) fun v3 =>
      chk ((plus (llen (lapp v1.2.1 v2.2.1)) (llen v3.2.1)) ≤ 140737488355328) (spec_HeadPack_k0 N N (fun v4 =>
          some ((), (strOf v4.2.2.1), true, ())) ((), (), (lapp (lapp v1.2.1 v2.2.1) v3.2.1), ())) (none)) (none))
def spec_HeadPack (x : ((Int × Int × Int × Unit) × Unit)) : Option (Unit × (ByteArray × Bool × Unit)) := spec_HeadPack_k fuel x.1
def spec_HeadPack_s : List (Nat × Con) := [(77, ⟨[.val (.int .i64)], [(.row true (.int .u8))], (.pair (.row true (.int .u8)) .unit), spec_PutNum⟩), (121, ⟨[.val S69], [.bool], (.pair .bool .unit), spec_l16Right⟩)]
def spec_HeadPack_E : Env := ⟨fun j => (look tyTab j).getD .unit, fun j => look spec_HeadPack_s j⟩
theorem spec_HeadPack_r0 (N n : Nat) (k : spec_HeadPack_O0.ty.den → Option (Unit × (ByteArray × Bool × Unit))) (x : spec_HeadPack_P0.ty.den) : roundK spec_HeadPack_E ⟨Try.f60.ntmps, N, (fun i => look [(0, ⟨spec_HeadPack_P0, spec_HeadPack_O0, [.tmp 4 10000 (.int .u8)], [.tmp 4 10500 (.int .u8)], spec_HeadPack_k0 N⟩)] i), retK spec_HeadPack_E Try.f60 [.val S69] [.str, .bool] (.pair .str (.pair .bool .unit))⟩ (Try.f60.body.getD .skip) 0 ⟨spec_HeadPack_P0, spec_HeadPack_O0, [.tmp 4 10000 (.int .u8)], [.tmp 4 10500 (.int .u8)], spec_HeadPack_k0 N⟩ (spec_HeadPack_k0 N n k) k x = spec_HeadPack_k0 N (n + 1) k x := by kernel_rfl
theorem spec_HeadPack_f_eq (N : Nat) (x0 : (Int × Int × Int × Unit)) : funK spec_HeadPack_E Try.f60 [.val S69] [.str, .bool] (.pair .str (.pair .bool .unit)) (fun i => look [(0, ⟨spec_HeadPack_P0, spec_HeadPack_O0, [.tmp 4 10000 (.int .u8)], [.tmp 4 10500 (.int .u8)], spec_HeadPack_k0 N⟩)] i) N (x0, ()) = spec_HeadPack_k N x0 := by kernel_rfl
theorem spec_HeadPack_o : Known Try.prog 60 ⟨[.val S69], [.str, .bool], (.pair .str (.pair .bool .unit)), spec_HeadPack⟩ := known_of (tab := tyTab) (cons := spec_HeadPack_s) (segs := [(0, ⟨spec_HeadPack_P0, spec_HeadPack_O0, [.tmp 4 10000 (.int .u8)], [.tmp 4 10500 (.int .u8)], spec_HeadPack_k0 fuel⟩)]) (n := fuel) mixed_ok tab_ok (.cons spec_PutNum_o (.cons spec_l16Right_o .nil)) Try.func60 (by kernel_rfl) ⟨⟨fun _ _ => rfl, fun n k x => spec_HeadPack_r0 fuel n k x⟩, trivial⟩ (fun x => spec_HeadPack_f_eq fuel x.1)
def spec_HeadPut_k (N : Nat) (x0 : ((List ByteArray) × (List (Int × ByteArray × Unit)) × Unit)) (x1 : (Int × Int × Int × Unit)) : Option (Unit × (((List ByteArray) × (List (Int × ByteArray × Unit)) × Unit) × Bool × Unit)) :=
  obind (spec_DiskOk ((x0.1, x0.2.1, ()), ())) fun v0 =>
  tb (bnot v0.2.1)
  (some ((), ([], [], ()), false, ()))
  (obind (spec_HeadPack ((x1.1, x1.2.1, x1.2.2.1, ()), ())) fun v1 =>
    tb (bnot v1.2.2.1)
    (obind (spec_l15Copy ((x0.1, x0.2.1, ()), ())) fun v2 =>
      some ((), (v2.2.1.1, v2.2.1.2.1, ()), false, ()))
    (chk ((2 : Int) = 0) (none) (obind (spec_DiskPut ((x0.1, x0.2.1, ()), (Int.tmod x1.1 2), v1.2.1, ())) fun v3 =>
        some ((), (v3.2.1.1, v3.2.1.2.1, ()), v3.2.2.1, ()))))
def spec_HeadPut (x : (((List ByteArray) × (List (Int × ByteArray × Unit)) × Unit) × (Int × Int × Int × Unit) × Unit)) : Option (Unit × (((List ByteArray) × (List (Int × ByteArray × Unit)) × Unit) × Bool × Unit)) := spec_HeadPut_k fuel x.1 x.2.1
def spec_HeadPut_s : List (Nat × Con) := [(60, ⟨[.val S69], [.str, .bool], (.pair .str (.pair .bool .unit)), spec_HeadPack⟩), (93, ⟨[.val S55], [.bool], (.pair .bool .unit), spec_DiskOk⟩), (94, ⟨[.val S55], [T55], (.pair T55 .unit), spec_l15Copy⟩), (98, ⟨[.val S55, .val (.int .i64), .val .str], [T55, .bool], (.pair T55 (.pair .bool .unit)), spec_DiskPut⟩)]
def spec_HeadPut_E : Env := ⟨fun j => (look tyTab j).getD .unit, fun j => look spec_HeadPut_s j⟩
theorem spec_HeadPut_f_eq (N : Nat) (x0 : ((List ByteArray) × (List (Int × ByteArray × Unit)) × Unit)) (x1 : (Int × Int × Int × Unit)) : funK spec_HeadPut_E Try.f50 [.val S55, .val S69] [T55, .bool] (.pair T55 (.pair .bool .unit)) (fun i => look [] i) N (x0, x1, ()) = spec_HeadPut_k N x0 x1 := by kernel_rfl
theorem spec_HeadPut_o : Known Try.prog 50 ⟨[.val S55, .val S69], [T55, .bool], (.pair T55 (.pair .bool .unit)), spec_HeadPut⟩ := known_of (tab := tyTab) (cons := spec_HeadPut_s) (segs := []) (n := fuel) mixed_ok tab_ok (.cons spec_HeadPack_o (.cons spec_DiskOk_o (.cons spec_l15Copy_o (.cons spec_DiskPut_o .nil)))) Try.func50 (by kernel_rfl) trivial (fun x => spec_HeadPut_f_eq fuel x.1 x.2.1)
def laws_toHead_k (N : Nat) (x0 : (Int × Int × Int × Unit)) : Option (Unit × ((Int × Int × Int × Unit) × Unit)) :=
  some ((), (x0.1, x0.2.1, x0.2.2.1, ()), ())
def laws_toHead (x : ((Int × Int × Int × Unit) × Unit)) : Option (Unit × ((Int × Int × Int × Unit) × Unit)) := laws_toHead_k fuel x.1
def laws_toHead_s : List (Nat × Con) := []
def laws_toHead_E : Env := ⟨fun j => (look tyTab j).getD .unit, fun j => look laws_toHead_s j⟩
theorem laws_toHead_f_eq (N : Nat) (x0 : (Int × Int × Int × Unit)) : funK laws_toHead_E Try.f51 [.val S73] [T69] (.pair T69 .unit) (fun i => look [] i) N (x0, ()) = laws_toHead_k N x0 := by kernel_rfl
theorem laws_toHead_o : Known Try.prog 51 ⟨[.val S73], [T69], (.pair T69 .unit), laws_toHead⟩ := known_of (tab := tyTab) (cons := laws_toHead_s) (segs := []) (n := fuel) mixed_ok tab_ok .nil Try.func51 (by kernel_rfl) trivial (fun x => laws_toHead_f_eq fuel x.1)
def impl_putNum_P0 : Tpl := ⟨[(0, .one (.fix (.ref 10000 [] none))), (1, .one (.leaf (.int .i64)))], [], [(10000, (.int .u8))]⟩
def impl_putNum_O0 : Tpl := ⟨[(0, .one (.fix (.ref 10500 [] none))), (1, .one (.leaf (.int .i64)))], [], [(10500, (.int .u8))]⟩
def impl_putNum_k0 (N : Nat) : Nat → (((Int × Unit) × (Unit × ((List Int) × Unit))) → Option (Unit × ((List Int) × Unit))) → ((Int × Unit) × (Unit × ((List Int) × Unit))) → Option (Unit × ((List Int) × Unit))
  | 0, _, _ => none
  | n + 1, k, x =>
    tb (ilt 127 x.1.1)
    (chk ((plus (llen x.2.2.1) (llen [(wr .u8 (borK .i64 128 (bandK .i64 x.1.1 127)))])) ≤ 140737488355328) (chk ((7 : Int) < 0) (none) (impl_putNum_k0 N n k (((shrK .i64 x.1.1 7), ()), (), (lapp x.2.2.1 [(wr .u8 (borK .i64 128 (bandK .i64 x.1.1 127)))]), ()))) (none))
    (k ((x.1.1, ()), (), x.2.2.1, ()))
def impl_putNum_k (N : Nat) (x0 : (List Int)) (x1 : Int) : Option (Unit × ((List Int) × Unit)) :=
  impl_putNum_k0 N N (fun v0 =>
    chk ((plus (llen v0.2.2.1) (llen [(wr .u8 v0.1.1)])) ≤ 140737488355328) (some ((), (lapp v0.2.2.1 [(wr .u8 v0.1.1)]), ())) (none)) ((x1, ()), (), x0, ())
def impl_putNum (x : ((List Int) × Int × Unit)) : Option (Unit × ((List Int) × Unit)) := impl_putNum_k fuel x.1 x.2.1
def impl_putNum_s : List (Nat × Con) := []
def impl_putNum_E : Env := ⟨fun j => (look tyTab j).getD .unit, fun j => look impl_putNum_s j⟩
theorem impl_putNum_r0 (N n : Nat) (k : impl_putNum_O0.ty.den → Option (Unit × ((List Int) × Unit))) (x : impl_putNum_P0.ty.den) : roundK impl_putNum_E ⟨Try.f75.ntmps, N, (fun i => look [(0, ⟨impl_putNum_P0, impl_putNum_O0, [.tmp 0 10000 (.int .u8)], [.tmp 0 10500 (.int .u8)], impl_putNum_k0 N⟩)] i), retK impl_putNum_E Try.f75 [.own (.row true (.int .u8)), .val (.int .i64)] [(.row true (.int .u8))] (.pair (.row true (.int .u8)) .unit)⟩ (Try.f75.body.getD .skip) 0 ⟨impl_putNum_P0, impl_putNum_O0, [.tmp 0 10000 (.int .u8)], [.tmp 0 10500 (.int .u8)], impl_putNum_k0 N⟩ (impl_putNum_k0 N n k) k x = impl_putNum_k0 N (n + 1) k x := by kernel_rfl
theorem impl_putNum_f_eq (N : Nat) (x0 : (List Int)) (x1 : Int) : funK impl_putNum_E Try.f75 [.own (.row true (.int .u8)), .val (.int .i64)] [(.row true (.int .u8))] (.pair (.row true (.int .u8)) .unit) (fun i => look [(0, ⟨impl_putNum_P0, impl_putNum_O0, [.tmp 0 10000 (.int .u8)], [.tmp 0 10500 (.int .u8)], impl_putNum_k0 N⟩)] i) N (x0, x1, ()) = impl_putNum_k N x0 x1 := by kernel_rfl
theorem impl_putNum_o : Known Try.prog 75 ⟨[.own (.row true (.int .u8)), .val (.int .i64)], [(.row true (.int .u8))], (.pair (.row true (.int .u8)) .unit), impl_putNum⟩ := known_of (tab := tyTab) (cons := impl_putNum_s) (segs := [(0, ⟨impl_putNum_P0, impl_putNum_O0, [.tmp 0 10000 (.int .u8)], [.tmp 0 10500 (.int .u8)], impl_putNum_k0 fuel⟩)]) (n := fuel) mixed_ok tab_ok .nil Try.func75 (by kernel_rfl) ⟨⟨fun _ _ => rfl, fun n k x => impl_putNum_r0 fuel n k x⟩, trivial⟩ (fun x => impl_putNum_f_eq fuel x.1 x.2.1)
def impl_headOk_k (N : Nat) (x0 : (Int × Int × Int × Unit)) : Option (Unit × (Bool × Unit)) :=
  obind (impl_inRange (x0.1, 1, 1000000000, ())) fun v0 =>
  tb v0.2.1
  (obind (impl_isArea (x0.2.1, ())) fun v1 =>
    tb v1.2.1
    (obind (impl_inRange (x0.2.2.1, 0, 4096, ())) fun v2 =>
      some ((), v2.2.1, ()))
    (some ((), false, ())))
  (some ((), false, ()))
def impl_headOk (x : ((Int × Int × Int × Unit) × Unit)) : Option (Unit × (Bool × Unit)) := impl_headOk_k fuel x.1
def impl_headOk_s : List (Nat × Con) := [(73, ⟨[.val (.int .i64), .val (.int .i64), .val (.int .i64)], [.bool], (.pair .bool .unit), impl_inRange⟩), (157, ⟨[.val (.int .i64)], [.bool], (.pair .bool .unit), impl_isArea⟩)]
def impl_headOk_E : Env := ⟨fun j => (look tyTab j).getD .unit, fun j => look impl_headOk_s j⟩
theorem impl_headOk_f_eq (N : Nat) (x0 : (Int × Int × Int × Unit)) : funK impl_headOk_E Try.f119 [.val S69] [.bool] (.pair .bool .unit) (fun i => look [] i) N (x0, ()) = impl_headOk_k N x0 := by kernel_rfl
theorem impl_headOk_o : Known Try.prog 119 ⟨[.val S69], [.bool], (.pair .bool .unit), impl_headOk⟩ := known_of (tab := tyTab) (cons := impl_headOk_s) (segs := []) (n := fuel) mixed_ok tab_ok (.cons impl_inRange_o (.cons impl_isArea_o .nil)) Try.func119 (by kernel_rfl) trivial (fun x => impl_headOk_f_eq fuel x.1)
def impl_HeadPack_k (N : Nat) (x0 : (Int × Int × Int × Unit)) : Option (Unit × (ByteArray × Bool × Unit)) :=
  obind (impl_headOk ((x0.1, x0.2.1, x0.2.2.1, ()), ())) fun v0 =>
  tb (bnot v0.2.1)
  (some ((), (⟨#[]⟩ : ByteArray), false, ()))
  (obind (impl_putNum ([], x0.1, ())) fun v1 =>
    obind (impl_putNum (v1.2.1, x0.2.1, ())) fun v2 =>
    obind (impl_putNum (v2.2.1, x0.2.2.1, ())) fun v3 =>
    obind (strings_Repeat ((⟨#[0]⟩ : ByteArray), (wr .i64 (64 - (((llen v3.2.1) : Nat) : Int))), ())) fun v4 =>
    chk ((plus (slen (strOf v3.2.1)) (slen v4.2.1)) < slim) (some ((), (sapp (strOf v3.2.1) v4.2.1), true, ())) (none))
def impl_HeadPack (x : ((Int × Int × Int × Unit) × Unit)) : Option (Unit × (ByteArray × Bool × Unit)) := impl_HeadPack_k fuel x.1
def impl_HeadPack_s : List (Nat × Con) := [(75, ⟨[.own (.row true (.int .u8)), .val (.int .i64)], [(.row true (.int .u8))], (.pair (.row true (.int .u8)) .unit), impl_putNum⟩), (119, ⟨[.val S69], [.bool], (.pair .bool .unit), impl_headOk⟩), (120, ⟨[.val .str, .val (.int .i64)], [.str], (.pair .str .unit), strings_Repeat⟩)]
def impl_HeadPack_E : Env := ⟨fun j => (look tyTab j).getD .unit, fun j => look impl_HeadPack_s j⟩
theorem impl_HeadPack_f_eq (N : Nat) (x0 : (Int × Int × Int × Unit)) : funK impl_HeadPack_E Try.f59 [.val S69] [.str, .bool] (.pair .str (.pair .bool .unit)) (fun i => look [] i) N (x0, ()) = impl_HeadPack_k N x0 := by kernel_rfl
theorem impl_HeadPack_o : Known Try.prog 59 ⟨[.val S69], [.str, .bool], (.pair .str (.pair .bool .unit)), impl_HeadPack⟩ := known_of (tab := tyTab) (cons := impl_HeadPack_s) (segs := []) (n := fuel) mixed_ok tab_ok (.cons impl_putNum_o (.cons impl_headOk_o (.cons strings_Repeat_o .nil))) Try.func59 (by kernel_rfl) trivial (fun x => impl_HeadPack_f_eq fuel x.1)
def impl_Disk_putHead_k (N : Nat) (x0 : ((List ByteArray) × (List (Int × ByteArray × Unit)) × Unit)) (x1 : (Int × Int × Int × Unit)) : Option ((((List ByteArray) × (List (Int × ByteArray × Unit)) × Unit) × Unit) × (Bool × Unit)) :=
  obind (impl_HeadPack ((x1.1, x1.2.1, x1.2.2.1, ()), ())) fun v0 =>
  tb v0.2.2.1
  (chk ((2 : Int) = 0) (none) (obind (impl_Disk_put ((x0.1, x0.2.1, ()), (Int.tmod x1.1 2), v0.2.1, ())) fun v1 =>
      some (((v1.1.1.1, v1.1.1.2.1, ()), ()), v1.2.1, ())))
  (some (((x0.1, x0.2.1, ()), ()), false, ()))
def impl_Disk_putHead (x : (((List ByteArray) × (List (Int × ByteArray × Unit)) × Unit) × (Int × Int × Int × Unit) × Unit)) : Option ((((List ByteArray) × (List (Int × ByteArray × Unit)) × Unit) × Unit) × (Bool × Unit)) := impl_Disk_putHead_k fuel x.1 x.2.1
def impl_Disk_putHead_s : List (Nat × Con) := [(59, ⟨[.val S69], [.str, .bool], (.pair .str (.pair .bool .unit)), impl_HeadPack⟩), (150, ⟨[.io T55, .val (.int .i64), .val .str], [.bool], (.pair .bool .unit), impl_Disk_put⟩)]
def impl_Disk_putHead_E : Env := ⟨fun j => (look tyTab j).getD .unit, fun j => look impl_Disk_putHead_s j⟩
theorem impl_Disk_putHead_f_eq (N : Nat) (x0 : ((List ByteArray) × (List (Int × ByteArray × Unit)) × Unit)) (x1 : (Int × Int × Int × Unit)) : funK impl_Disk_putHead_E Try.f113 [.io T55, .val S69] [.bool] (.pair .bool .unit) (fun i => look [] i) N (x0, x1, ()) = impl_Disk_putHead_k N x0 x1 := by kernel_rfl
theorem impl_Disk_putHead_o : Known Try.prog 113 ⟨[.io T55, .val S69], [.bool], (.pair .bool .unit), impl_Disk_putHead⟩ := known_of (tab := tyTab) (cons := impl_Disk_putHead_s) (segs := []) (n := fuel) mixed_ok tab_ok (.cons impl_HeadPack_o (.cons impl_Disk_put_o .nil)) Try.func113 (by kernel_rfl) trivial (fun x => impl_Disk_putHead_f_eq fuel x.1 x.2.1)
def impl_HeadPut_k (N : Nat) (x0 : ((List ByteArray) × (List (Int × ByteArray × Unit)) × Unit)) (x1 : (Int × Int × Int × Unit)) : Option (Unit × (((List ByteArray) × (List (Int × ByteArray × Unit)) × Unit) × Bool × Unit)) :=
  obind (impl_DiskOk ((x0.1, x0.2.1, ()), ())) fun v0 =>
  tb (bnot v0.2.1)
  (some ((), ([], [], ()), false, ()))
  (obind (impl_copyDisk ((x0.1, x0.2.1, ()), ())) fun v1 =>
    obind (impl_Disk_putHead ((v1.2.1.1, v1.2.1.2.1, ()), (x1.1, x1.2.1, x1.2.2.1, ()), ())) fun v2 =>
    some ((), (v2.1.1.1, v2.1.1.2.1, ()), v2.2.1, ()))
def impl_HeadPut (x : (((List ByteArray) × (List (Int × ByteArray × Unit)) × Unit) × (Int × Int × Int × Unit) × Unit)) : Option (Unit × (((List ByteArray) × (List (Int × ByteArray × Unit)) × Unit) × Bool × Unit)) := impl_HeadPut_k fuel x.1 x.2.1
def impl_HeadPut_s : List (Nat × Con) := [(101, ⟨[.val S55], [.bool], (.pair .bool .unit), impl_DiskOk⟩), (102, ⟨[.val S55], [T55], (.pair T55 .unit), impl_copyDisk⟩), (113, ⟨[.io T55, .val S69], [.bool], (.pair .bool .unit), impl_Disk_putHead⟩)]
def impl_HeadPut_E : Env := ⟨fun j => (look tyTab j).getD .unit, fun j => look impl_HeadPut_s j⟩
theorem impl_HeadPut_f_eq (N : Nat) (x0 : ((List ByteArray) × (List (Int × ByteArray × Unit)) × Unit)) (x1 : (Int × Int × Int × Unit)) : funK impl_HeadPut_E Try.f52 [.val S55, .val S69] [T55, .bool] (.pair T55 (.pair .bool .unit)) (fun i => look [] i) N (x0, x1, ()) = impl_HeadPut_k N x0 x1 := by kernel_rfl
theorem impl_HeadPut_o : Known Try.prog 52 ⟨[.val S55, .val S69], [T55, .bool], (.pair T55 (.pair .bool .unit)), impl_HeadPut⟩ := known_of (tab := tyTab) (cons := impl_HeadPut_s) (segs := []) (n := fuel) mixed_ok tab_ok (.cons impl_DiskOk_o (.cons impl_copyDisk_o (.cons impl_Disk_putHead_o .nil))) Try.func52 (by kernel_rfl) trivial (fun x => impl_HeadPut_f_eq fuel x.1 x.2.1)
def laws_FnExactHeadPut_k (N : Nat) (x0 : ((List ByteArray) × (List (Int × ByteArray × Unit)) × Unit)) (x1 : (Int × Int × Int × Unit)) : Option (Unit × (Bool × Unit)) :=
  obind (laws_szDisk ((x0.1, x0.2.1, ()), 1048576, ())) fun v0 =>
  tb (ilt v0.2.1 0)
  (some ((), true, ()))
  (obind (laws_toDisk ((x0.1, x0.2.1, ()), ())) fun v1 =>
    obind (laws_toHead ((x1.1, x1.2.1, x1.2.2.1, ()), ())) fun v2 =>
    obind (spec_HeadPut ((v1.2.1.1, v1.2.1.2.1, ()), (v2.2.1.1, v2.2.1.2.1, v2.2.1.2.2.1, ()), ())) fun v3 =>
    obind (laws_toDisk ((x0.1, x0.2.1, ()), ())) fun v4 =>
    obind (laws_toHead ((x1.1, x1.2.1, x1.2.2.1, ()), ())) fun v5 =>
    obind (impl_HeadPut ((v4.2.1.1, v4.2.1.2.1, ()), (v5.2.1.1, v5.2.1.2.1, v5.2.1.2.2.1, ()), ())) fun v6 =>
    obind (laws_eqDisk ((v6.2.1.1, v6.2.1.2.1, ()), (v3.2.1.1, v3.2.1.2.1, ()), ())) fun v7 =>
    tb (bnot v7.2.1)
    (some ((), false, ()))
    (tb (bnot (beq v6.2.2.1 v3.2.2.1))
      (some ((), false, ()))
      (obind (laws_toDisk ((x0.1, x0.2.1, ()), ())) fun v8 =>
        obind (laws_eqDisk ((v4.2.1.1, v4.2.1.2.1, ()), (v8.2.1.1, v8.2.1.2.1, ()), ())) fun v9 =>
        tb (bnot v9.2.1)
        (some ((), false, ()))
        (obind (laws_markDisk ((v4.2.1.1, v4.2.1.2.1, ()), 1, ())) fun v10 =>
          tb (ilt v10.2.1 0)
          (some ((), false, ()))
          (obind (laws_eqDisk ((v6.2.1.1, v6.2.1.2.1, ()), (v3.2.1.1, v3.2.1.2.1, ()), ())) fun v11 =>
            tb (bnot v11.2.1)
            (some ((), false, ()))
            (tb (bnot (beq v6.2.2.1 v3.2.2.1))
              (some ((), false, ()))
              (obind (laws_markDisk ((v6.2.1.1, v6.2.1.2.1, ()), 1, ())) fun v12 =>
                obind (laws_heldDisk ((v12.1.1.1, v12.1.1.2.1, ()), 1, ())) fun v13 =>
                tb (ilt v13.2.1 0)
                (some ((), false, ()))
                (tb (bnot (ieq v13.2.1 v12.2.1))
                  (some ((), false, ()))
                  (obind (laws_toDisk ((x0.1, x0.2.1, ()), ())) fun v14 =>
                    obind (laws_toHead ((x1.1, x1.2.1, x1.2.2.1, ()), ())) fun v15 =>
                    obind (impl_HeadPut ((v14.2.1.1, v14.2.1.2.1, ()), (v15.2.1.1, v15.2.1.2.1, v15.2.1.2.2.1, ()), ())) fun v16 =>
                    obind (laws_eqDisk ((v16.2.1.1, v16.2.1.2.1, ()), (v3.2.1.1, v3.2.1.2.1, ()), ())) fun v17 =>
                    tb (bnot v17.2.1)
                    (some ((), false, ()))
                    (tb (bnot (beq v16.2.2.1 v3.2.2.1))
                      (some ((), false, ()))
                      (obind (laws_heldDisk ((v12.1.1.1, v12.1.1.2.1, ()), 1, ())) fun v18 =>
                        tb (ilt v18.2.1 0)
                        (some ((), false, ()))
                        (tb (bnot (ieq v18.2.1 v12.2.1))
                          (some ((), false, ()))
                          (some ((), true, ()))))))))))))))
def laws_FnExactHeadPut (x : (((List ByteArray) × (List (Int × ByteArray × Unit)) × Unit) × (Int × Int × Int × Unit) × Unit)) : Option (Unit × (Bool × Unit)) := laws_FnExactHeadPut_k fuel x.1 x.2.1
def laws_FnExactHeadPut_s : List (Nat × Con) := [(36, ⟨[.val S51, .val (.int .i64)], [(.int .i64)], (.pair (.int .i64) .unit), laws_szDisk⟩), (38, ⟨[.val S51], [T55], (.pair T55 .unit), laws_toDisk⟩), (40, ⟨[.val S55, .val S55], [.bool], (.pair .bool .unit), laws_eqDisk⟩), (41, ⟨[.bor T55, .val (.int .i64)], [(.int .i64)], (.pair (.int .i64) .unit), laws_markDisk⟩), (42, ⟨[.val S55, .val (.int .i64)], [(.int .i64)], (.pair (.int .i64) .unit), laws_heldDisk⟩), (50, ⟨[.val S55, .val S69], [T55, .bool], (.pair T55 (.pair .bool .unit)), spec_HeadPut⟩), (51, ⟨[.val S73], [T69], (.pair T69 .unit), laws_toHead⟩), (52, ⟨[.val S55, .val S69], [T55, .bool], (.pair T55 (.pair .bool .unit)), impl_HeadPut⟩)]
def laws_FnExactHeadPut_E : Env := ⟨fun j => (look tyTab j).getD .unit, fun j => look laws_FnExactHeadPut_s j⟩
theorem laws_FnExactHeadPut_f_eq (N : Nat) (x0 : ((List ByteArray) × (List (Int × ByteArray × Unit)) × Unit)) (x1 : (Int × Int × Int × Unit)) : funK laws_FnExactHeadPut_E Try.f9 [.val S51, .val S73] [.bool] (.pair .bool .unit) (fun i => look [] i) N (x0, x1, ()) = laws_FnExactHeadPut_k N x0 x1 := by kernel_rfl
theorem laws_FnExactHeadPut_o : Known Try.prog 9 ⟨[.val S51, .val S73], [.bool], (.pair .bool .unit), laws_FnExactHeadPut⟩ := known_of (tab := tyTab) (cons := laws_FnExactHeadPut_s) (segs := []) (n := fuel) mixed_ok tab_ok (.cons laws_szDisk_o (.cons laws_toDisk_o (.cons laws_eqDisk_o (.cons laws_markDisk_o (.cons laws_heldDisk_o (.cons spec_HeadPut_o (.cons laws_toHead_o (.cons impl_HeadPut_o .nil)))))))) Try.func9 (by kernel_rfl) trivial (fun x => laws_FnExactHeadPut_f_eq fuel x.1 x.2.1)
def spec_l15Zeros_k (N : Nat)  : Option (Unit × (ByteArray × Unit)) :=
  chk (((0 : Int) ≤ 64) ∧ (((64 : Int) ≤ 64) ∧ ((Int.toNat 64) ≤ 140737488355328))) (some ((), (strOf (lrep (Int.toNat 64) (0 : Int))), ())) (none)
def spec_l15Zeros (x : Unit) : Option (Unit × (ByteArray × Unit)) := spec_l15Zeros_k fuel 
def spec_l15Zeros_s : List (Nat × Con) := []
def spec_l15Zeros_E : Env := ⟨fun j => (look tyTab j).getD .unit, fun j => look spec_l15Zeros_s j⟩
theorem spec_l15Zeros_f_eq (N : Nat)  : funK spec_l15Zeros_E Try.f152 [] [.str] (.pair .str .unit) (fun i => look [] i) N () = spec_l15Zeros_k N  := by kernel_rfl
theorem spec_l15Zeros_o : Known Try.prog 152 ⟨[], [.str], (.pair .str .unit), spec_l15Zeros⟩ := known_of (tab := tyTab) (cons := spec_l15Zeros_s) (segs := []) (n := fuel) mixed_ok tab_ok .nil Try.func152 (by kernel_rfl) trivial (fun x => spec_l15Zeros_f_eq fuel )
def spec_DiskNew_P0 : Tpl := ⟨[(0, .one (.fix (.vptr 0 0))), (1, .one (.fix (.vptr 1 0))), (2, .one (.leaf (.int .i64)))], [(0, [.fix .nil, .fix .nil]), (1, [.fix (.ref 10000 [] none), .fix .nil])], [(10000, .str)]⟩
def spec_DiskNew_O0 : Tpl := ⟨[(0, .one (.fix (.vptr 0 0))), (1, .one (.fix (.vptr 1 0)))], [(0, [.fix .nil, .fix .nil]), (1, [.fix (.ref 10500 [] none), .fix .nil])], [(10500, .str)]⟩
def spec_DiskNew_k0 (N : Nat) : Nat → ((Unit × ((Unit × Unit × Unit) × ((List ByteArray) × Unit))) → Option (Unit × (((List ByteArray) × (List (Int × ByteArray × Unit)) × Unit) × Unit))) → ((Int × Unit) × ((Unit × Unit × Unit) × ((List ByteArray) × Unit))) → Option (Unit × (((List ByteArray) × (List (Int × ByteArray × Unit)) × Unit) × Unit))
  | 0, _, _ => none
  | n + 1, k, x =>
    tb (ilt x.1.1 130)
    (obind (spec_l15Zeros ()) fun v0 =>
      chk ((plus (llen x.2.2.1) (llen [v0.2.1])) ≤ 8796093022208) (spec_DiskNew_k0 N n k (((wr .i64 (x.1.1 + 1)), ()), ((), (), ()), (lapp x.2.2.1 [v0.2.1]), ())) (none))
    (k ((), ((), (), ()), x.2.2.1, ()))
def spec_DiskNew_k (N : Nat)  : Option (Unit × (((List ByteArray) × (List (Int × ByteArray × Unit)) × Unit) × Unit)) :=
  spec_DiskNew_k0 N N (fun v0 =>
    some ((), (v0.2.2.1, [], ()), ())) ((0, ()), ((), (), ()), [], ())
def spec_DiskNew (x : Unit) : Option (Unit × (((List ByteArray) × (List (Int × ByteArray × Unit)) × Unit) × Unit)) := spec_DiskNew_k fuel 
def spec_DiskNew_s : List (Nat × Con) := [(152, ⟨[], [.str], (.pair .str .unit), spec_l15Zeros⟩)]
def spec_DiskNew_E : Env := ⟨fun j => (look tyTab j).getD .unit, fun j => look spec_DiskNew_s j⟩
theorem spec_DiskNew_r0 (N n : Nat) (k : spec_DiskNew_O0.ty.den → Option (Unit × (((List ByteArray) × (List (Int × ByteArray × Unit)) × Unit) × Unit))) (x : spec_DiskNew_P0.ty.den) : roundK spec_DiskNew_E ⟨Try.f114.ntmps, N, (fun i => look [(0, ⟨spec_DiskNew_P0, spec_DiskNew_O0, [.cell 1 0 10000 .str], [.cell 1 0 10500 .str], spec_DiskNew_k0 N⟩)] i), retK spec_DiskNew_E Try.f114 [] [T55] (.pair T55 .unit)⟩ (Try.f114.body.getD .skip) 0 ⟨spec_DiskNew_P0, spec_DiskNew_O0, [.cell 1 0 10000 .str], [.cell 1 0 10500 .str], spec_DiskNew_k0 N⟩ (spec_DiskNew_k0 N n k) k x = spec_DiskNew_k0 N (n + 1) k x := by kernel_rfl
theorem spec_DiskNew_f_eq (N : Nat)  : funK spec_DiskNew_E Try.f114 [] [T55] (.pair T55 .unit) (fun i => look [(0, ⟨spec_DiskNew_P0, spec_DiskNew_O0, [.cell 1 0 10000 .str], [.cell 1 0 10500 .str], spec_DiskNew_k0 N⟩)] i) N () = spec_DiskNew_k N  := by kernel_rfl
theorem spec_DiskNew_o : Known Try.prog 114 ⟨[], [T55], (.pair T55 .unit), spec_DiskNew⟩ := known_of (tab := tyTab) (cons := spec_DiskNew_s) (segs := [(0, ⟨spec_DiskNew_P0, spec_DiskNew_O0, [.cell 1 0 10000 .str], [.cell 1 0 10500 .str], spec_DiskNew_k0 fuel⟩)]) (n := fuel) mixed_ok tab_ok (.cons spec_l15Zeros_o .nil) Try.func114 (by kernel_rfl) ⟨⟨fun _ _ => rfl, fun n k x => spec_DiskNew_r0 fuel n k x⟩, trivial⟩ (fun x => spec_DiskNew_f_eq fuel )
def spec_l15Done_P0 : Tpl := ⟨[(1, .one (.leaf (.int .i64))), (2, .one (.fix (.vptr 2 0))), (4, .one (.fix (.vptr 4 0))), (5, .one (.fix (.vptr 5 0))), (6, .one (.leaf (.int .i64)))], [(2, [.leaf (.row false .str), .leaf (.row false (.pair (.int .i64) (.pair .str .unit)))]), (4, [.fix .nil, .fix .nil]), (5, [.fix (.ref 10000 [] none), .fix .nil])], [(10000, .str)]⟩
def spec_l15Done_O0 : Tpl := ⟨[(4, .one (.fix (.vptr 4 0))), (5, .one (.fix (.vptr 5 0)))], [(4, [.fix .nil, .fix .nil]), (5, [.fix (.ref 10500 [] none), .fix .nil])], [(10500, .str)]⟩
def spec_l15Done_k0 (N : Nat) : Nat → ((Unit × ((Unit × Unit × Unit) × ((List ByteArray) × Unit))) → Option (Unit × (((List ByteArray) × (List (Int × ByteArray × Unit)) × Unit) × Unit))) → ((Int × Int × Unit) × ((((List ByteArray) × (List (Int × (ByteArray × Unit))) × Unit) × Unit × Unit × Unit) × ((List ByteArray) × Unit))) → Option (Unit × (((List ByteArray) × (List (Int × ByteArray × Unit)) × Unit) × Unit))
  | 0, _, _ => none
  | n + 1, k, x =>
    tb (ilt x.1.2.1 (((llen x.2.1.1.2.1) : Nat) : Int))
    (chk ((31 : Int) = 0) (none) (chk ((Int.tmod x.1.2.1 31) < 0) (none) (tb (ieq (bandK .i64 (shrK .i64 x.1.1 (Int.tmod x.1.2.1 31)) 1) 1)
          (chk (0 ≤ x.1.2.1) (obind (at? x.2.1.1.2.1 (Int.toNat x.1.2.1)) fun v0 =>
              chk (0 ≤ x.1.2.1) (obind (at? x.2.1.1.2.1 (Int.toNat x.1.2.1)) fun v1 =>
                chk ((0 ≤ v0.1) ∧ (v0.1 < (((llen x.2.2.1) : Nat) : Int))) (obind (at? x.2.2.1 (Int.toNat v0.1)) fun v2 =>
                  spec_l15Done_k0 N n k ((x.1.1, (wr .i64 (x.1.2.1 + 1)), ()), ((x.2.1.1.1, x.2.1.1.2.1, ()), (), (), ()), (lset x.2.2.1 (Int.toNat v0.1) v1.2.1), ())) (none)) (none)) (none))
          (spec_l15Done_k0 N n k ((x.1.1, (wr .i64 (x.1.2.1 + 1)), ()), ((x.2.1.1.1, x.2.1.1.2.1, ()), (), (), ()), x.2.2.1, ())))))
    (k ((), ((), (), ()), x.2.2.1, ()))
def spec_l15Done_k (N : Nat) (x0 : ((List ByteArray) × (List (Int × ByteArray × Unit)) × Unit)) (x1 : Int) : Option (Unit × (((List ByteArray) × (List (Int × ByteArray × Unit)) × Unit) × Unit)) :=
  chk ((plus 0 (llen x0.1)) ≤ 8796093022208) (spec_l15Done_k0 N N (fun v0 =>
      some ((), (v0.2.2.1, [], ()), ())) ((x1, 0, ()), ((x0.1, x0.2.1, ()), (), (), ()), (lapp [] x0.1), ())) (none)
def spec_l15Done (x : (((List ByteArray) × (List (Int × ByteArray × Unit)) × Unit) × Int × Unit)) : Option (Unit × (((List ByteArray) × (List (Int × ByteArray × Unit)) × Unit) × Unit)) := spec_l15Done_k fuel x.1 x.2.1
def spec_l15Done_s : List (Nat × Con) := []
def spec_l15Done_E : Env := ⟨fun j => (look tyTab j).getD .unit, fun j => look spec_l15Done_s j⟩
theorem spec_l15Done_r0 (N n : Nat) (k : spec_l15Done_O0.ty.den → Option (Unit × (((List ByteArray) × (List (Int × ByteArray × Unit)) × Unit) × Unit))) (x : spec_l15Done_P0.ty.den) : roundK spec_l15Done_E ⟨Try.f153.ntmps, N, (fun i => look [(0, ⟨spec_l15Done_P0, spec_l15Done_O0, [.cell 5 0 10000 .str], [.cell 5 0 10500 .str], spec_l15Done_k0 N⟩)] i), retK spec_l15Done_E Try.f153 [.val S55, .val (.int .i64)] [T55] (.pair T55 .unit)⟩ (Try.f153.body.getD .skip) 0 ⟨spec_l15Done_P0, spec_l15Done_O0, [.cell 5 0 10000 .str], [.cell 5 0 10500 .str], spec_l15Done_k0 N⟩ (spec_l15Done_k0 N n k) k x = spec_l15Done_k0 N (n + 1) k x := by kernel_rfl
theorem spec_l15Done_f_eq (N : Nat) (x0 : ((List ByteArray) × (List (Int × ByteArray × Unit)) × Unit)) (x1 : Int) : funK spec_l15Done_E Try.f153 [.val S55, .val (.int .i64)] [T55] (.pair T55 .unit) (fun i => look [(0, ⟨spec_l15Done_P0, spec_l15Done_O0, [.cell 5 0 10000 .str], [.cell 5 0 10500 .str], spec_l15Done_k0 N⟩)] i) N (x0, x1, ()) = spec_l15Done_k N x0 x1 := by kernel_rfl
theorem spec_l15Done_o : Known Try.prog 153 ⟨[.val S55, .val (.int .i64)], [T55], (.pair T55 .unit), spec_l15Done⟩ := known_of (tab := tyTab) (cons := spec_l15Done_s) (segs := [(0, ⟨spec_l15Done_P0, spec_l15Done_O0, [.cell 5 0 10000 .str], [.cell 5 0 10500 .str], spec_l15Done_k0 fuel⟩)]) (n := fuel) mixed_ok tab_ok .nil Try.func153 (by kernel_rfl) ⟨⟨fun _ _ => rfl, fun n k x => spec_l15Done_r0 fuel n k x⟩, trivial⟩ (fun x => spec_l15Done_f_eq fuel x.1 x.2.1)
def spec_DiskSync_k (N : Nat) (x0 : ((List ByteArray) × (List (Int × ByteArray × Unit)) × Unit)) : Option (Unit × (((List ByteArray) × (List (Int × ByteArray × Unit)) × Unit) × Bool × Unit)) :=
  obind (spec_DiskOk ((x0.1, x0.2.1, ()), ())) fun v0 =>
  tb (bnot v0.2.1)
  (some ((), ([], [], ()), false, ()))
  (obind (spec_l15Done ((x0.1, x0.2.1, ()), 2147483647, ())) fun v1 =>
    some ((), (v1.2.1.1, v1.2.1.2.1, ()), true, ()))
def spec_DiskSync (x : (((List ByteArray) × (List (Int × ByteArray × Unit)) × Unit) × Unit)) : Option (Unit × (((List ByteArray) × (List (Int × ByteArray × Unit)) × Unit) × Bool × Unit)) := spec_DiskSync_k fuel x.1
def spec_DiskSync_s : List (Nat × Con) := [(93, ⟨[.val S55], [.bool], (.pair .bool .unit), spec_DiskOk⟩), (153, ⟨[.val S55, .val (.int .i64)], [T55], (.pair T55 .unit), spec_l15Done⟩)]
def spec_DiskSync_E : Env := ⟨fun j => (look tyTab j).getD .unit, fun j => look spec_DiskSync_s j⟩
theorem spec_DiskSync_f_eq (N : Nat) (x0 : ((List ByteArray) × (List (Int × ByteArray × Unit)) × Unit)) : funK spec_DiskSync_E Try.f115 [.val S55] [T55, .bool] (.pair T55 (.pair .bool .unit)) (fun i => look [] i) N (x0, ()) = spec_DiskSync_k N x0 := by kernel_rfl
theorem spec_DiskSync_o : Known Try.prog 115 ⟨[.val S55], [T55, .bool], (.pair T55 (.pair .bool .unit)), spec_DiskSync⟩ := known_of (tab := tyTab) (cons := spec_DiskSync_s) (segs := []) (n := fuel) mixed_ok tab_ok (.cons spec_DiskOk_o (.cons spec_l15Done_o .nil)) Try.func115 (by kernel_rfl) trivial (fun x => spec_DiskSync_f_eq fuel x.1)
def spec_ArchiveNew_k (N : Nat)  : Option (Unit × ((Bool × ((List ByteArray) × (List (Int × ByteArray × Unit)) × Unit) × (Int × Int × Int × Unit) × (List (ByteArray × ByteArray × Unit)) × Unit) × Unit)) :=
  obind (spec_DiskNew ()) fun v0 =>
  obind (spec_HeadPut ((v0.2.1.1, v0.2.1.2.1, ()), (1, 0, 0, ()), ())) fun v1 =>
  obind (spec_DiskSync ((v1.2.1.1, v1.2.1.2.1, ()), ())) fun v2 =>
  some ((), (true, (v2.2.1.1, v2.2.1.2.1, ()), (1, 0, 0, ()), [], ()), ())
def spec_ArchiveNew (x : Unit) : Option (Unit × ((Bool × ((List ByteArray) × (List (Int × ByteArray × Unit)) × Unit) × (Int × Int × Int × Unit) × (List (ByteArray × ByteArray × Unit)) × Unit) × Unit)) := spec_ArchiveNew_k fuel 
def spec_ArchiveNew_s : List (Nat × Con) := [(50, ⟨[.val S55, .val S69], [T55, .bool], (.pair T55 (.pair .bool .unit)), spec_HeadPut⟩), (114, ⟨[], [T55], (.pair T55 .unit), spec_DiskNew⟩), (115, ⟨[.val S55], [T55, .bool], (.pair T55 (.pair .bool .unit)), spec_DiskSync⟩)]
def spec_ArchiveNew_E : Env := ⟨fun j => (look tyTab j).getD .unit, fun j => look spec_ArchiveNew_s j⟩
theorem spec_ArchiveNew_f_eq (N : Nat)  : funK spec_ArchiveNew_E Try.f53 [] [T78] (.pair T78 .unit) (fun i => look [] i) N () = spec_ArchiveNew_k N  := by kernel_rfl
theorem spec_ArchiveNew_o : Known Try.prog 53 ⟨[], [T78], (.pair T78 .unit), spec_ArchiveNew⟩ := known_of (tab := tyTab) (cons := spec_ArchiveNew_s) (segs := []) (n := fuel) mixed_ok tab_ok (.cons spec_HeadPut_o (.cons spec_DiskNew_o (.cons spec_DiskSync_o .nil))) Try.func53 (by kernel_rfl) trivial (fun x => spec_ArchiveNew_f_eq fuel )
def slices_Repeat_string_P0 : Tpl := ⟨[(7, .one (.fix (.ref 10000 [] none))), (8, .one (.leaf (.int .i64)))], [], [(10000, .str)]⟩
def slices_Repeat_string_O0 : Tpl := ⟨[(7, .one (.fix (.ref 10500 [] none)))], [], [(10500, .str)]⟩
def slices_Repeat_string_k0 (N : Nat) : Nat → ((Unit × (Unit × ((List ByteArray) × Unit))) → Option (Unit × ((List ByteArray) × Unit))) → ((Int × Unit) × (Unit × ((List ByteArray) × Unit))) → Option (Unit × ((List ByteArray) × Unit))
  | 0, _, _ => none
  | n + 1, k, x =>
    tb (ilt x.1.1 (((llen x.2.2.1) : Nat) : Int))
    (chk ((0 ≤ x.1.1) ∧ ((x.1.1 ≤ (((llen x.2.2.1) : Nat) : Int)) ∧ ((((llen x.2.2.1) : Nat) : Int) ≤ (((llen x.2.2.1) : Nat) : Int)))) (chk (((0 : Int) ≤ 0) ∧ ((0 ≤ x.1.1) ∧ (x.1.1 ≤ (((llen x.2.2.1) : Nat) : Int)))) (chk (0 < (llen x.2.2.1)) (slices_Repeat_string_k0 N n k (((wr .i64 (x.1.1 + (((nmin (lgap (loOf (Option.some ((Int.toNat x.1.1), (Int.toNat (((llen x.2.2.1) : Nat) : Int))))) (hiOf (llen x.2.2.1) (Option.some ((Int.toNat x.1.1), (Int.toNat (((llen x.2.2.1) : Nat) : Int)))))) (llen (lcut x.2.2.1 (Int.toNat 0) (Int.toNat x.1.1)))) : Nat) : Int))), ()), (), (lput x.2.2.1 (loOf (Option.some ((Int.toNat x.1.1), (Int.toNat (((llen x.2.2.1) : Nat) : Int))))) (nmin (lgap (loOf (Option.some ((Int.toNat x.1.1), (Int.toNat (((llen x.2.2.1) : Nat) : Int))))) (hiOf (llen x.2.2.1) (Option.some ((Int.toNat x.1.1), (Int.toNat (((llen x.2.2.1) : Nat) : Int)))))) (llen (lcut x.2.2.1 (Int.toNat 0) (Int.toNat x.1.1)))) (lcut x.2.2.1 (Int.toNat 0) (Int.toNat x.1.1))), ())) (none)) (none)) (none))
    (k ((), (), x.2.2.1, ()))
def slices_Repeat_string_k (N : Nat) (x0 : (List ByteArray)) (x1 : Int) : Option (Unit × ((List ByteArray) × Unit)) :=
  tb (ilt x1 0)
  (none)
  (obind (math_bits_Mul ((wr .u64 (((llen x0) : Nat) : Int)), (wr .u64 x1), ())) fun v0 =>
    tb (ilt 0 v0.2.1)
    (none)
    (tb (ilt 9223372036854775807 v0.2.2.1)
      (none)
      (chk ((0 ≤ (wr .i64 v0.2.2.1)) ∧ (((wr .i64 v0.2.2.1) ≤ (wr .i64 v0.2.2.1)) ∧ ((Int.toNat (wr .i64 v0.2.2.1)) ≤ 8796093022208))) (chk (0 < (llen (lrep (Int.toNat (wr .i64 v0.2.2.1)) (⟨#[]⟩ : ByteArray)))) (slices_Repeat_string_k0 N N (fun v1 =>
              some ((), v1.2.2.1, ())) (((((nmin (lgap (loOf Option.none) (hiOf (llen (lrep (Int.toNat (wr .i64 v0.2.2.1)) (⟨#[]⟩ : ByteArray))) Option.none)) (llen x0)) : Nat) : Int), ()), (), (lput (lrep (Int.toNat (wr .i64 v0.2.2.1)) (⟨#[]⟩ : ByteArray)) (loOf Option.none) (nmin (lgap (loOf Option.none) (hiOf (llen (lrep (Int.toNat (wr .i64 v0.2.2.1)) (⟨#[]⟩ : ByteArray))) Option.none)) (llen x0)) x0), ())) (none)) (none))))
def slices_Repeat_string (x : ((List ByteArray) × Int × Unit)) : Option (Unit × ((List ByteArray) × Unit)) := slices_Repeat_string_k fuel x.1 x.2.1
def slices_Repeat_string_s : List (Nat × Con) := [(158, ⟨[.val (.int .u64), .val (.int .u64)], [(.int .u64), (.int .u64)], (.pair (.int .u64) (.pair (.int .u64) .unit)), math_bits_Mul⟩)]
def slices_Repeat_string_E : Env := ⟨fun j => (look tyTab j).getD .unit, fun j => look slices_Repeat_string_s j⟩
theorem slices_Repeat_string_r0 (N n : Nat) (k : slices_Repeat_string_O0.ty.den → Option (Unit × ((List ByteArray) × Unit))) (x : slices_Repeat_string_P0.ty.den) : roundK slices_Repeat_string_E ⟨Try.f154.ntmps, N, (fun i => look [(0, ⟨slices_Repeat_string_P0, slices_Repeat_string_O0, [.tmp 7 10000 .str], [.tmp 7 10500 .str], slices_Repeat_string_k0 N⟩)] i), retK slices_Repeat_string_E Try.f154 [.val (.row false .str), .val (.int .i64)] [(.row true .str)] (.pair (.row true .str) .unit)⟩ (Try.f154.body.getD .skip) 0 ⟨slices_Repeat_string_P0, slices_Repeat_string_O0, [.tmp 7 10000 .str], [.tmp 7 10500 .str], slices_Repeat_string_k0 N⟩ (slices_Repeat_string_k0 N n k) k x = slices_Repeat_string_k0 N (n + 1) k x := by kernel_rfl
theorem slices_Repeat_string_f_eq (N : Nat) (x0 : (List ByteArray)) (x1 : Int) : funK slices_Repeat_string_E Try.f154 [.val (.row false .str), .val (.int .i64)] [(.row true .str)] (.pair (.row true .str) .unit) (fun i => look [(0, ⟨slices_Repeat_string_P0, slices_Repeat_string_O0, [.tmp 7 10000 .str], [.tmp 7 10500 .str], slices_Repeat_string_k0 N⟩)] i) N (x0, x1, ()) = slices_Repeat_string_k N x0 x1 := by kernel_rfl
theorem slices_Repeat_string_o : Known Try.prog 154 ⟨[.val (.row false .str), .val (.int .i64)], [(.row true .str)], (.pair (.row true .str) .unit), slices_Repeat_string⟩ := known_of (tab := tyTab) (cons := slices_Repeat_string_s) (segs := [(0, ⟨slices_Repeat_string_P0, slices_Repeat_string_O0, [.tmp 7 10000 .str], [.tmp 7 10500 .str], slices_Repeat_string_k0 fuel⟩)]) (n := fuel) mixed_ok tab_ok (.cons math_bits_Mul_o .nil) Try.func154 (by kernel_rfl) ⟨⟨fun _ _ => rfl, fun n k x => slices_Repeat_string_r0 fuel n k x⟩, trivial⟩ (fun x => slices_Repeat_string_f_eq fuel x.1 x.2.1)
def impl_DiskNew_k (N : Nat)  : Option (Unit × (((List ByteArray) × (List (Int × ByteArray × Unit)) × Unit) × Unit)) :=
  obind (strings_Repeat ((⟨#[0]⟩ : ByteArray), 64, ())) fun v0 =>
  obind (slices_Repeat_string ([v0.2.1], 130, ())) fun v1 =>
  some ((), (v1.2.1, [], ()), ())
def impl_DiskNew (x : Unit) : Option (Unit × (((List ByteArray) × (List (Int × ByteArray × Unit)) × Unit) × Unit)) := impl_DiskNew_k fuel 
def impl_DiskNew_s : List (Nat × Con) := [(120, ⟨[.val .str, .val (.int .i64)], [.str], (.pair .str .unit), strings_Repeat⟩), (154, ⟨[.val (.row false .str), .val (.int .i64)], [(.row true .str)], (.pair (.row true .str) .unit), slices_Repeat_string⟩)]
def impl_DiskNew_E : Env := ⟨fun j => (look tyTab j).getD .unit, fun j => look impl_DiskNew_s j⟩
theorem impl_DiskNew_f_eq (N : Nat)  : funK impl_DiskNew_E Try.f116 [] [T55] (.pair T55 .unit) (fun i => look [] i) N () = impl_DiskNew_k N  := by kernel_rfl
theorem impl_DiskNew_o : Known Try.prog 116 ⟨[], [T55], (.pair T55 .unit), impl_DiskNew⟩ := known_of (tab := tyTab) (cons := impl_DiskNew_s) (segs := []) (n := fuel) mixed_ok tab_ok (.cons strings_Repeat_o (.cons slices_Repeat_string_o .nil)) Try.func116 (by kernel_rfl) trivial (fun x => impl_DiskNew_f_eq fuel )
def impl_DiskSync_1_k (N : Nat) (x0 : Int) : Option (Unit × (Bool × Unit)) :=
  some ((), true, ())
def impl_DiskSync_1 (x : (Int × Unit)) : Option (Unit × (Bool × Unit)) := impl_DiskSync_1_k fuel x.1
def impl_DiskSync_1_s : List (Nat × Con) := []
def impl_DiskSync_1_E : Env := ⟨fun j => (look tyTab j).getD .unit, fun j => look impl_DiskSync_1_s j⟩
theorem impl_DiskSync_1_f_eq (N : Nat) (x0 : Int) : funK impl_DiskSync_1_E Try.f156 [.val (.int .i64)] [.bool] (.pair .bool .unit) (fun i => look [] i) N (x0, ()) = impl_DiskSync_1_k N x0 := by kernel_rfl
theorem impl_DiskSync_1_o : Known Try.prog 156 ⟨[.val (.int .i64)], [.bool], (.pair .bool .unit), impl_DiskSync_1⟩ := known_of (tab := tyTab) (cons := impl_DiskSync_1_s) (segs := []) (n := fuel) mixed_ok tab_ok .nil Try.func156 (by kernel_rfl) trivial (fun x => impl_DiskSync_1_f_eq fuel x.1)
end Go.Proofs.Ytaakhgjlekllgaa.V
