/- The functions that FnExactArchiveCrash reaches, each as a plain function, and the plain law about them: the statement answers true at every input. No condition beyond those that stand in each theorem. -/
import Derived.Test.YtekcpaiphcmfmaaGreatVC
import Derived.Test.YtekcpaiphcmfmaaGreatVIns
import Derived.Test.YtekcpaiphcmfmaaGreatVIns2
import Derived.Test.YtekcpaiphcmfmaaGreatVIns3
import Derived.Shelf.SlicesE.Clone
import Derived.Test.YtekcpaiphcmfmaaGreatProg
import Derived.KernelRfl
import Derived.Test.YtekcpaiphcmfmaaGreatChecked
import Derived.Test.YtekcpaiphcmfmaaGreatXShelf
set_option linter.unusedVariables false
set_option linter.unusedSimpArgs false
noncomputable section
namespace Go.Proofs.YtekcpaiphcmfmaaGreat.V
open Go Go.RowKit Go.Proofs
abbrev ET : Ty := .pair .str (.pair .str .unit)
abbrev Elt : Type := ByteArray × ByteArray × Unit
theorem et_rep {w w' : World} {I J : Blocks} {x : ET.den} {vs : List Value} (h : RepS w I ET x vs) : RepS w' J ET x vs := h
theorem et_reps {w w' : World} {I J : Blocks} {xs : List ET.den} {vs : List Value} (h : RepN (RepS w I ET) xs vs) : RepN (RepS w' J ET) xs vs := RepN.imp (fun _ _ h => et_rep h) h
section
variable {w w' : World} {I OW : Blocks} {V : List (Nat × Nat × Nat)} {ms : List Mode} {vals : List Value}
theorem came_row {f : (argsTy ms).den → Option ((outsTy ms).den × (Ty.pair (.row true ET) .unit).den)} {out : (outsTy ms).den} {ys : List Elt} {b off len cap : Nat} {cs : Array Value} {et : TypeId} {fr : Nat × Nat} {vs : List Value}
    (hK : Keeps w OW (RngOf V) w') (hb : OW b ∨ w.heap.size ≤ b) (hd : Dis OW I) (hlt : ∀ k, I k ∨ OW k → k < w.heap.size) (hV : ∀ v ∈ V, ¬ I v.1 ∧ ¬ OW v.1) (hVlt : ∀ v ∈ V, v.1 < w.heap.size)
    (hout : OutsAt w' I ms out V vals (fun _ => False)) (hl : len = ys.length) (hc : len ≤ cap) (h : w'.heap[b]? = some (.cells cs et fr)) (hsz : off + cap * 2 ≤ cs.size) (hfr : FrZ 2 fr cs.size)
    (hat : ∀ i v, vs[i]? = some v → cs[off + i]? = some v) (hr : RepN (RepS w' I ET) ys vs) :
    Came ⟨ms, [.row true ET], .pair (.row true ET) .unit, f⟩ (out, (ys, ())) w I OW V vals (.returned (.slice (some ⟨b, off, none⟩) len cap)) w' := by
  have hvl : vs.length = ys.length * 2 := hr.length (n := 2) (fun _ _ h => h.length)
  have hbl := (Array.getElem?_eq_some_iff.1 h).1
  refine ⟨_, rfl, hK, [.slice (some ⟨b, off, none⟩) len cap], [.slice (some ⟨b, off, none⟩) len cap], I, (fun k => k = b), fun _ => False, rfl, ?_⟩
  exact {
    I2 := fun k hk => .inl hk
    O := fun k hk => by
      rcases hk with rfl | hk
      · exact hb
      · exact hk.elim
    lt := fun k hk => by
      rcases hk with hk | rfl | hk
      · exact Nat.lt_of_lt_of_le (hlt k (.inl hk)) hK.size
      · exact hbl
      · exact hk.elim
    d1 := fun k _ hk => hk
    d2 := fun k hk hi => by
      subst hk
      rcases hb with hb | hb
      · exact hd k hb hi
      · exact absurd (hlt k (.inl hi)) (by omega)
    d3 := fun k hk => hk.elim
    dV := fun u hu => ⟨(hV u hu).1, fun q => by
      have q : u.1 = b := q
      rcases hb with hb | hb
      · exact (hV u hu).2 (by rw [q]; exact hb)
      · exact absurd (hVlt u hu) (by omega), fun q => q⟩
    res := ⟨_, [], [_], [], rfl, rfl, ⟨fun q => (by cases q), fun _ => rfl⟩, rfl, rfl, rfl⟩
    val := ⟨[_], [], (fun k => k = b), fun _ => False, rfl, fun _ h => h, fun _ h => h.elim, fun _ _ h => h, ⟨_, _, _, rfl, .inr ⟨hl, hc, .inr ⟨⟨b, off, none⟩, cs, et, fr, vs, fun _ => False, rfl, rfl, rfl, fun h => h, fun _ h => h.elim, h, hsz, hfr, ⟨cs, et, fr, h, by have : ys.length * 2 ≤ cap * 2 := Nat.mul_le_mul_right _ (by omega); show off + vs.length ≤ _; omega, hat⟩, plain_RepN rfl hr⟩⟩⟩, rfl⟩
    outs := hout }
theorem keeps_poked {g : Nat} {cs : Array Value} {et : TypeId} {fr : Nat × Nat} {rng : Nat → Nat → Prop} (hp : Poked w w' g cs et fr) (hg : OW g) : Keeps w OW rng w' :=
  ⟨hp.os, hp.tape, hp.output, by rw [hp.size]; exact Nat.le_refl _, fun k _ ho _ => hp.same k (fun q => ho (q ▸ hg)), fun k _ ho cs0 et0 fr0 e => ⟨cs0, by rw [hp.same k (fun q => ho (q ▸ hg))]; exact e, rfl, fun _ _ => rfl⟩⟩
theorem keeps_drew {rng : Nat → Nat → Prop} : Keeps w OW rng w.drew := ⟨rfl, rfl, rfl, Nat.le_refl _, fun _ _ _ _ => rfl, fun k _ _ cs et fr e => ⟨cs, e, rfl, fun _ _ => rfl⟩⟩
theorem keeps_drew_out {rng : Nat → Nat → Prop} (h : Keeps w.drew OW rng w') : Keeps w OW rng w' := ⟨h.os, h.tape, h.output, h.size, h.same, h.cells⟩
theorem poked_two {w w1 w2 : World} {g : Nat} {cs cs' : Array Value} {et et' : TypeId} {fr fr' : Nat × Nat} (h : Poked w w1 g cs et fr) (k : Poked w1 w2 g cs' et' fr') : Poked w w2 g cs' et' fr' :=
  ⟨k.os.trans h.os, k.tape.trans h.tape, k.output.trans h.output, k.size.trans h.size, k.this, fun q hq => (k.same q hq).trans (h.same q hq)⟩
theorem row_lies {xs : List Elt} {a : Option Addr} {len cap : Nat} {F : Blocks} (h : ORow w (α := ET.den) (RepO w I ET) 2 xs none a len cap F) (hc : 0 < cap) :
    len = xs.length ∧ len ≤ cap ∧ ∃ g o cs et fr vs, a = some ⟨g, o, none⟩ ∧ F g ∧ w.heap[g]? = some (.cells cs et fr) ∧ o + cap * 2 ≤ cs.size ∧ FrZ 2 fr cs.size ∧ vs.length = xs.length * 2 ∧ (∀ i v, vs[i]? = some v → cs[o + i]? = some v) ∧ RepN (RepS w I ET) xs vs ∧ ∀ v ∈ vs, oneCell v = true := by
  obtain ⟨h1, h2, h3⟩ := h
  rcases h3 with h3 | ⟨ad, cs, et, fr, vs, F', e1, e2, e3, e4, e5, e6, e7, e8, e9, e10⟩
  · omega
  · have hr := plain_RepNO (e := ET) rfl e10
    obtain ⟨cs2, et2, fr2, g1, g2, g3⟩ := e9
    rw [e6] at g1
    simp only [Option.some.injEq, Obj.cells.injEq] at g1
    obtain ⟨rfl, rfl, rfl⟩ := g1
    exact ⟨h1, h2, ad.block, ad.off, cs, et, fr, vs, by rw [e1]; congr 1; exact addr_eq e2, e3, e6, e7, e8, hr.length (n := 2) (fun _ _ h => h.length), g3, hr, RepNO_one e10⟩
end
theorem get_at {α : Type} {l : List α} {i : Nat} (h : i < l.length) : ∃ x, l[i]? = some x := ⟨l[i], List.getElem?_eq_getElem h⟩
def deleteF (x : List Elt × Int × Int × Unit) : Option (Unit × (List Elt × Unit)) :=
  if 0 ≤ x.2.1 ∧ x.2.2.1 = x.2.1 + 1 ∧ x.2.1 < x.1.length then some ((), x.1.take x.2.1.toNat ++ x.1.drop (x.2.1.toNat + 1), ()) else none
theorem delete_calls {w : World} {I OW O1 : Blocks} {xs : List Elt} {n1 n2 : Int} {a : Option Addr} {len cap : Nat} {r : Unit × (List Elt × Unit)} (ho : ORow w (α := ET.den) (RepO w I ET) 2 xs none a len cap O1) (s1 : Sub O1 OW)
    (hd : Dis OW I) (hlt : ∀ k, I k ∨ OW k → k < w.heap.size) (hx : deleteF (xs, n1, n2, ()) = some r) :
    Calls Tryz.prog 94 #[.slice a len cap, .int .i64 n1, .int .i64 n2] w (Came ⟨[.own (.row true ET), .val (.int .i64), .val (.int .i64)], [.row true ET], .pair (.row true ET) .unit, deleteF⟩ r w I OW [] [.slice a len cap, .int .i64 n1, .int .i64 n2]) := by
  unfold deleteF at hx
  split at hx
  rotate_left
  · cases hx
  rename_i hc
  obtain ⟨h0, h1, h2⟩ := hc
  simp only at h0 h1 h2
  obtain ⟨i, rfl⟩ := Int.eq_ofNat_of_zero_le h0
  subst h1
  simp only [Int.toNat_natCast] at hx
  cases hx
  have hcap : 0 < cap := by have h3 : len = xs.length := ho.1; have := ho.2.1; omega
  obtain ⟨l1, l2, g, o, cs, et, fr, row, rfl, hg, hb, hcs, hfr, hrl, hrow, hrep, hone⟩ := row_lies ho hcap
  have hin : i < xs.length := by omega
  subst l1
  refine (Go.Proofs.YtekcpaiphcmfmaaGreatX.delete_raw g o xs.length cap i cs et fr row w hb hfr.1 hcs (by omega) hin hrl hrow (fun v hv => oneCell_eq (hone v hv))).mono ?_
  rintro e w' ⟨rfl, rfl⟩
  obtain ⟨news, hnews⟩ : ∃ news, news = row.drop ((i + 1) * 2) := ⟨_, rfl⟩
  have hnl : news.length = (xs.length - (i + 1)) * 2 := by rw [hnews, List.length_drop, hrl]; omega
  rw [← hnews]
  have p1 := setCells_poked (et := et) (fr := fr) news (o + i * 2) w.drew cs hb
  have p2 := setCells_poked (et := et) (fr := fr) [.string ⟨#[]⟩, .string ⟨#[]⟩] (o + (xs.length - 1) * 2) _ _ p1.this
  have p := poked_two p1 p2
  have hsz : ((sets (sets cs.toList (o + i * 2) news).toArray.toList (o + (xs.length - 1) * 2) [Value.string ⟨#[]⟩, .string ⟨#[]⟩]).toArray).size = cs.size := by simp [sets_length]
  have hlen : (xs.take i ++ xs.drop (i + 1)).length = xs.length - 1 := by rw [List.length_append, List.length_take, List.length_drop]; omega
  have k1 := RepN_take (fun _ _ h => RepS.length h) (n := 2) i hrep
  have k2 := RepN_take (fun _ _ h => RepS.length h) (n := 2) (i + 1) hrep
  refine came_row (ms := [.own (.row true ET), .val (.int .i64), .val (.int .i64)]) (vs := row.take (i * 2) ++ news) (out := ()) (keeps_drew_out (keeps_poked p (s1 g hg))) (.inl (s1 g hg)) hd hlt (fun v hv => by cases hv) (fun v hv => by cases hv) trivial hlen.symm (by omega) p.this (by rw [hsz]; exact hcs) (by rw [hsz]; exact hfr) (fun j v hv => ?_) (et_reps (RepN_app k1.1 (by rw [hnews]; exact k2.2)))
  have hj := (List.getElem?_eq_some_iff.1 hv).1
  rw [List.length_append, List.length_take, hnl, hrl] at hj
  rw [List.getElem?_toArray, sets_get, if_neg (by simp; omega)]
  show (sets cs.toList (o + i * 2) news)[o + j]? = some v
  rw [sets_get]
  by_cases hj2 : j < i * 2
  · rw [if_neg (by omega), Array.getElem?_toList]
    rw [List.getElem?_append_left (by rw [List.length_take]; omega), List.getElem?_take_of_lt hj2] at hv
    exact hrow j v hv
  · rw [List.getElem?_append_right (by rw [List.length_take]; omega), List.length_take, Nat.min_eq_left (by omega)] at hv
    rw [if_pos ⟨by omega, by omega, by simp; omega⟩, ← hv]
    congr 1; omega
theorem known_delete (hE : Entered Tryz.prog 94) : Known Tryz.prog 94 ⟨[.own (.row true ET), .val (.int .i64), .val (.int .i64)], [.row true ET], .pair (.row true ET) .unit, deleteF⟩ := by
  refine ⟨hE, ?_⟩
  intro w I OW V x vals r hA hd hlt hV hx
  obtain ⟨v, us, vs', O1, O2, rfl, hv, ⟨a, len, cap, rfl, ho⟩, s1, s2, -, hA⟩ := hA
  obtain ⟨v1, u1, l1, rfl, q1, r1, v2, u2, l2, rfl, q2, r2, rfl, rfl⟩ := hA
  have r1 : u1 = [.int .i64 x.2.1] := r1
  have r2 : u2 = [.int .i64 x.2.2.1] := r2
  subst r1; subst r2
  obtain rfl := (List.cons.inj (q1.2 rfl)).1
  obtain rfl := (List.cons.inj (q2.2 rfl)).1
  obtain rfl := (List.cons.inj (hv.2 rfl)).1
  exact delete_calls (xs := x.1) (ho.resolve_left (by simp)) s1 hd hlt hx
def insertF (x : List Elt × Int × List Elt × Unit) : Option (Unit × (List Elt × Unit)) :=
  match x.2.2.1 with
  | [y] => if 0 ≤ x.2.1 ∧ x.2.1 ≤ x.1.length ∧ (x.1.length + 1) * 32 ≤ 140737488355328 then some ((), x.1.take x.2.1.toNat ++ ([y] ++ x.1.drop x.2.1.toNat), ()) else none
  | _ => none
theorem keeps_new {w w' : World} {OW : Blocks} {rng : Nat → Nat → Prop} (h1 : w'.os = w.os) (h2 : w'.tape = w.tape) (h3 : w'.output = w.output) (h4 : w.heap.size ≤ w'.heap.size) (h5 : ∀ k, k < w.heap.size → w'.heap[k]? = w.heap[k]?) : Keeps w OW rng w' :=
  ⟨h1, h2, h3, h4, fun k hk _ _ => h5 k hk, fun k hk _ cs et fr e => ⟨cs, by rw [h5 k hk]; exact e, rfl, fun _ _ => rfl⟩⟩
set_option maxHeartbeats 2000000 in
set_option maxRecDepth 100000 in
open Go.Proofs.YtekcpaiphcmfmaaGreatX in
theorem insert_calls {w : World} {I OW O1 O2 : Blocks} {xs ys : List Elt} {n1 : Int} {a b : Option Addr} {len cap len2 cap2 : Nat} {r : Unit × (List Elt × Unit)} (ho : ORow w (α := ET.den) (RepO w I ET) 2 xs none a len cap O1) (ho2 : ORow w (α := ET.den) (RepO w I ET) 2 ys none b len2 cap2 O2) (s1 : Sub O1 OW)
    (hdis : Dis O1 O2) (hd : Dis OW I) (hlt : ∀ k, I k ∨ OW k → k < w.heap.size) (hx : insertF (xs, n1, ys, ()) = some r) :
    Calls Tryz.prog 95 #[.slice a len cap, .int .i64 n1, .slice b len2 cap2] w (Came ⟨[.own (.row true ET), .val (.int .i64), .own (.row true ET)], [.row true ET], .pair (.row true ET) .unit, insertF⟩ r w I OW [] [.slice a len cap, .int .i64 n1, .slice b len2 cap2]) := by
  unfold insertF at hx
  split at hx
  rotate_left
  · cases hx
  rename_i y hy
  simp only at hy
  subst hy
  split at hx
  rotate_left
  · cases hx
  rename_i hc
  obtain ⟨h0, h1, hbig⟩ := hc
  simp only at h0 h1 hbig
  obtain ⟨i, rfl⟩ := Int.eq_ofNat_of_zero_le h0
  simp only [Int.toNat_natCast] at hx
  cases hx
  have hlen : len = xs.length := ho.1
  have hlc : len ≤ cap := ho.2.1
  have hlen2 : len2 = 1 := ho2.1
  obtain ⟨-, -, vb, vo, cv, et', fr', vs, rfl, hvF, hv, hcv, hfr2, hvl, hvs, hvr, hv1⟩ := row_lies ho2 (by have := ho2.2.1; omega)
  have hvl : vs.length = 2 := hvl
  have h1v : ∀ v ∈ vs, v.oneCell' = true := fun v hv => oneCell_eq (hv1 v hv)
  have hfr' : fr'.2 ≤ fr'.1 := hfr2.2 (by decide)
  subst hlen
  subst hlen2
  obtain ⟨i0, hi0, hz0, hz1, hz2⟩ := info_parts (show (Tryz.prog.info? 53).map (fun i => (i.zero, i.size, i.bytes)) = some (some (.agg #[.string ⟨#[]⟩, .string ⟨#[]⟩]), 2, 32) by kernel_rfl)
  have hbel : ∀ k, k < w.heap.size → (w.drew.alloc (.cells #[] 0)).heap[k]? = w.heap[k]? := fun k hk => alloc_old2 w.drew _ k hk
  have hfv : ∀ W : World, W.heap = w.heap → (Builtin.firstCells i0.size 1 (.slice (some ⟨vb, vo, none⟩) 1 cap2)).run Tryz.prog W = .ok vs.toArray W := fun W hW => by
    rw [hz1]
    exact run_firstCells_some W 2 1 ⟨vb, vo, none⟩ 1 cap2 vs (by rw [hvl]) (fun j u hu => by
      rw [Addr.add_lit]
      show W.cell? _ = _
      have e : W.cell? ⟨vb, vo + j, none⟩ = w.cell? ⟨vb, vo + j, none⟩ := by simp only [World.cell?, hW]
      rw [e, cell_row hv]
      exact hvs j u hu)
  have hys : (xs.take i ++ ([y] ++ xs.drop i)).length = xs.length + 1 := by simp only [List.length_append, List.length_take, List.length_drop, List.length_singleton]; omega
  have hlenv : ∀ W : World, (Builtin.lenOf (.slice (some ⟨vb, vo, none⟩) 1 cap2)).run Tryz.prog W = .ok 1 W := fun W => by simp [Builtin.lenOf]
  by_cases hin : i = xs.length
  · subst hin
    have hxe : xs.take xs.length ++ ([y] ++ xs.drop xs.length) = xs ++ [y] := by simp
    rw [hxe] at hys ⊢
    by_cases hroom : xs.length + 1 ≤ cap
    · obtain ⟨-, -, g, o, cs, et, fr, row, rfl, hg, hb, hcs, hfr, hrl, hrow, hrep, hone⟩ := row_lies ho (by omega)
      obtain ⟨w1, q1, q2⟩ := run_store_poked (P := Tryz.prog) (off := o + xs.length * 2) (vs := vs) hb hfr.1 (by omega) hv1
      have hrun : ∀ ty, (Builtin.append_ #[38, 38] ty #[.slice (some ⟨g, o, none⟩) xs.length cap, .slice (some ⟨vb, vo, none⟩) 1 cap2]).run Tryz.prog w = .ok (.slice (some ⟨g, o, none⟩) (xs.length + 1) cap) w1 := fun ty =>
        run_append_room2 (t := 38) (u := 38) (el := 53) (i := i0) rfl rfl rfl rfl Tryz.underlying38 hi0 (.inr ⟨_, Tryz.underlying38⟩) (hlenv w) (hfv w rfl) hroom (fun ad had => by cases had; rw [hz1, Addr.add_lit]; exact q1) (fun q => by cases q)
      refine (insert_end (some ⟨g, o, none⟩) xs.length cap vb vo cap2 hlc (fun q => by cases q) w w1 _ hrun).mono ?_
      rintro e w' ⟨rfl, rfl⟩
      refine came_row (ms := [.own (.row true ET), .val (.int .i64), .own (.row true ET)]) (vs := row ++ vs) (out := ()) (keeps_poked q2 (s1 g hg)) (.inl (s1 g hg)) hd hlt (fun v hv => by cases hv) (fun v hv => by cases hv) trivial hys.symm hroom q2.this (by simp [sets_length]; exact hcs) (by simpa [sets_length] using hfr) (fun j v hv => ?_) (et_reps (RepN_app hrep hvr))
      have hj := (List.getElem?_eq_some_iff.1 hv).1
      rw [List.length_append, hrl, hvl] at hj
      rw [List.getElem?_toArray, sets_get]
      by_cases hj2 : j < xs.length * 2
      · rw [if_neg (by omega), Array.getElem?_toList]
        rw [List.getElem?_append_left (by omega)] at hv
        exact hrow j v hv
      · rw [List.getElem?_append_right (by omega)] at hv
        rw [if_pos ⟨by omega, by omega, by simp; omega⟩, ← hv]
        congr 1; omega
    · have hcap : cap = xs.length := by omega
      subst hcap
      obtain ⟨row, hrl, hrep, hold⟩ : ∃ row : List Value, row.length = xs.length * 2 ∧ RepN (RepS w I ET) xs row ∧ (Builtin.firstCells i0.size xs.length (.slice a xs.length xs.length)).run Tryz.prog w.drew = .ok row.toArray w.drew := by
        by_cases hz : 0 < xs.length
        · obtain ⟨-, -, g, o, cs, et, fr, row, rfl, hg, hb, hcs, hfr, hrl, hrow, hrep, hone⟩ := row_lies ho hz
          refine ⟨row, hrl, hrep, ?_⟩
          rw [hz1]
          exact run_firstCells_some w.drew 2 xs.length ⟨g, o, none⟩ xs.length xs.length row hrl (fun j u hu => by
            rw [Addr.add_lit]
            show w.cell? _ = _
            rw [cell_row hb]
            exact hrow j u hu)
        · have : xs = [] := List.length_eq_zero_iff.1 (by omega)
          subst this
          refine ⟨[], rfl, rfl, ?_⟩
          cases a with
          | none => exact run_firstCells_none w.drew _ _ _ _
          | some a => exact run_firstCells_some w.drew _ _ a _ _ [] (by simp) (fun j v h => by simp at h)
      have hg63 : Builtin.nextslicecap (xs.length + 1) xs.length * i0.bytes ≤ 281474976710656 := by rw [hz2]; exact growslice_fits (by omega) hbig
      have hrun : ∀ ty, (Builtin.append_ #[38, 38] ty #[.slice a xs.length xs.length, .slice (some ⟨vb, vo, none⟩) 1 cap2]).run Tryz.prog w = .ok (.slice (some ⟨w.heap.size, 0, none⟩) (xs.length + 1) (grownCap w (xs.length + 1) xs.length 53)) (w.drew.alloc (.cells (row.toArray ++ vs.toArray ++ Builtin.zeroCells zz (grownCap w (xs.length + 1) xs.length 53 - (xs.length + 1))) 53)) := fun ty =>
        run_append_new (t := 38) (u := 38) (el := 53) (i := i0) rfl rfl rfl rfl Tryz.underlying38 hi0 hz0 (.inr ⟨_, Tryz.underlying38⟩) (hlenv w) hold (hfv w.drew rfl) hroom (by omega) hg63
      have hA : a = none → xs.length = 0 ∧ xs.length = 0 := fun q => by
        rcases ho.2.2 with h | ⟨ad, cs, et, fr, vs, F', e, _⟩
        · exact ⟨h, h⟩
        · rw [q] at e; cases e
      refine (insert_end a xs.length xs.length vb vo cap2 (Nat.le_refl _) hA w _ _ hrun).mono ?_
      rintro e w' ⟨rfl, rfl⟩
      have hG := grownCap_ge w (xs.length + 1) xs.length 53
      refine came_row (ms := [.own (.row true ET), .val (.int .i64), .own (.row true ET)]) (vs := row ++ vs) (out := ()) (et := 53) (fr := (0, 0)) (keeps_new rfl rfl rfl (below_alloc (Below.refl w.drew.heap.size w.drew) _).size (fun k hk => alloc_old2 w.drew _ k hk)) (.inr (Nat.le_refl _)) hd hlt (fun v hv => by cases hv) (fun v hv => by cases hv) trivial hys.symm hG (alloc_new w.drew _) ?_ ⟨.inl (Nat.le_refl _), fun _ => Nat.le_refl _⟩ (fun j v hv => ?_) (et_reps (RepN_app hrep hvr))
      · simp only [Array.size_append, List.size_toArray, zz_size, hrl, hvl]; omega
      · rw [Nat.zero_add, Array.getElem?_append_left (by simp only [Array.size_append, List.size_toArray]; have := (List.getElem?_eq_some_iff.1 hv).1; rw [List.length_append] at this; exact this)]
        rw [List.append_toArray, List.getElem?_toArray]
        exact hv
  · have hilt : i < xs.length := by omega
    obtain ⟨-, -, g, o, cs, et, fr, row, rfl, hg, hb, hcs, hfr, hrl, hrow, hrep, hone⟩ := row_lies ho (by omega)
    have h1r : ∀ v ∈ row, v.oneCell' = true := fun v hv => oneCell_eq (hone v hv)
    have k1 := RepN_take (fun _ _ h => RepS.length h) (n := 2) i hrep
    have hrep2 : RepN (RepS w I ET) (xs.take i ++ ([y] ++ xs.drop i)) (row.take (i * 2) ++ (vs ++ row.drop (i * 2))) := RepN_app k1.1 (RepN_app hvr k1.2)
    have hdl : (row.drop (i * 2)).length = (xs.length - i) * 2 := by rw [List.length_drop, hrl]; omega
    have hne : vb ≠ g := fun q => hdis g hg (q ▸ hvF)
    have hget : ∀ (f : Nat → Option Value), (∀ j, j < i * 2 → f j = row[j]?) → (∀ j, j < 2 → f (i * 2 + j) = vs[j]?) → (∀ j, j < (xs.length - i) * 2 → f ((i + 1) * 2 + j) = (row.drop (i * 2))[j]?) → ∀ j v, (row.take (i * 2) ++ (vs ++ row.drop (i * 2)))[j]? = some v → f j = some v := by
      intro f f1 f2 f3 j v hv
      have hj := (List.getElem?_eq_some_iff.1 hv).1
      simp only [List.length_append, List.length_take, hdl, hrl, hvl] at hj
      by_cases c1 : j < i * 2
      · rw [List.getElem?_append_left (by rw [List.length_take]; omega), List.getElem?_take_of_lt c1] at hv
        rw [f1 j c1, hv]
      · rw [List.getElem?_append_right (by rw [List.length_take]; omega), List.length_take, Nat.min_eq_left (by omega)] at hv
        by_cases c2 : j < i * 2 + 2
        · rw [List.getElem?_append_left (by omega)] at hv
          have := f2 (j - i * 2) (by omega)
          rw [show i * 2 + (j - i * 2) = j by omega] at this
          rw [this, hv]
        · rw [List.getElem?_append_right (by omega), hvl] at hv
          have := f3 (j - i * 2 - 2) (by omega)
          rw [show (i + 1) * 2 + (j - i * 2 - 2) = j by omega] at this
          rw [this, hv]
    by_cases hroom : xs.length + 1 ≤ cap
    · refine (insert_shift g o xs.length cap i vb vo cap2 cs cv et et' fr fr' row vs w hb hfr.1 hfr' hcs hroom hbig hilt hrl hrow h1r hv hne hvl hvs h1v).mono ?_
      rintro e w' ⟨rfl, rfl⟩
      have p1 := setCells_poked (et := et) (fr := fr) (row.drop (i * 2)) (o + (i + 1) * 2) w.drew cs hb
      have p2 := setCells_poked (et := et) (fr := fr) vs (o + i * 2) _ _ p1.this
      have p := poked_two p1 p2
      refine came_row (ms := [.own (.row true ET), .val (.int .i64), .own (.row true ET)]) (vs := row.take (i * 2) ++ (vs ++ row.drop (i * 2))) (out := ()) (keeps_drew_out (keeps_poked p (s1 g hg))) (.inl (s1 g hg)) hd hlt (fun v hv => by cases hv) (fun v hv => by cases hv) trivial hys.symm hroom p.this (by simp [sets_length]; exact hcs) (by simpa [sets_length] using hfr) (hget _ (fun j hj => ?_) (fun j hj => ?_) (fun j hj => ?_)) (et_reps hrep2)
      · rw [List.getElem?_toArray, sets_get, if_neg (by omega)]
        show (sets cs.toList (o + (i + 1) * 2) (row.drop (i * 2)))[o + j]? = _
        rw [sets_get, if_neg (by omega), Array.getElem?_toList]
        obtain ⟨u, hu⟩ := get_at (l := row) (i := j) (by omega)
        rw [hu]; exact hrow j u hu
      · rw [List.getElem?_toArray, sets_get, if_pos ⟨by omega, by omega, by simp [sets_length]; omega⟩]
        congr 1; omega
      · rw [List.getElem?_toArray, sets_get, if_neg (by omega)]
        show (sets cs.toList (o + (i + 1) * 2) (row.drop (i * 2)))[o + ((i + 1) * 2 + j)]? = _
        rw [sets_get, if_pos ⟨by omega, by omega, by simp; omega⟩]
        congr 1; omega
    · have hcap : cap = xs.length := by omega
      subst hcap
      refine (insert_grow g o xs.length i vb vo cap2 cs cv et et' fr fr' row vs w hb hbig hilt hrl hrow h1r hv hvl hvs h1v).mono ?_
      rintro e w' ⟨rfl, rfl⟩
      have hG := grownCap_ge w (xs.length + 1) xs.length 53
      generalize grownCap w (xs.length + 1) xs.length 53 = G at hG
      obtain ⟨ROW, hROW⟩ : ∃ ROW : Array Value, ROW = (row.take (i * 2)).toArray ++ Builtin.zeroCells zz (xs.length + 1 - i) ++ Builtin.zeroCells zz (G - (xs.length + 1)) := ⟨_, rfl⟩
      rw [← hROW]
      have hRl : ROW.size = G * 2 := by
        rw [hROW]; simp only [Array.size_append, List.size_toArray, zz_size, List.length_take, hrl]; omega
      have hR1 : ∀ j, j < i * 2 → ROW[j]? = row[j]? := fun j hj => by
        rw [hROW, Array.append_assoc, Array.getElem?_append_left (by simp [hrl]; omega), List.getElem?_toArray, List.getElem?_take_of_lt hj]
      have p1 := setCells_poked (et := 53) (fr := (0, 0)) vs (i * 2) (w.alloc (.cells ROW 53)).drew ROW (alloc_new w _)
      have p2 := setCells_poked (et := 53) (fr := (0, 0)) (row.drop (i * 2)) ((i + 1) * 2) ((w.alloc (.cells ROW 53)).drew.setCells w.heap.size (i * 2) vs).drew _ p1.this
      refine came_row (ms := [.own (.row true ET), .val (.int .i64), .own (.row true ET)]) (vs := row.take (i * 2) ++ (vs ++ row.drop (i * 2))) (out := ()) (off := 0) (et := 53) (fr := (0, 0)) (keeps_new ?_ ?_ ?_ ?_ (fun k hk => ?_)) (.inr (Nat.le_refl _)) hd hlt (fun v hv => by cases hv) (fun v hv => by cases hv) trivial hys.symm hG p2.this ?_ ⟨.inl (Nat.le_refl _), fun _ => Nat.le_refl _⟩ (hget _ (fun j hj => ?_) (fun j hj => ?_) (fun j hj => ?_)) (et_reps hrep2)
      · exact p2.os.trans p1.os
      · exact p2.tape.trans p1.tape
      · exact p2.output.trans p1.output
      · rw [p2.size]
        show _ ≤ ((w.alloc (.cells ROW 53)).drew.setCells w.heap.size (i * 2) vs).heap.size
        rw [p1.size]
        exact (below_alloc (Below.refl w.heap.size w) (.cells ROW 53)).size
      · rw [p2.same k (by omega)]
        show ((w.alloc (.cells ROW 53)).drew.setCells w.heap.size (i * 2) vs).heap[k]? = _
        rw [p1.same k (by omega)]
        exact alloc_old2 w _ k hk
      · simp [sets_length]; omega
      · rw [Nat.zero_add, List.getElem?_toArray, sets_get, if_neg (by omega)]
        show (sets ROW.toList (i * 2) vs)[j]? = _
        rw [sets_get, if_neg (by omega), Array.getElem?_toList]
        exact hR1 j hj
      · rw [Nat.zero_add, List.getElem?_toArray, sets_get, if_neg (by omega)]
        show (sets ROW.toList (i * 2) vs)[i * 2 + j]? = _
        rw [sets_get, if_pos ⟨by omega, by omega, by simp; omega⟩]
        congr 1; omega
      · rw [Nat.zero_add, List.getElem?_toArray, sets_get, if_pos ⟨by omega, by omega, by simp [sets_length]; omega⟩]
        congr 1; omega
theorem known_insert (hE : Entered Tryz.prog 95) : Known Tryz.prog 95 ⟨[.own (.row true ET), .val (.int .i64), .own (.row true ET)], [.row true ET], .pair (.row true ET) .unit, insertF⟩ := by
  refine ⟨hE, ?_⟩
  intro w I OW V x vals r hA hd hlt hV hx
  obtain ⟨v, us, vs', O1, O2, rfl, hv, ⟨a, len, cap, rfl, ho⟩, s1, s2, hdis, hA⟩ := hA
  obtain ⟨v1, u1, l1, rfl, q1, r1, v2, u2, l2, O3, O4, rfl, hv2, ⟨b, len2, cap2, rfl, ho2⟩, s3, s4, -, rfl, rfl⟩ := hA
  have r1 : u1 = [.int .i64 x.2.1] := r1
  subst r1
  obtain rfl := (List.cons.inj (q1.2 rfl)).1
  obtain rfl := (List.cons.inj (hv2.2 rfl)).1
  obtain rfl := (List.cons.inj (hv.2 rfl)).1
  exact insert_calls (xs := x.1) (ys := x.2.2.1) (ho.resolve_left (by simp)) (ho2.resolve_left (by simp)) s1 (fun k h1 h2 => hdis k h1 (s3 k h2)) hd hlt hx
end Go.Proofs.YtekcpaiphcmfmaaGreat.V
namespace Go.Proofs.YtekcpaiphcmfmaaGreat.V
open Go Go.RowKit Go.Proofs Go.Shelf Go.Lib
def cloneF (e : Ty) (bytes : Nat) (x : List e.den × Unit) : Option (Unit × (List e.den × Unit)) :=
  if x.1.length * bytes ≤ 140737488355328 then some ((), x.1, ()) else none
section
variable {P : Program} {ρ : Ren}
set_option maxHeartbeats 2000000 in
set_option maxRecDepth 100000 in
theorem clone_zero (L : SlLaysE0.n41 P ρ) (i0 : TypeInfo) (z : Value) (size bytes : Nat) (hi : P.info? (ρ.t 23) = some i0) (hz0 : i0.zero = some z) (hz1 : i0.size = size) (hz2 : i0.bytes = bytes) (hzs : z.cells.size = size) (hsz : 0 < size)
    (z23 : ∀ w, (Go.sizeOf (ρ.t 23)).run P w = .ok size w) (a : Addr) (c : Nat) (w : World) :
    Calls P (ρ.f 41) #[.slice (some a) 0 c] w fun e w' => ∃ v', e = .returned v' ∧ w'.ownsRow w.heap.size (ρ.t 23) size v' 0 [] ∧ Below w.heap.size w w' := by
  have mixed := L.mixed; have t4 := L.t4; have a4 := L.a4; have z4 := L.z4; have v4 := L.v4; have t22 := L.t22; have a22 := L.a22; have z22 := L.z22; have v22 := L.v22
  have q22 : ∀ (w : World) (a : Option Addr) (n c n' c' : Nat), (binOp .eql (ρ.t 22) (.slice a n c) (.slice none n' c')).run P w = .ok (.bool a.isNone) w := fun w a n c n' c' => Lib.run_eql_slice_nil w _ _ a n c n' c' L.t22
  have u22 : ∀ w, Sem.run P (underlying (ρ.t 22)) w = .ok (TypeDesc.slice (ρ.t 23)) w := run_underlying t22
  obtain ⟨_, _, FG⟩ := L.f41
  go_enter FG, SlBodyN.n41_ntmps ρ
  go_wp2_with (at_builtin; refine wpList_append_own _ rfl _ _ (ρ.t 22) rfl w.heap.size (ρ.t 23) i0 z size bytes t22 hi hz0 hz1 hz2 hzs hsz _ _ _ rfl (World.ownsRow_made w #[] 0 (Nat.le_refl _) (Nat.zero_le _) (by simp)) a 0 c [] rfl (by simp) (by intro j u hj; simp at hj) (by intro u hu; cases hu) (by unfold maxLen; omega) (by omega) (by simp) ?_)
  intro v' w1 hown hgrow hnil
  go_wp2
  go_ret
  refine ⟨v', rfl, by simpa using hown, ?_⟩
  exact ((Below.refl _ w).alloc (Nat.le_refl _) _).grown hgrow (by simp) (by intro k hk; simp [Value.ownBlock] at hk; omega)
theorem clone_came {w w' : World} {I OW : Blocks} {e : Ty} {bytes : Nat} {f : (argsTy [.val (.row false e)]).den → Option ((outsTy [.val (.row false e)]).den × (Ty.pair (.row true e) .unit).den)} {V : List (Nat × Nat × Nat)} {vals : List Value} {ys : List e.den} {v' : Value} {et : TypeId} {vs : List Value} (he : e.plain = true) (hb : Below w.heap.size w w')
    (hlt : ∀ k, I k ∨ OW k → k < w.heap.size) (hV : ∀ v ∈ V, ¬ I v.1 ∧ ¬ OW v.1) (hVlt : ∀ v ∈ V, v.1 < w.heap.size) (h1 : ∀ u ∈ vs, oneCell u = true)
    (ho : w'.ownsRow w.heap.size et e.size v' ys.length vs) (hr : RepN (RepS w I e) ys vs) :
    Came ⟨[.val (.row false e)], [.row true e], .pair (.row true e) .unit, f⟩ ((), (ys, ())) w I OW V vals (.returned v') w' := by
  have hr' : RepN (RepS w' I e) ys vs := RepN.imp (fun _ _ h => RepS.frame (fun k hk => hb.block k (hlt k (.inl hk))) (fun _ h => h) h) hr
  have hkeep : Keeps w OW (RngOf V) w' := Keeps.of_below hb _ _
  obtain ⟨hvl, ho⟩ := ho
  rcases ho with ⟨rfl, hn⟩ | ⟨g, cap, cur, rfl, hg, hc, h2, h3, h4, h5⟩
  · have : ys = [] := List.length_eq_zero_iff.1 hn
    subst this
    refine ⟨_, rfl, hkeep, [.slice none 0 0], [.slice none 0 0], I, fun _ => False, fun _ => False, rfl, ?_⟩
    exact {
      I2 := fun k hk => .inl hk
      O := fun k hk => by rcases hk with hk | hk <;> exact hk.elim
      lt := fun k hk => by
        rcases hk with hk | hk | hk
        · exact Nat.lt_of_lt_of_le (hlt k (.inl hk)) hb.size
        · exact hk.elim
        · exact hk.elim
      d1 := fun k hk => hk.elim
      d2 := fun k hk => hk.elim
      d3 := fun k hk => hk.elim
      dV := fun u hu => ⟨(hV u hu).1, fun h => h, fun h => h⟩
      res := ⟨_, [], [_], [], rfl, rfl, ⟨fun q => (by cases q), fun _ => rfl⟩, rfl, rfl, rfl⟩
      val := ⟨[_], [], (fun _ => False), fun _ => False, rfl, fun _ h => h, fun _ h => h.elim, fun _ h => h.elim, ⟨_, _, _, rfl, .inr ⟨rfl, Nat.le_refl _, .inl rfl⟩⟩, rfl⟩
      outs := trivial }
  · have hgl := (Array.getElem?_eq_some_iff.1 hc).1
    refine ⟨_, rfl, hkeep, [.slice (some ⟨g, 0, none⟩) ys.length cap], [.slice (some ⟨g, 0, none⟩) ys.length cap], I, (fun k => k = g), fun _ => False, rfl, ?_⟩
    exact {
      I2 := fun k hk => .inl hk
      O := fun k hk => by
        rcases hk with rfl | hk
        · exact .inr hg
        · exact hk.elim
      lt := fun k hk => by
        rcases hk with hk | rfl | hk
        · exact Nat.lt_of_lt_of_le (hlt k (.inl hk)) hb.size
        · exact hgl
        · exact hk.elim
      d1 := fun k _ hk => hk
      d2 := fun k hk hi => by
        subst hk
        exact absurd (hlt k (.inl hi)) (by omega)
      d3 := fun k hk => hk.elim
      dV := fun u hu => ⟨(hV u hu).1, fun q => by
        have q : u.1 = g := q
        have := hVlt u hu
        omega, fun q => q⟩
      res := ⟨_, [], [_], [], rfl, rfl, ⟨fun q => (by cases q), fun _ => rfl⟩, rfl, rfl, rfl⟩
      val := ⟨[_], [], (fun k => k = g), fun _ => False, rfl, fun _ h => h, fun _ h => h.elim, fun _ _ h => h, ⟨_, _, _, rfl, .inr ⟨rfl, h2, .inr ⟨⟨g, 0, none⟩, cur, et, (0, 0), vs, fun _ => False, rfl, rfl, rfl, fun h => h, fun _ h => h.elim, hc, by show 0 + cap * e.size ≤ _; omega, ⟨.inl (Nat.le_refl _), fun _ => Nat.le_refl _⟩, ⟨cur, et, (0, 0), hc, by show 0 + vs.length ≤ _; have : ys.length * e.size ≤ cap * e.size := Nat.mul_le_mul_right _ h2; omega, fun i v hv => by
        show cur[0 + i]? = some v
        rw [Nat.zero_add, ← Array.getElem?_toList]
        rw [← h5] at hv
        have hi := (List.getElem?_eq_some_iff.1 hv).1
        rw [List.getElem?_take_of_lt (by rw [List.length_take] at hi; omega)] at hv
        exact hv⟩, plain_RepN he hr'⟩⟩⟩, rfl⟩
      outs := trivial }
theorem known_clone (L : SlLaysE0.n41 P ρ) (e : Ty) (he : e.plain = true) (i0 : TypeInfo) (z : Value) (bytes : Nat) (hi : P.info? (ρ.t 23) = some i0) (hz0 : i0.zero = some z) (hz1 : i0.size = e.size) (hz2 : i0.bytes = bytes) (hzs : z.cells.size = e.size) (hsz : 0 < e.size) (hby : 0 < bytes)
    (z23 : ∀ w, (Go.sizeOf (ρ.t 23)).run P w = .ok e.size w) (hE : Entered P (ρ.f 41)) : Known P (ρ.f 41) ⟨[.val (.row false e)], [.row true e], .pair (.row true e) .unit, cloneF e bytes⟩ := by
  refine ⟨hE, ?_⟩
  intro w I OW V x vals r hA hd hlt hV hx
  obtain ⟨v, us, vs', rfl, hv, hx0, rfl, rfl⟩ := hA
  obtain ⟨a, len, cap, rfl, hs⟩ := hx0
  obtain rfl := (List.cons.inj (hv.2 rfl)).1
  have hx : (if List.length (α := e.den) x.1 * bytes ≤ 140737488355328 then some ((), x.1, ()) else none) = some r := hx
  split at hx
  rotate_left
  · cases hx
  rename_i hbig
  obtain rfl := Option.some.inj hx
  have hs : SRow w I (α := e.den) (RepS w I e) x.1 a len cap := hs
  obtain ⟨xs, u⟩ := x
  simp only at hs hbig
  obtain ⟨hl, hc, h3⟩ := hs
  have hl : len = List.length (α := e.den) xs := hl
  subst hl
  have hone : ∀ {ys : List e.den} {vs : List Value}, RepN (RepS w I e) ys vs → ∀ u ∈ vs, oneCell u = true := fun h => RepNO_one (plain_RepN he h)
  cases a with
  | none =>
    have hn : xs = [] := by
      rcases h3 with h3 | ⟨ad, vs, e, _⟩
      · exact h3
      · cases e
    subst hn
    refine (AnyE.slices_Clone_nil L _ cap w).mono fun e w' he' => ?_
    obtain ⟨rfl, rfl⟩ := he'
    exact clone_came (et := 0) (bytes := bytes) (vs := []) he (Below.refl _ _) hlt hV (fun v hv => by cases hv) (fun u hu => by cases hu) (World.ownsRow_nil _ _ _ _) rfl
  | some ad =>
    by_cases hn : xs = []
    · subst hn
      refine (clone_zero L i0 z e.size bytes hi hz0 hz1 hz2 hzs hsz z23 ad cap w).mono fun e w' he' => ?_
      obtain ⟨v', rfl, ho, hb⟩ := he'
      exact clone_came (bytes := bytes) (vs := []) he hb hlt hV (fun v hv => by cases hv) (fun u hu => by cases hu) ho rfl
    · obtain ⟨ad', vs, e1, e2, e3, ⟨cs, et, fr, g1, g2, g3⟩, e5⟩ := h3.resolve_left hn
      obtain rfl := Option.some.inj e1
      have hvl : vs.length = xs.length * e.size := e5.length (n := e.size) (fun _ _ h => h.length)
      obtain ⟨g, o, sp⟩ := ad
      have e2 : sp = none := e2
      subst e2
      have hn1 : xs.length ≤ xs.length * bytes := Nat.le_mul_of_pos_right _ hby
      refine (AnyE.slices_Clone L i0 z e.size bytes hi hz0 hz1 hz2 hzs hsz z23 g o xs.length cap vs w hvl (by unfold maxLen; omega) hbig (fun j u hu => ?_) (fun u hu => oneCell_eq (hone e5 u hu))).mono fun e w' he' => ?_
      · show w.cell? ⟨g, o + j, none⟩ = _; rw [show w.cell? ⟨g, o + j, none⟩ = cs[o + j]? by simp [World.cell?, g1]]
        exact g3 j u hu
      · obtain ⟨v', rfl, ho, -, hb⟩ := he'
        exact clone_came (bytes := bytes) (vs := vs) he hb hlt hV (fun v hv => by cases hv) (hone e5) ho e5
end
def clone_ren61 : Ren := ⟨fun | 41 => 61 | n => n, fun | 4 => 4 | 22 => 22 | 23 => 9 | n => n, fun n => n⟩
theorem clone_lays61 : SlLaysE0.n41 Tryz.prog clone_ren61 where
  mixed := by kernel_rfl
  f41 := ⟨ "slices.Clone[[]string,string]", by kernel_rfl, Tryz.func61.trans (congrArg some (by kernel_rfl))⟩
  t4 := Tryz.underlying4
  a4 := Tryz.isAgg4
  z4 := Tryz.sizeOf4
  v4 := Tryz.zeroValue4
  t22 := Tryz.underlying22
  a22 := Tryz.isAgg22
  z22 := Tryz.sizeOf22
  v22 := Tryz.zeroValue22
theorem known_clone61 : Known Tryz.prog 61 ⟨[.val (.row false .str)], [.row true .str], .pair (.row true .str) .unit, cloneF .str 16⟩ := by
  obtain ⟨i0, hi, hz0, hz1, hz2⟩ := info_parts (show (Tryz.prog.info? 9).map (fun i => (i.zero, i.size, i.bytes)) = some (some (.string ByteArray.empty), 1, 16) by kernel_rfl)
  exact known_clone clone_lays61 .str rfl i0 (.string ByteArray.empty) 16 hi hz0 hz1 hz2 rfl (by decide) (by decide) Tryz.sizeOf9 (entered_of Tryz.func61 (by kernel_rfl))
def clone_ren62 : Ren := ⟨fun | 41 => 62 | n => n, fun | 4 => 4 | 22 => 34 | 23 => 90 | n => n, fun n => n⟩
theorem clone_lays62 : SlLaysE0.n41 Tryz.prog clone_ren62 where
  mixed := by kernel_rfl
  f41 := ⟨ "slices.Clone[[]loop.example/g00118/impl.Put,loop.example/g00118/impl.Put]", by kernel_rfl, Tryz.func62.trans (congrArg some (by kernel_rfl))⟩
  t4 := Tryz.underlying4
  a4 := Tryz.isAgg4
  z4 := Tryz.sizeOf4
  v4 := Tryz.zeroValue4
  t22 := Tryz.underlying34
  a22 := Tryz.isAgg34
  z22 := Tryz.sizeOf34
  v22 := Tryz.zeroValue34
theorem known_clone62 : Known Tryz.prog 62 ⟨[.val (.row false (.pair (.int .i64) (.pair .str .unit)))], [.row true (.pair (.int .i64) (.pair .str .unit))], .pair (.row true (.pair (.int .i64) (.pair .str .unit))) .unit, cloneF (.pair (.int .i64) (.pair .str .unit)) 24⟩ := by
  obtain ⟨i0, hi, hz0, hz1, hz2⟩ := info_parts (show (Tryz.prog.info? 90).map (fun i => (i.zero, i.size, i.bytes)) = some (some (.agg #[.int .i64 0, .string ByteArray.empty]), 2, 24) by kernel_rfl)
  exact known_clone clone_lays62 (.pair (.int .i64) (.pair .str .unit)) rfl i0 (.agg #[.int .i64 0, .string ByteArray.empty]) 24 hi hz0 hz1 hz2 rfl (by decide) (by decide) Tryz.sizeOf90 (entered_of Tryz.func62 (by kernel_rfl))
def clone_ren71 : Ren := ⟨fun | 41 => 71 | n => n, fun | 4 => 4 | 22 => 38 | 23 => 53 | n => n, fun n => n⟩
theorem clone_lays71 : SlLaysE0.n41 Tryz.prog clone_ren71 where
  mixed := by kernel_rfl
  f41 := ⟨ "slices.Clone[[]loop.example/g00118/impl.Entry,loop.example/g00118/impl.Entry]", by kernel_rfl, Tryz.func71.trans (congrArg some (by kernel_rfl))⟩
  t4 := Tryz.underlying4
  a4 := Tryz.isAgg4
  z4 := Tryz.sizeOf4
  v4 := Tryz.zeroValue4
  t22 := Tryz.underlying38
  a22 := Tryz.isAgg38
  z22 := Tryz.sizeOf38
  v22 := Tryz.zeroValue38
theorem known_clone71 : Known Tryz.prog 71 ⟨[.val (.row false (.pair .str (.pair .str .unit)))], [.row true (.pair .str (.pair .str .unit))], .pair (.row true (.pair .str (.pair .str .unit))) .unit, cloneF (.pair .str (.pair .str .unit)) 32⟩ := by
  obtain ⟨i0, hi, hz0, hz1, hz2⟩ := info_parts (show (Tryz.prog.info? 53).map (fun i => (i.zero, i.size, i.bytes)) = some (some (.agg #[.string ByteArray.empty, .string ByteArray.empty]), 2, 32) by kernel_rfl)
  exact known_clone clone_lays71 (.pair .str (.pair .str .unit)) rfl i0 (.agg #[.string ByteArray.empty, .string ByteArray.empty]) 32 hi hz0 hz1 hz2 rfl (by decide) (by decide) Tryz.sizeOf53 (entered_of Tryz.func71 (by kernel_rfl))
end Go.Proofs.YtekcpaiphcmfmaaGreat.V
set_option maxRecDepth 100000
namespace Go.Proofs.YtekcpaiphcmfmaaGreat.V
open Go Go.Proofs
@[irreducible] def fuel : Nat := 18446744073709551616
abbrev T105 : Ty := .pair (.int .i64) (.pair .str .unit)
abbrev S105 : Ty := .pair (.int .i64) (.pair .str .unit)
abbrev T25 : Ty := .pair (.row true .str) (.pair (.row true T105) .unit)
abbrev S25 : Ty := .pair (.row false .str) (.pair (.row false S105) .unit)
abbrev T27 : Ty := .pair (.int .i64) (.pair (.int .i64) (.pair (.int .i64) .unit))
abbrev S27 : Ty := .pair (.int .i64) (.pair (.int .i64) (.pair (.int .i64) .unit))
abbrev T79 : Ty := .pair .str (.pair .str .unit)
abbrev S79 : Ty := .pair .str (.pair .str .unit)
abbrev T30 : Ty := .pair .bool (.pair T25 (.pair T27 (.pair (.row true T79) .unit)))
abbrev S30 : Ty := .pair .bool (.pair S25 (.pair S27 (.pair (.row false S79) .unit)))
abbrev T90 : Ty := .pair (.int .i64) (.pair .str .unit)
abbrev S90 : Ty := .pair (.int .i64) (.pair .str .unit)
abbrev T36 : Ty := .pair (.row true .str) (.pair (.row true T90) .unit)
abbrev S36 : Ty := .pair (.row false .str) (.pair (.row false S90) .unit)
abbrev T37 : Ty := .pair (.int .i64) (.pair (.int .i64) (.pair (.int .i64) .unit))
abbrev S37 : Ty := .pair (.int .i64) (.pair (.int .i64) (.pair (.int .i64) .unit))
abbrev T53 : Ty := .pair .str (.pair .str .unit)
abbrev S53 : Ty := .pair .str (.pair .str .unit)
abbrev T40 : Ty := .pair .bool (.pair T36 (.pair T37 (.pair (.row true T53) .unit)))
abbrev S40 : Ty := .pair .bool (.pair S36 (.pair S37 (.pair (.row false S53) .unit)))
abbrev T96 : Ty := .pair (.int .i64) (.pair .str (.pair .str .unit))
abbrev S96 : Ty := .pair (.int .i64) (.pair .str (.pair .str .unit))
abbrev T116 : Ty := .pair (.row true (.int .u8)) (.pair (.int .i64) (.pair .bool .unit))
abbrev S116 : Ty := .pair (.row false (.int .u8)) (.pair (.int .i64) (.pair .bool .unit))
def tyTab : List (Nat × Ty) := [(3, (.int .i64)), (4, .bool), (5, (.int .u8)), (9, .str), (22, (.row true .str)), (23, (.row true T105)), (25, T25), (27, T27), (28, (.row true T79)), (30, T30), (34, (.row true T90)), (36, T36), (37, T37), (38, (.row true T53)), (40, T40), (53, T53), (69, (.row true T96)), (72, (.row true (.int .u8))), (79, T79), (90, T90), (96, T96), (105, T105), (116, T116), (118, .any), (127, .any), (133, (.int .u64))]
def tyE (i : Nat) : Ty := (look tyTab i).getD .unit
theorem mixed_ok : Tryz.prog.follows .mixedOrders = true := by kernel_rfl
theorem tab_ok : tabOk Tryz.prog tyTab = true := by kernel_rfl
def slices_Clone_string : ((List ByteArray) × Unit) → Option (Unit × ((List ByteArray) × Unit)) := cloneF .str 16
theorem slices_Clone_string_o : Known Tryz.prog 61 ⟨[.val (.row false .str)], [(.row true .str)], (.pair (.row true .str) .unit), slices_Clone_string⟩ := known_clone61
def slices_Clone_Put : ((List (Int × ByteArray × Unit)) × Unit) → Option (Unit × ((List (Int × ByteArray × Unit)) × Unit)) := cloneF (.pair (.int .i64) (.pair .str .unit)) 24
theorem slices_Clone_Put_o : Known Tryz.prog 62 ⟨[.val (.row false S90)], [(.row true T90)], (.pair (.row true T90) .unit), slices_Clone_Put⟩ := known_clone62
def slices_Clone_Entry : ((List (ByteArray × ByteArray × Unit)) × Unit) → Option (Unit × ((List (ByteArray × ByteArray × Unit)) × Unit)) := cloneF (.pair .str (.pair .str .unit)) 32
theorem slices_Clone_Entry_o : Known Tryz.prog 71 ⟨[.val (.row false S53)], [(.row true T53)], (.pair (.row true T53) .unit), slices_Clone_Entry⟩ := known_clone71
def slices_Delete_Entry : ((List (ByteArray × ByteArray × Unit)) × Int × Int × Unit) → Option (Unit × ((List (ByteArray × ByteArray × Unit)) × Unit)) := deleteF
theorem slices_Delete_Entry_o : Known Tryz.prog 94 ⟨[.own (.row true T53), .val (.int .i64), .val (.int .i64)], [(.row true T53)], (.pair (.row true T53) .unit), slices_Delete_Entry⟩ := known_delete (entered_of Tryz.func94 (by kernel_rfl))
def slices_Insert_Entry : ((List (ByteArray × ByteArray × Unit)) × Int × (List (ByteArray × ByteArray × Unit)) × Unit) → Option (Unit × ((List (ByteArray × ByteArray × Unit)) × Unit)) := insertF
theorem slices_Insert_Entry_o : Known Tryz.prog 95 ⟨[.own (.row true T53), .val (.int .i64), .own (.row true T53)], [(.row true T53)], (.pair (.row true T53) .unit), slices_Insert_Entry⟩ := known_insert (entered_of Tryz.func95 (by kernel_rfl))
def strings_Repeat : (ByteArray × Int × Unit) → Option (Unit × (ByteArray × Unit)) := repeatF
theorem strings_Repeat_o : Known Tryz.prog 101 ⟨[.val .str, .val (.int .i64)], [.str], (.pair .str .unit), strings_Repeat⟩ := known_repeat (entered_of Tryz.func101 (by kernel_rfl)) (fun s c w h1 h2 => Tryz.strings_Repeat s c w h1 h2)
def laws_szStringS_P0 : Tpl := ⟨[(0, .one (.leaf (.row false .str))), (1, .one (.leaf (.int .i64))), (5, .one (.leaf (.int .i64)))], [], []⟩
def laws_szStringS_O0 : Tpl := ⟨[(1, .one (.leaf (.int .i64)))], [], []⟩
def laws_szStringS_k0 (N : Nat) : Nat → (((Int × Unit) × (Unit × Unit)) → Option (Unit × (Int × Unit))) → (((List ByteArray) × Int × Int × Unit) × (Unit × Unit)) → Option (Unit × (Int × Unit))
  | 0, _, _ => none
  | n + 1, k, x =>
    tb (ilt x.1.2.2.1 (((llen x.1.1) : Nat) : Int))
    (chk (0 ≤ x.1.2.2.1) (obind (at? x.1.1 (Int.toNat x.1.2.2.1)) fun v0 =>
        tb (ilt (wr .i64 (x.1.2.1 - (((slen v0) : Nat) : Int))) 0)
        (some ((), (-1), ()))
        (laws_szStringS_k0 N n k ((x.1.1, (wr .i64 (x.1.2.1 - (((slen v0) : Nat) : Int))), (wr .i64 (x.1.2.2.1 + 1)), ()), (), ()))) (none))
    (k ((x.1.2.1, ()), (), ()))
def laws_szStringS_k (N : Nat) (x0 : (List ByteArray)) (x1 : Int) : Option (Unit × (Int × Unit)) :=
  tb (ilt (wr .i64 (x1 - (((llen x0) : Nat) : Int))) 0)
  (some ((), (-1), ()))
  (laws_szStringS_k0 N N (fun v0 =>
      some ((), v0.1.1, ())) ((x0, (wr .i64 (x1 - (((llen x0) : Nat) : Int))), 0, ()), (), ()))
def laws_szStringS (x : ((List ByteArray) × Int × Unit)) : Option (Unit × (Int × Unit)) := laws_szStringS_k fuel x.1 x.2.1
def laws_szStringS_s : List (Nat × Con) := []
def laws_szStringS_E : Env := ⟨fun j => (look tyTab j).getD .unit, fun j => look laws_szStringS_s j⟩
theorem laws_szStringS_r0 (N n : Nat) (k : laws_szStringS_O0.ty.den → Option (Unit × (Int × Unit))) (x : laws_szStringS_P0.ty.den) : roundK laws_szStringS_E ⟨Tryz.f49.ntmps, N, (fun i => look [(0, ⟨laws_szStringS_P0, laws_szStringS_O0, [], [], laws_szStringS_k0 N⟩)] i), retK laws_szStringS_E Tryz.f49 [.val (.row false .str), .val (.int .i64)] [(.int .i64)] (.pair (.int .i64) .unit)⟩ (Tryz.f49.body.getD .skip) 0 ⟨laws_szStringS_P0, laws_szStringS_O0, [], [], laws_szStringS_k0 N⟩ (laws_szStringS_k0 N n k) k x = laws_szStringS_k0 N (n + 1) k x := by kernel_rfl
theorem laws_szStringS_f_eq (N : Nat) (x0 : (List ByteArray)) (x1 : Int) : funK laws_szStringS_E Tryz.f49 [.val (.row false .str), .val (.int .i64)] [(.int .i64)] (.pair (.int .i64) .unit) (fun i => look [(0, ⟨laws_szStringS_P0, laws_szStringS_O0, [], [], laws_szStringS_k0 N⟩)] i) N (x0, x1, ()) = laws_szStringS_k N x0 x1 := by kernel_rfl
theorem laws_szStringS_o : Known Tryz.prog 49 ⟨[.val (.row false .str), .val (.int .i64)], [(.int .i64)], (.pair (.int .i64) .unit), laws_szStringS⟩ := known_of (tab := tyTab) (cons := laws_szStringS_s) (segs := [(0, ⟨laws_szStringS_P0, laws_szStringS_O0, [], [], laws_szStringS_k0 fuel⟩)]) (n := fuel) mixed_ok tab_ok .nil Tryz.func49 (by kernel_rfl) ⟨⟨fun _ _ => rfl, fun n k x => laws_szStringS_r0 fuel n k x⟩, trivial⟩ (fun x => laws_szStringS_f_eq fuel x.1 x.2.1)
def laws_szPut_k (N : Nat) (x0 : (Int × ByteArray × Unit)) (x1 : Int) : Option (Unit × (Int × Unit)) :=
  tb (ilt (wr .i64 (x1 - (((slen x0.2.1) : Nat) : Int))) 0)
  (some ((), (-1), ()))
  (some ((), (wr .i64 (x1 - (((slen x0.2.1) : Nat) : Int))), ()))
def laws_szPut (x : ((Int × ByteArray × Unit) × Int × Unit)) : Option (Unit × (Int × Unit)) := laws_szPut_k fuel x.1 x.2.1
def laws_szPut_s : List (Nat × Con) := []
def laws_szPut_E : Env := ⟨fun j => (look tyTab j).getD .unit, fun j => look laws_szPut_s j⟩
theorem laws_szPut_f_eq (N : Nat) (x0 : (Int × ByteArray × Unit)) (x1 : Int) : funK laws_szPut_E Tryz.f79 [.val S105, .val (.int .i64)] [(.int .i64)] (.pair (.int .i64) .unit) (fun i => look [] i) N (x0, x1, ()) = laws_szPut_k N x0 x1 := by kernel_rfl
theorem laws_szPut_o : Known Tryz.prog 79 ⟨[.val S105, .val (.int .i64)], [(.int .i64)], (.pair (.int .i64) .unit), laws_szPut⟩ := known_of (tab := tyTab) (cons := laws_szPut_s) (segs := []) (n := fuel) mixed_ok tab_ok .nil Tryz.func79 (by kernel_rfl) trivial (fun x => laws_szPut_f_eq fuel x.1 x.2.1)
def laws_szPutS_P0 : Tpl := ⟨[(0, .one (.leaf (.row false (.pair (.int .i64) (.pair .str .unit))))), (1, .one (.leaf (.int .i64))), (5, .one (.leaf (.int .i64)))], [], []⟩
def laws_szPutS_O0 : Tpl := ⟨[(1, .one (.leaf (.int .i64)))], [], []⟩
def laws_szPutS_k0 (N : Nat) : Nat → (((Int × Unit) × (Unit × Unit)) → Option (Unit × (Int × Unit))) → (((List (Int × (ByteArray × Unit))) × Int × Int × Unit) × (Unit × Unit)) → Option (Unit × (Int × Unit))
  | 0, _, _ => none
  | n + 1, k, x =>
    tb (ilt x.1.2.2.1 (((llen x.1.1) : Nat) : Int))
    (chk (0 ≤ x.1.2.2.1) (obind (at? x.1.1 (Int.toNat x.1.2.2.1)) fun v0 =>
        obind (laws_szPut ((v0.1, v0.2.1, ()), x.1.2.1, ())) fun v1 =>
        tb (ilt v1.2.1 0)
        (some ((), (-1), ()))
        (laws_szPutS_k0 N n k ((x.1.1, v1.2.1, (wr .i64 (x.1.2.2.1 + 1)), ()), (), ()))) (none))
    (k ((x.1.2.1, ()), (), ()))
def laws_szPutS_k (N : Nat) (x0 : (List (Int × ByteArray × Unit))) (x1 : Int) : Option (Unit × (Int × Unit)) :=
  tb (ilt (wr .i64 (x1 - (((llen x0) : Nat) : Int))) 0)
  (some ((), (-1), ()))
  (laws_szPutS_k0 N N (fun v0 =>
      some ((), v0.1.1, ())) ((x0, (wr .i64 (x1 - (((llen x0) : Nat) : Int))), 0, ()), (), ()))
def laws_szPutS (x : ((List (Int × ByteArray × Unit)) × Int × Unit)) : Option (Unit × (Int × Unit)) := laws_szPutS_k fuel x.1 x.2.1
def laws_szPutS_s : List (Nat × Con) := [(79, ⟨[.val S105, .val (.int .i64)], [(.int .i64)], (.pair (.int .i64) .unit), laws_szPut⟩)]
def laws_szPutS_E : Env := ⟨fun j => (look tyTab j).getD .unit, fun j => look laws_szPutS_s j⟩
theorem laws_szPutS_r0 (N n : Nat) (k : laws_szPutS_O0.ty.den → Option (Unit × (Int × Unit))) (x : laws_szPutS_P0.ty.den) : roundK laws_szPutS_E ⟨Tryz.f50.ntmps, N, (fun i => look [(0, ⟨laws_szPutS_P0, laws_szPutS_O0, [], [], laws_szPutS_k0 N⟩)] i), retK laws_szPutS_E Tryz.f50 [.val (.row false S105), .val (.int .i64)] [(.int .i64)] (.pair (.int .i64) .unit)⟩ (Tryz.f50.body.getD .skip) 0 ⟨laws_szPutS_P0, laws_szPutS_O0, [], [], laws_szPutS_k0 N⟩ (laws_szPutS_k0 N n k) k x = laws_szPutS_k0 N (n + 1) k x := by kernel_rfl
theorem laws_szPutS_f_eq (N : Nat) (x0 : (List (Int × ByteArray × Unit))) (x1 : Int) : funK laws_szPutS_E Tryz.f50 [.val (.row false S105), .val (.int .i64)] [(.int .i64)] (.pair (.int .i64) .unit) (fun i => look [(0, ⟨laws_szPutS_P0, laws_szPutS_O0, [], [], laws_szPutS_k0 N⟩)] i) N (x0, x1, ()) = laws_szPutS_k N x0 x1 := by kernel_rfl
theorem laws_szPutS_o : Known Tryz.prog 50 ⟨[.val (.row false S105), .val (.int .i64)], [(.int .i64)], (.pair (.int .i64) .unit), laws_szPutS⟩ := known_of (tab := tyTab) (cons := laws_szPutS_s) (segs := [(0, ⟨laws_szPutS_P0, laws_szPutS_O0, [], [], laws_szPutS_k0 fuel⟩)]) (n := fuel) mixed_ok tab_ok (.cons laws_szPut_o .nil) Tryz.func50 (by kernel_rfl) ⟨⟨fun _ _ => rfl, fun n k x => laws_szPutS_r0 fuel n k x⟩, trivial⟩ (fun x => laws_szPutS_f_eq fuel x.1 x.2.1)
def laws_szDisk_k (N : Nat) (x0 : ((List ByteArray) × (List (Int × ByteArray × Unit)) × Unit)) (x1 : Int) : Option (Unit × (Int × Unit)) :=
  obind (laws_szStringS (x0.1, x1, ())) fun v0 =>
  tb (ilt v0.2.1 0)
  (some ((), (-1), ()))
  (obind (laws_szPutS (x0.2.1, v0.2.1, ())) fun v1 =>
    tb (ilt v1.2.1 0)
    (some ((), (-1), ()))
    (some ((), v1.2.1, ())))
def laws_szDisk (x : (((List ByteArray) × (List (Int × ByteArray × Unit)) × Unit) × Int × Unit)) : Option (Unit × (Int × Unit)) := laws_szDisk_k fuel x.1 x.2.1
def laws_szDisk_s : List (Nat × Con) := [(49, ⟨[.val (.row false .str), .val (.int .i64)], [(.int .i64)], (.pair (.int .i64) .unit), laws_szStringS⟩), (50, ⟨[.val (.row false S105), .val (.int .i64)], [(.int .i64)], (.pair (.int .i64) .unit), laws_szPutS⟩)]
def laws_szDisk_E : Env := ⟨fun j => (look tyTab j).getD .unit, fun j => look laws_szDisk_s j⟩
theorem laws_szDisk_f_eq (N : Nat) (x0 : ((List ByteArray) × (List (Int × ByteArray × Unit)) × Unit)) (x1 : Int) : funK laws_szDisk_E Tryz.f20 [.val S25, .val (.int .i64)] [(.int .i64)] (.pair (.int .i64) .unit) (fun i => look [] i) N (x0, x1, ()) = laws_szDisk_k N x0 x1 := by kernel_rfl
theorem laws_szDisk_o : Known Tryz.prog 20 ⟨[.val S25, .val (.int .i64)], [(.int .i64)], (.pair (.int .i64) .unit), laws_szDisk⟩ := known_of (tab := tyTab) (cons := laws_szDisk_s) (segs := []) (n := fuel) mixed_ok tab_ok (.cons laws_szStringS_o (.cons laws_szPutS_o .nil)) Tryz.func20 (by kernel_rfl) trivial (fun x => laws_szDisk_f_eq fuel x.1 x.2.1)
def laws_szEntry_k (N : Nat) (x0 : (ByteArray × ByteArray × Unit)) (x1 : Int) : Option (Unit × (Int × Unit)) :=
  tb (ilt (wr .i64 (x1 - (((slen x0.1) : Nat) : Int))) 0)
  (some ((), (-1), ()))
  (tb (ilt (wr .i64 ((wr .i64 (x1 - (((slen x0.1) : Nat) : Int))) - (((slen x0.2.1) : Nat) : Int))) 0)
    (some ((), (-1), ()))
    (some ((), (wr .i64 ((wr .i64 (x1 - (((slen x0.1) : Nat) : Int))) - (((slen x0.2.1) : Nat) : Int))), ())))
def laws_szEntry (x : ((ByteArray × ByteArray × Unit) × Int × Unit)) : Option (Unit × (Int × Unit)) := laws_szEntry_k fuel x.1 x.2.1
def laws_szEntry_s : List (Nat × Con) := []
def laws_szEntry_E : Env := ⟨fun j => (look tyTab j).getD .unit, fun j => look laws_szEntry_s j⟩
theorem laws_szEntry_f_eq (N : Nat) (x0 : (ByteArray × ByteArray × Unit)) (x1 : Int) : funK laws_szEntry_E Tryz.f51 [.val S79, .val (.int .i64)] [(.int .i64)] (.pair (.int .i64) .unit) (fun i => look [] i) N (x0, x1, ()) = laws_szEntry_k N x0 x1 := by kernel_rfl
theorem laws_szEntry_o : Known Tryz.prog 51 ⟨[.val S79, .val (.int .i64)], [(.int .i64)], (.pair (.int .i64) .unit), laws_szEntry⟩ := known_of (tab := tyTab) (cons := laws_szEntry_s) (segs := []) (n := fuel) mixed_ok tab_ok .nil Tryz.func51 (by kernel_rfl) trivial (fun x => laws_szEntry_f_eq fuel x.1 x.2.1)
def laws_szEntryS_P0 : Tpl := ⟨[(0, .one (.leaf (.row false (.pair .str (.pair .str .unit))))), (1, .one (.leaf (.int .i64))), (5, .one (.leaf (.int .i64)))], [], []⟩
def laws_szEntryS_O0 : Tpl := ⟨[(1, .one (.leaf (.int .i64)))], [], []⟩
def laws_szEntryS_k0 (N : Nat) : Nat → (((Int × Unit) × (Unit × Unit)) → Option (Unit × (Int × Unit))) → (((List (ByteArray × (ByteArray × Unit))) × Int × Int × Unit) × (Unit × Unit)) → Option (Unit × (Int × Unit))
  | 0, _, _ => none
  | n + 1, k, x =>
    tb (ilt x.1.2.2.1 (((llen x.1.1) : Nat) : Int))
    (chk (0 ≤ x.1.2.2.1) (obind (at? x.1.1 (Int.toNat x.1.2.2.1)) fun v0 =>
        obind (laws_szEntry ((v0.1, v0.2.1, ()), x.1.2.1, ())) fun v1 =>
        tb (ilt v1.2.1 0)
        (some ((), (-1), ()))
        (laws_szEntryS_k0 N n k ((x.1.1, v1.2.1, (wr .i64 (x.1.2.2.1 + 1)), ()), (), ()))) (none))
    (k ((x.1.2.1, ()), (), ()))
def laws_szEntryS_k (N : Nat) (x0 : (List (ByteArray × ByteArray × Unit))) (x1 : Int) : Option (Unit × (Int × Unit)) :=
  tb (ilt (wr .i64 (x1 - (((llen x0) : Nat) : Int))) 0)
  (some ((), (-1), ()))
  (laws_szEntryS_k0 N N (fun v0 =>
      some ((), v0.1.1, ())) ((x0, (wr .i64 (x1 - (((llen x0) : Nat) : Int))), 0, ()), (), ()))
def laws_szEntryS (x : ((List (ByteArray × ByteArray × Unit)) × Int × Unit)) : Option (Unit × (Int × Unit)) := laws_szEntryS_k fuel x.1 x.2.1
def laws_szEntryS_s : List (Nat × Con) := [(51, ⟨[.val S79, .val (.int .i64)], [(.int .i64)], (.pair (.int .i64) .unit), laws_szEntry⟩)]
def laws_szEntryS_E : Env := ⟨fun j => (look tyTab j).getD .unit, fun j => look laws_szEntryS_s j⟩
theorem laws_szEntryS_r0 (N n : Nat) (k : laws_szEntryS_O0.ty.den → Option (Unit × (Int × Unit))) (x : laws_szEntryS_P0.ty.den) : roundK laws_szEntryS_E ⟨Tryz.f21.ntmps, N, (fun i => look [(0, ⟨laws_szEntryS_P0, laws_szEntryS_O0, [], [], laws_szEntryS_k0 N⟩)] i), retK laws_szEntryS_E Tryz.f21 [.val (.row false S79), .val (.int .i64)] [(.int .i64)] (.pair (.int .i64) .unit)⟩ (Tryz.f21.body.getD .skip) 0 ⟨laws_szEntryS_P0, laws_szEntryS_O0, [], [], laws_szEntryS_k0 N⟩ (laws_szEntryS_k0 N n k) k x = laws_szEntryS_k0 N (n + 1) k x := by kernel_rfl
theorem laws_szEntryS_f_eq (N : Nat) (x0 : (List (ByteArray × ByteArray × Unit))) (x1 : Int) : funK laws_szEntryS_E Tryz.f21 [.val (.row false S79), .val (.int .i64)] [(.int .i64)] (.pair (.int .i64) .unit) (fun i => look [(0, ⟨laws_szEntryS_P0, laws_szEntryS_O0, [], [], laws_szEntryS_k0 N⟩)] i) N (x0, x1, ()) = laws_szEntryS_k N x0 x1 := by kernel_rfl
theorem laws_szEntryS_o : Known Tryz.prog 21 ⟨[.val (.row false S79), .val (.int .i64)], [(.int .i64)], (.pair (.int .i64) .unit), laws_szEntryS⟩ := known_of (tab := tyTab) (cons := laws_szEntryS_s) (segs := [(0, ⟨laws_szEntryS_P0, laws_szEntryS_O0, [], [], laws_szEntryS_k0 fuel⟩)]) (n := fuel) mixed_ok tab_ok (.cons laws_szEntry_o .nil) Tryz.func21 (by kernel_rfl) ⟨⟨fun _ _ => rfl, fun n k x => laws_szEntryS_r0 fuel n k x⟩, trivial⟩ (fun x => laws_szEntryS_f_eq fuel x.1 x.2.1)
def laws_szArchive_k (N : Nat) (x0 : (Bool × ((List ByteArray) × (List (Int × ByteArray × Unit)) × Unit) × (Int × Int × Int × Unit) × (List (ByteArray × ByteArray × Unit)) × Unit)) (x1 : Int) : Option (Unit × (Int × Unit)) :=
  obind (laws_szDisk ((x0.2.1.1, x0.2.1.2.1, ()), x1, ())) fun v0 =>
  tb (ilt v0.2.1 0)
  (some ((), (-1), ()))
  (obind (laws_szEntryS (x0.2.2.2.1, v0.2.1, ())) fun v1 =>
    tb (ilt v1.2.1 0)
    (some ((), (-1), ()))
    (some ((), v1.2.1, ())))
def laws_szArchive (x : ((Bool × ((List ByteArray) × (List (Int × ByteArray × Unit)) × Unit) × (Int × Int × Int × Unit) × (List (ByteArray × ByteArray × Unit)) × Unit) × Int × Unit)) : Option (Unit × (Int × Unit)) := laws_szArchive_k fuel x.1 x.2.1
def laws_szArchive_s : List (Nat × Con) := [(20, ⟨[.val S25, .val (.int .i64)], [(.int .i64)], (.pair (.int .i64) .unit), laws_szDisk⟩), (21, ⟨[.val (.row false S79), .val (.int .i64)], [(.int .i64)], (.pair (.int .i64) .unit), laws_szEntryS⟩)]
def laws_szArchive_E : Env := ⟨fun j => (look tyTab j).getD .unit, fun j => look laws_szArchive_s j⟩
theorem laws_szArchive_f_eq (N : Nat) (x0 : (Bool × ((List ByteArray) × (List (Int × ByteArray × Unit)) × Unit) × (Int × Int × Int × Unit) × (List (ByteArray × ByteArray × Unit)) × Unit)) (x1 : Int) : funK laws_szArchive_E Tryz.f6 [.val S30, .val (.int .i64)] [(.int .i64)] (.pair (.int .i64) .unit) (fun i => look [] i) N (x0, x1, ()) = laws_szArchive_k N x0 x1 := by kernel_rfl
theorem laws_szArchive_o : Known Tryz.prog 6 ⟨[.val S30, .val (.int .i64)], [(.int .i64)], (.pair (.int .i64) .unit), laws_szArchive⟩ := known_of (tab := tyTab) (cons := laws_szArchive_s) (segs := []) (n := fuel) mixed_ok tab_ok (.cons laws_szDisk_o (.cons laws_szEntryS_o .nil)) Tryz.func6 (by kernel_rfl) trivial (fun x => laws_szArchive_f_eq fuel x.1 x.2.1)
def spec_l1In_k (N : Nat) (x0 : Int) (x1 : Int) (x2 : Int) : Option (Unit × (Bool × Unit)) :=
  tb (ile x1 x0)
  (some ((), (ile x0 x2), ()))
  (some ((), false, ()))
def spec_l1In (x : (Int × Int × Int × Unit)) : Option (Unit × (Bool × Unit)) := spec_l1In_k fuel x.1 x.2.1 x.2.2.1
def spec_l1In_s : List (Nat × Con) := []
def spec_l1In_E : Env := ⟨fun j => (look tyTab j).getD .unit, fun j => look spec_l1In_s j⟩
theorem spec_l1In_f_eq (N : Nat) (x0 : Int) (x1 : Int) (x2 : Int) : funK spec_l1In_E Tryz.f66 [.val (.int .i64), .val (.int .i64), .val (.int .i64)] [.bool] (.pair .bool .unit) (fun i => look [] i) N (x0, x1, x2, ()) = spec_l1In_k N x0 x1 x2 := by kernel_rfl
theorem spec_l1In_o : Known Tryz.prog 66 ⟨[.val (.int .i64), .val (.int .i64), .val (.int .i64)], [.bool], (.pair .bool .unit), spec_l1In⟩ := known_of (tab := tyTab) (cons := spec_l1In_s) (segs := []) (n := fuel) mixed_ok tab_ok .nil Tryz.func66 (by kernel_rfl) trivial (fun x => spec_l1In_f_eq fuel x.1 x.2.1 x.2.2.1)
def spec_l15Sector_k (N : Nat) (x0 : Int) : Option (Unit × (Bool × Unit)) :=
  obind (spec_l1In (x0, 0, 129, ())) fun v0 =>
  some ((), v0.2.1, ())
def spec_l15Sector (x : (Int × Unit)) : Option (Unit × (Bool × Unit)) := spec_l15Sector_k fuel x.1
def spec_l15Sector_s : List (Nat × Con) := [(66, ⟨[.val (.int .i64), .val (.int .i64), .val (.int .i64)], [.bool], (.pair .bool .unit), spec_l1In⟩)]
def spec_l15Sector_E : Env := ⟨fun j => (look tyTab j).getD .unit, fun j => look spec_l15Sector_s j⟩
theorem spec_l15Sector_f_eq (N : Nat) (x0 : Int) : funK spec_l15Sector_E Tryz.f80 [.val (.int .i64)] [.bool] (.pair .bool .unit) (fun i => look [] i) N (x0, ()) = spec_l15Sector_k N x0 := by kernel_rfl
theorem spec_l15Sector_o : Known Tryz.prog 80 ⟨[.val (.int .i64)], [.bool], (.pair .bool .unit), spec_l15Sector⟩ := known_of (tab := tyTab) (cons := spec_l15Sector_s) (segs := []) (n := fuel) mixed_ok tab_ok (.cons spec_l1In_o .nil) Tryz.func80 (by kernel_rfl) trivial (fun x => spec_l15Sector_f_eq fuel x.1)
def spec_DiskOk_P0 : Tpl := ⟨[(1, .one (.fix (.vptr 1 0))), (3, .one (.leaf (.int .i64)))], [(1, [.leaf (.row false .str), .leaf (.row false (.pair (.int .i64) (.pair .str .unit)))])], []⟩
def spec_DiskOk_O0 : Tpl := ⟨[(1, .one (.fix (.vptr 1 0)))], [(1, [.leaf (.row false .str), .leaf (.row false (.pair (.int .i64) (.pair .str .unit)))])], []⟩
def spec_DiskOk_k0 (N : Nat) : Nat → ((Unit × ((((List ByteArray) × (List (Int × (ByteArray × Unit))) × Unit) × Unit) × Unit)) → Option (Unit × (Bool × Unit))) → ((Int × Unit) × ((((List ByteArray) × (List (Int × (ByteArray × Unit))) × Unit) × Unit) × Unit)) → Option (Unit × (Bool × Unit))
  | 0, _, _ => none
  | n + 1, k, x =>
    tb (ilt x.1.1 (((llen x.2.1.1.1) : Nat) : Int))
    (chk (0 ≤ x.1.1) (obind (at? x.2.1.1.1 (Int.toNat x.1.1)) fun v0 =>
        tb (bnot (ieq (((slen v0) : Nat) : Int) 64))
        (some ((), false, ()))
        (spec_DiskOk_k0 N n k (((wr .i64 (x.1.1 + 1)), ()), ((x.2.1.1.1, x.2.1.1.2.1, ()), ()), ()))) (none))
    (k ((), ((x.2.1.1.1, x.2.1.1.2.1, ()), ()), ()))
def spec_DiskOk_P2 : Tpl := ⟨[(1, .one (.fix (.vptr 1 0))), (4, .one (.leaf (.int .i64)))], [(1, [.leaf (.row false .str), .leaf (.row false (.pair (.int .i64) (.pair .str .unit)))])], []⟩
def spec_DiskOk_O2 : Tpl := ⟨[], [], []⟩
def spec_DiskOk_k2 (N : Nat) : Nat → ((Unit × (Unit × Unit)) → Option (Unit × (Bool × Unit))) → ((Int × Unit) × ((((List ByteArray) × (List (Int × (ByteArray × Unit))) × Unit) × Unit) × Unit)) → Option (Unit × (Bool × Unit))
  | 0, _, _ => none
  | n + 1, k, x =>
    tb (ilt x.1.1 (((llen x.2.1.1.2.1) : Nat) : Int))
    (chk (0 ≤ x.1.1) (obind (at? x.2.1.1.2.1 (Int.toNat x.1.1)) fun v0 =>
        obind (spec_l15Sector (v0.1, ())) fun v1 =>
        tb (bnot v1.2.1)
        (some ((), false, ()))
        (chk (0 ≤ x.1.1) (obind (at? x.2.1.1.2.1 (Int.toNat x.1.1)) fun v2 =>
            tb (bnot (ieq (((slen v2.2.1) : Nat) : Int) 64))
            (some ((), false, ()))
            (spec_DiskOk_k2 N n k (((wr .i64 (x.1.1 + 1)), ()), ((x.2.1.1.1, x.2.1.1.2.1, ()), ()), ()))) (none))) (none))
    (k ((), (), ()))
def spec_DiskOk_k (N : Nat) (x0 : ((List ByteArray) × (List (Int × ByteArray × Unit)) × Unit)) : Option (Unit × (Bool × Unit)) :=
  tb (bnot (ieq (((llen x0.1) : Nat) : Int) 130))
  (some ((), false, ()))
  (tb (ilt 200 (((llen x0.2.1) : Nat) : Int))
    (some ((), false, ()))
    (spec_DiskOk_k0 N N (fun v0 =>
        spec_DiskOk_k2 N N (fun v1 =>
          some ((), true, ())) ((0, ()), ((v0.2.1.1.1, v0.2.1.1.2.1, ()), ()), ())) ((0, ()), ((x0.1, x0.2.1, ()), ()), ())))
def spec_DiskOk (x : (((List ByteArray) × (List (Int × ByteArray × Unit)) × Unit) × Unit)) : Option (Unit × (Bool × Unit)) := spec_DiskOk_k fuel x.1
def spec_DiskOk_s : List (Nat × Con) := [(80, ⟨[.val (.int .i64)], [.bool], (.pair .bool .unit), spec_l15Sector⟩)]
def spec_DiskOk_E : Env := ⟨fun j => (look tyTab j).getD .unit, fun j => look spec_DiskOk_s j⟩
theorem spec_DiskOk_r0 (N n : Nat) (k : spec_DiskOk_O0.ty.den → Option (Unit × (Bool × Unit))) (x : spec_DiskOk_P0.ty.den) : roundK spec_DiskOk_E ⟨Tryz.f52.ntmps, N, (fun i => look [(0, ⟨spec_DiskOk_P0, spec_DiskOk_O0, [], [], spec_DiskOk_k0 N⟩), (2, ⟨spec_DiskOk_P2, spec_DiskOk_O2, [], [], spec_DiskOk_k2 N⟩)] i), retK spec_DiskOk_E Tryz.f52 [.val S36] [.bool] (.pair .bool .unit)⟩ (Tryz.f52.body.getD .skip) 0 ⟨spec_DiskOk_P0, spec_DiskOk_O0, [], [], spec_DiskOk_k0 N⟩ (spec_DiskOk_k0 N n k) k x = spec_DiskOk_k0 N (n + 1) k x := by kernel_rfl
theorem spec_DiskOk_r2 (N n : Nat) (k : spec_DiskOk_O2.ty.den → Option (Unit × (Bool × Unit))) (x : spec_DiskOk_P2.ty.den) : roundK spec_DiskOk_E ⟨Tryz.f52.ntmps, N, (fun i => look [(0, ⟨spec_DiskOk_P0, spec_DiskOk_O0, [], [], spec_DiskOk_k0 N⟩), (2, ⟨spec_DiskOk_P2, spec_DiskOk_O2, [], [], spec_DiskOk_k2 N⟩)] i), retK spec_DiskOk_E Tryz.f52 [.val S36] [.bool] (.pair .bool .unit)⟩ (Tryz.f52.body.getD .skip) 2 ⟨spec_DiskOk_P2, spec_DiskOk_O2, [], [], spec_DiskOk_k2 N⟩ (spec_DiskOk_k2 N n k) k x = spec_DiskOk_k2 N (n + 1) k x := by kernel_rfl
theorem spec_DiskOk_f_eq (N : Nat) (x0 : ((List ByteArray) × (List (Int × ByteArray × Unit)) × Unit)) : funK spec_DiskOk_E Tryz.f52 [.val S36] [.bool] (.pair .bool .unit) (fun i => look [(0, ⟨spec_DiskOk_P0, spec_DiskOk_O0, [], [], spec_DiskOk_k0 N⟩), (2, ⟨spec_DiskOk_P2, spec_DiskOk_O2, [], [], spec_DiskOk_k2 N⟩)] i) N (x0, ()) = spec_DiskOk_k N x0 := by kernel_rfl
theorem spec_DiskOk_o : Known Tryz.prog 52 ⟨[.val S36], [.bool], (.pair .bool .unit), spec_DiskOk⟩ := known_of (tab := tyTab) (cons := spec_DiskOk_s) (segs := [(0, ⟨spec_DiskOk_P0, spec_DiskOk_O0, [], [], spec_DiskOk_k0 fuel⟩), (2, ⟨spec_DiskOk_P2, spec_DiskOk_O2, [], [], spec_DiskOk_k2 fuel⟩)]) (n := fuel) mixed_ok tab_ok (.cons spec_l15Sector_o .nil) Tryz.func52 (by kernel_rfl) ⟨⟨fun _ _ => rfl, fun n k x => spec_DiskOk_r0 fuel n k x⟩, ⟨⟨fun _ _ => rfl, fun n k x => spec_DiskOk_r2 fuel n k x⟩, trivial⟩⟩ (fun x => spec_DiskOk_f_eq fuel x.1)
def spec_GetNum_P0 : Tpl := ⟨[(0, .one (.leaf (.row false (.int .u8)))), (1, .one (.leaf (.int .i64))), (7, .one (.leaf (.int .i64))), (8, .one (.leaf (.int .i64))), (9, .one (.leaf (.int .i64)))], [], []⟩
def spec_GetNum_O0 : Tpl := ⟨[], [], []⟩
def spec_GetNum_k0 (N : Nat) : Nat → ((Unit × (Unit × Unit)) → Option (Unit × (Int × Int × Bool × Unit))) → (((List Int) × Int × Int × Int × Int × Unit) × (Unit × Unit)) → Option (Unit × (Int × Int × Bool × Unit))
  | 0, _, _ => none
  | n + 1, k, x =>
    tb (ilt x.1.2.2.2.2.1 9)
    (tb (ilt (wr .i64 (x.1.2.1 + x.1.2.2.2.2.1)) (((llen x.1.1) : Nat) : Int))
      (chk (0 ≤ (wr .i64 (x.1.2.1 + x.1.2.2.2.2.1))) (obind (at? x.1.1 (Int.toNat (wr .i64 (x.1.2.1 + x.1.2.2.2.2.1)))) fun v0 =>
          chk ((128 : Int) = 0) (none) (tb (ilt (wr .i64 v0) 128)
            (tb (ieq (wr .i64 v0) 0)
              (tb (ilt 0 x.1.2.2.2.2.1)
                (some ((), 0, 0, false, ()))
                (some ((), (wr .i64 (x.1.2.2.1 + (wr .i64 ((Int.tmod (wr .i64 v0) 128) * x.1.2.2.2.1)))), (wr .i64 ((wr .i64 (x.1.2.1 + x.1.2.2.2.2.1)) + 1)), true, ())))
              (some ((), (wr .i64 (x.1.2.2.1 + (wr .i64 ((Int.tmod (wr .i64 v0) 128) * x.1.2.2.2.1)))), (wr .i64 ((wr .i64 (x.1.2.1 + x.1.2.2.2.2.1)) + 1)), true, ())))
            (spec_GetNum_k0 N n k ((x.1.1, x.1.2.1, (wr .i64 (x.1.2.2.1 + (wr .i64 ((Int.tmod (wr .i64 v0) 128) * x.1.2.2.2.1)))), (wr .i64 (x.1.2.2.2.1 * 128)), (wr .i64 (x.1.2.2.2.2.1 + 1)), ()), (), ())))) (none))
      (k ((), (), ())))
    (k ((), (), ()))
def spec_GetNum_k (N : Nat) (x0 : (List Int)) (x1 : Int) : Option (Unit × (Int × Int × Bool × Unit)) :=
  tb (ilt x1 0)
  (some ((), 0, 0, false, ()))
  (tb (ile (((llen x0) : Nat) : Int) x1)
    (some ((), 0, 0, false, ()))
    (spec_GetNum_k0 N N (fun v0 =>
        some ((), 0, 0, false, ())) ((x0, x1, 0, 1, 0, ()), (), ())))
def spec_GetNum (x : ((List Int) × Int × Unit)) : Option (Unit × (Int × Int × Bool × Unit)) := spec_GetNum_k fuel x.1 x.2.1
def spec_GetNum_s : List (Nat × Con) := []
def spec_GetNum_E : Env := ⟨fun j => (look tyTab j).getD .unit, fun j => look spec_GetNum_s j⟩
theorem spec_GetNum_r0 (N n : Nat) (k : spec_GetNum_O0.ty.den → Option (Unit × (Int × Int × Bool × Unit))) (x : spec_GetNum_P0.ty.den) : roundK spec_GetNum_E ⟨Tryz.f83.ntmps, N, (fun i => look [(0, ⟨spec_GetNum_P0, spec_GetNum_O0, [], [], spec_GetNum_k0 N⟩)] i), retK spec_GetNum_E Tryz.f83 [.val (.row false (.int .u8)), .val (.int .i64)] [(.int .i64), (.int .i64), .bool] (.pair (.int .i64) (.pair (.int .i64) (.pair .bool .unit)))⟩ (Tryz.f83.body.getD .skip) 0 ⟨spec_GetNum_P0, spec_GetNum_O0, [], [], spec_GetNum_k0 N⟩ (spec_GetNum_k0 N n k) k x = spec_GetNum_k0 N (n + 1) k x := by kernel_rfl
theorem spec_GetNum_f_eq (N : Nat) (x0 : (List Int)) (x1 : Int) : funK spec_GetNum_E Tryz.f83 [.val (.row false (.int .u8)), .val (.int .i64)] [(.int .i64), (.int .i64), .bool] (.pair (.int .i64) (.pair (.int .i64) (.pair .bool .unit))) (fun i => look [(0, ⟨spec_GetNum_P0, spec_GetNum_O0, [], [], spec_GetNum_k0 N⟩)] i) N (x0, x1, ()) = spec_GetNum_k N x0 x1 := by kernel_rfl
theorem spec_GetNum_o : Known Tryz.prog 83 ⟨[.val (.row false (.int .u8)), .val (.int .i64)], [(.int .i64), (.int .i64), .bool], (.pair (.int .i64) (.pair (.int .i64) (.pair .bool .unit))), spec_GetNum⟩ := known_of (tab := tyTab) (cons := spec_GetNum_s) (segs := [(0, ⟨spec_GetNum_P0, spec_GetNum_O0, [], [], spec_GetNum_k0 fuel⟩)]) (n := fuel) mixed_ok tab_ok .nil Tryz.func83 (by kernel_rfl) ⟨⟨fun _ _ => rfl, fun n k x => spec_GetNum_r0 fuel n k x⟩, trivial⟩ (fun x => spec_GetNum_f_eq fuel x.1 x.2.1)
def spec_l16Right_k (N : Nat) (x0 : (Int × Int × Int × Unit)) : Option (Unit × (Bool × Unit)) :=
  obind (spec_l1In (x0.1, 1, 1000000000, ())) fun v0 =>
  tb v0.2.1
  (obind (spec_l1In (x0.2.1, 0, 1, ())) fun v1 =>
    tb v1.2.1
    (obind (spec_l1In (x0.2.2.1, 0, 4096, ())) fun v2 =>
      some ((), v2.2.1, ()))
    (some ((), false, ())))
  (some ((), false, ()))
def spec_l16Right (x : ((Int × Int × Int × Unit) × Unit)) : Option (Unit × (Bool × Unit)) := spec_l16Right_k fuel x.1
def spec_l16Right_s : List (Nat × Con) := [(66, ⟨[.val (.int .i64), .val (.int .i64), .val (.int .i64)], [.bool], (.pair .bool .unit), spec_l1In⟩)]
def spec_l16Right_E : Env := ⟨fun j => (look tyTab j).getD .unit, fun j => look spec_l16Right_s j⟩
theorem spec_l16Right_f_eq (N : Nat) (x0 : (Int × Int × Int × Unit)) : funK spec_l16Right_E Tryz.f40 [.val S37] [.bool] (.pair .bool .unit) (fun i => look [] i) N (x0, ()) = spec_l16Right_k N x0 := by kernel_rfl
theorem spec_l16Right_o : Known Tryz.prog 40 ⟨[.val S37], [.bool], (.pair .bool .unit), spec_l16Right⟩ := known_of (tab := tyTab) (cons := spec_l16Right_s) (segs := []) (n := fuel) mixed_ok tab_ok (.cons spec_l1In_o .nil) Tryz.func40 (by kernel_rfl) trivial (fun x => spec_l16Right_f_eq fuel x.1)
def spec_PutNum_P0 : Tpl := ⟨[(0, .one (.leaf (.int .i64))), (3, .one (.fix (.ref 10000 [] none)))], [], [(10000, (.int .u8))]⟩
def spec_PutNum_O0 : Tpl := ⟨[(0, .one (.leaf (.int .i64))), (3, .one (.fix (.ref 10500 [] none)))], [], [(10500, (.int .u8))]⟩
def spec_PutNum_k0 (N : Nat) : Nat → (((Int × Unit) × (Unit × ((List Int) × Unit))) → Option (Unit × ((List Int) × Unit))) → ((Int × Unit) × (Unit × ((List Int) × Unit))) → Option (Unit × ((List Int) × Unit))
  | 0, _, _ => none
  | n + 1, k, x =>
    tb (ilt 127 x.1.1)
    (chk ((128 : Int) = 0) (none) (chk ((plus (llen x.2.2.1) (llen [(wr .u8 (wr .i64 ((Int.tmod x.1.1 128) + 128)))])) ≤ 140737488355328) (chk ((128 : Int) = 0) (none) (spec_PutNum_k0 N n k (((wr .i64 (Int.tdiv x.1.1 128)), ()), (), (lapp x.2.2.1 [(wr .u8 (wr .i64 ((Int.tmod x.1.1 128) + 128)))]), ()))) (none)))
    (k ((x.1.1, ()), (), x.2.2.1, ()))
def spec_PutNum_k (N : Nat) (x0 : Int) : Option (Unit × ((List Int) × Unit)) :=
  tb (ilt x0 0)
  (some ((), [], ()))
  (spec_PutNum_k0 N N (fun v0 =>
      chk ((plus (llen v0.2.2.1) (llen [(wr .u8 v0.1.1)])) ≤ 140737488355328) (some ((), (lapp v0.2.2.1 [(wr .u8 v0.1.1)]), ())) (none)) ((x0, ()), (), [], ()))
def spec_PutNum (x : (Int × Unit)) : Option (Unit × ((List Int) × Unit)) := spec_PutNum_k fuel x.1
def spec_PutNum_s : List (Nat × Con) := []
def spec_PutNum_E : Env := ⟨fun j => (look tyTab j).getD .unit, fun j => look spec_PutNum_s j⟩
theorem spec_PutNum_r0 (N n : Nat) (k : spec_PutNum_O0.ty.den → Option (Unit × ((List Int) × Unit))) (x : spec_PutNum_P0.ty.den) : roundK spec_PutNum_E ⟨Tryz.f96.ntmps, N, (fun i => look [(0, ⟨spec_PutNum_P0, spec_PutNum_O0, [.tmp 3 10000 (.int .u8)], [.tmp 3 10500 (.int .u8)], spec_PutNum_k0 N⟩)] i), retK spec_PutNum_E Tryz.f96 [.val (.int .i64)] [(.row true (.int .u8))] (.pair (.row true (.int .u8)) .unit)⟩ (Tryz.f96.body.getD .skip) 0 ⟨spec_PutNum_P0, spec_PutNum_O0, [.tmp 3 10000 (.int .u8)], [.tmp 3 10500 (.int .u8)], spec_PutNum_k0 N⟩ (spec_PutNum_k0 N n k) k x = spec_PutNum_k0 N (n + 1) k x := by kernel_rfl
theorem spec_PutNum_f_eq (N : Nat) (x0 : Int) : funK spec_PutNum_E Tryz.f96 [.val (.int .i64)] [(.row true (.int .u8))] (.pair (.row true (.int .u8)) .unit) (fun i => look [(0, ⟨spec_PutNum_P0, spec_PutNum_O0, [.tmp 3 10000 (.int .u8)], [.tmp 3 10500 (.int .u8)], spec_PutNum_k0 N⟩)] i) N (x0, ()) = spec_PutNum_k N x0 := by kernel_rfl
theorem spec_PutNum_o : Known Tryz.prog 96 ⟨[.val (.int .i64)], [(.row true (.int .u8))], (.pair (.row true (.int .u8)) .unit), spec_PutNum⟩ := known_of (tab := tyTab) (cons := spec_PutNum_s) (segs := [(0, ⟨spec_PutNum_P0, spec_PutNum_O0, [.tmp 3 10000 (.int .u8)], [.tmp 3 10500 (.int .u8)], spec_PutNum_k0 fuel⟩)]) (n := fuel) mixed_ok tab_ok .nil Tryz.func96 (by kernel_rfl) ⟨⟨fun _ _ => rfl, fun n k x => spec_PutNum_r0 fuel n k x⟩, trivial⟩ (fun x => spec_PutNum_f_eq fuel x.1)
def spec_HeadPack_P0 : Tpl := ⟨[(4, .one (.fix (.ref 10000 [] none)))], [], [(10000, (.int .u8))]⟩
def spec_HeadPack_O0 : Tpl := ⟨[(4, .one (.fix (.ref 10500 [] none)))], [], [(10500, (.int .u8))]⟩
def spec_HeadPack_k0 (N : Nat) : Nat → ((Unit × (Unit × ((List Int) × Unit))) → Option (Unit × (ByteArray × Bool × Unit))) → (Unit × (Unit × ((List Int) × Unit))) → Option (Unit × (ByteArray × Bool × Unit))
  | 0, _, _ => none
  | n + 1, k, x =>
    tb (ilt (((llen x.2.2.1) : Nat) : Int) 64)
    (chk ((plus (llen x.2.2.1) (llen [0])) ≤ 140737488355328) (spec_HeadPack_k0 N n k ((), (), (lapp x.2.2.1 [0]), ())) (none))
    (k ((), (), x.2.2.1, ()))
def spec_HeadPack_k (N : Nat) (x0 : (Int × Int × Int × Unit)) : Option (Unit × (ByteArray × Bool × Unit)) :=
  obind (spec_l16Right ((x0.1, x0.2.1, x0.2.2.1, ()), ())) fun v0 =>
  tb (bnot v0.2.1)
  (some ((), (⟨#[]⟩ : ByteArray), false, ()))
  (obind (spec_PutNum (x0.1, ())) fun v1 =>
    obind (spec_PutNum (x0.2.1, ())) fun v2 =>
    chk ((plus (llen v1.2.1) (llen v2.2.1)) ≤ 140737488355328) (obind (spec_PutNum (x0.2.2.1, ())) fun v3 =>
      chk ((plus (llen (lapp v1.2.1 v2.2.1)) (llen v3.2.1)) ≤ 140737488355328) (spec_HeadPack_k0 N N (fun v4 =>
          some ((), (strOf v4.2.2.1), true, ())) ((), (), (lapp (lapp v1.2.1 v2.2.1) v3.2.1), ())) (none)) (none))
def spec_HeadPack (x : ((Int × Int × Int × Unit) × Unit)) : Option (Unit × (ByteArray × Bool × Unit)) := spec_HeadPack_k fuel x.1
def spec_HeadPack_s : List (Nat × Con) := [(40, ⟨[.val S37], [.bool], (.pair .bool .unit), spec_l16Right⟩), (96, ⟨[.val (.int .i64)], [(.row true (.int .u8))], (.pair (.row true (.int .u8)) .unit), spec_PutNum⟩)]
def spec_HeadPack_E : Env := ⟨fun j => (look tyTab j).getD .unit, fun j => look spec_HeadPack_s j⟩
theorem spec_HeadPack_r0 (N n : Nat) (k : spec_HeadPack_O0.ty.den → Option (Unit × (ByteArray × Bool × Unit))) (x : spec_HeadPack_P0.ty.den) : roundK spec_HeadPack_E ⟨Tryz.f84.ntmps, N, (fun i => look [(0, ⟨spec_HeadPack_P0, spec_HeadPack_O0, [.tmp 4 10000 (.int .u8)], [.tmp 4 10500 (.int .u8)], spec_HeadPack_k0 N⟩)] i), retK spec_HeadPack_E Tryz.f84 [.val S37] [.str, .bool] (.pair .str (.pair .bool .unit))⟩ (Tryz.f84.body.getD .skip) 0 ⟨spec_HeadPack_P0, spec_HeadPack_O0, [.tmp 4 10000 (.int .u8)], [.tmp 4 10500 (.int .u8)], spec_HeadPack_k0 N⟩ (spec_HeadPack_k0 N n k) k x = spec_HeadPack_k0 N (n + 1) k x := by kernel_rfl
theorem spec_HeadPack_f_eq (N : Nat) (x0 : (Int × Int × Int × Unit)) : funK spec_HeadPack_E Tryz.f84 [.val S37] [.str, .bool] (.pair .str (.pair .bool .unit)) (fun i => look [(0, ⟨spec_HeadPack_P0, spec_HeadPack_O0, [.tmp 4 10000 (.int .u8)], [.tmp 4 10500 (.int .u8)], spec_HeadPack_k0 N⟩)] i) N (x0, ()) = spec_HeadPack_k N x0 := by kernel_rfl
theorem spec_HeadPack_o : Known Tryz.prog 84 ⟨[.val S37], [.str, .bool], (.pair .str (.pair .bool .unit)), spec_HeadPack⟩ := known_of (tab := tyTab) (cons := spec_HeadPack_s) (segs := [(0, ⟨spec_HeadPack_P0, spec_HeadPack_O0, [.tmp 4 10000 (.int .u8)], [.tmp 4 10500 (.int .u8)], spec_HeadPack_k0 fuel⟩)]) (n := fuel) mixed_ok tab_ok (.cons spec_l16Right_o (.cons spec_PutNum_o .nil)) Tryz.func84 (by kernel_rfl) ⟨⟨fun _ _ => rfl, fun n k x => spec_HeadPack_r0 fuel n k x⟩, trivial⟩ (fun x => spec_HeadPack_f_eq fuel x.1)
def spec_HeadRead_k (N : Nat) (x0 : ByteArray) : Option (Unit × ((Int × Int × Int × Unit) × Bool × Unit)) :=
  obind (spec_GetNum ((bytesOf x0), 0, ())) fun v0 =>
  obind (spec_GetNum ((bytesOf x0), v0.2.2.1, ())) fun v1 =>
  obind (spec_GetNum ((bytesOf x0), v1.2.2.1, ())) fun v2 =>
  obind (spec_HeadPack ((v0.2.1, v1.2.1, v2.2.1, ()), ())) fun v3 =>
  tb (bnot v0.2.2.2.1)
  (some ((), (0, 0, 0, ()), false, ()))
  (tb (bnot v1.2.2.2.1)
    (some ((), (0, 0, 0, ()), false, ()))
    (tb (bnot v2.2.2.2.1)
      (some ((), (0, 0, 0, ()), false, ()))
      (tb (bnot v3.2.2.1)
        (some ((), (0, 0, 0, ()), false, ()))
        (tb (bnot (seq v3.2.1 x0))
          (some ((), (0, 0, 0, ()), false, ()))
          (some ((), (v0.2.1, v1.2.1, v2.2.1, ()), true, ()))))))
def spec_HeadRead (x : (ByteArray × Unit)) : Option (Unit × ((Int × Int × Int × Unit) × Bool × Unit)) := spec_HeadRead_k fuel x.1
def spec_HeadRead_s : List (Nat × Con) := [(83, ⟨[.val (.row false (.int .u8)), .val (.int .i64)], [(.int .i64), (.int .i64), .bool], (.pair (.int .i64) (.pair (.int .i64) (.pair .bool .unit))), spec_GetNum⟩), (84, ⟨[.val S37], [.str, .bool], (.pair .str (.pair .bool .unit)), spec_HeadPack⟩)]
def spec_HeadRead_E : Env := ⟨fun j => (look tyTab j).getD .unit, fun j => look spec_HeadRead_s j⟩
theorem spec_HeadRead_f_eq (N : Nat) (x0 : ByteArray) : funK spec_HeadRead_E Tryz.f64 [.val .str] [T37, .bool] (.pair T37 (.pair .bool .unit)) (fun i => look [] i) N (x0, ()) = spec_HeadRead_k N x0 := by kernel_rfl
theorem spec_HeadRead_o : Known Tryz.prog 64 ⟨[.val .str], [T37, .bool], (.pair T37 (.pair .bool .unit)), spec_HeadRead⟩ := known_of (tab := tyTab) (cons := spec_HeadRead_s) (segs := []) (n := fuel) mixed_ok tab_ok (.cons spec_GetNum_o (.cons spec_HeadPack_o .nil)) Tryz.func64 (by kernel_rfl) trivial (fun x => spec_HeadRead_f_eq fuel x.1)
def spec_l15Of_P0 : Tpl := ⟨[(1, .one (.leaf (.int .i64))), (2, .one (.fix (.vptr 2 0))), (5, .one (.leaf (.int .i64)))], [(2, [.leaf (.row false .str), .leaf (.row false (.pair (.int .i64) (.pair .str .unit)))])], []⟩
def spec_l15Of_O0 : Tpl := ⟨[(1, .one (.leaf (.int .i64))), (2, .one (.fix (.vptr 2 0)))], [(2, [.leaf (.row false .str), .leaf (.row false (.pair (.int .i64) (.pair .str .unit)))])], []⟩
def spec_l15Of_k0 (N : Nat) : Nat → (((Int × Unit) × ((((List ByteArray) × (List (Int × (ByteArray × Unit))) × Unit) × Unit) × Unit)) → Option (Unit × (ByteArray × Unit))) → ((Int × Int × Unit) × ((((List ByteArray) × (List (Int × (ByteArray × Unit))) × Unit) × Unit) × Unit)) → Option (Unit × (ByteArray × Unit))
  | 0, _, _ => none
  | n + 1, k, x =>
    tb (ile 0 x.1.2.1)
    (chk (0 ≤ x.1.2.1) (obind (at? x.2.1.1.2.1 (Int.toNat x.1.2.1)) fun v0 =>
        tb (ieq v0.1 x.1.1)
        (chk (0 ≤ x.1.2.1) (obind (at? x.2.1.1.2.1 (Int.toNat x.1.2.1)) fun v1 =>
            some ((), v1.2.1, ())) (none))
        (spec_l15Of_k0 N n k ((x.1.1, (wr .i64 (x.1.2.1 - 1)), ()), ((x.2.1.1.1, x.2.1.1.2.1, ()), ()), ()))) (none))
    (k ((x.1.1, ()), ((x.2.1.1.1, x.2.1.1.2.1, ()), ()), ()))
def spec_l15Of_k (N : Nat) (x0 : ((List ByteArray) × (List (Int × ByteArray × Unit)) × Unit)) (x1 : Int) : Option (Unit × (ByteArray × Unit)) :=
  spec_l15Of_k0 N N (fun v0 =>
    chk (0 ≤ v0.1.1) (obind (at? v0.2.1.1.1 (Int.toNat v0.1.1)) fun v1 =>
      some ((), v1, ())) (none)) ((x1, (wr .i64 ((((llen x0.2.1) : Nat) : Int) - 1)), ()), ((x0.1, x0.2.1, ()), ()), ())
def spec_l15Of (x : (((List ByteArray) × (List (Int × ByteArray × Unit)) × Unit) × Int × Unit)) : Option (Unit × (ByteArray × Unit)) := spec_l15Of_k fuel x.1 x.2.1
def spec_l15Of_s : List (Nat × Con) := []
def spec_l15Of_E : Env := ⟨fun j => (look tyTab j).getD .unit, fun j => look spec_l15Of_s j⟩
theorem spec_l15Of_r0 (N n : Nat) (k : spec_l15Of_O0.ty.den → Option (Unit × (ByteArray × Unit))) (x : spec_l15Of_P0.ty.den) : roundK spec_l15Of_E ⟨Tryz.f65.ntmps, N, (fun i => look [(0, ⟨spec_l15Of_P0, spec_l15Of_O0, [], [], spec_l15Of_k0 N⟩)] i), retK spec_l15Of_E Tryz.f65 [.val S36, .val (.int .i64)] [.str] (.pair .str .unit)⟩ (Tryz.f65.body.getD .skip) 0 ⟨spec_l15Of_P0, spec_l15Of_O0, [], [], spec_l15Of_k0 N⟩ (spec_l15Of_k0 N n k) k x = spec_l15Of_k0 N (n + 1) k x := by kernel_rfl
theorem spec_l15Of_f_eq (N : Nat) (x0 : ((List ByteArray) × (List (Int × ByteArray × Unit)) × Unit)) (x1 : Int) : funK spec_l15Of_E Tryz.f65 [.val S36, .val (.int .i64)] [.str] (.pair .str .unit) (fun i => look [(0, ⟨spec_l15Of_P0, spec_l15Of_O0, [], [], spec_l15Of_k0 N⟩)] i) N (x0, x1, ()) = spec_l15Of_k N x0 x1 := by kernel_rfl
theorem spec_l15Of_o : Known Tryz.prog 65 ⟨[.val S36, .val (.int .i64)], [.str], (.pair .str .unit), spec_l15Of⟩ := known_of (tab := tyTab) (cons := spec_l15Of_s) (segs := [(0, ⟨spec_l15Of_P0, spec_l15Of_O0, [], [], spec_l15Of_k0 fuel⟩)]) (n := fuel) mixed_ok tab_ok .nil Tryz.func65 (by kernel_rfl) ⟨⟨fun _ _ => rfl, fun n k x => spec_l15Of_r0 fuel n k x⟩, trivial⟩ (fun x => spec_l15Of_f_eq fuel x.1 x.2.1)
def spec_HeadNow_k (N : Nat) (x0 : ((List ByteArray) × (List (Int × ByteArray × Unit)) × Unit)) : Option (Unit × ((Int × Int × Int × Unit) × Unit)) :=
  obind (spec_DiskOk ((x0.1, x0.2.1, ()), ())) fun v0 =>
  tb (bnot v0.2.1)
  (some ((), (0, 0, 0, ()), ()))
  (obind (spec_l15Of ((x0.1, x0.2.1, ()), 0, ())) fun v1 =>
    obind (spec_HeadRead (v1.2.1, ())) fun v2 =>
    obind (spec_l15Of ((x0.1, x0.2.1, ()), 1, ())) fun v3 =>
    obind (spec_HeadRead (v3.2.1, ())) fun v4 =>
    tb (ilt v2.2.1.1 v4.2.1.1)
    (some ((), (v4.2.1.1, v4.2.1.2.1, v4.2.1.2.2.1, ()), ()))
    (some ((), (v2.2.1.1, v2.2.1.2.1, v2.2.1.2.2.1, ()), ())))
def spec_HeadNow (x : (((List ByteArray) × (List (Int × ByteArray × Unit)) × Unit) × Unit)) : Option (Unit × ((Int × Int × Int × Unit) × Unit)) := spec_HeadNow_k fuel x.1
def spec_HeadNow_s : List (Nat × Con) := [(52, ⟨[.val S36], [.bool], (.pair .bool .unit), spec_DiskOk⟩), (64, ⟨[.val .str], [T37, .bool], (.pair T37 (.pair .bool .unit)), spec_HeadRead⟩), (65, ⟨[.val S36, .val (.int .i64)], [.str], (.pair .str .unit), spec_l15Of⟩)]
def spec_HeadNow_E : Env := ⟨fun j => (look tyTab j).getD .unit, fun j => look spec_HeadNow_s j⟩
theorem spec_HeadNow_f_eq (N : Nat) (x0 : ((List ByteArray) × (List (Int × ByteArray × Unit)) × Unit)) : funK spec_HeadNow_E Tryz.f39 [.val S36] [T37] (.pair T37 .unit) (fun i => look [] i) N (x0, ()) = spec_HeadNow_k N x0 := by kernel_rfl
theorem spec_HeadNow_o : Known Tryz.prog 39 ⟨[.val S36], [T37], (.pair T37 .unit), spec_HeadNow⟩ := known_of (tab := tyTab) (cons := spec_HeadNow_s) (segs := []) (n := fuel) mixed_ok tab_ok (.cons spec_DiskOk_o (.cons spec_HeadRead_o (.cons spec_l15Of_o .nil))) Tryz.func39 (by kernel_rfl) trivial (fun x => spec_HeadNow_f_eq fuel x.1)
def spec_GetText_k (N : Nat) (x0 : (List Int)) (x1 : Int) : Option (Unit × (ByteArray × Int × Bool × Unit)) :=
  obind (spec_GetNum (x0, x1, ())) fun v0 =>
  tb (bnot v0.2.2.2.1)
  (some ((), (⟨#[]⟩ : ByteArray), 0, false, ()))
  (tb (ilt (wr .i64 ((((llen x0) : Nat) : Int) - v0.2.2.1)) v0.2.1)
    (some ((), (⟨#[]⟩ : ByteArray), 0, false, ()))
    (chk ((0 ≤ v0.2.2.1) ∧ ((v0.2.2.1 ≤ (wr .i64 (v0.2.2.1 + v0.2.1))) ∧ ((wr .i64 (v0.2.2.1 + v0.2.1)) ≤ (((llen x0) : Nat) : Int)))) (some ((), (strOf (lcut x0 (Int.toNat v0.2.2.1) (Int.toNat (wr .i64 (v0.2.2.1 + v0.2.1))))), (wr .i64 (v0.2.2.1 + v0.2.1)), true, ())) (none)))
def spec_GetText (x : ((List Int) × Int × Unit)) : Option (Unit × (ByteArray × Int × Bool × Unit)) := spec_GetText_k fuel x.1 x.2.1
def spec_GetText_s : List (Nat × Con) := [(83, ⟨[.val (.row false (.int .u8)), .val (.int .i64)], [(.int .i64), (.int .i64), .bool], (.pair (.int .i64) (.pair (.int .i64) (.pair .bool .unit))), spec_GetNum⟩)]
def spec_GetText_E : Env := ⟨fun j => (look tyTab j).getD .unit, fun j => look spec_GetText_s j⟩
theorem spec_GetText_f_eq (N : Nat) (x0 : (List Int)) (x1 : Int) : funK spec_GetText_E Tryz.f85 [.val (.row false (.int .u8)), .val (.int .i64)] [.str, (.int .i64), .bool] (.pair .str (.pair (.int .i64) (.pair .bool .unit))) (fun i => look [] i) N (x0, x1, ()) = spec_GetText_k N x0 x1 := by kernel_rfl
theorem spec_GetText_o : Known Tryz.prog 85 ⟨[.val (.row false (.int .u8)), .val (.int .i64)], [.str, (.int .i64), .bool], (.pair .str (.pair (.int .i64) (.pair .bool .unit))), spec_GetText⟩ := known_of (tab := tyTab) (cons := spec_GetText_s) (segs := []) (n := fuel) mixed_ok tab_ok (.cons spec_GetNum_o .nil) Tryz.func85 (by kernel_rfl) trivial (fun x => spec_GetText_f_eq fuel x.1 x.2.1)
def spec_UrlOk_P0 : Tpl := ⟨[(0, .one (.leaf .str)), (3, .one (.leaf (.int .i64)))], [], []⟩
def spec_UrlOk_O0 : Tpl := ⟨[], [], []⟩
def spec_UrlOk_k0 (N : Nat) : Nat → ((Unit × (Unit × Unit)) → Option (Unit × (Bool × Unit))) → ((ByteArray × Int × Unit) × (Unit × Unit)) → Option (Unit × (Bool × Unit))
  | 0, _, _ => none
  | n + 1, k, x =>
    tb (ilt x.1.2.1 (((slen x.1.1) : Nat) : Int))
    (chk ((0 ≤ x.1.2.1) ∧ (x.1.2.1 < (((slen x.1.1) : Nat) : Int))) (tb (ilt (bt x.1.1 x.1.2.1) 33)
        (some ((), false, ()))
        (chk ((0 ≤ x.1.2.1) ∧ (x.1.2.1 < (((slen x.1.1) : Nat) : Int))) (tb (ilt 126 (bt x.1.1 x.1.2.1))
            (some ((), false, ()))
            (spec_UrlOk_k0 N n k ((x.1.1, (wr .i64 (x.1.2.1 + 1)), ()), (), ()))) (none))) (none))
    (k ((), (), ()))
def spec_UrlOk_k (N : Nat) (x0 : ByteArray) : Option (Unit × (Bool × Unit)) :=
  obind (spec_l1In ((((slen x0) : Nat) : Int), 1, 60, ())) fun v0 =>
  tb (bnot v0.2.1)
  (some ((), false, ()))
  (spec_UrlOk_k0 N N (fun v1 =>
      some ((), true, ())) ((x0, 0, ()), (), ()))
def spec_UrlOk (x : (ByteArray × Unit)) : Option (Unit × (Bool × Unit)) := spec_UrlOk_k fuel x.1
def spec_UrlOk_s : List (Nat × Con) := [(66, ⟨[.val (.int .i64), .val (.int .i64), .val (.int .i64)], [.bool], (.pair .bool .unit), spec_l1In⟩)]
def spec_UrlOk_E : Env := ⟨fun j => (look tyTab j).getD .unit, fun j => look spec_UrlOk_s j⟩
theorem spec_UrlOk_r0 (N n : Nat) (k : spec_UrlOk_O0.ty.den → Option (Unit × (Bool × Unit))) (x : spec_UrlOk_P0.ty.den) : roundK spec_UrlOk_E ⟨Tryz.f97.ntmps, N, (fun i => look [(0, ⟨spec_UrlOk_P0, spec_UrlOk_O0, [], [], spec_UrlOk_k0 N⟩)] i), retK spec_UrlOk_E Tryz.f97 [.val .str] [.bool] (.pair .bool .unit)⟩ (Tryz.f97.body.getD .skip) 0 ⟨spec_UrlOk_P0, spec_UrlOk_O0, [], [], spec_UrlOk_k0 N⟩ (spec_UrlOk_k0 N n k) k x = spec_UrlOk_k0 N (n + 1) k x := by kernel_rfl
theorem spec_UrlOk_f_eq (N : Nat) (x0 : ByteArray) : funK spec_UrlOk_E Tryz.f97 [.val .str] [.bool] (.pair .bool .unit) (fun i => look [(0, ⟨spec_UrlOk_P0, spec_UrlOk_O0, [], [], spec_UrlOk_k0 N⟩)] i) N (x0, ()) = spec_UrlOk_k N x0 := by kernel_rfl
theorem spec_UrlOk_o : Known Tryz.prog 97 ⟨[.val .str], [.bool], (.pair .bool .unit), spec_UrlOk⟩ := known_of (tab := tyTab) (cons := spec_UrlOk_s) (segs := [(0, ⟨spec_UrlOk_P0, spec_UrlOk_O0, [], [], spec_UrlOk_k0 fuel⟩)]) (n := fuel) mixed_ok tab_ok (.cons spec_l1In_o .nil) Tryz.func97 (by kernel_rfl) ⟨⟨fun _ _ => rfl, fun n k x => spec_UrlOk_r0 fuel n k x⟩, trivial⟩ (fun x => spec_UrlOk_f_eq fuel x.1)
def spec_PutText_k (N : Nat) (x0 : ByteArray) : Option (Unit × ((List Int) × Unit)) :=
  obind (spec_PutNum ((((slen x0) : Nat) : Int), ())) fun v0 =>
  chk ((plus (llen v0.2.1) (llen (bytesOf x0))) ≤ 140737488355328) (some ((), (lapp v0.2.1 (bytesOf x0)), ())) (none)
def spec_PutText (x : (ByteArray × Unit)) : Option (Unit × ((List Int) × Unit)) := spec_PutText_k fuel x.1
def spec_PutText_s : List (Nat × Con) := [(96, ⟨[.val (.int .i64)], [(.row true (.int .u8))], (.pair (.row true (.int .u8)) .unit), spec_PutNum⟩)]
def spec_PutText_E : Env := ⟨fun j => (look tyTab j).getD .unit, fun j => look spec_PutText_s j⟩
theorem spec_PutText_f_eq (N : Nat) (x0 : ByteArray) : funK spec_PutText_E Tryz.f98 [.val .str] [(.row true (.int .u8))] (.pair (.row true (.int .u8)) .unit) (fun i => look [] i) N (x0, ()) = spec_PutText_k N x0 := by kernel_rfl
theorem spec_PutText_o : Known Tryz.prog 98 ⟨[.val .str], [(.row true (.int .u8))], (.pair (.row true (.int .u8)) .unit), spec_PutText⟩ := known_of (tab := tyTab) (cons := spec_PutText_s) (segs := []) (n := fuel) mixed_ok tab_ok (.cons spec_PutNum_o .nil) Tryz.func98 (by kernel_rfl) trivial (fun x => spec_PutText_f_eq fuel x.1)
def spec_RecordPack_k (N : Nat) (x0 : (Int × ByteArray × ByteArray × Unit)) : Option (Unit × ((List Int) × Bool × Unit)) :=
  tb (bnot (ieq x0.1 1))
  (tb (bnot (ieq x0.1 2))
    (some ((), [], false, ()))
    (obind (spec_UrlOk (x0.2.1, ())) fun v0 =>
      tb (bnot v0.2.1)
      (some ((), [], false, ()))
      (tb (ieq x0.1 2)
        (tb (bnot (seq x0.2.2.1 (⟨#[]⟩ : ByteArray)))
          (some ((), [], false, ()))
          (obind (spec_PutNum (x0.1, ())) fun v1 =>
            obind (spec_PutText (x0.2.1, ())) fun v2 =>
            chk ((plus (llen v1.2.1) (llen v2.2.1)) ≤ 140737488355328) (tb (ieq x0.1 1)
              (obind (spec_PutText (x0.2.2.1, ())) fun v3 =>
                chk ((plus (llen (lapp v1.2.1 v2.2.1)) (llen v3.2.1)) ≤ 140737488355328) (some ((), (lapp (lapp v1.2.1 v2.2.1) v3.2.1), true, ())) (none))
              (some ((), (lapp v1.2.1 v2.2.1), true, ()))) (none)))
        (obind (spec_PutNum (x0.1, ())) fun v4 =>
          obind (spec_PutText (x0.2.1, ())) fun v5 =>
          chk ((plus (llen v4.2.1) (llen v5.2.1)) ≤ 140737488355328) (tb (ieq x0.1 1)
            (obind (spec_PutText (x0.2.2.1, ())) fun v6 =>
              chk ((plus (llen (lapp v4.2.1 v5.2.1)) (llen v6.2.1)) ≤ 140737488355328) (some ((), (lapp (lapp v4.2.1 v5.2.1) v6.2.1), true, ())) (none))
            (some ((), (lapp v4.2.1 v5.2.1), true, ()))) (none)))))
  (obind (spec_UrlOk (x0.2.1, ())) fun v7 =>
    tb (bnot v7.2.1)
    (some ((), [], false, ()))
    (tb (ieq x0.1 2)
      (tb (bnot (seq x0.2.2.1 (⟨#[]⟩ : ByteArray)))
        (some ((), [], false, ()))
        (obind (spec_PutNum (x0.1, ())) fun v8 =>
          obind (spec_PutText (x0.2.1, ())) fun v9 =>
          chk ((plus (llen v8.2.1) (llen v9.2.1)) ≤ 140737488355328) (tb (ieq x0.1 1)
            (obind (spec_PutText (x0.2.2.1, ())) fun v10 =>
              chk ((plus (llen (lapp v8.2.1 v9.2.1)) (llen v10.2.1)) ≤ 140737488355328) (some ((), (lapp (lapp v8.2.1 v9.2.1) v10.2.1), true, ())) (none))
            (some ((), (lapp v8.2.1 v9.2.1), true, ()))) (none)))
      (obind (spec_PutNum (x0.1, ())) fun v11 =>
        obind (spec_PutText (x0.2.1, ())) fun v12 =>
        chk ((plus (llen v11.2.1) (llen v12.2.1)) ≤ 140737488355328) (tb (ieq x0.1 1)
          (obind (spec_PutText (x0.2.2.1, ())) fun v13 =>
            chk ((plus (llen (lapp v11.2.1 v12.2.1)) (llen v13.2.1)) ≤ 140737488355328) (some ((), (lapp (lapp v11.2.1 v12.2.1) v13.2.1), true, ())) (none))
          (some ((), (lapp v11.2.1 v12.2.1), true, ()))) (none))))
def spec_RecordPack (x : ((Int × ByteArray × ByteArray × Unit) × Unit)) : Option (Unit × ((List Int) × Bool × Unit)) := spec_RecordPack_k fuel x.1
def spec_RecordPack_s : List (Nat × Con) := [(96, ⟨[.val (.int .i64)], [(.row true (.int .u8))], (.pair (.row true (.int .u8)) .unit), spec_PutNum⟩), (97, ⟨[.val .str], [.bool], (.pair .bool .unit), spec_UrlOk⟩), (98, ⟨[.val .str], [(.row true (.int .u8))], (.pair (.row true (.int .u8)) .unit), spec_PutText⟩)]
def spec_RecordPack_E : Env := ⟨fun j => (look tyTab j).getD .unit, fun j => look spec_RecordPack_s j⟩
theorem spec_RecordPack_f_eq (N : Nat) (x0 : (Int × ByteArray × ByteArray × Unit)) : funK spec_RecordPack_E Tryz.f86 [.val S96] [(.row true (.int .u8)), .bool] (.pair (.row true (.int .u8)) (.pair .bool .unit)) (fun i => look [] i) N (x0, ()) = spec_RecordPack_k N x0 := by kernel_rfl
theorem spec_RecordPack_o : Known Tryz.prog 86 ⟨[.val S96], [(.row true (.int .u8)), .bool], (.pair (.row true (.int .u8)) (.pair .bool .unit)), spec_RecordPack⟩ := known_of (tab := tyTab) (cons := spec_RecordPack_s) (segs := []) (n := fuel) mixed_ok tab_ok (.cons spec_PutNum_o (.cons spec_UrlOk_o (.cons spec_PutText_o .nil))) Tryz.func86 (by kernel_rfl) trivial (fun x => spec_RecordPack_f_eq fuel x.1)
def spec_RecordRead_k (N : Nat) (x0 : (List Int)) (x1 : Int) : Option (Unit × ((Int × ByteArray × ByteArray × Unit) × Int × Bool × Unit)) :=
  obind (spec_GetNum (x0, x1, ())) fun v0 =>
  tb (bnot v0.2.2.2.1)
  (some ((), (0, (⟨#[]⟩ : ByteArray), (⟨#[]⟩ : ByteArray), ()), 0, false, ()))
  (obind (spec_GetText (x0, v0.2.2.1, ())) fun v1 =>
    tb (bnot v1.2.2.2.1)
    (some ((), (0, (⟨#[]⟩ : ByteArray), (⟨#[]⟩ : ByteArray), ()), 0, false, ()))
    (tb (ieq v0.2.1 1)
      (obind (spec_GetText (x0, v1.2.2.1, ())) fun v2 =>
        tb (bnot v2.2.2.2.1)
        (some ((), (0, (⟨#[]⟩ : ByteArray), (⟨#[]⟩ : ByteArray), ()), 0, false, ()))
        (obind (spec_RecordPack ((v0.2.1, v1.2.1, v2.2.1, ()), ())) fun v3 =>
          tb (bnot v3.2.2.1)
          (some ((), (0, (⟨#[]⟩ : ByteArray), (⟨#[]⟩ : ByteArray), ()), 0, false, ()))
          (some ((), (v0.2.1, v1.2.1, v2.2.1, ()), v2.2.2.1, true, ()))))
      (obind (spec_RecordPack ((v0.2.1, v1.2.1, (⟨#[]⟩ : ByteArray), ()), ())) fun v4 =>
        tb (bnot v4.2.2.1)
        (some ((), (0, (⟨#[]⟩ : ByteArray), (⟨#[]⟩ : ByteArray), ()), 0, false, ()))
        (some ((), (v0.2.1, v1.2.1, (⟨#[]⟩ : ByteArray), ()), v1.2.2.1, true, ())))))
def spec_RecordRead (x : ((List Int) × Int × Unit)) : Option (Unit × ((Int × ByteArray × ByteArray × Unit) × Int × Bool × Unit)) := spec_RecordRead_k fuel x.1 x.2.1
def spec_RecordRead_s : List (Nat × Con) := [(83, ⟨[.val (.row false (.int .u8)), .val (.int .i64)], [(.int .i64), (.int .i64), .bool], (.pair (.int .i64) (.pair (.int .i64) (.pair .bool .unit))), spec_GetNum⟩), (85, ⟨[.val (.row false (.int .u8)), .val (.int .i64)], [.str, (.int .i64), .bool], (.pair .str (.pair (.int .i64) (.pair .bool .unit))), spec_GetText⟩), (86, ⟨[.val S96], [(.row true (.int .u8)), .bool], (.pair (.row true (.int .u8)) (.pair .bool .unit)), spec_RecordPack⟩)]
def spec_RecordRead_E : Env := ⟨fun j => (look tyTab j).getD .unit, fun j => look spec_RecordRead_s j⟩
theorem spec_RecordRead_f_eq (N : Nat) (x0 : (List Int)) (x1 : Int) : funK spec_RecordRead_E Tryz.f67 [.val (.row false (.int .u8)), .val (.int .i64)] [T96, (.int .i64), .bool] (.pair T96 (.pair (.int .i64) (.pair .bool .unit))) (fun i => look [] i) N (x0, x1, ()) = spec_RecordRead_k N x0 x1 := by kernel_rfl
theorem spec_RecordRead_o : Known Tryz.prog 67 ⟨[.val (.row false (.int .u8)), .val (.int .i64)], [T96, (.int .i64), .bool], (.pair T96 (.pair (.int .i64) (.pair .bool .unit))), spec_RecordRead⟩ := known_of (tab := tyTab) (cons := spec_RecordRead_s) (segs := []) (n := fuel) mixed_ok tab_ok (.cons spec_GetNum_o (.cons spec_GetText_o (.cons spec_RecordPack_o .nil))) Tryz.func67 (by kernel_rfl) trivial (fun x => spec_RecordRead_f_eq fuel x.1 x.2.1)
def spec_Records_P0 : Tpl := ⟨[(0, .one (.leaf (.row false (.int .u8)))), (4, .one (.fix (.ref 10000 [] none))), (5, .one (.leaf (.int .i64)))], [], [(10000, (.pair (.int .i64) (.pair .str (.pair .str .unit))))]⟩
def spec_Records_O0 : Tpl := ⟨[(4, .one (.fix (.ref 10500 [] none)))], [], [(10500, (.pair (.int .i64) (.pair .str (.pair .str .unit))))]⟩
def spec_Records_k0 (N : Nat) : Nat → ((Unit × (Unit × ((List (Int × (ByteArray × (ByteArray × Unit)))) × Unit))) → Option (Unit × ((List (Int × ByteArray × ByteArray × Unit)) × Bool × Unit))) → (((List Int) × Int × Unit) × (Unit × ((List (Int × (ByteArray × (ByteArray × Unit)))) × Unit))) → Option (Unit × ((List (Int × ByteArray × ByteArray × Unit)) × Bool × Unit))
  | 0, _, _ => none
  | n + 1, k, x =>
    tb (ilt x.1.2.1 (((llen x.1.1) : Nat) : Int))
    (obind (spec_RecordRead (x.1.1, x.1.2.1, ())) fun v0 =>
      tb (bnot v0.2.2.2.1)
      (some ((), [], false, ()))
      (chk ((plus (llen x.2.2.1) (llen [(v0.2.1.1, v0.2.1.2.1, v0.2.1.2.2.1, ())])) ≤ 3518437208883) (spec_Records_k0 N n k ((x.1.1, v0.2.2.1, ()), (), (lapp x.2.2.1 [(v0.2.1.1, v0.2.1.2.1, v0.2.1.2.2.1, ())]), ())) (none)))
    (k ((), (), x.2.2.1, ()))
def spec_Records_k (N : Nat) (x0 : (List Int)) : Option (Unit × ((List (Int × ByteArray × ByteArray × Unit)) × Bool × Unit)) :=
  spec_Records_k0 N N (fun v0 =>
    some ((), v0.2.2.1, true, ())) ((x0, 0, ()), (), [], ())
def spec_Records (x : ((List Int) × Unit)) : Option (Unit × ((List (Int × ByteArray × ByteArray × Unit)) × Bool × Unit)) := spec_Records_k fuel x.1
def spec_Records_s : List (Nat × Con) := [(67, ⟨[.val (.row false (.int .u8)), .val (.int .i64)], [T96, (.int .i64), .bool], (.pair T96 (.pair (.int .i64) (.pair .bool .unit))), spec_RecordRead⟩)]
def spec_Records_E : Env := ⟨fun j => (look tyTab j).getD .unit, fun j => look spec_Records_s j⟩
theorem spec_Records_r0 (N n : Nat) (k : spec_Records_O0.ty.den → Option (Unit × ((List (Int × ByteArray × ByteArray × Unit)) × Bool × Unit))) (x : spec_Records_P0.ty.den) : roundK spec_Records_E ⟨Tryz.f41.ntmps, N, (fun i => look [(0, ⟨spec_Records_P0, spec_Records_O0, [.tmp 4 10000 (.pair (.int .i64) (.pair .str (.pair .str .unit)))], [.tmp 4 10500 (.pair (.int .i64) (.pair .str (.pair .str .unit)))], spec_Records_k0 N⟩)] i), retK spec_Records_E Tryz.f41 [.val (.row false (.int .u8))] [(.row true T96), .bool] (.pair (.row true T96) (.pair .bool .unit))⟩ (Tryz.f41.body.getD .skip) 0 ⟨spec_Records_P0, spec_Records_O0, [.tmp 4 10000 (.pair (.int .i64) (.pair .str (.pair .str .unit)))], [.tmp 4 10500 (.pair (.int .i64) (.pair .str (.pair .str .unit)))], spec_Records_k0 N⟩ (spec_Records_k0 N n k) k x = spec_Records_k0 N (n + 1) k x := by kernel_rfl
theorem spec_Records_f_eq (N : Nat) (x0 : (List Int)) : funK spec_Records_E Tryz.f41 [.val (.row false (.int .u8))] [(.row true T96), .bool] (.pair (.row true T96) (.pair .bool .unit)) (fun i => look [(0, ⟨spec_Records_P0, spec_Records_O0, [.tmp 4 10000 (.pair (.int .i64) (.pair .str (.pair .str .unit)))], [.tmp 4 10500 (.pair (.int .i64) (.pair .str (.pair .str .unit)))], spec_Records_k0 N⟩)] i) N (x0, ()) = spec_Records_k N x0 := by kernel_rfl
theorem spec_Records_o : Known Tryz.prog 41 ⟨[.val (.row false (.int .u8))], [(.row true T96), .bool], (.pair (.row true T96) (.pair .bool .unit)), spec_Records⟩ := known_of (tab := tyTab) (cons := spec_Records_s) (segs := [(0, ⟨spec_Records_P0, spec_Records_O0, [.tmp 4 10000 (.pair (.int .i64) (.pair .str (.pair .str .unit)))], [.tmp 4 10500 (.pair (.int .i64) (.pair .str (.pair .str .unit)))], spec_Records_k0 fuel⟩)]) (n := fuel) mixed_ok tab_ok (.cons spec_RecordRead_o .nil) Tryz.func41 (by kernel_rfl) ⟨⟨fun _ _ => rfl, fun n k x => spec_Records_r0 fuel n k x⟩, trivial⟩ (fun x => spec_Records_f_eq fuel x.1)
def spec_l16Get_P0 : Tpl := ⟨[(1, .one (.leaf (.int .i64))), (2, .one (.leaf (.int .i64))), (3, .one (.leaf (.int .i64))), (4, .one (.fix (.vptr 4 0))), (9, .one (.fix (.ref 10000 [] none))), (10, .one (.leaf (.int .i64)))], [(4, [.leaf (.row false .str), .leaf (.row false (.pair (.int .i64) (.pair .str .unit)))])], [(10000, (.int .u8))]⟩
def spec_l16Get_O0 : Tpl := ⟨[(9, .one (.fix (.ref 10500 [] none)))], [], [(10500, (.int .u8))]⟩
def spec_l16Get_k0 (N : Nat) : Nat → ((Unit × (Unit × ((List Int) × Unit))) → Option (Unit × ((List Int) × Unit))) → ((Int × Int × Int × Int × Unit) × ((((List ByteArray) × (List (Int × (ByteArray × Unit))) × Unit) × Unit) × ((List Int) × Unit))) → Option (Unit × ((List Int) × Unit))
  | 0, _, _ => none
  | n + 1, k, x =>
    tb (ilt x.1.2.2.2.1 x.1.2.2.1)
    (chk ((64 : Int) = 0) (none) (obind (spec_l15Of ((x.2.1.1.1, x.2.1.1.2.1, ()), (wr .i64 ((wr .i64 (2 + (wr .i64 (64 * x.1.1)))) + (wr .i64 (Int.tdiv (wr .i64 (x.1.2.1 + x.1.2.2.2.1)) 64)))), ())) fun v0 =>
        chk ((64 : Int) = 0) (none) (chk ((0 ≤ (Int.tmod (wr .i64 (x.1.2.1 + x.1.2.2.2.1)) 64)) ∧ ((Int.tmod (wr .i64 (x.1.2.1 + x.1.2.2.2.1)) 64) < (((slen v0.2.1) : Nat) : Int))) (chk ((plus (llen x.2.2.1) (llen [(bt v0.2.1 (Int.tmod (wr .i64 (x.1.2.1 + x.1.2.2.2.1)) 64))])) ≤ 140737488355328) (spec_l16Get_k0 N n k ((x.1.1, x.1.2.1, x.1.2.2.1, (wr .i64 (x.1.2.2.2.1 + 1)), ()), ((x.2.1.1.1, x.2.1.1.2.1, ()), ()), (lapp x.2.2.1 [(bt v0.2.1 (Int.tmod (wr .i64 (x.1.2.1 + x.1.2.2.2.1)) 64))]), ())) (none)) (none))))
    (k ((), (), x.2.2.1, ()))
def spec_l16Get_k (N : Nat) (x0 : ((List ByteArray) × (List (Int × ByteArray × Unit)) × Unit)) (x1 : Int) (x2 : Int) (x3 : Int) : Option (Unit × ((List Int) × Unit)) :=
  spec_l16Get_k0 N N (fun v0 =>
    some ((), v0.2.2.1, ())) ((x1, x2, x3, 0, ()), ((x0.1, x0.2.1, ()), ()), [], ())
def spec_l16Get (x : (((List ByteArray) × (List (Int × ByteArray × Unit)) × Unit) × Int × Int × Int × Unit)) : Option (Unit × ((List Int) × Unit)) := spec_l16Get_k fuel x.1 x.2.1 x.2.2.1 x.2.2.2.1
def spec_l16Get_s : List (Nat × Con) := [(65, ⟨[.val S36, .val (.int .i64)], [.str], (.pair .str .unit), spec_l15Of⟩)]
def spec_l16Get_E : Env := ⟨fun j => (look tyTab j).getD .unit, fun j => look spec_l16Get_s j⟩
theorem spec_l16Get_r0 (N n : Nat) (k : spec_l16Get_O0.ty.den → Option (Unit × ((List Int) × Unit))) (x : spec_l16Get_P0.ty.den) : roundK spec_l16Get_E ⟨Tryz.f68.ntmps, N, (fun i => look [(0, ⟨spec_l16Get_P0, spec_l16Get_O0, [.tmp 9 10000 (.int .u8)], [.tmp 9 10500 (.int .u8)], spec_l16Get_k0 N⟩)] i), retK spec_l16Get_E Tryz.f68 [.val S36, .val (.int .i64), .val (.int .i64), .val (.int .i64)] [(.row true (.int .u8))] (.pair (.row true (.int .u8)) .unit)⟩ (Tryz.f68.body.getD .skip) 0 ⟨spec_l16Get_P0, spec_l16Get_O0, [.tmp 9 10000 (.int .u8)], [.tmp 9 10500 (.int .u8)], spec_l16Get_k0 N⟩ (spec_l16Get_k0 N n k) k x = spec_l16Get_k0 N (n + 1) k x := by kernel_rfl
theorem spec_l16Get_f_eq (N : Nat) (x0 : ((List ByteArray) × (List (Int × ByteArray × Unit)) × Unit)) (x1 : Int) (x2 : Int) (x3 : Int) : funK spec_l16Get_E Tryz.f68 [.val S36, .val (.int .i64), .val (.int .i64), .val (.int .i64)] [(.row true (.int .u8))] (.pair (.row true (.int .u8)) .unit) (fun i => look [(0, ⟨spec_l16Get_P0, spec_l16Get_O0, [.tmp 9 10000 (.int .u8)], [.tmp 9 10500 (.int .u8)], spec_l16Get_k0 N⟩)] i) N (x0, x1, x2, x3, ()) = spec_l16Get_k N x0 x1 x2 x3 := by kernel_rfl
theorem spec_l16Get_o : Known Tryz.prog 68 ⟨[.val S36, .val (.int .i64), .val (.int .i64), .val (.int .i64)], [(.row true (.int .u8))], (.pair (.row true (.int .u8)) .unit), spec_l16Get⟩ := known_of (tab := tyTab) (cons := spec_l16Get_s) (segs := [(0, ⟨spec_l16Get_P0, spec_l16Get_O0, [.tmp 9 10000 (.int .u8)], [.tmp 9 10500 (.int .u8)], spec_l16Get_k0 fuel⟩)]) (n := fuel) mixed_ok tab_ok (.cons spec_l15Of_o .nil) Tryz.func68 (by kernel_rfl) ⟨⟨fun _ _ => rfl, fun n k x => spec_l16Get_r0 fuel n k x⟩, trivial⟩ (fun x => spec_l16Get_f_eq fuel x.1 x.2.1 x.2.2.1 x.2.2.2.1)
def spec_l18Bytes_k (N : Nat) (x0 : ((List ByteArray) × (List (Int × ByteArray × Unit)) × Unit)) (x1 : (Int × Int × Int × Unit)) : Option (Unit × ((List Int) × Unit)) :=
  obind (spec_l16Get ((x0.1, x0.2.1, ()), x1.2.1, 0, x1.2.2.1, ())) fun v0 =>
  some ((), v0.2.1, ())
def spec_l18Bytes (x : (((List ByteArray) × (List (Int × ByteArray × Unit)) × Unit) × (Int × Int × Int × Unit) × Unit)) : Option (Unit × ((List Int) × Unit)) := spec_l18Bytes_k fuel x.1 x.2.1
def spec_l18Bytes_s : List (Nat × Con) := [(68, ⟨[.val S36, .val (.int .i64), .val (.int .i64), .val (.int .i64)], [(.row true (.int .u8))], (.pair (.row true (.int .u8)) .unit), spec_l16Get⟩)]
def spec_l18Bytes_E : Env := ⟨fun j => (look tyTab j).getD .unit, fun j => look spec_l18Bytes_s j⟩
theorem spec_l18Bytes_f_eq (N : Nat) (x0 : ((List ByteArray) × (List (Int × ByteArray × Unit)) × Unit)) (x1 : (Int × Int × Int × Unit)) : funK spec_l18Bytes_E Tryz.f42 [.val S36, .val S37] [(.row true (.int .u8))] (.pair (.row true (.int .u8)) .unit) (fun i => look [] i) N (x0, x1, ()) = spec_l18Bytes_k N x0 x1 := by kernel_rfl
theorem spec_l18Bytes_o : Known Tryz.prog 42 ⟨[.val S36, .val S37], [(.row true (.int .u8))], (.pair (.row true (.int .u8)) .unit), spec_l18Bytes⟩ := known_of (tab := tyTab) (cons := spec_l18Bytes_s) (segs := []) (n := fuel) mixed_ok tab_ok (.cons spec_l16Get_o .nil) Tryz.func42 (by kernel_rfl) trivial (fun x => spec_l18Bytes_f_eq fuel x.1 x.2.1)
def spec_l18SameList_P0 : Tpl := ⟨[(0, .one (.leaf (.row false (.pair .str (.pair .str .unit))))), (1, .one (.leaf (.row false (.pair .str (.pair .str .unit))))), (5, .one (.leaf (.int .i64)))], [], []⟩
def spec_l18SameList_O0 : Tpl := ⟨[], [], []⟩
def spec_l18SameList_k0 (N : Nat) : Nat → ((Unit × (Unit × Unit)) → Option (Unit × (Bool × Unit))) → (((List (ByteArray × (ByteArray × Unit))) × (List (ByteArray × (ByteArray × Unit))) × Int × Unit) × (Unit × Unit)) → Option (Unit × (Bool × Unit))
  | 0, _, _ => none
  | n + 1, k, x =>
    tb (ilt x.1.2.2.1 (((llen x.1.1) : Nat) : Int))
    (chk (0 ≤ x.1.2.2.1) (obind (at? x.1.1 (Int.toNat x.1.2.2.1)) fun v0 =>
        chk (0 ≤ x.1.2.2.1) (obind (at? x.1.2.1 (Int.toNat x.1.2.2.1)) fun v1 =>
          tb (bnot (band (seq v0.1 v1.1) (band (seq v0.2.1 v1.2.1) true)))
          (some ((), false, ()))
          (spec_l18SameList_k0 N n k ((x.1.1, x.1.2.1, (wr .i64 (x.1.2.2.1 + 1)), ()), (), ()))) (none)) (none))
    (k ((), (), ()))
def spec_l18SameList_k (N : Nat) (x0 : (List (ByteArray × ByteArray × Unit))) (x1 : (List (ByteArray × ByteArray × Unit))) : Option (Unit × (Bool × Unit)) :=
  tb (bnot (ieq (((llen x0) : Nat) : Int) (((llen x1) : Nat) : Int)))
  (some ((), false, ()))
  (spec_l18SameList_k0 N N (fun v0 =>
      some ((), true, ())) ((x0, x1, 0, ()), (), ()))
def spec_l18SameList (x : ((List (ByteArray × ByteArray × Unit)) × (List (ByteArray × ByteArray × Unit)) × Unit)) : Option (Unit × (Bool × Unit)) := spec_l18SameList_k fuel x.1 x.2.1
def spec_l18SameList_s : List (Nat × Con) := []
def spec_l18SameList_E : Env := ⟨fun j => (look tyTab j).getD .unit, fun j => look spec_l18SameList_s j⟩
theorem spec_l18SameList_r0 (N n : Nat) (k : spec_l18SameList_O0.ty.den → Option (Unit × (Bool × Unit))) (x : spec_l18SameList_P0.ty.den) : roundK spec_l18SameList_E ⟨Tryz.f53.ntmps, N, (fun i => look [(0, ⟨spec_l18SameList_P0, spec_l18SameList_O0, [], [], spec_l18SameList_k0 N⟩)] i), retK spec_l18SameList_E Tryz.f53 [.val (.row false S53), .val (.row false S53)] [.bool] (.pair .bool .unit)⟩ (Tryz.f53.body.getD .skip) 0 ⟨spec_l18SameList_P0, spec_l18SameList_O0, [], [], spec_l18SameList_k0 N⟩ (spec_l18SameList_k0 N n k) k x = spec_l18SameList_k0 N (n + 1) k x := by kernel_rfl
theorem spec_l18SameList_f_eq (N : Nat) (x0 : (List (ByteArray × ByteArray × Unit))) (x1 : (List (ByteArray × ByteArray × Unit))) : funK spec_l18SameList_E Tryz.f53 [.val (.row false S53), .val (.row false S53)] [.bool] (.pair .bool .unit) (fun i => look [(0, ⟨spec_l18SameList_P0, spec_l18SameList_O0, [], [], spec_l18SameList_k0 N⟩)] i) N (x0, x1, ()) = spec_l18SameList_k N x0 x1 := by kernel_rfl
theorem spec_l18SameList_o : Known Tryz.prog 53 ⟨[.val (.row false S53), .val (.row false S53)], [.bool], (.pair .bool .unit), spec_l18SameList⟩ := known_of (tab := tyTab) (cons := spec_l18SameList_s) (segs := [(0, ⟨spec_l18SameList_P0, spec_l18SameList_O0, [], [], spec_l18SameList_k0 fuel⟩)]) (n := fuel) mixed_ok tab_ok .nil Tryz.func53 (by kernel_rfl) ⟨⟨fun _ _ => rfl, fun n k x => spec_l18SameList_r0 fuel n k x⟩, trivial⟩ (fun x => spec_l18SameList_f_eq fuel x.1 x.2.1)
def spec_IndexOf_P2 : Tpl := ⟨[(0, .one (.leaf (.row false (.pair (.int .i64) (.pair .str (.pair .str .unit)))))), (3, .one (.fix (.ref 12000 [] none))), (4, .one (.leaf (.int .i64))), (5, .one (.fix (.ref 12001 [] none))), (6, .one (.leaf .bool)), (7, .one (.leaf (.int .i64)))], [], [(12000, (.pair .str (.pair .str .unit))), (12001, (.pair .str (.pair .str .unit)))]⟩
def spec_IndexOf_O2 : Tpl := ⟨[(0, .one (.leaf (.row false (.pair (.int .i64) (.pair .str (.pair .str .unit)))))), (4, .one (.leaf (.int .i64))), (5, .one (.fix (.ref 12500 [] none))), (6, .one (.leaf .bool))], [], [(12500, (.pair .str (.pair .str .unit)))]⟩
def spec_IndexOf_k2 (N : Nat) : Nat → ((((List (Int × (ByteArray × (ByteArray × Unit)))) × Int × Bool × Unit) × (Unit × ((List (ByteArray × (ByteArray × Unit))) × Unit))) → Option (Unit × ((List (ByteArray × ByteArray × Unit)) × Unit))) → (((List (Int × (ByteArray × (ByteArray × Unit)))) × Int × Bool × Int × Unit) × (Unit × ((List (ByteArray × (ByteArray × Unit))) × (List (ByteArray × (ByteArray × Unit))) × Unit))) → Option (Unit × ((List (ByteArray × ByteArray × Unit)) × Unit))
  | 0, _, _ => none
  | n + 1, k, x =>
    tb (ilt x.1.2.2.2.1 (((llen x.2.2.1) : Nat) : Int))
    (tb (bnot x.1.2.2.1)
      (chk ((0 ≤ x.1.2.2.2.1) ∧ (x.1.2.2.2.1 < (((llen x.2.2.1) : Nat) : Int))) (obind (at? x.2.2.1 (Int.toNat x.1.2.2.2.1)) fun v0 =>
          chk (0 ≤ x.1.2.1) (obind (at? x.1.1 (Int.toNat x.1.2.1)) fun v1 =>
            tb (bnot (slt v0.1 v1.2.1))
            (chk (0 ≤ x.1.2.1) (obind (at? x.1.1 (Int.toNat x.1.2.1)) fun v2 =>
                chk (0 ≤ x.1.2.1) (obind (at? x.1.1 (Int.toNat x.1.2.1)) fun v3 =>
                  chk ((plus (llen x.2.2.2.1) (llen [(v2.2.1, v3.2.2.1, ())])) ≤ 4398046511104) (chk ((0 ≤ x.1.2.2.2.1) ∧ (x.1.2.2.2.1 < (((llen x.2.2.1) : Nat) : Int))) (obind (at? x.2.2.1 (Int.toNat x.1.2.2.2.1)) fun v4 =>
                      chk (0 ≤ x.1.2.1) (obind (at? x.1.1 (Int.toNat x.1.2.1)) fun v5 =>
                        tb (bnot (seq v4.1 v5.2.1))
                        (chk ((0 ≤ x.1.2.2.2.1) ∧ (x.1.2.2.2.1 < (((llen x.2.2.1) : Nat) : Int))) (obind (at? x.2.2.1 (Int.toNat x.1.2.2.2.1)) fun v6 =>
                            chk ((plus (llen (lapp x.2.2.2.1 [(v2.2.1, v3.2.2.1, ())])) (llen [(v6.1, v6.2.1, ())])) ≤ 4398046511104) (spec_IndexOf_k2 N n k ((x.1.1, x.1.2.1, true, (wr .i64 (x.1.2.2.2.1 + 1)), ()), (), x.2.2.1, (lapp (lapp x.2.2.2.1 [(v2.2.1, v3.2.2.1, ())]) [(v6.1, v6.2.1, ())]), ())) (none)) (none))
                        (spec_IndexOf_k2 N n k ((x.1.1, x.1.2.1, true, (wr .i64 (x.1.2.2.2.1 + 1)), ()), (), x.2.2.1, (lapp x.2.2.2.1 [(v2.2.1, v3.2.2.1, ())]), ()))) (none)) (none)) (none)) (none)) (none))
            (chk ((0 ≤ x.1.2.2.2.1) ∧ (x.1.2.2.2.1 < (((llen x.2.2.1) : Nat) : Int))) (obind (at? x.2.2.1 (Int.toNat x.1.2.2.2.1)) fun v7 =>
                chk (0 ≤ x.1.2.1) (obind (at? x.1.1 (Int.toNat x.1.2.1)) fun v8 =>
                  tb (bnot (seq v7.1 v8.2.1))
                  (chk ((0 ≤ x.1.2.2.2.1) ∧ (x.1.2.2.2.1 < (((llen x.2.2.1) : Nat) : Int))) (obind (at? x.2.2.1 (Int.toNat x.1.2.2.2.1)) fun v9 =>
                      chk ((plus (llen x.2.2.2.1) (llen [(v9.1, v9.2.1, ())])) ≤ 4398046511104) (spec_IndexOf_k2 N n k ((x.1.1, x.1.2.1, x.1.2.2.1, (wr .i64 (x.1.2.2.2.1 + 1)), ()), (), x.2.2.1, (lapp x.2.2.2.1 [(v9.1, v9.2.1, ())]), ())) (none)) (none))
                  (spec_IndexOf_k2 N n k ((x.1.1, x.1.2.1, x.1.2.2.1, (wr .i64 (x.1.2.2.2.1 + 1)), ()), (), x.2.2.1, x.2.2.2.1, ()))) (none)) (none))) (none)) (none))
      (chk ((0 ≤ x.1.2.2.2.1) ∧ (x.1.2.2.2.1 < (((llen x.2.2.1) : Nat) : Int))) (obind (at? x.2.2.1 (Int.toNat x.1.2.2.2.1)) fun v10 =>
          chk (0 ≤ x.1.2.1) (obind (at? x.1.1 (Int.toNat x.1.2.1)) fun v11 =>
            tb (bnot (seq v10.1 v11.2.1))
            (chk ((0 ≤ x.1.2.2.2.1) ∧ (x.1.2.2.2.1 < (((llen x.2.2.1) : Nat) : Int))) (obind (at? x.2.2.1 (Int.toNat x.1.2.2.2.1)) fun v12 =>
                chk ((plus (llen x.2.2.2.1) (llen [(v12.1, v12.2.1, ())])) ≤ 4398046511104) (spec_IndexOf_k2 N n k ((x.1.1, x.1.2.1, x.1.2.2.1, (wr .i64 (x.1.2.2.2.1 + 1)), ()), (), x.2.2.1, (lapp x.2.2.2.1 [(v12.1, v12.2.1, ())]), ())) (none)) (none))
            (spec_IndexOf_k2 N n k ((x.1.1, x.1.2.1, x.1.2.2.1, (wr .i64 (x.1.2.2.2.1 + 1)), ()), (), x.2.2.1, x.2.2.2.1, ()))) (none)) (none)))
    (k ((x.1.1, x.1.2.1, x.1.2.2.1, ()), (), x.2.2.2.1, ()))
def spec_IndexOf_P0 : Tpl := ⟨[(0, .one (.leaf (.row false (.pair (.int .i64) (.pair .str (.pair .str .unit)))))), (3, .one (.fix (.ref 10000 [] none))), (4, .one (.leaf (.int .i64)))], [], [(10000, (.pair .str (.pair .str .unit)))]⟩
def spec_IndexOf_O0 : Tpl := ⟨[(3, .one (.fix (.ref 10500 [] none)))], [], [(10500, (.pair .str (.pair .str .unit)))]⟩
def spec_IndexOf_k0 (N : Nat) : Nat → ((Unit × (Unit × ((List (ByteArray × (ByteArray × Unit))) × Unit))) → Option (Unit × ((List (ByteArray × ByteArray × Unit)) × Unit))) → (((List (Int × (ByteArray × (ByteArray × Unit)))) × Int × Unit) × (Unit × ((List (ByteArray × (ByteArray × Unit))) × Unit))) → Option (Unit × ((List (ByteArray × ByteArray × Unit)) × Unit))
  | 0, _, _ => none
  | n + 1, k, x =>
    tb (ilt x.1.2.1 (((llen x.1.1) : Nat) : Int))
    (chk (0 ≤ x.1.2.1) (obind (at? x.1.1 (Int.toNat x.1.2.1)) fun v0 =>
        spec_IndexOf_k2 N N (fun v1 =>
          tb (bnot v1.1.2.2.1)
          (chk (0 ≤ v1.1.2.1) (obind (at? v1.1.1 (Int.toNat v1.1.2.1)) fun v2 =>
              chk (0 ≤ v1.1.2.1) (obind (at? v1.1.1 (Int.toNat v1.1.2.1)) fun v3 =>
                chk ((plus (llen v1.2.2.1) (llen [(v2.2.1, v3.2.2.1, ())])) ≤ 4398046511104) (spec_IndexOf_k0 N n k ((v1.1.1, (wr .i64 (v1.1.2.1 + 1)), ()), (), (lapp v1.2.2.1 [(v2.2.1, v3.2.2.1, ())]), ())) (none)) (none)) (none))
          (spec_IndexOf_k0 N n k ((v1.1.1, (wr .i64 (v1.1.2.1 + 1)), ()), (), v1.2.2.1, ()))) ((x.1.1, x.1.2.1, (bnot (ieq v0.1 1)), 0, ()), (), x.2.2.1, [], ())) (none))
    (k ((), (), x.2.2.1, ()))
def spec_IndexOf_k (N : Nat) (x0 : (List (Int × ByteArray × ByteArray × Unit))) : Option (Unit × ((List (ByteArray × ByteArray × Unit)) × Unit)) :=
  spec_IndexOf_k0 N N (fun v0 =>
    some ((), v0.2.2.1, ())) ((x0, 0, ()), (), [], ())
def spec_IndexOf (x : ((List (Int × ByteArray × ByteArray × Unit)) × Unit)) : Option (Unit × ((List (ByteArray × ByteArray × Unit)) × Unit)) := spec_IndexOf_k fuel x.1
def spec_IndexOf_s : List (Nat × Con) := []
def spec_IndexOf_E : Env := ⟨fun j => (look tyTab j).getD .unit, fun j => look spec_IndexOf_s j⟩
theorem spec_IndexOf_r2 (N n : Nat) (k : spec_IndexOf_O2.ty.den → Option (Unit × ((List (ByteArray × ByteArray × Unit)) × Unit))) (x : spec_IndexOf_P2.ty.den) : roundK spec_IndexOf_E ⟨Tryz.f54.ntmps, N, (fun i => look [(0, ⟨spec_IndexOf_P0, spec_IndexOf_O0, [.tmp 3 10000 (.pair .str (.pair .str .unit))], [.tmp 3 10500 (.pair .str (.pair .str .unit))], spec_IndexOf_k0 N⟩), (2, ⟨spec_IndexOf_P2, spec_IndexOf_O2, [.tmp 3 12000 (.pair .str (.pair .str .unit)), .tmp 5 12001 (.pair .str (.pair .str .unit))], [.tmp 5 12500 (.pair .str (.pair .str .unit))], spec_IndexOf_k2 N⟩)] i), retK spec_IndexOf_E Tryz.f54 [.val (.row false S96)] [(.row true T53)] (.pair (.row true T53) .unit)⟩ (Tryz.f54.body.getD .skip) 2 ⟨spec_IndexOf_P2, spec_IndexOf_O2, [.tmp 3 12000 (.pair .str (.pair .str .unit)), .tmp 5 12001 (.pair .str (.pair .str .unit))], [.tmp 5 12500 (.pair .str (.pair .str .unit))], spec_IndexOf_k2 N⟩ (spec_IndexOf_k2 N n k) k x = spec_IndexOf_k2 N (n + 1) k x := by kernel_rfl
theorem spec_IndexOf_r0 (N n : Nat) (k : spec_IndexOf_O0.ty.den → Option (Unit × ((List (ByteArray × ByteArray × Unit)) × Unit))) (x : spec_IndexOf_P0.ty.den) : roundK spec_IndexOf_E ⟨Tryz.f54.ntmps, N, (fun i => look [(0, ⟨spec_IndexOf_P0, spec_IndexOf_O0, [.tmp 3 10000 (.pair .str (.pair .str .unit))], [.tmp 3 10500 (.pair .str (.pair .str .unit))], spec_IndexOf_k0 N⟩), (2, ⟨spec_IndexOf_P2, spec_IndexOf_O2, [.tmp 3 12000 (.pair .str (.pair .str .unit)), .tmp 5 12001 (.pair .str (.pair .str .unit))], [.tmp 5 12500 (.pair .str (.pair .str .unit))], spec_IndexOf_k2 N⟩)] i), retK spec_IndexOf_E Tryz.f54 [.val (.row false S96)] [(.row true T53)] (.pair (.row true T53) .unit)⟩ (Tryz.f54.body.getD .skip) 0 ⟨spec_IndexOf_P0, spec_IndexOf_O0, [.tmp 3 10000 (.pair .str (.pair .str .unit))], [.tmp 3 10500 (.pair .str (.pair .str .unit))], spec_IndexOf_k0 N⟩ (spec_IndexOf_k0 N n k) k x = spec_IndexOf_k0 N (n + 1) k x := by kernel_rfl
theorem spec_IndexOf_f_eq (N : Nat) (x0 : (List (Int × ByteArray × ByteArray × Unit))) : funK spec_IndexOf_E Tryz.f54 [.val (.row false S96)] [(.row true T53)] (.pair (.row true T53) .unit) (fun i => look [(0, ⟨spec_IndexOf_P0, spec_IndexOf_O0, [.tmp 3 10000 (.pair .str (.pair .str .unit))], [.tmp 3 10500 (.pair .str (.pair .str .unit))], spec_IndexOf_k0 N⟩), (2, ⟨spec_IndexOf_P2, spec_IndexOf_O2, [.tmp 3 12000 (.pair .str (.pair .str .unit)), .tmp 5 12001 (.pair .str (.pair .str .unit))], [.tmp 5 12500 (.pair .str (.pair .str .unit))], spec_IndexOf_k2 N⟩)] i) N (x0, ()) = spec_IndexOf_k N x0 := by kernel_rfl
theorem spec_IndexOf_o : Known Tryz.prog 54 ⟨[.val (.row false S96)], [(.row true T53)], (.pair (.row true T53) .unit), spec_IndexOf⟩ := known_of (tab := tyTab) (cons := spec_IndexOf_s) (segs := [(0, ⟨spec_IndexOf_P0, spec_IndexOf_O0, [.tmp 3 10000 (.pair .str (.pair .str .unit))], [.tmp 3 10500 (.pair .str (.pair .str .unit))], spec_IndexOf_k0 fuel⟩), (2, ⟨spec_IndexOf_P2, spec_IndexOf_O2, [.tmp 3 12000 (.pair .str (.pair .str .unit)), .tmp 5 12001 (.pair .str (.pair .str .unit))], [.tmp 5 12500 (.pair .str (.pair .str .unit))], spec_IndexOf_k2 fuel⟩)]) (n := fuel) mixed_ok tab_ok .nil Tryz.func54 (by kernel_rfl) ⟨⟨fun _ _ => rfl, fun n k x => spec_IndexOf_r0 fuel n k x⟩, ⟨⟨fun _ _ => rfl, fun n k x => spec_IndexOf_r2 fuel n k x⟩, trivial⟩⟩ (fun x => spec_IndexOf_f_eq fuel x.1)
def spec_ArchiveOk_k (N : Nat) (x0 : (Bool × ((List ByteArray) × (List (Int × ByteArray × Unit)) × Unit) × (Int × Int × Int × Unit) × (List (ByteArray × ByteArray × Unit)) × Unit)) : Option (Unit × (Bool × Unit)) :=
  obind (spec_DiskOk ((x0.2.1.1, x0.2.1.2.1, ()), ())) fun v0 =>
  tb (bnot v0.2.1)
  (some ((), false, ()))
  (tb (ilt 0 (((llen x0.2.1.2.1) : Nat) : Int))
    (some ((), false, ()))
    (tb (bnot x0.1)
      (tb (band (ieq x0.2.2.1.1 0) (band (ieq x0.2.2.1.2.1 0) (band (ieq x0.2.2.1.2.2.1 0) true)))
        (some ((), (ieq (((llen x0.2.2.2.1) : Nat) : Int) 0), ()))
        (some ((), false, ())))
      (obind (spec_l16Right ((x0.2.2.1.1, x0.2.2.1.2.1, x0.2.2.1.2.2.1, ()), ())) fun v1 =>
        tb (bnot v1.2.1)
        (some ((), false, ()))
        (obind (spec_HeadNow ((x0.2.1.1, x0.2.1.2.1, ()), ())) fun v2 =>
          tb (bnot (band (ieq v2.2.1.1 x0.2.2.1.1) (band (ieq v2.2.1.2.1 x0.2.2.1.2.1) (band (ieq v2.2.1.2.2.1 x0.2.2.1.2.2.1) true))))
          (some ((), false, ()))
          (obind (spec_l18Bytes ((x0.2.1.1, x0.2.1.2.1, ()), (x0.2.2.1.1, x0.2.2.1.2.1, x0.2.2.1.2.2.1, ()), ())) fun v3 =>
            obind (spec_Records (v3.2.1, ())) fun v4 =>
            tb v4.2.2.1
            (obind (spec_IndexOf (v4.2.1, ())) fun v5 =>
              obind (spec_l18SameList (v5.2.1, x0.2.2.2.1, ())) fun v6 =>
              some ((), v6.2.1, ()))
            (some ((), false, ())))))))
def spec_ArchiveOk (x : ((Bool × ((List ByteArray) × (List (Int × ByteArray × Unit)) × Unit) × (Int × Int × Int × Unit) × (List (ByteArray × ByteArray × Unit)) × Unit) × Unit)) : Option (Unit × (Bool × Unit)) := spec_ArchiveOk_k fuel x.1
def spec_ArchiveOk_s : List (Nat × Con) := [(39, ⟨[.val S36], [T37], (.pair T37 .unit), spec_HeadNow⟩), (40, ⟨[.val S37], [.bool], (.pair .bool .unit), spec_l16Right⟩), (41, ⟨[.val (.row false (.int .u8))], [(.row true T96), .bool], (.pair (.row true T96) (.pair .bool .unit)), spec_Records⟩), (42, ⟨[.val S36, .val S37], [(.row true (.int .u8))], (.pair (.row true (.int .u8)) .unit), spec_l18Bytes⟩), (52, ⟨[.val S36], [.bool], (.pair .bool .unit), spec_DiskOk⟩), (53, ⟨[.val (.row false S53), .val (.row false S53)], [.bool], (.pair .bool .unit), spec_l18SameList⟩), (54, ⟨[.val (.row false S96)], [(.row true T53)], (.pair (.row true T53) .unit), spec_IndexOf⟩)]
def spec_ArchiveOk_E : Env := ⟨fun j => (look tyTab j).getD .unit, fun j => look spec_ArchiveOk_s j⟩
theorem spec_ArchiveOk_f_eq (N : Nat) (x0 : (Bool × ((List ByteArray) × (List (Int × ByteArray × Unit)) × Unit) × (Int × Int × Int × Unit) × (List (ByteArray × ByteArray × Unit)) × Unit)) : funK spec_ArchiveOk_E Tryz.f22 [.val S40] [.bool] (.pair .bool .unit) (fun i => look [] i) N (x0, ()) = spec_ArchiveOk_k N x0 := by kernel_rfl
theorem spec_ArchiveOk_o : Known Tryz.prog 22 ⟨[.val S40], [.bool], (.pair .bool .unit), spec_ArchiveOk⟩ := known_of (tab := tyTab) (cons := spec_ArchiveOk_s) (segs := []) (n := fuel) mixed_ok tab_ok (.cons spec_HeadNow_o (.cons spec_l16Right_o (.cons spec_Records_o (.cons spec_l18Bytes_o (.cons spec_DiskOk_o (.cons spec_l18SameList_o (.cons spec_IndexOf_o .nil))))))) Tryz.func22 (by kernel_rfl) trivial (fun x => spec_ArchiveOk_f_eq fuel x.1)
def laws_toStringS_P0 : Tpl := ⟨[(0, .one (.leaf (.row false .str))), (3, .one (.fix (.ref 10000 [] none))), (4, .one (.leaf (.int .i64)))], [], [(10000, .str)]⟩
def laws_toStringS_O0 : Tpl := ⟨[(3, .one (.fix (.ref 10500 [] none)))], [], [(10500, .str)]⟩
def laws_toStringS_k0 (N : Nat) : Nat → ((Unit × (Unit × ((List ByteArray) × Unit))) → Option (Unit × ((List ByteArray) × Unit))) → (((List ByteArray) × Int × Unit) × (Unit × ((List ByteArray) × Unit))) → Option (Unit × ((List ByteArray) × Unit))
  | 0, _, _ => none
  | n + 1, k, x =>
    tb (ilt x.1.2.1 (((llen x.1.1) : Nat) : Int))
    (chk (0 ≤ x.1.2.1) (obind (at? x.1.1 (Int.toNat x.1.2.1)) fun v0 =>
        chk ((0 ≤ x.1.2.1) ∧ (x.1.2.1 < (((llen x.2.2.1) : Nat) : Int))) (obind (at? x.2.2.1 (Int.toNat x.1.2.1)) fun v1 =>
          laws_toStringS_k0 N n k ((x.1.1, (wr .i64 (x.1.2.1 + 1)), ()), (), (lset x.2.2.1 (Int.toNat x.1.2.1) v0), ())) (none)) (none))
    (k ((), (), x.2.2.1, ()))
def laws_toStringS_k (N : Nat) (x0 : (List ByteArray)) : Option (Unit × ((List ByteArray) × Unit)) :=
  chk ((0 ≤ (((llen x0) : Nat) : Int)) ∧ (((((llen x0) : Nat) : Int) ≤ (((llen x0) : Nat) : Int)) ∧ ((Int.toNat (((llen x0) : Nat) : Int)) ≤ 8796093022208))) (laws_toStringS_k0 N N (fun v0 =>
      some ((), v0.2.2.1, ())) ((x0, 0, ()), (), (lrep (Int.toNat (((llen x0) : Nat) : Int)) (⟨#[]⟩ : ByteArray)), ())) (none)
def laws_toStringS (x : ((List ByteArray) × Unit)) : Option (Unit × ((List ByteArray) × Unit)) := laws_toStringS_k fuel x.1
def laws_toStringS_s : List (Nat × Con) := []
def laws_toStringS_E : Env := ⟨fun j => (look tyTab j).getD .unit, fun j => look laws_toStringS_s j⟩
theorem laws_toStringS_r0 (N n : Nat) (k : laws_toStringS_O0.ty.den → Option (Unit × ((List ByteArray) × Unit))) (x : laws_toStringS_P0.ty.den) : roundK laws_toStringS_E ⟨Tryz.f55.ntmps, N, (fun i => look [(0, ⟨laws_toStringS_P0, laws_toStringS_O0, [.tmp 3 10000 .str], [.tmp 3 10500 .str], laws_toStringS_k0 N⟩)] i), retK laws_toStringS_E Tryz.f55 [.val (.row false .str)] [(.row true .str)] (.pair (.row true .str) .unit)⟩ (Tryz.f55.body.getD .skip) 0 ⟨laws_toStringS_P0, laws_toStringS_O0, [.tmp 3 10000 .str], [.tmp 3 10500 .str], laws_toStringS_k0 N⟩ (laws_toStringS_k0 N n k) k x = laws_toStringS_k0 N (n + 1) k x := by kernel_rfl
theorem laws_toStringS_f_eq (N : Nat) (x0 : (List ByteArray)) : funK laws_toStringS_E Tryz.f55 [.val (.row false .str)] [(.row true .str)] (.pair (.row true .str) .unit) (fun i => look [(0, ⟨laws_toStringS_P0, laws_toStringS_O0, [.tmp 3 10000 .str], [.tmp 3 10500 .str], laws_toStringS_k0 N⟩)] i) N (x0, ()) = laws_toStringS_k N x0 := by kernel_rfl
theorem laws_toStringS_o : Known Tryz.prog 55 ⟨[.val (.row false .str)], [(.row true .str)], (.pair (.row true .str) .unit), laws_toStringS⟩ := known_of (tab := tyTab) (cons := laws_toStringS_s) (segs := [(0, ⟨laws_toStringS_P0, laws_toStringS_O0, [.tmp 3 10000 .str], [.tmp 3 10500 .str], laws_toStringS_k0 fuel⟩)]) (n := fuel) mixed_ok tab_ok .nil Tryz.func55 (by kernel_rfl) ⟨⟨fun _ _ => rfl, fun n k x => laws_toStringS_r0 fuel n k x⟩, trivial⟩ (fun x => laws_toStringS_f_eq fuel x.1)
def laws_toPut_k (N : Nat) (x0 : (Int × ByteArray × Unit)) : Option (Unit × ((Int × ByteArray × Unit) × Unit)) :=
  some ((), (x0.1, x0.2.1, ()), ())
def laws_toPut (x : ((Int × ByteArray × Unit) × Unit)) : Option (Unit × ((Int × ByteArray × Unit) × Unit)) := laws_toPut_k fuel x.1
def laws_toPut_s : List (Nat × Con) := []
def laws_toPut_E : Env := ⟨fun j => (look tyTab j).getD .unit, fun j => look laws_toPut_s j⟩
theorem laws_toPut_f_eq (N : Nat) (x0 : (Int × ByteArray × Unit)) : funK laws_toPut_E Tryz.f81 [.val S105] [T90] (.pair T90 .unit) (fun i => look [] i) N (x0, ()) = laws_toPut_k N x0 := by kernel_rfl
theorem laws_toPut_o : Known Tryz.prog 81 ⟨[.val S105], [T90], (.pair T90 .unit), laws_toPut⟩ := known_of (tab := tyTab) (cons := laws_toPut_s) (segs := []) (n := fuel) mixed_ok tab_ok .nil Tryz.func81 (by kernel_rfl) trivial (fun x => laws_toPut_f_eq fuel x.1)
def laws_toPutS_P0 : Tpl := ⟨[(0, .one (.leaf (.row false (.pair (.int .i64) (.pair .str .unit))))), (3, .one (.fix (.ref 10000 [] none))), (4, .one (.leaf (.int .i64)))], [], [(10000, (.pair (.int .i64) (.pair .str .unit)))]⟩
def laws_toPutS_O0 : Tpl := ⟨[(3, .one (.fix (.ref 10500 [] none)))], [], [(10500, (.pair (.int .i64) (.pair .str .unit)))]⟩
def laws_toPutS_k0 (N : Nat) : Nat → ((Unit × (Unit × ((List (Int × (ByteArray × Unit))) × Unit))) → Option (Unit × ((List (Int × ByteArray × Unit)) × Unit))) → (((List (Int × (ByteArray × Unit))) × Int × Unit) × (Unit × ((List (Int × (ByteArray × Unit))) × Unit))) → Option (Unit × ((List (Int × ByteArray × Unit)) × Unit))
  | 0, _, _ => none
  | n + 1, k, x =>
    tb (ilt x.1.2.1 (((llen x.1.1) : Nat) : Int))
    (chk (0 ≤ x.1.2.1) (obind (at? x.1.1 (Int.toNat x.1.2.1)) fun v0 =>
        obind (laws_toPut ((v0.1, v0.2.1, ()), ())) fun v1 =>
        chk ((0 ≤ x.1.2.1) ∧ (x.1.2.1 < (((llen x.2.2.1) : Nat) : Int))) (obind (at? x.2.2.1 (Int.toNat x.1.2.1)) fun v2 =>
          laws_toPutS_k0 N n k ((x.1.1, (wr .i64 (x.1.2.1 + 1)), ()), (), (lset x.2.2.1 (Int.toNat x.1.2.1) (v1.2.1.1, v1.2.1.2.1, ())), ())) (none)) (none))
    (k ((), (), x.2.2.1, ()))
def laws_toPutS_k (N : Nat) (x0 : (List (Int × ByteArray × Unit))) : Option (Unit × ((List (Int × ByteArray × Unit)) × Unit)) :=
  chk ((0 ≤ (((llen x0) : Nat) : Int)) ∧ (((((llen x0) : Nat) : Int) ≤ (((llen x0) : Nat) : Int)) ∧ ((Int.toNat (((llen x0) : Nat) : Int)) ≤ 5864062014805))) (laws_toPutS_k0 N N (fun v0 =>
      some ((), v0.2.2.1, ())) ((x0, 0, ()), (), (lrep (Int.toNat (((llen x0) : Nat) : Int)) ((0 : Int), (⟨#[]⟩ : ByteArray), PUnit.unit)), ())) (none)
def laws_toPutS (x : ((List (Int × ByteArray × Unit)) × Unit)) : Option (Unit × ((List (Int × ByteArray × Unit)) × Unit)) := laws_toPutS_k fuel x.1
def laws_toPutS_s : List (Nat × Con) := [(81, ⟨[.val S105], [T90], (.pair T90 .unit), laws_toPut⟩)]
def laws_toPutS_E : Env := ⟨fun j => (look tyTab j).getD .unit, fun j => look laws_toPutS_s j⟩
theorem laws_toPutS_r0 (N n : Nat) (k : laws_toPutS_O0.ty.den → Option (Unit × ((List (Int × ByteArray × Unit)) × Unit))) (x : laws_toPutS_P0.ty.den) : roundK laws_toPutS_E ⟨Tryz.f56.ntmps, N, (fun i => look [(0, ⟨laws_toPutS_P0, laws_toPutS_O0, [.tmp 3 10000 (.pair (.int .i64) (.pair .str .unit))], [.tmp 3 10500 (.pair (.int .i64) (.pair .str .unit))], laws_toPutS_k0 N⟩)] i), retK laws_toPutS_E Tryz.f56 [.val (.row false S105)] [(.row true T90)] (.pair (.row true T90) .unit)⟩ (Tryz.f56.body.getD .skip) 0 ⟨laws_toPutS_P0, laws_toPutS_O0, [.tmp 3 10000 (.pair (.int .i64) (.pair .str .unit))], [.tmp 3 10500 (.pair (.int .i64) (.pair .str .unit))], laws_toPutS_k0 N⟩ (laws_toPutS_k0 N n k) k x = laws_toPutS_k0 N (n + 1) k x := by kernel_rfl
theorem laws_toPutS_f_eq (N : Nat) (x0 : (List (Int × ByteArray × Unit))) : funK laws_toPutS_E Tryz.f56 [.val (.row false S105)] [(.row true T90)] (.pair (.row true T90) .unit) (fun i => look [(0, ⟨laws_toPutS_P0, laws_toPutS_O0, [.tmp 3 10000 (.pair (.int .i64) (.pair .str .unit))], [.tmp 3 10500 (.pair (.int .i64) (.pair .str .unit))], laws_toPutS_k0 N⟩)] i) N (x0, ()) = laws_toPutS_k N x0 := by kernel_rfl
theorem laws_toPutS_o : Known Tryz.prog 56 ⟨[.val (.row false S105)], [(.row true T90)], (.pair (.row true T90) .unit), laws_toPutS⟩ := known_of (tab := tyTab) (cons := laws_toPutS_s) (segs := [(0, ⟨laws_toPutS_P0, laws_toPutS_O0, [.tmp 3 10000 (.pair (.int .i64) (.pair .str .unit))], [.tmp 3 10500 (.pair (.int .i64) (.pair .str .unit))], laws_toPutS_k0 fuel⟩)]) (n := fuel) mixed_ok tab_ok (.cons laws_toPut_o .nil) Tryz.func56 (by kernel_rfl) ⟨⟨fun _ _ => rfl, fun n k x => laws_toPutS_r0 fuel n k x⟩, trivial⟩ (fun x => laws_toPutS_f_eq fuel x.1)
def laws_toDisk_k (N : Nat) (x0 : ((List ByteArray) × (List (Int × ByteArray × Unit)) × Unit)) : Option (Unit × (((List ByteArray) × (List (Int × ByteArray × Unit)) × Unit) × Unit)) :=
  obind (laws_toStringS (x0.1, ())) fun v0 =>
  obind (laws_toPutS (x0.2.1, ())) fun v1 =>
  some ((), (v0.2.1, v1.2.1, ()), ())
def laws_toDisk (x : (((List ByteArray) × (List (Int × ByteArray × Unit)) × Unit) × Unit)) : Option (Unit × (((List ByteArray) × (List (Int × ByteArray × Unit)) × Unit) × Unit)) := laws_toDisk_k fuel x.1
def laws_toDisk_s : List (Nat × Con) := [(55, ⟨[.val (.row false .str)], [(.row true .str)], (.pair (.row true .str) .unit), laws_toStringS⟩), (56, ⟨[.val (.row false S105)], [(.row true T90)], (.pair (.row true T90) .unit), laws_toPutS⟩)]
def laws_toDisk_E : Env := ⟨fun j => (look tyTab j).getD .unit, fun j => look laws_toDisk_s j⟩
theorem laws_toDisk_f_eq (N : Nat) (x0 : ((List ByteArray) × (List (Int × ByteArray × Unit)) × Unit)) : funK laws_toDisk_E Tryz.f23 [.val S25] [T36] (.pair T36 .unit) (fun i => look [] i) N (x0, ()) = laws_toDisk_k N x0 := by kernel_rfl
theorem laws_toDisk_o : Known Tryz.prog 23 ⟨[.val S25], [T36], (.pair T36 .unit), laws_toDisk⟩ := known_of (tab := tyTab) (cons := laws_toDisk_s) (segs := []) (n := fuel) mixed_ok tab_ok (.cons laws_toStringS_o (.cons laws_toPutS_o .nil)) Tryz.func23 (by kernel_rfl) trivial (fun x => laws_toDisk_f_eq fuel x.1)
def laws_toHead_k (N : Nat) (x0 : (Int × Int × Int × Unit)) : Option (Unit × ((Int × Int × Int × Unit) × Unit)) :=
  some ((), (x0.1, x0.2.1, x0.2.2.1, ()), ())
def laws_toHead (x : ((Int × Int × Int × Unit) × Unit)) : Option (Unit × ((Int × Int × Int × Unit) × Unit)) := laws_toHead_k fuel x.1
def laws_toHead_s : List (Nat × Con) := []
def laws_toHead_E : Env := ⟨fun j => (look tyTab j).getD .unit, fun j => look laws_toHead_s j⟩
theorem laws_toHead_f_eq (N : Nat) (x0 : (Int × Int × Int × Unit)) : funK laws_toHead_E Tryz.f24 [.val S27] [T37] (.pair T37 .unit) (fun i => look [] i) N (x0, ()) = laws_toHead_k N x0 := by kernel_rfl
theorem laws_toHead_o : Known Tryz.prog 24 ⟨[.val S27], [T37], (.pair T37 .unit), laws_toHead⟩ := known_of (tab := tyTab) (cons := laws_toHead_s) (segs := []) (n := fuel) mixed_ok tab_ok .nil Tryz.func24 (by kernel_rfl) trivial (fun x => laws_toHead_f_eq fuel x.1)
def laws_toEntry_k (N : Nat) (x0 : (ByteArray × ByteArray × Unit)) : Option (Unit × ((ByteArray × ByteArray × Unit) × Unit)) :=
  some ((), (x0.1, x0.2.1, ()), ())
def laws_toEntry (x : ((ByteArray × ByteArray × Unit) × Unit)) : Option (Unit × ((ByteArray × ByteArray × Unit) × Unit)) := laws_toEntry_k fuel x.1
def laws_toEntry_s : List (Nat × Con) := []
def laws_toEntry_E : Env := ⟨fun j => (look tyTab j).getD .unit, fun j => look laws_toEntry_s j⟩
theorem laws_toEntry_f_eq (N : Nat) (x0 : (ByteArray × ByteArray × Unit)) : funK laws_toEntry_E Tryz.f57 [.val S79] [T53] (.pair T53 .unit) (fun i => look [] i) N (x0, ()) = laws_toEntry_k N x0 := by kernel_rfl
theorem laws_toEntry_o : Known Tryz.prog 57 ⟨[.val S79], [T53], (.pair T53 .unit), laws_toEntry⟩ := known_of (tab := tyTab) (cons := laws_toEntry_s) (segs := []) (n := fuel) mixed_ok tab_ok .nil Tryz.func57 (by kernel_rfl) trivial (fun x => laws_toEntry_f_eq fuel x.1)
def laws_toEntryS_P0 : Tpl := ⟨[(0, .one (.leaf (.row false (.pair .str (.pair .str .unit))))), (3, .one (.fix (.ref 10000 [] none))), (4, .one (.leaf (.int .i64)))], [], [(10000, (.pair .str (.pair .str .unit)))]⟩
def laws_toEntryS_O0 : Tpl := ⟨[(3, .one (.fix (.ref 10500 [] none)))], [], [(10500, (.pair .str (.pair .str .unit)))]⟩
def laws_toEntryS_k0 (N : Nat) : Nat → ((Unit × (Unit × ((List (ByteArray × (ByteArray × Unit))) × Unit))) → Option (Unit × ((List (ByteArray × ByteArray × Unit)) × Unit))) → (((List (ByteArray × (ByteArray × Unit))) × Int × Unit) × (Unit × ((List (ByteArray × (ByteArray × Unit))) × Unit))) → Option (Unit × ((List (ByteArray × ByteArray × Unit)) × Unit))
  | 0, _, _ => none
  | n + 1, k, x =>
    tb (ilt x.1.2.1 (((llen x.1.1) : Nat) : Int))
    (chk (0 ≤ x.1.2.1) (obind (at? x.1.1 (Int.toNat x.1.2.1)) fun v0 =>
        obind (laws_toEntry ((v0.1, v0.2.1, ()), ())) fun v1 =>
        chk ((0 ≤ x.1.2.1) ∧ (x.1.2.1 < (((llen x.2.2.1) : Nat) : Int))) (obind (at? x.2.2.1 (Int.toNat x.1.2.1)) fun v2 =>
          laws_toEntryS_k0 N n k ((x.1.1, (wr .i64 (x.1.2.1 + 1)), ()), (), (lset x.2.2.1 (Int.toNat x.1.2.1) (v1.2.1.1, v1.2.1.2.1, ())), ())) (none)) (none))
    (k ((), (), x.2.2.1, ()))
def laws_toEntryS_k (N : Nat) (x0 : (List (ByteArray × ByteArray × Unit))) : Option (Unit × ((List (ByteArray × ByteArray × Unit)) × Unit)) :=
  chk ((0 ≤ (((llen x0) : Nat) : Int)) ∧ (((((llen x0) : Nat) : Int) ≤ (((llen x0) : Nat) : Int)) ∧ ((Int.toNat (((llen x0) : Nat) : Int)) ≤ 4398046511104))) (laws_toEntryS_k0 N N (fun v0 =>
      some ((), v0.2.2.1, ())) ((x0, 0, ()), (), (lrep (Int.toNat (((llen x0) : Nat) : Int)) ((⟨#[]⟩ : ByteArray), (⟨#[]⟩ : ByteArray), PUnit.unit)), ())) (none)
def laws_toEntryS (x : ((List (ByteArray × ByteArray × Unit)) × Unit)) : Option (Unit × ((List (ByteArray × ByteArray × Unit)) × Unit)) := laws_toEntryS_k fuel x.1
def laws_toEntryS_s : List (Nat × Con) := [(57, ⟨[.val S79], [T53], (.pair T53 .unit), laws_toEntry⟩)]
def laws_toEntryS_E : Env := ⟨fun j => (look tyTab j).getD .unit, fun j => look laws_toEntryS_s j⟩
theorem laws_toEntryS_r0 (N n : Nat) (k : laws_toEntryS_O0.ty.den → Option (Unit × ((List (ByteArray × ByteArray × Unit)) × Unit))) (x : laws_toEntryS_P0.ty.den) : roundK laws_toEntryS_E ⟨Tryz.f25.ntmps, N, (fun i => look [(0, ⟨laws_toEntryS_P0, laws_toEntryS_O0, [.tmp 3 10000 (.pair .str (.pair .str .unit))], [.tmp 3 10500 (.pair .str (.pair .str .unit))], laws_toEntryS_k0 N⟩)] i), retK laws_toEntryS_E Tryz.f25 [.val (.row false S79)] [(.row true T53)] (.pair (.row true T53) .unit)⟩ (Tryz.f25.body.getD .skip) 0 ⟨laws_toEntryS_P0, laws_toEntryS_O0, [.tmp 3 10000 (.pair .str (.pair .str .unit))], [.tmp 3 10500 (.pair .str (.pair .str .unit))], laws_toEntryS_k0 N⟩ (laws_toEntryS_k0 N n k) k x = laws_toEntryS_k0 N (n + 1) k x := by kernel_rfl
theorem laws_toEntryS_f_eq (N : Nat) (x0 : (List (ByteArray × ByteArray × Unit))) : funK laws_toEntryS_E Tryz.f25 [.val (.row false S79)] [(.row true T53)] (.pair (.row true T53) .unit) (fun i => look [(0, ⟨laws_toEntryS_P0, laws_toEntryS_O0, [.tmp 3 10000 (.pair .str (.pair .str .unit))], [.tmp 3 10500 (.pair .str (.pair .str .unit))], laws_toEntryS_k0 N⟩)] i) N (x0, ()) = laws_toEntryS_k N x0 := by kernel_rfl
theorem laws_toEntryS_o : Known Tryz.prog 25 ⟨[.val (.row false S79)], [(.row true T53)], (.pair (.row true T53) .unit), laws_toEntryS⟩ := known_of (tab := tyTab) (cons := laws_toEntryS_s) (segs := [(0, ⟨laws_toEntryS_P0, laws_toEntryS_O0, [.tmp 3 10000 (.pair .str (.pair .str .unit))], [.tmp 3 10500 (.pair .str (.pair .str .unit))], laws_toEntryS_k0 fuel⟩)]) (n := fuel) mixed_ok tab_ok (.cons laws_toEntry_o .nil) Tryz.func25 (by kernel_rfl) ⟨⟨fun _ _ => rfl, fun n k x => laws_toEntryS_r0 fuel n k x⟩, trivial⟩ (fun x => laws_toEntryS_f_eq fuel x.1)
def laws_toArchive_k (N : Nat) (x0 : (Bool × ((List ByteArray) × (List (Int × ByteArray × Unit)) × Unit) × (Int × Int × Int × Unit) × (List (ByteArray × ByteArray × Unit)) × Unit)) : Option (Unit × ((Bool × ((List ByteArray) × (List (Int × ByteArray × Unit)) × Unit) × (Int × Int × Int × Unit) × (List (ByteArray × ByteArray × Unit)) × Unit) × Unit)) :=
  obind (laws_toDisk ((x0.2.1.1, x0.2.1.2.1, ()), ())) fun v0 =>
  obind (laws_toHead ((x0.2.2.1.1, x0.2.2.1.2.1, x0.2.2.1.2.2.1, ()), ())) fun v1 =>
  obind (laws_toEntryS (x0.2.2.2.1, ())) fun v2 =>
  some ((), (x0.1, (v0.2.1.1, v0.2.1.2.1, ()), (v1.2.1.1, v1.2.1.2.1, v1.2.1.2.2.1, ()), v2.2.1, ()), ())
def laws_toArchive (x : ((Bool × ((List ByteArray) × (List (Int × ByteArray × Unit)) × Unit) × (Int × Int × Int × Unit) × (List (ByteArray × ByteArray × Unit)) × Unit) × Unit)) : Option (Unit × ((Bool × ((List ByteArray) × (List (Int × ByteArray × Unit)) × Unit) × (Int × Int × Int × Unit) × (List (ByteArray × ByteArray × Unit)) × Unit) × Unit)) := laws_toArchive_k fuel x.1
def laws_toArchive_s : List (Nat × Con) := [(23, ⟨[.val S25], [T36], (.pair T36 .unit), laws_toDisk⟩), (24, ⟨[.val S27], [T37], (.pair T37 .unit), laws_toHead⟩), (25, ⟨[.val (.row false S79)], [(.row true T53)], (.pair (.row true T53) .unit), laws_toEntryS⟩)]
def laws_toArchive_E : Env := ⟨fun j => (look tyTab j).getD .unit, fun j => look laws_toArchive_s j⟩
theorem laws_toArchive_f_eq (N : Nat) (x0 : (Bool × ((List ByteArray) × (List (Int × ByteArray × Unit)) × Unit) × (Int × Int × Int × Unit) × (List (ByteArray × ByteArray × Unit)) × Unit)) : funK laws_toArchive_E Tryz.f8 [.val S30] [T40] (.pair T40 .unit) (fun i => look [] i) N (x0, ()) = laws_toArchive_k N x0 := by kernel_rfl
theorem laws_toArchive_o : Known Tryz.prog 8 ⟨[.val S30], [T40], (.pair T40 .unit), laws_toArchive⟩ := known_of (tab := tyTab) (cons := laws_toArchive_s) (segs := []) (n := fuel) mixed_ok tab_ok (.cons laws_toDisk_o (.cons laws_toHead_o (.cons laws_toEntryS_o .nil))) Tryz.func8 (by kernel_rfl) trivial (fun x => laws_toArchive_f_eq fuel x.1)
def impl_inRange_k (N : Nat) (x0 : Int) (x1 : Int) (x2 : Int) : Option (Unit × (Bool × Unit)) :=
  tb (ile x1 x0)
  (some ((), (ile x0 x2), ()))
  (some ((), false, ()))
def impl_inRange (x : (Int × Int × Int × Unit)) : Option (Unit × (Bool × Unit)) := impl_inRange_k fuel x.1 x.2.1 x.2.2.1
def impl_inRange_s : List (Nat × Con) := []
def impl_inRange_E : Env := ⟨fun j => (look tyTab j).getD .unit, fun j => look impl_inRange_s j⟩
theorem impl_inRange_f_eq (N : Nat) (x0 : Int) (x1 : Int) (x2 : Int) : funK impl_inRange_E Tryz.f77 [.val (.int .i64), .val (.int .i64), .val (.int .i64)] [.bool] (.pair .bool .unit) (fun i => look [] i) N (x0, x1, x2, ()) = impl_inRange_k N x0 x1 x2 := by kernel_rfl
theorem impl_inRange_o : Known Tryz.prog 77 ⟨[.val (.int .i64), .val (.int .i64), .val (.int .i64)], [.bool], (.pair .bool .unit), impl_inRange⟩ := known_of (tab := tyTab) (cons := impl_inRange_s) (segs := []) (n := fuel) mixed_ok tab_ok .nil Tryz.func77 (by kernel_rfl) trivial (fun x => impl_inRange_f_eq fuel x.1 x.2.1 x.2.2.1)
def impl_isSector_k (N : Nat) (x0 : Int) : Option (Unit × (Bool × Unit)) :=
  obind (impl_inRange (x0, 0, 129, ())) fun v0 =>
  some ((), v0.2.1, ())
def impl_isSector (x : (Int × Unit)) : Option (Unit × (Bool × Unit)) := impl_isSector_k fuel x.1
def impl_isSector_s : List (Nat × Con) := [(77, ⟨[.val (.int .i64), .val (.int .i64), .val (.int .i64)], [.bool], (.pair .bool .unit), impl_inRange⟩)]
def impl_isSector_E : Env := ⟨fun j => (look tyTab j).getD .unit, fun j => look impl_isSector_s j⟩
theorem impl_isSector_f_eq (N : Nat) (x0 : Int) : funK impl_isSector_E Tryz.f87 [.val (.int .i64)] [.bool] (.pair .bool .unit) (fun i => look [] i) N (x0, ()) = impl_isSector_k N x0 := by kernel_rfl
theorem impl_isSector_o : Known Tryz.prog 87 ⟨[.val (.int .i64)], [.bool], (.pair .bool .unit), impl_isSector⟩ := known_of (tab := tyTab) (cons := impl_isSector_s) (segs := []) (n := fuel) mixed_ok tab_ok (.cons impl_inRange_o .nil) Tryz.func87 (by kernel_rfl) trivial (fun x => impl_isSector_f_eq fuel x.1)
def impl_DiskOk_P0 : Tpl := ⟨[(1, .one (.fix (.vptr 1 0))), (8, .one (.leaf (.row false .str))), (9, .one (.leaf (.int .i64))), (10, .one (.leaf (.int .i64)))], [(1, [.leaf (.row false .str), .leaf (.row false (.pair (.int .i64) (.pair .str .unit)))])], []⟩
def impl_DiskOk_O0 : Tpl := ⟨[(1, .one (.fix (.vptr 1 0)))], [(1, [.leaf (.row false .str), .leaf (.row false (.pair (.int .i64) (.pair .str .unit)))])], []⟩
def impl_DiskOk_k0 (N : Nat) : Nat → ((Unit × ((((List ByteArray) × (List (Int × (ByteArray × Unit))) × Unit) × Unit) × Unit)) → Option (Unit × (Bool × Unit))) → (((List ByteArray) × Int × Int × Unit) × ((((List ByteArray) × (List (Int × (ByteArray × Unit))) × Unit) × Unit) × Unit)) → Option (Unit × (Bool × Unit))
  | 0, _, _ => none
  | n + 1, k, x =>
    tb (ilt x.1.2.2.1 x.1.2.1)
    (chk (0 ≤ x.1.2.2.1) (obind (at? x.1.1 (Int.toNat x.1.2.2.1)) fun v0 =>
        tb (bnot (ieq (((slen v0) : Nat) : Int) 64))
        (some ((), false, ()))
        (impl_DiskOk_k0 N n k ((x.1.1, x.1.2.1, (wr .i64 (x.1.2.2.1 + 1)), ()), ((x.2.1.1.1, x.2.1.1.2.1, ()), ()), ()))) (none))
    (k ((), ((x.2.1.1.1, x.2.1.1.2.1, ()), ()), ()))
def impl_DiskOk_P2 : Tpl := ⟨[(1, .one (.fix (.vptr 1 0))), (19, .one (.leaf (.row false (.pair (.int .i64) (.pair .str .unit))))), (20, .one (.leaf (.int .i64))), (21, .one (.leaf (.int .i64)))], [(1, [.leaf (.row false .str), .leaf (.row false (.pair (.int .i64) (.pair .str .unit)))])], []⟩
def impl_DiskOk_O2 : Tpl := ⟨[(1, .one (.fix (.vptr 1 0)))], [(1, [.leaf (.row false .str), .leaf (.row false (.pair (.int .i64) (.pair .str .unit)))])], []⟩
def impl_DiskOk_k2 (N : Nat) : Nat → ((Unit × ((((List ByteArray) × (List (Int × (ByteArray × Unit))) × Unit) × Unit) × Unit)) → Option (Unit × (Bool × Unit))) → (((List (Int × (ByteArray × Unit))) × Int × Int × Unit) × ((((List ByteArray) × (List (Int × (ByteArray × Unit))) × Unit) × Unit) × Unit)) → Option (Unit × (Bool × Unit))
  | 0, _, _ => none
  | n + 1, k, x =>
    tb (ilt x.1.2.2.1 x.1.2.1)
    (chk (0 ≤ x.1.2.2.1) (obind (at? x.1.1 (Int.toNat x.1.2.2.1)) fun v0 =>
        obind (impl_isSector (v0.1, ())) fun v1 =>
        tb (bnot v1.2.1)
        (some ((), false, ()))
        (tb (bnot (ieq (((slen v0.2.1) : Nat) : Int) 64))
          (some ((), false, ()))
          (impl_DiskOk_k2 N n k ((x.1.1, x.1.2.1, (wr .i64 (x.1.2.2.1 + 1)), ()), ((x.2.1.1.1, x.2.1.1.2.1, ()), ()), ())))) (none))
    (k ((), ((x.2.1.1.1, x.2.1.1.2.1, ()), ()), ()))
def impl_DiskOk_k (N : Nat) (x0 : ((List ByteArray) × (List (Int × ByteArray × Unit)) × Unit)) : Option (Unit × (Bool × Unit)) :=
  impl_DiskOk_k0 N N (fun v0 =>
    impl_DiskOk_k2 N N (fun v1 =>
      tb (ieq (((llen v1.2.1.1.1) : Nat) : Int) 130)
      (some ((), (ile (((llen v1.2.1.1.2.1) : Nat) : Int) 200), ()))
      (some ((), false, ()))) ((v0.2.1.1.2.1, (((llen v0.2.1.1.2.1) : Nat) : Int), 0, ()), ((v0.2.1.1.1, v0.2.1.1.2.1, ()), ()), ())) ((x0.1, (((llen x0.1) : Nat) : Int), 0, ()), ((x0.1, x0.2.1, ()), ()), ())
def impl_DiskOk (x : (((List ByteArray) × (List (Int × ByteArray × Unit)) × Unit) × Unit)) : Option (Unit × (Bool × Unit)) := impl_DiskOk_k fuel x.1
def impl_DiskOk_s : List (Nat × Con) := [(87, ⟨[.val (.int .i64)], [.bool], (.pair .bool .unit), impl_isSector⟩)]
def impl_DiskOk_E : Env := ⟨fun j => (look tyTab j).getD .unit, fun j => look impl_DiskOk_s j⟩
theorem impl_DiskOk_r0 (N n : Nat) (k : impl_DiskOk_O0.ty.den → Option (Unit × (Bool × Unit))) (x : impl_DiskOk_P0.ty.den) : roundK impl_DiskOk_E ⟨Tryz.f69.ntmps, N, (fun i => look [(0, ⟨impl_DiskOk_P0, impl_DiskOk_O0, [], [], impl_DiskOk_k0 N⟩), (2, ⟨impl_DiskOk_P2, impl_DiskOk_O2, [], [], impl_DiskOk_k2 N⟩)] i), retK impl_DiskOk_E Tryz.f69 [.val S36] [.bool] (.pair .bool .unit)⟩ (Tryz.f69.body.getD .skip) 0 ⟨impl_DiskOk_P0, impl_DiskOk_O0, [], [], impl_DiskOk_k0 N⟩ (impl_DiskOk_k0 N n k) k x = impl_DiskOk_k0 N (n + 1) k x := by kernel_rfl
theorem impl_DiskOk_r2 (N n : Nat) (k : impl_DiskOk_O2.ty.den → Option (Unit × (Bool × Unit))) (x : impl_DiskOk_P2.ty.den) : roundK impl_DiskOk_E ⟨Tryz.f69.ntmps, N, (fun i => look [(0, ⟨impl_DiskOk_P0, impl_DiskOk_O0, [], [], impl_DiskOk_k0 N⟩), (2, ⟨impl_DiskOk_P2, impl_DiskOk_O2, [], [], impl_DiskOk_k2 N⟩)] i), retK impl_DiskOk_E Tryz.f69 [.val S36] [.bool] (.pair .bool .unit)⟩ (Tryz.f69.body.getD .skip) 2 ⟨impl_DiskOk_P2, impl_DiskOk_O2, [], [], impl_DiskOk_k2 N⟩ (impl_DiskOk_k2 N n k) k x = impl_DiskOk_k2 N (n + 1) k x := by kernel_rfl
theorem impl_DiskOk_f_eq (N : Nat) (x0 : ((List ByteArray) × (List (Int × ByteArray × Unit)) × Unit)) : funK impl_DiskOk_E Tryz.f69 [.val S36] [.bool] (.pair .bool .unit) (fun i => look [(0, ⟨impl_DiskOk_P0, impl_DiskOk_O0, [], [], impl_DiskOk_k0 N⟩), (2, ⟨impl_DiskOk_P2, impl_DiskOk_O2, [], [], impl_DiskOk_k2 N⟩)] i) N (x0, ()) = impl_DiskOk_k N x0 := by kernel_rfl
theorem impl_DiskOk_o : Known Tryz.prog 69 ⟨[.val S36], [.bool], (.pair .bool .unit), impl_DiskOk⟩ := known_of (tab := tyTab) (cons := impl_DiskOk_s) (segs := [(0, ⟨impl_DiskOk_P0, impl_DiskOk_O0, [], [], impl_DiskOk_k0 fuel⟩), (2, ⟨impl_DiskOk_P2, impl_DiskOk_O2, [], [], impl_DiskOk_k2 fuel⟩)]) (n := fuel) mixed_ok tab_ok (.cons impl_isSector_o .nil) Tryz.func69 (by kernel_rfl) ⟨⟨fun _ _ => rfl, fun n k x => impl_DiskOk_r0 fuel n k x⟩, ⟨⟨fun _ _ => rfl, fun n k x => impl_DiskOk_r2 fuel n k x⟩, trivial⟩⟩ (fun x => impl_DiskOk_f_eq fuel x.1)
def impl_GetNum_P0 : Tpl := ⟨[(0, .one (.leaf (.row false (.int .u8)))), (1, .one (.leaf (.int .i64))), (7, .one (.leaf (.int .i64))), (8, .one (.leaf (.int .i64)))], [], []⟩
def impl_GetNum_O0 : Tpl := ⟨[], [], []⟩
def impl_GetNum_k0 (N : Nat) : Nat → ((Unit × (Unit × Unit)) → Option (Unit × (Int × Int × Bool × Unit))) → (((List Int) × Int × Int × Int × Unit) × (Unit × Unit)) → Option (Unit × (Int × Int × Bool × Unit))
  | 0, _, _ => none
  | n + 1, k, x =>
    tb (ilt x.1.2.2.2.1 9)
    (tb (ilt x.1.2.1 (((llen x.1.1) : Nat) : Int))
      (chk (0 ≤ x.1.2.1) (obind (at? x.1.1 (Int.toNat x.1.2.1)) fun v0 =>
          chk ((wr .u64 (wr .i64 (7 * x.1.2.2.2.1))) < 0) (none) (tb (ilt (wr .i64 v0) 128)
            (tb (ieq (wr .i64 v0) 0)
              (tb (ilt 0 x.1.2.2.2.1)
                (some ((), 0, 0, false, ()))
                (some ((), (borK .i64 x.1.2.2.1 (shlK .i64 (bandK .i64 (wr .i64 v0) 127) (wr .u64 (wr .i64 (7 * x.1.2.2.2.1))))), (wr .i64 (x.1.2.1 + 1)), true, ())))
              (some ((), (borK .i64 x.1.2.2.1 (shlK .i64 (bandK .i64 (wr .i64 v0) 127) (wr .u64 (wr .i64 (7 * x.1.2.2.2.1))))), (wr .i64 (x.1.2.1 + 1)), true, ())))
            (impl_GetNum_k0 N n k ((x.1.1, (wr .i64 (x.1.2.1 + 1)), (borK .i64 x.1.2.2.1 (shlK .i64 (bandK .i64 (wr .i64 v0) 127) (wr .u64 (wr .i64 (7 * x.1.2.2.2.1))))), (wr .i64 (x.1.2.2.2.1 + 1)), ()), (), ())))) (none))
      (k ((), (), ())))
    (k ((), (), ()))
def impl_GetNum_k (N : Nat) (x0 : (List Int)) (x1 : Int) : Option (Unit × (Int × Int × Bool × Unit)) :=
  obind (impl_inRange (x1, 0, (wr .i64 ((((llen x0) : Nat) : Int) - 1)), ())) fun v0 =>
  tb (bnot v0.2.1)
  (some ((), 0, 0, false, ()))
  (impl_GetNum_k0 N N (fun v1 =>
      some ((), 0, 0, false, ())) ((x0, x1, 0, 0, ()), (), ()))
def impl_GetNum (x : ((List Int) × Int × Unit)) : Option (Unit × (Int × Int × Bool × Unit)) := impl_GetNum_k fuel x.1 x.2.1
def impl_GetNum_s : List (Nat × Con) := [(77, ⟨[.val (.int .i64), .val (.int .i64), .val (.int .i64)], [.bool], (.pair .bool .unit), impl_inRange⟩)]
def impl_GetNum_E : Env := ⟨fun j => (look tyTab j).getD .unit, fun j => look impl_GetNum_s j⟩
theorem impl_GetNum_r0 (N n : Nat) (k : impl_GetNum_O0.ty.den → Option (Unit × (Int × Int × Bool × Unit))) (x : impl_GetNum_P0.ty.den) : roundK impl_GetNum_E ⟨Tryz.f99.ntmps, N, (fun i => look [(0, ⟨impl_GetNum_P0, impl_GetNum_O0, [], [], impl_GetNum_k0 N⟩)] i), retK impl_GetNum_E Tryz.f99 [.val (.row false (.int .u8)), .val (.int .i64)] [(.int .i64), (.int .i64), .bool] (.pair (.int .i64) (.pair (.int .i64) (.pair .bool .unit)))⟩ (Tryz.f99.body.getD .skip) 0 ⟨impl_GetNum_P0, impl_GetNum_O0, [], [], impl_GetNum_k0 N⟩ (impl_GetNum_k0 N n k) k x = impl_GetNum_k0 N (n + 1) k x := by kernel_rfl
theorem impl_GetNum_f_eq (N : Nat) (x0 : (List Int)) (x1 : Int) : funK impl_GetNum_E Tryz.f99 [.val (.row false (.int .u8)), .val (.int .i64)] [(.int .i64), (.int .i64), .bool] (.pair (.int .i64) (.pair (.int .i64) (.pair .bool .unit))) (fun i => look [(0, ⟨impl_GetNum_P0, impl_GetNum_O0, [], [], impl_GetNum_k0 N⟩)] i) N (x0, x1, ()) = impl_GetNum_k N x0 x1 := by kernel_rfl
theorem impl_GetNum_o : Known Tryz.prog 99 ⟨[.val (.row false (.int .u8)), .val (.int .i64)], [(.int .i64), (.int .i64), .bool], (.pair (.int .i64) (.pair (.int .i64) (.pair .bool .unit))), impl_GetNum⟩ := known_of (tab := tyTab) (cons := impl_GetNum_s) (segs := [(0, ⟨impl_GetNum_P0, impl_GetNum_O0, [], [], impl_GetNum_k0 fuel⟩)]) (n := fuel) mixed_ok tab_ok (.cons impl_inRange_o .nil) Tryz.func99 (by kernel_rfl) ⟨⟨fun _ _ => rfl, fun n k x => impl_GetNum_r0 fuel n k x⟩, trivial⟩ (fun x => impl_GetNum_f_eq fuel x.1 x.2.1)
def impl_getter_num_k (N : Nat) (x0 : ((List Int) × Int × Bool × Unit)) : Option ((((List Int) × Int × Bool × Unit) × Unit) × (Int × Unit)) :=
  obind (impl_GetNum (x0.1, x0.2.1, ())) fun v0 =>
  tb x0.2.2.1
  (some (((x0.1, x0.2.1, true, ()), ()), 0, ()))
  (tb (bnot v0.2.2.2.1)
    (some (((x0.1, x0.2.1, true, ()), ()), 0, ()))
    (some (((x0.1, v0.2.2.1, x0.2.2.1, ()), ()), v0.2.1, ())))
def impl_getter_num (x : (((List Int) × Int × Bool × Unit) × Unit)) : Option ((((List Int) × Int × Bool × Unit) × Unit) × (Int × Unit)) := impl_getter_num_k fuel x.1
def impl_getter_num_s : List (Nat × Con) := [(99, ⟨[.val (.row false (.int .u8)), .val (.int .i64)], [(.int .i64), (.int .i64), .bool], (.pair (.int .i64) (.pair (.int .i64) (.pair .bool .unit))), impl_GetNum⟩)]
def impl_getter_num_E : Env := ⟨fun j => (look tyTab j).getD .unit, fun j => look impl_getter_num_s j⟩
theorem impl_getter_num_f_eq (N : Nat) (x0 : ((List Int) × Int × Bool × Unit)) : funK impl_getter_num_E Tryz.f88 [.io S116] [(.int .i64)] (.pair (.int .i64) .unit) (fun i => look [] i) N (x0, ()) = impl_getter_num_k N x0 := by kernel_rfl
theorem impl_getter_num_o : Known Tryz.prog 88 ⟨[.io S116], [(.int .i64)], (.pair (.int .i64) .unit), impl_getter_num⟩ := known_of (tab := tyTab) (cons := impl_getter_num_s) (segs := []) (n := fuel) mixed_ok tab_ok (.cons impl_GetNum_o .nil) Tryz.func88 (by kernel_rfl) trivial (fun x => impl_getter_num_f_eq fuel x.1)
def impl_isArea_k (N : Nat) (x0 : Int) : Option (Unit × (Bool × Unit)) :=
  tb (ieq x0 0)
  (some ((), true, ()))
  (some ((), (ieq x0 1), ()))
def impl_isArea (x : (Int × Unit)) : Option (Unit × (Bool × Unit)) := impl_isArea_k fuel x.1
def impl_isArea_s : List (Nat × Con) := []
def impl_isArea_E : Env := ⟨fun j => (look tyTab j).getD .unit, fun j => look impl_isArea_s j⟩
theorem impl_isArea_f_eq (N : Nat) (x0 : Int) : funK impl_isArea_E Tryz.f78 [.val (.int .i64)] [.bool] (.pair .bool .unit) (fun i => look [] i) N (x0, ()) = impl_isArea_k N x0 := by kernel_rfl
theorem impl_isArea_o : Known Tryz.prog 78 ⟨[.val (.int .i64)], [.bool], (.pair .bool .unit), impl_isArea⟩ := known_of (tab := tyTab) (cons := impl_isArea_s) (segs := []) (n := fuel) mixed_ok tab_ok .nil Tryz.func78 (by kernel_rfl) trivial (fun x => impl_isArea_f_eq fuel x.1)
def impl_headOk_k (N : Nat) (x0 : (Int × Int × Int × Unit)) : Option (Unit × (Bool × Unit)) :=
  obind (impl_inRange (x0.1, 1, 1000000000, ())) fun v0 =>
  tb v0.2.1
  (obind (impl_isArea (x0.2.1, ())) fun v1 =>
    tb v1.2.1
    (obind (impl_inRange (x0.2.2.1, 0, 4096, ())) fun v2 =>
      some ((), v2.2.1, ()))
    (some ((), false, ())))
  (some ((), false, ()))
def impl_headOk (x : ((Int × Int × Int × Unit) × Unit)) : Option (Unit × (Bool × Unit)) := impl_headOk_k fuel x.1
def impl_headOk_s : List (Nat × Con) := [(77, ⟨[.val (.int .i64), .val (.int .i64), .val (.int .i64)], [.bool], (.pair .bool .unit), impl_inRange⟩), (78, ⟨[.val (.int .i64)], [.bool], (.pair .bool .unit), impl_isArea⟩)]
def impl_headOk_E : Env := ⟨fun j => (look tyTab j).getD .unit, fun j => look impl_headOk_s j⟩
theorem impl_headOk_f_eq (N : Nat) (x0 : (Int × Int × Int × Unit)) : funK impl_headOk_E Tryz.f48 [.val S37] [.bool] (.pair .bool .unit) (fun i => look [] i) N (x0, ()) = impl_headOk_k N x0 := by kernel_rfl
theorem impl_headOk_o : Known Tryz.prog 48 ⟨[.val S37], [.bool], (.pair .bool .unit), impl_headOk⟩ := known_of (tab := tyTab) (cons := impl_headOk_s) (segs := []) (n := fuel) mixed_ok tab_ok (.cons impl_inRange_o (.cons impl_isArea_o .nil)) Tryz.func48 (by kernel_rfl) trivial (fun x => impl_headOk_f_eq fuel x.1)
def impl_putNum_P0 : Tpl := ⟨[(0, .one (.fix (.ref 10000 [] none))), (1, .one (.leaf (.int .i64)))], [], [(10000, (.int .u8))]⟩
def impl_putNum_O0 : Tpl := ⟨[(0, .one (.fix (.ref 10500 [] none))), (1, .one (.leaf (.int .i64)))], [], [(10500, (.int .u8))]⟩
def impl_putNum_k0 (N : Nat) : Nat → (((Int × Unit) × (Unit × ((List Int) × Unit))) → Option (Unit × ((List Int) × Unit))) → ((Int × Unit) × (Unit × ((List Int) × Unit))) → Option (Unit × ((List Int) × Unit))
  | 0, _, _ => none
  | n + 1, k, x =>
    tb (ilt 127 x.1.1)
    (chk ((plus (llen x.2.2.1) (llen [(wr .u8 (borK .i64 128 (bandK .i64 x.1.1 127)))])) ≤ 140737488355328) (chk ((7 : Int) < 0) (none) (impl_putNum_k0 N n k (((shrK .i64 x.1.1 7), ()), (), (lapp x.2.2.1 [(wr .u8 (borK .i64 128 (bandK .i64 x.1.1 127)))]), ()))) (none))
    (k ((x.1.1, ()), (), x.2.2.1, ()))
def impl_putNum_k (N : Nat) (x0 : (List Int)) (x1 : Int) : Option (Unit × ((List Int) × Unit)) :=
  impl_putNum_k0 N N (fun v0 =>
    chk ((plus (llen v0.2.2.1) (llen [(wr .u8 v0.1.1)])) ≤ 140737488355328) (some ((), (lapp v0.2.2.1 [(wr .u8 v0.1.1)]), ())) (none)) ((x1, ()), (), x0, ())
def impl_putNum (x : ((List Int) × Int × Unit)) : Option (Unit × ((List Int) × Unit)) := impl_putNum_k fuel x.1 x.2.1
def impl_putNum_s : List (Nat × Con) := []
def impl_putNum_E : Env := ⟨fun j => (look tyTab j).getD .unit, fun j => look impl_putNum_s j⟩
theorem impl_putNum_r0 (N n : Nat) (k : impl_putNum_O0.ty.den → Option (Unit × ((List Int) × Unit))) (x : impl_putNum_P0.ty.den) : roundK impl_putNum_E ⟨Tryz.f100.ntmps, N, (fun i => look [(0, ⟨impl_putNum_P0, impl_putNum_O0, [.tmp 0 10000 (.int .u8)], [.tmp 0 10500 (.int .u8)], impl_putNum_k0 N⟩)] i), retK impl_putNum_E Tryz.f100 [.own (.row true (.int .u8)), .val (.int .i64)] [(.row true (.int .u8))] (.pair (.row true (.int .u8)) .unit)⟩ (Tryz.f100.body.getD .skip) 0 ⟨impl_putNum_P0, impl_putNum_O0, [.tmp 0 10000 (.int .u8)], [.tmp 0 10500 (.int .u8)], impl_putNum_k0 N⟩ (impl_putNum_k0 N n k) k x = impl_putNum_k0 N (n + 1) k x := by kernel_rfl
theorem impl_putNum_f_eq (N : Nat) (x0 : (List Int)) (x1 : Int) : funK impl_putNum_E Tryz.f100 [.own (.row true (.int .u8)), .val (.int .i64)] [(.row true (.int .u8))] (.pair (.row true (.int .u8)) .unit) (fun i => look [(0, ⟨impl_putNum_P0, impl_putNum_O0, [.tmp 0 10000 (.int .u8)], [.tmp 0 10500 (.int .u8)], impl_putNum_k0 N⟩)] i) N (x0, x1, ()) = impl_putNum_k N x0 x1 := by kernel_rfl
theorem impl_putNum_o : Known Tryz.prog 100 ⟨[.own (.row true (.int .u8)), .val (.int .i64)], [(.row true (.int .u8))], (.pair (.row true (.int .u8)) .unit), impl_putNum⟩ := known_of (tab := tyTab) (cons := impl_putNum_s) (segs := [(0, ⟨impl_putNum_P0, impl_putNum_O0, [.tmp 0 10000 (.int .u8)], [.tmp 0 10500 (.int .u8)], impl_putNum_k0 fuel⟩)]) (n := fuel) mixed_ok tab_ok .nil Tryz.func100 (by kernel_rfl) ⟨⟨fun _ _ => rfl, fun n k x => impl_putNum_r0 fuel n k x⟩, trivial⟩ (fun x => impl_putNum_f_eq fuel x.1 x.2.1)
def impl_HeadPack_k (N : Nat) (x0 : (Int × Int × Int × Unit)) : Option (Unit × (ByteArray × Bool × Unit)) :=
  obind (impl_headOk ((x0.1, x0.2.1, x0.2.2.1, ()), ())) fun v0 =>
  tb (bnot v0.2.1)
  (some ((), (⟨#[]⟩ : ByteArray), false, ()))
  (obind (impl_putNum ([], x0.1, ())) fun v1 =>
    obind (impl_putNum (v1.2.1, x0.2.1, ())) fun v2 =>
    obind (impl_putNum (v2.2.1, x0.2.2.1, ())) fun v3 =>
    obind (strings_Repeat ((⟨#[0]⟩ : ByteArray), (wr .i64 (64 - (((llen v3.2.1) : Nat) : Int))), ())) fun v4 =>
    chk ((plus (slen (strOf v3.2.1)) (slen v4.2.1)) < slim) (some ((), (sapp (strOf v3.2.1) v4.2.1), true, ())) (none))
def impl_HeadPack (x : ((Int × Int × Int × Unit) × Unit)) : Option (Unit × (ByteArray × Bool × Unit)) := impl_HeadPack_k fuel x.1
def impl_HeadPack_s : List (Nat × Con) := [(48, ⟨[.val S37], [.bool], (.pair .bool .unit), impl_headOk⟩), (100, ⟨[.own (.row true (.int .u8)), .val (.int .i64)], [(.row true (.int .u8))], (.pair (.row true (.int .u8)) .unit), impl_putNum⟩), (101, ⟨[.val .str, .val (.int .i64)], [.str], (.pair .str .unit), strings_Repeat⟩)]
def impl_HeadPack_E : Env := ⟨fun j => (look tyTab j).getD .unit, fun j => look impl_HeadPack_s j⟩
theorem impl_HeadPack_f_eq (N : Nat) (x0 : (Int × Int × Int × Unit)) : funK impl_HeadPack_E Tryz.f89 [.val S37] [.str, .bool] (.pair .str (.pair .bool .unit)) (fun i => look [] i) N (x0, ()) = impl_HeadPack_k N x0 := by kernel_rfl
theorem impl_HeadPack_o : Known Tryz.prog 89 ⟨[.val S37], [.str, .bool], (.pair .str (.pair .bool .unit)), impl_HeadPack⟩ := known_of (tab := tyTab) (cons := impl_HeadPack_s) (segs := []) (n := fuel) mixed_ok tab_ok (.cons impl_headOk_o (.cons impl_putNum_o (.cons strings_Repeat_o .nil))) Tryz.func89 (by kernel_rfl) trivial (fun x => impl_HeadPack_f_eq fuel x.1)
def impl_HeadRead_k (N : Nat) (x0 : ByteArray) : Option (Unit × ((Int × Int × Int × Unit) × Bool × Unit)) :=
  obind (impl_getter_num (((bytesOf x0), 0, false, ()), ())) fun v0 =>
  obind (impl_getter_num ((v0.1.1.1, v0.1.1.2.1, v0.1.1.2.2.1, ()), ())) fun v1 =>
  obind (impl_getter_num ((v1.1.1.1, v1.1.1.2.1, v1.1.1.2.2.1, ()), ())) fun v2 =>
  obind (impl_HeadPack ((v0.2.1, v1.2.1, v2.2.1, ()), ())) fun v3 =>
  tb v2.1.1.2.2.1
  (some ((), (0, 0, 0, ()), false, ()))
  (tb (bnot v3.2.2.1)
    (some ((), (0, 0, 0, ()), false, ()))
    (tb (bnot (seq v3.2.1 x0))
      (some ((), (0, 0, 0, ()), false, ()))
      (some ((), (v0.2.1, v1.2.1, v2.2.1, ()), true, ()))))
def impl_HeadRead (x : (ByteArray × Unit)) : Option (Unit × ((Int × Int × Int × Unit) × Bool × Unit)) := impl_HeadRead_k fuel x.1
def impl_HeadRead_s : List (Nat × Con) := [(88, ⟨[.io S116], [(.int .i64)], (.pair (.int .i64) .unit), impl_getter_num⟩), (89, ⟨[.val S37], [.str, .bool], (.pair .str (.pair .bool .unit)), impl_HeadPack⟩)]
def impl_HeadRead_E : Env := ⟨fun j => (look tyTab j).getD .unit, fun j => look impl_HeadRead_s j⟩
theorem impl_HeadRead_f_eq (N : Nat) (x0 : ByteArray) : funK impl_HeadRead_E Tryz.f72 [.val .str] [T37, .bool] (.pair T37 (.pair .bool .unit)) (fun i => look [] i) N (x0, ()) = impl_HeadRead_k N x0 := by kernel_rfl
theorem impl_HeadRead_o : Known Tryz.prog 72 ⟨[.val .str], [T37, .bool], (.pair T37 (.pair .bool .unit)), impl_HeadRead⟩ := known_of (tab := tyTab) (cons := impl_HeadRead_s) (segs := []) (n := fuel) mixed_ok tab_ok (.cons impl_getter_num_o (.cons impl_HeadPack_o .nil)) Tryz.func72 (by kernel_rfl) trivial (fun x => impl_HeadRead_f_eq fuel x.1)
def impl_Disk_sector_P0 : Tpl := ⟨[(0, .one (.leaf (.pair (.row true .str) (.pair (.row true (.pair (.int .i64) (.pair .str .unit))) .unit)))), (1, .one (.leaf (.int .i64))), (5, .one (.leaf (.int .i64)))], [], []⟩
def impl_Disk_sector_O0 : Tpl := ⟨[(0, .one (.leaf (.pair (.row true .str) (.pair (.row true (.pair (.int .i64) (.pair .str .unit))) .unit)))), (1, .one (.leaf (.int .i64)))], [], []⟩
def impl_Disk_sector_k0 (N : Nat) : Nat → (((((List ByteArray) × ((List (Int × (ByteArray × Unit))) × Unit)) × Int × Unit) × (Unit × Unit)) → Option (Unit × (ByteArray × Unit))) → ((((List ByteArray) × ((List (Int × (ByteArray × Unit))) × Unit)) × Int × Int × Unit) × (Unit × Unit)) → Option (Unit × (ByteArray × Unit))
  | 0, _, _ => none
  | n + 1, k, x =>
    tb (ile 0 x.1.2.2.1)
    (chk (0 ≤ x.1.2.2.1) (obind (at? x.1.1.2.1 (Int.toNat x.1.2.2.1)) fun v0 =>
        tb (ieq v0.1 x.1.2.1)
        (chk (0 ≤ x.1.2.2.1) (obind (at? x.1.1.2.1 (Int.toNat x.1.2.2.1)) fun v1 =>
            some ((), v1.2.1, ())) (none))
        (impl_Disk_sector_k0 N n k ((x.1.1, x.1.2.1, (wr .i64 (x.1.2.2.1 - 1)), ()), (), ()))) (none))
    (k ((x.1.1, x.1.2.1, ()), (), ()))
def impl_Disk_sector_k (N : Nat) (x0 : ((List ByteArray) × (List (Int × ByteArray × Unit)) × Unit)) (x1 : Int) : Option (Unit × (ByteArray × Unit)) :=
  impl_Disk_sector_k0 N N (fun v0 =>
    chk (0 ≤ v0.1.2.1) (obind (at? v0.1.1.1 (Int.toNat v0.1.2.1)) fun v1 =>
      some ((), v1, ())) (none)) ((x0, x1, (wr .i64 ((((llen x0.2.1) : Nat) : Int) - 1)), ()), (), ())
def impl_Disk_sector (x : (((List ByteArray) × (List (Int × ByteArray × Unit)) × Unit) × Int × Unit)) : Option (Unit × (ByteArray × Unit)) := impl_Disk_sector_k fuel x.1 x.2.1
def impl_Disk_sector_s : List (Nat × Con) := []
def impl_Disk_sector_E : Env := ⟨fun j => (look tyTab j).getD .unit, fun j => look impl_Disk_sector_s j⟩
theorem impl_Disk_sector_r0 (N n : Nat) (k : impl_Disk_sector_O0.ty.den → Option (Unit × (ByteArray × Unit))) (x : impl_Disk_sector_P0.ty.den) : roundK impl_Disk_sector_E ⟨Tryz.f73.ntmps, N, (fun i => look [(0, ⟨impl_Disk_sector_P0, impl_Disk_sector_O0, [], [], impl_Disk_sector_k0 N⟩)] i), retK impl_Disk_sector_E Tryz.f73 [.rptr T36, .val (.int .i64)] [.str] (.pair .str .unit)⟩ (Tryz.f73.body.getD .skip) 0 ⟨impl_Disk_sector_P0, impl_Disk_sector_O0, [], [], impl_Disk_sector_k0 N⟩ (impl_Disk_sector_k0 N n k) k x = impl_Disk_sector_k0 N (n + 1) k x := by kernel_rfl
theorem impl_Disk_sector_f_eq (N : Nat) (x0 : ((List ByteArray) × (List (Int × ByteArray × Unit)) × Unit)) (x1 : Int) : funK impl_Disk_sector_E Tryz.f73 [.rptr T36, .val (.int .i64)] [.str] (.pair .str .unit) (fun i => look [(0, ⟨impl_Disk_sector_P0, impl_Disk_sector_O0, [], [], impl_Disk_sector_k0 N⟩)] i) N (x0, x1, ()) = impl_Disk_sector_k N x0 x1 := by kernel_rfl
theorem impl_Disk_sector_o : Known Tryz.prog 73 ⟨[.rptr T36, .val (.int .i64)], [.str], (.pair .str .unit), impl_Disk_sector⟩ := known_of (tab := tyTab) (cons := impl_Disk_sector_s) (segs := [(0, ⟨impl_Disk_sector_P0, impl_Disk_sector_O0, [], [], impl_Disk_sector_k0 fuel⟩)]) (n := fuel) mixed_ok tab_ok .nil Tryz.func73 (by kernel_rfl) ⟨⟨fun _ _ => rfl, fun n k x => impl_Disk_sector_r0 fuel n k x⟩, trivial⟩ (fun x => impl_Disk_sector_f_eq fuel x.1 x.2.1)
def impl_HeadNow_P0 : Tpl := ⟨[(1, .one (.fix (.vptr 1 0))), (2, .one (.fix (.vptr 2 0))), (3, .one (.fix (.vptr 3 0))), (11, .one (.leaf (.int .i64)))], [(1, [.leaf (.row false .str), .leaf (.row false (.pair (.int .i64) (.pair .str .unit)))]), (2, [.leaf (.int .i64), .leaf (.int .i64), .leaf (.int .i64)]), (3, [.leaf (.int .i64), .leaf (.int .i64), .leaf (.int .i64)])], []⟩
def impl_HeadNow_O0 : Tpl := ⟨[(2, .one (.fix (.vptr 2 0))), (3, .one (.fix (.vptr 3 0)))], [(2, [.leaf (.int .i64), .leaf (.int .i64), .leaf (.int .i64)]), (3, [.leaf (.int .i64), .leaf (.int .i64), .leaf (.int .i64)])], []⟩
def impl_HeadNow_k0 (N : Nat) : Nat → ((Unit × (((Int × Int × Int × Unit) × (Int × Int × Int × Unit) × Unit) × Unit)) → Option (Unit × ((Int × Int × Int × Unit) × Unit))) → ((Int × Unit) × ((((List ByteArray) × (List (Int × (ByteArray × Unit))) × Unit) × (Int × Int × Int × Unit) × (Int × Int × Int × Unit) × Unit) × Unit)) → Option (Unit × ((Int × Int × Int × Unit) × Unit))
  | 0, _, _ => none
  | n + 1, k, x =>
    tb (ilt x.1.1 2)
    (obind (impl_Disk_sector ((x.2.1.1.1, x.2.1.1.2.1, ()), x.1.1, ())) fun v0 =>
      obind (impl_HeadRead (v0.2.1, ())) fun v1 =>
      tb v1.2.2.1
      (tb (ilt x.2.1.2.2.1.1 v1.2.1.1)
        (impl_HeadNow_k0 N n k (((wr .i64 (x.1.1 + 1)), ()), ((x.2.1.1.1, x.2.1.1.2.1, ()), (x.2.1.2.1.1, x.2.1.2.1.2.1, x.2.1.2.1.2.2.1, ()), (v1.2.1.1, v1.2.1.2.1, v1.2.1.2.2.1, ()), ()), ()))
        (impl_HeadNow_k0 N n k (((wr .i64 (x.1.1 + 1)), ()), ((x.2.1.1.1, x.2.1.1.2.1, ()), (x.2.1.2.1.1, x.2.1.2.1.2.1, x.2.1.2.1.2.2.1, ()), (x.2.1.2.2.1.1, x.2.1.2.2.1.2.1, x.2.1.2.2.1.2.2.1, ()), ()), ())))
      (impl_HeadNow_k0 N n k (((wr .i64 (x.1.1 + 1)), ()), ((x.2.1.1.1, x.2.1.1.2.1, ()), (x.2.1.2.1.1, x.2.1.2.1.2.1, x.2.1.2.1.2.2.1, ()), (x.2.1.2.2.1.1, x.2.1.2.2.1.2.1, x.2.1.2.2.1.2.2.1, ()), ()), ())))
    (k ((), ((x.2.1.2.1.1, x.2.1.2.1.2.1, x.2.1.2.1.2.2.1, ()), (x.2.1.2.2.1.1, x.2.1.2.2.1.2.1, x.2.1.2.2.1.2.2.1, ()), ()), ()))
def impl_HeadNow_k (N : Nat) (x0 : ((List ByteArray) × (List (Int × ByteArray × Unit)) × Unit)) : Option (Unit × ((Int × Int × Int × Unit) × Unit)) :=
  obind (impl_DiskOk ((x0.1, x0.2.1, ()), ())) fun v0 =>
  tb (bnot v0.2.1)
  (some ((), (0, 0, 0, ()), ()))
  (impl_HeadNow_k0 N N (fun v1 =>
      some ((), (v1.2.1.2.1.1, v1.2.1.2.1.2.1, v1.2.1.2.1.2.2.1, ()), ())) ((0, ()), ((x0.1, x0.2.1, ()), (0, 0, 0, ()), (0, 0, 0, ()), ()), ()))
def impl_HeadNow (x : (((List ByteArray) × (List (Int × ByteArray × Unit)) × Unit) × Unit)) : Option (Unit × ((Int × Int × Int × Unit) × Unit)) := impl_HeadNow_k fuel x.1
def impl_HeadNow_s : List (Nat × Con) := [(69, ⟨[.val S36], [.bool], (.pair .bool .unit), impl_DiskOk⟩), (72, ⟨[.val .str], [T37, .bool], (.pair T37 (.pair .bool .unit)), impl_HeadRead⟩), (73, ⟨[.rptr T36, .val (.int .i64)], [.str], (.pair .str .unit), impl_Disk_sector⟩)]
def impl_HeadNow_E : Env := ⟨fun j => (look tyTab j).getD .unit, fun j => look impl_HeadNow_s j⟩
theorem impl_HeadNow_r0 (N n : Nat) (k : impl_HeadNow_O0.ty.den → Option (Unit × ((Int × Int × Int × Unit) × Unit))) (x : impl_HeadNow_P0.ty.den) : roundK impl_HeadNow_E ⟨Tryz.f46.ntmps, N, (fun i => look [(0, ⟨impl_HeadNow_P0, impl_HeadNow_O0, [], [], impl_HeadNow_k0 N⟩)] i), retK impl_HeadNow_E Tryz.f46 [.val S36] [T37] (.pair T37 .unit)⟩ (Tryz.f46.body.getD .skip) 0 ⟨impl_HeadNow_P0, impl_HeadNow_O0, [], [], impl_HeadNow_k0 N⟩ (impl_HeadNow_k0 N n k) k x = impl_HeadNow_k0 N (n + 1) k x := by kernel_rfl
theorem impl_HeadNow_f_eq (N : Nat) (x0 : ((List ByteArray) × (List (Int × ByteArray × Unit)) × Unit)) : funK impl_HeadNow_E Tryz.f46 [.val S36] [T37] (.pair T37 .unit) (fun i => look [(0, ⟨impl_HeadNow_P0, impl_HeadNow_O0, [], [], impl_HeadNow_k0 N⟩)] i) N (x0, ()) = impl_HeadNow_k N x0 := by kernel_rfl
theorem impl_HeadNow_o : Known Tryz.prog 46 ⟨[.val S36], [T37], (.pair T37 .unit), impl_HeadNow⟩ := known_of (tab := tyTab) (cons := impl_HeadNow_s) (segs := [(0, ⟨impl_HeadNow_P0, impl_HeadNow_O0, [], [], impl_HeadNow_k0 fuel⟩)]) (n := fuel) mixed_ok tab_ok (.cons impl_DiskOk_o (.cons impl_HeadRead_o (.cons impl_Disk_sector_o .nil))) Tryz.func46 (by kernel_rfl) ⟨⟨fun _ _ => rfl, fun n k x => impl_HeadNow_r0 fuel n k x⟩, trivial⟩ (fun x => impl_HeadNow_f_eq fuel x.1)
def impl_fitsArea_k (N : Nat) (x0 : Int) (x1 : Int) (x2 : Int) : Option (Unit × (Bool × Unit)) :=
  obind (impl_isArea (x0, ())) fun v0 =>
  tb v0.2.1
  (obind (impl_inRange (x1, 0, 4096, ())) fun v1 =>
    tb v1.2.1
    (obind (impl_inRange (x2, 0, (wr .i64 (4096 - x1)), ())) fun v2 =>
      some ((), v2.2.1, ()))
    (some ((), false, ())))
  (some ((), false, ()))
def impl_fitsArea (x : (Int × Int × Int × Unit)) : Option (Unit × (Bool × Unit)) := impl_fitsArea_k fuel x.1 x.2.1 x.2.2.1
def impl_fitsArea_s : List (Nat × Con) := [(77, ⟨[.val (.int .i64), .val (.int .i64), .val (.int .i64)], [.bool], (.pair .bool .unit), impl_inRange⟩), (78, ⟨[.val (.int .i64)], [.bool], (.pair .bool .unit), impl_isArea⟩)]
def impl_fitsArea_E : Env := ⟨fun j => (look tyTab j).getD .unit, fun j => look impl_fitsArea_s j⟩
theorem impl_fitsArea_f_eq (N : Nat) (x0 : Int) (x1 : Int) (x2 : Int) : funK impl_fitsArea_E Tryz.f90 [.val (.int .i64), .val (.int .i64), .val (.int .i64)] [.bool] (.pair .bool .unit) (fun i => look [] i) N (x0, x1, x2, ()) = impl_fitsArea_k N x0 x1 x2 := by kernel_rfl
theorem impl_fitsArea_o : Known Tryz.prog 90 ⟨[.val (.int .i64), .val (.int .i64), .val (.int .i64)], [.bool], (.pair .bool .unit), impl_fitsArea⟩ := known_of (tab := tyTab) (cons := impl_fitsArea_s) (segs := []) (n := fuel) mixed_ok tab_ok (.cons impl_inRange_o (.cons impl_isArea_o .nil)) Tryz.func90 (by kernel_rfl) trivial (fun x => impl_fitsArea_f_eq fuel x.1 x.2.1 x.2.2.1)
def impl_first_k (N : Nat) (x0 : Int) : Option (Unit × (Int × Unit)) :=
  some ((), (wr .i64 (2 + (wr .i64 (64 * x0)))), ())
def impl_first (x : (Int × Unit)) : Option (Unit × (Int × Unit)) := impl_first_k fuel x.1
def impl_first_s : List (Nat × Con) := []
def impl_first_E : Env := ⟨fun j => (look tyTab j).getD .unit, fun j => look impl_first_s j⟩
theorem impl_first_f_eq (N : Nat) (x0 : Int) : funK impl_first_E Tryz.f102 [.val (.int .i64)] [(.int .i64)] (.pair (.int .i64) .unit) (fun i => look [] i) N (x0, ()) = impl_first_k N x0 := by kernel_rfl
theorem impl_first_o : Known Tryz.prog 102 ⟨[.val (.int .i64)], [(.int .i64)], (.pair (.int .i64) .unit), impl_first⟩ := known_of (tab := tyTab) (cons := impl_first_s) (segs := []) (n := fuel) mixed_ok tab_ok .nil Tryz.func102 (by kernel_rfl) trivial (fun x => impl_first_f_eq fuel x.1)
def impl_Disk_area_P0 : Tpl := ⟨[(0, .one (.leaf (.pair (.row true .str) (.pair (.row true (.pair (.int .i64) (.pair .str .unit))) .unit)))), (1, .one (.leaf (.int .i64))), (2, .one (.leaf (.int .i64))), (3, .one (.leaf (.int .i64))), (9, .one (.fix (.ref 10000 [] none)))], [], [(10000, (.int .u8))]⟩
def impl_Disk_area_O0 : Tpl := ⟨[(9, .one (.fix (.ref 10500 [] none)))], [], [(10500, (.int .u8))]⟩
def impl_Disk_area_k0 (N : Nat) : Nat → ((Unit × (Unit × ((List Int) × Unit))) → Option (Unit × ((List Int) × Unit))) → ((((List ByteArray) × ((List (Int × (ByteArray × Unit))) × Unit)) × Int × Int × Int × Unit) × (Unit × ((List Int) × Unit))) → Option (Unit × ((List Int) × Unit))
  | 0, _, _ => none
  | n + 1, k, x =>
    tb (ilt 0 x.1.2.2.2.1)
    (chk ((64 : Int) = 0) (none) (obind (impl_first (x.1.2.1, ())) fun v0 =>
        chk ((64 : Int) = 0) (none) (obind (impl_Disk_sector (x.1.1, (wr .i64 (v0.2.1 + (wr .i64 (Int.tdiv x.1.2.2.1 64)))), ())) fun v1 =>
          chk ((0 ≤ (Int.tmod x.1.2.2.1 64)) ∧ (((Int.tmod x.1.2.2.1 64) ≤ (wr .i64 ((Int.tmod x.1.2.2.1 64) + (mn x.1.2.2.2.1 (wr .i64 (64 - (Int.tmod x.1.2.2.1 64))))))) ∧ ((wr .i64 ((Int.tmod x.1.2.2.1 64) + (mn x.1.2.2.2.1 (wr .i64 (64 - (Int.tmod x.1.2.2.1 64)))))) ≤ (((slen v1.2.1) : Nat) : Int)))) (chk ((plus (llen x.2.2.1) (llen (bytesOf (scut v1.2.1 (Int.toNat (Int.tmod x.1.2.2.1 64)) (Int.toNat (wr .i64 ((Int.tmod x.1.2.2.1 64) + (mn x.1.2.2.2.1 (wr .i64 (64 - (Int.tmod x.1.2.2.1 64))))))))))) ≤ 140737488355328) (impl_Disk_area_k0 N n k ((x.1.1, x.1.2.1, (wr .i64 (x.1.2.2.1 + (mn x.1.2.2.2.1 (wr .i64 (64 - (Int.tmod x.1.2.2.1 64)))))), (wr .i64 (x.1.2.2.2.1 - (mn x.1.2.2.2.1 (wr .i64 (64 - (Int.tmod x.1.2.2.1 64)))))), ()), (), (lapp x.2.2.1 (bytesOf (scut v1.2.1 (Int.toNat (Int.tmod x.1.2.2.1 64)) (Int.toNat (wr .i64 ((Int.tmod x.1.2.2.1 64) + (mn x.1.2.2.2.1 (wr .i64 (64 - (Int.tmod x.1.2.2.1 64)))))))))), ())) (none)) (none))))
    (k ((), (), x.2.2.1, ()))
def impl_Disk_area_k (N : Nat) (x0 : ((List ByteArray) × (List (Int × ByteArray × Unit)) × Unit)) (x1 : Int) (x2 : Int) (x3 : Int) : Option (Unit × ((List Int) × Unit)) :=
  impl_Disk_area_k0 N N (fun v0 =>
    some ((), v0.2.2.1, ())) ((x0, x1, x2, x3, ()), (), [], ())
def impl_Disk_area (x : (((List ByteArray) × (List (Int × ByteArray × Unit)) × Unit) × Int × Int × Int × Unit)) : Option (Unit × ((List Int) × Unit)) := impl_Disk_area_k fuel x.1 x.2.1 x.2.2.1 x.2.2.2.1
def impl_Disk_area_s : List (Nat × Con) := [(73, ⟨[.rptr T36, .val (.int .i64)], [.str], (.pair .str .unit), impl_Disk_sector⟩), (102, ⟨[.val (.int .i64)], [(.int .i64)], (.pair (.int .i64) .unit), impl_first⟩)]
def impl_Disk_area_E : Env := ⟨fun j => (look tyTab j).getD .unit, fun j => look impl_Disk_area_s j⟩
theorem impl_Disk_area_r0 (N n : Nat) (k : impl_Disk_area_O0.ty.den → Option (Unit × ((List Int) × Unit))) (x : impl_Disk_area_P0.ty.den) : roundK impl_Disk_area_E ⟨Tryz.f91.ntmps, N, (fun i => look [(0, ⟨impl_Disk_area_P0, impl_Disk_area_O0, [.tmp 9 10000 (.int .u8)], [.tmp 9 10500 (.int .u8)], impl_Disk_area_k0 N⟩)] i), retK impl_Disk_area_E Tryz.f91 [.rptr T36, .val (.int .i64), .val (.int .i64), .val (.int .i64)] [(.row true (.int .u8))] (.pair (.row true (.int .u8)) .unit)⟩ (Tryz.f91.body.getD .skip) 0 ⟨impl_Disk_area_P0, impl_Disk_area_O0, [.tmp 9 10000 (.int .u8)], [.tmp 9 10500 (.int .u8)], impl_Disk_area_k0 N⟩ (impl_Disk_area_k0 N n k) k x = impl_Disk_area_k0 N (n + 1) k x := by kernel_rfl
theorem impl_Disk_area_f_eq (N : Nat) (x0 : ((List ByteArray) × (List (Int × ByteArray × Unit)) × Unit)) (x1 : Int) (x2 : Int) (x3 : Int) : funK impl_Disk_area_E Tryz.f91 [.rptr T36, .val (.int .i64), .val (.int .i64), .val (.int .i64)] [(.row true (.int .u8))] (.pair (.row true (.int .u8)) .unit) (fun i => look [(0, ⟨impl_Disk_area_P0, impl_Disk_area_O0, [.tmp 9 10000 (.int .u8)], [.tmp 9 10500 (.int .u8)], impl_Disk_area_k0 N⟩)] i) N (x0, x1, x2, x3, ()) = impl_Disk_area_k N x0 x1 x2 x3 := by kernel_rfl
theorem impl_Disk_area_o : Known Tryz.prog 91 ⟨[.rptr T36, .val (.int .i64), .val (.int .i64), .val (.int .i64)], [(.row true (.int .u8))], (.pair (.row true (.int .u8)) .unit), impl_Disk_area⟩ := known_of (tab := tyTab) (cons := impl_Disk_area_s) (segs := [(0, ⟨impl_Disk_area_P0, impl_Disk_area_O0, [.tmp 9 10000 (.int .u8)], [.tmp 9 10500 (.int .u8)], impl_Disk_area_k0 fuel⟩)]) (n := fuel) mixed_ok tab_ok (.cons impl_Disk_sector_o (.cons impl_first_o .nil)) Tryz.func91 (by kernel_rfl) ⟨⟨fun _ _ => rfl, fun n k x => impl_Disk_area_r0 fuel n k x⟩, trivial⟩ (fun x => impl_Disk_area_f_eq fuel x.1 x.2.1 x.2.2.1 x.2.2.2.1)
def impl_AreaGet_k (N : Nat) (x0 : ((List ByteArray) × (List (Int × ByteArray × Unit)) × Unit)) (x1 : Int) (x2 : Int) (x3 : Int) : Option (Unit × ((List Int) × Bool × Unit)) :=
  obind (impl_fitsArea (x1, x2, x3, ())) fun v0 =>
  tb (bnot v0.2.1)
  (some ((), [], false, ()))
  (obind (impl_DiskOk ((x0.1, x0.2.1, ()), ())) fun v1 =>
    tb (bnot v1.2.1)
    (some ((), [], false, ()))
    (obind (impl_Disk_area ((x0.1, x0.2.1, ()), x1, x2, x3, ())) fun v2 =>
      some ((), v2.2.1, true, ())))
def impl_AreaGet (x : (((List ByteArray) × (List (Int × ByteArray × Unit)) × Unit) × Int × Int × Int × Unit)) : Option (Unit × ((List Int) × Bool × Unit)) := impl_AreaGet_k fuel x.1 x.2.1 x.2.2.1 x.2.2.2.1
def impl_AreaGet_s : List (Nat × Con) := [(69, ⟨[.val S36], [.bool], (.pair .bool .unit), impl_DiskOk⟩), (90, ⟨[.val (.int .i64), .val (.int .i64), .val (.int .i64)], [.bool], (.pair .bool .unit), impl_fitsArea⟩), (91, ⟨[.rptr T36, .val (.int .i64), .val (.int .i64), .val (.int .i64)], [(.row true (.int .u8))], (.pair (.row true (.int .u8)) .unit), impl_Disk_area⟩)]
def impl_AreaGet_E : Env := ⟨fun j => (look tyTab j).getD .unit, fun j => look impl_AreaGet_s j⟩
theorem impl_AreaGet_f_eq (N : Nat) (x0 : ((List ByteArray) × (List (Int × ByteArray × Unit)) × Unit)) (x1 : Int) (x2 : Int) (x3 : Int) : funK impl_AreaGet_E Tryz.f74 [.val S36, .val (.int .i64), .val (.int .i64), .val (.int .i64)] [(.row true (.int .u8)), .bool] (.pair (.row true (.int .u8)) (.pair .bool .unit)) (fun i => look [] i) N (x0, x1, x2, x3, ()) = impl_AreaGet_k N x0 x1 x2 x3 := by kernel_rfl
theorem impl_AreaGet_o : Known Tryz.prog 74 ⟨[.val S36, .val (.int .i64), .val (.int .i64), .val (.int .i64)], [(.row true (.int .u8)), .bool], (.pair (.row true (.int .u8)) (.pair .bool .unit)), impl_AreaGet⟩ := known_of (tab := tyTab) (cons := impl_AreaGet_s) (segs := []) (n := fuel) mixed_ok tab_ok (.cons impl_DiskOk_o (.cons impl_fitsArea_o (.cons impl_Disk_area_o .nil))) Tryz.func74 (by kernel_rfl) trivial (fun x => impl_AreaGet_f_eq fuel x.1 x.2.1 x.2.2.1 x.2.2.2.1)
def impl_GetText_k (N : Nat) (x0 : (List Int)) (x1 : Int) : Option (Unit × (ByteArray × Int × Bool × Unit)) :=
  obind (impl_GetNum (x0, x1, ())) fun v0 =>
  tb (bnot v0.2.2.2.1)
  (some ((), (⟨#[]⟩ : ByteArray), 0, false, ()))
  (tb (ilt (wr .i64 ((((llen x0) : Nat) : Int) - v0.2.2.1)) v0.2.1)
    (some ((), (⟨#[]⟩ : ByteArray), 0, false, ()))
    (chk ((0 ≤ v0.2.2.1) ∧ ((v0.2.2.1 ≤ (wr .i64 (v0.2.2.1 + v0.2.1))) ∧ ((wr .i64 (v0.2.2.1 + v0.2.1)) ≤ (((llen x0) : Nat) : Int)))) (some ((), (strOf (lcut x0 (Int.toNat v0.2.2.1) (Int.toNat (wr .i64 (v0.2.2.1 + v0.2.1))))), (wr .i64 (v0.2.2.1 + v0.2.1)), true, ())) (none)))
def impl_GetText (x : ((List Int) × Int × Unit)) : Option (Unit × (ByteArray × Int × Bool × Unit)) := impl_GetText_k fuel x.1 x.2.1
def impl_GetText_s : List (Nat × Con) := [(99, ⟨[.val (.row false (.int .u8)), .val (.int .i64)], [(.int .i64), (.int .i64), .bool], (.pair (.int .i64) (.pair (.int .i64) (.pair .bool .unit))), impl_GetNum⟩)]
def impl_GetText_E : Env := ⟨fun j => (look tyTab j).getD .unit, fun j => look impl_GetText_s j⟩
theorem impl_GetText_f_eq (N : Nat) (x0 : (List Int)) (x1 : Int) : funK impl_GetText_E Tryz.f113 [.val (.row false (.int .u8)), .val (.int .i64)] [.str, (.int .i64), .bool] (.pair .str (.pair (.int .i64) (.pair .bool .unit))) (fun i => look [] i) N (x0, x1, ()) = impl_GetText_k N x0 x1 := by kernel_rfl
theorem impl_GetText_o : Known Tryz.prog 113 ⟨[.val (.row false (.int .u8)), .val (.int .i64)], [.str, (.int .i64), .bool], (.pair .str (.pair (.int .i64) (.pair .bool .unit))), impl_GetText⟩ := known_of (tab := tyTab) (cons := impl_GetText_s) (segs := []) (n := fuel) mixed_ok tab_ok (.cons impl_GetNum_o .nil) Tryz.func113 (by kernel_rfl) trivial (fun x => impl_GetText_f_eq fuel x.1 x.2.1)
def impl_getter_text_k (N : Nat) (x0 : ((List Int) × Int × Bool × Unit)) : Option ((((List Int) × Int × Bool × Unit) × Unit) × (ByteArray × Unit)) :=
  obind (impl_GetText (x0.1, x0.2.1, ())) fun v0 =>
  tb x0.2.2.1
  (some (((x0.1, x0.2.1, true, ()), ()), (⟨#[]⟩ : ByteArray), ()))
  (tb (bnot v0.2.2.2.1)
    (some (((x0.1, x0.2.1, true, ()), ()), (⟨#[]⟩ : ByteArray), ()))
    (some (((x0.1, v0.2.2.1, x0.2.2.1, ()), ()), v0.2.1, ())))
def impl_getter_text (x : (((List Int) × Int × Bool × Unit) × Unit)) : Option ((((List Int) × Int × Bool × Unit) × Unit) × (ByteArray × Unit)) := impl_getter_text_k fuel x.1
def impl_getter_text_s : List (Nat × Con) := [(113, ⟨[.val (.row false (.int .u8)), .val (.int .i64)], [.str, (.int .i64), .bool], (.pair .str (.pair (.int .i64) (.pair .bool .unit))), impl_GetText⟩)]
def impl_getter_text_E : Env := ⟨fun j => (look tyTab j).getD .unit, fun j => look impl_getter_text_s j⟩
theorem impl_getter_text_f_eq (N : Nat) (x0 : ((List Int) × Int × Bool × Unit)) : funK impl_getter_text_E Tryz.f103 [.io S116] [.str] (.pair .str .unit) (fun i => look [] i) N (x0, ()) = impl_getter_text_k N x0 := by kernel_rfl
theorem impl_getter_text_o : Known Tryz.prog 103 ⟨[.io S116], [.str], (.pair .str .unit), impl_getter_text⟩ := known_of (tab := tyTab) (cons := impl_getter_text_s) (segs := []) (n := fuel) mixed_ok tab_ok (.cons impl_GetText_o .nil) Tryz.func103 (by kernel_rfl) trivial (fun x => impl_getter_text_f_eq fuel x.1)
def impl_UrlOk_P0 : Tpl := ⟨[(0, .one (.leaf .str)), (3, .one (.leaf (.int .i64)))], [], []⟩
def impl_UrlOk_O0 : Tpl := ⟨[(0, .one (.leaf .str))], [], []⟩
def impl_UrlOk_k0 (N : Nat) : Nat → (((ByteArray × Unit) × (Unit × Unit)) → Option (Unit × (Bool × Unit))) → ((ByteArray × Int × Unit) × (Unit × Unit)) → Option (Unit × (Bool × Unit))
  | 0, _, _ => none
  | n + 1, k, x =>
    tb (ilt x.1.2.1 (((slen x.1.1) : Nat) : Int))
    (chk ((0 ≤ x.1.2.1) ∧ (x.1.2.1 < (((slen x.1.1) : Nat) : Int))) (tb (ilt (bt x.1.1 x.1.2.1) 33)
        (some ((), false, ()))
        (chk ((0 ≤ x.1.2.1) ∧ (x.1.2.1 < (((slen x.1.1) : Nat) : Int))) (tb (ilt 126 (bt x.1.1 x.1.2.1))
            (some ((), false, ()))
            (impl_UrlOk_k0 N n k ((x.1.1, (wr .i64 (x.1.2.1 + 1)), ()), (), ()))) (none))) (none))
    (k ((x.1.1, ()), (), ()))
def impl_UrlOk_k (N : Nat) (x0 : ByteArray) : Option (Unit × (Bool × Unit)) :=
  impl_UrlOk_k0 N N (fun v0 =>
    obind (impl_inRange ((((slen v0.1.1) : Nat) : Int), 1, 60, ())) fun v1 =>
    some ((), v1.2.1, ())) ((x0, 0, ()), (), ())
def impl_UrlOk (x : (ByteArray × Unit)) : Option (Unit × (Bool × Unit)) := impl_UrlOk_k fuel x.1
def impl_UrlOk_s : List (Nat × Con) := [(77, ⟨[.val (.int .i64), .val (.int .i64), .val (.int .i64)], [.bool], (.pair .bool .unit), impl_inRange⟩)]
def impl_UrlOk_E : Env := ⟨fun j => (look tyTab j).getD .unit, fun j => look impl_UrlOk_s j⟩
theorem impl_UrlOk_r0 (N n : Nat) (k : impl_UrlOk_O0.ty.den → Option (Unit × (Bool × Unit))) (x : impl_UrlOk_P0.ty.den) : roundK impl_UrlOk_E ⟨Tryz.f114.ntmps, N, (fun i => look [(0, ⟨impl_UrlOk_P0, impl_UrlOk_O0, [], [], impl_UrlOk_k0 N⟩)] i), retK impl_UrlOk_E Tryz.f114 [.val .str] [.bool] (.pair .bool .unit)⟩ (Tryz.f114.body.getD .skip) 0 ⟨impl_UrlOk_P0, impl_UrlOk_O0, [], [], impl_UrlOk_k0 N⟩ (impl_UrlOk_k0 N n k) k x = impl_UrlOk_k0 N (n + 1) k x := by kernel_rfl
theorem impl_UrlOk_f_eq (N : Nat) (x0 : ByteArray) : funK impl_UrlOk_E Tryz.f114 [.val .str] [.bool] (.pair .bool .unit) (fun i => look [(0, ⟨impl_UrlOk_P0, impl_UrlOk_O0, [], [], impl_UrlOk_k0 N⟩)] i) N (x0, ()) = impl_UrlOk_k N x0 := by kernel_rfl
theorem impl_UrlOk_o : Known Tryz.prog 114 ⟨[.val .str], [.bool], (.pair .bool .unit), impl_UrlOk⟩ := known_of (tab := tyTab) (cons := impl_UrlOk_s) (segs := [(0, ⟨impl_UrlOk_P0, impl_UrlOk_O0, [], [], impl_UrlOk_k0 fuel⟩)]) (n := fuel) mixed_ok tab_ok (.cons impl_inRange_o .nil) Tryz.func114 (by kernel_rfl) ⟨⟨fun _ _ => rfl, fun n k x => impl_UrlOk_r0 fuel n k x⟩, trivial⟩ (fun x => impl_UrlOk_f_eq fuel x.1)
def impl_putText_k (N : Nat) (x0 : (List Int)) (x1 : ByteArray) : Option (Unit × ((List Int) × Unit)) :=
  obind (impl_putNum (x0, (((slen x1) : Nat) : Int), ())) fun v0 =>
  chk ((plus (llen v0.2.1) (llen (bytesOf x1))) ≤ 140737488355328) (some ((), (lapp v0.2.1 (bytesOf x1)), ())) (none)
def impl_putText (x : ((List Int) × ByteArray × Unit)) : Option (Unit × ((List Int) × Unit)) := impl_putText_k fuel x.1 x.2.1
def impl_putText_s : List (Nat × Con) := [(100, ⟨[.own (.row true (.int .u8)), .val (.int .i64)], [(.row true (.int .u8))], (.pair (.row true (.int .u8)) .unit), impl_putNum⟩)]
def impl_putText_E : Env := ⟨fun j => (look tyTab j).getD .unit, fun j => look impl_putText_s j⟩
theorem impl_putText_f_eq (N : Nat) (x0 : (List Int)) (x1 : ByteArray) : funK impl_putText_E Tryz.f115 [.own (.row true (.int .u8)), .val .str] [(.row true (.int .u8))] (.pair (.row true (.int .u8)) .unit) (fun i => look [] i) N (x0, x1, ()) = impl_putText_k N x0 x1 := by kernel_rfl
theorem impl_putText_o : Known Tryz.prog 115 ⟨[.own (.row true (.int .u8)), .val .str], [(.row true (.int .u8))], (.pair (.row true (.int .u8)) .unit), impl_putText⟩ := known_of (tab := tyTab) (cons := impl_putText_s) (segs := []) (n := fuel) mixed_ok tab_ok (.cons impl_putNum_o .nil) Tryz.func115 (by kernel_rfl) trivial (fun x => impl_putText_f_eq fuel x.1 x.2.1)
def impl_RecordPack_k (N : Nat) (x0 : (Int × ByteArray × ByteArray × Unit)) : Option (Unit × ((List Int) × Bool × Unit)) :=
  obind (impl_inRange (x0.1, 1, 2, ())) fun v0 =>
  tb (bnot v0.2.1)
  (some ((), [], false, ()))
  (obind (impl_UrlOk (x0.2.1, ())) fun v1 =>
    tb (bnot v1.2.1)
    (some ((), [], false, ()))
    (tb (ieq x0.1 2)
      (tb (bnot (seq x0.2.2.1 (⟨#[]⟩ : ByteArray)))
        (some ((), [], false, ()))
        (obind (impl_putNum ([], x0.1, ())) fun v2 =>
          obind (impl_putText (v2.2.1, x0.2.1, ())) fun v3 =>
          tb (ieq x0.1 1)
          (obind (impl_putText (v3.2.1, x0.2.2.1, ())) fun v4 =>
            some ((), v4.2.1, true, ()))
          (some ((), v3.2.1, true, ()))))
      (obind (impl_putNum ([], x0.1, ())) fun v5 =>
        obind (impl_putText (v5.2.1, x0.2.1, ())) fun v6 =>
        tb (ieq x0.1 1)
        (obind (impl_putText (v6.2.1, x0.2.2.1, ())) fun v7 =>
          some ((), v7.2.1, true, ()))
        (some ((), v6.2.1, true, ())))))
def impl_RecordPack (x : ((Int × ByteArray × ByteArray × Unit) × Unit)) : Option (Unit × ((List Int) × Bool × Unit)) := impl_RecordPack_k fuel x.1
def impl_RecordPack_s : List (Nat × Con) := [(77, ⟨[.val (.int .i64), .val (.int .i64), .val (.int .i64)], [.bool], (.pair .bool .unit), impl_inRange⟩), (100, ⟨[.own (.row true (.int .u8)), .val (.int .i64)], [(.row true (.int .u8))], (.pair (.row true (.int .u8)) .unit), impl_putNum⟩), (114, ⟨[.val .str], [.bool], (.pair .bool .unit), impl_UrlOk⟩), (115, ⟨[.own (.row true (.int .u8)), .val .str], [(.row true (.int .u8))], (.pair (.row true (.int .u8)) .unit), impl_putText⟩)]
def impl_RecordPack_E : Env := ⟨fun j => (look tyTab j).getD .unit, fun j => look impl_RecordPack_s j⟩
theorem impl_RecordPack_f_eq (N : Nat) (x0 : (Int × ByteArray × ByteArray × Unit)) : funK impl_RecordPack_E Tryz.f104 [.val S96] [(.row true (.int .u8)), .bool] (.pair (.row true (.int .u8)) (.pair .bool .unit)) (fun i => look [] i) N (x0, ()) = impl_RecordPack_k N x0 := by kernel_rfl
theorem impl_RecordPack_o : Known Tryz.prog 104 ⟨[.val S96], [(.row true (.int .u8)), .bool], (.pair (.row true (.int .u8)) (.pair .bool .unit)), impl_RecordPack⟩ := known_of (tab := tyTab) (cons := impl_RecordPack_s) (segs := []) (n := fuel) mixed_ok tab_ok (.cons impl_inRange_o (.cons impl_putNum_o (.cons impl_UrlOk_o (.cons impl_putText_o .nil)))) Tryz.func104 (by kernel_rfl) trivial (fun x => impl_RecordPack_f_eq fuel x.1)
def impl_RecordRead_k (N : Nat) (x0 : (List Int)) (x1 : Int) : Option (Unit × ((Int × ByteArray × ByteArray × Unit) × Int × Bool × Unit)) :=
  obind (impl_getter_num ((x0, x1, false, ()), ())) fun v0 =>
  obind (impl_getter_text ((v0.1.1.1, v0.1.1.2.1, v0.1.1.2.2.1, ()), ())) fun v1 =>
  tb (ieq v0.2.1 1)
  (obind (impl_getter_text ((v1.1.1.1, v1.1.1.2.1, v1.1.1.2.2.1, ()), ())) fun v2 =>
    obind (impl_RecordPack ((v0.2.1, v1.2.1, v2.2.1, ()), ())) fun v3 =>
    tb v2.1.1.2.2.1
    (some ((), (0, (⟨#[]⟩ : ByteArray), (⟨#[]⟩ : ByteArray), ()), 0, false, ()))
    (tb (bnot v3.2.2.1)
      (some ((), (0, (⟨#[]⟩ : ByteArray), (⟨#[]⟩ : ByteArray), ()), 0, false, ()))
      (some ((), (v0.2.1, v1.2.1, v2.2.1, ()), v2.1.1.2.1, true, ()))))
  (obind (impl_RecordPack ((v0.2.1, v1.2.1, (⟨#[]⟩ : ByteArray), ()), ())) fun v4 =>
    tb v1.1.1.2.2.1
    (some ((), (0, (⟨#[]⟩ : ByteArray), (⟨#[]⟩ : ByteArray), ()), 0, false, ()))
    (tb (bnot v4.2.2.1)
      (some ((), (0, (⟨#[]⟩ : ByteArray), (⟨#[]⟩ : ByteArray), ()), 0, false, ()))
      (some ((), (v0.2.1, v1.2.1, (⟨#[]⟩ : ByteArray), ()), v1.1.1.2.1, true, ()))))
def impl_RecordRead (x : ((List Int) × Int × Unit)) : Option (Unit × ((Int × ByteArray × ByteArray × Unit) × Int × Bool × Unit)) := impl_RecordRead_k fuel x.1 x.2.1
def impl_RecordRead_s : List (Nat × Con) := [(88, ⟨[.io S116], [(.int .i64)], (.pair (.int .i64) .unit), impl_getter_num⟩), (103, ⟨[.io S116], [.str], (.pair .str .unit), impl_getter_text⟩), (104, ⟨[.val S96], [(.row true (.int .u8)), .bool], (.pair (.row true (.int .u8)) (.pair .bool .unit)), impl_RecordPack⟩)]
def impl_RecordRead_E : Env := ⟨fun j => (look tyTab j).getD .unit, fun j => look impl_RecordRead_s j⟩
theorem impl_RecordRead_f_eq (N : Nat) (x0 : (List Int)) (x1 : Int) : funK impl_RecordRead_E Tryz.f92 [.val (.row false (.int .u8)), .val (.int .i64)] [T96, (.int .i64), .bool] (.pair T96 (.pair (.int .i64) (.pair .bool .unit))) (fun i => look [] i) N (x0, x1, ()) = impl_RecordRead_k N x0 x1 := by kernel_rfl
theorem impl_RecordRead_o : Known Tryz.prog 92 ⟨[.val (.row false (.int .u8)), .val (.int .i64)], [T96, (.int .i64), .bool], (.pair T96 (.pair (.int .i64) (.pair .bool .unit))), impl_RecordRead⟩ := known_of (tab := tyTab) (cons := impl_RecordRead_s) (segs := []) (n := fuel) mixed_ok tab_ok (.cons impl_getter_num_o (.cons impl_getter_text_o (.cons impl_RecordPack_o .nil))) Tryz.func92 (by kernel_rfl) trivial (fun x => impl_RecordRead_f_eq fuel x.1 x.2.1)
def impl_Records_P0 : Tpl := ⟨[(0, .one (.leaf (.row false (.int .u8)))), (4, .one (.fix (.ref 10000 [] none))), (5, .one (.leaf (.int .i64)))], [], [(10000, (.pair (.int .i64) (.pair .str (.pair .str .unit))))]⟩
def impl_Records_O0 : Tpl := ⟨[(4, .one (.fix (.ref 10500 [] none)))], [], [(10500, (.pair (.int .i64) (.pair .str (.pair .str .unit))))]⟩
def impl_Records_k0 (N : Nat) : Nat → ((Unit × (Unit × ((List (Int × (ByteArray × (ByteArray × Unit)))) × Unit))) → Option (Unit × ((List (Int × ByteArray × ByteArray × Unit)) × Bool × Unit))) → (((List Int) × Int × Unit) × (Unit × ((List (Int × (ByteArray × (ByteArray × Unit)))) × Unit))) → Option (Unit × ((List (Int × ByteArray × ByteArray × Unit)) × Bool × Unit))
  | 0, _, _ => none
  | n + 1, k, x =>
    tb (ilt x.1.2.1 (((llen x.1.1) : Nat) : Int))
    (obind (impl_RecordRead (x.1.1, x.1.2.1, ())) fun v0 =>
      tb (bnot v0.2.2.2.1)
      (some ((), [], false, ()))
      (chk ((plus (llen x.2.2.1) (llen [(v0.2.1.1, v0.2.1.2.1, v0.2.1.2.2.1, ())])) ≤ 3518437208883) (impl_Records_k0 N n k ((x.1.1, v0.2.2.1, ()), (), (lapp x.2.2.1 [(v0.2.1.1, v0.2.1.2.1, v0.2.1.2.2.1, ())]), ())) (none)))
    (k ((), (), x.2.2.1, ()))
def impl_Records_k (N : Nat) (x0 : (List Int)) : Option (Unit × ((List (Int × ByteArray × ByteArray × Unit)) × Bool × Unit)) :=
  impl_Records_k0 N N (fun v0 =>
    some ((), v0.2.2.1, true, ())) ((x0, 0, ()), (), [], ())
def impl_Records (x : ((List Int) × Unit)) : Option (Unit × ((List (Int × ByteArray × ByteArray × Unit)) × Bool × Unit)) := impl_Records_k fuel x.1
def impl_Records_s : List (Nat × Con) := [(92, ⟨[.val (.row false (.int .u8)), .val (.int .i64)], [T96, (.int .i64), .bool], (.pair T96 (.pair (.int .i64) (.pair .bool .unit))), impl_RecordRead⟩)]
def impl_Records_E : Env := ⟨fun j => (look tyTab j).getD .unit, fun j => look impl_Records_s j⟩
theorem impl_Records_r0 (N n : Nat) (k : impl_Records_O0.ty.den → Option (Unit × ((List (Int × ByteArray × ByteArray × Unit)) × Bool × Unit))) (x : impl_Records_P0.ty.den) : roundK impl_Records_E ⟨Tryz.f75.ntmps, N, (fun i => look [(0, ⟨impl_Records_P0, impl_Records_O0, [.tmp 4 10000 (.pair (.int .i64) (.pair .str (.pair .str .unit)))], [.tmp 4 10500 (.pair (.int .i64) (.pair .str (.pair .str .unit)))], impl_Records_k0 N⟩)] i), retK impl_Records_E Tryz.f75 [.val (.row false (.int .u8))] [(.row true T96), .bool] (.pair (.row true T96) (.pair .bool .unit))⟩ (Tryz.f75.body.getD .skip) 0 ⟨impl_Records_P0, impl_Records_O0, [.tmp 4 10000 (.pair (.int .i64) (.pair .str (.pair .str .unit)))], [.tmp 4 10500 (.pair (.int .i64) (.pair .str (.pair .str .unit)))], impl_Records_k0 N⟩ (impl_Records_k0 N n k) k x = impl_Records_k0 N (n + 1) k x := by kernel_rfl
theorem impl_Records_f_eq (N : Nat) (x0 : (List Int)) : funK impl_Records_E Tryz.f75 [.val (.row false (.int .u8))] [(.row true T96), .bool] (.pair (.row true T96) (.pair .bool .unit)) (fun i => look [(0, ⟨impl_Records_P0, impl_Records_O0, [.tmp 4 10000 (.pair (.int .i64) (.pair .str (.pair .str .unit)))], [.tmp 4 10500 (.pair (.int .i64) (.pair .str (.pair .str .unit)))], impl_Records_k0 N⟩)] i) N (x0, ()) = impl_Records_k N x0 := by kernel_rfl
theorem impl_Records_o : Known Tryz.prog 75 ⟨[.val (.row false (.int .u8))], [(.row true T96), .bool], (.pair (.row true T96) (.pair .bool .unit)), impl_Records⟩ := known_of (tab := tyTab) (cons := impl_Records_s) (segs := [(0, ⟨impl_Records_P0, impl_Records_O0, [.tmp 4 10000 (.pair (.int .i64) (.pair .str (.pair .str .unit)))], [.tmp 4 10500 (.pair (.int .i64) (.pair .str (.pair .str .unit)))], impl_Records_k0 fuel⟩)]) (n := fuel) mixed_ok tab_ok (.cons impl_RecordRead_o .nil) Tryz.func75 (by kernel_rfl) ⟨⟨fun _ _ => rfl, fun n k x => impl_Records_r0 fuel n k x⟩, trivial⟩ (fun x => impl_Records_f_eq fuel x.1)
def impl_entryAt_P0 : Tpl := ⟨[(0, .one (.leaf (.row false (.pair .str (.pair .str .unit))))), (1, .one (.leaf .str)), (6, .one (.leaf (.int .i64)))], [], []⟩
def impl_entryAt_O0 : Tpl := ⟨[(0, .one (.leaf (.row false (.pair .str (.pair .str .unit))))), (1, .one (.leaf .str)), (6, .one (.leaf (.int .i64)))], [], []⟩
def impl_entryAt_k0 (N : Nat) : Nat → ((((List (ByteArray × (ByteArray × Unit))) × ByteArray × Int × Unit) × (Unit × Unit)) → Option (Unit × (Int × Bool × Unit))) → (((List (ByteArray × (ByteArray × Unit))) × ByteArray × Int × Unit) × (Unit × Unit)) → Option (Unit × (Int × Bool × Unit))
  | 0, _, _ => none
  | n + 1, k, x =>
    tb (ilt x.1.2.2.1 (((llen x.1.1) : Nat) : Int))
    (chk (0 ≤ x.1.2.2.1) (obind (at? x.1.1 (Int.toNat x.1.2.2.1)) fun v0 =>
        tb (slt v0.1 x.1.2.1)
        (impl_entryAt_k0 N n k ((x.1.1, x.1.2.1, (wr .i64 (x.1.2.2.1 + 1)), ()), (), ()))
        (k ((x.1.1, x.1.2.1, x.1.2.2.1, ()), (), ()))) (none))
    (k ((x.1.1, x.1.2.1, x.1.2.2.1, ()), (), ()))
def impl_entryAt_k (N : Nat) (x0 : (List (ByteArray × ByteArray × Unit))) (x1 : ByteArray) : Option (Unit × (Int × Bool × Unit)) :=
  impl_entryAt_k0 N N (fun v0 =>
    tb (ilt v0.1.2.2.1 (((llen v0.1.1) : Nat) : Int))
    (chk (0 ≤ v0.1.2.2.1) (obind (at? v0.1.1 (Int.toNat v0.1.2.2.1)) fun v1 =>
        some ((), v0.1.2.2.1, (seq v1.1 v0.1.2.1), ())) (none))
    (some ((), v0.1.2.2.1, false, ()))) ((x0, x1, 0, ()), (), ())
def impl_entryAt (x : ((List (ByteArray × ByteArray × Unit)) × ByteArray × Unit)) : Option (Unit × (Int × Bool × Unit)) := impl_entryAt_k fuel x.1 x.2.1
def impl_entryAt_s : List (Nat × Con) := []
def impl_entryAt_E : Env := ⟨fun j => (look tyTab j).getD .unit, fun j => look impl_entryAt_s j⟩
theorem impl_entryAt_r0 (N n : Nat) (k : impl_entryAt_O0.ty.den → Option (Unit × (Int × Bool × Unit))) (x : impl_entryAt_P0.ty.den) : roundK impl_entryAt_E ⟨Tryz.f93.ntmps, N, (fun i => look [(0, ⟨impl_entryAt_P0, impl_entryAt_O0, [], [], impl_entryAt_k0 N⟩)] i), retK impl_entryAt_E Tryz.f93 [.val (.row false S53), .val .str] [(.int .i64), .bool] (.pair (.int .i64) (.pair .bool .unit))⟩ (Tryz.f93.body.getD .skip) 0 ⟨impl_entryAt_P0, impl_entryAt_O0, [], [], impl_entryAt_k0 N⟩ (impl_entryAt_k0 N n k) k x = impl_entryAt_k0 N (n + 1) k x := by kernel_rfl
theorem impl_entryAt_f_eq (N : Nat) (x0 : (List (ByteArray × ByteArray × Unit))) (x1 : ByteArray) : funK impl_entryAt_E Tryz.f93 [.val (.row false S53), .val .str] [(.int .i64), .bool] (.pair (.int .i64) (.pair .bool .unit)) (fun i => look [(0, ⟨impl_entryAt_P0, impl_entryAt_O0, [], [], impl_entryAt_k0 N⟩)] i) N (x0, x1, ()) = impl_entryAt_k N x0 x1 := by kernel_rfl
theorem impl_entryAt_o : Known Tryz.prog 93 ⟨[.val (.row false S53), .val .str], [(.int .i64), .bool], (.pair (.int .i64) (.pair .bool .unit)), impl_entryAt⟩ := known_of (tab := tyTab) (cons := impl_entryAt_s) (segs := [(0, ⟨impl_entryAt_P0, impl_entryAt_O0, [], [], impl_entryAt_k0 fuel⟩)]) (n := fuel) mixed_ok tab_ok .nil Tryz.func93 (by kernel_rfl) ⟨⟨fun _ _ => rfl, fun n k x => impl_entryAt_r0 fuel n k x⟩, trivial⟩ (fun x => impl_entryAt_f_eq fuel x.1 x.2.1)
def impl_IndexOf_P0 : Tpl := ⟨[(3, .one (.fix (.ref 10000 [] none))), (8, .one (.leaf (.row false (.pair (.int .i64) (.pair .str (.pair .str .unit)))))), (9, .one (.leaf (.int .i64))), (10, .one (.leaf (.int .i64)))], [], [(10000, (.pair .str (.pair .str .unit)))]⟩
def impl_IndexOf_O0 : Tpl := ⟨[(3, .one (.fix (.ref 10500 [] none)))], [], [(10500, (.pair .str (.pair .str .unit)))]⟩
def impl_IndexOf_k0 (N : Nat) : Nat → ((Unit × (Unit × ((List (ByteArray × (ByteArray × Unit))) × Unit))) → Option (Unit × ((List (ByteArray × ByteArray × Unit)) × Unit))) → (((List (Int × (ByteArray × (ByteArray × Unit)))) × Int × Int × Unit) × (Unit × ((List (ByteArray × (ByteArray × Unit))) × Unit))) → Option (Unit × ((List (ByteArray × ByteArray × Unit)) × Unit))
  | 0, _, _ => none
  | n + 1, k, x =>
    tb (ilt x.1.2.2.1 x.1.2.1)
    (chk (0 ≤ x.1.2.2.1) (obind (at? x.1.1 (Int.toNat x.1.2.2.1)) fun v0 =>
        obind (impl_entryAt (x.2.2.1, v0.2.1, ())) fun v1 =>
        tb v1.2.2.1
        (obind (slices_Delete_Entry (x.2.2.1, v1.2.1, (wr .i64 (v1.2.1 + 1)), ())) fun v2 =>
          tb (ieq v0.1 1)
          (obind (slices_Insert_Entry (v2.2.1, v1.2.1, [(v0.2.1, v0.2.2.1, ())], ())) fun v3 =>
            impl_IndexOf_k0 N n k ((x.1.1, x.1.2.1, (wr .i64 (x.1.2.2.1 + 1)), ()), (), v3.2.1, ()))
          (impl_IndexOf_k0 N n k ((x.1.1, x.1.2.1, (wr .i64 (x.1.2.2.1 + 1)), ()), (), v2.2.1, ())))
        (tb (ieq v0.1 1)
          (obind (slices_Insert_Entry (x.2.2.1, v1.2.1, [(v0.2.1, v0.2.2.1, ())], ())) fun v4 =>
            impl_IndexOf_k0 N n k ((x.1.1, x.1.2.1, (wr .i64 (x.1.2.2.1 + 1)), ()), (), v4.2.1, ()))
          (impl_IndexOf_k0 N n k ((x.1.1, x.1.2.1, (wr .i64 (x.1.2.2.1 + 1)), ()), (), x.2.2.1, ())))) (none))
    (k ((), (), x.2.2.1, ()))
def impl_IndexOf_k (N : Nat) (x0 : (List (Int × ByteArray × ByteArray × Unit))) : Option (Unit × ((List (ByteArray × ByteArray × Unit)) × Unit)) :=
  impl_IndexOf_k0 N N (fun v0 =>
    some ((), v0.2.2.1, ())) ((x0, (((llen x0) : Nat) : Int), 0, ()), (), [], ())
def impl_IndexOf (x : ((List (Int × ByteArray × ByteArray × Unit)) × Unit)) : Option (Unit × ((List (ByteArray × ByteArray × Unit)) × Unit)) := impl_IndexOf_k fuel x.1
def impl_IndexOf_s : List (Nat × Con) := [(93, ⟨[.val (.row false S53), .val .str], [(.int .i64), .bool], (.pair (.int .i64) (.pair .bool .unit)), impl_entryAt⟩), (94, ⟨[.own (.row true T53), .val (.int .i64), .val (.int .i64)], [(.row true T53)], (.pair (.row true T53) .unit), slices_Delete_Entry⟩), (95, ⟨[.own (.row true T53), .val (.int .i64), .own (.row true T53)], [(.row true T53)], (.pair (.row true T53) .unit), slices_Insert_Entry⟩)]
def impl_IndexOf_E : Env := ⟨fun j => (look tyTab j).getD .unit, fun j => look impl_IndexOf_s j⟩
theorem impl_IndexOf_r0 (N n : Nat) (k : impl_IndexOf_O0.ty.den → Option (Unit × ((List (ByteArray × ByteArray × Unit)) × Unit))) (x : impl_IndexOf_P0.ty.den) : roundK impl_IndexOf_E ⟨Tryz.f76.ntmps, N, (fun i => look [(0, ⟨impl_IndexOf_P0, impl_IndexOf_O0, [.tmp 3 10000 (.pair .str (.pair .str .unit))], [.tmp 3 10500 (.pair .str (.pair .str .unit))], impl_IndexOf_k0 N⟩)] i), retK impl_IndexOf_E Tryz.f76 [.val (.row false S96)] [(.row true T53)] (.pair (.row true T53) .unit)⟩ (Tryz.f76.body.getD .skip) 0 ⟨impl_IndexOf_P0, impl_IndexOf_O0, [.tmp 3 10000 (.pair .str (.pair .str .unit))], [.tmp 3 10500 (.pair .str (.pair .str .unit))], impl_IndexOf_k0 N⟩ (impl_IndexOf_k0 N n k) k x = impl_IndexOf_k0 N (n + 1) k x := by kernel_rfl
theorem impl_IndexOf_f_eq (N : Nat) (x0 : (List (Int × ByteArray × ByteArray × Unit))) : funK impl_IndexOf_E Tryz.f76 [.val (.row false S96)] [(.row true T53)] (.pair (.row true T53) .unit) (fun i => look [(0, ⟨impl_IndexOf_P0, impl_IndexOf_O0, [.tmp 3 10000 (.pair .str (.pair .str .unit))], [.tmp 3 10500 (.pair .str (.pair .str .unit))], impl_IndexOf_k0 N⟩)] i) N (x0, ()) = impl_IndexOf_k N x0 := by kernel_rfl
theorem impl_IndexOf_o : Known Tryz.prog 76 ⟨[.val (.row false S96)], [(.row true T53)], (.pair (.row true T53) .unit), impl_IndexOf⟩ := known_of (tab := tyTab) (cons := impl_IndexOf_s) (segs := [(0, ⟨impl_IndexOf_P0, impl_IndexOf_O0, [.tmp 3 10000 (.pair .str (.pair .str .unit))], [.tmp 3 10500 (.pair .str (.pair .str .unit))], impl_IndexOf_k0 fuel⟩)]) (n := fuel) mixed_ok tab_ok (.cons impl_entryAt_o (.cons slices_Delete_Entry_o (.cons slices_Insert_Entry_o .nil))) Tryz.func76 (by kernel_rfl) ⟨⟨fun _ _ => rfl, fun n k x => impl_IndexOf_r0 fuel n k x⟩, trivial⟩ (fun x => impl_IndexOf_f_eq fuel x.1)
def impl_listOf_k (N : Nat) (x0 : ((List ByteArray) × (List (Int × ByteArray × Unit)) × Unit)) (x1 : (Int × Int × Int × Unit)) : Option (Unit × ((List (ByteArray × ByteArray × Unit)) × Bool × Unit)) :=
  obind (impl_AreaGet ((x0.1, x0.2.1, ()), x1.2.1, 0, x1.2.2.1, ())) fun v0 =>
  tb (bnot v0.2.2.1)
  (some ((), [], false, ()))
  (obind (impl_Records (v0.2.1, ())) fun v1 =>
    obind (impl_IndexOf (v1.2.1, ())) fun v2 =>
    some ((), v2.2.1, v1.2.2.1, ()))
def impl_listOf (x : (((List ByteArray) × (List (Int × ByteArray × Unit)) × Unit) × (Int × Int × Int × Unit) × Unit)) : Option (Unit × ((List (ByteArray × ByteArray × Unit)) × Bool × Unit)) := impl_listOf_k fuel x.1 x.2.1
def impl_listOf_s : List (Nat × Con) := [(74, ⟨[.val S36, .val (.int .i64), .val (.int .i64), .val (.int .i64)], [(.row true (.int .u8)), .bool], (.pair (.row true (.int .u8)) (.pair .bool .unit)), impl_AreaGet⟩), (75, ⟨[.val (.row false (.int .u8))], [(.row true T96), .bool], (.pair (.row true T96) (.pair .bool .unit)), impl_Records⟩), (76, ⟨[.val (.row false S96)], [(.row true T53)], (.pair (.row true T53) .unit), impl_IndexOf⟩)]
def impl_listOf_E : Env := ⟨fun j => (look tyTab j).getD .unit, fun j => look impl_listOf_s j⟩
theorem impl_listOf_f_eq (N : Nat) (x0 : ((List ByteArray) × (List (Int × ByteArray × Unit)) × Unit)) (x1 : (Int × Int × Int × Unit)) : funK impl_listOf_E Tryz.f47 [.val S36, .val S37] [(.row true T53), .bool] (.pair (.row true T53) (.pair .bool .unit)) (fun i => look [] i) N (x0, x1, ()) = impl_listOf_k N x0 x1 := by kernel_rfl
theorem impl_listOf_o : Known Tryz.prog 47 ⟨[.val S36, .val S37], [(.row true T53), .bool], (.pair (.row true T53) (.pair .bool .unit)), impl_listOf⟩ := known_of (tab := tyTab) (cons := impl_listOf_s) (segs := []) (n := fuel) mixed_ok tab_ok (.cons impl_AreaGet_o (.cons impl_Records_o (.cons impl_IndexOf_o .nil))) Tryz.func47 (by kernel_rfl) trivial (fun x => impl_listOf_f_eq fuel x.1 x.2.1)
def slices_Equal_Entry_P0 : Tpl := ⟨[(0, .one (.leaf (.row false (.pair .str (.pair .str .unit))))), (1, .one (.leaf (.row false (.pair .str (.pair .str .unit))))), (12, .one (.leaf (.int .i64))), (13, .one (.leaf (.int .i64)))], [], []⟩
def slices_Equal_Entry_O0 : Tpl := ⟨[], [], []⟩
def slices_Equal_Entry_k0 (N : Nat) : Nat → ((Unit × (Unit × Unit)) → Option (Unit × (Bool × Unit))) → (((List (ByteArray × (ByteArray × Unit))) × (List (ByteArray × (ByteArray × Unit))) × Int × Int × Unit) × (Unit × Unit)) → Option (Unit × (Bool × Unit))
  | 0, _, _ => none
  | n + 1, k, x =>
    tb (ilt x.1.2.2.2.1 x.1.2.2.1)
    (chk (0 ≤ x.1.2.2.2.1) (obind (at? x.1.1 (Int.toNat x.1.2.2.2.1)) fun v0 =>
        chk (0 ≤ x.1.2.2.2.1) (obind (at? x.1.2.1 (Int.toNat x.1.2.2.2.1)) fun v1 =>
          tb (bnot (band (seq v0.1 v1.1) (band (seq v0.2.1 v1.2.1) true)))
          (some ((), false, ()))
          (slices_Equal_Entry_k0 N n k ((x.1.1, x.1.2.1, x.1.2.2.1, (wr .i64 (x.1.2.2.2.1 + 1)), ()), (), ()))) (none)) (none))
    (k ((), (), ()))
def slices_Equal_Entry_k (N : Nat) (x0 : (List (ByteArray × ByteArray × Unit))) (x1 : (List (ByteArray × ByteArray × Unit))) : Option (Unit × (Bool × Unit)) :=
  tb (bnot (ieq (((llen x0) : Nat) : Int) (((llen x1) : Nat) : Int)))
  (some ((), false, ()))
  (slices_Equal_Entry_k0 N N (fun v0 =>
      some ((), true, ())) ((x0, x1, (((llen x0) : Nat) : Int), 0, ()), (), ()))
def slices_Equal_Entry (x : ((List (ByteArray × ByteArray × Unit)) × (List (ByteArray × ByteArray × Unit)) × Unit)) : Option (Unit × (Bool × Unit)) := slices_Equal_Entry_k fuel x.1 x.2.1
def slices_Equal_Entry_s : List (Nat × Con) := []
def slices_Equal_Entry_E : Env := ⟨fun j => (look tyTab j).getD .unit, fun j => look slices_Equal_Entry_s j⟩
theorem slices_Equal_Entry_r0 (N n : Nat) (k : slices_Equal_Entry_O0.ty.den → Option (Unit × (Bool × Unit))) (x : slices_Equal_Entry_P0.ty.den) : roundK slices_Equal_Entry_E ⟨Tryz.f70.ntmps, N, (fun i => look [(0, ⟨slices_Equal_Entry_P0, slices_Equal_Entry_O0, [], [], slices_Equal_Entry_k0 N⟩)] i), retK slices_Equal_Entry_E Tryz.f70 [.val (.row false S53), .val (.row false S53)] [.bool] (.pair .bool .unit)⟩ (Tryz.f70.body.getD .skip) 0 ⟨slices_Equal_Entry_P0, slices_Equal_Entry_O0, [], [], slices_Equal_Entry_k0 N⟩ (slices_Equal_Entry_k0 N n k) k x = slices_Equal_Entry_k0 N (n + 1) k x := by kernel_rfl
theorem slices_Equal_Entry_f_eq (N : Nat) (x0 : (List (ByteArray × ByteArray × Unit))) (x1 : (List (ByteArray × ByteArray × Unit))) : funK slices_Equal_Entry_E Tryz.f70 [.val (.row false S53), .val (.row false S53)] [.bool] (.pair .bool .unit) (fun i => look [(0, ⟨slices_Equal_Entry_P0, slices_Equal_Entry_O0, [], [], slices_Equal_Entry_k0 N⟩)] i) N (x0, x1, ()) = slices_Equal_Entry_k N x0 x1 := by kernel_rfl
theorem slices_Equal_Entry_o : Known Tryz.prog 70 ⟨[.val (.row false S53), .val (.row false S53)], [.bool], (.pair .bool .unit), slices_Equal_Entry⟩ := known_of (tab := tyTab) (cons := slices_Equal_Entry_s) (segs := [(0, ⟨slices_Equal_Entry_P0, slices_Equal_Entry_O0, [], [], slices_Equal_Entry_k0 fuel⟩)]) (n := fuel) mixed_ok tab_ok .nil Tryz.func70 (by kernel_rfl) ⟨⟨fun _ _ => rfl, fun n k x => slices_Equal_Entry_r0 fuel n k x⟩, trivial⟩ (fun x => slices_Equal_Entry_f_eq fuel x.1 x.2.1)
end Go.Proofs.YtekcpaiphcmfmaaGreat.V
set_option maxRecDepth 100000
namespace Go.Proofs.YtekcpaiphcmfmaaGreat.V
open Go Go.Proofs
def impl_ArchiveOk_k (N : Nat) (x0 : (Bool × ((List ByteArray) × (List (Int × ByteArray × Unit)) × Unit) × (Int × Int × Int × Unit) × (List (ByteArray × ByteArray × Unit)) × Unit)) : Option (Unit × (Bool × Unit)) :=
  tb (ilt 0 (((llen x0.2.1.2.1) : Nat) : Int))
  (some ((), false, ()))
  (obind (impl_DiskOk ((x0.2.1.1, x0.2.1.2.1, ()), ())) fun v0 =>
    tb (bnot v0.2.1)
    (some ((), false, ()))
    (tb (bnot x0.1)
      (tb (band (ieq x0.2.2.1.1 0) (band (ieq x0.2.2.1.2.1 0) (band (ieq x0.2.2.1.2.2.1 0) true)))
        (some ((), (ieq (((llen x0.2.2.2.1) : Nat) : Int) 0), ()))
        (some ((), false, ())))
      (obind (impl_headOk ((x0.2.2.1.1, x0.2.2.1.2.1, x0.2.2.1.2.2.1, ()), ())) fun v1 =>
        tb (bnot v1.2.1)
        (some ((), false, ()))
        (obind (impl_HeadNow ((x0.2.1.1, x0.2.1.2.1, ()), ())) fun v2 =>
          tb (bnot (band (ieq v2.2.1.1 x0.2.2.1.1) (band (ieq v2.2.1.2.1 x0.2.2.1.2.1) (band (ieq v2.2.1.2.2.1 x0.2.2.1.2.2.1) true))))
          (some ((), false, ()))
          (obind (impl_listOf ((x0.2.1.1, x0.2.1.2.1, ()), (x0.2.2.1.1, x0.2.2.1.2.1, x0.2.2.1.2.2.1, ()), ())) fun v3 =>
            tb v3.2.2.1
            (obind (slices_Equal_Entry (v3.2.1, x0.2.2.2.1, ())) fun v4 =>
              some ((), v4.2.1, ()))
            (some ((), false, ())))))))
def impl_ArchiveOk (x : ((Bool × ((List ByteArray) × (List (Int × ByteArray × Unit)) × Unit) × (Int × Int × Int × Unit) × (List (ByteArray × ByteArray × Unit)) × Unit) × Unit)) : Option (Unit × (Bool × Unit)) := impl_ArchiveOk_k fuel x.1
def impl_ArchiveOk_s : List (Nat × Con) := [(46, ⟨[.val S36], [T37], (.pair T37 .unit), impl_HeadNow⟩), (47, ⟨[.val S36, .val S37], [(.row true T53), .bool], (.pair (.row true T53) (.pair .bool .unit)), impl_listOf⟩), (48, ⟨[.val S37], [.bool], (.pair .bool .unit), impl_headOk⟩), (69, ⟨[.val S36], [.bool], (.pair .bool .unit), impl_DiskOk⟩), (70, ⟨[.val (.row false S53), .val (.row false S53)], [.bool], (.pair .bool .unit), slices_Equal_Entry⟩)]
def impl_ArchiveOk_E : Env := ⟨fun j => (look tyTab j).getD .unit, fun j => look impl_ArchiveOk_s j⟩
theorem impl_ArchiveOk_f_eq (N : Nat) (x0 : (Bool × ((List ByteArray) × (List (Int × ByteArray × Unit)) × Unit) × (Int × Int × Int × Unit) × (List (ByteArray × ByteArray × Unit)) × Unit)) : funK impl_ArchiveOk_E Tryz.f44 [.val S40] [.bool] (.pair .bool .unit) (fun i => look [] i) N (x0, ()) = impl_ArchiveOk_k N x0 := by kernel_rfl
theorem impl_ArchiveOk_o : Known Tryz.prog 44 ⟨[.val S40], [.bool], (.pair .bool .unit), impl_ArchiveOk⟩ := known_of (tab := tyTab) (cons := impl_ArchiveOk_s) (segs := []) (n := fuel) mixed_ok tab_ok (.cons impl_HeadNow_o (.cons impl_listOf_o (.cons impl_headOk_o (.cons impl_DiskOk_o (.cons slices_Equal_Entry_o .nil))))) Tryz.func44 (by kernel_rfl) trivial (fun x => impl_ArchiveOk_f_eq fuel x.1)
def impl_upCode_k (N : Nat) (x0 : (Bool × ((List ByteArray) × (List (Int × ByteArray × Unit)) × Unit) × (Int × Int × Int × Unit) × (List (ByteArray × ByteArray × Unit)) × Unit)) : Option (Unit × (Int × Unit)) :=
  obind (impl_ArchiveOk ((x0.1, (x0.2.1.1, x0.2.1.2.1, ()), (x0.2.2.1.1, x0.2.2.1.2.1, x0.2.2.1.2.2.1, ()), x0.2.2.2.1, ()), ())) fun v0 =>
  tb (bnot v0.2.1)
  (some ((), 1, ()))
  (tb (bnot x0.1)
    (some ((), 2, ()))
    (some ((), 0, ())))
def impl_upCode (x : ((Bool × ((List ByteArray) × (List (Int × ByteArray × Unit)) × Unit) × (Int × Int × Int × Unit) × (List (ByteArray × ByteArray × Unit)) × Unit) × Unit)) : Option (Unit × (Int × Unit)) := impl_upCode_k fuel x.1
def impl_upCode_s : List (Nat × Con) := [(44, ⟨[.val S40], [.bool], (.pair .bool .unit), impl_ArchiveOk⟩)]
def impl_upCode_E : Env := ⟨fun j => (look tyTab j).getD .unit, fun j => look impl_upCode_s j⟩
theorem impl_upCode_f_eq (N : Nat) (x0 : (Bool × ((List ByteArray) × (List (Int × ByteArray × Unit)) × Unit) × (Int × Int × Int × Unit) × (List (ByteArray × ByteArray × Unit)) × Unit)) : funK impl_upCode_E Tryz.f26 [.val S40] [(.int .i64)] (.pair (.int .i64) .unit) (fun i => look [] i) N (x0, ()) = impl_upCode_k N x0 := by kernel_rfl
theorem impl_upCode_o : Known Tryz.prog 26 ⟨[.val S40], [(.int .i64)], (.pair (.int .i64) .unit), impl_upCode⟩ := known_of (tab := tyTab) (cons := impl_upCode_s) (segs := []) (n := fuel) mixed_ok tab_ok (.cons impl_ArchiveOk_o .nil) Tryz.func26 (by kernel_rfl) trivial (fun x => impl_upCode_f_eq fuel x.1)
def laws_eqStringS_P0 : Tpl := ⟨[(0, .one (.leaf (.row false .str))), (1, .one (.leaf (.row false .str))), (5, .one (.leaf (.int .i64)))], [], []⟩
def laws_eqStringS_O0 : Tpl := ⟨[], [], []⟩
def laws_eqStringS_k0 (N : Nat) : Nat → ((Unit × (Unit × Unit)) → Option (Unit × (Bool × Unit))) → (((List ByteArray) × (List ByteArray) × Int × Unit) × (Unit × Unit)) → Option (Unit × (Bool × Unit))
  | 0, _, _ => none
  | n + 1, k, x =>
    tb (ilt x.1.2.2.1 (((llen x.1.1) : Nat) : Int))
    (chk (0 ≤ x.1.2.2.1) (obind (at? x.1.1 (Int.toNat x.1.2.2.1)) fun v0 =>
        chk (0 ≤ x.1.2.2.1) (obind (at? x.1.2.1 (Int.toNat x.1.2.2.1)) fun v1 =>
          tb (bnot (seq v0 v1))
          (some ((), false, ()))
          (laws_eqStringS_k0 N n k ((x.1.1, x.1.2.1, (wr .i64 (x.1.2.2.1 + 1)), ()), (), ()))) (none)) (none))
    (k ((), (), ()))
def laws_eqStringS_k (N : Nat) (x0 : (List ByteArray)) (x1 : (List ByteArray)) : Option (Unit × (Bool × Unit)) :=
  tb (bnot (ieq (((llen x0) : Nat) : Int) (((llen x1) : Nat) : Int)))
  (some ((), false, ()))
  (laws_eqStringS_k0 N N (fun v0 =>
      some ((), true, ())) ((x0, x1, 0, ()), (), ()))
def laws_eqStringS (x : ((List ByteArray) × (List ByteArray) × Unit)) : Option (Unit × (Bool × Unit)) := laws_eqStringS_k fuel x.1 x.2.1
def laws_eqStringS_s : List (Nat × Con) := []
def laws_eqStringS_E : Env := ⟨fun j => (look tyTab j).getD .unit, fun j => look laws_eqStringS_s j⟩
theorem laws_eqStringS_r0 (N n : Nat) (k : laws_eqStringS_O0.ty.den → Option (Unit × (Bool × Unit))) (x : laws_eqStringS_P0.ty.den) : roundK laws_eqStringS_E ⟨Tryz.f10.ntmps, N, (fun i => look [(0, ⟨laws_eqStringS_P0, laws_eqStringS_O0, [], [], laws_eqStringS_k0 N⟩)] i), retK laws_eqStringS_E Tryz.f10 [.val (.row false .str), .val (.row false .str)] [.bool] (.pair .bool .unit)⟩ (Tryz.f10.body.getD .skip) 0 ⟨laws_eqStringS_P0, laws_eqStringS_O0, [], [], laws_eqStringS_k0 N⟩ (laws_eqStringS_k0 N n k) k x = laws_eqStringS_k0 N (n + 1) k x := by kernel_rfl
theorem laws_eqStringS_f_eq (N : Nat) (x0 : (List ByteArray)) (x1 : (List ByteArray)) : funK laws_eqStringS_E Tryz.f10 [.val (.row false .str), .val (.row false .str)] [.bool] (.pair .bool .unit) (fun i => look [(0, ⟨laws_eqStringS_P0, laws_eqStringS_O0, [], [], laws_eqStringS_k0 N⟩)] i) N (x0, x1, ()) = laws_eqStringS_k N x0 x1 := by kernel_rfl
theorem laws_eqStringS_o : Known Tryz.prog 10 ⟨[.val (.row false .str), .val (.row false .str)], [.bool], (.pair .bool .unit), laws_eqStringS⟩ := known_of (tab := tyTab) (cons := laws_eqStringS_s) (segs := [(0, ⟨laws_eqStringS_P0, laws_eqStringS_O0, [], [], laws_eqStringS_k0 fuel⟩)]) (n := fuel) mixed_ok tab_ok .nil Tryz.func10 (by kernel_rfl) ⟨⟨fun _ _ => rfl, fun n k x => laws_eqStringS_r0 fuel n k x⟩, trivial⟩ (fun x => laws_eqStringS_f_eq fuel x.1 x.2.1)
def laws_eqPut_k (N : Nat) (x0 : (Int × ByteArray × Unit)) (x1 : (Int × ByteArray × Unit)) : Option (Unit × (Bool × Unit)) :=
  tb (bnot (ieq x0.1 x1.1))
  (some ((), false, ()))
  (tb (bnot (seq x0.2.1 x1.2.1))
    (some ((), false, ()))
    (some ((), true, ())))
def laws_eqPut (x : ((Int × ByteArray × Unit) × (Int × ByteArray × Unit) × Unit)) : Option (Unit × (Bool × Unit)) := laws_eqPut_k fuel x.1 x.2.1
def laws_eqPut_s : List (Nat × Con) := []
def laws_eqPut_E : Env := ⟨fun j => (look tyTab j).getD .unit, fun j => look laws_eqPut_s j⟩
theorem laws_eqPut_f_eq (N : Nat) (x0 : (Int × ByteArray × Unit)) (x1 : (Int × ByteArray × Unit)) : funK laws_eqPut_E Tryz.f82 [.val S90, .val S90] [.bool] (.pair .bool .unit) (fun i => look [] i) N (x0, x1, ()) = laws_eqPut_k N x0 x1 := by kernel_rfl
theorem laws_eqPut_o : Known Tryz.prog 82 ⟨[.val S90, .val S90], [.bool], (.pair .bool .unit), laws_eqPut⟩ := known_of (tab := tyTab) (cons := laws_eqPut_s) (segs := []) (n := fuel) mixed_ok tab_ok .nil Tryz.func82 (by kernel_rfl) trivial (fun x => laws_eqPut_f_eq fuel x.1 x.2.1)
def laws_eqPutS_P0 : Tpl := ⟨[(0, .one (.leaf (.row false (.pair (.int .i64) (.pair .str .unit))))), (1, .one (.leaf (.row false (.pair (.int .i64) (.pair .str .unit))))), (5, .one (.leaf (.int .i64)))], [], []⟩
def laws_eqPutS_O0 : Tpl := ⟨[], [], []⟩
def laws_eqPutS_k0 (N : Nat) : Nat → ((Unit × (Unit × Unit)) → Option (Unit × (Bool × Unit))) → (((List (Int × (ByteArray × Unit))) × (List (Int × (ByteArray × Unit))) × Int × Unit) × (Unit × Unit)) → Option (Unit × (Bool × Unit))
  | 0, _, _ => none
  | n + 1, k, x =>
    tb (ilt x.1.2.2.1 (((llen x.1.1) : Nat) : Int))
    (chk (0 ≤ x.1.2.2.1) (obind (at? x.1.1 (Int.toNat x.1.2.2.1)) fun v0 =>
        chk (0 ≤ x.1.2.2.1) (obind (at? x.1.2.1 (Int.toNat x.1.2.2.1)) fun v1 =>
          obind (laws_eqPut ((v0.1, v0.2.1, ()), (v1.1, v1.2.1, ()), ())) fun v2 =>
          tb (bnot v2.2.1)
          (some ((), false, ()))
          (laws_eqPutS_k0 N n k ((x.1.1, x.1.2.1, (wr .i64 (x.1.2.2.1 + 1)), ()), (), ()))) (none)) (none))
    (k ((), (), ()))
def laws_eqPutS_k (N : Nat) (x0 : (List (Int × ByteArray × Unit))) (x1 : (List (Int × ByteArray × Unit))) : Option (Unit × (Bool × Unit)) :=
  tb (bnot (ieq (((llen x0) : Nat) : Int) (((llen x1) : Nat) : Int)))
  (some ((), false, ()))
  (laws_eqPutS_k0 N N (fun v0 =>
      some ((), true, ())) ((x0, x1, 0, ()), (), ()))
def laws_eqPutS (x : ((List (Int × ByteArray × Unit)) × (List (Int × ByteArray × Unit)) × Unit)) : Option (Unit × (Bool × Unit)) := laws_eqPutS_k fuel x.1 x.2.1
def laws_eqPutS_s : List (Nat × Con) := [(82, ⟨[.val S90, .val S90], [.bool], (.pair .bool .unit), laws_eqPut⟩)]
def laws_eqPutS_E : Env := ⟨fun j => (look tyTab j).getD .unit, fun j => look laws_eqPutS_s j⟩
theorem laws_eqPutS_r0 (N n : Nat) (k : laws_eqPutS_O0.ty.den → Option (Unit × (Bool × Unit))) (x : laws_eqPutS_P0.ty.den) : roundK laws_eqPutS_E ⟨Tryz.f58.ntmps, N, (fun i => look [(0, ⟨laws_eqPutS_P0, laws_eqPutS_O0, [], [], laws_eqPutS_k0 N⟩)] i), retK laws_eqPutS_E Tryz.f58 [.val (.row false S90), .val (.row false S90)] [.bool] (.pair .bool .unit)⟩ (Tryz.f58.body.getD .skip) 0 ⟨laws_eqPutS_P0, laws_eqPutS_O0, [], [], laws_eqPutS_k0 N⟩ (laws_eqPutS_k0 N n k) k x = laws_eqPutS_k0 N (n + 1) k x := by kernel_rfl
theorem laws_eqPutS_f_eq (N : Nat) (x0 : (List (Int × ByteArray × Unit))) (x1 : (List (Int × ByteArray × Unit))) : funK laws_eqPutS_E Tryz.f58 [.val (.row false S90), .val (.row false S90)] [.bool] (.pair .bool .unit) (fun i => look [(0, ⟨laws_eqPutS_P0, laws_eqPutS_O0, [], [], laws_eqPutS_k0 N⟩)] i) N (x0, x1, ()) = laws_eqPutS_k N x0 x1 := by kernel_rfl
theorem laws_eqPutS_o : Known Tryz.prog 58 ⟨[.val (.row false S90), .val (.row false S90)], [.bool], (.pair .bool .unit), laws_eqPutS⟩ := known_of (tab := tyTab) (cons := laws_eqPutS_s) (segs := [(0, ⟨laws_eqPutS_P0, laws_eqPutS_O0, [], [], laws_eqPutS_k0 fuel⟩)]) (n := fuel) mixed_ok tab_ok (.cons laws_eqPut_o .nil) Tryz.func58 (by kernel_rfl) ⟨⟨fun _ _ => rfl, fun n k x => laws_eqPutS_r0 fuel n k x⟩, trivial⟩ (fun x => laws_eqPutS_f_eq fuel x.1 x.2.1)
def laws_eqDisk_k (N : Nat) (x0 : ((List ByteArray) × (List (Int × ByteArray × Unit)) × Unit)) (x1 : ((List ByteArray) × (List (Int × ByteArray × Unit)) × Unit)) : Option (Unit × (Bool × Unit)) :=
  obind (laws_eqStringS (x0.1, x1.1, ())) fun v0 =>
  tb (bnot v0.2.1)
  (some ((), false, ()))
  (obind (laws_eqPutS (x0.2.1, x1.2.1, ())) fun v1 =>
    tb (bnot v1.2.1)
    (some ((), false, ()))
    (some ((), true, ())))
def laws_eqDisk (x : (((List ByteArray) × (List (Int × ByteArray × Unit)) × Unit) × ((List ByteArray) × (List (Int × ByteArray × Unit)) × Unit) × Unit)) : Option (Unit × (Bool × Unit)) := laws_eqDisk_k fuel x.1 x.2.1
def laws_eqDisk_s : List (Nat × Con) := [(10, ⟨[.val (.row false .str), .val (.row false .str)], [.bool], (.pair .bool .unit), laws_eqStringS⟩), (58, ⟨[.val (.row false S90), .val (.row false S90)], [.bool], (.pair .bool .unit), laws_eqPutS⟩)]
def laws_eqDisk_E : Env := ⟨fun j => (look tyTab j).getD .unit, fun j => look laws_eqDisk_s j⟩
theorem laws_eqDisk_f_eq (N : Nat) (x0 : ((List ByteArray) × (List (Int × ByteArray × Unit)) × Unit)) (x1 : ((List ByteArray) × (List (Int × ByteArray × Unit)) × Unit)) : funK laws_eqDisk_E Tryz.f27 [.val S36, .val S36] [.bool] (.pair .bool .unit) (fun i => look [] i) N (x0, x1, ()) = laws_eqDisk_k N x0 x1 := by kernel_rfl
theorem laws_eqDisk_o : Known Tryz.prog 27 ⟨[.val S36, .val S36], [.bool], (.pair .bool .unit), laws_eqDisk⟩ := known_of (tab := tyTab) (cons := laws_eqDisk_s) (segs := []) (n := fuel) mixed_ok tab_ok (.cons laws_eqStringS_o (.cons laws_eqPutS_o .nil)) Tryz.func27 (by kernel_rfl) trivial (fun x => laws_eqDisk_f_eq fuel x.1 x.2.1)
def laws_eqHead_k (N : Nat) (x0 : (Int × Int × Int × Unit)) (x1 : (Int × Int × Int × Unit)) : Option (Unit × (Bool × Unit)) :=
  tb (bnot (ieq x0.1 x1.1))
  (some ((), false, ()))
  (tb (bnot (ieq x0.2.1 x1.2.1))
    (some ((), false, ()))
    (tb (bnot (ieq x0.2.2.1 x1.2.2.1))
      (some ((), false, ()))
      (some ((), true, ()))))
def laws_eqHead (x : ((Int × Int × Int × Unit) × (Int × Int × Int × Unit) × Unit)) : Option (Unit × (Bool × Unit)) := laws_eqHead_k fuel x.1 x.2.1
def laws_eqHead_s : List (Nat × Con) := []
def laws_eqHead_E : Env := ⟨fun j => (look tyTab j).getD .unit, fun j => look laws_eqHead_s j⟩
theorem laws_eqHead_f_eq (N : Nat) (x0 : (Int × Int × Int × Unit)) (x1 : (Int × Int × Int × Unit)) : funK laws_eqHead_E Tryz.f28 [.val S37, .val S37] [.bool] (.pair .bool .unit) (fun i => look [] i) N (x0, x1, ()) = laws_eqHead_k N x0 x1 := by kernel_rfl
theorem laws_eqHead_o : Known Tryz.prog 28 ⟨[.val S37, .val S37], [.bool], (.pair .bool .unit), laws_eqHead⟩ := known_of (tab := tyTab) (cons := laws_eqHead_s) (segs := []) (n := fuel) mixed_ok tab_ok .nil Tryz.func28 (by kernel_rfl) trivial (fun x => laws_eqHead_f_eq fuel x.1 x.2.1)
def laws_eqEntry_k (N : Nat) (x0 : (ByteArray × ByteArray × Unit)) (x1 : (ByteArray × ByteArray × Unit)) : Option (Unit × (Bool × Unit)) :=
  tb (bnot (seq x0.1 x1.1))
  (some ((), false, ()))
  (tb (bnot (seq x0.2.1 x1.2.1))
    (some ((), false, ()))
    (some ((), true, ())))
def laws_eqEntry (x : ((ByteArray × ByteArray × Unit) × (ByteArray × ByteArray × Unit) × Unit)) : Option (Unit × (Bool × Unit)) := laws_eqEntry_k fuel x.1 x.2.1
def laws_eqEntry_s : List (Nat × Con) := []
def laws_eqEntry_E : Env := ⟨fun j => (look tyTab j).getD .unit, fun j => look laws_eqEntry_s j⟩
theorem laws_eqEntry_f_eq (N : Nat) (x0 : (ByteArray × ByteArray × Unit)) (x1 : (ByteArray × ByteArray × Unit)) : funK laws_eqEntry_E Tryz.f59 [.val S53, .val S53] [.bool] (.pair .bool .unit) (fun i => look [] i) N (x0, x1, ()) = laws_eqEntry_k N x0 x1 := by kernel_rfl
theorem laws_eqEntry_o : Known Tryz.prog 59 ⟨[.val S53, .val S53], [.bool], (.pair .bool .unit), laws_eqEntry⟩ := known_of (tab := tyTab) (cons := laws_eqEntry_s) (segs := []) (n := fuel) mixed_ok tab_ok .nil Tryz.func59 (by kernel_rfl) trivial (fun x => laws_eqEntry_f_eq fuel x.1 x.2.1)
def laws_eqEntryS_P0 : Tpl := ⟨[(0, .one (.leaf (.row false (.pair .str (.pair .str .unit))))), (1, .one (.leaf (.row false (.pair .str (.pair .str .unit))))), (5, .one (.leaf (.int .i64)))], [], []⟩
def laws_eqEntryS_O0 : Tpl := ⟨[], [], []⟩
def laws_eqEntryS_k0 (N : Nat) : Nat → ((Unit × (Unit × Unit)) → Option (Unit × (Bool × Unit))) → (((List (ByteArray × (ByteArray × Unit))) × (List (ByteArray × (ByteArray × Unit))) × Int × Unit) × (Unit × Unit)) → Option (Unit × (Bool × Unit))
  | 0, _, _ => none
  | n + 1, k, x =>
    tb (ilt x.1.2.2.1 (((llen x.1.1) : Nat) : Int))
    (chk (0 ≤ x.1.2.2.1) (obind (at? x.1.1 (Int.toNat x.1.2.2.1)) fun v0 =>
        chk (0 ≤ x.1.2.2.1) (obind (at? x.1.2.1 (Int.toNat x.1.2.2.1)) fun v1 =>
          obind (laws_eqEntry ((v0.1, v0.2.1, ()), (v1.1, v1.2.1, ()), ())) fun v2 =>
          tb (bnot v2.2.1)
          (some ((), false, ()))
          (laws_eqEntryS_k0 N n k ((x.1.1, x.1.2.1, (wr .i64 (x.1.2.2.1 + 1)), ()), (), ()))) (none)) (none))
    (k ((), (), ()))
def laws_eqEntryS_k (N : Nat) (x0 : (List (ByteArray × ByteArray × Unit))) (x1 : (List (ByteArray × ByteArray × Unit))) : Option (Unit × (Bool × Unit)) :=
  tb (bnot (ieq (((llen x0) : Nat) : Int) (((llen x1) : Nat) : Int)))
  (some ((), false, ()))
  (laws_eqEntryS_k0 N N (fun v0 =>
      some ((), true, ())) ((x0, x1, 0, ()), (), ()))
def laws_eqEntryS (x : ((List (ByteArray × ByteArray × Unit)) × (List (ByteArray × ByteArray × Unit)) × Unit)) : Option (Unit × (Bool × Unit)) := laws_eqEntryS_k fuel x.1 x.2.1
def laws_eqEntryS_s : List (Nat × Con) := [(59, ⟨[.val S53, .val S53], [.bool], (.pair .bool .unit), laws_eqEntry⟩)]
def laws_eqEntryS_E : Env := ⟨fun j => (look tyTab j).getD .unit, fun j => look laws_eqEntryS_s j⟩
theorem laws_eqEntryS_r0 (N n : Nat) (k : laws_eqEntryS_O0.ty.den → Option (Unit × (Bool × Unit))) (x : laws_eqEntryS_P0.ty.den) : roundK laws_eqEntryS_E ⟨Tryz.f29.ntmps, N, (fun i => look [(0, ⟨laws_eqEntryS_P0, laws_eqEntryS_O0, [], [], laws_eqEntryS_k0 N⟩)] i), retK laws_eqEntryS_E Tryz.f29 [.val (.row false S53), .val (.row false S53)] [.bool] (.pair .bool .unit)⟩ (Tryz.f29.body.getD .skip) 0 ⟨laws_eqEntryS_P0, laws_eqEntryS_O0, [], [], laws_eqEntryS_k0 N⟩ (laws_eqEntryS_k0 N n k) k x = laws_eqEntryS_k0 N (n + 1) k x := by kernel_rfl
theorem laws_eqEntryS_f_eq (N : Nat) (x0 : (List (ByteArray × ByteArray × Unit))) (x1 : (List (ByteArray × ByteArray × Unit))) : funK laws_eqEntryS_E Tryz.f29 [.val (.row false S53), .val (.row false S53)] [.bool] (.pair .bool .unit) (fun i => look [(0, ⟨laws_eqEntryS_P0, laws_eqEntryS_O0, [], [], laws_eqEntryS_k0 N⟩)] i) N (x0, x1, ()) = laws_eqEntryS_k N x0 x1 := by kernel_rfl
theorem laws_eqEntryS_o : Known Tryz.prog 29 ⟨[.val (.row false S53), .val (.row false S53)], [.bool], (.pair .bool .unit), laws_eqEntryS⟩ := known_of (tab := tyTab) (cons := laws_eqEntryS_s) (segs := [(0, ⟨laws_eqEntryS_P0, laws_eqEntryS_O0, [], [], laws_eqEntryS_k0 fuel⟩)]) (n := fuel) mixed_ok tab_ok (.cons laws_eqEntry_o .nil) Tryz.func29 (by kernel_rfl) ⟨⟨fun _ _ => rfl, fun n k x => laws_eqEntryS_r0 fuel n k x⟩, trivial⟩ (fun x => laws_eqEntryS_f_eq fuel x.1 x.2.1)
def laws_eqArchive_k (N : Nat) (x0 : (Bool × ((List ByteArray) × (List (Int × ByteArray × Unit)) × Unit) × (Int × Int × Int × Unit) × (List (ByteArray × ByteArray × Unit)) × Unit)) (x1 : (Bool × ((List ByteArray) × (List (Int × ByteArray × Unit)) × Unit) × (Int × Int × Int × Unit) × (List (ByteArray × ByteArray × Unit)) × Unit)) : Option (Unit × (Bool × Unit)) :=
  tb (bnot (beq x0.1 x1.1))
  (some ((), false, ()))
  (obind (laws_eqDisk ((x0.2.1.1, x0.2.1.2.1, ()), (x1.2.1.1, x1.2.1.2.1, ()), ())) fun v0 =>
    tb (bnot v0.2.1)
    (some ((), false, ()))
    (obind (laws_eqHead ((x0.2.2.1.1, x0.2.2.1.2.1, x0.2.2.1.2.2.1, ()), (x1.2.2.1.1, x1.2.2.1.2.1, x1.2.2.1.2.2.1, ()), ())) fun v1 =>
      tb (bnot v1.2.1)
      (some ((), false, ()))
      (obind (laws_eqEntryS (x0.2.2.2.1, x1.2.2.2.1, ())) fun v2 =>
        tb (bnot v2.2.1)
        (some ((), false, ()))
        (some ((), true, ())))))
def laws_eqArchive (x : ((Bool × ((List ByteArray) × (List (Int × ByteArray × Unit)) × Unit) × (Int × Int × Int × Unit) × (List (ByteArray × ByteArray × Unit)) × Unit) × (Bool × ((List ByteArray) × (List (Int × ByteArray × Unit)) × Unit) × (Int × Int × Int × Unit) × (List (ByteArray × ByteArray × Unit)) × Unit) × Unit)) : Option (Unit × (Bool × Unit)) := laws_eqArchive_k fuel x.1 x.2.1
def laws_eqArchive_s : List (Nat × Con) := [(27, ⟨[.val S36, .val S36], [.bool], (.pair .bool .unit), laws_eqDisk⟩), (28, ⟨[.val S37, .val S37], [.bool], (.pair .bool .unit), laws_eqHead⟩), (29, ⟨[.val (.row false S53), .val (.row false S53)], [.bool], (.pair .bool .unit), laws_eqEntryS⟩)]
def laws_eqArchive_E : Env := ⟨fun j => (look tyTab j).getD .unit, fun j => look laws_eqArchive_s j⟩
theorem laws_eqArchive_f_eq (N : Nat) (x0 : (Bool × ((List ByteArray) × (List (Int × ByteArray × Unit)) × Unit) × (Int × Int × Int × Unit) × (List (ByteArray × ByteArray × Unit)) × Unit)) (x1 : (Bool × ((List ByteArray) × (List (Int × ByteArray × Unit)) × Unit) × (Int × Int × Int × Unit) × (List (ByteArray × ByteArray × Unit)) × Unit)) : funK laws_eqArchive_E Tryz.f11 [.val S40, .val S40] [.bool] (.pair .bool .unit) (fun i => look [] i) N (x0, x1, ()) = laws_eqArchive_k N x0 x1 := by kernel_rfl
theorem laws_eqArchive_o : Known Tryz.prog 11 ⟨[.val S40, .val S40], [.bool], (.pair .bool .unit), laws_eqArchive⟩ := known_of (tab := tyTab) (cons := laws_eqArchive_s) (segs := []) (n := fuel) mixed_ok tab_ok (.cons laws_eqDisk_o (.cons laws_eqHead_o (.cons laws_eqEntryS_o .nil))) Tryz.func11 (by kernel_rfl) trivial (fun x => laws_eqArchive_f_eq fuel x.1 x.2.1)
def laws_markText_P0 : Tpl := ⟨[(0, .one (.leaf (.int .i64))), (3, .one (.leaf .str))], [], []⟩
def laws_markText_O0 : Tpl := ⟨[(3, .one (.leaf .str))], [], []⟩
def laws_markText_k0 (N : Nat) : Nat → (((ByteArray × Unit) × (Unit × Unit)) → Option (Unit × (ByteArray × Unit))) → ((Int × ByteArray × Unit) × (Unit × Unit)) → Option (Unit × (ByteArray × Unit))
  | 0, _, _ => none
  | n + 1, k, x =>
    tb (ilt 0 x.1.1)
    (chk ((10 : Int) = 0) (none) (chk ((plus (slen (strOf [(wr .u8 (wr .i64 (48 + (Int.tmod x.1.1 10))))])) (slen x.1.2.1)) < slim) (chk ((10 : Int) = 0) (none) (laws_markText_k0 N n k (((wr .i64 (Int.tdiv x.1.1 10)), (sapp (strOf [(wr .u8 (wr .i64 (48 + (Int.tmod x.1.1 10))))]) x.1.2.1), ()), (), ()))) (none)))
    (k ((x.1.2.1, ()), (), ()))
def laws_markText_k (N : Nat) (x0 : Int) : Option (Unit × (ByteArray × Unit)) :=
  tb (ile x0 0)
  (some ((), (⟨#[109, 48]⟩ : ByteArray), ()))
  (laws_markText_k0 N N (fun v0 =>
      chk ((plus (slen (⟨#[109]⟩ : ByteArray)) (slen v0.1.1)) < slim) (some ((), (sapp (⟨#[109]⟩ : ByteArray) v0.1.1), ())) (none)) ((x0, (⟨#[]⟩ : ByteArray), ()), (), ()))
def laws_markText (x : (Int × Unit)) : Option (Unit × (ByteArray × Unit)) := laws_markText_k fuel x.1
def laws_markText_s : List (Nat × Con) := []
def laws_markText_E : Env := ⟨fun j => (look tyTab j).getD .unit, fun j => look laws_markText_s j⟩
theorem laws_markText_r0 (N n : Nat) (k : laws_markText_O0.ty.den → Option (Unit × (ByteArray × Unit))) (x : laws_markText_P0.ty.den) : roundK laws_markText_E ⟨Tryz.f32.ntmps, N, (fun i => look [(0, ⟨laws_markText_P0, laws_markText_O0, [], [], laws_markText_k0 N⟩)] i), retK laws_markText_E Tryz.f32 [.val (.int .i64)] [.str] (.pair .str .unit)⟩ (Tryz.f32.body.getD .skip) 0 ⟨laws_markText_P0, laws_markText_O0, [], [], laws_markText_k0 N⟩ (laws_markText_k0 N n k) k x = laws_markText_k0 N (n + 1) k x := by kernel_rfl
theorem laws_markText_f_eq (N : Nat) (x0 : Int) : funK laws_markText_E Tryz.f32 [.val (.int .i64)] [.str] (.pair .str .unit) (fun i => look [(0, ⟨laws_markText_P0, laws_markText_O0, [], [], laws_markText_k0 N⟩)] i) N (x0, ()) = laws_markText_k N x0 := by kernel_rfl
theorem laws_markText_o : Known Tryz.prog 32 ⟨[.val (.int .i64)], [.str], (.pair .str .unit), laws_markText⟩ := known_of (tab := tyTab) (cons := laws_markText_s) (segs := [(0, ⟨laws_markText_P0, laws_markText_O0, [], [], laws_markText_k0 fuel⟩)]) (n := fuel) mixed_ok tab_ok .nil Tryz.func32 (by kernel_rfl) ⟨⟨fun _ _ => rfl, fun n k x => laws_markText_r0 fuel n k x⟩, trivial⟩ (fun x => laws_markText_f_eq fuel x.1)
def laws_markStringS_P0 : Tpl := ⟨[(0, .one (.fix (.ref 500 [] none))), (1, .one (.leaf (.int .i64))), (5, .one (.leaf (.int .i64)))], [], [(500, .str)]⟩
def laws_markStringS_O0 : Tpl := ⟨[(1, .one (.leaf (.int .i64)))], [], [(500, .str)]⟩
def laws_markStringS_k0 (N : Nat) : Nat → (((Int × Unit) × (Unit × ((List ByteArray) × Unit))) → Option (((List ByteArray) × Unit) × (Int × Unit))) → ((Int × Int × Unit) × (Unit × ((List ByteArray) × Unit))) → Option (((List ByteArray) × Unit) × (Int × Unit))
  | 0, _, _ => none
  | n + 1, k, x =>
    tb (ilt x.1.2.1 (((llen x.2.2.1) : Nat) : Int))
    (obind (laws_markText (x.1.1, ())) fun v0 =>
      chk ((0 ≤ x.1.2.1) ∧ (x.1.2.1 < (((llen x.2.2.1) : Nat) : Int))) (obind (at? x.2.2.1 (Int.toNat x.1.2.1)) fun v1 =>
        laws_markStringS_k0 N n k (((wr .i64 (x.1.1 + 1)), (wr .i64 (x.1.2.1 + 1)), ()), (), (lset x.2.2.1 (Int.toNat x.1.2.1) v0.2.1), ())) (none))
    (k ((x.1.1, ()), (), x.2.2.1, ()))
def laws_markStringS_k (N : Nat) (x0 : (List ByteArray)) (x1 : Int) : Option (((List ByteArray) × Unit) × (Int × Unit)) :=
  laws_markStringS_k0 N N (fun v0 =>
    some ((v0.2.2.1, ()), v0.1.1, ())) ((x1, 0, ()), (), x0, ())
def laws_markStringS (x : ((List ByteArray) × Int × Unit)) : Option (((List ByteArray) × Unit) × (Int × Unit)) := laws_markStringS_k fuel x.1 x.2.1
def laws_markStringS_s : List (Nat × Con) := [(32, ⟨[.val (.int .i64)], [.str], (.pair .str .unit), laws_markText⟩)]
def laws_markStringS_E : Env := ⟨fun j => (look tyTab j).getD .unit, fun j => look laws_markStringS_s j⟩
theorem laws_markStringS_r0 (N n : Nat) (k : laws_markStringS_O0.ty.den → Option (((List ByteArray) × Unit) × (Int × Unit))) (x : laws_markStringS_P0.ty.den) : roundK laws_markStringS_E ⟨Tryz.f13.ntmps, N, (fun i => look [(0, ⟨laws_markStringS_P0, laws_markStringS_O0, [], [], laws_markStringS_k0 N⟩)] i), retK laws_markStringS_E Tryz.f13 [.bor (.row true .str), .val (.int .i64)] [(.int .i64)] (.pair (.int .i64) .unit)⟩ (Tryz.f13.body.getD .skip) 0 ⟨laws_markStringS_P0, laws_markStringS_O0, [], [], laws_markStringS_k0 N⟩ (laws_markStringS_k0 N n k) k x = laws_markStringS_k0 N (n + 1) k x := by kernel_rfl
theorem laws_markStringS_f_eq (N : Nat) (x0 : (List ByteArray)) (x1 : Int) : funK laws_markStringS_E Tryz.f13 [.bor (.row true .str), .val (.int .i64)] [(.int .i64)] (.pair (.int .i64) .unit) (fun i => look [(0, ⟨laws_markStringS_P0, laws_markStringS_O0, [], [], laws_markStringS_k0 N⟩)] i) N (x0, x1, ()) = laws_markStringS_k N x0 x1 := by kernel_rfl
theorem laws_markStringS_o : Known Tryz.prog 13 ⟨[.bor (.row true .str), .val (.int .i64)], [(.int .i64)], (.pair (.int .i64) .unit), laws_markStringS⟩ := known_of (tab := tyTab) (cons := laws_markStringS_s) (segs := [(0, ⟨laws_markStringS_P0, laws_markStringS_O0, [], [], laws_markStringS_k0 fuel⟩)]) (n := fuel) mixed_ok tab_ok (.cons laws_markText_o .nil) Tryz.func13 (by kernel_rfl) ⟨⟨fun _ _ => rfl, fun n k x => laws_markStringS_r0 fuel n k x⟩, trivial⟩ (fun x => laws_markStringS_f_eq fuel x.1 x.2.1)
def laws_markPutS_P0 : Tpl := ⟨[(0, .one (.fix (.ref 500 [] none))), (1, .one (.leaf (.int .i64))), (5, .one (.leaf (.int .i64)))], [], [(500, (.pair (.int .i64) (.pair .str .unit)))]⟩
def laws_markPutS_O0 : Tpl := ⟨[(1, .one (.leaf (.int .i64)))], [], [(500, (.pair (.int .i64) (.pair .str .unit)))]⟩
def laws_markPutS_k0 (N : Nat) : Nat → (((Int × Unit) × (Unit × ((List (Int × (ByteArray × Unit))) × Unit))) → Option (((List (Int × ByteArray × Unit)) × Unit) × (Int × Unit))) → ((Int × Int × Unit) × (Unit × ((List (Int × (ByteArray × Unit))) × Unit))) → Option (((List (Int × ByteArray × Unit)) × Unit) × (Int × Unit))
  | 0, _, _ => none
  | n + 1, k, x =>
    tb (ilt x.1.2.1 (((llen x.2.2.1) : Nat) : Int))
    (chk ((0 ≤ x.1.2.1) ∧ (x.1.2.1 < (((llen x.2.2.1) : Nat) : Int))) (obind (at? x.2.2.1 (Int.toNat x.1.2.1)) fun v0 =>
        obind (laws_markText ((wr .i64 (x.1.1 + 1)), ())) fun v1 =>
        chk ((0 ≤ x.1.2.1) ∧ (x.1.2.1 < (((llen (lset x.2.2.1 (Int.toNat x.1.2.1) (x.1.1, v0.2))) : Nat) : Int))) (obind (at? (lset x.2.2.1 (Int.toNat x.1.2.1) (x.1.1, v0.2)) (Int.toNat x.1.2.1)) fun v2 =>
          laws_markPutS_k0 N n k (((wr .i64 ((wr .i64 (x.1.1 + 1)) + 1)), (wr .i64 (x.1.2.1 + 1)), ()), (), (lset (lset x.2.2.1 (Int.toNat x.1.2.1) (x.1.1, v0.2)) (Int.toNat x.1.2.1) (v2.1, v1.2.1, v2.2.2)), ())) (none)) (none))
    (k ((x.1.1, ()), (), x.2.2.1, ()))
def laws_markPutS_k (N : Nat) (x0 : (List (Int × ByteArray × Unit))) (x1 : Int) : Option (((List (Int × ByteArray × Unit)) × Unit) × (Int × Unit)) :=
  laws_markPutS_k0 N N (fun v0 =>
    some ((v0.2.2.1, ()), v0.1.1, ())) ((x1, 0, ()), (), x0, ())
def laws_markPutS (x : ((List (Int × ByteArray × Unit)) × Int × Unit)) : Option (((List (Int × ByteArray × Unit)) × Unit) × (Int × Unit)) := laws_markPutS_k fuel x.1 x.2.1
def laws_markPutS_s : List (Nat × Con) := [(32, ⟨[.val (.int .i64)], [.str], (.pair .str .unit), laws_markText⟩)]
def laws_markPutS_E : Env := ⟨fun j => (look tyTab j).getD .unit, fun j => look laws_markPutS_s j⟩
theorem laws_markPutS_r0 (N n : Nat) (k : laws_markPutS_O0.ty.den → Option (((List (Int × ByteArray × Unit)) × Unit) × (Int × Unit))) (x : laws_markPutS_P0.ty.den) : roundK laws_markPutS_E ⟨Tryz.f60.ntmps, N, (fun i => look [(0, ⟨laws_markPutS_P0, laws_markPutS_O0, [], [], laws_markPutS_k0 N⟩)] i), retK laws_markPutS_E Tryz.f60 [.bor (.row true T90), .val (.int .i64)] [(.int .i64)] (.pair (.int .i64) .unit)⟩ (Tryz.f60.body.getD .skip) 0 ⟨laws_markPutS_P0, laws_markPutS_O0, [], [], laws_markPutS_k0 N⟩ (laws_markPutS_k0 N n k) k x = laws_markPutS_k0 N (n + 1) k x := by kernel_rfl
theorem laws_markPutS_f_eq (N : Nat) (x0 : (List (Int × ByteArray × Unit))) (x1 : Int) : funK laws_markPutS_E Tryz.f60 [.bor (.row true T90), .val (.int .i64)] [(.int .i64)] (.pair (.int .i64) .unit) (fun i => look [(0, ⟨laws_markPutS_P0, laws_markPutS_O0, [], [], laws_markPutS_k0 N⟩)] i) N (x0, x1, ()) = laws_markPutS_k N x0 x1 := by kernel_rfl
theorem laws_markPutS_o : Known Tryz.prog 60 ⟨[.bor (.row true T90), .val (.int .i64)], [(.int .i64)], (.pair (.int .i64) .unit), laws_markPutS⟩ := known_of (tab := tyTab) (cons := laws_markPutS_s) (segs := [(0, ⟨laws_markPutS_P0, laws_markPutS_O0, [], [], laws_markPutS_k0 fuel⟩)]) (n := fuel) mixed_ok tab_ok (.cons laws_markText_o .nil) Tryz.func60 (by kernel_rfl) ⟨⟨fun _ _ => rfl, fun n k x => laws_markPutS_r0 fuel n k x⟩, trivial⟩ (fun x => laws_markPutS_f_eq fuel x.1 x.2.1)
def laws_markDisk_k (N : Nat) (x0 : ((List ByteArray) × (List (Int × ByteArray × Unit)) × Unit)) (x1 : Int) : Option ((((List ByteArray) × (List (Int × ByteArray × Unit)) × Unit) × Unit) × (Int × Unit)) :=
  obind (laws_markStringS (x0.1, x1, ())) fun v0 =>
  obind (laws_markPutS (x0.2.1, v0.2.1, ())) fun v1 =>
  some (((v0.1.1, v1.1.1, ()), ()), v1.2.1, ())
def laws_markDisk (x : (((List ByteArray) × (List (Int × ByteArray × Unit)) × Unit) × Int × Unit)) : Option ((((List ByteArray) × (List (Int × ByteArray × Unit)) × Unit) × Unit) × (Int × Unit)) := laws_markDisk_k fuel x.1 x.2.1
def laws_markDisk_s : List (Nat × Con) := [(13, ⟨[.bor (.row true .str), .val (.int .i64)], [(.int .i64)], (.pair (.int .i64) .unit), laws_markStringS⟩), (60, ⟨[.bor (.row true T90), .val (.int .i64)], [(.int .i64)], (.pair (.int .i64) .unit), laws_markPutS⟩)]
def laws_markDisk_E : Env := ⟨fun j => (look tyTab j).getD .unit, fun j => look laws_markDisk_s j⟩
theorem laws_markDisk_f_eq (N : Nat) (x0 : ((List ByteArray) × (List (Int × ByteArray × Unit)) × Unit)) (x1 : Int) : funK laws_markDisk_E Tryz.f30 [.bor T36, .val (.int .i64)] [(.int .i64)] (.pair (.int .i64) .unit) (fun i => look [] i) N (x0, x1, ()) = laws_markDisk_k N x0 x1 := by kernel_rfl
theorem laws_markDisk_o : Known Tryz.prog 30 ⟨[.bor T36, .val (.int .i64)], [(.int .i64)], (.pair (.int .i64) .unit), laws_markDisk⟩ := known_of (tab := tyTab) (cons := laws_markDisk_s) (segs := []) (n := fuel) mixed_ok tab_ok (.cons laws_markStringS_o (.cons laws_markPutS_o .nil)) Tryz.func30 (by kernel_rfl) trivial (fun x => laws_markDisk_f_eq fuel x.1 x.2.1)
def laws_markEntryS_P0 : Tpl := ⟨[(0, .one (.fix (.ref 500 [] none))), (1, .one (.leaf (.int .i64))), (5, .one (.leaf (.int .i64)))], [], [(500, (.pair .str (.pair .str .unit)))]⟩
def laws_markEntryS_O0 : Tpl := ⟨[(1, .one (.leaf (.int .i64)))], [], [(500, (.pair .str (.pair .str .unit)))]⟩
def laws_markEntryS_k0 (N : Nat) : Nat → (((Int × Unit) × (Unit × ((List (ByteArray × (ByteArray × Unit))) × Unit))) → Option (((List (ByteArray × ByteArray × Unit)) × Unit) × (Int × Unit))) → ((Int × Int × Unit) × (Unit × ((List (ByteArray × (ByteArray × Unit))) × Unit))) → Option (((List (ByteArray × ByteArray × Unit)) × Unit) × (Int × Unit))
  | 0, _, _ => none
  | n + 1, k, x =>
    tb (ilt x.1.2.1 (((llen x.2.2.1) : Nat) : Int))
    (obind (laws_markText (x.1.1, ())) fun v0 =>
      chk ((0 ≤ x.1.2.1) ∧ (x.1.2.1 < (((llen x.2.2.1) : Nat) : Int))) (obind (at? x.2.2.1 (Int.toNat x.1.2.1)) fun v1 =>
        obind (laws_markText ((wr .i64 (x.1.1 + 1)), ())) fun v2 =>
        chk ((0 ≤ x.1.2.1) ∧ (x.1.2.1 < (((llen (lset x.2.2.1 (Int.toNat x.1.2.1) (v0.2.1, v1.2))) : Nat) : Int))) (obind (at? (lset x.2.2.1 (Int.toNat x.1.2.1) (v0.2.1, v1.2)) (Int.toNat x.1.2.1)) fun v3 =>
          laws_markEntryS_k0 N n k (((wr .i64 ((wr .i64 (x.1.1 + 1)) + 1)), (wr .i64 (x.1.2.1 + 1)), ()), (), (lset (lset x.2.2.1 (Int.toNat x.1.2.1) (v0.2.1, v1.2)) (Int.toNat x.1.2.1) (v3.1, v2.2.1, v3.2.2)), ())) (none)) (none))
    (k ((x.1.1, ()), (), x.2.2.1, ()))
def laws_markEntryS_k (N : Nat) (x0 : (List (ByteArray × ByteArray × Unit))) (x1 : Int) : Option (((List (ByteArray × ByteArray × Unit)) × Unit) × (Int × Unit)) :=
  laws_markEntryS_k0 N N (fun v0 =>
    some ((v0.2.2.1, ()), v0.1.1, ())) ((x1, 0, ()), (), x0, ())
def laws_markEntryS (x : ((List (ByteArray × ByteArray × Unit)) × Int × Unit)) : Option (((List (ByteArray × ByteArray × Unit)) × Unit) × (Int × Unit)) := laws_markEntryS_k fuel x.1 x.2.1
def laws_markEntryS_s : List (Nat × Con) := [(32, ⟨[.val (.int .i64)], [.str], (.pair .str .unit), laws_markText⟩)]
def laws_markEntryS_E : Env := ⟨fun j => (look tyTab j).getD .unit, fun j => look laws_markEntryS_s j⟩
theorem laws_markEntryS_r0 (N n : Nat) (k : laws_markEntryS_O0.ty.den → Option (((List (ByteArray × ByteArray × Unit)) × Unit) × (Int × Unit))) (x : laws_markEntryS_P0.ty.den) : roundK laws_markEntryS_E ⟨Tryz.f31.ntmps, N, (fun i => look [(0, ⟨laws_markEntryS_P0, laws_markEntryS_O0, [], [], laws_markEntryS_k0 N⟩)] i), retK laws_markEntryS_E Tryz.f31 [.bor (.row true T53), .val (.int .i64)] [(.int .i64)] (.pair (.int .i64) .unit)⟩ (Tryz.f31.body.getD .skip) 0 ⟨laws_markEntryS_P0, laws_markEntryS_O0, [], [], laws_markEntryS_k0 N⟩ (laws_markEntryS_k0 N n k) k x = laws_markEntryS_k0 N (n + 1) k x := by kernel_rfl
theorem laws_markEntryS_f_eq (N : Nat) (x0 : (List (ByteArray × ByteArray × Unit))) (x1 : Int) : funK laws_markEntryS_E Tryz.f31 [.bor (.row true T53), .val (.int .i64)] [(.int .i64)] (.pair (.int .i64) .unit) (fun i => look [(0, ⟨laws_markEntryS_P0, laws_markEntryS_O0, [], [], laws_markEntryS_k0 N⟩)] i) N (x0, x1, ()) = laws_markEntryS_k N x0 x1 := by kernel_rfl
theorem laws_markEntryS_o : Known Tryz.prog 31 ⟨[.bor (.row true T53), .val (.int .i64)], [(.int .i64)], (.pair (.int .i64) .unit), laws_markEntryS⟩ := known_of (tab := tyTab) (cons := laws_markEntryS_s) (segs := [(0, ⟨laws_markEntryS_P0, laws_markEntryS_O0, [], [], laws_markEntryS_k0 fuel⟩)]) (n := fuel) mixed_ok tab_ok (.cons laws_markText_o .nil) Tryz.func31 (by kernel_rfl) ⟨⟨fun _ _ => rfl, fun n k x => laws_markEntryS_r0 fuel n k x⟩, trivial⟩ (fun x => laws_markEntryS_f_eq fuel x.1 x.2.1)
def laws_markArchive_k (N : Nat) (x0 : (Bool × ((List ByteArray) × (List (Int × ByteArray × Unit)) × Unit) × (Int × Int × Int × Unit) × (List (ByteArray × ByteArray × Unit)) × Unit)) (x1 : Int) : Option (((Unit × ((List ByteArray) × (List (Int × ByteArray × Unit)) × Unit) × (Unit × Unit × Unit × Unit) × (List (ByteArray × ByteArray × Unit)) × Unit) × Unit) × (Int × Unit)) :=
  obind (laws_markDisk ((x0.2.1.1, x0.2.1.2.1, ()), x1, ())) fun v0 =>
  obind (laws_markEntryS (x0.2.2.2.1, v0.2.1, ())) fun v1 =>
  some ((((), (v0.1.1.1, v0.1.1.2.1, ()), ((), (), (), ()), v1.1.1, ()), ()), v1.2.1, ())
def laws_markArchive (x : ((Bool × ((List ByteArray) × (List (Int × ByteArray × Unit)) × Unit) × (Int × Int × Int × Unit) × (List (ByteArray × ByteArray × Unit)) × Unit) × Int × Unit)) : Option (((Unit × ((List ByteArray) × (List (Int × ByteArray × Unit)) × Unit) × (Unit × Unit × Unit × Unit) × (List (ByteArray × ByteArray × Unit)) × Unit) × Unit) × (Int × Unit)) := laws_markArchive_k fuel x.1 x.2.1
def laws_markArchive_s : List (Nat × Con) := [(30, ⟨[.bor T36, .val (.int .i64)], [(.int .i64)], (.pair (.int .i64) .unit), laws_markDisk⟩), (31, ⟨[.bor (.row true T53), .val (.int .i64)], [(.int .i64)], (.pair (.int .i64) .unit), laws_markEntryS⟩)]
def laws_markArchive_E : Env := ⟨fun j => (look tyTab j).getD .unit, fun j => look laws_markArchive_s j⟩
theorem laws_markArchive_f_eq (N : Nat) (x0 : (Bool × ((List ByteArray) × (List (Int × ByteArray × Unit)) × Unit) × (Int × Int × Int × Unit) × (List (ByteArray × ByteArray × Unit)) × Unit)) (x1 : Int) : funK laws_markArchive_E Tryz.f12 [.bor T40, .val (.int .i64)] [(.int .i64)] (.pair (.int .i64) .unit) (fun i => look [] i) N (x0, x1, ()) = laws_markArchive_k N x0 x1 := by kernel_rfl
theorem laws_markArchive_o : Known Tryz.prog 12 ⟨[.bor T40, .val (.int .i64)], [(.int .i64)], (.pair (.int .i64) .unit), laws_markArchive⟩ := known_of (tab := tyTab) (cons := laws_markArchive_s) (segs := []) (n := fuel) mixed_ok tab_ok (.cons laws_markDisk_o (.cons laws_markEntryS_o .nil)) Tryz.func12 (by kernel_rfl) trivial (fun x => laws_markArchive_f_eq fuel x.1 x.2.1)
def laws_heldStringS_P0 : Tpl := ⟨[(0, .one (.leaf (.row false .str))), (1, .one (.leaf (.int .i64))), (5, .one (.leaf (.int .i64)))], [], []⟩
def laws_heldStringS_O0 : Tpl := ⟨[(1, .one (.leaf (.int .i64)))], [], []⟩
def laws_heldStringS_k0 (N : Nat) : Nat → (((Int × Unit) × (Unit × Unit)) → Option (Unit × (Int × Unit))) → (((List ByteArray) × Int × Int × Unit) × (Unit × Unit)) → Option (Unit × (Int × Unit))
  | 0, _, _ => none
  | n + 1, k, x =>
    tb (ilt x.1.2.2.1 (((llen x.1.1) : Nat) : Int))
    (chk (0 ≤ x.1.2.2.1) (obind (at? x.1.1 (Int.toNat x.1.2.2.1)) fun v0 =>
        obind (laws_markText (x.1.2.1, ())) fun v1 =>
        tb (bnot (seq v0 v1.2.1))
        (some ((), (-1), ()))
        (laws_heldStringS_k0 N n k ((x.1.1, (wr .i64 (x.1.2.1 + 1)), (wr .i64 (x.1.2.2.1 + 1)), ()), (), ()))) (none))
    (k ((x.1.2.1, ()), (), ()))
def laws_heldStringS_k (N : Nat) (x0 : (List ByteArray)) (x1 : Int) : Option (Unit × (Int × Unit)) :=
  laws_heldStringS_k0 N N (fun v0 =>
    some ((), v0.1.1, ())) ((x0, x1, 0, ()), (), ())
def laws_heldStringS (x : ((List ByteArray) × Int × Unit)) : Option (Unit × (Int × Unit)) := laws_heldStringS_k fuel x.1 x.2.1
def laws_heldStringS_s : List (Nat × Con) := [(32, ⟨[.val (.int .i64)], [.str], (.pair .str .unit), laws_markText⟩)]
def laws_heldStringS_E : Env := ⟨fun j => (look tyTab j).getD .unit, fun j => look laws_heldStringS_s j⟩
theorem laws_heldStringS_r0 (N n : Nat) (k : laws_heldStringS_O0.ty.den → Option (Unit × (Int × Unit))) (x : laws_heldStringS_P0.ty.den) : roundK laws_heldStringS_E ⟨Tryz.f14.ntmps, N, (fun i => look [(0, ⟨laws_heldStringS_P0, laws_heldStringS_O0, [], [], laws_heldStringS_k0 N⟩)] i), retK laws_heldStringS_E Tryz.f14 [.val (.row false .str), .val (.int .i64)] [(.int .i64)] (.pair (.int .i64) .unit)⟩ (Tryz.f14.body.getD .skip) 0 ⟨laws_heldStringS_P0, laws_heldStringS_O0, [], [], laws_heldStringS_k0 N⟩ (laws_heldStringS_k0 N n k) k x = laws_heldStringS_k0 N (n + 1) k x := by kernel_rfl
theorem laws_heldStringS_f_eq (N : Nat) (x0 : (List ByteArray)) (x1 : Int) : funK laws_heldStringS_E Tryz.f14 [.val (.row false .str), .val (.int .i64)] [(.int .i64)] (.pair (.int .i64) .unit) (fun i => look [(0, ⟨laws_heldStringS_P0, laws_heldStringS_O0, [], [], laws_heldStringS_k0 N⟩)] i) N (x0, x1, ()) = laws_heldStringS_k N x0 x1 := by kernel_rfl
theorem laws_heldStringS_o : Known Tryz.prog 14 ⟨[.val (.row false .str), .val (.int .i64)], [(.int .i64)], (.pair (.int .i64) .unit), laws_heldStringS⟩ := known_of (tab := tyTab) (cons := laws_heldStringS_s) (segs := [(0, ⟨laws_heldStringS_P0, laws_heldStringS_O0, [], [], laws_heldStringS_k0 fuel⟩)]) (n := fuel) mixed_ok tab_ok (.cons laws_markText_o .nil) Tryz.func14 (by kernel_rfl) ⟨⟨fun _ _ => rfl, fun n k x => laws_heldStringS_r0 fuel n k x⟩, trivial⟩ (fun x => laws_heldStringS_f_eq fuel x.1 x.2.1)
def spec_l15Copy_k (N : Nat) (x0 : ((List ByteArray) × (List (Int × ByteArray × Unit)) × Unit)) : Option (Unit × (((List ByteArray) × (List (Int × ByteArray × Unit)) × Unit) × Unit)) :=
  chk ((plus 0 (llen x0.1)) ≤ 8796093022208) (chk ((plus 0 (llen x0.2.1)) ≤ 5864062014805) (some ((), ((lapp [] x0.1), (lapp [] x0.2.1), ()), ())) (none)) (none)
def spec_l15Copy (x : (((List ByteArray) × (List (Int × ByteArray × Unit)) × Unit) × Unit)) : Option (Unit × (((List ByteArray) × (List (Int × ByteArray × Unit)) × Unit) × Unit)) := spec_l15Copy_k fuel x.1
def spec_l15Copy_s : List (Nat × Con) := []
def spec_l15Copy_E : Env := ⟨fun j => (look tyTab j).getD .unit, fun j => look spec_l15Copy_s j⟩
theorem spec_l15Copy_f_eq (N : Nat) (x0 : ((List ByteArray) × (List (Int × ByteArray × Unit)) × Unit)) : funK spec_l15Copy_E Tryz.f34 [.val S36] [T36] (.pair T36 .unit) (fun i => look [] i) N (x0, ()) = spec_l15Copy_k N x0 := by kernel_rfl
theorem spec_l15Copy_o : Known Tryz.prog 34 ⟨[.val S36], [T36], (.pair T36 .unit), spec_l15Copy⟩ := known_of (tab := tyTab) (cons := spec_l15Copy_s) (segs := []) (n := fuel) mixed_ok tab_ok .nil Tryz.func34 (by kernel_rfl) trivial (fun x => spec_l15Copy_f_eq fuel x.1)
def spec_l18Copy_k (N : Nat) (x0 : (Bool × ((List ByteArray) × (List (Int × ByteArray × Unit)) × Unit) × (Int × Int × Int × Unit) × (List (ByteArray × ByteArray × Unit)) × Unit)) : Option (Unit × ((Bool × ((List ByteArray) × (List (Int × ByteArray × Unit)) × Unit) × (Int × Int × Int × Unit) × (List (ByteArray × ByteArray × Unit)) × Unit) × Unit)) :=
  obind (spec_l15Copy ((x0.2.1.1, x0.2.1.2.1, ()), ())) fun v0 =>
  chk ((plus 0 (llen x0.2.2.2.1)) ≤ 4398046511104) (some ((), (x0.1, (v0.2.1.1, v0.2.1.2.1, ()), (x0.2.2.1.1, x0.2.2.1.2.1, x0.2.2.1.2.2.1, ()), (lapp [] x0.2.2.2.1), ()), ())) (none)
def spec_l18Copy (x : ((Bool × ((List ByteArray) × (List (Int × ByteArray × Unit)) × Unit) × (Int × Int × Int × Unit) × (List (ByteArray × ByteArray × Unit)) × Unit) × Unit)) : Option (Unit × ((Bool × ((List ByteArray) × (List (Int × ByteArray × Unit)) × Unit) × (Int × Int × Int × Unit) × (List (ByteArray × ByteArray × Unit)) × Unit) × Unit)) := spec_l18Copy_k fuel x.1
def spec_l18Copy_s : List (Nat × Con) := [(34, ⟨[.val S36], [T36], (.pair T36 .unit), spec_l15Copy⟩)]
def spec_l18Copy_E : Env := ⟨fun j => (look tyTab j).getD .unit, fun j => look spec_l18Copy_s j⟩
theorem spec_l18Copy_f_eq (N : Nat) (x0 : (Bool × ((List ByteArray) × (List (Int × ByteArray × Unit)) × Unit) × (Int × Int × Int × Unit) × (List (ByteArray × ByteArray × Unit)) × Unit)) : funK spec_l18Copy_E Tryz.f33 [.val S40] [T40] (.pair T40 .unit) (fun i => look [] i) N (x0, ()) = spec_l18Copy_k N x0 := by kernel_rfl
theorem spec_l18Copy_o : Known Tryz.prog 33 ⟨[.val S40], [T40], (.pair T40 .unit), spec_l18Copy⟩ := known_of (tab := tyTab) (cons := spec_l18Copy_s) (segs := []) (n := fuel) mixed_ok tab_ok (.cons spec_l15Copy_o .nil) Tryz.func33 (by kernel_rfl) trivial (fun x => spec_l18Copy_f_eq fuel x.1)
def spec_ArchiveCrash_k (N : Nat) (x0 : (Bool × ((List ByteArray) × (List (Int × ByteArray × Unit)) × Unit) × (Int × Int × Int × Unit) × (List (ByteArray × ByteArray × Unit)) × Unit)) : Option (Unit × ((Bool × ((List ByteArray) × (List (Int × ByteArray × Unit)) × Unit) × (Int × Int × Int × Unit) × (List (ByteArray × ByteArray × Unit)) × Unit) × Int × Unit)) :=
  obind (spec_ArchiveOk ((x0.1, (x0.2.1.1, x0.2.1.2.1, ()), (x0.2.2.1.1, x0.2.2.1.2.1, x0.2.2.1.2.2.1, ()), x0.2.2.2.1, ()), ())) fun v0 =>
  tb (bnot v0.2.1)
  (some ((), (false, ([], [], ()), (0, 0, 0, ()), [], ()), 1, ()))
  (tb (bnot x0.1)
    (obind (spec_l18Copy ((x0.1, (x0.2.1.1, x0.2.1.2.1, ()), (x0.2.2.1.1, x0.2.2.1.2.1, x0.2.2.1.2.2.1, ()), x0.2.2.2.1, ()), ())) fun v1 =>
      some ((), (v1.2.1.1, (v1.2.1.2.1.1, v1.2.1.2.1.2.1, ()), (v1.2.1.2.2.1.1, v1.2.1.2.2.1.2.1, v1.2.1.2.2.1.2.2.1, ()), v1.2.1.2.2.2.1, ()), 2, ()))
    (obind (spec_l15Copy ((x0.2.1.1, x0.2.1.2.1, ()), ())) fun v2 =>
      some ((), (false, (v2.2.1.1, v2.2.1.2.1, ()), (0, 0, 0, ()), [], ()), 0, ())))
def spec_ArchiveCrash (x : ((Bool × ((List ByteArray) × (List (Int × ByteArray × Unit)) × Unit) × (Int × Int × Int × Unit) × (List (ByteArray × ByteArray × Unit)) × Unit) × Unit)) : Option (Unit × ((Bool × ((List ByteArray) × (List (Int × ByteArray × Unit)) × Unit) × (Int × Int × Int × Unit) × (List (ByteArray × ByteArray × Unit)) × Unit) × Int × Unit)) := spec_ArchiveCrash_k fuel x.1
def spec_ArchiveCrash_s : List (Nat × Con) := [(22, ⟨[.val S40], [.bool], (.pair .bool .unit), spec_ArchiveOk⟩), (33, ⟨[.val S40], [T40], (.pair T40 .unit), spec_l18Copy⟩), (34, ⟨[.val S36], [T36], (.pair T36 .unit), spec_l15Copy⟩)]
def spec_ArchiveCrash_E : Env := ⟨fun j => (look tyTab j).getD .unit, fun j => look spec_ArchiveCrash_s j⟩
theorem spec_ArchiveCrash_f_eq (N : Nat) (x0 : (Bool × ((List ByteArray) × (List (Int × ByteArray × Unit)) × Unit) × (Int × Int × Int × Unit) × (List (ByteArray × ByteArray × Unit)) × Unit)) : funK spec_ArchiveCrash_E Tryz.f15 [.val S40] [T40, (.int .i64)] (.pair T40 (.pair (.int .i64) .unit)) (fun i => look [] i) N (x0, ()) = spec_ArchiveCrash_k N x0 := by kernel_rfl
theorem spec_ArchiveCrash_o : Known Tryz.prog 15 ⟨[.val S40], [T40, (.int .i64)], (.pair T40 (.pair (.int .i64) .unit)), spec_ArchiveCrash⟩ := known_of (tab := tyTab) (cons := spec_ArchiveCrash_s) (segs := []) (n := fuel) mixed_ok tab_ok (.cons spec_ArchiveOk_o (.cons spec_l18Copy_o (.cons spec_l15Copy_o .nil))) Tryz.func15 (by kernel_rfl) trivial (fun x => spec_ArchiveCrash_f_eq fuel x.1)
def impl_copyDisk_k (N : Nat) (x0 : ((List ByteArray) × (List (Int × ByteArray × Unit)) × Unit)) : Option (Unit × (((List ByteArray) × (List (Int × ByteArray × Unit)) × Unit) × Unit)) :=
  obind (slices_Clone_string (x0.1, ())) fun v0 =>
  obind (slices_Clone_Put (x0.2.1, ())) fun v1 =>
  some ((), (v0.2.1, v1.2.1, ()), ())
def impl_copyDisk (x : (((List ByteArray) × (List (Int × ByteArray × Unit)) × Unit) × Unit)) : Option (Unit × (((List ByteArray) × (List (Int × ByteArray × Unit)) × Unit) × Unit)) := impl_copyDisk_k fuel x.1
def impl_copyDisk_s : List (Nat × Con) := [(61, ⟨[.val (.row false .str)], [(.row true .str)], (.pair (.row true .str) .unit), slices_Clone_string⟩), (62, ⟨[.val (.row false S90)], [(.row true T90)], (.pair (.row true T90) .unit), slices_Clone_Put⟩)]
def impl_copyDisk_E : Env := ⟨fun j => (look tyTab j).getD .unit, fun j => look impl_copyDisk_s j⟩
theorem impl_copyDisk_f_eq (N : Nat) (x0 : ((List ByteArray) × (List (Int × ByteArray × Unit)) × Unit)) : funK impl_copyDisk_E Tryz.f36 [.val S36] [T36] (.pair T36 .unit) (fun i => look [] i) N (x0, ()) = impl_copyDisk_k N x0 := by kernel_rfl
theorem impl_copyDisk_o : Known Tryz.prog 36 ⟨[.val S36], [T36], (.pair T36 .unit), impl_copyDisk⟩ := known_of (tab := tyTab) (cons := impl_copyDisk_s) (segs := []) (n := fuel) mixed_ok tab_ok (.cons slices_Clone_string_o (.cons slices_Clone_Put_o .nil)) Tryz.func36 (by kernel_rfl) trivial (fun x => impl_copyDisk_f_eq fuel x.1)
def impl_copyArchive_k (N : Nat) (x0 : (Bool × ((List ByteArray) × (List (Int × ByteArray × Unit)) × Unit) × (Int × Int × Int × Unit) × (List (ByteArray × ByteArray × Unit)) × Unit)) : Option (Unit × ((Bool × ((List ByteArray) × (List (Int × ByteArray × Unit)) × Unit) × (Int × Int × Int × Unit) × (List (ByteArray × ByteArray × Unit)) × Unit) × Unit)) :=
  obind (impl_copyDisk ((x0.2.1.1, x0.2.1.2.1, ()), ())) fun v0 =>
  obind (slices_Clone_Entry (x0.2.2.2.1, ())) fun v1 =>
  some ((), (x0.1, (v0.2.1.1, v0.2.1.2.1, ()), (x0.2.2.1.1, x0.2.2.1.2.1, x0.2.2.1.2.2.1, ()), v1.2.1, ()), ())
def impl_copyArchive (x : ((Bool × ((List ByteArray) × (List (Int × ByteArray × Unit)) × Unit) × (Int × Int × Int × Unit) × (List (ByteArray × ByteArray × Unit)) × Unit) × Unit)) : Option (Unit × ((Bool × ((List ByteArray) × (List (Int × ByteArray × Unit)) × Unit) × (Int × Int × Int × Unit) × (List (ByteArray × ByteArray × Unit)) × Unit) × Unit)) := impl_copyArchive_k fuel x.1
def impl_copyArchive_s : List (Nat × Con) := [(36, ⟨[.val S36], [T36], (.pair T36 .unit), impl_copyDisk⟩), (71, ⟨[.val (.row false S53)], [(.row true T53)], (.pair (.row true T53) .unit), slices_Clone_Entry⟩)]
def impl_copyArchive_E : Env := ⟨fun j => (look tyTab j).getD .unit, fun j => look impl_copyArchive_s j⟩
theorem impl_copyArchive_f_eq (N : Nat) (x0 : (Bool × ((List ByteArray) × (List (Int × ByteArray × Unit)) × Unit) × (Int × Int × Int × Unit) × (List (ByteArray × ByteArray × Unit)) × Unit)) : funK impl_copyArchive_E Tryz.f45 [.val S40] [T40] (.pair T40 .unit) (fun i => look [] i) N (x0, ()) = impl_copyArchive_k N x0 := by kernel_rfl
theorem impl_copyArchive_o : Known Tryz.prog 45 ⟨[.val S40], [T40], (.pair T40 .unit), impl_copyArchive⟩ := known_of (tab := tyTab) (cons := impl_copyArchive_s) (segs := []) (n := fuel) mixed_ok tab_ok (.cons impl_copyDisk_o (.cons slices_Clone_Entry_o .nil)) Tryz.func45 (by kernel_rfl) trivial (fun x => impl_copyArchive_f_eq fuel x.1)
def impl_refused_k (N : Nat) (x0 : (Bool × ((List ByteArray) × (List (Int × ByteArray × Unit)) × Unit) × (Int × Int × Int × Unit) × (List (ByteArray × ByteArray × Unit)) × Unit)) (x1 : Int) : Option (Unit × ((Bool × ((List ByteArray) × (List (Int × ByteArray × Unit)) × Unit) × (Int × Int × Int × Unit) × (List (ByteArray × ByteArray × Unit)) × Unit) × Int × Unit)) :=
  tb (ieq x1 1)
  (some ((), (false, ([], [], ()), (0, 0, 0, ()), [], ()), x1, ()))
  (obind (impl_copyArchive ((x0.1, (x0.2.1.1, x0.2.1.2.1, ()), (x0.2.2.1.1, x0.2.2.1.2.1, x0.2.2.1.2.2.1, ()), x0.2.2.2.1, ()), ())) fun v0 =>
    some ((), (v0.2.1.1, (v0.2.1.2.1.1, v0.2.1.2.1.2.1, ()), (v0.2.1.2.2.1.1, v0.2.1.2.2.1.2.1, v0.2.1.2.2.1.2.2.1, ()), v0.2.1.2.2.2.1, ()), x1, ()))
def impl_refused (x : ((Bool × ((List ByteArray) × (List (Int × ByteArray × Unit)) × Unit) × (Int × Int × Int × Unit) × (List (ByteArray × ByteArray × Unit)) × Unit) × Int × Unit)) : Option (Unit × ((Bool × ((List ByteArray) × (List (Int × ByteArray × Unit)) × Unit) × (Int × Int × Int × Unit) × (List (ByteArray × ByteArray × Unit)) × Unit) × Int × Unit)) := impl_refused_k fuel x.1 x.2.1
def impl_refused_s : List (Nat × Con) := [(45, ⟨[.val S40], [T40], (.pair T40 .unit), impl_copyArchive⟩)]
def impl_refused_E : Env := ⟨fun j => (look tyTab j).getD .unit, fun j => look impl_refused_s j⟩
theorem impl_refused_f_eq (N : Nat) (x0 : (Bool × ((List ByteArray) × (List (Int × ByteArray × Unit)) × Unit) × (Int × Int × Int × Unit) × (List (ByteArray × ByteArray × Unit)) × Unit)) (x1 : Int) : funK impl_refused_E Tryz.f35 [.val S40, .val (.int .i64)] [T40, (.int .i64)] (.pair T40 (.pair (.int .i64) .unit)) (fun i => look [] i) N (x0, x1, ()) = impl_refused_k N x0 x1 := by kernel_rfl
theorem impl_refused_o : Known Tryz.prog 35 ⟨[.val S40, .val (.int .i64)], [T40, (.int .i64)], (.pair T40 (.pair (.int .i64) .unit)), impl_refused⟩ := known_of (tab := tyTab) (cons := impl_refused_s) (segs := []) (n := fuel) mixed_ok tab_ok (.cons impl_copyArchive_o .nil) Tryz.func35 (by kernel_rfl) trivial (fun x => impl_refused_f_eq fuel x.1 x.2.1)
def impl_ArchiveCrash_k (N : Nat) (x0 : (Bool × ((List ByteArray) × (List (Int × ByteArray × Unit)) × Unit) × (Int × Int × Int × Unit) × (List (ByteArray × ByteArray × Unit)) × Unit)) : Option (Unit × ((Bool × ((List ByteArray) × (List (Int × ByteArray × Unit)) × Unit) × (Int × Int × Int × Unit) × (List (ByteArray × ByteArray × Unit)) × Unit) × Int × Unit)) :=
  obind (impl_upCode ((x0.1, (x0.2.1.1, x0.2.1.2.1, ()), (x0.2.2.1.1, x0.2.2.1.2.1, x0.2.2.1.2.2.1, ()), x0.2.2.2.1, ()), ())) fun v0 =>
  tb (bnot (ieq v0.2.1 0))
  (obind (impl_refused ((x0.1, (x0.2.1.1, x0.2.1.2.1, ()), (x0.2.2.1.1, x0.2.2.1.2.1, x0.2.2.1.2.2.1, ()), x0.2.2.2.1, ()), v0.2.1, ())) fun v1 =>
    some ((), (v1.2.1.1, (v1.2.1.2.1.1, v1.2.1.2.1.2.1, ()), (v1.2.1.2.2.1.1, v1.2.1.2.2.1.2.1, v1.2.1.2.2.1.2.2.1, ()), v1.2.1.2.2.2.1, ()), v1.2.2.1, ()))
  (obind (impl_copyDisk ((x0.2.1.1, x0.2.1.2.1, ()), ())) fun v2 =>
    some ((), (false, (v2.2.1.1, v2.2.1.2.1, ()), (0, 0, 0, ()), [], ()), 0, ()))
def impl_ArchiveCrash (x : ((Bool × ((List ByteArray) × (List (Int × ByteArray × Unit)) × Unit) × (Int × Int × Int × Unit) × (List (ByteArray × ByteArray × Unit)) × Unit) × Unit)) : Option (Unit × ((Bool × ((List ByteArray) × (List (Int × ByteArray × Unit)) × Unit) × (Int × Int × Int × Unit) × (List (ByteArray × ByteArray × Unit)) × Unit) × Int × Unit)) := impl_ArchiveCrash_k fuel x.1
def impl_ArchiveCrash_s : List (Nat × Con) := [(26, ⟨[.val S40], [(.int .i64)], (.pair (.int .i64) .unit), impl_upCode⟩), (35, ⟨[.val S40, .val (.int .i64)], [T40, (.int .i64)], (.pair T40 (.pair (.int .i64) .unit)), impl_refused⟩), (36, ⟨[.val S36], [T36], (.pair T36 .unit), impl_copyDisk⟩)]
def impl_ArchiveCrash_E : Env := ⟨fun j => (look tyTab j).getD .unit, fun j => look impl_ArchiveCrash_s j⟩
theorem impl_ArchiveCrash_f_eq (N : Nat) (x0 : (Bool × ((List ByteArray) × (List (Int × ByteArray × Unit)) × Unit) × (Int × Int × Int × Unit) × (List (ByteArray × ByteArray × Unit)) × Unit)) : funK impl_ArchiveCrash_E Tryz.f16 [.val S40] [T40, (.int .i64)] (.pair T40 (.pair (.int .i64) .unit)) (fun i => look [] i) N (x0, ()) = impl_ArchiveCrash_k N x0 := by kernel_rfl
theorem impl_ArchiveCrash_o : Known Tryz.prog 16 ⟨[.val S40], [T40, (.int .i64)], (.pair T40 (.pair (.int .i64) .unit)), impl_ArchiveCrash⟩ := known_of (tab := tyTab) (cons := impl_ArchiveCrash_s) (segs := []) (n := fuel) mixed_ok tab_ok (.cons impl_upCode_o (.cons impl_refused_o (.cons impl_copyDisk_o .nil))) Tryz.func16 (by kernel_rfl) trivial (fun x => impl_ArchiveCrash_f_eq fuel x.1)
def laws_heldPutS_P0 : Tpl := ⟨[(0, .one (.leaf (.row false (.pair (.int .i64) (.pair .str .unit))))), (1, .one (.leaf (.int .i64))), (5, .one (.leaf (.int .i64)))], [], []⟩
def laws_heldPutS_O0 : Tpl := ⟨[(1, .one (.leaf (.int .i64)))], [], []⟩
def laws_heldPutS_k0 (N : Nat) : Nat → (((Int × Unit) × (Unit × Unit)) → Option (Unit × (Int × Unit))) → (((List (Int × (ByteArray × Unit))) × Int × Int × Unit) × (Unit × Unit)) → Option (Unit × (Int × Unit))
  | 0, _, _ => none
  | n + 1, k, x =>
    tb (ilt x.1.2.2.1 (((llen x.1.1) : Nat) : Int))
    (chk (0 ≤ x.1.2.2.1) (obind (at? x.1.1 (Int.toNat x.1.2.2.1)) fun v0 =>
        tb (bnot (ieq v0.1 x.1.2.1))
        (some ((), (-1), ()))
        (chk (0 ≤ x.1.2.2.1) (obind (at? x.1.1 (Int.toNat x.1.2.2.1)) fun v1 =>
            obind (laws_markText ((wr .i64 (x.1.2.1 + 1)), ())) fun v2 =>
            tb (bnot (seq v1.2.1 v2.2.1))
            (some ((), (-1), ()))
            (laws_heldPutS_k0 N n k ((x.1.1, (wr .i64 ((wr .i64 (x.1.2.1 + 1)) + 1)), (wr .i64 (x.1.2.2.1 + 1)), ()), (), ()))) (none))) (none))
    (k ((x.1.2.1, ()), (), ()))
def laws_heldPutS_k (N : Nat) (x0 : (List (Int × ByteArray × Unit))) (x1 : Int) : Option (Unit × (Int × Unit)) :=
  laws_heldPutS_k0 N N (fun v0 =>
    some ((), v0.1.1, ())) ((x0, x1, 0, ()), (), ())
def laws_heldPutS (x : ((List (Int × ByteArray × Unit)) × Int × Unit)) : Option (Unit × (Int × Unit)) := laws_heldPutS_k fuel x.1 x.2.1
def laws_heldPutS_s : List (Nat × Con) := [(32, ⟨[.val (.int .i64)], [.str], (.pair .str .unit), laws_markText⟩)]
def laws_heldPutS_E : Env := ⟨fun j => (look tyTab j).getD .unit, fun j => look laws_heldPutS_s j⟩
theorem laws_heldPutS_r0 (N n : Nat) (k : laws_heldPutS_O0.ty.den → Option (Unit × (Int × Unit))) (x : laws_heldPutS_P0.ty.den) : roundK laws_heldPutS_E ⟨Tryz.f63.ntmps, N, (fun i => look [(0, ⟨laws_heldPutS_P0, laws_heldPutS_O0, [], [], laws_heldPutS_k0 N⟩)] i), retK laws_heldPutS_E Tryz.f63 [.val (.row false S90), .val (.int .i64)] [(.int .i64)] (.pair (.int .i64) .unit)⟩ (Tryz.f63.body.getD .skip) 0 ⟨laws_heldPutS_P0, laws_heldPutS_O0, [], [], laws_heldPutS_k0 N⟩ (laws_heldPutS_k0 N n k) k x = laws_heldPutS_k0 N (n + 1) k x := by kernel_rfl
theorem laws_heldPutS_f_eq (N : Nat) (x0 : (List (Int × ByteArray × Unit))) (x1 : Int) : funK laws_heldPutS_E Tryz.f63 [.val (.row false S90), .val (.int .i64)] [(.int .i64)] (.pair (.int .i64) .unit) (fun i => look [(0, ⟨laws_heldPutS_P0, laws_heldPutS_O0, [], [], laws_heldPutS_k0 N⟩)] i) N (x0, x1, ()) = laws_heldPutS_k N x0 x1 := by kernel_rfl
theorem laws_heldPutS_o : Known Tryz.prog 63 ⟨[.val (.row false S90), .val (.int .i64)], [(.int .i64)], (.pair (.int .i64) .unit), laws_heldPutS⟩ := known_of (tab := tyTab) (cons := laws_heldPutS_s) (segs := [(0, ⟨laws_heldPutS_P0, laws_heldPutS_O0, [], [], laws_heldPutS_k0 fuel⟩)]) (n := fuel) mixed_ok tab_ok (.cons laws_markText_o .nil) Tryz.func63 (by kernel_rfl) ⟨⟨fun _ _ => rfl, fun n k x => laws_heldPutS_r0 fuel n k x⟩, trivial⟩ (fun x => laws_heldPutS_f_eq fuel x.1 x.2.1)
def laws_heldDisk_k (N : Nat) (x0 : ((List ByteArray) × (List (Int × ByteArray × Unit)) × Unit)) (x1 : Int) : Option (Unit × (Int × Unit)) :=
  obind (laws_heldStringS (x0.1, x1, ())) fun v0 =>
  tb (ilt v0.2.1 0)
  (some ((), (-1), ()))
  (obind (laws_heldPutS (x0.2.1, v0.2.1, ())) fun v1 =>
    tb (ilt v1.2.1 0)
    (some ((), (-1), ()))
    (some ((), v1.2.1, ())))
def laws_heldDisk (x : (((List ByteArray) × (List (Int × ByteArray × Unit)) × Unit) × Int × Unit)) : Option (Unit × (Int × Unit)) := laws_heldDisk_k fuel x.1 x.2.1
def laws_heldDisk_s : List (Nat × Con) := [(14, ⟨[.val (.row false .str), .val (.int .i64)], [(.int .i64)], (.pair (.int .i64) .unit), laws_heldStringS⟩), (63, ⟨[.val (.row false S90), .val (.int .i64)], [(.int .i64)], (.pair (.int .i64) .unit), laws_heldPutS⟩)]
def laws_heldDisk_E : Env := ⟨fun j => (look tyTab j).getD .unit, fun j => look laws_heldDisk_s j⟩
theorem laws_heldDisk_f_eq (N : Nat) (x0 : ((List ByteArray) × (List (Int × ByteArray × Unit)) × Unit)) (x1 : Int) : funK laws_heldDisk_E Tryz.f37 [.val S36, .val (.int .i64)] [(.int .i64)] (.pair (.int .i64) .unit) (fun i => look [] i) N (x0, x1, ()) = laws_heldDisk_k N x0 x1 := by kernel_rfl
theorem laws_heldDisk_o : Known Tryz.prog 37 ⟨[.val S36, .val (.int .i64)], [(.int .i64)], (.pair (.int .i64) .unit), laws_heldDisk⟩ := known_of (tab := tyTab) (cons := laws_heldDisk_s) (segs := []) (n := fuel) mixed_ok tab_ok (.cons laws_heldStringS_o (.cons laws_heldPutS_o .nil)) Tryz.func37 (by kernel_rfl) trivial (fun x => laws_heldDisk_f_eq fuel x.1 x.2.1)
def laws_heldEntryS_P0 : Tpl := ⟨[(0, .one (.leaf (.row false (.pair .str (.pair .str .unit))))), (1, .one (.leaf (.int .i64))), (5, .one (.leaf (.int .i64)))], [], []⟩
def laws_heldEntryS_O0 : Tpl := ⟨[(1, .one (.leaf (.int .i64)))], [], []⟩
def laws_heldEntryS_k0 (N : Nat) : Nat → (((Int × Unit) × (Unit × Unit)) → Option (Unit × (Int × Unit))) → (((List (ByteArray × (ByteArray × Unit))) × Int × Int × Unit) × (Unit × Unit)) → Option (Unit × (Int × Unit))
  | 0, _, _ => none
  | n + 1, k, x =>
    tb (ilt x.1.2.2.1 (((llen x.1.1) : Nat) : Int))
    (chk (0 ≤ x.1.2.2.1) (obind (at? x.1.1 (Int.toNat x.1.2.2.1)) fun v0 =>
        obind (laws_markText (x.1.2.1, ())) fun v1 =>
        tb (bnot (seq v0.1 v1.2.1))
        (some ((), (-1), ()))
        (chk (0 ≤ x.1.2.2.1) (obind (at? x.1.1 (Int.toNat x.1.2.2.1)) fun v2 =>
            obind (laws_markText ((wr .i64 (x.1.2.1 + 1)), ())) fun v3 =>
            tb (bnot (seq v2.2.1 v3.2.1))
            (some ((), (-1), ()))
            (laws_heldEntryS_k0 N n k ((x.1.1, (wr .i64 ((wr .i64 (x.1.2.1 + 1)) + 1)), (wr .i64 (x.1.2.2.1 + 1)), ()), (), ()))) (none))) (none))
    (k ((x.1.2.1, ()), (), ()))
def laws_heldEntryS_k (N : Nat) (x0 : (List (ByteArray × ByteArray × Unit))) (x1 : Int) : Option (Unit × (Int × Unit)) :=
  laws_heldEntryS_k0 N N (fun v0 =>
    some ((), v0.1.1, ())) ((x0, x1, 0, ()), (), ())
def laws_heldEntryS (x : ((List (ByteArray × ByteArray × Unit)) × Int × Unit)) : Option (Unit × (Int × Unit)) := laws_heldEntryS_k fuel x.1 x.2.1
def laws_heldEntryS_s : List (Nat × Con) := [(32, ⟨[.val (.int .i64)], [.str], (.pair .str .unit), laws_markText⟩)]
def laws_heldEntryS_E : Env := ⟨fun j => (look tyTab j).getD .unit, fun j => look laws_heldEntryS_s j⟩
theorem laws_heldEntryS_r0 (N n : Nat) (k : laws_heldEntryS_O0.ty.den → Option (Unit × (Int × Unit))) (x : laws_heldEntryS_P0.ty.den) : roundK laws_heldEntryS_E ⟨Tryz.f38.ntmps, N, (fun i => look [(0, ⟨laws_heldEntryS_P0, laws_heldEntryS_O0, [], [], laws_heldEntryS_k0 N⟩)] i), retK laws_heldEntryS_E Tryz.f38 [.val (.row false S53), .val (.int .i64)] [(.int .i64)] (.pair (.int .i64) .unit)⟩ (Tryz.f38.body.getD .skip) 0 ⟨laws_heldEntryS_P0, laws_heldEntryS_O0, [], [], laws_heldEntryS_k0 N⟩ (laws_heldEntryS_k0 N n k) k x = laws_heldEntryS_k0 N (n + 1) k x := by kernel_rfl
theorem laws_heldEntryS_f_eq (N : Nat) (x0 : (List (ByteArray × ByteArray × Unit))) (x1 : Int) : funK laws_heldEntryS_E Tryz.f38 [.val (.row false S53), .val (.int .i64)] [(.int .i64)] (.pair (.int .i64) .unit) (fun i => look [(0, ⟨laws_heldEntryS_P0, laws_heldEntryS_O0, [], [], laws_heldEntryS_k0 N⟩)] i) N (x0, x1, ()) = laws_heldEntryS_k N x0 x1 := by kernel_rfl
theorem laws_heldEntryS_o : Known Tryz.prog 38 ⟨[.val (.row false S53), .val (.int .i64)], [(.int .i64)], (.pair (.int .i64) .unit), laws_heldEntryS⟩ := known_of (tab := tyTab) (cons := laws_heldEntryS_s) (segs := [(0, ⟨laws_heldEntryS_P0, laws_heldEntryS_O0, [], [], laws_heldEntryS_k0 fuel⟩)]) (n := fuel) mixed_ok tab_ok (.cons laws_markText_o .nil) Tryz.func38 (by kernel_rfl) ⟨⟨fun _ _ => rfl, fun n k x => laws_heldEntryS_r0 fuel n k x⟩, trivial⟩ (fun x => laws_heldEntryS_f_eq fuel x.1 x.2.1)
def laws_heldArchive_k (N : Nat) (x0 : (Bool × ((List ByteArray) × (List (Int × ByteArray × Unit)) × Unit) × (Int × Int × Int × Unit) × (List (ByteArray × ByteArray × Unit)) × Unit)) (x1 : Int) : Option (Unit × (Int × Unit)) :=
  obind (laws_heldDisk ((x0.2.1.1, x0.2.1.2.1, ()), x1, ())) fun v0 =>
  tb (ilt v0.2.1 0)
  (some ((), (-1), ()))
  (obind (laws_heldEntryS (x0.2.2.2.1, v0.2.1, ())) fun v1 =>
    tb (ilt v1.2.1 0)
    (some ((), (-1), ()))
    (some ((), v1.2.1, ())))
def laws_heldArchive (x : ((Bool × ((List ByteArray) × (List (Int × ByteArray × Unit)) × Unit) × (Int × Int × Int × Unit) × (List (ByteArray × ByteArray × Unit)) × Unit) × Int × Unit)) : Option (Unit × (Int × Unit)) := laws_heldArchive_k fuel x.1 x.2.1
def laws_heldArchive_s : List (Nat × Con) := [(37, ⟨[.val S36, .val (.int .i64)], [(.int .i64)], (.pair (.int .i64) .unit), laws_heldDisk⟩), (38, ⟨[.val (.row false S53), .val (.int .i64)], [(.int .i64)], (.pair (.int .i64) .unit), laws_heldEntryS⟩)]
def laws_heldArchive_E : Env := ⟨fun j => (look tyTab j).getD .unit, fun j => look laws_heldArchive_s j⟩
theorem laws_heldArchive_f_eq (N : Nat) (x0 : (Bool × ((List ByteArray) × (List (Int × ByteArray × Unit)) × Unit) × (Int × Int × Int × Unit) × (List (ByteArray × ByteArray × Unit)) × Unit)) (x1 : Int) : funK laws_heldArchive_E Tryz.f17 [.val S40, .val (.int .i64)] [(.int .i64)] (.pair (.int .i64) .unit) (fun i => look [] i) N (x0, x1, ()) = laws_heldArchive_k N x0 x1 := by kernel_rfl
theorem laws_heldArchive_o : Known Tryz.prog 17 ⟨[.val S40, .val (.int .i64)], [(.int .i64)], (.pair (.int .i64) .unit), laws_heldArchive⟩ := known_of (tab := tyTab) (cons := laws_heldArchive_s) (segs := []) (n := fuel) mixed_ok tab_ok (.cons laws_heldDisk_o (.cons laws_heldEntryS_o .nil)) Tryz.func17 (by kernel_rfl) trivial (fun x => laws_heldArchive_f_eq fuel x.1 x.2.1)
def laws_FnExactArchiveCrash_k (N : Nat) (x0 : (Bool × ((List ByteArray) × (List (Int × ByteArray × Unit)) × Unit) × (Int × Int × Int × Unit) × (List (ByteArray × ByteArray × Unit)) × Unit)) : Option (Unit × (Bool × Unit)) :=
  obind (laws_szArchive ((x0.1, (x0.2.1.1, x0.2.1.2.1, ()), (x0.2.2.1.1, x0.2.2.1.2.1, x0.2.2.1.2.2.1, ()), x0.2.2.2.1, ()), 1048576, ())) fun v0 =>
  tb (ilt v0.2.1 0)
  (some ((), true, ()))
  (obind (laws_toArchive ((x0.1, (x0.2.1.1, x0.2.1.2.1, ()), (x0.2.2.1.1, x0.2.2.1.2.1, x0.2.2.1.2.2.1, ()), x0.2.2.2.1, ()), ())) fun v1 =>
    obind (spec_ArchiveCrash ((v1.2.1.1, (v1.2.1.2.1.1, v1.2.1.2.1.2.1, ()), (v1.2.1.2.2.1.1, v1.2.1.2.2.1.2.1, v1.2.1.2.2.1.2.2.1, ()), v1.2.1.2.2.2.1, ()), ())) fun v2 =>
    obind (laws_toArchive ((x0.1, (x0.2.1.1, x0.2.1.2.1, ()), (x0.2.2.1.1, x0.2.2.1.2.1, x0.2.2.1.2.2.1, ()), x0.2.2.2.1, ()), ())) fun v3 =>
    obind (impl_ArchiveCrash ((v3.2.1.1, (v3.2.1.2.1.1, v3.2.1.2.1.2.1, ()), (v3.2.1.2.2.1.1, v3.2.1.2.2.1.2.1, v3.2.1.2.2.1.2.2.1, ()), v3.2.1.2.2.2.1, ()), ())) fun v4 =>
    obind (laws_eqArchive ((v4.2.1.1, (v4.2.1.2.1.1, v4.2.1.2.1.2.1, ()), (v4.2.1.2.2.1.1, v4.2.1.2.2.1.2.1, v4.2.1.2.2.1.2.2.1, ()), v4.2.1.2.2.2.1, ()), (v2.2.1.1, (v2.2.1.2.1.1, v2.2.1.2.1.2.1, ()), (v2.2.1.2.2.1.1, v2.2.1.2.2.1.2.1, v2.2.1.2.2.1.2.2.1, ()), v2.2.1.2.2.2.1, ()), ())) fun v5 =>
    tb (bnot v5.2.1)
    (some ((), false, ()))
    (tb (bnot (ieq v4.2.2.1 v2.2.2.1))
      (some ((), false, ()))
      (obind (laws_toArchive ((x0.1, (x0.2.1.1, x0.2.1.2.1, ()), (x0.2.2.1.1, x0.2.2.1.2.1, x0.2.2.1.2.2.1, ()), x0.2.2.2.1, ()), ())) fun v6 =>
        obind (laws_eqArchive ((v3.2.1.1, (v3.2.1.2.1.1, v3.2.1.2.1.2.1, ()), (v3.2.1.2.2.1.1, v3.2.1.2.2.1.2.1, v3.2.1.2.2.1.2.2.1, ()), v3.2.1.2.2.2.1, ()), (v6.2.1.1, (v6.2.1.2.1.1, v6.2.1.2.1.2.1, ()), (v6.2.1.2.2.1.1, v6.2.1.2.2.1.2.1, v6.2.1.2.2.1.2.2.1, ()), v6.2.1.2.2.2.1, ()), ())) fun v7 =>
        tb (bnot v7.2.1)
        (some ((), false, ()))
        (obind (laws_markArchive ((v3.2.1.1, (v3.2.1.2.1.1, v3.2.1.2.1.2.1, ()), (v3.2.1.2.2.1.1, v3.2.1.2.2.1.2.1, v3.2.1.2.2.1.2.2.1, ()), v3.2.1.2.2.2.1, ()), 1, ())) fun v8 =>
          tb (ilt v8.2.1 0)
          (some ((), false, ()))
          (obind (laws_eqArchive ((v4.2.1.1, (v4.2.1.2.1.1, v4.2.1.2.1.2.1, ()), (v4.2.1.2.2.1.1, v4.2.1.2.2.1.2.1, v4.2.1.2.2.1.2.2.1, ()), v4.2.1.2.2.2.1, ()), (v2.2.1.1, (v2.2.1.2.1.1, v2.2.1.2.1.2.1, ()), (v2.2.1.2.2.1.1, v2.2.1.2.2.1.2.1, v2.2.1.2.2.1.2.2.1, ()), v2.2.1.2.2.2.1, ()), ())) fun v9 =>
            tb (bnot v9.2.1)
            (some ((), false, ()))
            (tb (bnot (ieq v4.2.2.1 v2.2.2.1))
              (some ((), false, ()))
              (obind (laws_markArchive ((v4.2.1.1, (v4.2.1.2.1.1, v4.2.1.2.1.2.1, ()), (v4.2.1.2.2.1.1, v4.2.1.2.2.1.2.1, v4.2.1.2.2.1.2.2.1, ()), v4.2.1.2.2.2.1, ()), 1, ())) fun v10 =>
                obind (laws_heldArchive ((v4.2.1.1, (v10.1.1.2.1.1, v10.1.1.2.1.2.1, ()), (v4.2.1.2.2.1.1, v4.2.1.2.2.1.2.1, v4.2.1.2.2.1.2.2.1, ()), v10.1.1.2.2.2.1, ()), 1, ())) fun v11 =>
                tb (ilt v11.2.1 0)
                (some ((), false, ()))
                (tb (bnot (ieq v11.2.1 v10.2.1))
                  (some ((), false, ()))
                  (obind (laws_toArchive ((x0.1, (x0.2.1.1, x0.2.1.2.1, ()), (x0.2.2.1.1, x0.2.2.1.2.1, x0.2.2.1.2.2.1, ()), x0.2.2.2.1, ()), ())) fun v12 =>
                    obind (impl_ArchiveCrash ((v12.2.1.1, (v12.2.1.2.1.1, v12.2.1.2.1.2.1, ()), (v12.2.1.2.2.1.1, v12.2.1.2.2.1.2.1, v12.2.1.2.2.1.2.2.1, ()), v12.2.1.2.2.2.1, ()), ())) fun v13 =>
                    obind (laws_eqArchive ((v13.2.1.1, (v13.2.1.2.1.1, v13.2.1.2.1.2.1, ()), (v13.2.1.2.2.1.1, v13.2.1.2.2.1.2.1, v13.2.1.2.2.1.2.2.1, ()), v13.2.1.2.2.2.1, ()), (v2.2.1.1, (v2.2.1.2.1.1, v2.2.1.2.1.2.1, ()), (v2.2.1.2.2.1.1, v2.2.1.2.2.1.2.1, v2.2.1.2.2.1.2.2.1, ()), v2.2.1.2.2.2.1, ()), ())) fun v14 =>
                    tb (bnot v14.2.1)
                    (some ((), false, ()))
                    (tb (bnot (ieq v13.2.2.1 v2.2.2.1))
                      (some ((), false, ()))
                      (obind (laws_heldArchive ((v4.2.1.1, (v10.1.1.2.1.1, v10.1.1.2.1.2.1, ()), (v4.2.1.2.2.1.1, v4.2.1.2.2.1.2.1, v4.2.1.2.2.1.2.2.1, ()), v10.1.1.2.2.2.1, ()), 1, ())) fun v15 =>
                        tb (ilt v15.2.1 0)
                        (some ((), false, ()))
                        (tb (bnot (ieq v15.2.1 v10.2.1))
                          (some ((), false, ()))
                          (some ((), true, ()))))))))))))))
def laws_FnExactArchiveCrash (x : ((Bool × ((List ByteArray) × (List (Int × ByteArray × Unit)) × Unit) × (Int × Int × Int × Unit) × (List (ByteArray × ByteArray × Unit)) × Unit) × Unit)) : Option (Unit × (Bool × Unit)) := laws_FnExactArchiveCrash_k fuel x.1
def laws_FnExactArchiveCrash_s : List (Nat × Con) := [(6, ⟨[.val S30, .val (.int .i64)], [(.int .i64)], (.pair (.int .i64) .unit), laws_szArchive⟩), (8, ⟨[.val S30], [T40], (.pair T40 .unit), laws_toArchive⟩), (11, ⟨[.val S40, .val S40], [.bool], (.pair .bool .unit), laws_eqArchive⟩), (12, ⟨[.bor T40, .val (.int .i64)], [(.int .i64)], (.pair (.int .i64) .unit), laws_markArchive⟩), (15, ⟨[.val S40], [T40, (.int .i64)], (.pair T40 (.pair (.int .i64) .unit)), spec_ArchiveCrash⟩), (16, ⟨[.val S40], [T40, (.int .i64)], (.pair T40 (.pair (.int .i64) .unit)), impl_ArchiveCrash⟩), (17, ⟨[.val S40, .val (.int .i64)], [(.int .i64)], (.pair (.int .i64) .unit), laws_heldArchive⟩)]
def laws_FnExactArchiveCrash_E : Env := ⟨fun j => (look tyTab j).getD .unit, fun j => look laws_FnExactArchiveCrash_s j⟩
theorem laws_FnExactArchiveCrash_f_eq (N : Nat) (x0 : (Bool × ((List ByteArray) × (List (Int × ByteArray × Unit)) × Unit) × (Int × Int × Int × Unit) × (List (ByteArray × ByteArray × Unit)) × Unit)) : funK laws_FnExactArchiveCrash_E Tryz.f4 [.val S30] [.bool] (.pair .bool .unit) (fun i => look [] i) N (x0, ()) = laws_FnExactArchiveCrash_k N x0 := by kernel_rfl
theorem laws_FnExactArchiveCrash_o : Known Tryz.prog 4 ⟨[.val S30], [.bool], (.pair .bool .unit), laws_FnExactArchiveCrash⟩ := known_of (tab := tyTab) (cons := laws_FnExactArchiveCrash_s) (segs := []) (n := fuel) mixed_ok tab_ok (.cons laws_szArchive_o (.cons laws_toArchive_o (.cons laws_eqArchive_o (.cons laws_markArchive_o (.cons spec_ArchiveCrash_o (.cons impl_ArchiveCrash_o (.cons laws_heldArchive_o .nil))))))) Tryz.func4 (by kernel_rfl) trivial (fun x => laws_FnExactArchiveCrash_f_eq fuel x.1)
end Go.Proofs.YtekcpaiphcmfmaaGreat.V
