/-
slices.Insert of one element into rows of two cells an element, at any place of their blocks, at this translation: what it leaves in the row.
No condition beyond the rows' own.
-/
import Derived.Test.YtcpecilmkkmaiaaGreatVDel
import Derived.Laws.AppendOwn
namespace Go.Proofs.YtcpecilmkkmaiaaGreatX
set_option linter.unusedVariables false
set_option linter.unusedSimpArgs false
open Go.RowKit
theorem thaw {w : World} {g : Nat} {cs : Array Value} {t : TypeId} {fr : Nat × Nat} (hb : w.heap[g]? = some (.cells cs t fr)) (hf : fr.2 ≤ fr.1) (j : Nat) : w.frozen? ⟨g, j, none⟩ = false := by
  obtain ⟨lo, hi⟩ := fr
  simp only [World.frozen?, hb, Bool.and_eq_false_iff, decide_eq_false_iff_not]
  simp only at hf
  omega
theorem lt_of_blk {w : World} {g : Nat} {x : Obj} (hb : w.heap[g]? = some x) : g < w.heap.size := (Array.getElem?_eq_some_iff.1 hb).1
theorem run_copy2 (w : World) (ty g o dLen dCap : Nat) (a : Addr) (sLen sCap : Nat) (cs : List Value) (hn : cs.length = Nat.min sLen dLen * 2)
    (hsrc : ∀ (j : Nat) (v : Value), cs[j]? = some v → w.cell? (a.add j) = some v) (hc : ∀ j, j < cs.length → (w.cell? ⟨g, o + j, none⟩).isSome = true) (hf : ∀ j, j < cs.length → w.frozen? ⟨g, o + j, none⟩ = false) (h1 : ∀ v ∈ cs, v.oneCell' = true) :
    (Builtin.copy_ #[41, 41] ty #[.slice (some ⟨g, o, none⟩) dLen dCap, .slice (some a) sLen sCap]).run Tryz.prog w = .ok (goInt (Nat.min sLen dLen)) (w.setCells g o cs) := by
  obtain ⟨i0, hi0, hz0, hz1, hz2⟩ := info_parts (show (Tryz.prog.info? 82).map (fun i => (i.zero, i.size, i.bytes)) = some (some (.agg #[.string ⟨#[]⟩, .string ⟨#[]⟩]), 2, 32) by kernel_rfl)
  have hl := run_loadCells_list (P := Tryz.prog) w a cs hsrc
  have hst := run_storeCells_cells (P := Tryz.prog) g o cs 0 w (by simpa using hc) (by simpa using hf) h1
  simp [Builtin.copy_, run_underlying Tryz.underlying41, Builtin.lenOf, Builtin.firstCells, sizeOf, typeInfo, hi0, hz1, ← hn, hl, hst]
theorem copy_event {ops : Array Oper} {rest : List Oper} {o : Oper} {a : Act} {Q : Exit → Act → World → Prop} (w : World) (hgd : o.guard = none) (d s : Operand) (t t' : TypeId)
    (ho : o.op = .call { callee := .builtin .copy, args := #[d, s], argTypes := #[t, t'] }) (v u : Value) (hd : a.eval d = v) (hs : a.eval s = u) {v' : Value} {w' : World}
    (hr : (Builtin.copy_ #[t, t'] o.type #[v, u]).run Tryz.prog w = .ok v' w') (h : wpList Tryz.prog ops Q rest (a.put o.dst v') w') : wpList Tryz.prog ops Q (o :: rest) a w := by
  refine wpList_plain hgd fun K hK => ?_
  unfold Oper.wp execOp
  simp only [ho, resolve, invoke, builtin, Sem.run_bind, Sem.run_pure, Result.andThen_ok, List.map_toArray, List.map_cons, List.map_nil, hd, hs, hr]
  exact hK _ _ h
theorem copy_step {ops : Array Oper} {o : Oper} {a : Act} {w : World} {K : Act → World → Prop} {Q : Exit → Act → World → Prop} {E : Prop}
    (hg : o.guard = none) (d x : Operand) (dT sT : TypeId) (hop : o.op = Op.call { callee := Callee.builtin Builtin.copy, args := #[d, x], argTypes := #[dT, sT] })
    (v u : Value) (hd : a.eval d = v) (hx : a.eval x = u) {v' : Value} {w' : World} (hr : (Builtin.copy_ #[dT, sT] o.type #[v, u]).run Tryz.prog w = .ok v' w') (hK : K (a.put o.dst v') w') :
    if Region.wanted o (yielded ops a.tmps) = true then Oper.wp Tryz.prog o a w K Q else E := by
  have hw : Region.wanted o (yielded ops a.tmps) = true := by simp [Region.wanted, hg]
  rw [if_pos hw]
  unfold Oper.wp execOp
  simp only [hop, resolve, invoke, builtin, Sem.run_bind, Sem.run_pure, Result.andThen_ok, List.map_toArray, List.map_cons, List.map_nil, hd, hx, hr]
  exact hK
set_option maxHeartbeats 4000000 in
set_option maxRecDepth 1000000 in
theorem insert_shift (g o n cap i vb vo vc : Nat) (cur cv : Array Value) (et et' : TypeId) (fr fr' : Nat × Nat) (row vs : List Value) (w : World) (hb : w.heap[g]? = some (.cells cur et fr)) (hfr : fr.2 ≤ fr.1 ∨ cur.size ≤ fr.1) (hfr' : fr'.2 ≤ fr'.1) (hc : o + cap * 2 ≤ cur.size) (hn : n + 1 ≤ cap) (hbig : (n + 1) * 32 ≤ 140737488355328) (hi : i < n) (hrl : row.length = n * 2) (hrow : ∀ (j : Nat) (v : Value), row[j]? = some v → cur[o + j]? = some v) (h1 : ∀ v ∈ row, v.oneCell' = true)
    (hv : w.heap[vb]? = some (.cells cv et' fr')) (hvb : vb ≠ g) (hvl : vs.length = 2) (hvs : ∀ (j : Nat) (u : Value), vs[j]? = some u → cv[vo + j]? = some u) (h1v : ∀ v ∈ vs, v.oneCell' = true) :
    Calls Tryz.prog 137 #[.slice (some ⟨g, o, none⟩) n cap, .int .i64 i, .slice (some ⟨vb, vo, none⟩) 1 vc] w fun e w' => e = .returned (.slice (some ⟨g, o, none⟩) (n + 1) cap) ∧
      w' = (w.drew.setCells g (o + (i + 1) * 2) (row.drop (i * 2))).setCells g (o + i * 2) vs := by
  obtain ⟨news, hnews⟩ : ∃ news, news = row.drop (i * 2) := ⟨_, rfl⟩
  have hlen : news.length = (n - i) * 2 := by rw [hnews, List.length_drop, hrl]; omega
  have hget : ∀ (t : Nat) (u : Value), news[t]? = some u → cur[o + i * 2 + t]? = some u := by
    intro t u hu
    rw [hnews, List.getElem?_drop] at hu
    have := hrow _ _ hu
    rwa [← Nat.add_assoc] at this
  have hcvs : vo < cv.size := by
    have := hvs 0 vs[0] (List.getElem?_eq_getElem (by omega))
    have := (Array.getElem?_eq_some_iff.1 this).1
    omega
  rw [← hnews]
  have hov : ∀ lb cb, (callFunc 155 #[.slice (some ⟨vb, vo, none⟩) 1 vc, .slice (some ⟨g, o + (i + 1) * 2, none⟩) lb cb]).run Tryz.prog w = .ok (.value (.bool false)) w := fun lb cb => by
    rw [run_callFunc_extern Tryz.func155 (by kernel_rfl) (by kernel_rfl) (by kernel_rfl) (e := Extern.SlicesOverlaps.overlaps #[41, 41] #[4]) (by kernel_rfl),
      Lib.run_overlaps_apart w 41 4 82 Tryz.underlying41 2 Tryz.sizeOf82 ⟨vb, vo, none⟩ ⟨g, o + (i + 1) * 2, none⟩ 1 vc lb cb hvb et' et cv.size cur.size (by simp [World.shape?, hv]) (by simp [World.shape?, hb]) (by omega) (thaw hv hfr' _) (thaw hv hfr' _)]
    rfl
  have hcp1 : ∀ ty dc sc, (Builtin.copy_ #[41, 41] ty #[.slice (some ⟨g, o + (i + 1) * 2, none⟩) (n - i) dc, .slice (some ⟨g, o + i * 2, none⟩) (n + 1 - i) sc]).run Tryz.prog w.drew = .ok (goInt ((n - i : Nat) : Int)) (w.drew.setCells g (o + (i + 1) * 2) news) := fun ty dc sc => by
    have hmin : Nat.min (n + 1 - i) (n - i) = n - i := by simp only [Nat.min_def]; split <;> omega
    have h := run_copy2 w.drew ty g (o + (i + 1) * 2) (n - i) dc ⟨g, o + i * 2, none⟩ (n + 1 - i) sc news (by rw [hlen, hmin])
      (fun j v hj => by rw [Addr.add_lit]; show w.cell? _ = _; rw [cell_row hb]; exact hget j v hj)
      (fun j hj => by show (w.cell? _).isSome = true; rw [cell_row hb, Array.getElem?_eq_getElem (by omega)]; rfl) (fun j _ => blk_thawed (w := w.drew) hb hfr (by omega))
      (fun v hv' => by rw [hnews] at hv'; exact h1 v (List.mem_of_mem_drop hv'))
    rw [hmin] at h
    exact h
  obtain ⟨W1, hW1⟩ : ∃ W1, W1 = w.drew.setCells g (o + (i + 1) * 2) news := ⟨_, rfl⟩
  have hb1 : W1.heap[g]? = some (.cells (putAt cur (o + (i + 1) * 2) news) et fr) := by
    rw [hW1]
    exact setCells_blk' (w := w.drew) hb _ _
  have hv1 : W1.heap[vb]? = some (.cells cv et' fr') := by
    rw [hW1, setCells_other w.drew hvb]
    exact hv
  have hcp2 : ∀ ty dc, (Builtin.copy_ #[41, 41] ty #[.slice (some ⟨g, o + i * 2, none⟩) (n + 1 - i) dc, .slice (some ⟨vb, vo, none⟩) 1 vc]).run Tryz.prog W1 = .ok (goInt 1) (W1.setCells g (o + i * 2) vs) := fun ty dc => by
    have hmin : Nat.min 1 (n + 1 - i) = 1 := by simp only [Nat.min_def]; split <;> omega
    have h := run_copy2 W1 ty g (o + i * 2) (n + 1 - i) dc ⟨vb, vo, none⟩ 1 vc vs (by rw [hvl, hmin])
      (fun j v hj => by rw [Addr.add_lit, cell_row hv1]; exact hvs j v hj)
      (fun j hj => by rw [cell_row hb1, Array.getElem?_eq_getElem (by rw [putAt_size]; omega)]; rfl) (fun j hj => blk_thawed hb1 (by rw [putAt_size]; exact hfr) (by rw [putAt_size]; omega)) h1v
    rw [hmin] at h
    exact h
  rw [← hW1] at hcp1 ⊢
  have mixed : Tryz.prog.follows Departure.mixedOrders = true := by kernel_rfl
  have hne : ¬ ((i : Int) = (n : Int)) := by omega
  have hne2 : ¬ (i = n) := by omega
  have hroom : ¬ ((cap : Int) < (n : Int) + 1) := by omega
  have hin : i ≤ n := by omega
  have hn1 : (n : Int) + 1 ≤ (cap : Int) := by omega
  have hn2 : n + 1 ≤ cap := hn
  have hi1 : (0 : Int) ≤ (i : Int) + 1 := by omega
  have hi2 : (i : Int) + 1 ≤ (n : Int) + 1 := by omega
  have hi3 : (i : Int) ≤ (n : Int) + 1 := by omega
  have hi4 : i ≤ n + 1 := by omega
  have hci : ¬ (cap = i + 1) := by omega
  have hci2 : ¬ (cap = i) := by omega
  have hni : ¬ (n + 1 < i + 1) := by omega
  have hw1 : IntKind.i64.wrap ((i : Int) + 1) = (i : Int) + 1 := by rw [IntKind.wrap_i64]; omega
  have hw2 : IntKind.i64.wrap ((n : Int) + 1) = (n : Int) + 1 := by rw [IntKind.wrap_i64]; omega
  have hw3 : wrap64 ((i : Int) + 1) = (i : Int) + 1 := wrap_id2 (by omega) (by omega)
  have hw4 : wrap64 ((n : Int) + 1) = (n : Int) + 1 := wrap_id2 (by omega) (by omega)
  clear hW1 hb1 hv1 hb hv hget hnews hlen h1 hcvs hvs h1v hvl hrow hrl hfr hfr' hc
  go_enter Tryz.func137, Tryz.ntmps137
  go_wp2_with (simp only [hov])
  go_region_law_o (refine copy_step rfl _ _ 41 41 rfl _ _ (by simp [Act.eval, Act.put]) (by simp [Act.eval, Act.put]) (hcp1 _ _ _) ?_)
  go_wp2_with (at_builtin; refine copy_event _ rfl _ _ 41 41 rfl _ _ rfl rfl (hcp2 _ _) ?_)
  go_ret
  exact ⟨rfl, rfl⟩
end Go.Proofs.YtcpecilmkkmaiaaGreatX
