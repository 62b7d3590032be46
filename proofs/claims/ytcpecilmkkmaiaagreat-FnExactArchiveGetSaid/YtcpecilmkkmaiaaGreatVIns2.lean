/-
slices.Insert of one element into rows of two cells an element, at any place of their blocks, at this translation: what it leaves in the row.
No condition beyond the rows' own.
-/
import Derived.Test.YtcpecilmkkmaiaaGreatVDel
import Derived.Laws.AppendOwn
namespace Go.Proofs.YtcpecilmkkmaiaaGreatX
set_option linter.unusedVariables false
set_option linter.unusedSimpArgs false
open Go.RowKit
theorem thaw2 {w : World} {g : Nat} {cs : Array Value} {t : TypeId} {fr : Nat × Nat} (hb : w.heap[g]? = some (.cells cs t fr)) (hf : fr.2 ≤ fr.1) (j : Nat) : w.frozen? ⟨g, j, none⟩ = false := by
  obtain ⟨lo, hi⟩ := fr
  simp only [World.frozen?, hb, Bool.and_eq_false_iff, decide_eq_false_iff_not]
  simp only at hf
  omega
theorem lt_of_blk {w : World} {g : Nat} {x : Obj} (hb : w.heap[g]? = some x) : g < w.heap.size := (Array.getElem?_eq_some_iff.1 hb).1
theorem run_copy2 (w : World) (ty g o dLen dCap : Nat) (a : Addr) (sLen sCap : Nat) (cs : List Value) (hn : cs.length = Nat.min sLen dLen * 2)
    (hsrc : ∀ (j : Nat) (v : Value), cs[j]? = some v → w.cell? (a.add j) = some v) (hc : ∀ j, j < cs.length → (w.cell? ⟨g, o + j, none⟩).isSome = true) (hf : ∀ j, j < cs.length → w.frozen? ⟨g, o + j, none⟩ = false) (h1 : ∀ v ∈ cs, v.oneCell' = true) :
    (Builtin.copy_ #[41, 41] ty #[.slice (some ⟨g, o, none⟩) dLen dCap, .slice (some a) sLen sCap]).run Tryz.prog w = .ok (goInt (Nat.min sLen dLen)) (w.setCells g o cs) := by
  obtain ⟨i0, hi0, hz0, hz1, hz2⟩ := info_parts (show (Tryz.prog.info? 82).map (fun i => (i.zero, i.size, i.bytes)) = some (some (.agg #[.string ⟨#[]⟩, .string ⟨#[]⟩]), 2, 32) by kernel_rfl)
  have hl := run_loadCells_list (P := Tryz.prog) w a cs hsrc
  have hst := run_storeCells_cells (P := Tryz.prog) g o cs 0 w (by simpa using hc) (by simpa using hf) h1
  simp [Builtin.copy_, run_underlying Tryz.underlying41, Builtin.lenOf, Builtin.firstCells, sizeOf, typeInfo, hi0, hz1, ← hn, hl, hst]
theorem copy_event {ops : Array Oper} {rest : List Oper} {o : Oper} {a : Act} {Q : Exit → Act → World → Prop} (w : World) (hgd : o.guard = none) (d s : Operand) (t t' : TypeId)
    (ho : o.op = .call { callee := .builtin .copy, args := #[d, s], argTypes := #[t, t'] }) (v u : Value) (hd : a.eval d = v) (hs : a.eval s = u) {v' : Value} {w' : World}
    (hr : (Builtin.copy_ #[t, t'] o.type #[v, u]).run Tryz.prog w = .ok v' w') (h : wpList Tryz.prog ops Q rest (a.put o.dst v') w') : wpList Tryz.prog ops Q (o :: rest) a w := by
  refine wpList_plain hgd fun K hK => ?_
  unfold Oper.wp execOp
  simp only [ho, resolve, invoke, builtin, Sem.run_bind, Sem.run_pure, Result.andThen_ok, List.map_toArray, List.map_cons, List.map_nil, hd, hs, hr]
  exact hK _ _ h
theorem copy_step {ops : Array Oper} {o : Oper} {a : Act} {w : World} {K : Act → World → Prop} {Q : Exit → Act → World → Prop} {E : Prop}
    (hg : o.guard = none) (d x : Operand) (dT sT : TypeId) (hop : o.op = Op.call { callee := Callee.builtin Builtin.copy, args := #[d, x], argTypes := #[dT, sT] })
    (v u : Value) (hd : a.eval d = v) (hx : a.eval x = u) {v' : Value} {w' : World} (hr : (Builtin.copy_ #[dT, sT] o.type #[v, u]).run Tryz.prog w = .ok v' w') (hK : K (a.put o.dst v') w') :
    if Region.wanted o (yielded ops a.tmps) = true then Oper.wp Tryz.prog o a w K Q else E := by
  have hw : Region.wanted o (yielded ops a.tmps) = true := by simp [Region.wanted, hg]
  rw [if_pos hw]
  unfold Oper.wp execOp
  simp only [hop, resolve, invoke, builtin, Sem.run_bind, Sem.run_pure, Result.andThen_ok, List.map_toArray, List.map_cons, List.map_nil, hd, hx, hr]
  exact hK
theorem alloc_new (w : World) (o : Obj) : (w.alloc o).heap[w.heap.size]? = some o := by
  simp [World.alloc, -World.alloc_eq]
theorem alloc_old2 (w : World) (o : Obj) (k : Nat) (hk : k < w.heap.size) : (w.alloc o).heap[k]? = w.heap[k]? := (below_alloc (Below.refl w.heap.size w) o).block k hk
theorem setCells_heap {w w' : World} (h : w.heap = w'.heap) (g o : Nat) (vs : List Value) : (w.setCells g o vs).heap = (w'.setCells g o vs).heap := by
  induction vs generalizing w w' o with
  | nil => exact h
  | cons v r ih =>
    rw [World.setCells, World.setCells]
    exact ih (by simp [World.setCell, h]) (o + 1)
def zz : Array Value := #[.string ⟨#[]⟩, .string ⟨#[]⟩]
theorem zz_size (k : Nat) : (Builtin.zeroCells zz k).size = k * 2 := by simp [Builtin.zeroCells, zz]
set_option maxHeartbeats 4000000 in
set_option maxRecDepth 1000000 in
theorem insert_grow (g o n i vb vo vc : Nat) (cur cv : Array Value) (et et' : TypeId) (fr fr' : Nat × Nat) (row vs : List Value) (w : World) (hb : w.heap[g]? = some (.cells cur et fr)) (hbig : (n + 1) * 32 ≤ 140737488355328) (hi : i < n) (hrl : row.length = n * 2) (hrow : ∀ (j : Nat) (v : Value), row[j]? = some v → cur[o + j]? = some v) (h1 : ∀ v ∈ row, v.oneCell' = true)
    (hv : w.heap[vb]? = some (.cells cv et' fr')) (hvl : vs.length = 2) (hvs : ∀ (j : Nat) (u : Value), vs[j]? = some u → cv[vo + j]? = some u) (h1v : ∀ v ∈ vs, v.oneCell' = true) :
    Calls Tryz.prog 137 #[.slice (some ⟨g, o, none⟩) n n, .int .i64 i, .slice (some ⟨vb, vo, none⟩) 1 vc] w fun e w' => e = .returned (.slice (some ⟨w.heap.size, 0, none⟩) (n + 1) (grownCap w (n + 1) n 82)) ∧
      w' = (((w.alloc (.cells ((row.take (i * 2)).toArray ++ Builtin.zeroCells zz (n + 1 - i) ++ Builtin.zeroCells zz (grownCap w (n + 1) n 82 - (n + 1))) 82)).drew.setCells w.heap.size (i * 2) vs).drew).setCells w.heap.size ((i + 1) * 2) (row.drop (i * 2)) := by
  obtain ⟨i0, hi0, hz0, hzs, hzb⟩ := info_parts (show (Tryz.prog.info? 82).map (fun i => (i.zero, i.size, i.bytes)) = some (some (.agg #[.string ⟨#[]⟩, .string ⟨#[]⟩]), 2, 32) by kernel_rfl)
  obtain ⟨news, hnews⟩ : ∃ news, news = row.drop (i * 2) := ⟨_, rfl⟩
  have hlen : news.length = (n - i) * 2 := by rw [hnews, List.length_drop, hrl]; omega
  have hget : ∀ (t : Nat) (u : Value), news[t]? = some u → cur[o + i * 2 + t]? = some u := by
    intro t u hu
    rw [hnews, List.getElem?_drop] at hu
    have := hrow _ _ hu
    rwa [← Nat.add_assoc] at this
  have hgw : g < w.heap.size := lt_of_blk hb
  have hvw : vb < w.heap.size := lt_of_blk hv
  have hik : i + (n + 1 - i) = n + 1 := by omega
  have hkk : (n : Int) + 1 - (i : Int) = ((n + 1 - i : Nat) : Int) := by omega
  have hold : (Builtin.firstCells i0.size i (.slice (some ⟨g, o, none⟩) i n)).run Tryz.prog w.drew = .ok (row.take (i * 2)).toArray w.drew := by
    rw [hzs]
    exact run_firstCells_some w.drew 2 i ⟨g, o, none⟩ i n (row.take (i * 2)) (by rw [List.length_take, hrl]; omega) (fun j v hj => by
      rw [Addr.add_lit]
      rw [List.getElem?_take] at hj
      split at hj
      · show w.cell? _ = _
        rw [cell_row hb]
        exact hrow j v hj
      · cases hj)
  have hgg : Builtin.nextslicecap (n + 1) n * i0.bytes ≤ 281474976710656 := by rw [hzb]; exact growslice_fits (by omega) hbig
  have hrz : ∀ ty, (Builtin.append_ #[41, 3] ty #[.slice (some ⟨g, o, none⟩) i n, .int .i64 ((n : Int) + 1 - (i : Int))]).run Tryz.prog w =
      .ok (.slice (some ⟨w.heap.size, 0, none⟩) (n + 1) (grownCap w (n + 1) n 82)) (w.drew.alloc (.cells ((row.take (i * 2)).toArray ++ Builtin.zeroCells zz (n + 1 - i) ++ Builtin.zeroCells zz (grownCap w (n + 1) n 82 - (n + 1))) 82)) := fun ty => by
    have h := Lib.run_append_grow_zeros w 41 3 ty 82 i0 _ .i64 .i64 Tryz.underlying41 Tryz.underlying3 hi0 hz0 (some ⟨g, o, none⟩) i n (row.take (i * 2)) hold (n + 1 - i) (by omega) (by omega) (by omega) (by omega) (by rw [hzb]; omega) (by rw [hik]; exact hgg)
    rw [hik] at h
    rw [hkk]
    exact h
  obtain ⟨G, hG⟩ : ∃ G, G = grownCap w (n + 1) n 82 := ⟨_, rfl⟩
  obtain ⟨ROW, hROW⟩ : ∃ ROW : Array Value, ROW = (row.take (i * 2)).toArray ++ Builtin.zeroCells zz (n + 1 - i) ++ Builtin.zeroCells zz (G - (n + 1)) := ⟨_, rfl⟩
  have hGn : n + 1 ≤ G := by rw [hG]; exact grownCap_ge w _ _ _
  have hG63 : G ≤ 9223372036854775807 := by
    have := grownCap_le_maxLen w (n + 1) n 82 (by unfold maxLen; omega)
    rw [← hG] at this
    unfold maxLen at this
    omega
  rw [← hnews]
  rw [← hG] at hrz ⊢
  rw [← hROW] at hrz ⊢
  have hRl : ROW.size = G * 2 := by
    rw [hROW, Array.size_append, Array.size_append, zz_size, zz_size]
    simp [hrl]
    omega
  obtain ⟨W1, hW1⟩ : ∃ W1, W1 = w.drew.alloc (.cells ROW 82) := ⟨_, rfl⟩
  rw [← hW1] at hrz
  have hN : W1.heap[w.heap.size]? = some (.cells ROW 82 (0, 0)) := by
    rw [hW1]
    exact alloc_new w.drew _
  have hO : ∀ k, k < w.heap.size → W1.heap[k]? = w.heap[k]? := fun k hk => by
    rw [hW1]
    exact alloc_old2 w.drew _ k hk
  have hcpA : ∀ (W : World), W.heap = W1.heap → ∀ ty dc, (Builtin.copy_ #[41, 41] ty #[.slice (some ⟨w.heap.size, i * 2, none⟩) (n + 1 - i) dc, .slice (some ⟨vb, vo, none⟩) 1 vc]).run Tryz.prog W = .ok (goInt 1) (W.setCells w.heap.size (i * 2) vs) := fun W hW ty dc => by
    have hWc : ∀ x, W.cell? x = W1.cell? x := fun x => by simp only [World.cell?, hW]
    have hWN : W.heap[w.heap.size]? = some (.cells ROW 82 (0, 0)) := by rw [hW]; exact hN
    have hmin : Nat.min 1 (n + 1 - i) = 1 := by simp only [Nat.min_def]; split <;> omega
    have h := run_copy2 W ty w.heap.size (i * 2) (n + 1 - i) dc ⟨vb, vo, none⟩ 1 vc vs (by rw [hvl, hmin])
      (fun j v hj => by rw [Addr.add_lit, hWc, cell_row ((hO vb hvw).trans hv)]; exact hvs j v hj)
      (fun j hj => by rw [hWc, cell_row hN, Array.getElem?_eq_getElem (by rw [hRl]; omega)]; rfl) (fun j _ => blk_frozen hWN _) h1v
    rw [hmin] at h
    exact h
  have hN2 : (W1.setCells w.heap.size (i * 2) vs).heap[w.heap.size]? = some (.cells (putAt ROW (i * 2) vs) 82 (0, 0)) := setCells_blk hN _ _
  have hcpB : ∀ (W : World), W.heap = (W1.setCells w.heap.size (i * 2) vs).heap → ∀ ty dc sc, (Builtin.copy_ #[41, 41] ty #[.slice (some ⟨w.heap.size, (i + 1) * 2, none⟩) (n - i) dc, .slice (some ⟨g, o + i * 2, none⟩) (n - i) sc]).run Tryz.prog W = .ok (goInt ((n - i : Nat) : Int)) (W.setCells w.heap.size ((i + 1) * 2) news) := fun W hW ty dc sc => by
    have hWc : ∀ x, W.cell? x = (W1.setCells w.heap.size (i * 2) vs).cell? x := fun x => by simp only [World.cell?, hW]
    have hWN : W.heap[w.heap.size]? = some (.cells (putAt ROW (i * 2) vs) 82 (0, 0)) := by rw [hW]; exact hN2
    have hmin : Nat.min (n - i) (n - i) = n - i := by simp only [Nat.min_def]; split <;> omega
    have hold2 : (W1.setCells w.heap.size (i * 2) vs).heap[g]? = some (.cells cur et fr) := by
      rw [setCells_other W1 (by omega), hO g hgw]
      exact hb
    have h := run_copy2 W ty w.heap.size ((i + 1) * 2) (n - i) dc ⟨g, o + i * 2, none⟩ (n - i) sc news (by rw [hlen, hmin])
      (fun j v hj => by rw [Addr.add_lit, hWc, cell_row hold2]; exact hget j v hj)
      (fun j hj => by rw [hWc, cell_row hN2, Array.getElem?_eq_getElem (by rw [putAt_size, hRl]; omega)]; rfl) (fun j _ => blk_frozen hWN _)
      (fun v hv' => by rw [hnews] at hv'; exact h1 v (List.mem_of_mem_drop hv'))
    rw [hmin] at h
    exact h
  subst hW1
  have hE : ((w.alloc (.cells ROW 82)).drew).heap = (w.drew.alloc (.cells ROW 82)).heap := rfl
  have hF : (((w.alloc (.cells ROW 82)).drew.setCells w.heap.size (i * 2) vs).drew).heap = ((w.drew.alloc (.cells ROW 82)).setCells w.heap.size (i * 2) vs).heap := setCells_heap hE _ _ _
  have mixed : Tryz.prog.follows Departure.mixedOrders = true := by kernel_rfl
  have hne : ¬ ((i : Int) = (n : Int)) := by omega
  have hne2 : ¬ (i = n) := by omega
  have hne3 : ¬ (n = i) := by omega
  have hin : i ≤ n := by omega
  have hi1 : (0 : Int) ≤ (i : Int) + 1 := by omega
  have hi2 : (i : Int) + 1 ≤ (n : Int) + 1 := by omega
  have hi3 : (i : Int) ≤ (n : Int) + 1 := by omega
  have hi4 : i ≤ n + 1 := by omega
  have hGi : ¬ (G = i) := by omega
  have hGim : ¬ (G = i + 1) := by omega
  have hlt : (n : Int) < (n : Int) + 1 := by omega
  have hn62 : n ≤ 4611686018427387903 := by omega
  have hi62 : i ≤ 4611686018427387903 := by omega
  clear hbig hGn hG63
  have hw1 : IntKind.i64.wrap ((i : Int) + 1) = (i : Int) + 1 := kwrap_more hi62
  have hw2 : IntKind.i64.wrap ((n : Int) + 1) = (n : Int) + 1 := kwrap_more hn62
  have hw3 : wrap64 ((i : Int) + 1) = (i : Int) + 1 := wrap_more hi62
  have hw4 : wrap64 ((n : Int) + 1) = (n : Int) + 1 := wrap_more hn62
  have hw5 : wrap64 ((n : Int) + 1 - (i : Int)) = (n : Int) + 1 - (i : Int) := wrap_less hn62 hin
  have HRZ := Aside0.mk hrz
  have HCA := Aside0.mk hcpA
  have HCB := Aside0.mk hcpB
  have HE := Aside0.mk hE
  have HF := Aside0.mk hF
  clear hrz hcpA hcpB hE hF hgw hvw hi0 hz0 hzs hzb hrow hrl
  clear hkk hik hold hROW hG hRl hN hO hN2 hb hv hget hnews hlen h1 h1v hvs hvl hgg
  go_enter Tryz.func137, Tryz.ntmps137
  go_wp2_with (first
    | ((with_reducible refine gate_builtin (b := .append) (xs := #[.tmp 34, .tmp 39]) rfl ?_); at_builtin; refine Lib.wpList_append_run _ rfl _ _ _ _ rfl _ _ rfl rfl _ _ (HRZ.out _) ?_)
    | ((with_reducible refine gate_builtin (b := .copy) (xs := #[.tmp 43, .tmp 44]) rfl ?_); refine copy_event _ rfl (.tmp 43) (.tmp 44) 41 41 rfl _ _ rfl rfl (HCA.out _ HE.out _ _) ?_))
  go_region_law_o (refine copy_step rfl _ _ 41 41 rfl (.slice (some ⟨w.heap.size, (i + 1) * 2, none⟩) (n - i) (G - (i + 1))) (.slice (some ⟨g, o + i * 2, none⟩) (n - i) (n - i)) (by simp [Act.eval, Act.put]) (by simp [Act.eval, Act.put]) (HCB.out _ HF.out 3 (G - (i + 1)) (n - i)) ?_)
  go_wp2
  go_ret
  exact ⟨rfl, rfl⟩
end Go.Proofs.YtcpecilmkkmaiaaGreatX
