/-
slices.Delete of one element and slices.Insert of one element, of rows of two cells an element, at this translation: what they leave in the row.
No condition beyond the rows' own.
-/
import Derived.ArgAppend
import Derived.Below
import Derived.BigQuiet
import Derived.Deep.AppendLies
import Derived.Deep.CutBlock
import Derived.Deep.DeepCutAuto
import Derived.Deep.Draws
import Derived.Deep.LoopGhost
import Derived.Deep.OwnRows
import Derived.Deep.QuietTactic
import Derived.Deep.RegionHeld3
import Derived.KernelRfl
import Derived.Laws.AppendOwn
import Derived.Laws.BitsLemmas
import Derived.Laws.BytesArg
import Derived.Laws.Cover1
import Derived.Laws.IdiomCopy
import Derived.Laws.MakeOwn
import Derived.Laws.OwnMore
import Derived.Laws.Rows
import Derived.Laws.Slices
import Derived.Lib.AppendStr
import Derived.Lib.ConvBytes
import Derived.Maps.AppendAt
import Derived.OrdersHeld
import Derived.OwnWalk
import Derived.RowKit
import Derived.RowKit3
import Derived.Tactics
import Derived.WalkKit
import Derived.WideLaws
import Derived.Deep.RegionLaw
import Derived.Lib.SliceRun
import Derived.Lib.SlicesDelete
import Derived.Lib.Overlaps
import Derived.Lib.AppendZerosOnto
import Derived.Shelf.RegionOpenPlain
import Derived.Test.YtcpecilmkkmaiaaGreatProg
namespace Go.Proofs.YtcpecilmkkmaiaaGreatX
set_option linter.unusedVariables false
set_option linter.unusedSimpArgs false
open Go.RowKit
structure Aside0 (p : Prop) : Prop where mk :: (out : p)
theorem below_alloc {w W : World} (h : Below w.heap.size w W) (o : Obj) : Below w.heap.size w (W.alloc o) := h.alloc h.size o
theorem blk_frozen {w : World} {g : Nat} {t : TypeId} {cs : Array Value} (h : w.heap[g]? = some (.cells cs t (0, 0))) (i : Nat) : w.frozen? ⟨g, i, none⟩ = false := by simp [World.frozen?, h]
theorem blk_set {w : World} {g : Nat} {t : TypeId} {cs : Array Value} (h : w.heap[g]? = some (.cells cs t (0, 0))) (i : Nat) (u : Value) : (w.setCell ⟨g, i, none⟩ u).heap[g]? = some (.cells (cs.setIfInBounds i u) t (0, 0)) := by
  simp [World.setCell, Array.getElem?_modify, h]
theorem gate_builtin {P : Program} {ops : Array Oper} {rest : List Oper} {o : Oper} {a : Act} {Q : Exit → Act → World → Prop} {W : World} {b : Builtin} {xs : Array Operand} {ts : Array TypeId} (_ho : o.op = .call { callee := .builtin b, args := xs, argTypes := ts }) (h : wpList P ops Q (o :: rest) a W) : wpList P ops Q (o :: rest) a W := h
theorem wrap_id2 {x : Int} (h0 : -9223372036854775808 ≤ x) (h1 : x ≤ 9223372036854775807) : wrap64 x = x := by unfold wrap64; omega
theorem wrap_more {n : Nat} (h : n ≤ 4611686018427387903) : wrap64 ((n : Int) + 1) = (n : Int) + 1 := wrap_id2 (by omega) (by omega)
theorem wrap_less {n i : Nat} (h : n ≤ 4611686018427387903) (hi : i ≤ n) : wrap64 ((n : Int) + 1 - (i : Int)) = (n : Int) + 1 - (i : Int) := wrap_id2 (by omega) (by omega)
theorem kwrap_more {n : Nat} (h : n ≤ 4611686018427387903) : IntKind.i64.wrap ((n : Int) + 1) = (n : Int) + 1 := by rw [IntKind.wrap_i64]; omega
/-! ### cells set one behind the other -/
def putAt (cs : Array Value) : Nat → List Value → Array Value
  | _, [] => cs
  | o, v :: r => putAt (cs.setIfInBounds o v) (o + 1) r
theorem putAt_size (cs : Array Value) (o : Nat) (vs : List Value) : (putAt cs o vs).size = cs.size := by
  induction vs generalizing cs o with
  | nil => rfl
  | cons v r ih => rw [putAt, ih, Array.size_setIfInBounds]
theorem putAt_list (cs : Array Value) (o : Nat) (vs : List Value) (h : o + vs.length ≤ cs.size) : (putAt cs o vs).toList = cs.toList.take o ++ vs ++ cs.toList.drop (o + vs.length) := by
  induction vs generalizing cs o with
  | nil => simp [putAt]
  | cons v r ih =>
    simp only [List.length_cons] at h ⊢
    have ho : o < cs.toList.length := by simp; omega
    rw [putAt, ih _ _ (by simp; omega), Array.toList_setIfInBounds, List.take_set, List.drop_set_of_lt (by omega), List.take_succ_eq_append_getElem ho, List.set_append_right _ _ (by simp; omega)]
    have e : o - (cs.toList.take o).length = 0 := by simp; omega
    rw [e, show o + 1 + r.length = o + (r.length + 1) by omega]
    simp
theorem setCells_blk {w : World} {g : Nat} {cs : Array Value} {t : TypeId} (hb : w.heap[g]? = some (.cells cs t (0, 0))) (o : Nat) (vs : List Value) : (w.setCells g o vs).heap[g]? = some (.cells (putAt cs o vs) t (0, 0)) := by
  induction vs generalizing w cs o with
  | nil => exact hb
  | cons v r ih =>
    rw [World.setCells, putAt]
    exact ih (by simpa using blk_set hb o v) (o + 1)
theorem setCells_blk' {w : World} {g : Nat} {cs : Array Value} {t : TypeId} {fr : Nat × Nat} (hb : w.heap[g]? = some (.cells cs t fr)) (o : Nat) (vs : List Value) : (w.setCells g o vs).heap[g]? = some (.cells (putAt cs o vs) t fr) := by
  induction vs generalizing w cs o with
  | nil => exact hb
  | cons v r ih =>
    rw [World.setCells, putAt]
    refine ih ?_ (o + 1)
    obtain ⟨hg, hg2⟩ := Array.getElem?_eq_some_iff.1 hb
    simp [World.setCell, hg, Array.getElem_modify, hg2]
theorem blk_thawed {w : World} {g j : Nat} {cs : Array Value} {t : TypeId} {fr : Nat × Nat} (hb : w.heap[g]? = some (.cells cs t fr)) (hf : fr.2 ≤ fr.1 ∨ cs.size ≤ fr.1) (hj : j < cs.size) : w.frozen? ⟨g, j, none⟩ = false := by
  obtain ⟨lo, hi⟩ := fr
  simp only [World.frozen?, hb, Bool.and_eq_false_iff, decide_eq_false_iff_not]
  simp only at hf
  omega
theorem setCells_other (w : World) {g k : Nat} (hk : k ≠ g) (o : Nat) (vs : List Value) : (w.setCells g o vs).heap[k]? = w.heap[k]? := by
  induction vs generalizing w o with
  | nil => rfl
  | cons v r ih =>
    rw [World.setCells, ih]
    exact Below.heap_setCell w ⟨g, o, none⟩ v k hk
theorem setCells_below {B : Nat} {w0 w : World} (h : Below B w0 w) {g : Nat} (hg : B ≤ g) (o : Nat) (vs : List Value) : Below B w0 (w.setCells g o vs) := by
  induction vs generalizing w o with
  | nil => exact h
  | cons v r ih =>
    rw [World.setCells]
    exact ih (h.setCell (p := ⟨g, o, none⟩) hg v) (o + 1)
theorem setCells_size (w : World) (g o : Nat) (vs : List Value) : (w.setCells g o vs).heap.size = w.heap.size := by
  induction vs generalizing w o with
  | nil => rfl
  | cons v r ih =>
    rw [World.setCells, ih]
    simp [World.setCell]
theorem cell_row {w : World} {g : Nat} {cs : Array Value} {t : TypeId} {fr : Nat × Nat} (hb : w.heap[g]? = some (.cells cs t fr)) (j : Nat) : w.cell? ⟨g, j, none⟩ = cs[j]? := by simp [World.cell?, hb]
theorem frozen_row {w : World} {g : Nat} {cs : Array Value} {t : TypeId} (hb : w.heap[g]? = some (.cells cs t (0, 0))) (j : Nat) : w.frozen? ⟨g, j, none⟩ = false := blk_frozen hb j
/-! ### slices.Delete(s, i, i + 1) -/
theorem clear_run (w : World) (ty g o n c : Nat) (hn : 0 < n) (hc : ∀ j, j < n * 2 → (w.cell? ⟨g, o + j, none⟩).isSome = true) (hf : ∀ j, j < n * 2 → w.frozen? ⟨g, o + j, none⟩ = false) :
    (Builtin.clear_ #[41] ty #[.slice (some ⟨g, o, none⟩) n c]).run Tryz.prog w = .ok (.tuple #[]) (w.setCells g o (Builtin.zeroCells #[.string ⟨#[]⟩, .string ⟨#[]⟩] n).toList) := by
  have hl : (Builtin.zeroCells #[Value.string ⟨#[]⟩, Value.string ⟨#[]⟩] n).toList.length = n * 2 := by simp [Builtin.zeroCells]
  have hst := run_storeCells_cells (P := Tryz.prog) g o (Builtin.zeroCells #[.string ⟨#[]⟩, .string ⟨#[]⟩] n).toList 0 w (by rw [hl]; simpa using hc) (by rw [hl]; simpa using hf) (by
    intro v hv
    simp only [Builtin.zeroCells] at hv
    obtain ⟨j, hj, rfl⟩ := List.mem_iff_getElem.1 hv
    simp
    rcases Nat.mod_two_eq_zero_or_one j with h | h <;> simp [h] <;> rfl)
  simp only [Nat.add_zero] at hst
  have hv : ∀ w, (zeroValue 82).run Tryz.prog w = .ok (.agg #[.string ⟨#[]⟩, .string ⟨#[]⟩]) w := Tryz.zeroValue82
  obtain ⟨m, rfl⟩ : ∃ m, n = m + 1 := ⟨n - 1, by omega⟩
  have hcells : (Value.agg #[.string ⟨#[]⟩, .string ⟨#[]⟩]).cells = #[.string ⟨#[]⟩, .string ⟨#[]⟩] := rfl
  simp [Builtin.clear_, run_underlying Tryz.underlying41, hv, hcells, hst]
set_option maxHeartbeats 4000000 in
set_option maxRecDepth 1000000 in
theorem delete_raw (g o n cap i : Nat) (cur : Array Value) (et : TypeId) (fr : Nat × Nat) (row : List Value) (w : World) (hb : w.heap[g]? = some (.cells cur et fr)) (hfr : fr.2 ≤ fr.1 ∨ cur.size ≤ fr.1) (hc : o + cap * 2 ≤ cur.size) (hn : n ≤ cap) (hi : i < n) (hrl : row.length = n * 2) (hrow : ∀ (j : Nat) (v : Value), row[j]? = some v → cur[o + j]? = some v) (h1 : ∀ v ∈ row, v.oneCell' = true) :
    Calls Tryz.prog 136 #[.slice (some ⟨g, o, none⟩) n cap, .int .i64 i, .int .i64 ((i + 1 : Nat) : Int)] w fun e w' => e = .returned (.slice (some ⟨g, o, none⟩) (n - 1) cap) ∧
      w' = (w.drew.setCells g (o + i * 2) (row.drop ((i + 1) * 2))).setCells g (o + (n - 1) * 2) [.string ⟨#[]⟩, .string ⟨#[]⟩] := by
  obtain ⟨i0, hi0, hz0, hz1, hz2⟩ := info_parts (show (Tryz.prog.info? 82).map (fun i => (i.zero, i.size, i.bytes)) = some (some (.agg #[.string ⟨#[]⟩, .string ⟨#[]⟩]), 2, 32) by kernel_rfl)
  obtain ⟨news, hnews⟩ : ∃ news, news = row.drop ((i + 1) * 2) := ⟨_, rfl⟩
  have hlen : news.length = (n - (i + 1)) * 2 := by rw [hnews, List.length_drop, hrl]; omega
  have hget : ∀ (t : Nat) (u : Value), news[t]? = some u → cur[o + (i + 1) * 2 + t]? = some u := by
    intro t u hu
    rw [hnews, List.getElem?_drop] at hu
    have := hrow _ _ hu
    rwa [← Nat.add_assoc] at this
  rw [← hnews]
  obtain ⟨A, hA, hsrc⟩ : ∃ A : Addr, (if cap = i + 1 then some (⟨g, o, none⟩ : Addr) else some ⟨g, o + (i + 1) * 2, none⟩) = some A ∧ Aside0 (∀ t u, news[t]? = some u → w.drew.cell? (A.add t) = some u) := by
    by_cases h : cap = i + 1
    · refine ⟨⟨g, o, none⟩, by simp [h], ⟨fun t u hu => ?_⟩⟩
      have h0 : news.length = 0 := by rw [hlen]; omega
      rw [List.length_eq_zero_iff.1 h0] at hu
      simp at hu
    · refine ⟨⟨g, o + (i + 1) * 2, none⟩, by simp [h], ⟨fun t u hu => ?_⟩⟩
      rw [Addr.add_lit]
      show w.cell? _ = _
      rw [cell_row hb]
      exact hget t u hu
  have s1 : Aside0 (news.length = (n - (i + 1)) * 2) := ⟨hlen⟩
  have s2 : Aside0 (∀ u ∈ news, u.oneCell' = true) := ⟨by
    intro u hu
    rw [hnews] at hu
    exact h1 u (List.mem_of_mem_drop hu)⟩
  have s3 : Aside0 (∀ t, t < news.length → (w.drew.cell? ⟨g, o + i * 2 + t, none⟩).isSome = true ∧ w.drew.frozen? ⟨g, o + i * 2 + t, none⟩ = false) := ⟨by
    intro t ht
    rw [hlen] at ht
    refine ⟨?_, blk_thawed (w := w.drew) hb hfr (by omega)⟩
    show (w.cell? _).isSome = true
    rw [cell_row hb, Array.getElem?_eq_getElem (by omega)]
    rfl⟩
  obtain ⟨W1, hW1⟩ : ∃ W1, W1 = w.drew.setCells g (o + i * 2) news := ⟨_, rfl⟩
  have hb1 : W1.heap[g]? = some (.cells (putAt cur (o + i * 2) news) et fr) := by
    rw [hW1]
    exact setCells_blk' (w := w.drew) hb _ _
  have hcl : ∀ ty c, (Builtin.clear_ #[41] ty #[.slice (some ⟨g, o + (n - 1) * 2, none⟩) (n - (n - 1)) c]).run Tryz.prog W1 = .ok (.tuple #[]) (W1.setCells g (o + (n - 1) * 2) [.string ⟨#[]⟩, .string ⟨#[]⟩]) := fun ty c => by
    rw [show n - (n - 1) = 1 by omega, clear_run W1 ty g (o + (n - 1) * 2) 1 c (by omega) (fun j hj => by rw [cell_row hb1, Array.getElem?_eq_getElem (by rw [putAt_size]; omega)]; rfl) (fun j hj => blk_thawed hb1 (by rw [putAt_size]; exact hfr) (by rw [putAt_size]; omega))]
    have hz : (Builtin.zeroCells #[Value.string ⟨#[]⟩, Value.string ⟨#[]⟩] 1).toList = [.string ⟨#[]⟩, .string ⟨#[]⟩] := by
      apply List.ext_getElem
      · simp [Builtin.zeroCells]
      · intro j h1 h2
        have hj : j < 2 := by simpa using h2
        rcases (show j = 0 ∨ j = 1 by omega) with rfl | rfl <;> simp [Builtin.zeroCells]
    rw [hz]
  have hW : Aside0 (W1 = w.drew.setCells g (o + i * 2) news) := ⟨hW1⟩
  have hic : i ≤ cap := by omega
  have hjc : i + 1 ≤ cap := by omega
  have hin : i ≤ n := by omega
  have hjn : i + 1 ≤ n := by omega
  have hne : ¬ (i = i + 1) := by omega
  have hsum : i + (n - (i + 1)) = n - 1 := by omega
  have hj0 : (0 : Int) ≤ (i : Int) + 1 := by omega
  have hj1 : (i : Int) + 1 ≤ (n : Int) := by omega
  have mixed : Tryz.prog.follows Departure.mixedOrders = true := by kernel_rfl
  clear hW1 hb1 hb hget hnews hlen h1 hrow hrl hfr hc
  go_enter Tryz.func136, Tryz.ntmps136
  go_wp2_with fail
  go_region_law_o (refine step_append_room rfl (.tmp 22) (.tmp 25) 41 rfl 82 i0 2 Tryz.underlying41 hi0 hz1 g o i cap (by simp [Act.eval, Act.put]) A (n - (i + 1)) (cap - (i + 1)) news (by simp [Act.eval, Act.put]) s1.out hsrc.out s2.out (by omega) s3.out ?_; rw [← hW.out])
  go_wp2
  go_ret
  exact ⟨rfl, by rw [hW.out]⟩
end Go.Proofs.YtcpecilmkkmaiaaGreatX
