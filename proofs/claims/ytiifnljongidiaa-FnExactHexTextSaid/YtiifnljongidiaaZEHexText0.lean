/- The proof of FnExactHexText: a part of it. No condition beyond the statement's own. -/
import Derived.WalkKit
import Derived.Lib.ConvBytes
import Derived.Lib.AppendStr
import Derived.Laws.AppendOwn
import Derived.Test.YtiifnljongidiaaZEHexTextWWords
import Derived.Test.YtiifnljongidiaaZEHexTextWMore
import Derived.Test.YtiifnljongidiaaZEHexTextWKept
import Derived.Shelf.Strings.Builder1
import Derived.Shelf.Strings.BuilderF
import Derived.Shelf.Strings.BuilderK
import Derived.Shelf.Strings.BuilderCap
import Derived.Test.YtiifnljongidiaaProg
import Derived.KernelRfl
import Derived.Test.YtiifnljongidiaaZEHexTextWLast
import Derived.Laws.BitsLemmas
import Derived.Below
import Derived.Deep.Draws
import Derived.Deep.AppendLies
import Derived.Maps.AppendAt
import Derived.OwnWalk
import Derived.Laws.BytesArg
import Derived.Laws.MakeOwn
import Derived.Laws.OwnMore
import Derived.Deep.OwnRows
import Derived.Tactics
import Derived.Laws.Slices
import Derived.RowKit3
import Derived.Deep.LoopGhost
import Derived.Deep.QuietTactic
import Derived.BigQuiet
import Derived.WideLaws
import Derived.Deep.DeepCutAuto
import Derived.Deep.CutBlock
import Derived.Deep.RegionHeld3
import Derived.Laws.Rows
import Derived.ArgAppend
import Derived.Laws.IdiomCopy
import Derived.OrdersHeld
import Derived.RowKit
import Derived.Test.YtiifnljongidiaaZEHexTextWTab
import Derived.Test.YtiifnljongidiaaZEHexTextWFour
import Derived.Test.YtiifnljongidiaaZEHexTextWQPut
import Derived.Test.YtiifnljongidiaaZEHexTextWApart
import Derived.Test.YtiifnljongidiaaZEHexTextWArr
import Derived.Test.YtiifnljongidiaaZEHexTextWZeros
import Derived.Test.YtiifnljongidiaaZEHexTextWFoot
import Derived.Test.YtiifnljongidiaaZEHexTextWShare
import Derived.Test.YtiifnljongidiaaZEHexTextWN
import Derived.Test.YtiifnljongidiaaZEHexTextWFootNe
import Derived.Test.YtiifnljongidiaaZEHexTextWAt
import Derived.Test.YtiifnljongidiaaZEHexTextWEqStruct
import Derived.Test.YtiifnljongidiaaZEHexTextWRepsOne
import Derived.Test.YtiifnljongidiaaZEHexTextWInv
import Derived.Test.YtiifnljongidiaaZEHexTextWInvWords
import Derived.Test.YtiifnljongidiaaZEHexTextWGuard
import Derived.Test.YtiifnljongidiaaZEHexTextWNEv
import Derived.OpenShut
import Derived.Test.YtiifnljongidiaaRows
import Derived.ProofKit
import Derived.ShutString
import Derived.ChangeOld
import Derived.SizedLaws
namespace Go.Proofs.YtiifnljongidiaaX
open Go.RowKit Go.Proofs.YtiifnljongidiaaW.PrintWords Go.Proofs.YtiifnljongidiaaW.PrintMore
@[simp] theorem bne_nil_bytes (l : List UInt8) : (l != ([] : List UInt8)) = !l.isEmpty := by cases l <;> rfl
@[simp] theorem beq_nil_bytes (l : List UInt8) : (l == ([] : List UInt8)) = l.isEmpty := by cases l <;> rfl
theorem conv_row (w : World) (e base : Nat) (s : ByteArray) (h : s.size ≤ 140737488355328) :
    Kd.V (Kd.int .u8) e (Lib.bytesWorld w e s) base (fun k_ => w.heap.size ≤ k_) (.slice (some ⟨w.heap.size, 0, none⟩) s.size (grownCap w s.size 0 e)) (bytesOf s) := by
  have hl : (bytesOf s).length = s.size := bytesOf_length s
  refine ⟨some ⟨w.heap.size, 0, none⟩, grownCap w s.size 0 e, by rw [hl], by rw [hl]; exact grownCap_ge w s.size 0 e, ?_⟩
  intro W' hW
  have hb : W'.heap[w.heap.size]? = (Lib.bytesWorld w e s).heap[w.heap.size]? := hW _ (Nat.le_refl _) (by rw [Lib.bytesWorld_size]; omega)
  refine ⟨rfl, by rw [hl]; omega, fun _ => ⟨_, rfl, fun j p hj => ⟨[.int .u8 p], rfl, rfl, fun i u hu => ?_⟩⟩⟩
  have hjl := (List.getElem?_eq_some_iff.1 hj).1
  rw [hl] at hjl
  have hi : i = 0 := by
    have := (List.getElem?_eq_some_iff.1 hu).1
    simp at this
    exact this
  subst hi
  have hu' : (Value.int .u8 p) = u := by simpa using hu
  subst hu'
  have e1 : W'.cell? ⟨w.heap.size, j, none⟩ = (Lib.bytesWorld w e s).cell? ⟨w.heap.size, j, none⟩ := by
    simp only [World.cell?, hb]
  have e2 : (⟨w.heap.size, 0, none⟩ : Addr).add (j * 1 + 0) = ⟨w.heap.size, j, none⟩ := by
    unfold Addr.add
    by_cases h0 : j = 0 <;> simp [h0]
  show W'.cell? ((⟨w.heap.size, 0, none⟩ : Addr).add (j * 1 + 0)) = some (.int .u8 p)
  rw [e2, e1, Lib.bytesWorld_cell w e s j hjl]
  have hp : p = ((s.data.toList.getD j 0).toNat : Int) := by
    simp only [bytesOf, List.getElem?_map] at hj
    obtain ⟨b, hb1, hb2⟩ := Option.map_eq_some_iff.1 hj
    rw [List.getD_eq_getElem?_getD, hb1]
    exact hb2.symm
  rw [hp]
theorem conv_below (w : World) (e : Nat) (s : ByteArray) : Below w.heap.size w (Lib.bytesWorld w e s) where
  os := by simp [Lib.bytesWorld, World.freeze, World.alloc, World.drew, -World.alloc_eq, -World.drew_eq]
  tape := by simp [Lib.bytesWorld, World.freeze, World.alloc, World.drew, -World.alloc_eq, -World.drew_eq]
  output := by simp [Lib.bytesWorld, World.freeze, World.alloc, World.drew, -World.alloc_eq, -World.drew_eq]
  size := by rw [Lib.bytesWorld_size]; omega
  block := fun k hk => Lib.bytesWorld_at_old w e s k hk
section
variable {P : Program} {ops : Array Oper} {rest : List Oper} {o : Oper} {a : Act} {Q : Exit → Act → World → Prop} {Kc : Act → World → Prop}
end
section
variable {P : Program} {ops : Array Oper} {rest : List Oper} {o : Oper} {a : Act} {Q : Exit → Act → World → Prop}
end
end Go.Proofs.YtiifnljongidiaaX
namespace Go.Proofs
open Go.Shelf
def Try.lays169_ren : Go.Shelf.Ren := ⟨fun | 169 => 8 | n => n, fun | 70 => 26 | 9 => 9 | 0 => 0 | 72 => 28 | 37 => 24 | 127 => 34 | 3 => 3 | 5 => 5 | n => n, fun | n => n⟩
theorem Try.lays169 : Go.Proofs.Lays.n169 Try.prog Try.lays169_ren := {
  mixed := by kernel_rfl
  f169 := Try.func8.trans (congrArg some (by kernel_rfl))
  t0 := Try.underlying0
  a0 := Try.isAgg0
  z0 := Try.sizeOf0
  v0 := Try.zeroValue0
  t3 := Try.underlying3
  a3 := Try.isAgg3
  z3 := Try.sizeOf3
  v3 := Try.zeroValue3
  t9 := Try.underlying9
  a9 := Try.isAgg9
  z9 := Try.sizeOf9
  v9 := Try.zeroValue9
  t37 := Try.underlying24
  a37 := Try.isAgg24
  z37 := Try.sizeOf24
  v37 := Try.zeroValue24
  t70 := Try.underlying26
  a70 := Try.isAgg26
  z70 := Try.sizeOf26
  v70 := Try.zeroValue26
  t72 := Try.underlying28
  a72 := Try.isAgg28
  z72 := Try.sizeOf28
  v72 := Try.zeroValue28
  t127 := Try.underlying34
  a127 := Try.isAgg34
  z127 := Try.sizeOf34
  v127 := Try.zeroValue34 }
theorem Try.Builder_Extra_169 : Builder.Extra Try.prog Try.lays169_ren := {
  sizeBuilder := by kernel_rfl
  liesBuilder := by kernel_rfl
  t5 := Try.underlying5
  a5 := Try.isAgg5
  z5 := Try.sizeOf5
  v5 := Try.zeroValue5
  infoByte := by kernel_rfl
  cellsByte := by kernel_rfl
  sizeByte := by kernel_rfl
  neB5 := by decide }
open Go.RowKit in
theorem Try.Builder_String_any (B b : Nat) (l : List UInt8) (w : World) (h : Lib.IsBuilder 28 5 B b (Lib.byteCells l) w) (hBw : B ≤ w.heap.size) :
    Calls Try.prog 8 #[.pointer (some ⟨b, 0, none⟩)] w fun e w' => e = .returned (.string ⟨l.toArray⟩) ∧ Below B w w' := Any.Builder_String_any Try.lays169 Try.Builder_Extra_169 B b l w h hBw
end Go.Proofs
namespace Go.Proofs.YtiifnljongidiaaX
open Go.Shelf Go.Proofs
def ren167 : Go.Shelf.Ren := ⟨fun | 167 => 7 | 240 => 9 | 276 => 10 | n => n, fun | 37 => 24 | 70 => 26 | 72 => 28 | 75 => 30 | 80 => 33 | 164 => 35 | n => n, fun | n => n⟩
set_option maxHeartbeats 2000000 in
set_option maxRecDepth 100000 in
theorem lays167 : Go.Proofs.Lays.n167 Try.prog ren167 := {
  mixed := by kernel_rfl
  f167 := Try.func7.trans (congrArg some (by kernel_rfl))
  f240 := Try.func9.trans (congrArg some (by kernel_rfl))
  f276 := Try.func10.trans (congrArg some (by kernel_rfl))
  t0 := Try.underlying0
  a0 := Try.isAgg0
  z0 := Try.sizeOf0
  v0 := Try.zeroValue0
  t4 := Try.underlying4
  a4 := Try.isAgg4
  z4 := Try.sizeOf4
  v4 := Try.zeroValue4
  t5 := Try.underlying5
  a5 := Try.isAgg5
  z5 := Try.sizeOf5
  v5 := Try.zeroValue5
  t9 := Try.underlying9
  a9 := Try.isAgg9
  z9 := Try.sizeOf9
  v9 := Try.zeroValue9
  t20 := Try.underlying20
  a20 := Try.isAgg20
  z20 := Try.sizeOf20
  v20 := Try.zeroValue20
  t37 := Try.underlying24
  a37 := Try.isAgg24
  z37 := Try.sizeOf24
  v37 := Try.zeroValue24
  t70 := Try.underlying26
  a70 := Try.isAgg26
  z70 := Try.sizeOf26
  v70 := Try.zeroValue26
  t72 := Try.underlying28
  a72 := Try.isAgg28
  z72 := Try.sizeOf28
  v72 := Try.zeroValue28
  t75 := Try.underlying30
  a75 := Try.isAgg30
  z75 := Try.sizeOf30
  v75 := Try.zeroValue30
  t164 := Try.underlying35
  a164 := Try.isAgg35
  z164 := Try.sizeOf35
  v164 := Try.zeroValue35 }
theorem extra167 : Builder.Extra Try.prog ren167 where
  sizeBuilder := by kernel_rfl
  liesBuilder := by kernel_rfl
  t5 := Try.underlying5
  a5 := Try.isAgg5
  z5 := Try.sizeOf5
  v5 := Try.zeroValue5
  infoByte := by kernel_rfl
  cellsByte := by kernel_rfl
  sizeByte := by kernel_rfl
  neB5 := by decide
def Marked (w w' : World) : Prop := ∀ (k : Nat) (cs : Array Value) (t : TypeId) (fz : Nat × Nat), w.heap[k]? = some (.cells cs t fz) → fz ≠ (0, 0) → w'.heap[k]? = some (.cells cs t fz)
theorem Marked.refl (w : World) : Marked w w := fun _ _ _ _ h _ => h
theorem Marked.trans {a b c : World} (h : Marked a b) (k : Marked b c) : Marked a c := fun i cs t fz hi hn => k i cs t fz (h i cs t fz hi hn) hn
theorem marked_ne {w : World} {b k : Nat} {cs ds : Array Value} {t u : TypeId} {fz : Nat × Nat} (hb : w.heap[b]? = some (.cells ds u (0, 0))) (h : w.heap[k]? = some (.cells cs t fz)) (hn : fz ≠ (0, 0)) : k ≠ b := by
  rintro rfl
  rw [hb] at h
  injection h with h
  injection h with _ _ h
  exact hn h.symm
theorem marked_set {w : World} {b : Nat} {ds : Array Value} {u : TypeId} (hb : w.heap[b]? = some (.cells ds u (0, 0))) (j : Nat) (x : Value) : Marked w (w.setCell ⟨b, j, none⟩ x) := fun k _ _ _ h hn =>
  (Go.RowKit.Below.heap_setCell w ⟨b, j, none⟩ x k (marked_ne hb h hn)).trans h
open Go.RowKit in
set_option maxHeartbeats 4000000 in
set_option maxRecDepth 100000 in
theorem writeByte (B b : Nat) (bs : List Value) (c : Int) (w : World) (h : Lib.IsBuilder 28 5 B b bs w) (hlen : bs.length + 1 ≤ 140737488355328) (hBw : B ≤ w.heap.size) :
    Calls Try.prog 7 #[.pointer (some ⟨b, 0, none⟩), .int .u8 c] w fun e w' => e = .returned .nilIface ∧ Lib.IsBuilder 28 5 B b (bs ++ [.int .u8 c]) w' ∧ Below B w w' ∧ Marked w w' := by
  have L240 : Go.Proofs.Lays.n240 Try.prog ren167 := { lays167 with }
  obtain ⟨i0, hi, hz0, hz1, hz2⟩ := info_parts extra167.infoByte
  have cc : Calls Try.prog 9 #[.pointer (some ⟨b, 0, none⟩)] w fun e w' => e = .returned (.tuple #[]) ∧ (Lib.BuilderAt 28 5 B b (.pointer (some ⟨b, 0, none⟩)) bs w' ∧ Below B w w' ∧ Marked w w') := by
    rcases h with h | h
    · refine (Any.Builder_copyCheck_fresh L240 extra167.toX72 b w h.cell0 h.shape h.frozen0).mono ?_
      rintro e w' ⟨rfl, rfl⟩
      obtain ⟨_, v, hb, _⟩ := id h
      exact ⟨rfl, h.used _, (Below.refl B w).setCell (p := ⟨b, 0, none⟩) h.1 _, marked_set hb 0 _⟩
    · refine (Any.Builder_copyCheck_used L240 extra167.toX72 b w h.cell0).mono ?_
      rintro e w' ⟨rfl, rfl⟩
      exact ⟨rfl, h, Below.refl B _, Marked.refl _⟩
  clear h
  have e9_ : ∀ args w, (callFunc 9 args).run Try.prog w = .ok (.enter 9 args) w := enters_of Try.func9 (by kernel_rfl) rfl
  have u28 := Try.underlying28
  go_enter Try.func7, Try.ntmps7
  go_wp2_with (go_at_fn 9; refine cc.mono ?_)
  rintro e w1 ⟨rfl, h1, hb1, hm1⟩
  obtain ⟨hB, v, hbk, hown, hne⟩ := h1
  have c0 : w1.cell? ⟨b, 0, none⟩ = some (.pointer (some ⟨b, 0, none⟩)) := by rw [Lib.cell_of_heap hbk]; rfl
  have c1 : w1.cell? ⟨b, 1, none⟩ = some v := by rw [Lib.cell_of_heap hbk]; rfl
  go_wp2_with (at_builtin; refine wpList_append_own _ rfl _ _ 24 rfl B 5 i0 (.int .u8 0) 1 1 Try.underlying24 hi hz0 hz1 hz2 rfl (by decide) _ _ _ rfl (hown.alloc _) ⟨w1.heap.size, 0, none⟩ 1 1 [.int .u8 c] rfl rfl ?c1 ?c2 ?c3 ?c4 ?c5 ?_)
  case c1 =>
    intro j u hj
    match j, hj with
    | 0, hj => simp at hj; subst hj; simp [Addr.add]
  case c2 => intro u hu; simp at hu; subst hu; rfl
  case c3 => unfold maxLen; omega
  case c4 => omega
  case c5 => have := hb1.size; simp; omega
  intro v' w2 hown' hgrow _
  have hlt : b < w1.heap.size := by
    rcases Nat.lt_or_ge b w1.heap.size with h' | h'
    · exact h'
    · simp [Array.getElem?_eq_none h'] at hbk
  have hb2 : w2.heap[b]? = some (.cells #[.pointer (some ⟨b, 0, none⟩), v] 28 (0, 0)) := by
    rw [hgrow.block b (by simp; omega) (fun e => hne e.symm), Lib.alloc_old w1 _ b hlt]
    exact hbk
  have d0 : w2.cell? ⟨b, 0, none⟩ = some (.pointer (some ⟨b, 0, none⟩)) := by rw [Lib.cell_of_heap hb2]; rfl
  have d1 : w2.cell? ⟨b, 1, none⟩ = some v := by rw [Lib.cell_of_heap hb2]; rfl
  have f1 : w2.frozen? ⟨b, 1, none⟩ = false := Lib.frozen_of_heap hb2 1
  have hm2 : Marked w1 w2 := by
    intro k cs t fz hk hn
    have hklt : k < w1.heap.size := by
      rcases Nat.lt_or_ge k w1.heap.size with h' | h'
      · exact h'
      · rw [Array.getElem?_eq_none h'] at hk
        cases hk
    rw [hgrow.block k (by simp; omega) ?_, Lib.alloc_old w1 _ k hklt]
    · exact hk
    · intro he
      rcases hown.2 with ⟨hv, _⟩ | ⟨g, cap, cur, hv, _, hg, _⟩
      · rw [hv] at he
        simp [Value.ownBlock] at he
      · rw [hv] at he
        obtain rfl : k = g := by simpa [Value.ownBlock] using he
        exact marked_ne hg hk hn rfl
  obtain ⟨g, cap, rfl⟩ : ∃ g cap, v' = .slice (some ⟨g, 0, none⟩) (bs.length + 1) cap := by
    rcases hown'.2 with ⟨_, h0⟩ | ⟨g, cap, cur, hv, _⟩
    · omega
    · exact ⟨g, cap, hv⟩
  go_wp2
  go_ret
  refine ⟨rfl, .inr (Lib.BuilderAt.put (T := 28) (e := 5) hB hb2 (bs' := bs ++ [.int .u8 c]) (by simpa using hown') (by decide)), ?_, (hm1.trans hm2).trans (marked_set hb2 1 _)⟩
  exact ((hb1.alloc (by have := hb1.size; omega) _).grown hgrow (by have := hb1.size; simp; omega) (fun k hk => (hown.lt k hk).1)).setCell (p := ⟨b, 1, none⟩) hB _
end Go.Proofs.YtiifnljongidiaaX
namespace Go.Proofs.YtiifnljongidiaaX
open Go.RowKit Go.Proofs.YtiifnljongidiaaW.PrintWords Go.Proofs.YtiifnljongidiaaW.PrintMore
def hexTab : ByteArray := ⟨#[48, 49, 50, 51, 52, 53, 54, 55, 56, 57, 97, 98, 99, 100, 101, 102]⟩
def hexL (l : List Int) : List Int := l.flatMap fun x => [bt hexTab (x / 16), bt hexTab (Go.bits .and .u8 x 15)]
def hexText (a0 : ByteArray) : Option ByteArray := if (a0.size : Int) > 3000 then some ⟨#[]⟩ else some (strOfNums (hexL (bytesOf a0)))
section
variable {P : Program} {ops : Array Oper} {rest : List Oper} {o : Oper} {a : Act} {Q : Exit → Act → World → Prop}
theorem conv_raw {W : World} (hgd : o.guard = none) {N : Tmp} (_hd : o.dst = some N) (src dst e : Nat) {x : Operand} (ho : o.op = .convert src dst x) (s : ByteArray) (hx : a.eval x = .string s)
    {u : TypeDesc} (hs : P.underlying src = some u) (hd : P.underlying dst = some (.slice e)) (he : P.underlying e = some (.int .u8))
    (h : ∀ w1 gr cap, gr = W.heap.size → s.size ≤ cap → w1 = Lib.bytesWorld W e s → wpList P ops Q rest (a.put o.dst (.slice (some ⟨gr, 0, none⟩) s.size cap)) w1) : wpList P ops Q (o :: rest) a W := by
  have run := Lib.run_convert_string_bytes W src dst e s hs hd he
  have run2 : (execOp a.eval o).run P W = .ok (.value (.slice (some ⟨W.heap.size, 0, none⟩) s.size (grownCap W s.size 0 e))) (Lib.bytesWorld W e s) := by
    simp [execOp, ho, hx, run]
  exact Kd.event_run hgd run2 (h _ _ _ rfl (grownCap_ge W s.size 0 e) rfl)
end
theorem row_told (W : World) (e : Nat) (s : ByteArray) (hs : s.size ≤ 3000) : ∃ cs fz, fz ≠ (0, 0) ∧ (Lib.bytesWorld W e s).heap[W.heap.size]? = some (.cells cs e fz) ∧
    ∀ W' : World, W'.heap[W.heap.size]? = some (.cells cs e fz) → Kd.C (Kd.int .u8) W' (some ⟨W.heap.size, 0, none⟩) s.size (bytesOf s) := by
  refine ⟨_, _, ?_, Lib.bytesWorld_at_new W e s, fun W' hW => ?_⟩
  · intro h
    injection h with _ h
    cases h
  · obtain ⟨A, c, hv, _, hf⟩ := conv_row W e 0 s (by omega)
    injection hv with hA hl _
    subst hA
    have := hf W' (fun k hk hlt => by
      rw [Lib.bytesWorld_size] at hlt
      obtain rfl : k = W.heap.size := by omega
      rw [hW, Lib.bytesWorld_at_new])
    rwa [bytesOf_length] at this
theorem hex_length (l : List Int) : (hexL l).length = 2 * l.length := by
  induction l with
  | nil => rfl
  | cons x l ih => rw [hexL, List.flatMap_cons, List.length_append, ← hexL, ih]; simp; omega
theorem hex_take (l : List Int) {i : Nat} (h : i < l.length) : hexL (l.take (i + 1)) = hexL (l.take i) ++ [bt hexTab (l[i] / 16), bt hexTab (Go.bits .and .u8 l[i] 15)] := by
  unfold hexL
  rw [List.take_succ_eq_append_getElem h, List.flatMap_append, List.flatMap_singleton]
theorem bt_range (s : ByteArray) (i : Int) : 0 ≤ bt s i ∧ bt s i ≤ 255 := by
  unfold bt
  split
  · rename_i hi
    have := UInt8.toNat_lt s[i.toNat]
    omega
  · omega
theorem hex_range (l : List Int) : ∀ y ∈ hexL l, 0 ≤ y ∧ y ≤ 255 := by
  intro y hy
  unfold hexL at hy
  obtain ⟨x, _, hx⟩ := List.mem_flatMap.1 hy
  simp only [List.mem_cons, List.not_mem_nil, or_false] at hx
  rcases hx with rfl | rfl <;> exact bt_range ..
theorem cells_back (l : List Int) (h : ∀ y ∈ l, 0 ≤ y ∧ y ≤ 255) : nums .u8 l = Lib.byteCells (l.map fun n => UInt8.ofNat n.toNat) := by
  unfold nums Lib.byteCells
  rw [List.map_map]
  apply List.map_congr_left
  intro y hy
  have := h y hy
  simp
  omega
set_option maxHeartbeats 8000000 in
set_option maxRecDepth 100000 in
theorem hexText_calls (a0 : ByteArray) (r : ByteArray) (w : World) (h : hexText a0 = some r) :
    Calls Try.prog 5 #[.string a0] w fun e w' => e = .returned (.string r) ∧ Below w.heap.size w w' := by
  unfold hexText at h
  by_cases hbig : (a0.size : Int) > 3000
  · rw [if_pos hbig] at h
    obtain rfl := Option.some.inj h
    have hb0 : decide (3000 < (a0.size : Int)) = true := decide_eq_true hbig
    clear hbig h
    go_enter Try.func5, Try.ntmps5
    go_wp2
    go_ret
    exact ⟨rfl, Below.refl _ _⟩
  · rw [if_neg hbig] at h
    obtain rfl := Option.some.inj h
    have hb0 : decide (3000 < (a0.size : Int)) = false := decide_eq_false hbig
    have hs : a0.size ≤ 3000 := by omega
    have HS := Aside0.mk hs
    clear hbig h hs
    have e7_ : ∀ args w, (callFunc 7 args).run Try.prog w = .ok (.enter 7 args) w := enters_of Try.func7 (by kernel_rfl) rfl
    have e8_ : ∀ args w, (callFunc 8 args).run Try.prog w = .ok (.enter 8 args) w := enters_of Try.func8 (by kernel_rfl) rfl
    go_enter Try.func5, Try.ntmps5
    go_wp2_with (first | ((with_reducible refine gate_dst (N := 3) rfl ?_); refine box_event ?hg (N := 3) ?hd (cs := #[.pointer none, .slice none 0 0]) (t := 28) ?hr ?_; (case hd => rfl); (case hg => rfl); (case hr => first | (go_simp; done) | (go_simp; rfl)); intro gb hg w1 hbox hb; have HG := Aside0.mk hg; have HX := Aside0.mk hbox; have HB := Aside0.mk hb; clear hg hbox hb) | ((with_reducible refine gate_dst (N := 10) rfl ?_); refine conv_raw rfl (N := 10) rfl 9 24 5 rfl a0 (by first | rfl | (go_simp; done) | (go_simp; rfl)) Try.underlying9 Try.underlying24 Try.underlying5 ?_; intro w2 gr cap hgr hcap hw2; have HW2 := Aside0.mk hw2; have HGR := Aside0.mk hgr; clear hw2 hgr hcap))
    have hw2 := HW2.out
    have hgr := HGR.out
    have hold : ∀ k, k < w1.heap.size → w2.heap[k]? = w1.heap[k]? := fun k hk => by rw [hw2]; exact Lib.bytesWorld_at_old w1 5 a0 k hk
    have hgb : gb < w1.heap.size := blk_lt HX.out
    have HX2 := Aside0.mk ((hold gb hgb).trans HX.out)
    obtain ⟨RC, RF, hrf, hrow, hC⟩ := row_told w1 5 a0 HS.out
    rw [← hw2, ← hgr] at hrow
    rw [← hgr] at hC
    have HROW := Aside0.mk hrow
    have hsz2 : w2.heap.size = w1.heap.size + 1 := by rw [hw2, Lib.bytesWorld_size]
    have hbelow : Below w.heap.size w w2 := below_step HB.out (by rw [hw2]; exact conv_below w1 5 a0)
    have hbld : Lib.IsBuilder 28 5 w.heap.size gb (nums .u8 (hexL ((bytesOf a0).take 0))) w2 := by
      refine .inl ⟨by have := HG.out; omega, .slice none 0 0, HX2.out, ⟨by simp [hexL, nums], .inl ⟨rfl, by simp [hexL, nums]⟩⟩, by simp [Value.ownBlock]⟩
    have HB2 := Aside0.mk hbelow
    have HBL := Aside0.mk hbld
    have HCC := Aside0.mk hC
    have HRF := Aside0.mk hrf
    clear hw2 hold hrow hC hbelow hbld hsz2 hgb hgr HB HX HX2 hrf HG HW2 HGR
    go_loopg [12] (a0.size + 1) (fun kq v12 w' => ∃ i : Nat, v12 = .int .i64 (i : Int) ∧ Aside0 (i + kq = a0.size + 1) ∧ Aside0 (i ≤ a0.size) ∧ Aside0 (Lib.IsBuilder 28 5 w.heap.size gb (nums .u8 (hexL ((bytesOf a0).take i))) w') ∧ Aside0 (w'.heap[gr]? = some (.cells RC 5 RF)) ∧ Aside0 (Below w.heap.size w w'))
    case atStart => exact ⟨0, rfl, ⟨by omega⟩, ⟨by omega⟩, HBL, HROW, HB2⟩
    case round =>
      clear HBL HROW HB2
      obtain ⟨i, rfl, HK, HI, HBL, HROW, HB⟩ := hrel
      cases gk with
      | zero => exact absurd HK.out (by have := HI.out; omega)
      | succ k1 =>
        by_cases hlt : i < a0.size
        · have HL := Aside0.mk hlt
          have c0 : (i < a0.size) = True := eq_true hlt
          obtain ⟨ad, had, hxc⟩ := Kd.at_int (HCC.out wr HROW.out) (i : Int) (by omega) (by omega)
          injection had with had
          subst had
          have hlen : i < (bytesOf a0).length := by rw [bytesOf_length]; exact hlt
          have hrd : rd (bytesOf a0) (i : Int) = (bytesOf a0)[i] := by simp [rd, List.getD, hlen]
          have hadd : (⟨gr, 0, none⟩ : Addr).add (i : Int).toNat = ⟨gr, i, none⟩ := by
            unfold Addr.add
            rw [Int.toNat_natCast]
            by_cases h0 : i = 0 <;> simp [h0]
          rw [hadd, hrd] at hxc
          have hxr : 0 ≤ (bytesOf a0)[i] ∧ (bytesOf a0)[i] ≤ 255 := by
            have : (bytesOf a0)[i] ∈ bytesOf a0 := List.getElem_mem hlen
            unfold bytesOf at this
            obtain ⟨b, _, hb⟩ := List.mem_map.1 this
            have := b.toNat_lt
            unfold bytesOf
            omega
          have htake := hex_take (bytesOf a0) hlen
          generalize (bytesOf a0)[i] = x at hxc hxr htake
          clear hlt hlen hrd hadd
          have HTK := Aside0.mk htake
          have HXR := Aside0.mk hxr
          clear htake hxr
          have hand : Go.bits .and .u8 x 15 = x % 16 := Go.u8_and15 x HXR.out.1 (by have := HXR.out.2; omega)
          have p1 : (0 ≤ x / 16) = True := eq_true (by have := HXR.out.1; omega)
          have q1 : (x / 16 < 16) = True := eq_true (by have := HXR.out.2; omega)
          have b1 := bt_at (⟨#[48, 49, 50, 51, 52, 53, 54, 55, 56, 57, 97, 98, 99, 100, 101, 102]⟩ : ByteArray) (x / 16)
          have p2 : (0 ≤ Go.bits .and .u8 x 15) = True := eq_true (by rw [hand]; omega)
          have q2 : (Go.bits .and .u8 x 15 < 16) = True := eq_true (by rw [hand]; omega)
          have b2 := bt_at (⟨#[48, 49, 50, 51, 52, 53, 54, 55, 56, 57, 97, 98, 99, 100, 101, 102]⟩ : ByteArray) (Go.bits .and .u8 x 15)
          clear hand
          have hlen1 : Aside0 ((nums .u8 (hexL ((bytesOf a0).take i))).length + 2 ≤ 6002) := ⟨by
            have h1 := HL.out
            have h2 := HS.out
            rw [nums, List.length_map, hex_length, List.length_take, bytesOf_length]
            omega⟩
          go_wp2_with (go_at_fn 7; refine (writeByte w.heap.size gb _ _ _ HBL.out (by have := hlen1.out; omega) HB.out.size).mono ?_)
          rintro e wA ⟨rfl, hA1, hA2, hA3⟩
          have HBLA := Aside0.mk hA1
          have HBA := Aside0.mk (HB.out.trans hA2)
          have HROWA := Aside0.mk (hA3 _ _ _ _ HROW.out HRF.out)
          clear hA1 hA2 hA3 hxc
          go_wp2_with (go_at_fn 7; refine (writeByte w.heap.size gb _ _ _ HBLA.out (by have := hlen1.out; simp only [List.length_append, List.length_singleton]; omega) HBA.out.size).mono ?_)
          rintro e wB ⟨rfl, hB1, hB2, hB3⟩
          have HBLB := Aside0.mk hB1
          have HBB := Aside0.mk (HBA.out.trans hB2)
          have HROWB := Aside0.mk (hB3 _ _ _ _ HROWA.out HRF.out)
          clear hB1 hB2 hB3
          go_wp2
          go_roundg k1
          case measure => have := HK.out; have := HL.out; omega
          case rel =>
            refine ⟨i + 1, ?_, ⟨by have := HK.out; omega⟩, ⟨by have := HL.out; omega⟩, ?_, HROWB, HBB⟩
            · rw [show wrap64 ((i : Int) + 1) = ((i + 1 : Nat) : Int) from by have := HL.out; have := HS.out; unfold wrap64; omega]
            · refine ⟨?_⟩
              rw [HTK.out, nums_append]
              have := HBLB.out
              rw [List.append_assoc] at this
              exact this
        · have HL := Aside0.mk hlt
          have c0 : (i < a0.size) = False := eq_false hlt
          clear hlt
          have hall : (bytesOf a0).take i = bytesOf a0 := List.take_of_length_le (by rw [bytesOf_length]; have := HL.out; omega)
          rw [hall, cells_back _ (hex_range _)] at HBL
          go_wp2_with (go_at_fn 8; refine (Try.Builder_String_any w.heap.size gb _ _ HBL.out HB.out.size).mono ?_)
          rintro e wA ⟨rfl, hbA⟩
          have HBA := Aside0.mk (HB.out.trans hbA)
          clear hbA
          go_wp2
          go_ret
          exact ⟨rfl, HBA.out⟩
end Go.Proofs.YtiifnljongidiaaX
namespace Go.Proofs.Ytiifnljongidiaa.PHt
open Go.RowKit Go.Proofs.YtiifnljongidiaaW.PrintWords Go.Proofs.YtiifnljongidiaaW.PrintLast Go.Proofs.YtiifnljongidiaaW.PrintMore Go.Proofs.YtiifnljongidiaaX
attribute [local go_sem] max2_int min2_int max_two min_two max_three min_three max_four min_four   -- for this text's walks alone
set_option linter.unusedVariables false
set_option linter.unusedSimpArgs false
def errW : Option Int → Value
  | none => .nilIface
  | some c => .iface 0 (.int .i64 c)
theorem errW_none : errW none = .nilIface := rfl
theorem errW_some (c : Int) : errW (some c) = .iface 0 (.int .i64 c) := rfl
theorem info5 : (Try.prog.info? 5).map (fun i => (i.zero, i.size, i.bytes)) = some (some (.int .u8 0), 1, 1) := by kernel_rfl
end Go.Proofs.Ytiifnljongidiaa.PHt
namespace Go.Proofs.Ytiifnljongidiaa.PHt
open Go.RowKit Go.Proofs.YtiifnljongidiaaW.PrintWords Go.Proofs.YtiifnljongidiaaW.PrintLast Go.Proofs.YtiifnljongidiaaW.PrintMore Go.Proofs.YtiifnljongidiaaX
attribute [local go_sem] max2_int min2_int max_two min_two max_three min_three max_four min_four   -- for this text's walks alone
set_option linter.unusedVariables false
set_option linter.unusedSimpArgs false
def spec_l20Digit.f (a0 : Int) : Option (Int) := if 0 ≤ (Go.bits .and .i64 a0 15) then (if (Go.bits .and .i64 a0 15) < 16 then (some (bt (⟨#[48, 49, 50, 51, 52, 53, 54, 55, 56, 57, 97, 98, 99, 100, 101, 102]⟩ : ByteArray) (Go.bits .and .i64 a0 15))) else (none)) else (none)
set_option maxHeartbeats 8000000 in
set_option maxRecDepth 100000 in
theorem spec_l20Digit.calls (a0 : Int) (r : Int) (w : World) (h : spec_l20Digit.f a0 = some r) :
    Calls Try.prog 6 #[.int .i64 a0] w fun e w' => e = .returned (.int .u8 r) ∧ Drawn0 w w' := by
  have H : (if 0 ≤ (Go.bits .and .i64 a0 15) then (if (Go.bits .and .i64 a0 15) < 16 then (some (bt (⟨#[48, 49, 50, 51, 52, 53, 54, 55, 56, 57, 97, 98, 99, 100, 101, 102]⟩ : ByteArray) (Go.bits .and .i64 a0 15))) else (none)) else (none)) = some r := h
  clear h
  by_cases c2 : 0 ≤ (Go.bits .and .i64 a0 15)
  · rw [if_pos c2] at H
    have c2b0 : decide (0 ≤ (Go.bits .and .i64 a0 15)) = true := decide_eq_true c2
    clear c2
    by_cases c3 : (Go.bits .and .i64 a0 15) < 16
    · rw [if_pos c3] at H
      have c3b0 : decide ((Go.bits .and .i64 a0 15) < 16) = true := decide_eq_true c3
      clear c3
      obtain rfl := Option.some.inj H
      have p4 : 0 ≤ ((Go.bits .and .i64 a0 15) : Int) := of_decide_eq_true (by first | (with_reducible assumption) | assumption)
      have q4 : (Go.bits .and .i64 a0 15) < (16 : Int) := of_decide_eq_true (by first | (with_reducible assumption) | assumption)
      have hx4 := bt_at (⟨#[48, 49, 50, 51, 52, 53, 54, 55, 56, 57, 97, 98, 99, 100, 101, 102]⟩ : ByteArray) (Go.bits .and .i64 a0 15)
      replace p4 := eq_true p4
      replace q4 := eq_true q4
      go_enter Try.func6, Try.ntmps6
      go_wp2
      go_ret
      exact ⟨by first | rfl | (simp; done) | (simp [*]; done), by repeat (first | exact Drawn0.refl _ | apply Drawn0.step)⟩
    · rw [if_neg c3] at H
      exact absurd H (by simp)
  · rw [if_neg c2] at H
    exact absurd H (by simp)
def spec_HexText.l0 : Nat → ByteArray → List Int → Int → Option (ByteArray)
  | 0, _, _, _ => none
  | k + 1, x0, x3, x4 => if x4 < (x0.size : Int) then (if 0 ≤ x4 then ((spec_l20Digit.f (wrap64 (Int.tdiv (wrap64 (bt x0 x4)) 16))).bind fun t104 => ((spec_l20Digit.f (wrap64 (bt x0 x4))).bind fun t105 => ((some (([t104, t105] : List Int) : List Int)).bind fun y106 => (if x3.length + y106.length < 140737488355328 then (spec_HexText.l0 k x0 (x3 ++ y106) (wrap64 (x4 + 1))) else (none))))) else (none)) else (some (strOfNums x3))
def spec_HexText.f (k : Nat) (a0 : ByteArray) : Option (ByteArray) := if (a0.size : Int) > 3000 then (some (⟨#[]⟩ : ByteArray)) else (spec_HexText.l0 k a0 (([] : List Int)) 0)
def spec_HexText.T7 : Bool × List (List Nat × List Nat) := (true, [([], []), ([], []), ([], []), ([1, 2], [1, 2]), ([3], [3]), ([4], [4]), ([5], [5]), ([], []), ([], []), ([7, 8], [7, 8]), ([9], [9]), ([10, 6], [10]), ([6, 11], [6, 11]), ([0, 12, 11], [0, 12]), ([13, 13, 0, 1, 2, 3, 4, 5, 6, 7, 8, 9, 10, 11, 12, 13], [0, 13])])
def spec_HexText.B7 : List Nat := [0, 0, 0, 6, 14, 30, 62, 0, 0, 384, 896, 2046, 4094, 8191, 16383]
theorem spec_HexText.tab7 : rtab .any (opsOf Try.f4 7) = spec_HexText.T7 := by kernel_rfl
theorem spec_HexText.bits7 : waitsOk spec_HexText.T7.2 spec_HexText.B7 = true := by kernel_rfl
set_option maxHeartbeats 8000000 in
set_option maxRecDepth 100000 in
theorem spec_HexText.calls (k : Nat) (a0 : ByteArray) (r : ByteArray) (w : World) (h : spec_HexText.f k a0 = some r) :
    Calls Try.prog 4 #[.string a0] w fun e w' => e = .returned (.string r) ∧ Below w.heap.size w w' := by
  have HB := Aside0.mk (Below.refl w.heap.size w)
  have H : (if (a0.size : Int) > 3000 then (some (⟨#[]⟩ : ByteArray)) else (spec_HexText.l0 k a0 (([] : List Int)) 0)) = some r := h
  clear h
  obtain ⟨y101, hy101⟩ : ∃ y_ : List Int, y_ = (([] : List Int)) := ⟨_, rfl⟩
  replace H : (if (a0.size : Int) > 3000 then (some (⟨#[]⟩ : ByteArray)) else (spec_HexText.l0 k a0 y101 0)) = some r := by first | (rw [hy101]; with_reducible exact H) | (have H2_ := (Option.bind_some _ _).symm.trans H; rw [hy101]; with_reducible exact H2_) | (have H2_ := (Option.bind_some _ _).symm.trans H; with_reducible exact H2_) | with_reducible exact H | (rw [hy101]; exact H) | exact H
  have Ny101 := Aside0.mk hy101
  clear hy101
  by_cases c2 : (a0.size : Int) > 3000
  · rw [if_pos c2] at H
    have c2b0 : decide (3000 < (a0.size : Int)) = true := decide_eq_true c2
    have c2b1 : decide (3000 < a0.size) = true := decide_eq_true (by omega)
    clear c2
    obtain rfl := Option.some.inj H
    go_enter Try.func4, Try.ntmps4
    go_wp2_with (first | ((with_reducible refine gate_dst (N := 5) rfl ?_); refine Kd.R_lit (Kd.int .u8) _ 5 ?hg (N := 5) ?hd (xs := ([] : List Int)) (inner := []) (ok := fun _ => True) (okp := fun _ => True) ?hr ?hp (fun _ hk => hk) trivial (Below.refl _ _) (Nat.le_refl _) (by simp) ?_; (case hd => rfl); (case hg => rfl); (case hr => first | (go_simp; done) | (go_simp; rfl)); (case hp => exact (Reps.none _ _)); intro v102 w3 ho4 hb hg_ hnew_; clear hg_ hnew_; (first | rw [← Ny101.out] at ho4 | (simp only [Int.reduceToNat] at ho4; rw [← Ny101.out] at ho4)); have n0_ := Aside0.mk (Kd.R_lower ho4 (below_size (by repeat (first | (with_reducible first | exact HB.out | apply below_alloc | apply pw_below_drewN | apply below_drew1) | exact HB.out)))); have n1_ := Aside0.mk (below_step (by repeat (first | (with_reducible first | exact HB.out | apply below_alloc | apply pw_below_drewN | apply below_drew1) | exact HB.out)) hb); clear HB; have HO103 := n0_; have HB := n1_; clear n0_ n1_; clear hb ho4))
    go_ret
    exact ⟨by first | rfl | (simp [errW_none, errW_some] <;> rfl) | (simp [*, errW_none, errW_some] <;> rfl), by repeat (first | (with_reducible first | exact HB.out | apply below_alloc | apply pw_below_drewN | apply below_drew1) | exact HB.out)⟩
  · rw [if_neg c2] at H
    have c2b0 : decide (3000 < (a0.size : Int)) = false := decide_eq_false c2
    have c2b1 : decide (3000 < a0.size) = false := decide_eq_false (by omega)
    clear c2
    have H' := Aside0.mk H
    clear H
    go_enter Try.func4, Try.ntmps4
    go_wp2_with (first | ((with_reducible refine gate_dst (N := 5) rfl ?_); refine Kd.R_lit (Kd.int .u8) _ 5 ?hg (N := 5) ?hd (xs := ([] : List Int)) (inner := []) (ok := fun _ => True) (okp := fun _ => True) ?hr ?hp (fun _ hk => hk) trivial (Below.refl _ _) (Nat.le_refl _) (by simp) ?_; (case hd => rfl); (case hg => rfl); (case hr => first | (go_simp; done) | (go_simp; rfl)); (case hp => exact (Reps.none _ _)); intro v102 w5 ho6 hb hg_ hnew_; clear hg_ hnew_; (first | rw [← Ny101.out] at ho6 | (simp only [Int.reduceToNat] at ho6; rw [← Ny101.out] at ho6)); have n0_ := Aside0.mk (Kd.R_lower ho6 (below_size (by repeat (first | (with_reducible first | exact HB.out | apply below_alloc | apply pw_below_drewN | apply below_drew1) | exact HB.out)))); have n1_ := Aside0.mk (below_step (by repeat (first | (with_reducible first | exact HB.out | apply below_alloc | apply pw_below_drewN | apply below_drew1) | exact HB.out)) hb); clear HB; have HO103 := n0_; have HB := n1_; clear n0_ n1_; clear hb ho6))
    go_loopg [3, 4] k (fun kq v3 v4 w' => ∃ (x3_1 : List Int) (x4_1 : Int), v4 = .int .i64 x4_1 ∧ Aside0 (spec_HexText.l0 kq a0 x3_1 x4_1 = some r) ∧ Aside0 (kq ≤ k) ∧ Aside0 (Kd.R (Kd.int .u8) 5 w' w.heap.size (fun _ => True) v3 x3_1) ∧ Aside0 (Below w.heap.size w w'))
    case atStart => exact ⟨(y101), (0), (by first | rfl | (simp; done) | (simp [*]; done)), H', ⟨Nat.le_refl _⟩, ⟨by (with_reducible repeat (first | apply Kd.R_alloc | apply Kd.R_drewN | apply Kd.R_drew)); exact HO103.out⟩, ⟨by repeat (first | (with_reducible first | exact HB.out | apply below_alloc | apply pw_below_drewN | apply below_drew1) | exact HB.out)⟩⟩
    case round =>
      clear H'
      try clear c2
      try clear c2b0
      try clear c2b1
      try clear p2
      try clear c4
      obtain ⟨x3_1, x4_1, rfl, HA, HK1, HO_3, HB⟩ := hrel
      cases gk with
      | zero => exact absurd HA.out (by simp [spec_HexText.l0])
      | succ k1 =>
        have H := HA.out
        clear HA
        simp only [spec_HexText.l0] at H
        by_cases c7 : x4_1 < (a0.size : Int)
        · rw [if_pos c7] at H
          have c7b0 : decide (x4_1 < (a0.size : Int)) = true := decide_eq_true c7
          clear c7
          by_cases c8 : 0 ≤ x4_1
          · rw [if_pos c8] at H
            have c8b0 : decide (0 ≤ x4_1) = true := decide_eq_true c8
            clear c8
            replace H := Option.bind_eq_some_iff.mp H
            obtain ⟨t104, A100, H⟩ := H
            replace H : ((spec_l20Digit.f (wrap64 (bt a0 x4_1))).bind fun t105 => ((some (([t104, t105] : List Int) : List Int)).bind fun y106 => (if x3_1.length + y106.length < 140737488355328 then (spec_HexText.l0 k1 a0 (x3_1 ++ y106) (wrap64 (x4_1 + 1))) else (none)))) = some r := H
            have A10 := Aside0.mk A100
            clear A100
            replace H := Option.bind_eq_some_iff.mp H
            obtain ⟨t105, A120, H⟩ := H
            replace H : ((some (([t104, t105] : List Int) : List Int)).bind fun y106 => (if x3_1.length + y106.length < 140737488355328 then (spec_HexText.l0 k1 a0 (x3_1 ++ y106) (wrap64 (x4_1 + 1))) else (none))) = some r := H
            have A12 := Aside0.mk A120
            clear A120
            obtain ⟨y106, hy106⟩ : ∃ y_ : List Int, y_ = (([t104, t105] : List Int)) := ⟨_, rfl⟩
            replace H : (if x3_1.length + y106.length < 140737488355328 then (spec_HexText.l0 k1 a0 (x3_1 ++ y106) (wrap64 (x4_1 + 1))) else (none)) = some r := by first | (rw [hy106]; with_reducible exact H) | (have H2_ := (Option.bind_some _ _).symm.trans H; rw [hy106]; with_reducible exact H2_) | (have H2_ := (Option.bind_some _ _).symm.trans H; with_reducible exact H2_) | with_reducible exact H | (rw [hy106]; exact H) | exact H
            have Ny106 := Aside0.mk hy106
            clear hy106
            by_cases c13 : x3_1.length + y106.length < 140737488355328
            · rw [if_pos c13] at H
              have LMc13 := Aside0.mk c13
              clear c13
              obtain ⟨y109, hy109⟩ : ∃ y_ : List Int, y_ = (x3_1 ++ y106) := ⟨_, rfl⟩
              replace H : (spec_HexText.l0 k1 a0 y109 (wrap64 (x4_1 + 1))) = some r := by first | (rw [hy109]; with_reducible exact H) | (have H2_ := (Option.bind_some _ _).symm.trans H; rw [hy109]; with_reducible exact H2_) | (have H2_ := (Option.bind_some _ _).symm.trans H; with_reducible exact H2_) | with_reducible exact H | (rw [hy109]; exact H) | exact H
              have Ny109 := Aside0.mk hy109
              clear hy109
              have H' := Aside0.mk H
              clear H
              try go_wp2
              have n0_ := Aside0.mk (Kd.R_drew HO_3.out)
              have n1_ := Aside0.mk (below_drew1 HB.out)
              clear HO_3
              clear HB
              have HO_3 := n0_
              have HB := n1_
              clear n0_ n1_
              have p9 : 0 ≤ (x4_1 : Int) := of_decide_eq_true (by first | (with_reducible assumption) | assumption)
              have q9 : x4_1 < (a0.size : Int) := of_decide_eq_true (by first | (with_reducible assumption) | assumption)
              have hx9 := bt_at a0 x4_1
              replace p9 := eq_true p9
              replace q9 := eq_true q9
              have p11 : 0 ≤ (x4_1 : Int) := of_decide_eq_true (by first | (with_reducible assumption) | assumption)
              have q11 : x4_1 < (a0.size : Int) := of_decide_eq_true (by first | (with_reducible assumption) | assumption)
              have hx11 := bt_at a0 x4_1
              replace p11 := eq_true p11
              replace q11 := eq_true q11
              refine start_ (n := 15) (S := fun w' => True) (ds := []) #[false, false, false, false, false, false, false, false, false, false, false, false, false, false, false] (by kernel_rfl) rfl rfl trivial (fun hHeld => ?_); refine with_tabW spec_HexText.tab7 spec_HexText.bits7 (fun HT_ HW_ => ?_)
              generalize wr.drew = w14 at HO_3 HB hHeld ⊢
              refine pure_ (i := 0) (N := some 15) (v := ?_) (a' := ?_) #[true, false, false, false, false, false, false, false, false, false, false, false, false, false, false] rfl rfl (any_of HT_.out (by kernel_rfl)) (fun _ _ _ h => h) (Or.inl ⟨by rfl, ?_⟩) ?_ ?_
              rotate_left
              · intro w'
                go_simp
                with_reducible rfl
              rotate_left
              · simp only [Act.put, List.setIfInBounds_toArray, List.set_cons_zero, List.set_cons_succ, i64_w, i32_w]
                rfl
              refine pure_ (i := 1) (N := some 16) (v := ?_) (a' := ?_) #[true, true, false, false, false, false, false, false, false, false, false, false, false, false, false] rfl rfl (any_of HT_.out (by kernel_rfl)) (fun _ _ _ h => h) (Or.inl ⟨by rfl, ?_⟩) ?_ ?_
              rotate_left
              · intro w'
                go_simp
                with_reducible rfl
              rotate_left
              · simp only [Act.put, List.setIfInBounds_toArray, List.set_cons_zero, List.set_cons_succ, i64_w, i32_w]
                rfl
              refine pure_ (i := 2) (N := some 17) (v := ?_) (a' := ?_) #[true, true, true, false, false, false, false, false, false, false, false, false, false, false, false] rfl rfl (any_of HT_.out (by kernel_rfl)) (fun _ _ _ h => h) (Or.inl ⟨by rfl, ?_⟩) ?_ ?_
              rotate_left
              · intro w'
                go_simp
                with_reducible rfl
              rotate_left
              · simp only [Act.put, List.setIfInBounds_toArray, List.set_cons_zero, List.set_cons_succ, i64_w, i32_w]
                rfl
              refine pure_ (i := 7) (N := some 22) (v := ?_) (a' := ?_) #[true, true, true, false, false, false, false, true, false, false, false, false, false, false, false] rfl rfl (any_of HT_.out (by kernel_rfl)) (fun _ _ _ h => h) (Or.inl ⟨by rfl, ?_⟩) ?_ ?_
              rotate_left
              · intro w'
                go_simp
                with_reducible rfl
              rotate_left
              · simp only [Act.put, List.setIfInBounds_toArray, List.set_cons_zero, List.set_cons_succ, i64_w, i32_w]
                rfl
              refine pure_ (i := 8) (N := some 23) (v := ?_) (a' := ?_) #[true, true, true, false, false, false, false, true, true, false, false, false, false, false, false] rfl rfl (any_of HT_.out (by kernel_rfl)) (fun _ _ _ h => h) (Or.inl ⟨by rfl, ?_⟩) ?_ ?_
              rotate_left
              · intro w'
                go_simp
                with_reducible rfl
              rotate_left
              · simp only [Act.put, List.setIfInBounds_toArray, List.set_cons_zero, List.set_cons_succ, i64_w, i32_w]
                rfl
              refine take_ (i := 3) (N := some 18) (v := ?_) (a' := ?_) #[true, true, true, true, false, false, false, true, true, false, false, false, false, false, false] rfl rfl (take_ofW HT_.out HW_.out (by kernel_rfl)) (fun _ _ _ h => h) (Or.inl ⟨by rfl, ?_⟩) hHeld ?_ ?_
              rotate_left
              · intro w' _
                go_simp
                with_reducible rfl
              rotate_left
              · simp only [Act.put, List.setIfInBounds_toArray, List.set_cons_zero, List.set_cons_succ, i64_w, i32_w]
                rfl
              refine pure_ (i := 4) (N := some 19) (v := ?_) (a' := ?_) #[true, true, true, true, true, false, false, true, true, false, false, false, false, false, false] rfl rfl (any_of HT_.out (by kernel_rfl)) (fun _ _ _ h => h) (Or.inl ⟨by rfl, ?_⟩) ?_ ?_
              rotate_left
              · intro w'
                go_simp
                with_reducible rfl
              rotate_left
              · simp only [Act.put, List.setIfInBounds_toArray, List.set_cons_zero, List.set_cons_succ, i64_w, i32_w]
                rfl
              refine pure_ (i := 5) (N := some 20) (v := ?_) (a' := ?_) #[true, true, true, true, true, true, false, true, true, false, false, false, false, false, false] rfl rfl (any_of HT_.out (by kernel_rfl)) (fun _ _ _ h => h) (Or.inl ⟨by rfl, ?_⟩) ?_ ?_
              rotate_left
              · intro w'
                go_simp
                with_reducible rfl
              rotate_left
              · simp only [Act.put, List.setIfInBounds_toArray, List.set_cons_zero, List.set_cons_succ, i64_w, i32_w]
                rfl
              refine take_ (i := 9) (N := some 24) (v := ?_) (a' := ?_) #[true, true, true, true, true, true, false, true, true, true, false, false, false, false, false] rfl rfl (take_ofW HT_.out HW_.out (by kernel_rfl)) (fun _ _ _ h => h) (Or.inl ⟨by rfl, ?_⟩) hHeld ?_ ?_
              rotate_left
              · intro w' _
                go_simp
                with_reducible rfl
              rotate_left
              · simp only [Act.put, List.setIfInBounds_toArray, List.set_cons_zero, List.set_cons_succ, i64_w, i32_w]
                rfl
              refine pure_ (i := 10) (N := some 25) (v := ?_) (a' := ?_) #[true, true, true, true, true, true, false, true, true, true, true, false, false, false, false] rfl rfl (any_of HT_.out (by kernel_rfl)) (fun _ _ _ h => h) (Or.inl ⟨by rfl, ?_⟩) ?_ ?_
              rotate_left
              · intro w'
                go_simp
                with_reducible rfl
              rotate_left
              · simp only [Act.put, List.setIfInBounds_toArray, List.set_cons_zero, List.set_cons_succ, i64_w, i32_w]
                rfl
              refine one_ (i := 6) (N := some 21) #[true, true, true, true, true, true, true, true, true, true, true, false, false, false, false] rfl rfl (one_of HT_.out (by kernel_rfl)) (by decide) (fun K hK => ?_)
              refine goes_ Try.func6 (by kernel_rfl) rfl #[.int .i64 (wrap64 (Int.tdiv (wrap64 (bt a0 x4_1)) 16))] (by rfl) rfl rfl (by (try simp only [List.map_toArray, List.map_cons, List.map_nil]); first | done | rfl | (simp only [List.length_drop, List.length_take]; rfl)) ?_
              with_reducible refine (spec_l20Digit.calls (wrap64 (Int.tdiv (wrap64 (bt a0 x4_1)) 16)) t104 _ A10.out).mono ?_
              rintro e w' ⟨rfl, ⟨nd, rfl⟩⟩
              refine ⟨_, rfl, ?_⟩
              refine hK.out _ _ trivial (fun hHeld => ?_)
              clear hK K
              refine norm_ (a' := ?_) ?_ ?_
              rotate_left
              · show Act.put _ (some 21) _ = _
                simp only [Act.put, List.setIfInBounds_toArray, List.set_cons_zero, List.set_cons_succ, i64_w, i32_w]
                rfl
              refine one_ (i := 11) (N := some 26) #[true, true, true, true, true, true, true, true, true, true, true, true, false, false, false] rfl rfl (one_of HT_.out (by kernel_rfl)) (by decide) (fun K hK => ?_)
              refine goes_ Try.func6 (by kernel_rfl) rfl #[.int .i64 (wrap64 (bt a0 x4_1))] (by rfl) rfl rfl (by (try simp only [List.map_toArray, List.map_cons, List.map_nil]); first | done | rfl | (simp only [List.length_drop, List.length_take]; rfl)) ?_
              with_reducible refine (spec_l20Digit.calls (wrap64 (bt a0 x4_1)) t105 _ A12.out).mono ?_
              rintro e w' ⟨rfl, ⟨nd, rfl⟩⟩
              refine ⟨_, rfl, ?_⟩
              refine hK.out _ _ trivial (fun hHeld => ?_)
              clear hK K
              refine norm_ (a' := ?_) ?_ ?_
              rotate_left
              · show Act.put _ (some 26) _ = _
                simp only [Act.put, List.setIfInBounds_toArray, List.set_cons_zero, List.set_cons_succ, i64_w, i32_w]
                rfl
              refine one_ (i := 12) (N := some 27) #[true, true, true, true, true, true, true, true, true, true, true, true, true, false, false] rfl rfl (one_of HT_.out (by kernel_rfl)) (by decide) (fun K hK => ?_)
              refine Kd.R_lit_step (Kd.int .u8) _ 5 ?hg (N := 27) ?hd (xs := ([t104, t105] : List Int)) (inner := [.int .u8 t104, .int .u8 t105]) (ok := fun _ => True) (okp := fun _ => True) ?hr ?hp (fun _ hk => hk) trivial (Below.refl _ _) (Nat.le_refl _) (by simp) ?_; (case hd => rfl); (case hg => rfl); (case hr => first | (go_simp; done) | (go_simp; rfl)); (case hp => exact (Reps.one (show Kd.M (Kd.int .u8) _ _ _ t104 [.int .u8 t104] from rfl) (Reps.one (show Kd.M (Kd.int .u8) _ _ _ t105 [.int .u8 t105] from rfl) (Reps.none _ _))))
              intro v107 w15 ho16 hb hg_ hnew_
              clear hg_ hnew_
              (first | rw [← Ny106.out] at ho16 | (simp only [Int.reduceToNat] at ho16; rw [← Ny106.out] at ho16))
              have n0_ := Aside0.mk (Kd.R_elder' (by (with_reducible repeat (first | apply Kd.R_alloc | apply Kd.R_drewN | apply Kd.R_drew)); exact HO_3.out) (Kd.R_base ho16) hb)
              have n1_ := Aside0.mk (Kd.R_lower (Kd.R_new' ho16 (Kd.R_lt (by (with_reducible repeat (first | apply Kd.R_alloc | apply Kd.R_drewN | apply Kd.R_drew)); exact HO_3.out))) (below_size (by repeat (first | (with_reducible first | exact HB.out | apply below_alloc | apply pw_below_drewN | apply below_drew1) | exact HB.out))))
              have n2_ := Aside0.mk (below_step (by repeat (first | (with_reducible first | exact HB.out | apply below_alloc | apply pw_below_drewN | apply below_drew1) | exact HB.out)) hb)
              clear HO_3
              clear HB
              have HO_3 := n0_
              have HO108 := n1_
              have HB := n2_
              clear n0_ n1_ n2_
              clear hb ho16
              obtain ⟨Ao18, co18, eo18⟩ := Kd.R_slice HO108.out
              (first | subst eo18 | (injection eo18 with f1_ f2_ f3_; have f4_ := f1_.symm; have f5_ := f3_.symm; clear f1_ f2_ f3_; subst f4_; subst f5_))
              refine hK.out _ _ trivial (fun hHeld => ?_)
              clear hK K
              refine norm_ (a' := ?_) ?_ ?_
              rotate_left
              · show Act.put _ (some 27) _ = _
                simp only [Act.put, List.setIfInBounds_toArray, List.set_cons_zero, List.set_cons_succ, i64_w, i32_w]
                rfl
              refine one_ (i := 13) (N := some 28) #[true, true, true, true, true, true, true, true, true, true, true, true, true, true, false] rfl rfl (one_of HT_.out (by kernel_rfl)) (by decide) (fun K hK => ?_)
              refine Kd.R_append_rows_step (Kd.int .u8) (w0 := w) w.heap.size (by rfl) (.tmp 15) (.tmp 27) 24 5 (.int .u8 0) 1 rfl Try.underlying24 info5 rfl (by decide) (by omega) u3 x3_1 y106 _ _ _ (fun k_ => some k_ ≠ (.slice Ao18 y106.length co18 : Value).ownBlock) (fun _ => False) rfl rfl ?aO ?aR (fun _ _ h => h) (fun _ h => h.elim) ?aF ?aB ?aS ?aL ?_
              (case aR => repeat (first | exact (Kd.R_reads' HO108.out).2.2 | (with_reducible refine Kd.C_alloc ?_ _) | (with_reducible refine Kd.C_drewN ?_ _) | (with_reducible refine Kd.C_drew ?_)))
              (case aB => exact (by repeat (first | (with_reducible first | exact HB.out | apply below_alloc | apply pw_below_drewN | apply below_drew1) | exact HB.out)))
              (case aF => exact (fun k_ hk => Kd.fresh' (Kd.R_lt (by (with_reducible repeat (first | apply Kd.R_alloc | apply Kd.R_drewN | apply Kd.R_drew)); exact HO108.out)) k_ hk))
              (case aO => exact (by (with_reducible repeat (first | apply Kd.R_alloc | apply Kd.R_drewN | apply Kd.R_drew)); exact Kd.R_mono HO_3.out (fun _ hk => hk.2)))
              (case aS => exact (below_size (by repeat (first | (with_reducible first | exact HB.out | apply below_alloc | apply pw_below_drewN | apply below_drew1) | exact HB.out))))
              (case aL => have := LMc13.out; omega)
              intro v110 w17 ho hb hg hat
              rw [← Ny109.out] at ho
              have n0_ := Aside0.mk (Kd.R_after (ok := (fun _ => True)) (by (with_reducible repeat (first | apply Kd.R_alloc | apply Kd.R_drewN | apply Kd.R_drew)); exact HO108.out) hg hat)
              have n1_ := Aside0.mk (hb)
              have n2_ := Aside0.mk (ho)
              clear HO108
              clear HB
              clear HO_3
              have HO108 := n0_
              have HB := n1_
              have HO111 := n2_
              clear n0_ n1_ n2_
              clear ho hb hg hat
              refine hK.out _ _ trivial (fun hHeld => ?_)
              clear hK K
              refine norm_ (a' := ?_) ?_ ?_
              rotate_left
              · show Act.put _ (some 28) _ = _
                simp only [Act.put, List.setIfInBounds_toArray, List.set_cons_zero, List.set_cons_succ, i64_w, i32_w]
                rfl
              refine pure_ (i := 14) (N := some 3) (v := ?_) (a' := ?_) #[true, true, true, true, true, true, true, true, true, true, true, true, true, true, true] rfl rfl (any_of HT_.out (by kernel_rfl)) (fun _ _ _ h => h) (Or.inl ⟨by rfl, ?_⟩) ?_ ?_
              rotate_left
              · intro w'
                go_simp
                with_reducible rfl
              rotate_left
              · simp only [Act.put, List.setIfInBounds_toArray, List.set_cons_zero, List.set_cons_succ, i64_w, i32_w]
                rfl
              refine done_ (done_of HT_.out (by kernel_rfl)) ?_
              try go_wp2
              go_roundg k1
              case measure => have := HK1.out; omega
              case rel => exact ⟨(y109), (wrap64 (x4_1 + 1)), (by first | rfl | (simp; done) | (simp [*]; done)), H', ⟨by have := HK1.out; omega⟩, ⟨by (with_reducible repeat (first | apply Kd.R_alloc | apply Kd.R_drewN | apply Kd.R_drew)); exact Kd.R_mono HO111.out (fun _ hk => trivial)⟩, ⟨by repeat (first | (with_reducible first | exact HB.out | apply below_alloc | apply pw_below_drewN | apply below_drew1) | exact HB.out)⟩⟩
            · rw [if_neg c13] at H
              exact absurd H (by simp)
          · rw [if_neg c8] at H
            exact absurd H (by simp)
        · rw [if_neg c7] at H
          have c7b0 : decide (x4_1 < (a0.size : Int)) = false := decide_eq_false c7
          clear c7
          obtain rfl := Option.some.inj H
          have hcv19 := own_string (P := Try.prog) Try.underlying24 Try.underlying5 Try.underlying9 (Kd.own_of_R HO_3.out)
          go_wp2
          go_ret
          exact ⟨by first | rfl | (simp [errW_none, errW_some] <;> rfl) | (simp [*, errW_none, errW_some] <;> rfl), by repeat (first | (with_reducible first | exact HB.out | apply below_alloc | apply pw_below_drewN | apply below_drew1) | exact HB.out)⟩
def impl_HexText.f (a0 : ByteArray) : Option (ByteArray) := Go.Proofs.YtiifnljongidiaaX.hexText a0
theorem impl_HexText.calls (a0 : ByteArray) (r : ByteArray) (w : World) (h : impl_HexText.f a0 = some r) :
    Calls Try.prog 5 #[.string a0] w fun e w' => e = .returned (.string r) ∧ Below w.heap.size w w' := Go.Proofs.YtiifnljongidiaaX.hexText_calls a0 r w h
def laws_FnExactHexText.f (k : Nat) (a0 : ByteArray) : Option (Bool) := if (a0.size : Int) > 1048576 then (some true) else ((spec_HexText.f k a0).bind fun t112 => ((impl_HexText.f a0).bind fun t113 => (if t113.toList = t112.toList then (some true) else (some false))))
set_option maxHeartbeats 8000000 in
set_option maxRecDepth 100000 in
theorem laws_FnExactHexText.calls (k : Nat) (a0 : ByteArray) (r : Bool) (w : World) (h : laws_FnExactHexText.f k a0 = some r) :
    Calls Try.prog 3 #[.string a0] w fun e w' => e = .returned (.bool r) ∧ Below w.heap.size w w' := by
  have HB := Aside0.mk (Below.refl w.heap.size w)
  have H : (if (a0.size : Int) > 1048576 then (some true) else ((spec_HexText.f k a0).bind fun t112 => ((impl_HexText.f a0).bind fun t113 => (if t113.toList = t112.toList then (some true) else (some false))))) = some r := h
  clear h
  by_cases c2 : (a0.size : Int) > 1048576
  · rw [if_pos c2] at H
    have c2b0 : decide (1048576 < (a0.size : Int)) = true := decide_eq_true c2
    have c2b1 : decide (1048576 < a0.size) = true := decide_eq_true (by omega)
    clear c2
    obtain rfl := Option.some.inj H
    go_enter Try.func3, Try.ntmps3
    go_wp2
    go_ret
    exact ⟨by first | rfl | (simp [errW_none, errW_some] <;> rfl) | (simp [*, errW_none, errW_some] <;> rfl), by repeat (first | (with_reducible first | exact HB.out | apply below_alloc | apply pw_below_drewN | apply below_drew1) | exact HB.out)⟩
  · rw [if_neg c2] at H
    have c2b0 : decide (1048576 < (a0.size : Int)) = false := decide_eq_false c2
    have c2b1 : decide (1048576 < a0.size) = false := decide_eq_false (by omega)
    clear c2
    replace H := Option.bind_eq_some_iff.mp H
    obtain ⟨t112, A30, H⟩ := H
    replace H : ((impl_HexText.f a0).bind fun t113 => (if t113.toList = t112.toList then (some true) else (some false))) = some r := H
    have A3 := Aside0.mk A30
    clear A30
    replace H := Option.bind_eq_some_iff.mp H
    obtain ⟨t113, A40, H⟩ := H
    replace H : (if t113.toList = t112.toList then (some true) else (some false)) = some r := H
    have A4 := Aside0.mk A40
    clear A40
    by_cases c5 : t113.toList = t112.toList
    · rw [if_pos c5] at H
      have c5b0 : (t113.toList == t112.toList) = true := beq_iff_eq.mpr c5
      have c5b1 : (t113.toList != t112.toList) = false := bne_eq_false_iff_eq.mpr c5
      clear c5
      obtain rfl := Option.some.inj H
      go_enter Try.func3, Try.ntmps3
      go_wp2_with (first | ((with_reducible refine gate_callee (f := 4) rfl ?_); refine goesL_ (some 9) rfl rfl Try.func4 (by kernel_rfl) rfl #[.string a0] rfl (by (try simp only [List.map_toArray, List.map_cons, List.map_nil]); first | done | rfl | (simp only [List.length_drop, List.length_take]; rfl)) ?_; (with_reducible refine (spec_HexText.calls k a0 t112 _ A3.out).mono ?_); rintro e w6 ⟨rfl, hb⟩; refine ⟨_, rfl, ?_⟩; have n0_ := Aside0.mk (below_step (by repeat (first | (with_reducible first | exact HB.out | apply below_alloc | apply pw_below_drewN | apply below_drew1) | exact HB.out)) hb); clear HB; have HB := n0_; clear n0_; (try clear hb); (try clear hb2); (try clear hk); (try clear hi)) | ((with_reducible refine gate_callee (f := 5) rfl ?_); refine goesL_ (some 11) rfl rfl Try.func5 (by kernel_rfl) rfl #[.string a0] rfl (by (try simp only [List.map_toArray, List.map_cons, List.map_nil]); first | done | rfl | (simp only [List.length_drop, List.length_take]; rfl)) ?_; (with_reducible refine (impl_HexText.calls a0 t113 _ A4.out).mono ?_); rintro e w7 ⟨rfl, hb⟩; refine ⟨_, rfl, ?_⟩; have n0_ := Aside0.mk (below_step (by repeat (first | (with_reducible first | exact HB.out | apply below_alloc | apply pw_below_drewN | apply below_drew1) | exact HB.out)) hb); clear HB; have HB := n0_; clear n0_; (try clear hb); (try clear hb2); (try clear hk); (try clear hi)))
      go_ret
      exact ⟨by first | rfl | (simp [errW_none, errW_some] <;> rfl) | (simp [*, errW_none, errW_some] <;> rfl), by repeat (first | (with_reducible first | exact HB.out | apply below_alloc | apply pw_below_drewN | apply below_drew1) | exact HB.out)⟩
    · rw [if_neg c5] at H
      have c5b0 : (t113.toList == t112.toList) = false := beq_eq_false_iff_ne.mpr c5
      have c5b1 : (t113.toList != t112.toList) = true := bne_iff_ne.mpr c5
      obtain rfl := Option.some.inj H
      go_enter Try.func3, Try.ntmps3
      go_wp2_with (first | ((with_reducible refine gate_callee (f := 4) rfl ?_); refine goesL_ (some 9) rfl rfl Try.func4 (by kernel_rfl) rfl #[.string a0] rfl (by (try simp only [List.map_toArray, List.map_cons, List.map_nil]); first | done | rfl | (simp only [List.length_drop, List.length_take]; rfl)) ?_; (with_reducible refine (spec_HexText.calls k a0 t112 _ A3.out).mono ?_); rintro e w8 ⟨rfl, hb⟩; refine ⟨_, rfl, ?_⟩; have n0_ := Aside0.mk (below_step (by repeat (first | (with_reducible first | exact HB.out | apply below_alloc | apply pw_below_drewN | apply below_drew1) | exact HB.out)) hb); clear HB; have HB := n0_; clear n0_; (try clear hb); (try clear hb2); (try clear hk); (try clear hi)) | ((with_reducible refine gate_callee (f := 5) rfl ?_); refine goesL_ (some 11) rfl rfl Try.func5 (by kernel_rfl) rfl #[.string a0] rfl (by (try simp only [List.map_toArray, List.map_cons, List.map_nil]); first | done | rfl | (simp only [List.length_drop, List.length_take]; rfl)) ?_; (with_reducible refine (impl_HexText.calls a0 t113 _ A4.out).mono ?_); rintro e w9 ⟨rfl, hb⟩; refine ⟨_, rfl, ?_⟩; have n0_ := Aside0.mk (below_step (by repeat (first | (with_reducible first | exact HB.out | apply below_alloc | apply pw_below_drewN | apply below_drew1) | exact HB.out)) hb); clear HB; have HB := n0_; clear n0_; (try clear hb); (try clear hb2); (try clear hk); (try clear hi)))
      go_ret
      exact ⟨by first | rfl | (simp [errW_none, errW_some] <;> rfl) | (simp [*, errW_none, errW_some] <;> rfl), by repeat (first | (with_reducible first | exact HB.out | apply below_alloc | apply pw_below_drewN | apply below_drew1) | exact HB.out)⟩
def laws_FnExactHexText.Pure : Prop := ∀ (a0 : ByteArray), a0.size ≤ 140737488351232 → ∃ k, laws_FnExactHexText.f k a0 = some true
theorem laws_FnExactHexText.walk (P : laws_FnExactHexText.Pure) (a0 : ByteArray) (w : World) (w0 : a0.size ≤ 140737488351232) :
    Calls Try.prog 3 #[.string a0] w fun e w' => e = .returned (.bool true) ∧ Below w.heap.size w w' := by
  obtain ⟨k, h⟩ := P a0 w0
  refine (laws_FnExactHexText.calls k a0 true w h).mono ?_
  rintro e w' ⟨rfl, hd⟩
  exact ⟨rfl, hd⟩
end Go.Proofs.Ytiifnljongidiaa.PHt
namespace Go.Proofs.YtiifnljongidiaaX
open Go.RowKit Go.Proofs.YtiifnljongidiaaW.PrintWords Go.Proofs.YtiifnljongidiaaW.PrintMore
theorem wrap_id {x : Int} (h0 : -9223372036854775808 ≤ x) (h1 : x ≤ 9223372036854775807) : wrap64 x = x := by unfold wrap64; omega
section
variable {α β : Type}
theorem Ev.pos {c : Prop} [Decidable c] {A B : Nat → Option α} {r : α} (h : c) (k : Ev A r) : Ev (fun n => if c then A n else B n) r := Ev.congr (fun _ => if_pos h) k
theorem Ev.neg {c : Prop} [Decidable c] {A B : Nat → Option α} {r : α} (h : ¬ c) (k : Ev B r) : Ev (fun n => if c then A n else B n) r := Ev.congr (fun _ => if_neg h) k
theorem Ev.ite {c : Prop} [Decidable c] {A B : Nat → Option α} {r : α} (h1 : c → Ev A r) (h2 : ¬ c → Ev B r) : Ev (fun n => if c then A n else B n) r := by
  by_cases h : c
  · exact Ev.pos h (h1 h)
  · exact Ev.neg h (h2 h)
theorem Ev.known {o : Option α} {f : Nat → α → Option β} {a : α} {r : β} (h : o = some a) (k : Ev (fun n => f n a) r) : Ev (fun n => o.bind (f n)) r := Ev.congr (fun n => by rw [h]; rfl) k
theorem Ev.is {o : Option α} {r : α} (h : o = some r) : Ev (fun _ => o) r := ⟨0, fun _ _ => h⟩
theorem down {n : Nat} {L : Nat → Nat → Option α} {R : Nat → α} (last : Ev (fun k => L k n) (R n)) (step : ∀ i, i < n → Ev (fun k => L k (i + 1)) (R (i + 1)) → Ev (fun k => L k i) (R i)) : ∀ i, i ≤ n → Ev (fun k => L k i) (R i) := by
  have key : ∀ d i, i + d = n → Ev (fun k => L k i) (R i) := by
    intro d
    induction d with
    | zero => intro i hi; have : i = n := by omega
              subst this; exact last
    | succ d ih => intro i hi; exact step i (by omega) (ih (i + 1) (by omega))
  intro i hi
  exact key (n - i) i (by omega)
end
theorem wrap_succ {i n : Nat} (h : i < n) (hn : n ≤ 9223372036854775807) : wrap64 ((i : Int) + 1) = ((i + 1 : Nat) : Int) := by unfold wrap64; omega
def filled {α β : Type} (f : α → β) (z : β) (l : List α) (i : Nat) : List β := (l.take i).map f ++ List.replicate (l.length - i) z
end Go.Proofs.YtiifnljongidiaaX
namespace Go.Proofs.Ytiifnljongidiaa.Pure
open Go.RowKit Go.Proofs.YtiifnljongidiaaX Go.Proofs.Ytiifnljongidiaa.PHt Go.Proofs.YtiifnljongidiaaW.PrintWords Go.Proofs.YtiifnljongidiaaW.PrintLast
theorem and15 (x : Int) (h0 : 0 ≤ x) (h1 : x ≤ 255) : Go.bits .and .i64 x 15 = x % 16 :=
  Go.bits_mask .i64 63 (by decide) (fun n a b => by rw [IntKind.wrap_i64]; omega) 4 (by decide) x h0 (by omega)
theorem digit (x : Int) (h0 : 0 ≤ x) (h1 : x ≤ 255) : spec_l20Digit.f x = some (bt hexTab (x % 16)) := by
  unfold spec_l20Digit.f
  rw [and15 x h0 h1, if_pos (by omega), if_pos (by omega)]
  rfl
theorem bt_bytes (s : ByteArray) {i : Nat} (h : i < s.size) : ∃ hl : i < (bytesOf s).length, bt s (i : Int) = (bytesOf s)[i] ∧ 0 ≤ bt s (i : Int) ∧ bt s (i : Int) ≤ 255 := by
  have hl : i < (bytesOf s).length := by rw [bytesOf_length]; exact h
  refine ⟨hl, ?_, Go.Proofs.YtiifnljongidiaaX.bt_range s i⟩
  unfold bt
  rw [Int.toNat_natCast, dif_pos h]
  simp [bytesOf]
  rfl
theorem hexFrom (s : ByteArray) (hs : s.size ≤ 3000) : ∀ i, i ≤ s.size → Ev (fun k => spec_HexText.l0 k s (hexL ((bytesOf s).take i)) (i : Int)) (strOfNums (hexL (bytesOf s))) := by
  refine down (L := fun k i => spec_HexText.l0 k s (hexL ((bytesOf s).take i)) (i : Int)) (R := fun _ => strOfNums (hexL (bytesOf s))) ?_ ?_
  · refine Ev.step (fun k => spec_HexText.l0.eq_2 (k := k) ..) (Ev.neg (by omega) (Ev.is ?_))
    rw [List.take_of_length_le (by rw [bytesOf_length]; omega)]
  · intro i hi ih
    obtain ⟨hl, hb, h0, h1⟩ := bt_bytes s hi
    have hlen : (hexL ((bytesOf s).take i)).length ≤ 6000 := by
      rw [hex_length, List.length_take, bytesOf_length]
      omega
    have e := hex_take (bytesOf s) hl
    rw [← hb] at e
    obtain ⟨x, hx⟩ : ∃ x, bt s (i : Int) = x := ⟨_, rfl⟩
    rw [hx] at h0 h1 e
    have w1 : wrap64 x = x := wrap_id (by omega) (by omega)
    have w2 : wrap64 (Int.tdiv x 16) = x / 16 := by rw [Int.tdiv_eq_ediv_of_nonneg h0, wrap_id (by omega) (by omega)]
    have d1 := digit (x / 16) (by omega) (by omega)
    have d2 := digit x h0 h1
    rw [show x / 16 % 16 = x / 16 by omega] at d1
    rw [Go.u8_and15 x h0 (by omega)] at e
    refine Ev.step (fun k => spec_HexText.l0.eq_2 (k := k) ..) (Ev.pos (by omega) (Ev.pos (by omega) ?_))
    rw [hx, w1, w2, wrap_succ hi (by omega)]
    refine Ev.known d1 (Ev.known d2 (Ev.known rfl (Ev.pos (by simp only [List.length_cons, List.length_nil]; omega) ?_)))
    rw [← e]
    exact ih
theorem FnExactHexText : laws_FnExactHexText.Pure := by
  intro s hs
  refine Ev.rounds (r := true) ?_
  show Ev (fun k => laws_FnExactHexText.f k s) true
  unfold laws_FnExactHexText.f
  refine Ev.ite (fun _ => Ev.now _) (fun _ => ?_)
  unfold impl_HexText.f hexText spec_HexText.f
  by_cases hbig : (s.size : Int) > 3000
  · refine Ev.bind (Ev.pos hbig (Ev.now _)) (Ev.known (a := (⟨#[]⟩ : ByteArray)) (by rw [if_pos hbig]) (Ev.pos rfl (Ev.now _)))
  · refine Ev.bind (a := strOfNums (hexL (bytesOf s))) (Ev.neg hbig (hexFrom s (by omega) 0 (by omega))) (Ev.known (a := strOfNums (hexL (bytesOf s))) (by rw [if_neg hbig]) (Ev.pos rfl (Ev.now _)))
end Go.Proofs.Ytiifnljongidiaa.Pure
namespace Go.Proofs.Ytiifnljongidiaa.fnExactHexText
open Go.ChangeShapes Go.WideShapes Go.ChangeAt Go.RowKit
open Go.ChangeMaps (open_string shut_string)
set_option linter.unusedVariables false
theorem own : ownKnob Try.prog.godebug = none := by kernel_rfl
set_option maxRecDepth 100000 in
theorem lifted (os : Os) (started : os.Started) (H : Type) (enc : TypeId × Value → H) :
    ReturnsInHanded {} Try.checked os 3 .any (Rows.fnExactHexTextSpec.pre6 enc Try.prog Try.f3 Rows.fnExactHexTextRow.domain false) (Rows.fnExactHexTextSpec.post enc Try.prog Try.f3 false true false false) := by
  refine returnsInHanded_of_change_sized (C := Try.checked) own started (by kernel_rfl) Try.func3
    (ChangeSpec.witness6 (enc := enc) (C := Try.checked) false ⟨#[], #[.string ByteArray.empty], []⟩ 8 (by kernel_rfl) (by kernel_rfl) (by kernel_rfl) (by kernel_rfl)) ?_
  intro W base args ds gs before hval0 hW hcnd hsz0 _
  have hsz : (DataW.weightsEach Try.prog (Try.f3.params.toList ++ Rows.fnExactHexTextSpec.plain.varTypes Try.prog) (ds ++ gs)).all (· ≤ reachBytes) = true := hsz0
  have hval : ∀ (j : Nat) t v, Try.f3.params[j]? = some t → args[j]? = some v → Value.okWide Try.prog W .any base t v := hval0
  have hW' := hW
  obtain ⟨p, q, hA0, hV, rfl, hfz, hnd⟩ := hW
  have hA : DataW.TrodAll enc Try.prog W 0 (fun _ => true) true Try.f3.params.toList args.toList ds p := hA0
  rw [Try.params3] at hA hval hsz
  obtain ⟨v0, vs0, d0, ds0, p0, q0, hargs, rfl, rfl, h0, r0⟩ := trodAll_cons hA
  obtain ⟨rfl, rfl, rfl⟩ := trodAll_nil r0
  obtain rfl : args = #[v0] := by cases args; simp_all
  obtain ⟨rfl, rfl⟩ := trodVars_none hV
  obtain ⟨a0, rfl, rfl, rfl, y0⟩ := open_string Try.underlying9 (hval 0 9 v0 rfl rfl) h0
  have w0 : a0.size ≤ 140737488351232 := by
    have z := sized_string hsz (j := 0) (t := 9) rfl rfl
    rw [Array.length_toList] at z
    exact z
  clear hA0 hval0 hsz0 hsz
  refine (PHt.laws_FnExactHexText.walk Pure.FnExactHexText a0 W w0).mono fun e W' ⟨he, bel⟩ => ?_
  subst he
  exact ⟨_, rfl, _, _, _, [], _, [], hW', trodAll_mk1 (shut_bool Try.underlying4 _), (trodAll_cons_mk (shut_string Try.underlying9 y0) trodAll_mk0), rfl, bel.frame _, fun h => by cases h⟩
theorem over : Rows.fnExactHexTextRow.holds Try.pinned (OpenSpec.ofChange Rows.fnExactHexTextSpec) :=
  OpenClaim.holds_of_wide 3 Try.f3 rfl rfl rfl rfl rfl rfl rfl ⟨rfl, rfl, rfl, rfl, rfl⟩ rfl rfl rfl rfl rfl (by kernel_rfl) Try.func3 (by kernel_rfl)
    (of_decide_eq_true (by kernel_rfl)) (by unfold Func.isWrapper; first | (rw [if_pos (by decide +kernel)]; kernel_rfl) | (rw [if_neg (by decide +kernel)]; exact ⟨rfl, rfl⟩))
    (fun os started H enc _ => lifted os started H enc)
theorem proved : Rows.FnExactHexTextSaid := over
#print axioms proved
end Go.Proofs.Ytiifnljongidiaa.fnExactHexText
namespace Go.Proofs.Ytiifnljongidiaa
theorem fnExactHexText_holds : Rows.FnExactHexTextSaid := fnExactHexText.proved
end Go.Proofs.Ytiifnljongidiaa
