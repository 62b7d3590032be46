/- The functions that FnExactNumText reaches, each as a plain function, and the plain law about them: the statement answers true at every input. No condition beyond those that stand in each theorem. -/
import Derived.Test.YtjbmhpldjncdbaaDoorVC
import Derived.KernelRfl
import Derived.Test.YtjbmhpldjncdbaaDoorChecked
import Derived.Test.YtjbmhpldjncdbaaDoorXShelf
import Derived.Lib.ItoaNum
set_option linter.unusedVariables false
set_option linter.unusedSimpArgs false
noncomputable section
set_option maxRecDepth 100000
namespace Go.Proofs.YtjbmhpldjncdbaaDoor.V
open Go Go.Proofs
def fuel : Nat := 18446744073709551616
theorem known_none {P : Program} {f : Nat} {ms : List Mode} {res : List Ty} {rt : Ty} (hE : Entered P f) : Known P f ⟨ms, res, rt, fun _ => none⟩ := ⟨hE, fun _ _ _ _ _ _ _ _ _ _ _ h => nomatch h⟩
def tyTab : List (Nat × Ty) := [(3, (.int .i64)), (5, (.int .u8)), (9, .str), (24, (.row true (.int .u8)))]
def tyE (i : Nat) : Ty := (look tyTab i).getD .unit
theorem mixed_ok : Tryd.prog.follows .mixedOrders = true := by kernel_rfl
theorem tab_ok : tabOk Tryd.prog tyTab = true := by kernel_rfl
abbrev Rof (c : Con) : Type := (outsTy c.ms).den × c.rt.den
def envS (s : List (Nat × Con)) : Env := ⟨fun j => (look tyTab j).getD .unit, fun j => look s j⟩
def RndOk (s : List (Nat × Con)) (fn : Func) (c : Con) (g : Nat → List (Nat × Seg (Rof c))) (id : Nat) (S : Nat → Seg (Rof c)) : Prop := ∀ N n k x, roundK (envS s) ⟨fn.ntmps, N, fun i => look (g N) i, retK (envS s) fn c.ms c.res c.rt⟩ (fn.body.getD .skip) id (S N) ((S N).f n k) k x = (S N).f (n + 1) k x
def FunOk (s : List (Nat × Con)) (fn : Func) (c : Con) (g : Nat → List (Nat × Seg (Rof c))) (f : Nat → (argsTy c.ms).den → Option (Rof c)) : Prop := ∀ N x, funK (envS s) fn c.ms c.res c.rt (fun i => look (g N) i) N x = f N x
theorem known_v {s : List (Nat × Con)} {i : Nat} {fn : Func} {c : Con} {g : Nat → List (Nat × Seg (Rof c))} {f : Nat → (argsTy c.ms).den → Option (Rof c)} (hK : ConsL Tryd.prog s) (hf : Tryd.prog.funcs[i]? = some fn)
    (h1 : (fn.body.isSome && !(fn.name == "runtime.NumGoroutine") && once (blocksOf (fn.body.getD .skip))) = true)
    (hs : SegsOk (envS s) ⟨fn.ntmps, fuel, fun i => look (g fuel) i, retK (envS s) fn c.ms c.res c.rt⟩ (fn.body.getD .skip) (g fuel)) (he : FunOk s fn c g f) (hc : ∀ x, f fuel x = c.f x) : Known Tryd.prog i c :=
  known_of (tab := tyTab) (cons := s) (segs := g fuel) (n := fuel) mixed_ok tab_ok hK hf h1 hs (fun x => (he fuel x).trans (hc x))
def spec_NumText_P0 : Tpl := ⟨[(0, .one (.leaf (.int .i64))), (3, .one (.leaf .str)), (4, .one (.leaf (.int .i64)))], [], []⟩
def spec_NumText_O0 : Tpl := ⟨[(0, .one (.leaf (.int .i64))), (3, .one (.leaf .str))], [], []⟩
def spec_NumText_k0 (N : Nat) : Nat → (((Int × ByteArray × Unit) × (Unit × Unit)) → Option (Unit × (ByteArray × Unit))) → ((Int × ByteArray × Int × Unit) × (Unit × Unit)) → Option (Unit × (ByteArray × Unit))
  | 0, _, _ => none
  | n + 1, k, x =>
    tb (bnot (ieq x.1.2.2.1 0))
    (chk ((10 : Int) = 0) (none) (tb (ilt (Int.tmod x.1.2.2.1 10) 0)
        (chk ((plus (slen (strOf [(wr .u8 (wr .i64 (48 + (wr .i64 (0 - (Int.tmod x.1.2.2.1 10))))))])) (slen x.1.2.1)) < slim) (chk ((10 : Int) = 0) (none) (spec_NumText_k0 N n k ((x.1.1, (sapp (strOf [(wr .u8 (wr .i64 (48 + (wr .i64 (0 - (Int.tmod x.1.2.2.1 10))))))]) x.1.2.1), (wr .i64 (Int.tdiv x.1.2.2.1 10)), ()), (), ()))) (none))
        (chk ((plus (slen (strOf [(wr .u8 (wr .i64 (48 + (Int.tmod x.1.2.2.1 10))))])) (slen x.1.2.1)) < slim) (chk ((10 : Int) = 0) (none) (spec_NumText_k0 N n k ((x.1.1, (sapp (strOf [(wr .u8 (wr .i64 (48 + (Int.tmod x.1.2.2.1 10))))]) x.1.2.1), (wr .i64 (Int.tdiv x.1.2.2.1 10)), ()), (), ()))) (none))))
    (k ((x.1.1, x.1.2.1, ()), (), ()))
def spec_NumText_k (N : Nat) (x0 : Int) : Option (Unit × (ByteArray × Unit)) :=
  tb (ieq x0 0)
  (some ((), (⟨#[48]⟩ : ByteArray), ()))
  (spec_NumText_k0 N N (fun v0 =>
      tb (ilt v0.1.1 0)
      (chk ((plus (slen (⟨#[45]⟩ : ByteArray)) (slen v0.1.2.1)) < slim) (some ((), (sapp (⟨#[45]⟩ : ByteArray) v0.1.2.1), ())) (none))
      (some ((), v0.1.2.1, ()))) ((x0, (⟨#[]⟩ : ByteArray), x0, ()), (), ()))
def spec_NumText (x : (Int × Unit)) : Option (Unit × (ByteArray × Unit)) := spec_NumText_k fuel x.1
def spec_NumText_m : Con := ⟨[.val (.int .i64)], [.str], (.pair .str .unit), spec_NumText⟩
def spec_NumText_s : List (Nat × Con) := []
def spec_NumText_S0 (N : Nat) : Seg (Rof spec_NumText_m) := ⟨spec_NumText_P0, spec_NumText_O0, [], [], spec_NumText_k0 N⟩
def spec_NumText_g (N : Nat) : List (Nat × Seg (Rof spec_NumText_m)) := [(0, spec_NumText_S0 N)]
theorem spec_NumText_r0 : RndOk spec_NumText_s Tryd.f5 spec_NumText_m spec_NumText_g 0 spec_NumText_S0 := fun _ _ _ _ => by kernel_rfl
theorem spec_NumText_e : FunOk spec_NumText_s Tryd.f5 spec_NumText_m spec_NumText_g (fun N x => spec_NumText_k N x.1) := fun _ _ => by kernel_rfl
theorem spec_NumText_o : Known Tryd.prog 5 spec_NumText_m := known_v (g := spec_NumText_g) .nil Tryd.func5 (by kernel_rfl) ⟨⟨fun _ _ => rfl, spec_NumText_r0 fuel⟩, trivial⟩ spec_NumText_e (fun _ => rfl)
attribute [irreducible] fuel
end Go.Proofs.YtjbmhpldjncdbaaDoor.V
namespace Go.Proofs.YtjbmhpldjncdbaaDoor.V
open Go Go.RowKit
attribute [local irreducible] wr
theorem fuel_big : 1000 < fuel := by unfold fuel; decide
theorem dec1 {u : Nat} (h : u < 10) : Lib.decDigits u = [UInt8.ofNat (48 + u)] := by rw [Lib.decDigits, dif_pos h]
theorem dec2 {u : Nat} (h : ¬ u < 10) : Lib.decDigits u = Lib.decDigits (u / 10) ++ [UInt8.ofNat (48 + u % 10)] := by rw [Lib.decDigits, dif_neg h]
def digs (u : Nat) (acc : ByteArray) : ByteArray := if u = 0 then acc else ⟨(Lib.decDigits u).toArray ++ acc.data⟩
theorem digs_step {u : Nat} (h : 0 < u) (acc : ByteArray) : digs (u / 10) (⟨#[UInt8.ofNat (48 + u % 10)] ++ acc.data⟩ : ByteArray) = digs u acc := by
  by_cases h1 : u < 10
  · have e1 : u / 10 = 0 := by omega
    have e2 : u % 10 = u := by omega
    rw [e1, e2]
    unfold digs
    rw [if_pos rfl, if_neg (Nat.pos_iff_ne_zero.1 h), dec1 h1]
  · have e1 : ¬ u / 10 = 0 := by omega
    unfold digs
    rw [if_neg e1, if_neg (Nat.pos_iff_ne_zero.1 h), dec2 h1]
    simp
theorem digit_str {d : Nat} (acc : ByteArray) : sapp (strOf [((48 + d : Nat) : Int)]) acc = (⟨#[UInt8.ofNat (48 + d)] ++ acc.data⟩ : ByteArray) := by
  apply ByteArray.ext
  simp only [sapp, strOf, List.map_cons, List.map_nil, Int.toNat_natCast]
  simp
theorem spec_digits {n : Int} {K} : ∀ (m m' : Nat) (x : Int) (acc : ByteArray), m < m' → x.natAbs < 10 ^ m → x.natAbs ≤ 9223372036854775808 → acc.data.size + m ≤ 50 →
    spec_NumText_k0 fuel m' K ((n, acc, x, ()), (), ()) = K ((n, digs x.natAbs acc, ()), (), ()) := by
  intro m
  induction m with
  | zero =>
    intro m' x acc hm h1 h2 h3
    obtain ⟨m', rfl⟩ : ∃ q, m' = q + 1 := ⟨m' - 1, by omega⟩
    rw [spec_NumText_k0]
    simp only
    have : x = 0 := by simp at h1; exact h1
    subst this
    rw [ieq_self, tb_nt]
    rfl
  | succ m ih =>
    intro m' x acc hm h1 h2 h3
    obtain ⟨m', rfl⟩ : ∃ q, m' = q + 1 := ⟨m' - 1, by omega⟩
    rw [spec_NumText_k0]
    simp only
    by_cases hx : x = 0
    · subst hx
      rw [ieq_self, tb_nt]
      rfl
    have hu : 0 < x.natAbs := by omega
    obtain ⟨u, hu'⟩ : ∃ u, u = x.natAbs := ⟨_, rfl⟩
    have e1 : (Int.tdiv x 10).natAbs = u / 10 := by rw [Int.natAbs_tdiv, hu']; rfl
    have e2 : (Int.tmod x 10).natAbs = u % 10 := by rw [Int.natAbs_tmod, hu']; rfl
    have hd : u % 10 ≤ 9 := by omega
    have e3 : wr .i64 (Int.tdiv x 10) = Int.tdiv x 10 := wr64 (by omega) (by omega)
    have hp : (Int.tdiv x 10).natAbs < 10 ^ m := by
      rw [e1]
      rw [← hu', Nat.pow_succ] at h1
      omega
    have hsz : ∀ d : Nat, slen (strOf [((48 + d : Nat) : Int)]) = 1 := fun d => rfl
    have hw : ∀ d : Nat, d ≤ 9 → wr .u8 (wr .i64 (48 + (d : Int))) = ((48 + d : Nat) : Int) := fun d h => by
      rw [wr64 (by omega) (by omega), wr8 (by omega) (by omega)]; omega
    have fin : digs (Int.tdiv x 10).natAbs (⟨#[UInt8.ofNat (48 + u % 10)] ++ acc.data⟩ : ByteArray) = digs x.natAbs acc := by
      rw [e1, ← hu', digs_step (by omega)]
    have hs2 : (⟨#[UInt8.ofNat (48 + u % 10)] ++ acc.data⟩ : ByteArray).data.size + m ≤ 50 := by
      rw [Array.size_append]
      show 1 + acc.data.size + m ≤ 50
      omega
    have hsl : plus 1 (slen acc) < slim := by
      have : acc.size = acc.data.size := rfl
      simp only [plus, slen, slim]; omega
    rw [ieq_f hx, tb_nf, chk_neg (by decide)]
    by_cases hn : Int.tmod x 10 < 0
    · have hdd : Int.tmod x 10 = -((u % 10 : Nat) : Int) := by omega
      rw [tb_pos (ilt_t hn), hdd, show wr .i64 (0 - -((u % 10 : Nat) : Int)) = ((u % 10 : Nat) : Int) by rw [wr64 (by omega) (by omega)]; omega, hw _ hd, hsz, chk_pos hsl, chk_neg (by decide), e3, digit_str]
      rw [ih m' _ _ (by omega) hp (by omega) hs2, fin]
    · have hdd : Int.tmod x 10 = ((u % 10 : Nat) : Int) := by omega
      rw [tb_neg (ilt_f (by omega)), hdd, hw _ hd, hsz, chk_pos hsl, chk_neg (by decide), e3, digit_str]
      rw [ih m' _ _ (by omega) hp (by omega) hs2, fin]
theorem decDigits_length : ∀ (m u : Nat), u < 10 ^ m → (Lib.decDigits u).length ≤ m + 1
  | 0, u, h => by
    have : u = 0 := by simpa using h
    subst this
    rw [Lib.decDigits, dif_pos (by omega)]; simp
  | m + 1, u, h => by
    rw [Lib.decDigits]
    split
    · simp
    · have := decDigits_length m (u / 10) (by rw [Nat.pow_succ] at h; omega)
      simp; omega
theorem spec_numText {n : Int} (h0 : -9223372036854775808 ≤ n) (h1 : n ≤ 9223372036854775807) : spec_NumText (n, ()) = some ((), ⟨(Lib.itoa n).toArray⟩, ()) := by
  unfold spec_NumText spec_NumText_k
  simp only
  by_cases h : n = 0
  · subst h
    rw [ieq_self, tb_t]
    unfold Lib.itoa
    rw [if_neg (by omega), Lib.decDigits, dif_pos (by omega)]
    rfl
  rw [ieq_f h, tb_f]
  rw [spec_digits 20 fuel n ⟨#[]⟩ (by have := fuel_big; omega) (by omega) (by omega) (by simp)]
  simp only
  have hu : 0 < n.natAbs := by omega
  have e1 : digs n.natAbs ⟨#[]⟩ = ⟨(Lib.decDigits n.natAbs).toArray⟩ := by
    unfold digs
    rw [if_neg (by omega)]
    simp
  have hl := decDigits_length 20 n.natAbs (by omega)
  rw [e1]
  unfold Lib.itoa
  by_cases hn : n < 0
  · rw [tb_pos (ilt_t hn), if_pos hn, chk_pos (by
      show 1 + (Lib.decDigits n.natAbs).toArray.size < slim
      simp only [List.size_toArray, slim]; omega)]
    rfl
  · rw [tb_neg (ilt_f (by omega)), if_neg hn, show n.natAbs = n.toNat by omega]
end Go.Proofs.YtjbmhpldjncdbaaDoor.V
