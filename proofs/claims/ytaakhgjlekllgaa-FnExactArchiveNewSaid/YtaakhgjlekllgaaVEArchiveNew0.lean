/- The functions that FnExactArchiveNew reaches, each as a plain function, and the plain law about them: the statement answers true at every input. No condition beyond those that stand in each theorem. -/
import Derived.Test.YtaakhgjlekllgaaVC
import Derived.KernelRfl
import Derived.Test.YtaakhgjlekllgaaChecked
import Derived.Test.YtaakhgjlekllgaaXShelf
import Derived.Laws.BitsLemmas
set_option linter.unusedVariables false
set_option linter.unusedSimpArgs false
noncomputable section
set_option maxRecDepth 100000
namespace Go.Proofs.Ytaakhgjlekllgaa.V
open Go Go.Proofs
def fuel : Nat := 18446744073709551616
abbrev T64 : Ty := .pair .str (.pair .str .unit)
abbrev S64 : Ty := .pair .str (.pair .str .unit)
abbrev T166 : Ty := .pair (.int .i64) (.pair .str .unit)
abbrev S166 : Ty := .pair (.int .i64) (.pair .str .unit)
abbrev T51 : Ty := .pair (.row true .str) (.pair (.row true T166) .unit)
abbrev S51 : Ty := .pair (.row false .str) (.pair (.row false S166) .unit)
abbrev T167 : Ty := .pair (.int .i64) (.pair .str .unit)
abbrev S167 : Ty := .pair (.int .i64) (.pair .str .unit)
abbrev T55 : Ty := .pair (.row true .str) (.pair (.row true T167) .unit)
abbrev S55 : Ty := .pair (.row false .str) (.pair (.row false S167) .unit)
abbrev T69 : Ty := .pair (.int .i64) (.pair (.int .i64) (.pair (.int .i64) .unit))
abbrev S69 : Ty := .pair (.int .i64) (.pair (.int .i64) (.pair (.int .i64) .unit))
abbrev T73 : Ty := .pair (.int .i64) (.pair (.int .i64) (.pair (.int .i64) .unit))
abbrev S73 : Ty := .pair (.int .i64) (.pair (.int .i64) (.pair (.int .i64) .unit))
abbrev T78 : Ty := .pair .bool (.pair T55 (.pair T69 (.pair (.row true T64) .unit)))
abbrev S78 : Ty := .pair .bool (.pair S55 (.pair S69 (.pair (.row false S64) .unit)))
def tyTab : List (Nat × Ty) := [(3, (.int .i64)), (4, .bool), (5, (.int .u8)), (9, .str), (22, (.row true (.int .u8))), (42, (.row true T64)), (48, (.row true .str)), (49, (.row true T166)), (51, T51), (53, (.row true T167)), (55, T55), (64, T64), (69, T69), (73, T73), (78, T78), (126, .any), (156, (.int .u64)), (166, T166), (167, T167), (170, .any)]
def tyE (i : Nat) : Ty := (look tyTab i).getD .unit
theorem mixed_ok : Try.prog.follows .mixedOrders = true := by kernel_rfl
theorem tab_ok : tabOk Try.prog tyTab = true := by kernel_rfl
def strings_Repeat : (ByteArray × Int × Unit) → Option (Unit × (ByteArray × Unit)) := repeatF
theorem strings_Repeat_o : Known Try.prog 120 ⟨[.val .str, .val (.int .i64)], [.str], (.pair .str .unit), strings_Repeat⟩ := known_repeat (entered_of Try.func120 (by kernel_rfl)) (fun s c w h1 h2 => Try.strings_Repeat s c w h1 h2)
def math_bits_Mul : (Int × Int × Unit) → Option (Unit × (Int × Int × Unit)) := mulG
theorem math_bits_Mul_o : Known Try.prog 158 ⟨[.val (.int .u64), .val (.int .u64)], [(.int .u64), (.int .u64)], (.pair (.int .u64) (.pair (.int .u64) .unit)), math_bits_Mul⟩ := known_mulG (entered_of Try.func158 (by kernel_rfl)) (fun x y w h1 h2 => Try.bits_Mul x y h1 h2 w)
def laws_toByteS_P0 : Tpl := ⟨[(0, .one (.leaf (.row false (.int .u8)))), (3, .one (.fix (.ref 10000 [] none))), (4, .one (.leaf (.int .i64)))], [], [(10000, (.int .u8))]⟩
def laws_toByteS_O0 : Tpl := ⟨[(3, .one (.fix (.ref 10500 [] none)))], [], [(10500, (.int .u8))]⟩
def laws_toByteS_k0 (N : Nat) : Nat → ((Unit × (Unit × ((List Int) × Unit))) → Option (Unit × ((List Int) × Unit))) → (((List Int) × Int × Unit) × (Unit × ((List Int) × Unit))) → Option (Unit × ((List Int) × Unit))
  | 0, _, _ => none
  | n + 1, k, x =>
    tb (ilt x.1.2.1 (((llen x.1.1) : Nat) : Int))
    (chk (0 ≤ x.1.2.1) (obind (at? x.1.1 (Int.toNat x.1.2.1)) fun v0 =>
        chk ((0 ≤ x.1.2.1) ∧ (x.1.2.1 < (((llen x.2.2.1) : Nat) : Int))) (obind (at? x.2.2.1 (Int.toNat x.1.2.1)) fun v1 =>
          laws_toByteS_k0 N n k ((x.1.1, (wr .i64 (x.1.2.1 + 1)), ()), (), (lset x.2.2.1 (Int.toNat x.1.2.1) v0), ())) (none)) (none))
    (k ((), (), x.2.2.1, ()))
def laws_toByteS_k (N : Nat) (x0 : (List Int)) : Option (Unit × ((List Int) × Unit)) :=
  chk ((0 ≤ (((llen x0) : Nat) : Int)) ∧ (((((llen x0) : Nat) : Int) ≤ (((llen x0) : Nat) : Int)) ∧ ((Int.toNat (((llen x0) : Nat) : Int)) ≤ 140737488355328))) (laws_toByteS_k0 N N (fun v0 =>
      some ((), v0.2.2.1, ())) ((x0, 0, ()), (), (lrep (Int.toNat (((llen x0) : Nat) : Int)) (0 : Int)), ())) (none)
def laws_toByteS (x : ((List Int) × Unit)) : Option (Unit × ((List Int) × Unit)) := laws_toByteS_k fuel x.1
def laws_toByteS_s : List (Nat × Con) := []
def laws_toByteS_E : Env := ⟨fun j => (look tyTab j).getD .unit, fun j => look laws_toByteS_s j⟩
theorem laws_toByteS_r0 (N n : Nat) (k : laws_toByteS_O0.ty.den → Option (Unit × ((List Int) × Unit))) (x : laws_toByteS_P0.ty.den) : roundK laws_toByteS_E ⟨Try.f23.ntmps, N, (fun i => look [(0, ⟨laws_toByteS_P0, laws_toByteS_O0, [.tmp 3 10000 (.int .u8)], [.tmp 3 10500 (.int .u8)], laws_toByteS_k0 N⟩)] i), retK laws_toByteS_E Try.f23 [.val (.row false (.int .u8))] [(.row true (.int .u8))] (.pair (.row true (.int .u8)) .unit)⟩ (Try.f23.body.getD .skip) 0 ⟨laws_toByteS_P0, laws_toByteS_O0, [.tmp 3 10000 (.int .u8)], [.tmp 3 10500 (.int .u8)], laws_toByteS_k0 N⟩ (laws_toByteS_k0 N n k) k x = laws_toByteS_k0 N (n + 1) k x := by kernel_rfl
theorem laws_toByteS_f_eq (N : Nat) (x0 : (List Int)) : funK laws_toByteS_E Try.f23 [.val (.row false (.int .u8))] [(.row true (.int .u8))] (.pair (.row true (.int .u8)) .unit) (fun i => look [(0, ⟨laws_toByteS_P0, laws_toByteS_O0, [.tmp 3 10000 (.int .u8)], [.tmp 3 10500 (.int .u8)], laws_toByteS_k0 N⟩)] i) N (x0, ()) = laws_toByteS_k N x0 := by kernel_rfl
theorem laws_toByteS_o : Known Try.prog 23 ⟨[.val (.row false (.int .u8))], [(.row true (.int .u8))], (.pair (.row true (.int .u8)) .unit), laws_toByteS⟩ := known_of (tab := tyTab) (cons := laws_toByteS_s) (segs := [(0, ⟨laws_toByteS_P0, laws_toByteS_O0, [.tmp 3 10000 (.int .u8)], [.tmp 3 10500 (.int .u8)], laws_toByteS_k0 fuel⟩)]) (n := fuel) mixed_ok tab_ok .nil Try.func23 (by kernel_rfl) ⟨⟨fun _ _ => rfl, fun n k x => laws_toByteS_r0 fuel n k x⟩, trivial⟩ (fun x => laws_toByteS_f_eq fuel x.1)
def laws_eqByteS_P0 : Tpl := ⟨[(0, .one (.leaf (.row false (.int .u8)))), (1, .one (.leaf (.row false (.int .u8)))), (5, .one (.leaf (.int .i64)))], [], []⟩
def laws_eqByteS_O0 : Tpl := ⟨[], [], []⟩
def laws_eqByteS_k0 (N : Nat) : Nat → ((Unit × (Unit × Unit)) → Option (Unit × (Bool × Unit))) → (((List Int) × (List Int) × Int × Unit) × (Unit × Unit)) → Option (Unit × (Bool × Unit))
  | 0, _, _ => none
  | n + 1, k, x =>
    tb (ilt x.1.2.2.1 (((llen x.1.1) : Nat) : Int))
    (chk (0 ≤ x.1.2.2.1) (obind (at? x.1.1 (Int.toNat x.1.2.2.1)) fun v0 =>
        chk (0 ≤ x.1.2.2.1) (obind (at? x.1.2.1 (Int.toNat x.1.2.2.1)) fun v1 =>
          tb (bnot (ieq v0 v1))
          (some ((), false, ()))
          (laws_eqByteS_k0 N n k ((x.1.1, x.1.2.1, (wr .i64 (x.1.2.2.1 + 1)), ()), (), ()))) (none)) (none))
    (k ((), (), ()))
def laws_eqByteS_k (N : Nat) (x0 : (List Int)) (x1 : (List Int)) : Option (Unit × (Bool × Unit)) :=
  tb (bnot (ieq (((llen x0) : Nat) : Int) (((llen x1) : Nat) : Int)))
  (some ((), false, ()))
  (laws_eqByteS_k0 N N (fun v0 =>
      some ((), true, ())) ((x0, x1, 0, ()), (), ()))
def laws_eqByteS (x : ((List Int) × (List Int) × Unit)) : Option (Unit × (Bool × Unit)) := laws_eqByteS_k fuel x.1 x.2.1
def laws_eqByteS_s : List (Nat × Con) := []
def laws_eqByteS_E : Env := ⟨fun j => (look tyTab j).getD .unit, fun j => look laws_eqByteS_s j⟩
theorem laws_eqByteS_r0 (N n : Nat) (k : laws_eqByteS_O0.ty.den → Option (Unit × (Bool × Unit))) (x : laws_eqByteS_P0.ty.den) : roundK laws_eqByteS_E ⟨Try.f25.ntmps, N, (fun i => look [(0, ⟨laws_eqByteS_P0, laws_eqByteS_O0, [], [], laws_eqByteS_k0 N⟩)] i), retK laws_eqByteS_E Try.f25 [.val (.row false (.int .u8)), .val (.row false (.int .u8))] [.bool] (.pair .bool .unit)⟩ (Try.f25.body.getD .skip) 0 ⟨laws_eqByteS_P0, laws_eqByteS_O0, [], [], laws_eqByteS_k0 N⟩ (laws_eqByteS_k0 N n k) k x = laws_eqByteS_k0 N (n + 1) k x := by kernel_rfl
theorem laws_eqByteS_f_eq (N : Nat) (x0 : (List Int)) (x1 : (List Int)) : funK laws_eqByteS_E Try.f25 [.val (.row false (.int .u8)), .val (.row false (.int .u8))] [.bool] (.pair .bool .unit) (fun i => look [(0, ⟨laws_eqByteS_P0, laws_eqByteS_O0, [], [], laws_eqByteS_k0 N⟩)] i) N (x0, x1, ()) = laws_eqByteS_k N x0 x1 := by kernel_rfl
theorem laws_eqByteS_o : Known Try.prog 25 ⟨[.val (.row false (.int .u8)), .val (.row false (.int .u8))], [.bool], (.pair .bool .unit), laws_eqByteS⟩ := known_of (tab := tyTab) (cons := laws_eqByteS_s) (segs := [(0, ⟨laws_eqByteS_P0, laws_eqByteS_O0, [], [], laws_eqByteS_k0 fuel⟩)]) (n := fuel) mixed_ok tab_ok .nil Try.func25 (by kernel_rfl) ⟨⟨fun _ _ => rfl, fun n k x => laws_eqByteS_r0 fuel n k x⟩, trivial⟩ (fun x => laws_eqByteS_f_eq fuel x.1 x.2.1)
def laws_markByteS_P0 : Tpl := ⟨[(0, .one (.fix (.ref 500 [] none))), (1, .one (.leaf (.int .i64))), (5, .one (.leaf (.int .i64)))], [], [(500, (.int .u8))]⟩
def laws_markByteS_O0 : Tpl := ⟨[(1, .one (.leaf (.int .i64)))], [], [(500, (.int .u8))]⟩
def laws_markByteS_k0 (N : Nat) : Nat → (((Int × Unit) × (Unit × ((List Int) × Unit))) → Option (((List Int) × Unit) × (Int × Unit))) → ((Int × Int × Unit) × (Unit × ((List Int) × Unit))) → Option (((List Int) × Unit) × (Int × Unit))
  | 0, _, _ => none
  | n + 1, k, x =>
    tb (ilt x.1.2.1 (((llen x.2.2.1) : Nat) : Int))
    (chk ((0 ≤ x.1.2.1) ∧ (x.1.2.1 < (((llen x.2.2.1) : Nat) : Int))) (obind (at? x.2.2.1 (Int.toNat x.1.2.1)) fun v0 =>
        laws_markByteS_k0 N n k (((wr .i64 (x.1.1 + 1)), (wr .i64 (x.1.2.1 + 1)), ()), (), (lset x.2.2.1 (Int.toNat x.1.2.1) (wr .u8 x.1.1)), ())) (none))
    (k ((x.1.1, ()), (), x.2.2.1, ()))
def laws_markByteS_k (N : Nat) (x0 : (List Int)) (x1 : Int) : Option (((List Int) × Unit) × (Int × Unit)) :=
  laws_markByteS_k0 N N (fun v0 =>
    some ((v0.2.2.1, ()), v0.1.1, ())) ((x1, 0, ()), (), x0, ())
def laws_markByteS (x : ((List Int) × Int × Unit)) : Option (((List Int) × Unit) × (Int × Unit)) := laws_markByteS_k fuel x.1 x.2.1
def laws_markByteS_s : List (Nat × Con) := []
def laws_markByteS_E : Env := ⟨fun j => (look tyTab j).getD .unit, fun j => look laws_markByteS_s j⟩
theorem laws_markByteS_r0 (N n : Nat) (k : laws_markByteS_O0.ty.den → Option (((List Int) × Unit) × (Int × Unit))) (x : laws_markByteS_P0.ty.den) : roundK laws_markByteS_E ⟨Try.f26.ntmps, N, (fun i => look [(0, ⟨laws_markByteS_P0, laws_markByteS_O0, [], [], laws_markByteS_k0 N⟩)] i), retK laws_markByteS_E Try.f26 [.bor (.row true (.int .u8)), .val (.int .i64)] [(.int .i64)] (.pair (.int .i64) .unit)⟩ (Try.f26.body.getD .skip) 0 ⟨laws_markByteS_P0, laws_markByteS_O0, [], [], laws_markByteS_k0 N⟩ (laws_markByteS_k0 N n k) k x = laws_markByteS_k0 N (n + 1) k x := by kernel_rfl
theorem laws_markByteS_f_eq (N : Nat) (x0 : (List Int)) (x1 : Int) : funK laws_markByteS_E Try.f26 [.bor (.row true (.int .u8)), .val (.int .i64)] [(.int .i64)] (.pair (.int .i64) .unit) (fun i => look [(0, ⟨laws_markByteS_P0, laws_markByteS_O0, [], [], laws_markByteS_k0 N⟩)] i) N (x0, x1, ()) = laws_markByteS_k N x0 x1 := by kernel_rfl
theorem laws_markByteS_o : Known Try.prog 26 ⟨[.bor (.row true (.int .u8)), .val (.int .i64)], [(.int .i64)], (.pair (.int .i64) .unit), laws_markByteS⟩ := known_of (tab := tyTab) (cons := laws_markByteS_s) (segs := [(0, ⟨laws_markByteS_P0, laws_markByteS_O0, [], [], laws_markByteS_k0 fuel⟩)]) (n := fuel) mixed_ok tab_ok .nil Try.func26 (by kernel_rfl) ⟨⟨fun _ _ => rfl, fun n k x => laws_markByteS_r0 fuel n k x⟩, trivial⟩ (fun x => laws_markByteS_f_eq fuel x.1 x.2.1)
def laws_szStringS_P0 : Tpl := ⟨[(0, .one (.leaf (.row false .str))), (1, .one (.leaf (.int .i64))), (5, .one (.leaf (.int .i64)))], [], []⟩
def laws_szStringS_O0 : Tpl := ⟨[(1, .one (.leaf (.int .i64)))], [], []⟩
def laws_szStringS_k0 (N : Nat) : Nat → (((Int × Unit) × (Unit × Unit)) → Option (Unit × (Int × Unit))) → (((List ByteArray) × Int × Int × Unit) × (Unit × Unit)) → Option (Unit × (Int × Unit))
  | 0, _, _ => none
  | n + 1, k, x =>
    tb (ilt x.1.2.2.1 (((llen x.1.1) : Nat) : Int))
    (chk (0 ≤ x.1.2.2.1) (obind (at? x.1.1 (Int.toNat x.1.2.2.1)) fun v0 =>
        tb (ilt (wr .i64 (x.1.2.1 - (((slen v0) : Nat) : Int))) 0)
        (some ((), (-1), ()))
        (laws_szStringS_k0 N n k ((x.1.1, (wr .i64 (x.1.2.1 - (((slen v0) : Nat) : Int))), (wr .i64 (x.1.2.2.1 + 1)), ()), (), ()))) (none))
    (k ((x.1.2.1, ()), (), ()))
def laws_szStringS_k (N : Nat) (x0 : (List ByteArray)) (x1 : Int) : Option (Unit × (Int × Unit)) :=
  tb (ilt (wr .i64 (x1 - (((llen x0) : Nat) : Int))) 0)
  (some ((), (-1), ()))
  (laws_szStringS_k0 N N (fun v0 =>
      some ((), v0.1.1, ())) ((x0, (wr .i64 (x1 - (((llen x0) : Nat) : Int))), 0, ()), (), ()))
def laws_szStringS (x : ((List ByteArray) × Int × Unit)) : Option (Unit × (Int × Unit)) := laws_szStringS_k fuel x.1 x.2.1
def laws_szStringS_s : List (Nat × Con) := []
def laws_szStringS_E : Env := ⟨fun j => (look tyTab j).getD .unit, fun j => look laws_szStringS_s j⟩
theorem laws_szStringS_r0 (N n : Nat) (k : laws_szStringS_O0.ty.den → Option (Unit × (Int × Unit))) (x : laws_szStringS_P0.ty.den) : roundK laws_szStringS_E ⟨Try.f91.ntmps, N, (fun i => look [(0, ⟨laws_szStringS_P0, laws_szStringS_O0, [], [], laws_szStringS_k0 N⟩)] i), retK laws_szStringS_E Try.f91 [.val (.row false .str), .val (.int .i64)] [(.int .i64)] (.pair (.int .i64) .unit)⟩ (Try.f91.body.getD .skip) 0 ⟨laws_szStringS_P0, laws_szStringS_O0, [], [], laws_szStringS_k0 N⟩ (laws_szStringS_k0 N n k) k x = laws_szStringS_k0 N (n + 1) k x := by kernel_rfl
theorem laws_szStringS_f_eq (N : Nat) (x0 : (List ByteArray)) (x1 : Int) : funK laws_szStringS_E Try.f91 [.val (.row false .str), .val (.int .i64)] [(.int .i64)] (.pair (.int .i64) .unit) (fun i => look [(0, ⟨laws_szStringS_P0, laws_szStringS_O0, [], [], laws_szStringS_k0 N⟩)] i) N (x0, x1, ()) = laws_szStringS_k N x0 x1 := by kernel_rfl
theorem laws_szStringS_o : Known Try.prog 91 ⟨[.val (.row false .str), .val (.int .i64)], [(.int .i64)], (.pair (.int .i64) .unit), laws_szStringS⟩ := known_of (tab := tyTab) (cons := laws_szStringS_s) (segs := [(0, ⟨laws_szStringS_P0, laws_szStringS_O0, [], [], laws_szStringS_k0 fuel⟩)]) (n := fuel) mixed_ok tab_ok .nil Try.func91 (by kernel_rfl) ⟨⟨fun _ _ => rfl, fun n k x => laws_szStringS_r0 fuel n k x⟩, trivial⟩ (fun x => laws_szStringS_f_eq fuel x.1 x.2.1)
def laws_szPut_k (N : Nat) (x0 : (Int × ByteArray × Unit)) (x1 : Int) : Option (Unit × (Int × Unit)) :=
  tb (ilt (wr .i64 (x1 - (((slen x0.2.1) : Nat) : Int))) 0)
  (some ((), (-1), ()))
  (some ((), (wr .i64 (x1 - (((slen x0.2.1) : Nat) : Int))), ()))
def laws_szPut (x : ((Int × ByteArray × Unit) × Int × Unit)) : Option (Unit × (Int × Unit)) := laws_szPut_k fuel x.1 x.2.1
def laws_szPut_s : List (Nat × Con) := []
def laws_szPut_E : Env := ⟨fun j => (look tyTab j).getD .unit, fun j => look laws_szPut_s j⟩
theorem laws_szPut_f_eq (N : Nat) (x0 : (Int × ByteArray × Unit)) (x1 : Int) : funK laws_szPut_E Try.f144 [.val S166, .val (.int .i64)] [(.int .i64)] (.pair (.int .i64) .unit) (fun i => look [] i) N (x0, x1, ()) = laws_szPut_k N x0 x1 := by kernel_rfl
theorem laws_szPut_o : Known Try.prog 144 ⟨[.val S166, .val (.int .i64)], [(.int .i64)], (.pair (.int .i64) .unit), laws_szPut⟩ := known_of (tab := tyTab) (cons := laws_szPut_s) (segs := []) (n := fuel) mixed_ok tab_ok .nil Try.func144 (by kernel_rfl) trivial (fun x => laws_szPut_f_eq fuel x.1 x.2.1)
def laws_szPutS_P0 : Tpl := ⟨[(0, .one (.leaf (.row false (.pair (.int .i64) (.pair .str .unit))))), (1, .one (.leaf (.int .i64))), (5, .one (.leaf (.int .i64)))], [], []⟩
def laws_szPutS_O0 : Tpl := ⟨[(1, .one (.leaf (.int .i64)))], [], []⟩
def laws_szPutS_k0 (N : Nat) : Nat → (((Int × Unit) × (Unit × Unit)) → Option (Unit × (Int × Unit))) → (((List (Int × (ByteArray × Unit))) × Int × Int × Unit) × (Unit × Unit)) → Option (Unit × (Int × Unit))
  | 0, _, _ => none
  | n + 1, k, x =>
    tb (ilt x.1.2.2.1 (((llen x.1.1) : Nat) : Int))
    (chk (0 ≤ x.1.2.2.1) (obind (at? x.1.1 (Int.toNat x.1.2.2.1)) fun v0 =>
        obind (laws_szPut ((v0.1, v0.2.1, ()), x.1.2.1, ())) fun v1 =>
        tb (ilt v1.2.1 0)
        (some ((), (-1), ()))
        (laws_szPutS_k0 N n k ((x.1.1, v1.2.1, (wr .i64 (x.1.2.2.1 + 1)), ()), (), ()))) (none))
    (k ((x.1.2.1, ()), (), ()))
def laws_szPutS_k (N : Nat) (x0 : (List (Int × ByteArray × Unit))) (x1 : Int) : Option (Unit × (Int × Unit)) :=
  tb (ilt (wr .i64 (x1 - (((llen x0) : Nat) : Int))) 0)
  (some ((), (-1), ()))
  (laws_szPutS_k0 N N (fun v0 =>
      some ((), v0.1.1, ())) ((x0, (wr .i64 (x1 - (((llen x0) : Nat) : Int))), 0, ()), (), ()))
def laws_szPutS (x : ((List (Int × ByteArray × Unit)) × Int × Unit)) : Option (Unit × (Int × Unit)) := laws_szPutS_k fuel x.1 x.2.1
def laws_szPutS_s : List (Nat × Con) := [(144, ⟨[.val S166, .val (.int .i64)], [(.int .i64)], (.pair (.int .i64) .unit), laws_szPut⟩)]
def laws_szPutS_E : Env := ⟨fun j => (look tyTab j).getD .unit, fun j => look laws_szPutS_s j⟩
theorem laws_szPutS_r0 (N n : Nat) (k : laws_szPutS_O0.ty.den → Option (Unit × (Int × Unit))) (x : laws_szPutS_P0.ty.den) : roundK laws_szPutS_E ⟨Try.f92.ntmps, N, (fun i => look [(0, ⟨laws_szPutS_P0, laws_szPutS_O0, [], [], laws_szPutS_k0 N⟩)] i), retK laws_szPutS_E Try.f92 [.val (.row false S166), .val (.int .i64)] [(.int .i64)] (.pair (.int .i64) .unit)⟩ (Try.f92.body.getD .skip) 0 ⟨laws_szPutS_P0, laws_szPutS_O0, [], [], laws_szPutS_k0 N⟩ (laws_szPutS_k0 N n k) k x = laws_szPutS_k0 N (n + 1) k x := by kernel_rfl
theorem laws_szPutS_f_eq (N : Nat) (x0 : (List (Int × ByteArray × Unit))) (x1 : Int) : funK laws_szPutS_E Try.f92 [.val (.row false S166), .val (.int .i64)] [(.int .i64)] (.pair (.int .i64) .unit) (fun i => look [(0, ⟨laws_szPutS_P0, laws_szPutS_O0, [], [], laws_szPutS_k0 N⟩)] i) N (x0, x1, ()) = laws_szPutS_k N x0 x1 := by kernel_rfl
theorem laws_szPutS_o : Known Try.prog 92 ⟨[.val (.row false S166), .val (.int .i64)], [(.int .i64)], (.pair (.int .i64) .unit), laws_szPutS⟩ := known_of (tab := tyTab) (cons := laws_szPutS_s) (segs := [(0, ⟨laws_szPutS_P0, laws_szPutS_O0, [], [], laws_szPutS_k0 fuel⟩)]) (n := fuel) mixed_ok tab_ok (.cons laws_szPut_o .nil) Try.func92 (by kernel_rfl) ⟨⟨fun _ _ => rfl, fun n k x => laws_szPutS_r0 fuel n k x⟩, trivial⟩ (fun x => laws_szPutS_f_eq fuel x.1 x.2.1)
def laws_szDisk_k (N : Nat) (x0 : ((List ByteArray) × (List (Int × ByteArray × Unit)) × Unit)) (x1 : Int) : Option (Unit × (Int × Unit)) :=
  obind (laws_szStringS (x0.1, x1, ())) fun v0 =>
  tb (ilt v0.2.1 0)
  (some ((), (-1), ()))
  (obind (laws_szPutS (x0.2.1, v0.2.1, ())) fun v1 =>
    tb (ilt v1.2.1 0)
    (some ((), (-1), ()))
    (some ((), v1.2.1, ())))
def laws_szDisk (x : (((List ByteArray) × (List (Int × ByteArray × Unit)) × Unit) × Int × Unit)) : Option (Unit × (Int × Unit)) := laws_szDisk_k fuel x.1 x.2.1
def laws_szDisk_s : List (Nat × Con) := [(91, ⟨[.val (.row false .str), .val (.int .i64)], [(.int .i64)], (.pair (.int .i64) .unit), laws_szStringS⟩), (92, ⟨[.val (.row false S166), .val (.int .i64)], [(.int .i64)], (.pair (.int .i64) .unit), laws_szPutS⟩)]
def laws_szDisk_E : Env := ⟨fun j => (look tyTab j).getD .unit, fun j => look laws_szDisk_s j⟩
theorem laws_szDisk_f_eq (N : Nat) (x0 : ((List ByteArray) × (List (Int × ByteArray × Unit)) × Unit)) (x1 : Int) : funK laws_szDisk_E Try.f36 [.val S51, .val (.int .i64)] [(.int .i64)] (.pair (.int .i64) .unit) (fun i => look [] i) N (x0, x1, ()) = laws_szDisk_k N x0 x1 := by kernel_rfl
theorem laws_szDisk_o : Known Try.prog 36 ⟨[.val S51, .val (.int .i64)], [(.int .i64)], (.pair (.int .i64) .unit), laws_szDisk⟩ := known_of (tab := tyTab) (cons := laws_szDisk_s) (segs := []) (n := fuel) mixed_ok tab_ok (.cons laws_szStringS_o (.cons laws_szPutS_o .nil)) Try.func36 (by kernel_rfl) trivial (fun x => laws_szDisk_f_eq fuel x.1 x.2.1)
def spec_l1In_k (N : Nat) (x0 : Int) (x1 : Int) (x2 : Int) : Option (Unit × (Bool × Unit)) :=
  tb (ile x1 x0)
  (some ((), (ile x0 x2), ()))
  (some ((), false, ()))
def spec_l1In (x : (Int × Int × Int × Unit)) : Option (Unit × (Bool × Unit)) := spec_l1In_k fuel x.1 x.2.1 x.2.2.1
def spec_l1In_s : List (Nat × Con) := []
def spec_l1In_E : Env := ⟨fun j => (look tyTab j).getD .unit, fun j => look spec_l1In_s j⟩
theorem spec_l1In_f_eq (N : Nat) (x0 : Int) (x1 : Int) (x2 : Int) : funK spec_l1In_E Try.f96 [.val (.int .i64), .val (.int .i64), .val (.int .i64)] [.bool] (.pair .bool .unit) (fun i => look [] i) N (x0, x1, x2, ()) = spec_l1In_k N x0 x1 x2 := by kernel_rfl
theorem spec_l1In_o : Known Try.prog 96 ⟨[.val (.int .i64), .val (.int .i64), .val (.int .i64)], [.bool], (.pair .bool .unit), spec_l1In⟩ := known_of (tab := tyTab) (cons := spec_l1In_s) (segs := []) (n := fuel) mixed_ok tab_ok .nil Try.func96 (by kernel_rfl) trivial (fun x => spec_l1In_f_eq fuel x.1 x.2.1 x.2.2.1)
def spec_l15Sector_k (N : Nat) (x0 : Int) : Option (Unit × (Bool × Unit)) :=
  obind (spec_l1In (x0, 0, 129, ())) fun v0 =>
  some ((), v0.2.1, ())
def spec_l15Sector (x : (Int × Unit)) : Option (Unit × (Bool × Unit)) := spec_l15Sector_k fuel x.1
def spec_l15Sector_s : List (Nat × Con) := [(96, ⟨[.val (.int .i64), .val (.int .i64), .val (.int .i64)], [.bool], (.pair .bool .unit), spec_l1In⟩)]
def spec_l15Sector_E : Env := ⟨fun j => (look tyTab j).getD .unit, fun j => look spec_l15Sector_s j⟩
theorem spec_l15Sector_f_eq (N : Nat) (x0 : Int) : funK spec_l15Sector_E Try.f145 [.val (.int .i64)] [.bool] (.pair .bool .unit) (fun i => look [] i) N (x0, ()) = spec_l15Sector_k N x0 := by kernel_rfl
theorem spec_l15Sector_o : Known Try.prog 145 ⟨[.val (.int .i64)], [.bool], (.pair .bool .unit), spec_l15Sector⟩ := known_of (tab := tyTab) (cons := spec_l15Sector_s) (segs := []) (n := fuel) mixed_ok tab_ok (.cons spec_l1In_o .nil) Try.func145 (by kernel_rfl) trivial (fun x => spec_l15Sector_f_eq fuel x.1)
def spec_DiskOk_P0 : Tpl := ⟨[(1, .one (.fix (.vptr 1 0))), (3, .one (.leaf (.int .i64)))], [(1, [.leaf (.row false .str), .leaf (.row false (.pair (.int .i64) (.pair .str .unit)))])], []⟩
def spec_DiskOk_O0 : Tpl := ⟨[(1, .one (.fix (.vptr 1 0)))], [(1, [.leaf (.row false .str), .leaf (.row false (.pair (.int .i64) (.pair .str .unit)))])], []⟩
def spec_DiskOk_k0 (N : Nat) : Nat → ((Unit × ((((List ByteArray) × (List (Int × (ByteArray × Unit))) × Unit) × Unit) × Unit)) → Option (Unit × (Bool × Unit))) → ((Int × Unit) × ((((List ByteArray) × (List (Int × (ByteArray × Unit))) × Unit) × Unit) × Unit)) → Option (Unit × (Bool × Unit))
  | 0, _, _ => none
  | n + 1, k, x =>
    tb (ilt x.1.1 (((llen x.2.1.1.1) : Nat) : Int))
    (chk (0 ≤ x.1.1) (obind (at? x.2.1.1.1 (Int.toNat x.1.1)) fun v0 =>
        tb (bnot (ieq (((slen v0) : Nat) : Int) 64))
        (some ((), false, ()))
        (spec_DiskOk_k0 N n k (((wr .i64 (x.1.1 + 1)), ()), ((x.2.1.1.1, x.2.1.1.2.1, ()), ()), ()))) (none))
    (k ((), ((x.2.1.1.1, x.2.1.1.2.1, ()), ()), ()))
def spec_DiskOk_P2 : Tpl := ⟨[(1, .one (.fix (.vptr 1 0))), (4, .one (.leaf (.int .i64)))], [(1, [.leaf (.row false .str), .leaf (.row false (.pair (.int .i64) (.pair .str .unit)))])], []⟩
def spec_DiskOk_O2 : Tpl := ⟨[], [], []⟩
def spec_DiskOk_k2 (N : Nat) : Nat → ((Unit × (Unit × Unit)) → Option (Unit × (Bool × Unit))) → ((Int × Unit) × ((((List ByteArray) × (List (Int × (ByteArray × Unit))) × Unit) × Unit) × Unit)) → Option (Unit × (Bool × Unit))
  | 0, _, _ => none
  | n + 1, k, x =>
    tb (ilt x.1.1 (((llen x.2.1.1.2.1) : Nat) : Int))
    (chk (0 ≤ x.1.1) (obind (at? x.2.1.1.2.1 (Int.toNat x.1.1)) fun v0 =>
        obind (spec_l15Sector (v0.1, ())) fun v1 =>
        tb (bnot v1.2.1)
        (some ((), false, ()))
        (chk (0 ≤ x.1.1) (obind (at? x.2.1.1.2.1 (Int.toNat x.1.1)) fun v2 =>
            tb (bnot (ieq (((slen v2.2.1) : Nat) : Int) 64))
            (some ((), false, ()))
            (spec_DiskOk_k2 N n k (((wr .i64 (x.1.1 + 1)), ()), ((x.2.1.1.1, x.2.1.1.2.1, ()), ()), ()))) (none))) (none))
    (k ((), (), ()))
def spec_DiskOk_k (N : Nat) (x0 : ((List ByteArray) × (List (Int × ByteArray × Unit)) × Unit)) : Option (Unit × (Bool × Unit)) :=
  tb (bnot (ieq (((llen x0.1) : Nat) : Int) 130))
  (some ((), false, ()))
  (tb (ilt 200 (((llen x0.2.1) : Nat) : Int))
    (some ((), false, ()))
    (spec_DiskOk_k0 N N (fun v0 =>
        spec_DiskOk_k2 N N (fun v1 =>
          some ((), true, ())) ((0, ()), ((v0.2.1.1.1, v0.2.1.1.2.1, ()), ()), ())) ((0, ()), ((x0.1, x0.2.1, ()), ()), ())))
def spec_DiskOk (x : (((List ByteArray) × (List (Int × ByteArray × Unit)) × Unit) × Unit)) : Option (Unit × (Bool × Unit)) := spec_DiskOk_k fuel x.1
def spec_DiskOk_s : List (Nat × Con) := [(145, ⟨[.val (.int .i64)], [.bool], (.pair .bool .unit), spec_l15Sector⟩)]
def spec_DiskOk_E : Env := ⟨fun j => (look tyTab j).getD .unit, fun j => look spec_DiskOk_s j⟩
theorem spec_DiskOk_r0 (N n : Nat) (k : spec_DiskOk_O0.ty.den → Option (Unit × (Bool × Unit))) (x : spec_DiskOk_P0.ty.den) : roundK spec_DiskOk_E ⟨Try.f93.ntmps, N, (fun i => look [(0, ⟨spec_DiskOk_P0, spec_DiskOk_O0, [], [], spec_DiskOk_k0 N⟩), (2, ⟨spec_DiskOk_P2, spec_DiskOk_O2, [], [], spec_DiskOk_k2 N⟩)] i), retK spec_DiskOk_E Try.f93 [.val S55] [.bool] (.pair .bool .unit)⟩ (Try.f93.body.getD .skip) 0 ⟨spec_DiskOk_P0, spec_DiskOk_O0, [], [], spec_DiskOk_k0 N⟩ (spec_DiskOk_k0 N n k) k x = spec_DiskOk_k0 N (n + 1) k x := by kernel_rfl
theorem spec_DiskOk_r2 (N n : Nat) (k : spec_DiskOk_O2.ty.den → Option (Unit × (Bool × Unit))) (x : spec_DiskOk_P2.ty.den) : roundK spec_DiskOk_E ⟨Try.f93.ntmps, N, (fun i => look [(0, ⟨spec_DiskOk_P0, spec_DiskOk_O0, [], [], spec_DiskOk_k0 N⟩), (2, ⟨spec_DiskOk_P2, spec_DiskOk_O2, [], [], spec_DiskOk_k2 N⟩)] i), retK spec_DiskOk_E Try.f93 [.val S55] [.bool] (.pair .bool .unit)⟩ (Try.f93.body.getD .skip) 2 ⟨spec_DiskOk_P2, spec_DiskOk_O2, [], [], spec_DiskOk_k2 N⟩ (spec_DiskOk_k2 N n k) k x = spec_DiskOk_k2 N (n + 1) k x := by kernel_rfl
theorem spec_DiskOk_f_eq (N : Nat) (x0 : ((List ByteArray) × (List (Int × ByteArray × Unit)) × Unit)) : funK spec_DiskOk_E Try.f93 [.val S55] [.bool] (.pair .bool .unit) (fun i => look [(0, ⟨spec_DiskOk_P0, spec_DiskOk_O0, [], [], spec_DiskOk_k0 N⟩), (2, ⟨spec_DiskOk_P2, spec_DiskOk_O2, [], [], spec_DiskOk_k2 N⟩)] i) N (x0, ()) = spec_DiskOk_k N x0 := by kernel_rfl
theorem spec_DiskOk_o : Known Try.prog 93 ⟨[.val S55], [.bool], (.pair .bool .unit), spec_DiskOk⟩ := known_of (tab := tyTab) (cons := spec_DiskOk_s) (segs := [(0, ⟨spec_DiskOk_P0, spec_DiskOk_O0, [], [], spec_DiskOk_k0 fuel⟩), (2, ⟨spec_DiskOk_P2, spec_DiskOk_O2, [], [], spec_DiskOk_k2 fuel⟩)]) (n := fuel) mixed_ok tab_ok (.cons spec_l15Sector_o .nil) Try.func93 (by kernel_rfl) ⟨⟨fun _ _ => rfl, fun n k x => spec_DiskOk_r0 fuel n k x⟩, ⟨⟨fun _ _ => rfl, fun n k x => spec_DiskOk_r2 fuel n k x⟩, trivial⟩⟩ (fun x => spec_DiskOk_f_eq fuel x.1)
def spec_l15Copy_k (N : Nat) (x0 : ((List ByteArray) × (List (Int × ByteArray × Unit)) × Unit)) : Option (Unit × (((List ByteArray) × (List (Int × ByteArray × Unit)) × Unit) × Unit)) :=
  chk ((plus 0 (llen x0.1)) ≤ 8796093022208) (chk ((plus 0 (llen x0.2.1)) ≤ 5864062014805) (some ((), ((lapp [] x0.1), (lapp [] x0.2.1), ()), ())) (none)) (none)
def spec_l15Copy (x : (((List ByteArray) × (List (Int × ByteArray × Unit)) × Unit) × Unit)) : Option (Unit × (((List ByteArray) × (List (Int × ByteArray × Unit)) × Unit) × Unit)) := spec_l15Copy_k fuel x.1
def spec_l15Copy_s : List (Nat × Con) := []
def spec_l15Copy_E : Env := ⟨fun j => (look tyTab j).getD .unit, fun j => look spec_l15Copy_s j⟩
theorem spec_l15Copy_f_eq (N : Nat) (x0 : ((List ByteArray) × (List (Int × ByteArray × Unit)) × Unit)) : funK spec_l15Copy_E Try.f94 [.val S55] [T55] (.pair T55 .unit) (fun i => look [] i) N (x0, ()) = spec_l15Copy_k N x0 := by kernel_rfl
theorem spec_l15Copy_o : Known Try.prog 94 ⟨[.val S55], [T55], (.pair T55 .unit), spec_l15Copy⟩ := known_of (tab := tyTab) (cons := spec_l15Copy_s) (segs := []) (n := fuel) mixed_ok tab_ok .nil Try.func94 (by kernel_rfl) trivial (fun x => spec_l15Copy_f_eq fuel x.1)
def spec_l16Area_k (N : Nat) (x0 : Int) : Option (Unit × (Bool × Unit)) :=
  tb (ieq x0 0)
  (some ((), true, ()))
  (some ((), (ieq x0 1), ()))
def spec_l16Area (x : (Int × Unit)) : Option (Unit × (Bool × Unit)) := spec_l16Area_k fuel x.1
def spec_l16Area_s : List (Nat × Con) := []
def spec_l16Area_E : Env := ⟨fun j => (look tyTab j).getD .unit, fun j => look spec_l16Area_s j⟩
theorem spec_l16Area_f_eq (N : Nat) (x0 : Int) : funK spec_l16Area_E Try.f95 [.val (.int .i64)] [.bool] (.pair .bool .unit) (fun i => look [] i) N (x0, ()) = spec_l16Area_k N x0 := by kernel_rfl
theorem spec_l16Area_o : Known Try.prog 95 ⟨[.val (.int .i64)], [.bool], (.pair .bool .unit), spec_l16Area⟩ := known_of (tab := tyTab) (cons := spec_l16Area_s) (segs := []) (n := fuel) mixed_ok tab_ok .nil Try.func95 (by kernel_rfl) trivial (fun x => spec_l16Area_f_eq fuel x.1)
def spec_l15Of_P0 : Tpl := ⟨[(1, .one (.leaf (.int .i64))), (2, .one (.fix (.vptr 2 0))), (5, .one (.leaf (.int .i64)))], [(2, [.leaf (.row false .str), .leaf (.row false (.pair (.int .i64) (.pair .str .unit)))])], []⟩
def spec_l15Of_O0 : Tpl := ⟨[(1, .one (.leaf (.int .i64))), (2, .one (.fix (.vptr 2 0)))], [(2, [.leaf (.row false .str), .leaf (.row false (.pair (.int .i64) (.pair .str .unit)))])], []⟩
def spec_l15Of_k0 (N : Nat) : Nat → (((Int × Unit) × ((((List ByteArray) × (List (Int × (ByteArray × Unit))) × Unit) × Unit) × Unit)) → Option (Unit × (ByteArray × Unit))) → ((Int × Int × Unit) × ((((List ByteArray) × (List (Int × (ByteArray × Unit))) × Unit) × Unit) × Unit)) → Option (Unit × (ByteArray × Unit))
  | 0, _, _ => none
  | n + 1, k, x =>
    tb (ile 0 x.1.2.1)
    (chk (0 ≤ x.1.2.1) (obind (at? x.2.1.1.2.1 (Int.toNat x.1.2.1)) fun v0 =>
        tb (ieq v0.1 x.1.1)
        (chk (0 ≤ x.1.2.1) (obind (at? x.2.1.1.2.1 (Int.toNat x.1.2.1)) fun v1 =>
            some ((), v1.2.1, ())) (none))
        (spec_l15Of_k0 N n k ((x.1.1, (wr .i64 (x.1.2.1 - 1)), ()), ((x.2.1.1.1, x.2.1.1.2.1, ()), ()), ()))) (none))
    (k ((x.1.1, ()), ((x.2.1.1.1, x.2.1.1.2.1, ()), ()), ()))
def spec_l15Of_k (N : Nat) (x0 : ((List ByteArray) × (List (Int × ByteArray × Unit)) × Unit)) (x1 : Int) : Option (Unit × (ByteArray × Unit)) :=
  spec_l15Of_k0 N N (fun v0 =>
    chk (0 ≤ v0.1.1) (obind (at? v0.2.1.1.1 (Int.toNat v0.1.1)) fun v1 =>
      some ((), v1, ())) (none)) ((x1, (wr .i64 ((((llen x0.2.1) : Nat) : Int) - 1)), ()), ((x0.1, x0.2.1, ()), ()), ())
def spec_l15Of (x : (((List ByteArray) × (List (Int × ByteArray × Unit)) × Unit) × Int × Unit)) : Option (Unit × (ByteArray × Unit)) := spec_l15Of_k fuel x.1 x.2.1
def spec_l15Of_s : List (Nat × Con) := []
def spec_l15Of_E : Env := ⟨fun j => (look tyTab j).getD .unit, fun j => look spec_l15Of_s j⟩
theorem spec_l15Of_r0 (N n : Nat) (k : spec_l15Of_O0.ty.den → Option (Unit × (ByteArray × Unit))) (x : spec_l15Of_P0.ty.den) : roundK spec_l15Of_E ⟨Try.f97.ntmps, N, (fun i => look [(0, ⟨spec_l15Of_P0, spec_l15Of_O0, [], [], spec_l15Of_k0 N⟩)] i), retK spec_l15Of_E Try.f97 [.val S55, .val (.int .i64)] [.str] (.pair .str .unit)⟩ (Try.f97.body.getD .skip) 0 ⟨spec_l15Of_P0, spec_l15Of_O0, [], [], spec_l15Of_k0 N⟩ (spec_l15Of_k0 N n k) k x = spec_l15Of_k0 N (n + 1) k x := by kernel_rfl
theorem spec_l15Of_f_eq (N : Nat) (x0 : ((List ByteArray) × (List (Int × ByteArray × Unit)) × Unit)) (x1 : Int) : funK spec_l15Of_E Try.f97 [.val S55, .val (.int .i64)] [.str] (.pair .str .unit) (fun i => look [(0, ⟨spec_l15Of_P0, spec_l15Of_O0, [], [], spec_l15Of_k0 N⟩)] i) N (x0, x1, ()) = spec_l15Of_k N x0 x1 := by kernel_rfl
theorem spec_l15Of_o : Known Try.prog 97 ⟨[.val S55, .val (.int .i64)], [.str], (.pair .str .unit), spec_l15Of⟩ := known_of (tab := tyTab) (cons := spec_l15Of_s) (segs := [(0, ⟨spec_l15Of_P0, spec_l15Of_O0, [], [], spec_l15Of_k0 fuel⟩)]) (n := fuel) mixed_ok tab_ok .nil Try.func97 (by kernel_rfl) ⟨⟨fun _ _ => rfl, fun n k x => spec_l15Of_r0 fuel n k x⟩, trivial⟩ (fun x => spec_l15Of_f_eq fuel x.1 x.2.1)
def spec_DiskPut_k (N : Nat) (x0 : ((List ByteArray) × (List (Int × ByteArray × Unit)) × Unit)) (x1 : Int) (x2 : ByteArray) : Option (Unit × (((List ByteArray) × (List (Int × ByteArray × Unit)) × Unit) × Bool × Unit)) :=
  obind (spec_DiskOk ((x0.1, x0.2.1, ()), ())) fun v0 =>
  tb (bnot v0.2.1)
  (some ((), ([], [], ()), false, ()))
  (obind (spec_l15Copy ((x0.1, x0.2.1, ()), ())) fun v1 =>
    obind (spec_l15Sector (x1, ())) fun v2 =>
    tb (bnot v2.2.1)
    (some ((), (v1.2.1.1, v1.2.1.2.1, ()), false, ()))
    (tb (bnot (ieq (((slen x2) : Nat) : Int) 64))
      (some ((), (v1.2.1.1, v1.2.1.2.1, ()), false, ()))
      (tb (ieq (((llen x0.2.1) : Nat) : Int) 200)
        (some ((), (v1.2.1.1, v1.2.1.2.1, ()), false, ()))
        (chk ((plus (llen v1.2.1.2.1) (llen [(x1, x2, ())])) ≤ 5864062014805) (some ((), (v1.2.1.1, (lapp v1.2.1.2.1 [(x1, x2, ())]), ()), true, ())) (none)))))
def spec_DiskPut (x : (((List ByteArray) × (List (Int × ByteArray × Unit)) × Unit) × Int × ByteArray × Unit)) : Option (Unit × (((List ByteArray) × (List (Int × ByteArray × Unit)) × Unit) × Bool × Unit)) := spec_DiskPut_k fuel x.1 x.2.1 x.2.2.1
def spec_DiskPut_s : List (Nat × Con) := [(93, ⟨[.val S55], [.bool], (.pair .bool .unit), spec_DiskOk⟩), (94, ⟨[.val S55], [T55], (.pair T55 .unit), spec_l15Copy⟩), (145, ⟨[.val (.int .i64)], [.bool], (.pair .bool .unit), spec_l15Sector⟩)]
def spec_DiskPut_E : Env := ⟨fun j => (look tyTab j).getD .unit, fun j => look spec_DiskPut_s j⟩
theorem spec_DiskPut_f_eq (N : Nat) (x0 : ((List ByteArray) × (List (Int × ByteArray × Unit)) × Unit)) (x1 : Int) (x2 : ByteArray) : funK spec_DiskPut_E Try.f98 [.val S55, .val (.int .i64), .val .str] [T55, .bool] (.pair T55 (.pair .bool .unit)) (fun i => look [] i) N (x0, x1, x2, ()) = spec_DiskPut_k N x0 x1 x2 := by kernel_rfl
theorem spec_DiskPut_o : Known Try.prog 98 ⟨[.val S55, .val (.int .i64), .val .str], [T55, .bool], (.pair T55 (.pair .bool .unit)), spec_DiskPut⟩ := known_of (tab := tyTab) (cons := spec_DiskPut_s) (segs := []) (n := fuel) mixed_ok tab_ok (.cons spec_DiskOk_o (.cons spec_l15Copy_o (.cons spec_l15Sector_o .nil))) Try.func98 (by kernel_rfl) trivial (fun x => spec_DiskPut_f_eq fuel x.1 x.2.1 x.2.2.1)
def spec_AreaPut_P2 : Tpl := ⟨[(1, .one (.leaf (.int .i64))), (2, .one (.leaf (.int .i64))), (3, .one (.leaf (.row false (.int .u8)))), (8, .one (.fix (.vptr 8 0))), (10, .one (.fix (.vptr 10 0))), (11, .one (.fix (.vptr 11 0))), (12, .one (.leaf (.int .i64))), (13, .one (.leaf (.int .i64))), (14, .one (.leaf (.int .i64))), (15, .one (.fix (.ref 12000 [] none))), (16, .one (.leaf (.int .i64))), (54, .one (.leaf (.int .i64))), (55, .one (.leaf (.row false (.int .u8)))), (56, .one (.leaf (.int .i64))), (57, .one (.leaf (.int .i64))), (58, .one (.leaf (.int .i64))), (59, .one (.leaf .bool)), (62, .one (.leaf (.row false (.int .u8)))), (63, .one (.leaf (.int .i64))), (64, .one (.leaf .bool))], [(8, [.fix .nil, .fix .nil]), (10, [.fix (.ref 12001 [] none), .fix (.ref 12002 [] none)]), (11, [.fix (.ref 12003 [] none), .fix (.ref 12004 [] none)])], [(12000, (.int .u8)), (12001, .str), (12002, (.pair (.int .i64) (.pair .str .unit))), (12003, .str), (12004, (.pair (.int .i64) (.pair .str .unit)))]⟩
def spec_AreaPut_O2 : Tpl := ⟨[(1, .one (.leaf (.int .i64))), (2, .one (.leaf (.int .i64))), (3, .one (.leaf (.row false (.int .u8)))), (8, .one (.fix (.vptr 8 0))), (10, .one (.fix (.vptr 10 0))), (11, .one (.fix (.vptr 11 0))), (12, .one (.leaf (.int .i64))), (14, .one (.leaf (.int .i64))), (15, .one (.fix (.ref 12500 [] none))), (54, .one (.leaf (.int .i64))), (55, .one (.leaf (.row false (.int .u8)))), (56, .one (.leaf (.int .i64))), (57, .one (.leaf (.int .i64))), (58, .one (.leaf (.int .i64))), (59, .one (.leaf .bool)), (62, .one (.leaf (.row false (.int .u8)))), (63, .one (.leaf (.int .i64))), (64, .one (.leaf .bool))], [(8, [.fix .nil, .fix .nil]), (10, [.fix (.ref 12501 [] none), .fix (.ref 12502 [] none)]), (11, [.fix (.ref 12503 [] none), .fix (.ref 12504 [] none)])], [(12500, (.int .u8)), (12501, .str), (12502, (.pair (.int .i64) (.pair .str .unit))), (12503, .str), (12504, (.pair (.int .i64) (.pair .str .unit)))]⟩
def spec_AreaPut_k2 (N : Nat) : Nat → (((Int × Int × (List Int) × Int × Int × Int × (List Int) × Int × Int × Int × Bool × (List Int) × Int × Bool × Unit) × ((Unit × Unit × Unit × Unit) × ((List Int) × (List ByteArray) × (List (Int × (ByteArray × Unit))) × (List ByteArray) × (List (Int × (ByteArray × Unit))) × Unit))) → Option (Unit × (((List ByteArray) × (List (Int × ByteArray × Unit)) × Unit) × Bool × Unit))) → ((Int × Int × (List Int) × Int × Int × Int × Int × Int × (List Int) × Int × Int × Int × Bool × (List Int) × Int × Bool × Unit) × ((Unit × Unit × Unit × Unit) × ((List Int) × (List ByteArray) × (List (Int × (ByteArray × Unit))) × (List ByteArray) × (List (Int × (ByteArray × Unit))) × Unit))) → Option (Unit × (((List ByteArray) × (List (Int × ByteArray × Unit)) × Unit) × Bool × Unit))
  | 0, _, _ => none
  | n + 1, k, x =>
    tb (ilt x.1.2.2.2.2.2.2.1 64)
    (tb (ile x.1.2.1 (wr .i64 (x.1.2.2.2.2.1 + x.1.2.2.2.2.2.2.1)))
      (tb (ilt (wr .i64 (x.1.2.2.2.2.1 + x.1.2.2.2.2.2.2.1)) (wr .i64 (x.1.2.1 + (((llen x.1.2.2.1) : Nat) : Int))))
        (chk (0 ≤ (wr .i64 ((wr .i64 (x.1.2.2.2.2.1 + x.1.2.2.2.2.2.2.1)) - x.1.2.1))) (obind (at? x.1.2.2.1 (Int.toNat (wr .i64 ((wr .i64 (x.1.2.2.2.2.1 + x.1.2.2.2.2.2.2.1)) - x.1.2.1)))) fun v0 =>
            chk ((0 ≤ x.1.2.2.2.2.2.2.1) ∧ (x.1.2.2.2.2.2.2.1 < (((llen x.2.2.1) : Nat) : Int))) (obind (at? x.2.2.1 (Int.toNat x.1.2.2.2.2.2.2.1)) fun v1 =>
              spec_AreaPut_k2 N n k ((x.1.1, x.1.2.1, x.1.2.2.1, x.1.2.2.2.1, x.1.2.2.2.2.1, x.1.2.2.2.2.2.1, (wr .i64 (x.1.2.2.2.2.2.2.1 + 1)), x.1.2.2.2.2.2.2.2.1, x.1.2.2.2.2.2.2.2.2.1, x.1.2.2.2.2.2.2.2.2.2.1, x.1.2.2.2.2.2.2.2.2.2.2.1, x.1.2.2.2.2.2.2.2.2.2.2.2.1, x.1.2.2.2.2.2.2.2.2.2.2.2.2.1, x.1.2.2.2.2.2.2.2.2.2.2.2.2.2.1, x.1.2.2.2.2.2.2.2.2.2.2.2.2.2.2.1, x.1.2.2.2.2.2.2.2.2.2.2.2.2.2.2.2.1, ()), ((), (), (), ()), (lset x.2.2.1 (Int.toNat x.1.2.2.2.2.2.2.1) v0), x.2.2.2.1, x.2.2.2.2.1, x.2.2.2.2.2.1, x.2.2.2.2.2.2.1, ())) (none)) (none))
        (spec_AreaPut_k2 N n k ((x.1.1, x.1.2.1, x.1.2.2.1, x.1.2.2.2.1, x.1.2.2.2.2.1, x.1.2.2.2.2.2.1, (wr .i64 (x.1.2.2.2.2.2.2.1 + 1)), x.1.2.2.2.2.2.2.2.1, x.1.2.2.2.2.2.2.2.2.1, x.1.2.2.2.2.2.2.2.2.2.1, x.1.2.2.2.2.2.2.2.2.2.2.1, x.1.2.2.2.2.2.2.2.2.2.2.2.1, x.1.2.2.2.2.2.2.2.2.2.2.2.2.1, x.1.2.2.2.2.2.2.2.2.2.2.2.2.2.1, x.1.2.2.2.2.2.2.2.2.2.2.2.2.2.2.1, x.1.2.2.2.2.2.2.2.2.2.2.2.2.2.2.2.1, ()), ((), (), (), ()), x.2.2.1, x.2.2.2.1, x.2.2.2.2.1, x.2.2.2.2.2.1, x.2.2.2.2.2.2.1, ())))
      (spec_AreaPut_k2 N n k ((x.1.1, x.1.2.1, x.1.2.2.1, x.1.2.2.2.1, x.1.2.2.2.2.1, x.1.2.2.2.2.2.1, (wr .i64 (x.1.2.2.2.2.2.2.1 + 1)), x.1.2.2.2.2.2.2.2.1, x.1.2.2.2.2.2.2.2.2.1, x.1.2.2.2.2.2.2.2.2.2.1, x.1.2.2.2.2.2.2.2.2.2.2.1, x.1.2.2.2.2.2.2.2.2.2.2.2.1, x.1.2.2.2.2.2.2.2.2.2.2.2.2.1, x.1.2.2.2.2.2.2.2.2.2.2.2.2.2.1, x.1.2.2.2.2.2.2.2.2.2.2.2.2.2.2.1, x.1.2.2.2.2.2.2.2.2.2.2.2.2.2.2.2.1, ()), ((), (), (), ()), x.2.2.1, x.2.2.2.1, x.2.2.2.2.1, x.2.2.2.2.2.1, x.2.2.2.2.2.2.1, ())))
    (k ((x.1.1, x.1.2.1, x.1.2.2.1, x.1.2.2.2.1, x.1.2.2.2.2.2.1, x.1.2.2.2.2.2.2.2.1, x.1.2.2.2.2.2.2.2.2.1, x.1.2.2.2.2.2.2.2.2.2.1, x.1.2.2.2.2.2.2.2.2.2.2.1, x.1.2.2.2.2.2.2.2.2.2.2.2.1, x.1.2.2.2.2.2.2.2.2.2.2.2.2.1, x.1.2.2.2.2.2.2.2.2.2.2.2.2.2.1, x.1.2.2.2.2.2.2.2.2.2.2.2.2.2.2.1, x.1.2.2.2.2.2.2.2.2.2.2.2.2.2.2.2.1, ()), ((), (), (), ()), x.2.2.1, x.2.2.2.1, x.2.2.2.2.1, x.2.2.2.2.2.1, x.2.2.2.2.2.2.1, ()))
def spec_AreaPut_P0 : Tpl := ⟨[(1, .one (.leaf (.int .i64))), (2, .one (.leaf (.int .i64))), (3, .one (.leaf (.row false (.int .u8)))), (8, .one (.fix (.vptr 8 0))), (10, .one (.fix (.vptr 10 0))), (11, .one (.fix (.vptr 11 0))), (12, .one (.leaf (.int .i64)))], [(8, [.fix .nil, .fix .nil]), (10, [.fix (.ref 10000 [] none), .fix (.ref 10001 [] none)]), (11, [.fix (.ref 10002 [] none), .fix (.ref 10003 [] none)])], [(10000, .str), (10001, (.pair (.int .i64) (.pair .str .unit))), (10002, .str), (10003, (.pair (.int .i64) (.pair .str .unit)))]⟩
def spec_AreaPut_O0 : Tpl := ⟨[(8, .one (.fix (.vptr 8 0))), (11, .one (.fix (.vptr 11 0)))], [(8, [.fix .nil, .fix .nil]), (11, [.fix (.ref 10500 [] none), .fix (.ref 10501 [] none)])], [(10500, .str), (10501, (.pair (.int .i64) (.pair .str .unit)))]⟩
def spec_AreaPut_k0 (N : Nat) : Nat → ((Unit × ((Unit × Unit × Unit) × ((List ByteArray) × (List (Int × (ByteArray × Unit))) × Unit))) → Option (Unit × (((List ByteArray) × (List (Int × ByteArray × Unit)) × Unit) × Bool × Unit))) → ((Int × Int × (List Int) × Int × Unit) × ((Unit × Unit × Unit × Unit) × ((List ByteArray) × (List (Int × (ByteArray × Unit))) × (List ByteArray) × (List (Int × (ByteArray × Unit))) × Unit))) → Option (Unit × (((List ByteArray) × (List (Int × ByteArray × Unit)) × Unit) × Bool × Unit))
  | 0, _, _ => none
  | n + 1, k, x =>
    tb (ilt x.1.2.2.2.1 64)
    (tb (ile (wr .i64 ((wr .i64 (x.1.2.2.2.1 * 64)) + 64)) x.1.2.1)
      (spec_AreaPut_k0 N n k ((x.1.1, x.1.2.1, x.1.2.2.1, (wr .i64 (x.1.2.2.2.1 + 1)), ()), ((), (), (), ()), x.2.2.1, x.2.2.2.1, x.2.2.2.2.1, x.2.2.2.2.2.1, ()))
      (tb (ile (wr .i64 (x.1.2.1 + (((llen x.1.2.2.1) : Nat) : Int))) (wr .i64 (x.1.2.2.2.1 * 64)))
        (spec_AreaPut_k0 N n k ((x.1.1, x.1.2.1, x.1.2.2.1, (wr .i64 (x.1.2.2.2.1 + 1)), ()), ((), (), (), ()), x.2.2.1, x.2.2.2.1, x.2.2.2.2.1, x.2.2.2.2.2.1, ()))
        (tb (ieq (((llen x.1.2.2.1) : Nat) : Int) 0)
          (spec_AreaPut_k0 N n k ((x.1.1, x.1.2.1, x.1.2.2.1, (wr .i64 (x.1.2.2.2.1 + 1)), ()), ((), (), (), ()), x.2.2.1, x.2.2.2.1, x.2.2.2.2.1, x.2.2.2.2.2.1, ()))
          (obind (spec_l15Of ((x.2.2.2.2.1, x.2.2.2.2.2.1, ()), (wr .i64 ((wr .i64 (2 + (wr .i64 (64 * x.1.1)))) + x.1.2.2.2.1)), ())) fun v0 =>
            spec_AreaPut_k2 N N (fun v1 =>
              obind (spec_DiskPut ((v1.2.2.2.2.2.1, v1.2.2.2.2.2.2.1, ()), v1.1.2.2.2.2.1, (strOf v1.2.2.1), ())) fun v2 =>
              tb (bnot v2.2.2.1)
              (some ((), (v1.2.2.2.1, v1.2.2.2.2.1, ()), false, ()))
              (spec_AreaPut_k0 N n k ((v1.1.1, v1.1.2.1, v1.1.2.2.1, (wr .i64 (v1.1.2.2.2.1 + 1)), ()), ((), (), (), ()), v1.2.2.2.1, v1.2.2.2.2.1, v2.2.1.1, v2.2.1.2.1, ()))) ((x.1.1, x.1.2.1, x.1.2.2.1, x.1.2.2.2.1, (wr .i64 (x.1.2.2.2.1 * 64)), (wr .i64 ((wr .i64 (2 + (wr .i64 (64 * x.1.1)))) + x.1.2.2.2.1)), 0, x.1.2.1, x.1.2.2.1, (((llen x.1.2.2.1) : Nat) : Int), (wr .i64 (x.1.2.1 + (((llen x.1.2.2.1) : Nat) : Int))), (wr .i64 (x.1.2.2.2.1 * 64)), (ile (wr .i64 (x.1.2.1 + (((llen x.1.2.2.1) : Nat) : Int))) (wr .i64 (x.1.2.2.2.1 * 64))), x.1.2.2.1, (((llen x.1.2.2.1) : Nat) : Int), (ieq (((llen x.1.2.2.1) : Nat) : Int) 0), ()), ((), (), (), ()), (bytesOf v0.2.1), x.2.2.1, x.2.2.2.1, x.2.2.2.2.1, x.2.2.2.2.2.1, ())))))
    (k ((), ((), (), ()), x.2.2.2.2.1, x.2.2.2.2.2.1, ()))
def spec_AreaPut_k (N : Nat) (x0 : ((List ByteArray) × (List (Int × ByteArray × Unit)) × Unit)) (x1 : Int) (x2 : Int) (x3 : (List Int)) : Option (Unit × (((List ByteArray) × (List (Int × ByteArray × Unit)) × Unit) × Bool × Unit)) :=
  obind (spec_DiskOk ((x0.1, x0.2.1, ()), ())) fun v0 =>
  tb (bnot v0.2.1)
  (some ((), ([], [], ()), false, ()))
  (obind (spec_l15Copy ((x0.1, x0.2.1, ()), ())) fun v1 =>
    obind (spec_l16Area (x1, ())) fun v2 =>
    tb (bnot v2.2.1)
    (some ((), (v1.2.1.1, v1.2.1.2.1, ()), false, ()))
    (obind (spec_l1In (x2, 0, 4096, ())) fun v3 =>
      tb (bnot v3.2.1)
      (some ((), (v1.2.1.1, v1.2.1.2.1, ()), false, ()))
      (tb (ilt (wr .i64 (4096 - x2)) (((llen x3) : Nat) : Int))
        (some ((), (v1.2.1.1, v1.2.1.2.1, ()), false, ()))
        (obind (spec_l15Copy ((x0.1, x0.2.1, ()), ())) fun v4 =>
          spec_AreaPut_k0 N N (fun v5 =>
            some ((), (v5.2.2.1, v5.2.2.2.1, ()), true, ())) ((x1, x2, x3, 0, ()), ((), (), (), ()), v1.2.1.1, v1.2.1.2.1, v4.2.1.1, v4.2.1.2.1, ())))))
def spec_AreaPut (x : (((List ByteArray) × (List (Int × ByteArray × Unit)) × Unit) × Int × Int × (List Int) × Unit)) : Option (Unit × (((List ByteArray) × (List (Int × ByteArray × Unit)) × Unit) × Bool × Unit)) := spec_AreaPut_k fuel x.1 x.2.1 x.2.2.1 x.2.2.2.1
def spec_AreaPut_s : List (Nat × Con) := [(93, ⟨[.val S55], [.bool], (.pair .bool .unit), spec_DiskOk⟩), (94, ⟨[.val S55], [T55], (.pair T55 .unit), spec_l15Copy⟩), (95, ⟨[.val (.int .i64)], [.bool], (.pair .bool .unit), spec_l16Area⟩), (96, ⟨[.val (.int .i64), .val (.int .i64), .val (.int .i64)], [.bool], (.pair .bool .unit), spec_l1In⟩), (97, ⟨[.val S55, .val (.int .i64)], [.str], (.pair .str .unit), spec_l15Of⟩), (98, ⟨[.val S55, .val (.int .i64), .val .str], [T55, .bool], (.pair T55 (.pair .bool .unit)), spec_DiskPut⟩)]
def spec_AreaPut_E : Env := ⟨fun j => (look tyTab j).getD .unit, fun j => look spec_AreaPut_s j⟩
theorem spec_AreaPut_r2 (N n : Nat) (k : spec_AreaPut_O2.ty.den → Option (Unit × (((List ByteArray) × (List (Int × ByteArray × Unit)) × Unit) × Bool × Unit))) (x : spec_AreaPut_P2.ty.den) : roundK spec_AreaPut_E ⟨Try.f37.ntmps, N, (fun i => look [(0, ⟨spec_AreaPut_P0, spec_AreaPut_O0, [.cell 10 0 10000 .str, .cell 10 1 10001 (.pair (.int .i64) (.pair .str .unit)), .cell 11 0 10002 .str, .cell 11 1 10003 (.pair (.int .i64) (.pair .str .unit))], [.cell 11 0 10500 .str, .cell 11 1 10501 (.pair (.int .i64) (.pair .str .unit))], spec_AreaPut_k0 N⟩), (2, ⟨spec_AreaPut_P2, spec_AreaPut_O2, [.tmp 15 12000 (.int .u8), .cell 10 0 12001 .str, .cell 10 1 12002 (.pair (.int .i64) (.pair .str .unit)), .cell 11 0 12003 .str, .cell 11 1 12004 (.pair (.int .i64) (.pair .str .unit))], [.tmp 15 12500 (.int .u8), .cell 10 0 12501 .str, .cell 10 1 12502 (.pair (.int .i64) (.pair .str .unit)), .cell 11 0 12503 .str, .cell 11 1 12504 (.pair (.int .i64) (.pair .str .unit))], spec_AreaPut_k2 N⟩)] i), retK spec_AreaPut_E Try.f37 [.val S55, .val (.int .i64), .val (.int .i64), .val (.row false (.int .u8))] [T55, .bool] (.pair T55 (.pair .bool .unit))⟩ (Try.f37.body.getD .skip) 2 ⟨spec_AreaPut_P2, spec_AreaPut_O2, [.tmp 15 12000 (.int .u8), .cell 10 0 12001 .str, .cell 10 1 12002 (.pair (.int .i64) (.pair .str .unit)), .cell 11 0 12003 .str, .cell 11 1 12004 (.pair (.int .i64) (.pair .str .unit))], [.tmp 15 12500 (.int .u8), .cell 10 0 12501 .str, .cell 10 1 12502 (.pair (.int .i64) (.pair .str .unit)), .cell 11 0 12503 .str, .cell 11 1 12504 (.pair (.int .i64) (.pair .str .unit))], spec_AreaPut_k2 N⟩ (spec_AreaPut_k2 N n k) k x = spec_AreaPut_k2 N (n + 1) k x := by kernel_rfl
theorem spec_AreaPut_r0 (N n : Nat) (k : spec_AreaPut_O0.ty.den → Option (Unit × (((List ByteArray) × (List (Int × ByteArray × Unit)) × Unit) × Bool × Unit))) (x : spec_AreaPut_P0.ty.den) : roundK spec_AreaPut_E ⟨Try.f37.ntmps, N, (fun i => look [(0, ⟨spec_AreaPut_P0, spec_AreaPut_O0, [.cell 10 0 10000 .str, .cell 10 1 10001 (.pair (.int .i64) (.pair .str .unit)), .cell 11 0 10002 .str, .cell 11 1 10003 (.pair (.int .i64) (.pair .str .unit))], [.cell 11 0 10500 .str, .cell 11 1 10501 (.pair (.int .i64) (.pair .str .unit))], spec_AreaPut_k0 N⟩), (2, ⟨spec_AreaPut_P2, spec_AreaPut_O2, [.tmp 15 12000 (.int .u8), .cell 10 0 12001 .str, .cell 10 1 12002 (.pair (.int .i64) (.pair .str .unit)), .cell 11 0 12003 .str, .cell 11 1 12004 (.pair (.int .i64) (.pair .str .unit))], [.tmp 15 12500 (.int .u8), .cell 10 0 12501 .str, .cell 10 1 12502 (.pair (.int .i64) (.pair .str .unit)), .cell 11 0 12503 .str, .cell 11 1 12504 (.pair (.int .i64) (.pair .str .unit))], spec_AreaPut_k2 N⟩)] i), retK spec_AreaPut_E Try.f37 [.val S55, .val (.int .i64), .val (.int .i64), .val (.row false (.int .u8))] [T55, .bool] (.pair T55 (.pair .bool .unit))⟩ (Try.f37.body.getD .skip) 0 ⟨spec_AreaPut_P0, spec_AreaPut_O0, [.cell 10 0 10000 .str, .cell 10 1 10001 (.pair (.int .i64) (.pair .str .unit)), .cell 11 0 10002 .str, .cell 11 1 10003 (.pair (.int .i64) (.pair .str .unit))], [.cell 11 0 10500 .str, .cell 11 1 10501 (.pair (.int .i64) (.pair .str .unit))], spec_AreaPut_k0 N⟩ (spec_AreaPut_k0 N n k) k x = spec_AreaPut_k0 N (n + 1) k x := by kernel_rfl
theorem spec_AreaPut_f_eq (N : Nat) (x0 : ((List ByteArray) × (List (Int × ByteArray × Unit)) × Unit)) (x1 : Int) (x2 : Int) (x3 : (List Int)) : funK spec_AreaPut_E Try.f37 [.val S55, .val (.int .i64), .val (.int .i64), .val (.row false (.int .u8))] [T55, .bool] (.pair T55 (.pair .bool .unit)) (fun i => look [(0, ⟨spec_AreaPut_P0, spec_AreaPut_O0, [.cell 10 0 10000 .str, .cell 10 1 10001 (.pair (.int .i64) (.pair .str .unit)), .cell 11 0 10002 .str, .cell 11 1 10003 (.pair (.int .i64) (.pair .str .unit))], [.cell 11 0 10500 .str, .cell 11 1 10501 (.pair (.int .i64) (.pair .str .unit))], spec_AreaPut_k0 N⟩), (2, ⟨spec_AreaPut_P2, spec_AreaPut_O2, [.tmp 15 12000 (.int .u8), .cell 10 0 12001 .str, .cell 10 1 12002 (.pair (.int .i64) (.pair .str .unit)), .cell 11 0 12003 .str, .cell 11 1 12004 (.pair (.int .i64) (.pair .str .unit))], [.tmp 15 12500 (.int .u8), .cell 10 0 12501 .str, .cell 10 1 12502 (.pair (.int .i64) (.pair .str .unit)), .cell 11 0 12503 .str, .cell 11 1 12504 (.pair (.int .i64) (.pair .str .unit))], spec_AreaPut_k2 N⟩)] i) N (x0, x1, x2, x3, ()) = spec_AreaPut_k N x0 x1 x2 x3 := by kernel_rfl
theorem spec_AreaPut_o : Known Try.prog 37 ⟨[.val S55, .val (.int .i64), .val (.int .i64), .val (.row false (.int .u8))], [T55, .bool], (.pair T55 (.pair .bool .unit)), spec_AreaPut⟩ := known_of (tab := tyTab) (cons := spec_AreaPut_s) (segs := [(0, ⟨spec_AreaPut_P0, spec_AreaPut_O0, [.cell 10 0 10000 .str, .cell 10 1 10001 (.pair (.int .i64) (.pair .str .unit)), .cell 11 0 10002 .str, .cell 11 1 10003 (.pair (.int .i64) (.pair .str .unit))], [.cell 11 0 10500 .str, .cell 11 1 10501 (.pair (.int .i64) (.pair .str .unit))], spec_AreaPut_k0 fuel⟩), (2, ⟨spec_AreaPut_P2, spec_AreaPut_O2, [.tmp 15 12000 (.int .u8), .cell 10 0 12001 .str, .cell 10 1 12002 (.pair (.int .i64) (.pair .str .unit)), .cell 11 0 12003 .str, .cell 11 1 12004 (.pair (.int .i64) (.pair .str .unit))], [.tmp 15 12500 (.int .u8), .cell 10 0 12501 .str, .cell 10 1 12502 (.pair (.int .i64) (.pair .str .unit)), .cell 11 0 12503 .str, .cell 11 1 12504 (.pair (.int .i64) (.pair .str .unit))], spec_AreaPut_k2 fuel⟩)]) (n := fuel) mixed_ok tab_ok (.cons spec_DiskOk_o (.cons spec_l15Copy_o (.cons spec_l16Area_o (.cons spec_l1In_o (.cons spec_l15Of_o (.cons spec_DiskPut_o .nil)))))) Try.func37 (by kernel_rfl) ⟨⟨fun _ _ => rfl, fun n k x => spec_AreaPut_r0 fuel n k x⟩, ⟨⟨fun _ _ => rfl, fun n k x => spec_AreaPut_r2 fuel n k x⟩, trivial⟩⟩ (fun x => spec_AreaPut_f_eq fuel x.1 x.2.1 x.2.2.1 x.2.2.2.1)
def laws_toStringS_P0 : Tpl := ⟨[(0, .one (.leaf (.row false .str))), (3, .one (.fix (.ref 10000 [] none))), (4, .one (.leaf (.int .i64)))], [], [(10000, .str)]⟩
def laws_toStringS_O0 : Tpl := ⟨[(3, .one (.fix (.ref 10500 [] none)))], [], [(10500, .str)]⟩
def laws_toStringS_k0 (N : Nat) : Nat → ((Unit × (Unit × ((List ByteArray) × Unit))) → Option (Unit × ((List ByteArray) × Unit))) → (((List ByteArray) × Int × Unit) × (Unit × ((List ByteArray) × Unit))) → Option (Unit × ((List ByteArray) × Unit))
  | 0, _, _ => none
  | n + 1, k, x =>
    tb (ilt x.1.2.1 (((llen x.1.1) : Nat) : Int))
    (chk (0 ≤ x.1.2.1) (obind (at? x.1.1 (Int.toNat x.1.2.1)) fun v0 =>
        chk ((0 ≤ x.1.2.1) ∧ (x.1.2.1 < (((llen x.2.2.1) : Nat) : Int))) (obind (at? x.2.2.1 (Int.toNat x.1.2.1)) fun v1 =>
          laws_toStringS_k0 N n k ((x.1.1, (wr .i64 (x.1.2.1 + 1)), ()), (), (lset x.2.2.1 (Int.toNat x.1.2.1) v0), ())) (none)) (none))
    (k ((), (), x.2.2.1, ()))
def laws_toStringS_k (N : Nat) (x0 : (List ByteArray)) : Option (Unit × ((List ByteArray) × Unit)) :=
  chk ((0 ≤ (((llen x0) : Nat) : Int)) ∧ (((((llen x0) : Nat) : Int) ≤ (((llen x0) : Nat) : Int)) ∧ ((Int.toNat (((llen x0) : Nat) : Int)) ≤ 8796093022208))) (laws_toStringS_k0 N N (fun v0 =>
      some ((), v0.2.2.1, ())) ((x0, 0, ()), (), (lrep (Int.toNat (((llen x0) : Nat) : Int)) (⟨#[]⟩ : ByteArray)), ())) (none)
def laws_toStringS (x : ((List ByteArray) × Unit)) : Option (Unit × ((List ByteArray) × Unit)) := laws_toStringS_k fuel x.1
def laws_toStringS_s : List (Nat × Con) := []
def laws_toStringS_E : Env := ⟨fun j => (look tyTab j).getD .unit, fun j => look laws_toStringS_s j⟩
theorem laws_toStringS_r0 (N n : Nat) (k : laws_toStringS_O0.ty.den → Option (Unit × ((List ByteArray) × Unit))) (x : laws_toStringS_P0.ty.den) : roundK laws_toStringS_E ⟨Try.f99.ntmps, N, (fun i => look [(0, ⟨laws_toStringS_P0, laws_toStringS_O0, [.tmp 3 10000 .str], [.tmp 3 10500 .str], laws_toStringS_k0 N⟩)] i), retK laws_toStringS_E Try.f99 [.val (.row false .str)] [(.row true .str)] (.pair (.row true .str) .unit)⟩ (Try.f99.body.getD .skip) 0 ⟨laws_toStringS_P0, laws_toStringS_O0, [.tmp 3 10000 .str], [.tmp 3 10500 .str], laws_toStringS_k0 N⟩ (laws_toStringS_k0 N n k) k x = laws_toStringS_k0 N (n + 1) k x := by kernel_rfl
theorem laws_toStringS_f_eq (N : Nat) (x0 : (List ByteArray)) : funK laws_toStringS_E Try.f99 [.val (.row false .str)] [(.row true .str)] (.pair (.row true .str) .unit) (fun i => look [(0, ⟨laws_toStringS_P0, laws_toStringS_O0, [.tmp 3 10000 .str], [.tmp 3 10500 .str], laws_toStringS_k0 N⟩)] i) N (x0, ()) = laws_toStringS_k N x0 := by kernel_rfl
theorem laws_toStringS_o : Known Try.prog 99 ⟨[.val (.row false .str)], [(.row true .str)], (.pair (.row true .str) .unit), laws_toStringS⟩ := known_of (tab := tyTab) (cons := laws_toStringS_s) (segs := [(0, ⟨laws_toStringS_P0, laws_toStringS_O0, [.tmp 3 10000 .str], [.tmp 3 10500 .str], laws_toStringS_k0 fuel⟩)]) (n := fuel) mixed_ok tab_ok .nil Try.func99 (by kernel_rfl) ⟨⟨fun _ _ => rfl, fun n k x => laws_toStringS_r0 fuel n k x⟩, trivial⟩ (fun x => laws_toStringS_f_eq fuel x.1)
def laws_toPut_k (N : Nat) (x0 : (Int × ByteArray × Unit)) : Option (Unit × ((Int × ByteArray × Unit) × Unit)) :=
  some ((), (x0.1, x0.2.1, ()), ())
def laws_toPut (x : ((Int × ByteArray × Unit) × Unit)) : Option (Unit × ((Int × ByteArray × Unit) × Unit)) := laws_toPut_k fuel x.1
def laws_toPut_s : List (Nat × Con) := []
def laws_toPut_E : Env := ⟨fun j => (look tyTab j).getD .unit, fun j => look laws_toPut_s j⟩
theorem laws_toPut_f_eq (N : Nat) (x0 : (Int × ByteArray × Unit)) : funK laws_toPut_E Try.f146 [.val S166] [T167] (.pair T167 .unit) (fun i => look [] i) N (x0, ()) = laws_toPut_k N x0 := by kernel_rfl
theorem laws_toPut_o : Known Try.prog 146 ⟨[.val S166], [T167], (.pair T167 .unit), laws_toPut⟩ := known_of (tab := tyTab) (cons := laws_toPut_s) (segs := []) (n := fuel) mixed_ok tab_ok .nil Try.func146 (by kernel_rfl) trivial (fun x => laws_toPut_f_eq fuel x.1)
def laws_toPutS_P0 : Tpl := ⟨[(0, .one (.leaf (.row false (.pair (.int .i64) (.pair .str .unit))))), (3, .one (.fix (.ref 10000 [] none))), (4, .one (.leaf (.int .i64)))], [], [(10000, (.pair (.int .i64) (.pair .str .unit)))]⟩
def laws_toPutS_O0 : Tpl := ⟨[(3, .one (.fix (.ref 10500 [] none)))], [], [(10500, (.pair (.int .i64) (.pair .str .unit)))]⟩
def laws_toPutS_k0 (N : Nat) : Nat → ((Unit × (Unit × ((List (Int × (ByteArray × Unit))) × Unit))) → Option (Unit × ((List (Int × ByteArray × Unit)) × Unit))) → (((List (Int × (ByteArray × Unit))) × Int × Unit) × (Unit × ((List (Int × (ByteArray × Unit))) × Unit))) → Option (Unit × ((List (Int × ByteArray × Unit)) × Unit))
  | 0, _, _ => none
  | n + 1, k, x =>
    tb (ilt x.1.2.1 (((llen x.1.1) : Nat) : Int))
    (chk (0 ≤ x.1.2.1) (obind (at? x.1.1 (Int.toNat x.1.2.1)) fun v0 =>
        obind (laws_toPut ((v0.1, v0.2.1, ()), ())) fun v1 =>
        chk ((0 ≤ x.1.2.1) ∧ (x.1.2.1 < (((llen x.2.2.1) : Nat) : Int))) (obind (at? x.2.2.1 (Int.toNat x.1.2.1)) fun v2 =>
          laws_toPutS_k0 N n k ((x.1.1, (wr .i64 (x.1.2.1 + 1)), ()), (), (lset x.2.2.1 (Int.toNat x.1.2.1) (v1.2.1.1, v1.2.1.2.1, ())), ())) (none)) (none))
    (k ((), (), x.2.2.1, ()))
def laws_toPutS_k (N : Nat) (x0 : (List (Int × ByteArray × Unit))) : Option (Unit × ((List (Int × ByteArray × Unit)) × Unit)) :=
  chk ((0 ≤ (((llen x0) : Nat) : Int)) ∧ (((((llen x0) : Nat) : Int) ≤ (((llen x0) : Nat) : Int)) ∧ ((Int.toNat (((llen x0) : Nat) : Int)) ≤ 5864062014805))) (laws_toPutS_k0 N N (fun v0 =>
      some ((), v0.2.2.1, ())) ((x0, 0, ()), (), (lrep (Int.toNat (((llen x0) : Nat) : Int)) ((0 : Int), (⟨#[]⟩ : ByteArray), PUnit.unit)), ())) (none)
def laws_toPutS (x : ((List (Int × ByteArray × Unit)) × Unit)) : Option (Unit × ((List (Int × ByteArray × Unit)) × Unit)) := laws_toPutS_k fuel x.1
def laws_toPutS_s : List (Nat × Con) := [(146, ⟨[.val S166], [T167], (.pair T167 .unit), laws_toPut⟩)]
def laws_toPutS_E : Env := ⟨fun j => (look tyTab j).getD .unit, fun j => look laws_toPutS_s j⟩
theorem laws_toPutS_r0 (N n : Nat) (k : laws_toPutS_O0.ty.den → Option (Unit × ((List (Int × ByteArray × Unit)) × Unit))) (x : laws_toPutS_P0.ty.den) : roundK laws_toPutS_E ⟨Try.f100.ntmps, N, (fun i => look [(0, ⟨laws_toPutS_P0, laws_toPutS_O0, [.tmp 3 10000 (.pair (.int .i64) (.pair .str .unit))], [.tmp 3 10500 (.pair (.int .i64) (.pair .str .unit))], laws_toPutS_k0 N⟩)] i), retK laws_toPutS_E Try.f100 [.val (.row false S166)] [(.row true T167)] (.pair (.row true T167) .unit)⟩ (Try.f100.body.getD .skip) 0 ⟨laws_toPutS_P0, laws_toPutS_O0, [.tmp 3 10000 (.pair (.int .i64) (.pair .str .unit))], [.tmp 3 10500 (.pair (.int .i64) (.pair .str .unit))], laws_toPutS_k0 N⟩ (laws_toPutS_k0 N n k) k x = laws_toPutS_k0 N (n + 1) k x := by kernel_rfl
theorem laws_toPutS_f_eq (N : Nat) (x0 : (List (Int × ByteArray × Unit))) : funK laws_toPutS_E Try.f100 [.val (.row false S166)] [(.row true T167)] (.pair (.row true T167) .unit) (fun i => look [(0, ⟨laws_toPutS_P0, laws_toPutS_O0, [.tmp 3 10000 (.pair (.int .i64) (.pair .str .unit))], [.tmp 3 10500 (.pair (.int .i64) (.pair .str .unit))], laws_toPutS_k0 N⟩)] i) N (x0, ()) = laws_toPutS_k N x0 := by kernel_rfl
theorem laws_toPutS_o : Known Try.prog 100 ⟨[.val (.row false S166)], [(.row true T167)], (.pair (.row true T167) .unit), laws_toPutS⟩ := known_of (tab := tyTab) (cons := laws_toPutS_s) (segs := [(0, ⟨laws_toPutS_P0, laws_toPutS_O0, [.tmp 3 10000 (.pair (.int .i64) (.pair .str .unit))], [.tmp 3 10500 (.pair (.int .i64) (.pair .str .unit))], laws_toPutS_k0 fuel⟩)]) (n := fuel) mixed_ok tab_ok (.cons laws_toPut_o .nil) Try.func100 (by kernel_rfl) ⟨⟨fun _ _ => rfl, fun n k x => laws_toPutS_r0 fuel n k x⟩, trivial⟩ (fun x => laws_toPutS_f_eq fuel x.1)
def laws_toDisk_k (N : Nat) (x0 : ((List ByteArray) × (List (Int × ByteArray × Unit)) × Unit)) : Option (Unit × (((List ByteArray) × (List (Int × ByteArray × Unit)) × Unit) × Unit)) :=
  obind (laws_toStringS (x0.1, ())) fun v0 =>
  obind (laws_toPutS (x0.2.1, ())) fun v1 =>
  some ((), (v0.2.1, v1.2.1, ()), ())
def laws_toDisk (x : (((List ByteArray) × (List (Int × ByteArray × Unit)) × Unit) × Unit)) : Option (Unit × (((List ByteArray) × (List (Int × ByteArray × Unit)) × Unit) × Unit)) := laws_toDisk_k fuel x.1
def laws_toDisk_s : List (Nat × Con) := [(99, ⟨[.val (.row false .str)], [(.row true .str)], (.pair (.row true .str) .unit), laws_toStringS⟩), (100, ⟨[.val (.row false S166)], [(.row true T167)], (.pair (.row true T167) .unit), laws_toPutS⟩)]
def laws_toDisk_E : Env := ⟨fun j => (look tyTab j).getD .unit, fun j => look laws_toDisk_s j⟩
theorem laws_toDisk_f_eq (N : Nat) (x0 : ((List ByteArray) × (List (Int × ByteArray × Unit)) × Unit)) : funK laws_toDisk_E Try.f38 [.val S51] [T55] (.pair T55 .unit) (fun i => look [] i) N (x0, ()) = laws_toDisk_k N x0 := by kernel_rfl
theorem laws_toDisk_o : Known Try.prog 38 ⟨[.val S51], [T55], (.pair T55 .unit), laws_toDisk⟩ := known_of (tab := tyTab) (cons := laws_toDisk_s) (segs := []) (n := fuel) mixed_ok tab_ok (.cons laws_toStringS_o (.cons laws_toPutS_o .nil)) Try.func38 (by kernel_rfl) trivial (fun x => laws_toDisk_f_eq fuel x.1)
def impl_inRange_k (N : Nat) (x0 : Int) (x1 : Int) (x2 : Int) : Option (Unit × (Bool × Unit)) :=
  tb (ile x1 x0)
  (some ((), (ile x0 x2), ()))
  (some ((), false, ()))
def impl_inRange (x : (Int × Int × Int × Unit)) : Option (Unit × (Bool × Unit)) := impl_inRange_k fuel x.1 x.2.1 x.2.2.1
def impl_inRange_s : List (Nat × Con) := []
def impl_inRange_E : Env := ⟨fun j => (look tyTab j).getD .unit, fun j => look impl_inRange_s j⟩
theorem impl_inRange_f_eq (N : Nat) (x0 : Int) (x1 : Int) (x2 : Int) : funK impl_inRange_E Try.f73 [.val (.int .i64), .val (.int .i64), .val (.int .i64)] [.bool] (.pair .bool .unit) (fun i => look [] i) N (x0, x1, x2, ()) = impl_inRange_k N x0 x1 x2 := by kernel_rfl
theorem impl_inRange_o : Known Try.prog 73 ⟨[.val (.int .i64), .val (.int .i64), .val (.int .i64)], [.bool], (.pair .bool .unit), impl_inRange⟩ := known_of (tab := tyTab) (cons := impl_inRange_s) (segs := []) (n := fuel) mixed_ok tab_ok .nil Try.func73 (by kernel_rfl) trivial (fun x => impl_inRange_f_eq fuel x.1 x.2.1 x.2.2.1)
def impl_isSector_k (N : Nat) (x0 : Int) : Option (Unit × (Bool × Unit)) :=
  obind (impl_inRange (x0, 0, 129, ())) fun v0 =>
  some ((), v0.2.1, ())
def impl_isSector (x : (Int × Unit)) : Option (Unit × (Bool × Unit)) := impl_isSector_k fuel x.1
def impl_isSector_s : List (Nat × Con) := [(73, ⟨[.val (.int .i64), .val (.int .i64), .val (.int .i64)], [.bool], (.pair .bool .unit), impl_inRange⟩)]
def impl_isSector_E : Env := ⟨fun j => (look tyTab j).getD .unit, fun j => look impl_isSector_s j⟩
theorem impl_isSector_f_eq (N : Nat) (x0 : Int) : funK impl_isSector_E Try.f123 [.val (.int .i64)] [.bool] (.pair .bool .unit) (fun i => look [] i) N (x0, ()) = impl_isSector_k N x0 := by kernel_rfl
theorem impl_isSector_o : Known Try.prog 123 ⟨[.val (.int .i64)], [.bool], (.pair .bool .unit), impl_isSector⟩ := known_of (tab := tyTab) (cons := impl_isSector_s) (segs := []) (n := fuel) mixed_ok tab_ok (.cons impl_inRange_o .nil) Try.func123 (by kernel_rfl) trivial (fun x => impl_isSector_f_eq fuel x.1)
def impl_DiskOk_P0 : Tpl := ⟨[(1, .one (.fix (.vptr 1 0))), (8, .one (.leaf (.row false .str))), (9, .one (.leaf (.int .i64))), (10, .one (.leaf (.int .i64)))], [(1, [.leaf (.row false .str), .leaf (.row false (.pair (.int .i64) (.pair .str .unit)))])], []⟩
def impl_DiskOk_O0 : Tpl := ⟨[(1, .one (.fix (.vptr 1 0)))], [(1, [.leaf (.row false .str), .leaf (.row false (.pair (.int .i64) (.pair .str .unit)))])], []⟩
def impl_DiskOk_k0 (N : Nat) : Nat → ((Unit × ((((List ByteArray) × (List (Int × (ByteArray × Unit))) × Unit) × Unit) × Unit)) → Option (Unit × (Bool × Unit))) → (((List ByteArray) × Int × Int × Unit) × ((((List ByteArray) × (List (Int × (ByteArray × Unit))) × Unit) × Unit) × Unit)) → Option (Unit × (Bool × Unit))
  | 0, _, _ => none
  | n + 1, k, x =>
    tb (ilt x.1.2.2.1 x.1.2.1)
    (chk (0 ≤ x.1.2.2.1) (obind (at? x.1.1 (Int.toNat x.1.2.2.1)) fun v0 =>
        tb (bnot (ieq (((slen v0) : Nat) : Int) 64))
        (some ((), false, ()))
        (impl_DiskOk_k0 N n k ((x.1.1, x.1.2.1, (wr .i64 (x.1.2.2.1 + 1)), ()), ((x.2.1.1.1, x.2.1.1.2.1, ()), ()), ()))) (none))
    (k ((), ((x.2.1.1.1, x.2.1.1.2.1, ()), ()), ()))
def impl_DiskOk_P2 : Tpl := ⟨[(1, .one (.fix (.vptr 1 0))), (19, .one (.leaf (.row false (.pair (.int .i64) (.pair .str .unit))))), (20, .one (.leaf (.int .i64))), (21, .one (.leaf (.int .i64)))], [(1, [.leaf (.row false .str), .leaf (.row false (.pair (.int .i64) (.pair .str .unit)))])], []⟩
def impl_DiskOk_O2 : Tpl := ⟨[(1, .one (.fix (.vptr 1 0)))], [(1, [.leaf (.row false .str), .leaf (.row false (.pair (.int .i64) (.pair .str .unit)))])], []⟩
def impl_DiskOk_k2 (N : Nat) : Nat → ((Unit × ((((List ByteArray) × (List (Int × (ByteArray × Unit))) × Unit) × Unit) × Unit)) → Option (Unit × (Bool × Unit))) → (((List (Int × (ByteArray × Unit))) × Int × Int × Unit) × ((((List ByteArray) × (List (Int × (ByteArray × Unit))) × Unit) × Unit) × Unit)) → Option (Unit × (Bool × Unit))
  | 0, _, _ => none
  | n + 1, k, x =>
    tb (ilt x.1.2.2.1 x.1.2.1)
    (chk (0 ≤ x.1.2.2.1) (obind (at? x.1.1 (Int.toNat x.1.2.2.1)) fun v0 =>
        obind (impl_isSector (v0.1, ())) fun v1 =>
        tb (bnot v1.2.1)
        (some ((), false, ()))
        (tb (bnot (ieq (((slen v0.2.1) : Nat) : Int) 64))
          (some ((), false, ()))
          (impl_DiskOk_k2 N n k ((x.1.1, x.1.2.1, (wr .i64 (x.1.2.2.1 + 1)), ()), ((x.2.1.1.1, x.2.1.1.2.1, ()), ()), ())))) (none))
    (k ((), ((x.2.1.1.1, x.2.1.1.2.1, ()), ()), ()))
def impl_DiskOk_k (N : Nat) (x0 : ((List ByteArray) × (List (Int × ByteArray × Unit)) × Unit)) : Option (Unit × (Bool × Unit)) :=
  impl_DiskOk_k0 N N (fun v0 =>
    impl_DiskOk_k2 N N (fun v1 =>
      tb (ieq (((llen v1.2.1.1.1) : Nat) : Int) 130)
      (some ((), (ile (((llen v1.2.1.1.2.1) : Nat) : Int) 200), ()))
      (some ((), false, ()))) ((v0.2.1.1.2.1, (((llen v0.2.1.1.2.1) : Nat) : Int), 0, ()), ((v0.2.1.1.1, v0.2.1.1.2.1, ()), ()), ())) ((x0.1, (((llen x0.1) : Nat) : Int), 0, ()), ((x0.1, x0.2.1, ()), ()), ())
def impl_DiskOk (x : (((List ByteArray) × (List (Int × ByteArray × Unit)) × Unit) × Unit)) : Option (Unit × (Bool × Unit)) := impl_DiskOk_k fuel x.1
def impl_DiskOk_s : List (Nat × Con) := [(123, ⟨[.val (.int .i64)], [.bool], (.pair .bool .unit), impl_isSector⟩)]
def impl_DiskOk_E : Env := ⟨fun j => (look tyTab j).getD .unit, fun j => look impl_DiskOk_s j⟩
theorem impl_DiskOk_r0 (N n : Nat) (k : impl_DiskOk_O0.ty.den → Option (Unit × (Bool × Unit))) (x : impl_DiskOk_P0.ty.den) : roundK impl_DiskOk_E ⟨Try.f101.ntmps, N, (fun i => look [(0, ⟨impl_DiskOk_P0, impl_DiskOk_O0, [], [], impl_DiskOk_k0 N⟩), (2, ⟨impl_DiskOk_P2, impl_DiskOk_O2, [], [], impl_DiskOk_k2 N⟩)] i), retK impl_DiskOk_E Try.f101 [.val S55] [.bool] (.pair .bool .unit)⟩ (Try.f101.body.getD .skip) 0 ⟨impl_DiskOk_P0, impl_DiskOk_O0, [], [], impl_DiskOk_k0 N⟩ (impl_DiskOk_k0 N n k) k x = impl_DiskOk_k0 N (n + 1) k x := by kernel_rfl
theorem impl_DiskOk_r2 (N n : Nat) (k : impl_DiskOk_O2.ty.den → Option (Unit × (Bool × Unit))) (x : impl_DiskOk_P2.ty.den) : roundK impl_DiskOk_E ⟨Try.f101.ntmps, N, (fun i => look [(0, ⟨impl_DiskOk_P0, impl_DiskOk_O0, [], [], impl_DiskOk_k0 N⟩), (2, ⟨impl_DiskOk_P2, impl_DiskOk_O2, [], [], impl_DiskOk_k2 N⟩)] i), retK impl_DiskOk_E Try.f101 [.val S55] [.bool] (.pair .bool .unit)⟩ (Try.f101.body.getD .skip) 2 ⟨impl_DiskOk_P2, impl_DiskOk_O2, [], [], impl_DiskOk_k2 N⟩ (impl_DiskOk_k2 N n k) k x = impl_DiskOk_k2 N (n + 1) k x := by kernel_rfl
theorem impl_DiskOk_f_eq (N : Nat) (x0 : ((List ByteArray) × (List (Int × ByteArray × Unit)) × Unit)) : funK impl_DiskOk_E Try.f101 [.val S55] [.bool] (.pair .bool .unit) (fun i => look [(0, ⟨impl_DiskOk_P0, impl_DiskOk_O0, [], [], impl_DiskOk_k0 N⟩), (2, ⟨impl_DiskOk_P2, impl_DiskOk_O2, [], [], impl_DiskOk_k2 N⟩)] i) N (x0, ()) = impl_DiskOk_k N x0 := by kernel_rfl
theorem impl_DiskOk_o : Known Try.prog 101 ⟨[.val S55], [.bool], (.pair .bool .unit), impl_DiskOk⟩ := known_of (tab := tyTab) (cons := impl_DiskOk_s) (segs := [(0, ⟨impl_DiskOk_P0, impl_DiskOk_O0, [], [], impl_DiskOk_k0 fuel⟩), (2, ⟨impl_DiskOk_P2, impl_DiskOk_O2, [], [], impl_DiskOk_k2 fuel⟩)]) (n := fuel) mixed_ok tab_ok (.cons impl_isSector_o .nil) Try.func101 (by kernel_rfl) ⟨⟨fun _ _ => rfl, fun n k x => impl_DiskOk_r0 fuel n k x⟩, ⟨⟨fun _ _ => rfl, fun n k x => impl_DiskOk_r2 fuel n k x⟩, trivial⟩⟩ (fun x => impl_DiskOk_f_eq fuel x.1)
def slices_Clone_string_k (N : Nat) (x0 : (List ByteArray)) : Option (Unit × ((List ByteArray) × Unit)) :=
  agree (isNil x0)
  (some ((), [], ()))
  (chk ((plus 0 (llen x0)) ≤ 8796093022208) (some ((), (lapp [] x0), ())) (none))
def slices_Clone_string (x : ((List ByteArray) × Unit)) : Option (Unit × ((List ByteArray) × Unit)) := slices_Clone_string_k fuel x.1
def slices_Clone_string_s : List (Nat × Con) := []
def slices_Clone_string_E : Env := ⟨fun j => (look tyTab j).getD .unit, fun j => look slices_Clone_string_s j⟩
theorem slices_Clone_string_f_eq (N : Nat) (x0 : (List ByteArray)) : funK slices_Clone_string_E Try.f147 [.val (.row false .str)] [(.row true .str)] (.pair (.row true .str) .unit) (fun i => look [] i) N (x0, ()) = slices_Clone_string_k N x0 := by kernel_rfl
theorem slices_Clone_string_o : Known Try.prog 147 ⟨[.val (.row false .str)], [(.row true .str)], (.pair (.row true .str) .unit), slices_Clone_string⟩ := known_of (tab := tyTab) (cons := slices_Clone_string_s) (segs := []) (n := fuel) mixed_ok tab_ok .nil Try.func147 (by kernel_rfl) trivial (fun x => slices_Clone_string_f_eq fuel x.1)
def slices_Clone_Put_k (N : Nat) (x0 : (List (Int × ByteArray × Unit))) : Option (Unit × ((List (Int × ByteArray × Unit)) × Unit)) :=
  agree (isNil x0)
  (some ((), [], ()))
  (chk ((plus 0 (llen x0)) ≤ 5864062014805) (some ((), (lapp [] x0), ())) (none))
def slices_Clone_Put (x : ((List (Int × ByteArray × Unit)) × Unit)) : Option (Unit × ((List (Int × ByteArray × Unit)) × Unit)) := slices_Clone_Put_k fuel x.1
def slices_Clone_Put_s : List (Nat × Con) := []
def slices_Clone_Put_E : Env := ⟨fun j => (look tyTab j).getD .unit, fun j => look slices_Clone_Put_s j⟩
theorem slices_Clone_Put_f_eq (N : Nat) (x0 : (List (Int × ByteArray × Unit))) : funK slices_Clone_Put_E Try.f148 [.val (.row false S167)] [(.row true T167)] (.pair (.row true T167) .unit) (fun i => look [] i) N (x0, ()) = slices_Clone_Put_k N x0 := by kernel_rfl
theorem slices_Clone_Put_o : Known Try.prog 148 ⟨[.val (.row false S167)], [(.row true T167)], (.pair (.row true T167) .unit), slices_Clone_Put⟩ := known_of (tab := tyTab) (cons := slices_Clone_Put_s) (segs := []) (n := fuel) mixed_ok tab_ok .nil Try.func148 (by kernel_rfl) trivial (fun x => slices_Clone_Put_f_eq fuel x.1)
def impl_copyDisk_k (N : Nat) (x0 : ((List ByteArray) × (List (Int × ByteArray × Unit)) × Unit)) : Option (Unit × (((List ByteArray) × (List (Int × ByteArray × Unit)) × Unit) × Unit)) :=
  obind (slices_Clone_string (x0.1, ())) fun v0 =>
  obind (slices_Clone_Put (x0.2.1, ())) fun v1 =>
  some ((), (v0.2.1, v1.2.1, ()), ())
def impl_copyDisk (x : (((List ByteArray) × (List (Int × ByteArray × Unit)) × Unit) × Unit)) : Option (Unit × (((List ByteArray) × (List (Int × ByteArray × Unit)) × Unit) × Unit)) := impl_copyDisk_k fuel x.1
def impl_copyDisk_s : List (Nat × Con) := [(147, ⟨[.val (.row false .str)], [(.row true .str)], (.pair (.row true .str) .unit), slices_Clone_string⟩), (148, ⟨[.val (.row false S167)], [(.row true T167)], (.pair (.row true T167) .unit), slices_Clone_Put⟩)]
def impl_copyDisk_E : Env := ⟨fun j => (look tyTab j).getD .unit, fun j => look impl_copyDisk_s j⟩
theorem impl_copyDisk_f_eq (N : Nat) (x0 : ((List ByteArray) × (List (Int × ByteArray × Unit)) × Unit)) : funK impl_copyDisk_E Try.f102 [.val S55] [T55] (.pair T55 .unit) (fun i => look [] i) N (x0, ()) = impl_copyDisk_k N x0 := by kernel_rfl
theorem impl_copyDisk_o : Known Try.prog 102 ⟨[.val S55], [T55], (.pair T55 .unit), impl_copyDisk⟩ := known_of (tab := tyTab) (cons := impl_copyDisk_s) (segs := []) (n := fuel) mixed_ok tab_ok (.cons slices_Clone_string_o (.cons slices_Clone_Put_o .nil)) Try.func102 (by kernel_rfl) trivial (fun x => impl_copyDisk_f_eq fuel x.1)
def impl_Disk_sector_P0 : Tpl := ⟨[(0, .one (.leaf (.pair (.row true .str) (.pair (.row true (.pair (.int .i64) (.pair .str .unit))) .unit)))), (1, .one (.leaf (.int .i64))), (5, .one (.leaf (.int .i64)))], [], []⟩
def impl_Disk_sector_O0 : Tpl := ⟨[(0, .one (.leaf (.pair (.row true .str) (.pair (.row true (.pair (.int .i64) (.pair .str .unit))) .unit)))), (1, .one (.leaf (.int .i64)))], [], []⟩
def impl_Disk_sector_k0 (N : Nat) : Nat → (((((List ByteArray) × ((List (Int × (ByteArray × Unit))) × Unit)) × Int × Unit) × (Unit × Unit)) → Option (Unit × (ByteArray × Unit))) → ((((List ByteArray) × ((List (Int × (ByteArray × Unit))) × Unit)) × Int × Int × Unit) × (Unit × Unit)) → Option (Unit × (ByteArray × Unit))
  | 0, _, _ => none
  | n + 1, k, x =>
    tb (ile 0 x.1.2.2.1)
    (chk (0 ≤ x.1.2.2.1) (obind (at? x.1.1.2.1 (Int.toNat x.1.2.2.1)) fun v0 =>
        tb (ieq v0.1 x.1.2.1)
        (chk (0 ≤ x.1.2.2.1) (obind (at? x.1.1.2.1 (Int.toNat x.1.2.2.1)) fun v1 =>
            some ((), v1.2.1, ())) (none))
        (impl_Disk_sector_k0 N n k ((x.1.1, x.1.2.1, (wr .i64 (x.1.2.2.1 - 1)), ()), (), ()))) (none))
    (k ((x.1.1, x.1.2.1, ()), (), ()))
def impl_Disk_sector_k (N : Nat) (x0 : ((List ByteArray) × (List (Int × ByteArray × Unit)) × Unit)) (x1 : Int) : Option (Unit × (ByteArray × Unit)) :=
  impl_Disk_sector_k0 N N (fun v0 =>
    chk (0 ≤ v0.1.2.1) (obind (at? v0.1.1.1 (Int.toNat v0.1.2.1)) fun v1 =>
      some ((), v1, ())) (none)) ((x0, x1, (wr .i64 ((((llen x0.2.1) : Nat) : Int) - 1)), ()), (), ())
def impl_Disk_sector (x : (((List ByteArray) × (List (Int × ByteArray × Unit)) × Unit) × Int × Unit)) : Option (Unit × (ByteArray × Unit)) := impl_Disk_sector_k fuel x.1 x.2.1
def impl_Disk_sector_s : List (Nat × Con) := []
def impl_Disk_sector_E : Env := ⟨fun j => (look tyTab j).getD .unit, fun j => look impl_Disk_sector_s j⟩
theorem impl_Disk_sector_r0 (N n : Nat) (k : impl_Disk_sector_O0.ty.den → Option (Unit × (ByteArray × Unit))) (x : impl_Disk_sector_P0.ty.den) : roundK impl_Disk_sector_E ⟨Try.f112.ntmps, N, (fun i => look [(0, ⟨impl_Disk_sector_P0, impl_Disk_sector_O0, [], [], impl_Disk_sector_k0 N⟩)] i), retK impl_Disk_sector_E Try.f112 [.rptr T55, .val (.int .i64)] [.str] (.pair .str .unit)⟩ (Try.f112.body.getD .skip) 0 ⟨impl_Disk_sector_P0, impl_Disk_sector_O0, [], [], impl_Disk_sector_k0 N⟩ (impl_Disk_sector_k0 N n k) k x = impl_Disk_sector_k0 N (n + 1) k x := by kernel_rfl
theorem impl_Disk_sector_f_eq (N : Nat) (x0 : ((List ByteArray) × (List (Int × ByteArray × Unit)) × Unit)) (x1 : Int) : funK impl_Disk_sector_E Try.f112 [.rptr T55, .val (.int .i64)] [.str] (.pair .str .unit) (fun i => look [(0, ⟨impl_Disk_sector_P0, impl_Disk_sector_O0, [], [], impl_Disk_sector_k0 N⟩)] i) N (x0, x1, ()) = impl_Disk_sector_k N x0 x1 := by kernel_rfl
theorem impl_Disk_sector_o : Known Try.prog 112 ⟨[.rptr T55, .val (.int .i64)], [.str], (.pair .str .unit), impl_Disk_sector⟩ := known_of (tab := tyTab) (cons := impl_Disk_sector_s) (segs := [(0, ⟨impl_Disk_sector_P0, impl_Disk_sector_O0, [], [], impl_Disk_sector_k0 fuel⟩)]) (n := fuel) mixed_ok tab_ok .nil Try.func112 (by kernel_rfl) ⟨⟨fun _ _ => rfl, fun n k x => impl_Disk_sector_r0 fuel n k x⟩, trivial⟩ (fun x => impl_Disk_sector_f_eq fuel x.1 x.2.1)
def impl_isArea_k (N : Nat) (x0 : Int) : Option (Unit × (Bool × Unit)) :=
  tb (ieq x0 0)
  (some ((), true, ()))
  (some ((), (ieq x0 1), ()))
def impl_isArea (x : (Int × Unit)) : Option (Unit × (Bool × Unit)) := impl_isArea_k fuel x.1
def impl_isArea_s : List (Nat × Con) := []
def impl_isArea_E : Env := ⟨fun j => (look tyTab j).getD .unit, fun j => look impl_isArea_s j⟩
theorem impl_isArea_f_eq (N : Nat) (x0 : Int) : funK impl_isArea_E Try.f157 [.val (.int .i64)] [.bool] (.pair .bool .unit) (fun i => look [] i) N (x0, ()) = impl_isArea_k N x0 := by kernel_rfl
theorem impl_isArea_o : Known Try.prog 157 ⟨[.val (.int .i64)], [.bool], (.pair .bool .unit), impl_isArea⟩ := known_of (tab := tyTab) (cons := impl_isArea_s) (segs := []) (n := fuel) mixed_ok tab_ok .nil Try.func157 (by kernel_rfl) trivial (fun x => impl_isArea_f_eq fuel x.1)
def impl_fitsArea_k (N : Nat) (x0 : Int) (x1 : Int) (x2 : Int) : Option (Unit × (Bool × Unit)) :=
  obind (impl_isArea (x0, ())) fun v0 =>
  tb v0.2.1
  (obind (impl_inRange (x1, 0, 4096, ())) fun v1 =>
    tb v1.2.1
    (obind (impl_inRange (x2, 0, (wr .i64 (4096 - x1)), ())) fun v2 =>
      some ((), v2.2.1, ()))
    (some ((), false, ())))
  (some ((), false, ()))
def impl_fitsArea (x : (Int × Int × Int × Unit)) : Option (Unit × (Bool × Unit)) := impl_fitsArea_k fuel x.1 x.2.1 x.2.2.1
def impl_fitsArea_s : List (Nat × Con) := [(73, ⟨[.val (.int .i64), .val (.int .i64), .val (.int .i64)], [.bool], (.pair .bool .unit), impl_inRange⟩), (157, ⟨[.val (.int .i64)], [.bool], (.pair .bool .unit), impl_isArea⟩)]
def impl_fitsArea_E : Env := ⟨fun j => (look tyTab j).getD .unit, fun j => look impl_fitsArea_s j⟩
theorem impl_fitsArea_f_eq (N : Nat) (x0 : Int) (x1 : Int) (x2 : Int) : funK impl_fitsArea_E Try.f127 [.val (.int .i64), .val (.int .i64), .val (.int .i64)] [.bool] (.pair .bool .unit) (fun i => look [] i) N (x0, x1, x2, ()) = impl_fitsArea_k N x0 x1 x2 := by kernel_rfl
theorem impl_fitsArea_o : Known Try.prog 127 ⟨[.val (.int .i64), .val (.int .i64), .val (.int .i64)], [.bool], (.pair .bool .unit), impl_fitsArea⟩ := known_of (tab := tyTab) (cons := impl_fitsArea_s) (segs := []) (n := fuel) mixed_ok tab_ok (.cons impl_inRange_o (.cons impl_isArea_o .nil)) Try.func127 (by kernel_rfl) trivial (fun x => impl_fitsArea_f_eq fuel x.1 x.2.1 x.2.2.1)
def impl_first_k (N : Nat) (x0 : Int) : Option (Unit × (Int × Unit)) :=
  some ((), (wr .i64 (2 + (wr .i64 (64 * x0)))), ())
def impl_first (x : (Int × Unit)) : Option (Unit × (Int × Unit)) := impl_first_k fuel x.1
def impl_first_s : List (Nat × Con) := []
def impl_first_E : Env := ⟨fun j => (look tyTab j).getD .unit, fun j => look impl_first_s j⟩
theorem impl_first_f_eq (N : Nat) (x0 : Int) : funK impl_first_E Try.f149 [.val (.int .i64)] [(.int .i64)] (.pair (.int .i64) .unit) (fun i => look [] i) N (x0, ()) = impl_first_k N x0 := by kernel_rfl
theorem impl_first_o : Known Try.prog 149 ⟨[.val (.int .i64)], [(.int .i64)], (.pair (.int .i64) .unit), impl_first⟩ := known_of (tab := tyTab) (cons := impl_first_s) (segs := []) (n := fuel) mixed_ok tab_ok .nil Try.func149 (by kernel_rfl) trivial (fun x => impl_first_f_eq fuel x.1)
def impl_Disk_put_k (N : Nat) (x0 : ((List ByteArray) × (List (Int × ByteArray × Unit)) × Unit)) (x1 : Int) (x2 : ByteArray) : Option ((((List ByteArray) × (List (Int × ByteArray × Unit)) × Unit) × Unit) × (Bool × Unit)) :=
  obind (impl_isSector (x1, ())) fun v0 =>
  tb (bnot v0.2.1)
  (some (((x0.1, x0.2.1, ()), ()), false, ()))
  (tb (bnot (ieq (((slen x2) : Nat) : Int) 64))
    (some (((x0.1, x0.2.1, ()), ()), false, ()))
    (tb (ile 200 (((llen x0.2.1) : Nat) : Int))
      (some (((x0.1, x0.2.1, ()), ()), false, ()))
      (chk ((plus (llen x0.2.1) (llen [(x1, x2, ())])) ≤ 5864062014805) (some (((x0.1, (lapp x0.2.1 [(x1, x2, ())]), ()), ()), true, ())) (none))))
def impl_Disk_put (x : (((List ByteArray) × (List (Int × ByteArray × Unit)) × Unit) × Int × ByteArray × Unit)) : Option ((((List ByteArray) × (List (Int × ByteArray × Unit)) × Unit) × Unit) × (Bool × Unit)) := impl_Disk_put_k fuel x.1 x.2.1 x.2.2.1
def impl_Disk_put_s : List (Nat × Con) := [(123, ⟨[.val (.int .i64)], [.bool], (.pair .bool .unit), impl_isSector⟩)]
def impl_Disk_put_E : Env := ⟨fun j => (look tyTab j).getD .unit, fun j => look impl_Disk_put_s j⟩
theorem impl_Disk_put_f_eq (N : Nat) (x0 : ((List ByteArray) × (List (Int × ByteArray × Unit)) × Unit)) (x1 : Int) (x2 : ByteArray) : funK impl_Disk_put_E Try.f150 [.io T55, .val (.int .i64), .val .str] [.bool] (.pair .bool .unit) (fun i => look [] i) N (x0, x1, x2, ()) = impl_Disk_put_k N x0 x1 x2 := by kernel_rfl
theorem impl_Disk_put_o : Known Try.prog 150 ⟨[.io T55, .val (.int .i64), .val .str], [.bool], (.pair .bool .unit), impl_Disk_put⟩ := known_of (tab := tyTab) (cons := impl_Disk_put_s) (segs := []) (n := fuel) mixed_ok tab_ok (.cons impl_isSector_o .nil) Try.func150 (by kernel_rfl) trivial (fun x => impl_Disk_put_f_eq fuel x.1 x.2.1 x.2.2.1)
def impl_Disk_putArea_P0 : Tpl := ⟨[(0, .one (.fix (.vptr 900 0))), (1, .one (.leaf (.int .i64))), (2, .one (.leaf (.int .i64))), (3, .one (.leaf (.row false (.int .u8))))], [(900, [.fix (.ref 10000 [] none), .fix (.ref 10001 [] none)])], [(10000, .str), (10001, (.pair (.int .i64) (.pair .str .unit)))]⟩
def impl_Disk_putArea_O0 : Tpl := ⟨[], [(900, [.fix (.ref 10500 [] none), .fix (.ref 10501 [] none)])], [(10500, .str), (10501, (.pair (.int .i64) (.pair .str .unit)))]⟩
def impl_Disk_putArea_k0 (N : Nat) : Nat → ((Unit × ((Unit × Unit) × ((List ByteArray) × (List (Int × (ByteArray × Unit))) × Unit))) → Option ((((List ByteArray) × (List (Int × ByteArray × Unit)) × Unit) × Unit) × (Bool × Unit))) → ((Int × Int × (List Int) × Unit) × ((Unit × Unit) × ((List ByteArray) × (List (Int × (ByteArray × Unit))) × Unit))) → Option ((((List ByteArray) × (List (Int × ByteArray × Unit)) × Unit) × Unit) × (Bool × Unit))
  | 0, _, _ => none
  | n + 1, k, x =>
    tb (ilt 0 (((llen x.1.2.2.1) : Nat) : Int))
    (obind (impl_first (x.1.1, ())) fun v0 =>
      chk ((64 : Int) = 0) (none) (obind (impl_Disk_sector ((x.2.2.1, x.2.2.2.1, ()), (wr .i64 (v0.2.1 + (wr .i64 (Int.tdiv x.1.2.1 64)))), ())) fun v1 =>
        chk ((64 : Int) = 0) (none) (chk (((0 : Int) ≤ 0) ∧ ((0 ≤ (Int.tmod x.1.2.1 64)) ∧ ((Int.tmod x.1.2.1 64) ≤ (((slen v1.2.1) : Nat) : Int)))) (chk (((0 : Int) ≤ 0) ∧ ((0 ≤ (mn (((llen x.1.2.2.1) : Nat) : Int) (wr .i64 (64 - (Int.tmod x.1.2.1 64))))) ∧ ((mn (((llen x.1.2.2.1) : Nat) : Int) (wr .i64 (64 - (Int.tmod x.1.2.1 64)))) ≤ (((llen x.1.2.2.1) : Nat) : Int)))) (chk ((plus (slen (scut v1.2.1 (Int.toNat 0) (Int.toNat (Int.tmod x.1.2.1 64)))) (slen (strOf (lcut x.1.2.2.1 (Int.toNat 0) (Int.toNat (mn (((llen x.1.2.2.1) : Nat) : Int) (wr .i64 (64 - (Int.tmod x.1.2.1 64))))))))) < slim) (chk ((0 ≤ (wr .i64 ((Int.tmod x.1.2.1 64) + (mn (((llen x.1.2.2.1) : Nat) : Int) (wr .i64 (64 - (Int.tmod x.1.2.1 64))))))) ∧ (((wr .i64 ((Int.tmod x.1.2.1 64) + (mn (((llen x.1.2.2.1) : Nat) : Int) (wr .i64 (64 - (Int.tmod x.1.2.1 64)))))) ≤ (((slen v1.2.1) : Nat) : Int)) ∧ ((((slen v1.2.1) : Nat) : Int) ≤ (((slen v1.2.1) : Nat) : Int)))) (chk ((plus (slen (sapp (scut v1.2.1 (Int.toNat 0) (Int.toNat (Int.tmod x.1.2.1 64))) (strOf (lcut x.1.2.2.1 (Int.toNat 0) (Int.toNat (mn (((llen x.1.2.2.1) : Nat) : Int) (wr .i64 (64 - (Int.tmod x.1.2.1 64))))))))) (slen (scut v1.2.1 (Int.toNat (wr .i64 ((Int.tmod x.1.2.1 64) + (mn (((llen x.1.2.2.1) : Nat) : Int) (wr .i64 (64 - (Int.tmod x.1.2.1 64))))))) (Int.toNat (((slen v1.2.1) : Nat) : Int))))) < slim) (obind (impl_Disk_put ((x.2.2.1, x.2.2.2.1, ()), (wr .i64 (v0.2.1 + (wr .i64 (Int.tdiv x.1.2.1 64)))), (sapp (sapp (scut v1.2.1 (Int.toNat 0) (Int.toNat (Int.tmod x.1.2.1 64))) (strOf (lcut x.1.2.2.1 (Int.toNat 0) (Int.toNat (mn (((llen x.1.2.2.1) : Nat) : Int) (wr .i64 (64 - (Int.tmod x.1.2.1 64)))))))) (scut v1.2.1 (Int.toNat (wr .i64 ((Int.tmod x.1.2.1 64) + (mn (((llen x.1.2.2.1) : Nat) : Int) (wr .i64 (64 - (Int.tmod x.1.2.1 64))))))) (Int.toNat (((slen v1.2.1) : Nat) : Int)))), ())) fun v2 =>
                    tb (bnot v2.2.1)
                    (some (((v2.1.1.1, v2.1.1.2.1, ()), ()), false, ()))
                    (chk ((0 ≤ (mn (((llen x.1.2.2.1) : Nat) : Int) (wr .i64 (64 - (Int.tmod x.1.2.1 64))))) ∧ (((mn (((llen x.1.2.2.1) : Nat) : Int) (wr .i64 (64 - (Int.tmod x.1.2.1 64)))) ≤ (((llen x.1.2.2.1) : Nat) : Int)) ∧ ((((llen x.1.2.2.1) : Nat) : Int) ≤ (((llen x.1.2.2.1) : Nat) : Int)))) (impl_Disk_putArea_k0 N n k ((x.1.1, (wr .i64 (x.1.2.1 + (mn (((llen x.1.2.2.1) : Nat) : Int) (wr .i64 (64 - (Int.tmod x.1.2.1 64)))))), (lcut x.1.2.2.1 (Int.toNat (mn (((llen x.1.2.2.1) : Nat) : Int) (wr .i64 (64 - (Int.tmod x.1.2.1 64))))) (Int.toNat (((llen x.1.2.2.1) : Nat) : Int))), ()), ((), ()), v2.1.1.1, v2.1.1.2.1, ())) (none))) (none)) (none)) (none)) (none)) (none))))
    (k ((), ((), ()), x.2.2.1, x.2.2.2.1, ()))
def impl_Disk_putArea_k (N : Nat) (x0 : ((List ByteArray) × (List (Int × ByteArray × Unit)) × Unit)) (x1 : Int) (x2 : Int) (x3 : (List Int)) : Option ((((List ByteArray) × (List (Int × ByteArray × Unit)) × Unit) × Unit) × (Bool × Unit)) :=
  obind (impl_fitsArea (x1, x2, (((llen x3) : Nat) : Int), ())) fun v0 =>
  tb (bnot v0.2.1)
  (some (((x0.1, x0.2.1, ()), ()), false, ()))
  (impl_Disk_putArea_k0 N N (fun v1 =>
      some (((v1.2.2.1, v1.2.2.2.1, ()), ()), true, ())) ((x1, x2, x3, ()), ((), ()), x0.1, x0.2.1, ()))
def impl_Disk_putArea (x : (((List ByteArray) × (List (Int × ByteArray × Unit)) × Unit) × Int × Int × (List Int) × Unit)) : Option ((((List ByteArray) × (List (Int × ByteArray × Unit)) × Unit) × Unit) × (Bool × Unit)) := impl_Disk_putArea_k fuel x.1 x.2.1 x.2.2.1 x.2.2.2.1
def impl_Disk_putArea_s : List (Nat × Con) := [(112, ⟨[.rptr T55, .val (.int .i64)], [.str], (.pair .str .unit), impl_Disk_sector⟩), (127, ⟨[.val (.int .i64), .val (.int .i64), .val (.int .i64)], [.bool], (.pair .bool .unit), impl_fitsArea⟩), (149, ⟨[.val (.int .i64)], [(.int .i64)], (.pair (.int .i64) .unit), impl_first⟩), (150, ⟨[.io T55, .val (.int .i64), .val .str], [.bool], (.pair .bool .unit), impl_Disk_put⟩)]
def impl_Disk_putArea_E : Env := ⟨fun j => (look tyTab j).getD .unit, fun j => look impl_Disk_putArea_s j⟩
theorem impl_Disk_putArea_r0 (N n : Nat) (k : impl_Disk_putArea_O0.ty.den → Option ((((List ByteArray) × (List (Int × ByteArray × Unit)) × Unit) × Unit) × (Bool × Unit))) (x : impl_Disk_putArea_P0.ty.den) : roundK impl_Disk_putArea_E ⟨Try.f103.ntmps, N, (fun i => look [(0, ⟨impl_Disk_putArea_P0, impl_Disk_putArea_O0, [.cell 900 0 10000 .str, .cell 900 1 10001 (.pair (.int .i64) (.pair .str .unit))], [.cell 900 0 10500 .str, .cell 900 1 10501 (.pair (.int .i64) (.pair .str .unit))], impl_Disk_putArea_k0 N⟩)] i), retK impl_Disk_putArea_E Try.f103 [.io T55, .val (.int .i64), .val (.int .i64), .val (.row false (.int .u8))] [.bool] (.pair .bool .unit)⟩ (Try.f103.body.getD .skip) 0 ⟨impl_Disk_putArea_P0, impl_Disk_putArea_O0, [.cell 900 0 10000 .str, .cell 900 1 10001 (.pair (.int .i64) (.pair .str .unit))], [.cell 900 0 10500 .str, .cell 900 1 10501 (.pair (.int .i64) (.pair .str .unit))], impl_Disk_putArea_k0 N⟩ (impl_Disk_putArea_k0 N n k) k x = impl_Disk_putArea_k0 N (n + 1) k x := by kernel_rfl
theorem impl_Disk_putArea_f_eq (N : Nat) (x0 : ((List ByteArray) × (List (Int × ByteArray × Unit)) × Unit)) (x1 : Int) (x2 : Int) (x3 : (List Int)) : funK impl_Disk_putArea_E Try.f103 [.io T55, .val (.int .i64), .val (.int .i64), .val (.row false (.int .u8))] [.bool] (.pair .bool .unit) (fun i => look [(0, ⟨impl_Disk_putArea_P0, impl_Disk_putArea_O0, [.cell 900 0 10000 .str, .cell 900 1 10001 (.pair (.int .i64) (.pair .str .unit))], [.cell 900 0 10500 .str, .cell 900 1 10501 (.pair (.int .i64) (.pair .str .unit))], impl_Disk_putArea_k0 N⟩)] i) N (x0, x1, x2, x3, ()) = impl_Disk_putArea_k N x0 x1 x2 x3 := by kernel_rfl
theorem impl_Disk_putArea_o : Known Try.prog 103 ⟨[.io T55, .val (.int .i64), .val (.int .i64), .val (.row false (.int .u8))], [.bool], (.pair .bool .unit), impl_Disk_putArea⟩ := known_of (tab := tyTab) (cons := impl_Disk_putArea_s) (segs := [(0, ⟨impl_Disk_putArea_P0, impl_Disk_putArea_O0, [.cell 900 0 10000 .str, .cell 900 1 10001 (.pair (.int .i64) (.pair .str .unit))], [.cell 900 0 10500 .str, .cell 900 1 10501 (.pair (.int .i64) (.pair .str .unit))], impl_Disk_putArea_k0 fuel⟩)]) (n := fuel) mixed_ok tab_ok (.cons impl_Disk_sector_o (.cons impl_fitsArea_o (.cons impl_first_o (.cons impl_Disk_put_o .nil)))) Try.func103 (by kernel_rfl) ⟨⟨fun _ _ => rfl, fun n k x => impl_Disk_putArea_r0 fuel n k x⟩, trivial⟩ (fun x => impl_Disk_putArea_f_eq fuel x.1 x.2.1 x.2.2.1 x.2.2.2.1)
def impl_AreaPut_k (N : Nat) (x0 : ((List ByteArray) × (List (Int × ByteArray × Unit)) × Unit)) (x1 : Int) (x2 : Int) (x3 : (List Int)) : Option (Unit × (((List ByteArray) × (List (Int × ByteArray × Unit)) × Unit) × Bool × Unit)) :=
  obind (impl_DiskOk ((x0.1, x0.2.1, ()), ())) fun v0 =>
  tb (bnot v0.2.1)
  (some ((), ([], [], ()), false, ()))
  (obind (impl_copyDisk ((x0.1, x0.2.1, ()), ())) fun v1 =>
    obind (impl_Disk_putArea ((v1.2.1.1, v1.2.1.2.1, ()), x1, x2, x3, ())) fun v2 =>
    tb (bnot v2.2.1)
    (obind (impl_copyDisk ((x0.1, x0.2.1, ()), ())) fun v3 =>
      some ((), (v3.2.1.1, v3.2.1.2.1, ()), false, ()))
    (some ((), (v2.1.1.1, v2.1.1.2.1, ()), true, ())))
def impl_AreaPut (x : (((List ByteArray) × (List (Int × ByteArray × Unit)) × Unit) × Int × Int × (List Int) × Unit)) : Option (Unit × (((List ByteArray) × (List (Int × ByteArray × Unit)) × Unit) × Bool × Unit)) := impl_AreaPut_k fuel x.1 x.2.1 x.2.2.1 x.2.2.2.1
def impl_AreaPut_s : List (Nat × Con) := [(101, ⟨[.val S55], [.bool], (.pair .bool .unit), impl_DiskOk⟩), (102, ⟨[.val S55], [T55], (.pair T55 .unit), impl_copyDisk⟩), (103, ⟨[.io T55, .val (.int .i64), .val (.int .i64), .val (.row false (.int .u8))], [.bool], (.pair .bool .unit), impl_Disk_putArea⟩)]
def impl_AreaPut_E : Env := ⟨fun j => (look tyTab j).getD .unit, fun j => look impl_AreaPut_s j⟩
theorem impl_AreaPut_f_eq (N : Nat) (x0 : ((List ByteArray) × (List (Int × ByteArray × Unit)) × Unit)) (x1 : Int) (x2 : Int) (x3 : (List Int)) : funK impl_AreaPut_E Try.f39 [.val S55, .val (.int .i64), .val (.int .i64), .val (.row false (.int .u8))] [T55, .bool] (.pair T55 (.pair .bool .unit)) (fun i => look [] i) N (x0, x1, x2, x3, ()) = impl_AreaPut_k N x0 x1 x2 x3 := by kernel_rfl
theorem impl_AreaPut_o : Known Try.prog 39 ⟨[.val S55, .val (.int .i64), .val (.int .i64), .val (.row false (.int .u8))], [T55, .bool], (.pair T55 (.pair .bool .unit)), impl_AreaPut⟩ := known_of (tab := tyTab) (cons := impl_AreaPut_s) (segs := []) (n := fuel) mixed_ok tab_ok (.cons impl_DiskOk_o (.cons impl_copyDisk_o (.cons impl_Disk_putArea_o .nil))) Try.func39 (by kernel_rfl) trivial (fun x => impl_AreaPut_f_eq fuel x.1 x.2.1 x.2.2.1 x.2.2.2.1)
def laws_eqStringS_P0 : Tpl := ⟨[(0, .one (.leaf (.row false .str))), (1, .one (.leaf (.row false .str))), (5, .one (.leaf (.int .i64)))], [], []⟩
def laws_eqStringS_O0 : Tpl := ⟨[], [], []⟩
def laws_eqStringS_k0 (N : Nat) : Nat → ((Unit × (Unit × Unit)) → Option (Unit × (Bool × Unit))) → (((List ByteArray) × (List ByteArray) × Int × Unit) × (Unit × Unit)) → Option (Unit × (Bool × Unit))
  | 0, _, _ => none
  | n + 1, k, x =>
    tb (ilt x.1.2.2.1 (((llen x.1.1) : Nat) : Int))
    (chk (0 ≤ x.1.2.2.1) (obind (at? x.1.1 (Int.toNat x.1.2.2.1)) fun v0 =>
        chk (0 ≤ x.1.2.2.1) (obind (at? x.1.2.1 (Int.toNat x.1.2.2.1)) fun v1 =>
          tb (bnot (seq v0 v1))
          (some ((), false, ()))
          (laws_eqStringS_k0 N n k ((x.1.1, x.1.2.1, (wr .i64 (x.1.2.2.1 + 1)), ()), (), ()))) (none)) (none))
    (k ((), (), ()))
def laws_eqStringS_k (N : Nat) (x0 : (List ByteArray)) (x1 : (List ByteArray)) : Option (Unit × (Bool × Unit)) :=
  tb (bnot (ieq (((llen x0) : Nat) : Int) (((llen x1) : Nat) : Int)))
  (some ((), false, ()))
  (laws_eqStringS_k0 N N (fun v0 =>
      some ((), true, ())) ((x0, x1, 0, ()), (), ()))
def laws_eqStringS (x : ((List ByteArray) × (List ByteArray) × Unit)) : Option (Unit × (Bool × Unit)) := laws_eqStringS_k fuel x.1 x.2.1
def laws_eqStringS_s : List (Nat × Con) := []
def laws_eqStringS_E : Env := ⟨fun j => (look tyTab j).getD .unit, fun j => look laws_eqStringS_s j⟩
theorem laws_eqStringS_r0 (N n : Nat) (k : laws_eqStringS_O0.ty.den → Option (Unit × (Bool × Unit))) (x : laws_eqStringS_P0.ty.den) : roundK laws_eqStringS_E ⟨Try.f104.ntmps, N, (fun i => look [(0, ⟨laws_eqStringS_P0, laws_eqStringS_O0, [], [], laws_eqStringS_k0 N⟩)] i), retK laws_eqStringS_E Try.f104 [.val (.row false .str), .val (.row false .str)] [.bool] (.pair .bool .unit)⟩ (Try.f104.body.getD .skip) 0 ⟨laws_eqStringS_P0, laws_eqStringS_O0, [], [], laws_eqStringS_k0 N⟩ (laws_eqStringS_k0 N n k) k x = laws_eqStringS_k0 N (n + 1) k x := by kernel_rfl
theorem laws_eqStringS_f_eq (N : Nat) (x0 : (List ByteArray)) (x1 : (List ByteArray)) : funK laws_eqStringS_E Try.f104 [.val (.row false .str), .val (.row false .str)] [.bool] (.pair .bool .unit) (fun i => look [(0, ⟨laws_eqStringS_P0, laws_eqStringS_O0, [], [], laws_eqStringS_k0 N⟩)] i) N (x0, x1, ()) = laws_eqStringS_k N x0 x1 := by kernel_rfl
theorem laws_eqStringS_o : Known Try.prog 104 ⟨[.val (.row false .str), .val (.row false .str)], [.bool], (.pair .bool .unit), laws_eqStringS⟩ := known_of (tab := tyTab) (cons := laws_eqStringS_s) (segs := [(0, ⟨laws_eqStringS_P0, laws_eqStringS_O0, [], [], laws_eqStringS_k0 fuel⟩)]) (n := fuel) mixed_ok tab_ok .nil Try.func104 (by kernel_rfl) ⟨⟨fun _ _ => rfl, fun n k x => laws_eqStringS_r0 fuel n k x⟩, trivial⟩ (fun x => laws_eqStringS_f_eq fuel x.1 x.2.1)
def laws_eqPut_k (N : Nat) (x0 : (Int × ByteArray × Unit)) (x1 : (Int × ByteArray × Unit)) : Option (Unit × (Bool × Unit)) :=
  tb (bnot (ieq x0.1 x1.1))
  (some ((), false, ()))
  (tb (bnot (seq x0.2.1 x1.2.1))
    (some ((), false, ()))
    (some ((), true, ())))
def laws_eqPut (x : ((Int × ByteArray × Unit) × (Int × ByteArray × Unit) × Unit)) : Option (Unit × (Bool × Unit)) := laws_eqPut_k fuel x.1 x.2.1
def laws_eqPut_s : List (Nat × Con) := []
def laws_eqPut_E : Env := ⟨fun j => (look tyTab j).getD .unit, fun j => look laws_eqPut_s j⟩
theorem laws_eqPut_f_eq (N : Nat) (x0 : (Int × ByteArray × Unit)) (x1 : (Int × ByteArray × Unit)) : funK laws_eqPut_E Try.f151 [.val S167, .val S167] [.bool] (.pair .bool .unit) (fun i => look [] i) N (x0, x1, ()) = laws_eqPut_k N x0 x1 := by kernel_rfl
theorem laws_eqPut_o : Known Try.prog 151 ⟨[.val S167, .val S167], [.bool], (.pair .bool .unit), laws_eqPut⟩ := known_of (tab := tyTab) (cons := laws_eqPut_s) (segs := []) (n := fuel) mixed_ok tab_ok .nil Try.func151 (by kernel_rfl) trivial (fun x => laws_eqPut_f_eq fuel x.1 x.2.1)
def laws_eqPutS_P0 : Tpl := ⟨[(0, .one (.leaf (.row false (.pair (.int .i64) (.pair .str .unit))))), (1, .one (.leaf (.row false (.pair (.int .i64) (.pair .str .unit))))), (5, .one (.leaf (.int .i64)))], [], []⟩
def laws_eqPutS_O0 : Tpl := ⟨[], [], []⟩
def laws_eqPutS_k0 (N : Nat) : Nat → ((Unit × (Unit × Unit)) → Option (Unit × (Bool × Unit))) → (((List (Int × (ByteArray × Unit))) × (List (Int × (ByteArray × Unit))) × Int × Unit) × (Unit × Unit)) → Option (Unit × (Bool × Unit))
  | 0, _, _ => none
  | n + 1, k, x =>
    tb (ilt x.1.2.2.1 (((llen x.1.1) : Nat) : Int))
    (chk (0 ≤ x.1.2.2.1) (obind (at? x.1.1 (Int.toNat x.1.2.2.1)) fun v0 =>
        chk (0 ≤ x.1.2.2.1) (obind (at? x.1.2.1 (Int.toNat x.1.2.2.1)) fun v1 =>
          obind (laws_eqPut ((v0.1, v0.2.1, ()), (v1.1, v1.2.1, ()), ())) fun v2 =>
          tb (bnot v2.2.1)
          (some ((), false, ()))
          (laws_eqPutS_k0 N n k ((x.1.1, x.1.2.1, (wr .i64 (x.1.2.2.1 + 1)), ()), (), ()))) (none)) (none))
    (k ((), (), ()))
def laws_eqPutS_k (N : Nat) (x0 : (List (Int × ByteArray × Unit))) (x1 : (List (Int × ByteArray × Unit))) : Option (Unit × (Bool × Unit)) :=
  tb (bnot (ieq (((llen x0) : Nat) : Int) (((llen x1) : Nat) : Int)))
  (some ((), false, ()))
  (laws_eqPutS_k0 N N (fun v0 =>
      some ((), true, ())) ((x0, x1, 0, ()), (), ()))
def laws_eqPutS (x : ((List (Int × ByteArray × Unit)) × (List (Int × ByteArray × Unit)) × Unit)) : Option (Unit × (Bool × Unit)) := laws_eqPutS_k fuel x.1 x.2.1
def laws_eqPutS_s : List (Nat × Con) := [(151, ⟨[.val S167, .val S167], [.bool], (.pair .bool .unit), laws_eqPut⟩)]
def laws_eqPutS_E : Env := ⟨fun j => (look tyTab j).getD .unit, fun j => look laws_eqPutS_s j⟩
theorem laws_eqPutS_r0 (N n : Nat) (k : laws_eqPutS_O0.ty.den → Option (Unit × (Bool × Unit))) (x : laws_eqPutS_P0.ty.den) : roundK laws_eqPutS_E ⟨Try.f105.ntmps, N, (fun i => look [(0, ⟨laws_eqPutS_P0, laws_eqPutS_O0, [], [], laws_eqPutS_k0 N⟩)] i), retK laws_eqPutS_E Try.f105 [.val (.row false S167), .val (.row false S167)] [.bool] (.pair .bool .unit)⟩ (Try.f105.body.getD .skip) 0 ⟨laws_eqPutS_P0, laws_eqPutS_O0, [], [], laws_eqPutS_k0 N⟩ (laws_eqPutS_k0 N n k) k x = laws_eqPutS_k0 N (n + 1) k x := by kernel_rfl
theorem laws_eqPutS_f_eq (N : Nat) (x0 : (List (Int × ByteArray × Unit))) (x1 : (List (Int × ByteArray × Unit))) : funK laws_eqPutS_E Try.f105 [.val (.row false S167), .val (.row false S167)] [.bool] (.pair .bool .unit) (fun i => look [(0, ⟨laws_eqPutS_P0, laws_eqPutS_O0, [], [], laws_eqPutS_k0 N⟩)] i) N (x0, x1, ()) = laws_eqPutS_k N x0 x1 := by kernel_rfl
theorem laws_eqPutS_o : Known Try.prog 105 ⟨[.val (.row false S167), .val (.row false S167)], [.bool], (.pair .bool .unit), laws_eqPutS⟩ := known_of (tab := tyTab) (cons := laws_eqPutS_s) (segs := [(0, ⟨laws_eqPutS_P0, laws_eqPutS_O0, [], [], laws_eqPutS_k0 fuel⟩)]) (n := fuel) mixed_ok tab_ok (.cons laws_eqPut_o .nil) Try.func105 (by kernel_rfl) ⟨⟨fun _ _ => rfl, fun n k x => laws_eqPutS_r0 fuel n k x⟩, trivial⟩ (fun x => laws_eqPutS_f_eq fuel x.1 x.2.1)
def laws_eqDisk_k (N : Nat) (x0 : ((List ByteArray) × (List (Int × ByteArray × Unit)) × Unit)) (x1 : ((List ByteArray) × (List (Int × ByteArray × Unit)) × Unit)) : Option (Unit × (Bool × Unit)) :=
  obind (laws_eqStringS (x0.1, x1.1, ())) fun v0 =>
  tb (bnot v0.2.1)
  (some ((), false, ()))
  (obind (laws_eqPutS (x0.2.1, x1.2.1, ())) fun v1 =>
    tb (bnot v1.2.1)
    (some ((), false, ()))
    (some ((), true, ())))
def laws_eqDisk (x : (((List ByteArray) × (List (Int × ByteArray × Unit)) × Unit) × ((List ByteArray) × (List (Int × ByteArray × Unit)) × Unit) × Unit)) : Option (Unit × (Bool × Unit)) := laws_eqDisk_k fuel x.1 x.2.1
def laws_eqDisk_s : List (Nat × Con) := [(104, ⟨[.val (.row false .str), .val (.row false .str)], [.bool], (.pair .bool .unit), laws_eqStringS⟩), (105, ⟨[.val (.row false S167), .val (.row false S167)], [.bool], (.pair .bool .unit), laws_eqPutS⟩)]
def laws_eqDisk_E : Env := ⟨fun j => (look tyTab j).getD .unit, fun j => look laws_eqDisk_s j⟩
theorem laws_eqDisk_f_eq (N : Nat) (x0 : ((List ByteArray) × (List (Int × ByteArray × Unit)) × Unit)) (x1 : ((List ByteArray) × (List (Int × ByteArray × Unit)) × Unit)) : funK laws_eqDisk_E Try.f40 [.val S55, .val S55] [.bool] (.pair .bool .unit) (fun i => look [] i) N (x0, x1, ()) = laws_eqDisk_k N x0 x1 := by kernel_rfl
theorem laws_eqDisk_o : Known Try.prog 40 ⟨[.val S55, .val S55], [.bool], (.pair .bool .unit), laws_eqDisk⟩ := known_of (tab := tyTab) (cons := laws_eqDisk_s) (segs := []) (n := fuel) mixed_ok tab_ok (.cons laws_eqStringS_o (.cons laws_eqPutS_o .nil)) Try.func40 (by kernel_rfl) trivial (fun x => laws_eqDisk_f_eq fuel x.1 x.2.1)
def laws_markText_P0 : Tpl := ⟨[(0, .one (.leaf (.int .i64))), (3, .one (.leaf .str))], [], []⟩
def laws_markText_O0 : Tpl := ⟨[(3, .one (.leaf .str))], [], []⟩
def laws_markText_k0 (N : Nat) : Nat → (((ByteArray × Unit) × (Unit × Unit)) → Option (Unit × (ByteArray × Unit))) → ((Int × ByteArray × Unit) × (Unit × Unit)) → Option (Unit × (ByteArray × Unit))
  | 0, _, _ => none
  | n + 1, k, x =>
    tb (ilt 0 x.1.1)
    (chk ((10 : Int) = 0) (none) (chk ((plus (slen (strOf [(wr .u8 (wr .i64 (48 + (Int.tmod x.1.1 10))))])) (slen x.1.2.1)) < slim) (chk ((10 : Int) = 0) (none) (laws_markText_k0 N n k (((wr .i64 (Int.tdiv x.1.1 10)), (sapp (strOf [(wr .u8 (wr .i64 (48 + (Int.tmod x.1.1 10))))]) x.1.2.1), ()), (), ()))) (none)))
    (k ((x.1.2.1, ()), (), ()))
def laws_markText_k (N : Nat) (x0 : Int) : Option (Unit × (ByteArray × Unit)) :=
  tb (ile x0 0)
  (some ((), (⟨#[109, 48]⟩ : ByteArray), ()))
  (laws_markText_k0 N N (fun v0 =>
      chk ((plus (slen (⟨#[109]⟩ : ByteArray)) (slen v0.1.1)) < slim) (some ((), (sapp (⟨#[109]⟩ : ByteArray) v0.1.1), ())) (none)) ((x0, (⟨#[]⟩ : ByteArray), ()), (), ()))
def laws_markText (x : (Int × Unit)) : Option (Unit × (ByteArray × Unit)) := laws_markText_k fuel x.1
def laws_markText_s : List (Nat × Con) := []
def laws_markText_E : Env := ⟨fun j => (look tyTab j).getD .unit, fun j => look laws_markText_s j⟩
theorem laws_markText_r0 (N n : Nat) (k : laws_markText_O0.ty.den → Option (Unit × (ByteArray × Unit))) (x : laws_markText_P0.ty.den) : roundK laws_markText_E ⟨Try.f84.ntmps, N, (fun i => look [(0, ⟨laws_markText_P0, laws_markText_O0, [], [], laws_markText_k0 N⟩)] i), retK laws_markText_E Try.f84 [.val (.int .i64)] [.str] (.pair .str .unit)⟩ (Try.f84.body.getD .skip) 0 ⟨laws_markText_P0, laws_markText_O0, [], [], laws_markText_k0 N⟩ (laws_markText_k0 N n k) k x = laws_markText_k0 N (n + 1) k x := by kernel_rfl
theorem laws_markText_f_eq (N : Nat) (x0 : Int) : funK laws_markText_E Try.f84 [.val (.int .i64)] [.str] (.pair .str .unit) (fun i => look [(0, ⟨laws_markText_P0, laws_markText_O0, [], [], laws_markText_k0 N⟩)] i) N (x0, ()) = laws_markText_k N x0 := by kernel_rfl
theorem laws_markText_o : Known Try.prog 84 ⟨[.val (.int .i64)], [.str], (.pair .str .unit), laws_markText⟩ := known_of (tab := tyTab) (cons := laws_markText_s) (segs := [(0, ⟨laws_markText_P0, laws_markText_O0, [], [], laws_markText_k0 fuel⟩)]) (n := fuel) mixed_ok tab_ok .nil Try.func84 (by kernel_rfl) ⟨⟨fun _ _ => rfl, fun n k x => laws_markText_r0 fuel n k x⟩, trivial⟩ (fun x => laws_markText_f_eq fuel x.1)
def laws_markStringS_P0 : Tpl := ⟨[(0, .one (.fix (.ref 500 [] none))), (1, .one (.leaf (.int .i64))), (5, .one (.leaf (.int .i64)))], [], [(500, .str)]⟩
def laws_markStringS_O0 : Tpl := ⟨[(1, .one (.leaf (.int .i64)))], [], [(500, .str)]⟩
def laws_markStringS_k0 (N : Nat) : Nat → (((Int × Unit) × (Unit × ((List ByteArray) × Unit))) → Option (((List ByteArray) × Unit) × (Int × Unit))) → ((Int × Int × Unit) × (Unit × ((List ByteArray) × Unit))) → Option (((List ByteArray) × Unit) × (Int × Unit))
  | 0, _, _ => none
  | n + 1, k, x =>
    tb (ilt x.1.2.1 (((llen x.2.2.1) : Nat) : Int))
    (obind (laws_markText (x.1.1, ())) fun v0 =>
      chk ((0 ≤ x.1.2.1) ∧ (x.1.2.1 < (((llen x.2.2.1) : Nat) : Int))) (obind (at? x.2.2.1 (Int.toNat x.1.2.1)) fun v1 =>
        laws_markStringS_k0 N n k (((wr .i64 (x.1.1 + 1)), (wr .i64 (x.1.2.1 + 1)), ()), (), (lset x.2.2.1 (Int.toNat x.1.2.1) v0.2.1), ())) (none))
    (k ((x.1.1, ()), (), x.2.2.1, ()))
def laws_markStringS_k (N : Nat) (x0 : (List ByteArray)) (x1 : Int) : Option (((List ByteArray) × Unit) × (Int × Unit)) :=
  laws_markStringS_k0 N N (fun v0 =>
    some ((v0.2.2.1, ()), v0.1.1, ())) ((x1, 0, ()), (), x0, ())
def laws_markStringS (x : ((List ByteArray) × Int × Unit)) : Option (((List ByteArray) × Unit) × (Int × Unit)) := laws_markStringS_k fuel x.1 x.2.1
def laws_markStringS_s : List (Nat × Con) := [(84, ⟨[.val (.int .i64)], [.str], (.pair .str .unit), laws_markText⟩)]
def laws_markStringS_E : Env := ⟨fun j => (look tyTab j).getD .unit, fun j => look laws_markStringS_s j⟩
theorem laws_markStringS_r0 (N n : Nat) (k : laws_markStringS_O0.ty.den → Option (((List ByteArray) × Unit) × (Int × Unit))) (x : laws_markStringS_P0.ty.den) : roundK laws_markStringS_E ⟨Try.f106.ntmps, N, (fun i => look [(0, ⟨laws_markStringS_P0, laws_markStringS_O0, [], [], laws_markStringS_k0 N⟩)] i), retK laws_markStringS_E Try.f106 [.bor (.row true .str), .val (.int .i64)] [(.int .i64)] (.pair (.int .i64) .unit)⟩ (Try.f106.body.getD .skip) 0 ⟨laws_markStringS_P0, laws_markStringS_O0, [], [], laws_markStringS_k0 N⟩ (laws_markStringS_k0 N n k) k x = laws_markStringS_k0 N (n + 1) k x := by kernel_rfl
theorem laws_markStringS_f_eq (N : Nat) (x0 : (List ByteArray)) (x1 : Int) : funK laws_markStringS_E Try.f106 [.bor (.row true .str), .val (.int .i64)] [(.int .i64)] (.pair (.int .i64) .unit) (fun i => look [(0, ⟨laws_markStringS_P0, laws_markStringS_O0, [], [], laws_markStringS_k0 N⟩)] i) N (x0, x1, ()) = laws_markStringS_k N x0 x1 := by kernel_rfl
theorem laws_markStringS_o : Known Try.prog 106 ⟨[.bor (.row true .str), .val (.int .i64)], [(.int .i64)], (.pair (.int .i64) .unit), laws_markStringS⟩ := known_of (tab := tyTab) (cons := laws_markStringS_s) (segs := [(0, ⟨laws_markStringS_P0, laws_markStringS_O0, [], [], laws_markStringS_k0 fuel⟩)]) (n := fuel) mixed_ok tab_ok (.cons laws_markText_o .nil) Try.func106 (by kernel_rfl) ⟨⟨fun _ _ => rfl, fun n k x => laws_markStringS_r0 fuel n k x⟩, trivial⟩ (fun x => laws_markStringS_f_eq fuel x.1 x.2.1)
def laws_markPutS_P0 : Tpl := ⟨[(0, .one (.fix (.ref 500 [] none))), (1, .one (.leaf (.int .i64))), (5, .one (.leaf (.int .i64)))], [], [(500, (.pair (.int .i64) (.pair .str .unit)))]⟩
def laws_markPutS_O0 : Tpl := ⟨[(1, .one (.leaf (.int .i64)))], [], [(500, (.pair (.int .i64) (.pair .str .unit)))]⟩
def laws_markPutS_k0 (N : Nat) : Nat → (((Int × Unit) × (Unit × ((List (Int × (ByteArray × Unit))) × Unit))) → Option (((List (Int × ByteArray × Unit)) × Unit) × (Int × Unit))) → ((Int × Int × Unit) × (Unit × ((List (Int × (ByteArray × Unit))) × Unit))) → Option (((List (Int × ByteArray × Unit)) × Unit) × (Int × Unit))
  | 0, _, _ => none
  | n + 1, k, x =>
    tb (ilt x.1.2.1 (((llen x.2.2.1) : Nat) : Int))
    (chk ((0 ≤ x.1.2.1) ∧ (x.1.2.1 < (((llen x.2.2.1) : Nat) : Int))) (obind (at? x.2.2.1 (Int.toNat x.1.2.1)) fun v0 =>
        obind (laws_markText ((wr .i64 (x.1.1 + 1)), ())) fun v1 =>
        chk ((0 ≤ x.1.2.1) ∧ (x.1.2.1 < (((llen (lset x.2.2.1 (Int.toNat x.1.2.1) (x.1.1, v0.2))) : Nat) : Int))) (obind (at? (lset x.2.2.1 (Int.toNat x.1.2.1) (x.1.1, v0.2)) (Int.toNat x.1.2.1)) fun v2 =>
          laws_markPutS_k0 N n k (((wr .i64 ((wr .i64 (x.1.1 + 1)) + 1)), (wr .i64 (x.1.2.1 + 1)), ()), (), (lset (lset x.2.2.1 (Int.toNat x.1.2.1) (x.1.1, v0.2)) (Int.toNat x.1.2.1) (v2.1, v1.2.1, v2.2.2)), ())) (none)) (none))
    (k ((x.1.1, ()), (), x.2.2.1, ()))
def laws_markPutS_k (N : Nat) (x0 : (List (Int × ByteArray × Unit))) (x1 : Int) : Option (((List (Int × ByteArray × Unit)) × Unit) × (Int × Unit)) :=
  laws_markPutS_k0 N N (fun v0 =>
    some ((v0.2.2.1, ()), v0.1.1, ())) ((x1, 0, ()), (), x0, ())
def laws_markPutS (x : ((List (Int × ByteArray × Unit)) × Int × Unit)) : Option (((List (Int × ByteArray × Unit)) × Unit) × (Int × Unit)) := laws_markPutS_k fuel x.1 x.2.1
def laws_markPutS_s : List (Nat × Con) := [(84, ⟨[.val (.int .i64)], [.str], (.pair .str .unit), laws_markText⟩)]
def laws_markPutS_E : Env := ⟨fun j => (look tyTab j).getD .unit, fun j => look laws_markPutS_s j⟩
theorem laws_markPutS_r0 (N n : Nat) (k : laws_markPutS_O0.ty.den → Option (((List (Int × ByteArray × Unit)) × Unit) × (Int × Unit))) (x : laws_markPutS_P0.ty.den) : roundK laws_markPutS_E ⟨Try.f107.ntmps, N, (fun i => look [(0, ⟨laws_markPutS_P0, laws_markPutS_O0, [], [], laws_markPutS_k0 N⟩)] i), retK laws_markPutS_E Try.f107 [.bor (.row true T167), .val (.int .i64)] [(.int .i64)] (.pair (.int .i64) .unit)⟩ (Try.f107.body.getD .skip) 0 ⟨laws_markPutS_P0, laws_markPutS_O0, [], [], laws_markPutS_k0 N⟩ (laws_markPutS_k0 N n k) k x = laws_markPutS_k0 N (n + 1) k x := by kernel_rfl
theorem laws_markPutS_f_eq (N : Nat) (x0 : (List (Int × ByteArray × Unit))) (x1 : Int) : funK laws_markPutS_E Try.f107 [.bor (.row true T167), .val (.int .i64)] [(.int .i64)] (.pair (.int .i64) .unit) (fun i => look [(0, ⟨laws_markPutS_P0, laws_markPutS_O0, [], [], laws_markPutS_k0 N⟩)] i) N (x0, x1, ()) = laws_markPutS_k N x0 x1 := by kernel_rfl
theorem laws_markPutS_o : Known Try.prog 107 ⟨[.bor (.row true T167), .val (.int .i64)], [(.int .i64)], (.pair (.int .i64) .unit), laws_markPutS⟩ := known_of (tab := tyTab) (cons := laws_markPutS_s) (segs := [(0, ⟨laws_markPutS_P0, laws_markPutS_O0, [], [], laws_markPutS_k0 fuel⟩)]) (n := fuel) mixed_ok tab_ok (.cons laws_markText_o .nil) Try.func107 (by kernel_rfl) ⟨⟨fun _ _ => rfl, fun n k x => laws_markPutS_r0 fuel n k x⟩, trivial⟩ (fun x => laws_markPutS_f_eq fuel x.1 x.2.1)
def laws_markDisk_k (N : Nat) (x0 : ((List ByteArray) × (List (Int × ByteArray × Unit)) × Unit)) (x1 : Int) : Option ((((List ByteArray) × (List (Int × ByteArray × Unit)) × Unit) × Unit) × (Int × Unit)) :=
  obind (laws_markStringS (x0.1, x1, ())) fun v0 =>
  obind (laws_markPutS (x0.2.1, v0.2.1, ())) fun v1 =>
  some (((v0.1.1, v1.1.1, ()), ()), v1.2.1, ())
def laws_markDisk (x : (((List ByteArray) × (List (Int × ByteArray × Unit)) × Unit) × Int × Unit)) : Option ((((List ByteArray) × (List (Int × ByteArray × Unit)) × Unit) × Unit) × (Int × Unit)) := laws_markDisk_k fuel x.1 x.2.1
def laws_markDisk_s : List (Nat × Con) := [(106, ⟨[.bor (.row true .str), .val (.int .i64)], [(.int .i64)], (.pair (.int .i64) .unit), laws_markStringS⟩), (107, ⟨[.bor (.row true T167), .val (.int .i64)], [(.int .i64)], (.pair (.int .i64) .unit), laws_markPutS⟩)]
def laws_markDisk_E : Env := ⟨fun j => (look tyTab j).getD .unit, fun j => look laws_markDisk_s j⟩
theorem laws_markDisk_f_eq (N : Nat) (x0 : ((List ByteArray) × (List (Int × ByteArray × Unit)) × Unit)) (x1 : Int) : funK laws_markDisk_E Try.f41 [.bor T55, .val (.int .i64)] [(.int .i64)] (.pair (.int .i64) .unit) (fun i => look [] i) N (x0, x1, ()) = laws_markDisk_k N x0 x1 := by kernel_rfl
theorem laws_markDisk_o : Known Try.prog 41 ⟨[.bor T55, .val (.int .i64)], [(.int .i64)], (.pair (.int .i64) .unit), laws_markDisk⟩ := known_of (tab := tyTab) (cons := laws_markDisk_s) (segs := []) (n := fuel) mixed_ok tab_ok (.cons laws_markStringS_o (.cons laws_markPutS_o .nil)) Try.func41 (by kernel_rfl) trivial (fun x => laws_markDisk_f_eq fuel x.1 x.2.1)
def laws_heldStringS_P0 : Tpl := ⟨[(0, .one (.leaf (.row false .str))), (1, .one (.leaf (.int .i64))), (5, .one (.leaf (.int .i64)))], [], []⟩
def laws_heldStringS_O0 : Tpl := ⟨[(1, .one (.leaf (.int .i64)))], [], []⟩
def laws_heldStringS_k0 (N : Nat) : Nat → (((Int × Unit) × (Unit × Unit)) → Option (Unit × (Int × Unit))) → (((List ByteArray) × Int × Int × Unit) × (Unit × Unit)) → Option (Unit × (Int × Unit))
  | 0, _, _ => none
  | n + 1, k, x =>
    tb (ilt x.1.2.2.1 (((llen x.1.1) : Nat) : Int))
    (chk (0 ≤ x.1.2.2.1) (obind (at? x.1.1 (Int.toNat x.1.2.2.1)) fun v0 =>
        obind (laws_markText (x.1.2.1, ())) fun v1 =>
        tb (bnot (seq v0 v1.2.1))
        (some ((), (-1), ()))
        (laws_heldStringS_k0 N n k ((x.1.1, (wr .i64 (x.1.2.1 + 1)), (wr .i64 (x.1.2.2.1 + 1)), ()), (), ()))) (none))
    (k ((x.1.2.1, ()), (), ()))
def laws_heldStringS_k (N : Nat) (x0 : (List ByteArray)) (x1 : Int) : Option (Unit × (Int × Unit)) :=
  laws_heldStringS_k0 N N (fun v0 =>
    some ((), v0.1.1, ())) ((x0, x1, 0, ()), (), ())
def laws_heldStringS (x : ((List ByteArray) × Int × Unit)) : Option (Unit × (Int × Unit)) := laws_heldStringS_k fuel x.1 x.2.1
def laws_heldStringS_s : List (Nat × Con) := [(84, ⟨[.val (.int .i64)], [.str], (.pair .str .unit), laws_markText⟩)]
def laws_heldStringS_E : Env := ⟨fun j => (look tyTab j).getD .unit, fun j => look laws_heldStringS_s j⟩
theorem laws_heldStringS_r0 (N n : Nat) (k : laws_heldStringS_O0.ty.den → Option (Unit × (Int × Unit))) (x : laws_heldStringS_P0.ty.den) : roundK laws_heldStringS_E ⟨Try.f108.ntmps, N, (fun i => look [(0, ⟨laws_heldStringS_P0, laws_heldStringS_O0, [], [], laws_heldStringS_k0 N⟩)] i), retK laws_heldStringS_E Try.f108 [.val (.row false .str), .val (.int .i64)] [(.int .i64)] (.pair (.int .i64) .unit)⟩ (Try.f108.body.getD .skip) 0 ⟨laws_heldStringS_P0, laws_heldStringS_O0, [], [], laws_heldStringS_k0 N⟩ (laws_heldStringS_k0 N n k) k x = laws_heldStringS_k0 N (n + 1) k x := by kernel_rfl
theorem laws_heldStringS_f_eq (N : Nat) (x0 : (List ByteArray)) (x1 : Int) : funK laws_heldStringS_E Try.f108 [.val (.row false .str), .val (.int .i64)] [(.int .i64)] (.pair (.int .i64) .unit) (fun i => look [(0, ⟨laws_heldStringS_P0, laws_heldStringS_O0, [], [], laws_heldStringS_k0 N⟩)] i) N (x0, x1, ()) = laws_heldStringS_k N x0 x1 := by kernel_rfl
theorem laws_heldStringS_o : Known Try.prog 108 ⟨[.val (.row false .str), .val (.int .i64)], [(.int .i64)], (.pair (.int .i64) .unit), laws_heldStringS⟩ := known_of (tab := tyTab) (cons := laws_heldStringS_s) (segs := [(0, ⟨laws_heldStringS_P0, laws_heldStringS_O0, [], [], laws_heldStringS_k0 fuel⟩)]) (n := fuel) mixed_ok tab_ok (.cons laws_markText_o .nil) Try.func108 (by kernel_rfl) ⟨⟨fun _ _ => rfl, fun n k x => laws_heldStringS_r0 fuel n k x⟩, trivial⟩ (fun x => laws_heldStringS_f_eq fuel x.1 x.2.1)
def laws_heldPutS_P0 : Tpl := ⟨[(0, .one (.leaf (.row false (.pair (.int .i64) (.pair .str .unit))))), (1, .one (.leaf (.int .i64))), (5, .one (.leaf (.int .i64)))], [], []⟩
def laws_heldPutS_O0 : Tpl := ⟨[(1, .one (.leaf (.int .i64)))], [], []⟩
def laws_heldPutS_k0 (N : Nat) : Nat → (((Int × Unit) × (Unit × Unit)) → Option (Unit × (Int × Unit))) → (((List (Int × (ByteArray × Unit))) × Int × Int × Unit) × (Unit × Unit)) → Option (Unit × (Int × Unit))
  | 0, _, _ => none
  | n + 1, k, x =>
    tb (ilt x.1.2.2.1 (((llen x.1.1) : Nat) : Int))
    (chk (0 ≤ x.1.2.2.1) (obind (at? x.1.1 (Int.toNat x.1.2.2.1)) fun v0 =>
        tb (bnot (ieq v0.1 x.1.2.1))
        (some ((), (-1), ()))
        (chk (0 ≤ x.1.2.2.1) (obind (at? x.1.1 (Int.toNat x.1.2.2.1)) fun v1 =>
            obind (laws_markText ((wr .i64 (x.1.2.1 + 1)), ())) fun v2 =>
            tb (bnot (seq v1.2.1 v2.2.1))
            (some ((), (-1), ()))
            (laws_heldPutS_k0 N n k ((x.1.1, (wr .i64 ((wr .i64 (x.1.2.1 + 1)) + 1)), (wr .i64 (x.1.2.2.1 + 1)), ()), (), ()))) (none))) (none))
    (k ((x.1.2.1, ()), (), ()))
def laws_heldPutS_k (N : Nat) (x0 : (List (Int × ByteArray × Unit))) (x1 : Int) : Option (Unit × (Int × Unit)) :=
  laws_heldPutS_k0 N N (fun v0 =>
    some ((), v0.1.1, ())) ((x0, x1, 0, ()), (), ())
def laws_heldPutS (x : ((List (Int × ByteArray × Unit)) × Int × Unit)) : Option (Unit × (Int × Unit)) := laws_heldPutS_k fuel x.1 x.2.1
def laws_heldPutS_s : List (Nat × Con) := [(84, ⟨[.val (.int .i64)], [.str], (.pair .str .unit), laws_markText⟩)]
def laws_heldPutS_E : Env := ⟨fun j => (look tyTab j).getD .unit, fun j => look laws_heldPutS_s j⟩
theorem laws_heldPutS_r0 (N n : Nat) (k : laws_heldPutS_O0.ty.den → Option (Unit × (Int × Unit))) (x : laws_heldPutS_P0.ty.den) : roundK laws_heldPutS_E ⟨Try.f109.ntmps, N, (fun i => look [(0, ⟨laws_heldPutS_P0, laws_heldPutS_O0, [], [], laws_heldPutS_k0 N⟩)] i), retK laws_heldPutS_E Try.f109 [.val (.row false S167), .val (.int .i64)] [(.int .i64)] (.pair (.int .i64) .unit)⟩ (Try.f109.body.getD .skip) 0 ⟨laws_heldPutS_P0, laws_heldPutS_O0, [], [], laws_heldPutS_k0 N⟩ (laws_heldPutS_k0 N n k) k x = laws_heldPutS_k0 N (n + 1) k x := by kernel_rfl
theorem laws_heldPutS_f_eq (N : Nat) (x0 : (List (Int × ByteArray × Unit))) (x1 : Int) : funK laws_heldPutS_E Try.f109 [.val (.row false S167), .val (.int .i64)] [(.int .i64)] (.pair (.int .i64) .unit) (fun i => look [(0, ⟨laws_heldPutS_P0, laws_heldPutS_O0, [], [], laws_heldPutS_k0 N⟩)] i) N (x0, x1, ()) = laws_heldPutS_k N x0 x1 := by kernel_rfl
theorem laws_heldPutS_o : Known Try.prog 109 ⟨[.val (.row false S167), .val (.int .i64)], [(.int .i64)], (.pair (.int .i64) .unit), laws_heldPutS⟩ := known_of (tab := tyTab) (cons := laws_heldPutS_s) (segs := [(0, ⟨laws_heldPutS_P0, laws_heldPutS_O0, [], [], laws_heldPutS_k0 fuel⟩)]) (n := fuel) mixed_ok tab_ok (.cons laws_markText_o .nil) Try.func109 (by kernel_rfl) ⟨⟨fun _ _ => rfl, fun n k x => laws_heldPutS_r0 fuel n k x⟩, trivial⟩ (fun x => laws_heldPutS_f_eq fuel x.1 x.2.1)
def laws_heldDisk_k (N : Nat) (x0 : ((List ByteArray) × (List (Int × ByteArray × Unit)) × Unit)) (x1 : Int) : Option (Unit × (Int × Unit)) :=
  obind (laws_heldStringS (x0.1, x1, ())) fun v0 =>
  tb (ilt v0.2.1 0)
  (some ((), (-1), ()))
  (obind (laws_heldPutS (x0.2.1, v0.2.1, ())) fun v1 =>
    tb (ilt v1.2.1 0)
    (some ((), (-1), ()))
    (some ((), v1.2.1, ())))
def laws_heldDisk (x : (((List ByteArray) × (List (Int × ByteArray × Unit)) × Unit) × Int × Unit)) : Option (Unit × (Int × Unit)) := laws_heldDisk_k fuel x.1 x.2.1
def laws_heldDisk_s : List (Nat × Con) := [(108, ⟨[.val (.row false .str), .val (.int .i64)], [(.int .i64)], (.pair (.int .i64) .unit), laws_heldStringS⟩), (109, ⟨[.val (.row false S167), .val (.int .i64)], [(.int .i64)], (.pair (.int .i64) .unit), laws_heldPutS⟩)]
def laws_heldDisk_E : Env := ⟨fun j => (look tyTab j).getD .unit, fun j => look laws_heldDisk_s j⟩
theorem laws_heldDisk_f_eq (N : Nat) (x0 : ((List ByteArray) × (List (Int × ByteArray × Unit)) × Unit)) (x1 : Int) : funK laws_heldDisk_E Try.f42 [.val S55, .val (.int .i64)] [(.int .i64)] (.pair (.int .i64) .unit) (fun i => look [] i) N (x0, x1, ()) = laws_heldDisk_k N x0 x1 := by kernel_rfl
theorem laws_heldDisk_o : Known Try.prog 42 ⟨[.val S55, .val (.int .i64)], [(.int .i64)], (.pair (.int .i64) .unit), laws_heldDisk⟩ := known_of (tab := tyTab) (cons := laws_heldDisk_s) (segs := []) (n := fuel) mixed_ok tab_ok (.cons laws_heldStringS_o (.cons laws_heldPutS_o .nil)) Try.func42 (by kernel_rfl) trivial (fun x => laws_heldDisk_f_eq fuel x.1 x.2.1)
def laws_FnExactAreaPut_k (N : Nat) (x0 : ((List ByteArray) × (List (Int × ByteArray × Unit)) × Unit)) (x1 : Int) (x2 : Int) (x3 : (List Int)) : Option (Unit × (Bool × Unit)) :=
  tb (ilt 1048576 (((llen x3) : Nat) : Int))
  (some ((), true, ()))
  (obind (laws_szDisk ((x0.1, x0.2.1, ()), 1048576, ())) fun v0 =>
    tb (ilt v0.2.1 0)
    (some ((), true, ()))
    (obind (laws_toDisk ((x0.1, x0.2.1, ()), ())) fun v1 =>
      obind (laws_toByteS (x3, ())) fun v2 =>
      obind (spec_AreaPut ((v1.2.1.1, v1.2.1.2.1, ()), x1, x2, v2.2.1, ())) fun v3 =>
      obind (laws_toDisk ((x0.1, x0.2.1, ()), ())) fun v4 =>
      obind (laws_toByteS (x3, ())) fun v5 =>
      obind (impl_AreaPut ((v4.2.1.1, v4.2.1.2.1, ()), x1, x2, v5.2.1, ())) fun v6 =>
      obind (laws_eqDisk ((v6.2.1.1, v6.2.1.2.1, ()), (v3.2.1.1, v3.2.1.2.1, ()), ())) fun v7 =>
      tb (bnot v7.2.1)
      (some ((), false, ()))
      (tb (bnot (beq v6.2.2.1 v3.2.2.1))
        (some ((), false, ()))
        (obind (laws_toDisk ((x0.1, x0.2.1, ()), ())) fun v8 =>
          obind (laws_eqDisk ((v4.2.1.1, v4.2.1.2.1, ()), (v8.2.1.1, v8.2.1.2.1, ()), ())) fun v9 =>
          tb (bnot v9.2.1)
          (some ((), false, ()))
          (obind (laws_toByteS (x3, ())) fun v10 =>
            obind (laws_eqByteS (v5.2.1, v10.2.1, ())) fun v11 =>
            tb (bnot v11.2.1)
            (some ((), false, ()))
            (obind (laws_markDisk ((v4.2.1.1, v4.2.1.2.1, ()), 1, ())) fun v12 =>
              obind (laws_markByteS (v5.2.1, v12.2.1, ())) fun v13 =>
              tb (ilt v13.2.1 0)
              (some ((), false, ()))
              (obind (laws_eqDisk ((v6.2.1.1, v6.2.1.2.1, ()), (v3.2.1.1, v3.2.1.2.1, ()), ())) fun v14 =>
                tb (bnot v14.2.1)
                (some ((), false, ()))
                (tb (bnot (beq v6.2.2.1 v3.2.2.1))
                  (some ((), false, ()))
                  (obind (laws_markDisk ((v6.2.1.1, v6.2.1.2.1, ()), 1, ())) fun v15 =>
                    obind (laws_heldDisk ((v15.1.1.1, v15.1.1.2.1, ()), 1, ())) fun v16 =>
                    tb (ilt v16.2.1 0)
                    (some ((), false, ()))
                    (tb (bnot (ieq v16.2.1 v15.2.1))
                      (some ((), false, ()))
                      (obind (laws_toDisk ((x0.1, x0.2.1, ()), ())) fun v17 =>
                        obind (laws_toByteS (x3, ())) fun v18 =>
                        obind (impl_AreaPut ((v17.2.1.1, v17.2.1.2.1, ()), x1, x2, v18.2.1, ())) fun v19 =>
                        obind (laws_eqDisk ((v19.2.1.1, v19.2.1.2.1, ()), (v3.2.1.1, v3.2.1.2.1, ()), ())) fun v20 =>
                        tb (bnot v20.2.1)
                        (some ((), false, ()))
                        (tb (bnot (beq v19.2.2.1 v3.2.2.1))
                          (some ((), false, ()))
                          (obind (laws_heldDisk ((v15.1.1.1, v15.1.1.2.1, ()), 1, ())) fun v21 =>
                            tb (ilt v21.2.1 0)
                            (some ((), false, ()))
                            (tb (bnot (ieq v21.2.1 v15.2.1))
                              (some ((), false, ()))
                              (some ((), true, ()))))))))))))))))
def laws_FnExactAreaPut (x : (((List ByteArray) × (List (Int × ByteArray × Unit)) × Unit) × Int × Int × (List Int) × Unit)) : Option (Unit × (Bool × Unit)) := laws_FnExactAreaPut_k fuel x.1 x.2.1 x.2.2.1 x.2.2.2.1
def laws_FnExactAreaPut_s : List (Nat × Con) := [(23, ⟨[.val (.row false (.int .u8))], [(.row true (.int .u8))], (.pair (.row true (.int .u8)) .unit), laws_toByteS⟩), (25, ⟨[.val (.row false (.int .u8)), .val (.row false (.int .u8))], [.bool], (.pair .bool .unit), laws_eqByteS⟩), (26, ⟨[.bor (.row true (.int .u8)), .val (.int .i64)], [(.int .i64)], (.pair (.int .i64) .unit), laws_markByteS⟩), (36, ⟨[.val S51, .val (.int .i64)], [(.int .i64)], (.pair (.int .i64) .unit), laws_szDisk⟩), (37, ⟨[.val S55, .val (.int .i64), .val (.int .i64), .val (.row false (.int .u8))], [T55, .bool], (.pair T55 (.pair .bool .unit)), spec_AreaPut⟩), (38, ⟨[.val S51], [T55], (.pair T55 .unit), laws_toDisk⟩), (39, ⟨[.val S55, .val (.int .i64), .val (.int .i64), .val (.row false (.int .u8))], [T55, .bool], (.pair T55 (.pair .bool .unit)), impl_AreaPut⟩), (40, ⟨[.val S55, .val S55], [.bool], (.pair .bool .unit), laws_eqDisk⟩), (41, ⟨[.bor T55, .val (.int .i64)], [(.int .i64)], (.pair (.int .i64) .unit), laws_markDisk⟩), (42, ⟨[.val S55, .val (.int .i64)], [(.int .i64)], (.pair (.int .i64) .unit), laws_heldDisk⟩)]
def laws_FnExactAreaPut_E : Env := ⟨fun j => (look tyTab j).getD .unit, fun j => look laws_FnExactAreaPut_s j⟩
theorem laws_FnExactAreaPut_f_eq (N : Nat) (x0 : ((List ByteArray) × (List (Int × ByteArray × Unit)) × Unit)) (x1 : Int) (x2 : Int) (x3 : (List Int)) : funK laws_FnExactAreaPut_E Try.f6 [.val S51, .val (.int .i64), .val (.int .i64), .val (.row false (.int .u8))] [.bool] (.pair .bool .unit) (fun i => look [] i) N (x0, x1, x2, x3, ()) = laws_FnExactAreaPut_k N x0 x1 x2 x3 := by kernel_rfl
theorem laws_FnExactAreaPut_o : Known Try.prog 6 ⟨[.val S51, .val (.int .i64), .val (.int .i64), .val (.row false (.int .u8))], [.bool], (.pair .bool .unit), laws_FnExactAreaPut⟩ := known_of (tab := tyTab) (cons := laws_FnExactAreaPut_s) (segs := []) (n := fuel) mixed_ok tab_ok (.cons laws_toByteS_o (.cons laws_eqByteS_o (.cons laws_markByteS_o (.cons laws_szDisk_o (.cons spec_AreaPut_o (.cons laws_toDisk_o (.cons impl_AreaPut_o (.cons laws_eqDisk_o (.cons laws_markDisk_o (.cons laws_heldDisk_o .nil)))))))))) Try.func6 (by kernel_rfl) trivial (fun x => laws_FnExactAreaPut_f_eq fuel x.1 x.2.1 x.2.2.1 x.2.2.2.1)
def spec_PutNum_P0 : Tpl := ⟨[(0, .one (.leaf (.int .i64))), (3, .one (.fix (.ref 10000 [] none)))], [], [(10000, (.int .u8))]⟩
def spec_PutNum_O0 : Tpl := ⟨[(0, .one (.leaf (.int .i64))), (3, .one (.fix (.ref 10500 [] none)))], [], [(10500, (.int .u8))]⟩
def spec_PutNum_k0 (N : Nat) : Nat → (((Int × Unit) × (Unit × ((List Int) × Unit))) → Option (Unit × ((List Int) × Unit))) → ((Int × Unit) × (Unit × ((List Int) × Unit))) → Option (Unit × ((List Int) × Unit))
  | 0, _, _ => none
  | n + 1, k, x =>
    tb (ilt 127 x.1.1)
    (chk ((128 : Int) = 0) (none) (chk ((plus (llen x.2.2.1) (llen [(wr .u8 (wr .i64 ((Int.tmod x.1.1 128) + 128)))])) ≤ 140737488355328) (chk ((128 : Int) = 0) (none) (spec_PutNum_k0 N n k (((wr .i64 (Int.tdiv x.1.1 128)), ()), (), (lapp x.2.2.1 [(wr .u8 (wr .i64 ((Int.tmod x.1.1 128) + 128)))]), ()))) (none)))
    (k ((x.1.1, ()), (), x.2.2.1, ()))
def spec_PutNum_k (N : Nat) (x0 : Int) : Option (Unit × ((List Int) × Unit)) :=
  tb (ilt x0 0)
  (some ((), [], ()))
  (spec_PutNum_k0 N N (fun v0 =>
      chk ((plus (llen v0.2.2.1) (llen [(wr .u8 v0.1.1)])) ≤ 140737488355328) (some ((), (lapp v0.2.2.1 [(wr .u8 v0.1.1)]), ())) (none)) ((x0, ()), (), [], ()))
def spec_PutNum (x : (Int × Unit)) : Option (Unit × ((List Int) × Unit)) := spec_PutNum_k fuel x.1
def spec_PutNum_s : List (Nat × Con) := []
def spec_PutNum_E : Env := ⟨fun j => (look tyTab j).getD .unit, fun j => look spec_PutNum_s j⟩
theorem spec_PutNum_r0 (N n : Nat) (k : spec_PutNum_O0.ty.den → Option (Unit × ((List Int) × Unit))) (x : spec_PutNum_P0.ty.den) : roundK spec_PutNum_E ⟨Try.f77.ntmps, N, (fun i => look [(0, ⟨spec_PutNum_P0, spec_PutNum_O0, [.tmp 3 10000 (.int .u8)], [.tmp 3 10500 (.int .u8)], spec_PutNum_k0 N⟩)] i), retK spec_PutNum_E Try.f77 [.val (.int .i64)] [(.row true (.int .u8))] (.pair (.row true (.int .u8)) .unit)⟩ (Try.f77.body.getD .skip) 0 ⟨spec_PutNum_P0, spec_PutNum_O0, [.tmp 3 10000 (.int .u8)], [.tmp 3 10500 (.int .u8)], spec_PutNum_k0 N⟩ (spec_PutNum_k0 N n k) k x = spec_PutNum_k0 N (n + 1) k x := by kernel_rfl
theorem spec_PutNum_f_eq (N : Nat) (x0 : Int) : funK spec_PutNum_E Try.f77 [.val (.int .i64)] [(.row true (.int .u8))] (.pair (.row true (.int .u8)) .unit) (fun i => look [(0, ⟨spec_PutNum_P0, spec_PutNum_O0, [.tmp 3 10000 (.int .u8)], [.tmp 3 10500 (.int .u8)], spec_PutNum_k0 N⟩)] i) N (x0, ()) = spec_PutNum_k N x0 := by kernel_rfl
theorem spec_PutNum_o : Known Try.prog 77 ⟨[.val (.int .i64)], [(.row true (.int .u8))], (.pair (.row true (.int .u8)) .unit), spec_PutNum⟩ := known_of (tab := tyTab) (cons := spec_PutNum_s) (segs := [(0, ⟨spec_PutNum_P0, spec_PutNum_O0, [.tmp 3 10000 (.int .u8)], [.tmp 3 10500 (.int .u8)], spec_PutNum_k0 fuel⟩)]) (n := fuel) mixed_ok tab_ok .nil Try.func77 (by kernel_rfl) ⟨⟨fun _ _ => rfl, fun n k x => spec_PutNum_r0 fuel n k x⟩, trivial⟩ (fun x => spec_PutNum_f_eq fuel x.1)
def spec_l16Right_k (N : Nat) (x0 : (Int × Int × Int × Unit)) : Option (Unit × (Bool × Unit)) :=
  obind (spec_l1In (x0.1, 1, 1000000000, ())) fun v0 =>
  tb v0.2.1
  (obind (spec_l1In (x0.2.1, 0, 1, ())) fun v1 =>
    tb v1.2.1
    (obind (spec_l1In (x0.2.2.1, 0, 4096, ())) fun v2 =>
      some ((), v2.2.1, ()))
    (some ((), false, ())))
  (some ((), false, ()))
def spec_l16Right (x : ((Int × Int × Int × Unit) × Unit)) : Option (Unit × (Bool × Unit)) := spec_l16Right_k fuel x.1
def spec_l16Right_s : List (Nat × Con) := [(96, ⟨[.val (.int .i64), .val (.int .i64), .val (.int .i64)], [.bool], (.pair .bool .unit), spec_l1In⟩)]
def spec_l16Right_E : Env := ⟨fun j => (look tyTab j).getD .unit, fun j => look spec_l16Right_s j⟩
theorem spec_l16Right_f_eq (N : Nat) (x0 : (Int × Int × Int × Unit)) : funK spec_l16Right_E Try.f121 [.val S69] [.bool] (.pair .bool .unit) (fun i => look [] i) N (x0, ()) = spec_l16Right_k N x0 := by kernel_rfl
theorem spec_l16Right_o : Known Try.prog 121 ⟨[.val S69], [.bool], (.pair .bool .unit), spec_l16Right⟩ := known_of (tab := tyTab) (cons := spec_l16Right_s) (segs := []) (n := fuel) mixed_ok tab_ok (.cons spec_l1In_o .nil) Try.func121 (by kernel_rfl) trivial (fun x => spec_l16Right_f_eq fuel x.1)
def spec_HeadPack_P0 : Tpl := ⟨[(4, .one (.fix (.ref 10000 [] none)))], [], [(10000, (.int .u8))]⟩
def spec_HeadPack_O0 : Tpl := ⟨[(4, .one (.fix (.ref 10500 [] none)))], [], [(10500, (.int .u8))]⟩
def spec_HeadPack_k0 (N : Nat) : Nat → ((Unit × (Unit × ((List Int) × Unit))) → Option (Unit × (ByteArray × Bool × Unit))) → (Unit × (Unit × ((List Int) × Unit))) → Option (Unit × (ByteArray × Bool × Unit))
  | 0, _, _ => none
  | n + 1, k, x =>
    tb (ilt (((llen x.2.2.1) : Nat) : Int) 64)
    (chk ((plus (llen x.2.2.1) (llen [0])) ≤ 140737488355328) (spec_HeadPack_k0 N n k ((), (), (lapp x.2.2.1 [0]), ())) (none))
    (k ((), (), x.2.2.1, ()))
def spec_HeadPack_k (N : Nat) (x0 : (Int × Int × Int × Unit)) : Option (Unit × (ByteArray × Bool × Unit)) :=
  obind (spec_l16Right ((x0.1, x0.2.1, x0.2.2.1, ()), ())) fun v0 =>
  tb (bnot v0.2.1)
  (some ((), (⟨#[]⟩ : ByteArray), false, ()))
  (obind (spec_PutNum (x0.1, ())) fun v1 =>
    obind (spec_PutNum (x0.2.1, ())) fun v2 =>
    chk ((plus (llen v1.2.1) (llen v2.2.1)) ≤ 140737488355328) (obind (spec_PutNum (x0.2.2.1, ())) fun v3 =>
      chk ((plus (llen (lapp v1.2.1 v2.2.1)) (llen v3.2.1)) ≤ 140737488355328) (spec_HeadPack_k0 N N (fun v4 =>
          some ((), (strOf v4.2.2.1), true, ())) ((), (), (lapp (lapp v1.2.1 v2.2.1) v3.2.1), ())) (none)) (none))
def spec_HeadPack (x : ((Int × Int × Int × Unit) × Unit)) : Option (Unit × (ByteArray × Bool × Unit)) := spec_HeadPack_k fuel x.1
def spec_HeadPack_s : List (Nat × Con) := [(77, ⟨[.val (.int .i64)], [(.row true (.int .u8))], (.pair (.row true (.int .u8)) .unit), spec_PutNum⟩), (121, ⟨[.val S69], [.bool], (.pair .bool .unit), spec_l16Right⟩)]
def spec_HeadPack_E : Env := ⟨fun j => (look tyTab j).getD .unit, fun j => look spec_HeadPack_s j⟩
theorem spec_HeadPack_r0 (N n : Nat) (k : spec_HeadPack_O0.ty.den → Option (Unit × (ByteArray × Bool × Unit))) (x : spec_HeadPack_P0.ty.den) : roundK spec_HeadPack_E ⟨Try.f60.ntmps, N, (fun i => look [(0, ⟨spec_HeadPack_P0, spec_HeadPack_O0, [.tmp 4 10000 (.int .u8)], [.tmp 4 10500 (.int .u8)], spec_HeadPack_k0 N⟩)] i), retK spec_HeadPack_E Try.f60 [.val S69] [.str, .bool] (.pair .str (.pair .bool .unit))⟩ (Try.f60.body.getD .skip) 0 ⟨spec_HeadPack_P0, spec_HeadPack_O0, [.tmp 4 10000 (.int .u8)], [.tmp 4 10500 (.int .u8)], spec_HeadPack_k0 N⟩ (spec_HeadPack_k0 N n k) k x = spec_HeadPack_k0 N (n + 1) k x := by kernel_rfl
theorem spec_HeadPack_f_eq (N : Nat) (x0 : (Int × Int × Int × Unit)) : funK spec_HeadPack_E Try.f60 [.val S69] [.str, .bool] (.pair .str (.pair .bool .unit)) (fun i => look [(0, ⟨spec_HeadPack_P0, spec_HeadPack_O0, [.tmp 4 10000 (.int .u8)], [.tmp 4 10500 (.int .u8)], spec_HeadPack_k0 N⟩)] i) N (x0, ()) = spec_HeadPack_k N x0 := by kernel_rfl
theorem spec_HeadPack_o : Known Try.prog 60 ⟨[.val S69], [.str, .bool], (.pair .str (.pair .bool .unit)), spec_HeadPack⟩ := known_of (tab := tyTab) (cons := spec_HeadPack_s) (segs := [(0, ⟨spec_HeadPack_P0, spec_HeadPack_O0, [.tmp 4 10000 (.int .u8)], [.tmp 4 10500 (.int .u8)], spec_HeadPack_k0 fuel⟩)]) (n := fuel) mixed_ok tab_ok (.cons spec_PutNum_o (.cons spec_l16Right_o .nil)) Try.func60 (by kernel_rfl) ⟨⟨fun _ _ => rfl, fun n k x => spec_HeadPack_r0 fuel n k x⟩, trivial⟩ (fun x => spec_HeadPack_f_eq fuel x.1)
def spec_HeadPut_k (N : Nat) (x0 : ((List ByteArray) × (List (Int × ByteArray × Unit)) × Unit)) (x1 : (Int × Int × Int × Unit)) : Option (Unit × (((List ByteArray) × (List (Int × ByteArray × Unit)) × Unit) × Bool × Unit)) :=
  obind (spec_DiskOk ((x0.1, x0.2.1, ()), ())) fun v0 =>
  tb (bnot v0.2.1)
  (some ((), ([], [], ()), false, ()))
  (obind (spec_HeadPack ((x1.1, x1.2.1, x1.2.2.1, ()), ())) fun v1 =>
    tb (bnot v1.2.2.1)
    (obind (spec_l15Copy ((x0.1, x0.2.1, ()), ())) fun v2 =>
      some ((), (v2.2.1.1, v2.2.1.2.1, ()), false, ()))
    (chk ((2 : Int) = 0) (none) (obind (spec_DiskPut ((x0.1, x0.2.1, ()), (Int.tmod x1.1 2), v1.2.1, ())) fun v3 =>
        some ((), (v3.2.1.1, v3.2.1.2.1, ()), v3.2.2.1, ()))))
def spec_HeadPut (x : (((List ByteArray) × (List (Int × ByteArray × Unit)) × Unit) × (Int × Int × Int × Unit) × Unit)) : Option (Unit × (((List ByteArray) × (List (Int × ByteArray × Unit)) × Unit) × Bool × Unit)) := spec_HeadPut_k fuel x.1 x.2.1
def spec_HeadPut_s : List (Nat × Con) := [(60, ⟨[.val S69], [.str, .bool], (.pair .str (.pair .bool .unit)), spec_HeadPack⟩), (93, ⟨[.val S55], [.bool], (.pair .bool .unit), spec_DiskOk⟩), (94, ⟨[.val S55], [T55], (.pair T55 .unit), spec_l15Copy⟩), (98, ⟨[.val S55, .val (.int .i64), .val .str], [T55, .bool], (.pair T55 (.pair .bool .unit)), spec_DiskPut⟩)]
def spec_HeadPut_E : Env := ⟨fun j => (look tyTab j).getD .unit, fun j => look spec_HeadPut_s j⟩
theorem spec_HeadPut_f_eq (N : Nat) (x0 : ((List ByteArray) × (List (Int × ByteArray × Unit)) × Unit)) (x1 : (Int × Int × Int × Unit)) : funK spec_HeadPut_E Try.f50 [.val S55, .val S69] [T55, .bool] (.pair T55 (.pair .bool .unit)) (fun i => look [] i) N (x0, x1, ()) = spec_HeadPut_k N x0 x1 := by kernel_rfl
theorem spec_HeadPut_o : Known Try.prog 50 ⟨[.val S55, .val S69], [T55, .bool], (.pair T55 (.pair .bool .unit)), spec_HeadPut⟩ := known_of (tab := tyTab) (cons := spec_HeadPut_s) (segs := []) (n := fuel) mixed_ok tab_ok (.cons spec_HeadPack_o (.cons spec_DiskOk_o (.cons spec_l15Copy_o (.cons spec_DiskPut_o .nil)))) Try.func50 (by kernel_rfl) trivial (fun x => spec_HeadPut_f_eq fuel x.1 x.2.1)
def laws_toHead_k (N : Nat) (x0 : (Int × Int × Int × Unit)) : Option (Unit × ((Int × Int × Int × Unit) × Unit)) :=
  some ((), (x0.1, x0.2.1, x0.2.2.1, ()), ())
def laws_toHead (x : ((Int × Int × Int × Unit) × Unit)) : Option (Unit × ((Int × Int × Int × Unit) × Unit)) := laws_toHead_k fuel x.1
def laws_toHead_s : List (Nat × Con) := []
def laws_toHead_E : Env := ⟨fun j => (look tyTab j).getD .unit, fun j => look laws_toHead_s j⟩
theorem laws_toHead_f_eq (N : Nat) (x0 : (Int × Int × Int × Unit)) : funK laws_toHead_E Try.f51 [.val S73] [T69] (.pair T69 .unit) (fun i => look [] i) N (x0, ()) = laws_toHead_k N x0 := by kernel_rfl
theorem laws_toHead_o : Known Try.prog 51 ⟨[.val S73], [T69], (.pair T69 .unit), laws_toHead⟩ := known_of (tab := tyTab) (cons := laws_toHead_s) (segs := []) (n := fuel) mixed_ok tab_ok .nil Try.func51 (by kernel_rfl) trivial (fun x => laws_toHead_f_eq fuel x.1)
def impl_putNum_P0 : Tpl := ⟨[(0, .one (.fix (.ref 10000 [] none))), (1, .one (.leaf (.int .i64)))], [], [(10000, (.int .u8))]⟩
def impl_putNum_O0 : Tpl := ⟨[(0, .one (.fix (.ref 10500 [] none))), (1, .one (.leaf (.int .i64)))], [], [(10500, (.int .u8))]⟩
def impl_putNum_k0 (N : Nat) : Nat → (((Int × Unit) × (Unit × ((List Int) × Unit))) → Option (Unit × ((List Int) × Unit))) → ((Int × Unit) × (Unit × ((List Int) × Unit))) → Option (Unit × ((List Int) × Unit))
  | 0, _, _ => none
  | n + 1, k, x =>
    tb (ilt 127 x.1.1)
    (chk ((plus (llen x.2.2.1) (llen [(wr .u8 (borK .i64 128 (bandK .i64 x.1.1 127)))])) ≤ 140737488355328) (chk ((7 : Int) < 0) (none) (impl_putNum_k0 N n k (((shrK .i64 x.1.1 7), ()), (), (lapp x.2.2.1 [(wr .u8 (borK .i64 128 (bandK .i64 x.1.1 127)))]), ()))) (none))
    (k ((x.1.1, ()), (), x.2.2.1, ()))
def impl_putNum_k (N : Nat) (x0 : (List Int)) (x1 : Int) : Option (Unit × ((List Int) × Unit)) :=
  impl_putNum_k0 N N (fun v0 =>
    chk ((plus (llen v0.2.2.1) (llen [(wr .u8 v0.1.1)])) ≤ 140737488355328) (some ((), (lapp v0.2.2.1 [(wr .u8 v0.1.1)]), ())) (none)) ((x1, ()), (), x0, ())
def impl_putNum (x : ((List Int) × Int × Unit)) : Option (Unit × ((List Int) × Unit)) := impl_putNum_k fuel x.1 x.2.1
def impl_putNum_s : List (Nat × Con) := []
def impl_putNum_E : Env := ⟨fun j => (look tyTab j).getD .unit, fun j => look impl_putNum_s j⟩
theorem impl_putNum_r0 (N n : Nat) (k : impl_putNum_O0.ty.den → Option (Unit × ((List Int) × Unit))) (x : impl_putNum_P0.ty.den) : roundK impl_putNum_E ⟨Try.f75.ntmps, N, (fun i => look [(0, ⟨impl_putNum_P0, impl_putNum_O0, [.tmp 0 10000 (.int .u8)], [.tmp 0 10500 (.int .u8)], impl_putNum_k0 N⟩)] i), retK impl_putNum_E Try.f75 [.own (.row true (.int .u8)), .val (.int .i64)] [(.row true (.int .u8))] (.pair (.row true (.int .u8)) .unit)⟩ (Try.f75.body.getD .skip) 0 ⟨impl_putNum_P0, impl_putNum_O0, [.tmp 0 10000 (.int .u8)], [.tmp 0 10500 (.int .u8)], impl_putNum_k0 N⟩ (impl_putNum_k0 N n k) k x = impl_putNum_k0 N (n + 1) k x := by kernel_rfl
theorem impl_putNum_f_eq (N : Nat) (x0 : (List Int)) (x1 : Int) : funK impl_putNum_E Try.f75 [.own (.row true (.int .u8)), .val (.int .i64)] [(.row true (.int .u8))] (.pair (.row true (.int .u8)) .unit) (fun i => look [(0, ⟨impl_putNum_P0, impl_putNum_O0, [.tmp 0 10000 (.int .u8)], [.tmp 0 10500 (.int .u8)], impl_putNum_k0 N⟩)] i) N (x0, x1, ()) = impl_putNum_k N x0 x1 := by kernel_rfl
theorem impl_putNum_o : Known Try.prog 75 ⟨[.own (.row true (.int .u8)), .val (.int .i64)], [(.row true (.int .u8))], (.pair (.row true (.int .u8)) .unit), impl_putNum⟩ := known_of (tab := tyTab) (cons := impl_putNum_s) (segs := [(0, ⟨impl_putNum_P0, impl_putNum_O0, [.tmp 0 10000 (.int .u8)], [.tmp 0 10500 (.int .u8)], impl_putNum_k0 fuel⟩)]) (n := fuel) mixed_ok tab_ok .nil Try.func75 (by kernel_rfl) ⟨⟨fun _ _ => rfl, fun n k x => impl_putNum_r0 fuel n k x⟩, trivial⟩ (fun x => impl_putNum_f_eq fuel x.1 x.2.1)
def impl_headOk_k (N : Nat) (x0 : (Int × Int × Int × Unit)) : Option (Unit × (Bool × Unit)) :=
  obind (impl_inRange (x0.1, 1, 1000000000, ())) fun v0 =>
  tb v0.2.1
  (obind (impl_isArea (x0.2.1, ())) fun v1 =>
    tb v1.2.1
    (obind (impl_inRange (x0.2.2.1, 0, 4096, ())) fun v2 =>
      some ((), v2.2.1, ()))
    (some ((), false, ())))
  (some ((), false, ()))
def impl_headOk (x : ((Int × Int × Int × Unit) × Unit)) : Option (Unit × (Bool × Unit)) := impl_headOk_k fuel x.1
def impl_headOk_s : List (Nat × Con) := [(73, ⟨[.val (.int .i64), .val (.int .i64), .val (.int .i64)], [.bool], (.pair .bool .unit), impl_inRange⟩), (157, ⟨[.val (.int .i64)], [.bool], (.pair .bool .unit), impl_isArea⟩)]
def impl_headOk_E : Env := ⟨fun j => (look tyTab j).getD .unit, fun j => look impl_headOk_s j⟩
theorem impl_headOk_f_eq (N : Nat) (x0 : (Int × Int × Int × Unit)) : funK impl_headOk_E Try.f119 [.val S69] [.bool] (.pair .bool .unit) (fun i => look [] i) N (x0, ()) = impl_headOk_k N x0 := by kernel_rfl
theorem impl_headOk_o : Known Try.prog 119 ⟨[.val S69], [.bool], (.pair .bool .unit), impl_headOk⟩ := known_of (tab := tyTab) (cons := impl_headOk_s) (segs := []) (n := fuel) mixed_ok tab_ok (.cons impl_inRange_o (.cons impl_isArea_o .nil)) Try.func119 (by kernel_rfl) trivial (fun x => impl_headOk_f_eq fuel x.1)
def impl_HeadPack_k (N : Nat) (x0 : (Int × Int × Int × Unit)) : Option (Unit × (ByteArray × Bool × Unit)) :=
  obind (impl_headOk ((x0.1, x0.2.1, x0.2.2.1, ()), ())) fun v0 =>
  tb (bnot v0.2.1)
  (some ((), (⟨#[]⟩ : ByteArray), false, ()))
  (obind (impl_putNum ([], x0.1, ())) fun v1 =>
    obind (impl_putNum (v1.2.1, x0.2.1, ())) fun v2 =>
    obind (impl_putNum (v2.2.1, x0.2.2.1, ())) fun v3 =>
    obind (strings_Repeat ((⟨#[0]⟩ : ByteArray), (wr .i64 (64 - (((llen v3.2.1) : Nat) : Int))), ())) fun v4 =>
    chk ((plus (slen (strOf v3.2.1)) (slen v4.2.1)) < slim) (some ((), (sapp (strOf v3.2.1) v4.2.1), true, ())) (none))
def impl_HeadPack (x : ((Int × Int × Int × Unit) × Unit)) : Option (Unit × (ByteArray × Bool × Unit)) := impl_HeadPack_k fuel x.1
def impl_HeadPack_s : List (Nat × Con) := [(75, ⟨[.own (.row true (.int .u8)), .val (.int .i64)], [(.row true (.int .u8))], (.pair (.row true (.int .u8)) .unit), impl_putNum⟩), (119, ⟨[.val S69], [.bool], (.pair .bool .unit), impl_headOk⟩), (120, ⟨[.val .str, .val (.int .i64)], [.str], (.pair .str .unit), strings_Repeat⟩)]
def impl_HeadPack_E : Env := ⟨fun j => (look tyTab j).getD .unit, fun j => look impl_HeadPack_s j⟩
theorem impl_HeadPack_f_eq (N : Nat) (x0 : (Int × Int × Int × Unit)) : funK impl_HeadPack_E Try.f59 [.val S69] [.str, .bool] (.pair .str (.pair .bool .unit)) (fun i => look [] i) N (x0, ()) = impl_HeadPack_k N x0 := by kernel_rfl
theorem impl_HeadPack_o : Known Try.prog 59 ⟨[.val S69], [.str, .bool], (.pair .str (.pair .bool .unit)), impl_HeadPack⟩ := known_of (tab := tyTab) (cons := impl_HeadPack_s) (segs := []) (n := fuel) mixed_ok tab_ok (.cons impl_putNum_o (.cons impl_headOk_o (.cons strings_Repeat_o .nil))) Try.func59 (by kernel_rfl) trivial (fun x => impl_HeadPack_f_eq fuel x.1)
def impl_Disk_putHead_k (N : Nat) (x0 : ((List ByteArray) × (List (Int × ByteArray × Unit)) × Unit)) (x1 : (Int × Int × Int × Unit)) : Option ((((List ByteArray) × (List (Int × ByteArray × Unit)) × Unit) × Unit) × (Bool × Unit)) :=
  obind (impl_HeadPack ((x1.1, x1.2.1, x1.2.2.1, ()), ())) fun v0 =>
  tb v0.2.2.1
  (chk ((2 : Int) = 0) (none) (obind (impl_Disk_put ((x0.1, x0.2.1, ()), (Int.tmod x1.1 2), v0.2.1, ())) fun v1 =>
      some (((v1.1.1.1, v1.1.1.2.1, ()), ()), v1.2.1, ())))
  (some (((x0.1, x0.2.1, ()), ()), false, ()))
def impl_Disk_putHead (x : (((List ByteArray) × (List (Int × ByteArray × Unit)) × Unit) × (Int × Int × Int × Unit) × Unit)) : Option ((((List ByteArray) × (List (Int × ByteArray × Unit)) × Unit) × Unit) × (Bool × Unit)) := impl_Disk_putHead_k fuel x.1 x.2.1
def impl_Disk_putHead_s : List (Nat × Con) := [(59, ⟨[.val S69], [.str, .bool], (.pair .str (.pair .bool .unit)), impl_HeadPack⟩), (150, ⟨[.io T55, .val (.int .i64), .val .str], [.bool], (.pair .bool .unit), impl_Disk_put⟩)]
def impl_Disk_putHead_E : Env := ⟨fun j => (look tyTab j).getD .unit, fun j => look impl_Disk_putHead_s j⟩
theorem impl_Disk_putHead_f_eq (N : Nat) (x0 : ((List ByteArray) × (List (Int × ByteArray × Unit)) × Unit)) (x1 : (Int × Int × Int × Unit)) : funK impl_Disk_putHead_E Try.f113 [.io T55, .val S69] [.bool] (.pair .bool .unit) (fun i => look [] i) N (x0, x1, ()) = impl_Disk_putHead_k N x0 x1 := by kernel_rfl
theorem impl_Disk_putHead_o : Known Try.prog 113 ⟨[.io T55, .val S69], [.bool], (.pair .bool .unit), impl_Disk_putHead⟩ := known_of (tab := tyTab) (cons := impl_Disk_putHead_s) (segs := []) (n := fuel) mixed_ok tab_ok (.cons impl_HeadPack_o (.cons impl_Disk_put_o .nil)) Try.func113 (by kernel_rfl) trivial (fun x => impl_Disk_putHead_f_eq fuel x.1 x.2.1)
def impl_HeadPut_k (N : Nat) (x0 : ((List ByteArray) × (List (Int × ByteArray × Unit)) × Unit)) (x1 : (Int × Int × Int × Unit)) : Option (Unit × (((List ByteArray) × (List (Int × ByteArray × Unit)) × Unit) × Bool × Unit)) :=
  obind (impl_DiskOk ((x0.1, x0.2.1, ()), ())) fun v0 =>
  tb (bnot v0.2.1)
  (some ((), ([], [], ()), false, ()))
  (obind (impl_copyDisk ((x0.1, x0.2.1, ()), ())) fun v1 =>
    obind (impl_Disk_putHead ((v1.2.1.1, v1.2.1.2.1, ()), (x1.1, x1.2.1, x1.2.2.1, ()), ())) fun v2 =>
    some ((), (v2.1.1.1, v2.1.1.2.1, ()), v2.2.1, ()))
def impl_HeadPut (x : (((List ByteArray) × (List (Int × ByteArray × Unit)) × Unit) × (Int × Int × Int × Unit) × Unit)) : Option (Unit × (((List ByteArray) × (List (Int × ByteArray × Unit)) × Unit) × Bool × Unit)) := impl_HeadPut_k fuel x.1 x.2.1
def impl_HeadPut_s : List (Nat × Con) := [(101, ⟨[.val S55], [.bool], (.pair .bool .unit), impl_DiskOk⟩), (102, ⟨[.val S55], [T55], (.pair T55 .unit), impl_copyDisk⟩), (113, ⟨[.io T55, .val S69], [.bool], (.pair .bool .unit), impl_Disk_putHead⟩)]
def impl_HeadPut_E : Env := ⟨fun j => (look tyTab j).getD .unit, fun j => look impl_HeadPut_s j⟩
theorem impl_HeadPut_f_eq (N : Nat) (x0 : ((List ByteArray) × (List (Int × ByteArray × Unit)) × Unit)) (x1 : (Int × Int × Int × Unit)) : funK impl_HeadPut_E Try.f52 [.val S55, .val S69] [T55, .bool] (.pair T55 (.pair .bool .unit)) (fun i => look [] i) N (x0, x1, ()) = impl_HeadPut_k N x0 x1 := by kernel_rfl
theorem impl_HeadPut_o : Known Try.prog 52 ⟨[.val S55, .val S69], [T55, .bool], (.pair T55 (.pair .bool .unit)), impl_HeadPut⟩ := known_of (tab := tyTab) (cons := impl_HeadPut_s) (segs := []) (n := fuel) mixed_ok tab_ok (.cons impl_DiskOk_o (.cons impl_copyDisk_o (.cons impl_Disk_putHead_o .nil))) Try.func52 (by kernel_rfl) trivial (fun x => impl_HeadPut_f_eq fuel x.1 x.2.1)
def laws_FnExactHeadPut_k (N : Nat) (x0 : ((List ByteArray) × (List (Int × ByteArray × Unit)) × Unit)) (x1 : (Int × Int × Int × Unit)) : Option (Unit × (Bool × Unit)) :=
  obind (laws_szDisk ((x0.1, x0.2.1, ()), 1048576, ())) fun v0 =>
  tb (ilt v0.2.1 0)
  (some ((), true, ()))
  (obind (laws_toDisk ((x0.1, x0.2.1, ()), ())) fun v1 =>
    obind (laws_toHead ((x1.1, x1.2.1, x1.2.2.1, ()), ())) fun v2 =>
    obind (spec_HeadPut ((v1.2.1.1, v1.2.1.2.1, ()), (v2.2.1.1, v2.2.1.2.1, v2.2.1.2.2.1, ()), ())) fun v3 =>
    obind (laws_toDisk ((x0.1, x0.2.1, ()), ())) fun v4 =>
    obind (laws_toHead ((x1.1, x1.2.1, x1.2.2.1, ()), ())) fun v5 =>
    obind (impl_HeadPut ((v4.2.1.1, v4.2.1.2.1, ()), (v5.2.1.1, v5.2.1.2.1, v5.2.1.2.2.1, ()), ())) fun v6 =>
    obind (laws_eqDisk ((v6.2.1.1, v6.2.1.2.1, ()), (v3.2.1.1, v3.2.1.2.1, ()), ())) fun v7 =>
    tb (bnot v7.2.1)
    (some ((), false, ()))
    (tb (bnot (beq v6.2.2.1 v3.2.2.1))
      (some ((), false, ()))
      (obind (laws_toDisk ((x0.1, x0.2.1, ()), ())) fun v8 =>
        obind (laws_eqDisk ((v4.2.1.1, v4.2.1.2.1, ()), (v8.2.1.1, v8.2.1.2.1, ()), ())) fun v9 =>
        tb (bnot v9.2.1)
        (some ((), false, ()))
        (obind (laws_markDisk ((v4.2.1.1, v4.2.1.2.1, ()), 1, ())) fun v10 =>
          tb (ilt v10.2.1 0)
          (some ((), false, ()))
          (obind (laws_eqDisk ((v6.2.1.1, v6.2.1.2.1, ()), (v3.2.1.1, v3.2.1.2.1, ()), ())) fun v11 =>
            tb (bnot v11.2.1)
            (some ((), false, ()))
            (tb (bnot (beq v6.2.2.1 v3.2.2.1))
              (some ((), false, ()))
              (obind (laws_markDisk ((v6.2.1.1, v6.2.1.2.1, ()), 1, ())) fun v12 =>
                obind (laws_heldDisk ((v12.1.1.1, v12.1.1.2.1, ()), 1, ())) fun v13 =>
                tb (ilt v13.2.1 0)
                (some ((), false, ()))
                (tb (bnot (ieq v13.2.1 v12.2.1))
                  (some ((), false, ()))
                  (obind (laws_toDisk ((x0.1, x0.2.1, ()), ())) fun v14 =>
                    obind (laws_toHead ((x1.1, x1.2.1, x1.2.2.1, ()), ())) fun v15 =>
                    obind (impl_HeadPut ((v14.2.1.1, v14.2.1.2.1, ()), (v15.2.1.1, v15.2.1.2.1, v15.2.1.2.2.1, ()), ())) fun v16 =>
                    obind (laws_eqDisk ((v16.2.1.1, v16.2.1.2.1, ()), (v3.2.1.1, v3.2.1.2.1, ()), ())) fun v17 =>
                    tb (bnot v17.2.1)
                    (some ((), false, ()))
                    (tb (bnot (beq v16.2.2.1 v3.2.2.1))
                      (some ((), false, ()))
                      (obind (laws_heldDisk ((v12.1.1.1, v12.1.1.2.1, ()), 1, ())) fun v18 =>
                        tb (ilt v18.2.1 0)
                        (some ((), false, ()))
                        (tb (bnot (ieq v18.2.1 v12.2.1))
                          (some ((), false, ()))
                          (some ((), true, ()))))))))))))))
def laws_FnExactHeadPut (x : (((List ByteArray) × (List (Int × ByteArray × Unit)) × Unit) × (Int × Int × Int × Unit) × Unit)) : Option (Unit × (Bool × Unit)) := laws_FnExactHeadPut_k fuel x.1 x.2.1
def laws_FnExactHeadPut_s : List (Nat × Con) := [(36, ⟨[.val S51, .val (.int .i64)], [(.int .i64)], (.pair (.int .i64) .unit), laws_szDisk⟩), (38, ⟨[.val S51], [T55], (.pair T55 .unit), laws_toDisk⟩), (40, ⟨[.val S55, .val S55], [.bool], (.pair .bool .unit), laws_eqDisk⟩), (41, ⟨[.bor T55, .val (.int .i64)], [(.int .i64)], (.pair (.int .i64) .unit), laws_markDisk⟩), (42, ⟨[.val S55, .val (.int .i64)], [(.int .i64)], (.pair (.int .i64) .unit), laws_heldDisk⟩), (50, ⟨[.val S55, .val S69], [T55, .bool], (.pair T55 (.pair .bool .unit)), spec_HeadPut⟩), (51, ⟨[.val S73], [T69], (.pair T69 .unit), laws_toHead⟩), (52, ⟨[.val S55, .val S69], [T55, .bool], (.pair T55 (.pair .bool .unit)), impl_HeadPut⟩)]
def laws_FnExactHeadPut_E : Env := ⟨fun j => (look tyTab j).getD .unit, fun j => look laws_FnExactHeadPut_s j⟩
theorem laws_FnExactHeadPut_f_eq (N : Nat) (x0 : ((List ByteArray) × (List (Int × ByteArray × Unit)) × Unit)) (x1 : (Int × Int × Int × Unit)) : funK laws_FnExactHeadPut_E Try.f9 [.val S51, .val S73] [.bool] (.pair .bool .unit) (fun i => look [] i) N (x0, x1, ()) = laws_FnExactHeadPut_k N x0 x1 := by kernel_rfl
theorem laws_FnExactHeadPut_o : Known Try.prog 9 ⟨[.val S51, .val S73], [.bool], (.pair .bool .unit), laws_FnExactHeadPut⟩ := known_of (tab := tyTab) (cons := laws_FnExactHeadPut_s) (segs := []) (n := fuel) mixed_ok tab_ok (.cons laws_szDisk_o (.cons laws_toDisk_o (.cons laws_eqDisk_o (.cons laws_markDisk_o (.cons laws_heldDisk_o (.cons spec_HeadPut_o (.cons laws_toHead_o (.cons impl_HeadPut_o .nil)))))))) Try.func9 (by kernel_rfl) trivial (fun x => laws_FnExactHeadPut_f_eq fuel x.1 x.2.1)
def spec_l15Zeros_k (N : Nat)  : Option (Unit × (ByteArray × Unit)) :=
  chk (((0 : Int) ≤ 64) ∧ (((64 : Int) ≤ 64) ∧ ((Int.toNat 64) ≤ 140737488355328))) (some ((), (strOf (lrep (Int.toNat 64) (0 : Int))), ())) (none)
def spec_l15Zeros (x : Unit) : Option (Unit × (ByteArray × Unit)) := spec_l15Zeros_k fuel 
def spec_l15Zeros_s : List (Nat × Con) := []
def spec_l15Zeros_E : Env := ⟨fun j => (look tyTab j).getD .unit, fun j => look spec_l15Zeros_s j⟩
theorem spec_l15Zeros_f_eq (N : Nat)  : funK spec_l15Zeros_E Try.f152 [] [.str] (.pair .str .unit) (fun i => look [] i) N () = spec_l15Zeros_k N  := by kernel_rfl
theorem spec_l15Zeros_o : Known Try.prog 152 ⟨[], [.str], (.pair .str .unit), spec_l15Zeros⟩ := known_of (tab := tyTab) (cons := spec_l15Zeros_s) (segs := []) (n := fuel) mixed_ok tab_ok .nil Try.func152 (by kernel_rfl) trivial (fun x => spec_l15Zeros_f_eq fuel )
def spec_DiskNew_P0 : Tpl := ⟨[(0, .one (.fix (.vptr 0 0))), (1, .one (.fix (.vptr 1 0))), (2, .one (.leaf (.int .i64)))], [(0, [.fix .nil, .fix .nil]), (1, [.fix (.ref 10000 [] none), .fix .nil])], [(10000, .str)]⟩
def spec_DiskNew_O0 : Tpl := ⟨[(0, .one (.fix (.vptr 0 0))), (1, .one (.fix (.vptr 1 0)))], [(0, [.fix .nil, .fix .nil]), (1, [.fix (.ref 10500 [] none), .fix .nil])], [(10500, .str)]⟩
def spec_DiskNew_k0 (N : Nat) : Nat → ((Unit × ((Unit × Unit × Unit) × ((List ByteArray) × Unit))) → Option (Unit × (((List ByteArray) × (List (Int × ByteArray × Unit)) × Unit) × Unit))) → ((Int × Unit) × ((Unit × Unit × Unit) × ((List ByteArray) × Unit))) → Option (Unit × (((List ByteArray) × (List (Int × ByteArray × Unit)) × Unit) × Unit))
  | 0, _, _ => none
  | n + 1, k, x =>
    tb (ilt x.1.1 130)
    (obind (spec_l15Zeros ()) fun v0 =>
      chk ((plus (llen x.2.2.1) (llen [v0.2.1])) ≤ 8796093022208) (spec_DiskNew_k0 N n k (((wr .i64 (x.1.1 + 1)), ()), ((), (), ()), (lapp x.2.2.1 [v0.2.1]), ())) (none))
    (k ((), ((), (), ()), x.2.2.1, ()))
def spec_DiskNew_k (N : Nat)  : Option (Unit × (((List ByteArray) × (List (Int × ByteArray × Unit)) × Unit) × Unit)) :=
  spec_DiskNew_k0 N N (fun v0 =>
    some ((), (v0.2.2.1, [], ()), ())) ((0, ()), ((), (), ()), [], ())
def spec_DiskNew (x : Unit) : Option (Unit × (((List ByteArray) × (List (Int × ByteArray × Unit)) × Unit) × Unit)) := spec_DiskNew_k fuel 
def spec_DiskNew_s : List (Nat × Con) := [(152, ⟨[], [.str], (.pair .str .unit), spec_l15Zeros⟩)]
def spec_DiskNew_E : Env := ⟨fun j => (look tyTab j).getD .unit, fun j => look spec_DiskNew_s j⟩
theorem spec_DiskNew_r0 (N n : Nat) (k : spec_DiskNew_O0.ty.den → Option (Unit × (((List ByteArray) × (List (Int × ByteArray × Unit)) × Unit) × Unit))) (x : spec_DiskNew_P0.ty.den) : roundK spec_DiskNew_E ⟨Try.f114.ntmps, N, (fun i => look [(0, ⟨spec_DiskNew_P0, spec_DiskNew_O0, [.cell 1 0 10000 .str], [.cell 1 0 10500 .str], spec_DiskNew_k0 N⟩)] i), retK spec_DiskNew_E Try.f114 [] [T55] (.pair T55 .unit)⟩ (Try.f114.body.getD .skip) 0 ⟨spec_DiskNew_P0, spec_DiskNew_O0, [.cell 1 0 10000 .str], [.cell 1 0 10500 .str], spec_DiskNew_k0 N⟩ (spec_DiskNew_k0 N n k) k x = spec_DiskNew_k0 N (n + 1) k x := by kernel_rfl
theorem spec_DiskNew_f_eq (N : Nat)  : funK spec_DiskNew_E Try.f114 [] [T55] (.pair T55 .unit) (fun i => look [(0, ⟨spec_DiskNew_P0, spec_DiskNew_O0, [.cell 1 0 10000 .str], [.cell 1 0 10500 .str], spec_DiskNew_k0 N⟩)] i) N () = spec_DiskNew_k N  := by kernel_rfl
theorem spec_DiskNew_o : Known Try.prog 114 ⟨[], [T55], (.pair T55 .unit), spec_DiskNew⟩ := known_of (tab := tyTab) (cons := spec_DiskNew_s) (segs := [(0, ⟨spec_DiskNew_P0, spec_DiskNew_O0, [.cell 1 0 10000 .str], [.cell 1 0 10500 .str], spec_DiskNew_k0 fuel⟩)]) (n := fuel) mixed_ok tab_ok (.cons spec_l15Zeros_o .nil) Try.func114 (by kernel_rfl) ⟨⟨fun _ _ => rfl, fun n k x => spec_DiskNew_r0 fuel n k x⟩, trivial⟩ (fun x => spec_DiskNew_f_eq fuel )
def spec_l15Done_P0 : Tpl := ⟨[(1, .one (.leaf (.int .i64))), (2, .one (.fix (.vptr 2 0))), (4, .one (.fix (.vptr 4 0))), (5, .one (.fix (.vptr 5 0))), (6, .one (.leaf (.int .i64)))], [(2, [.leaf (.row false .str), .leaf (.row false (.pair (.int .i64) (.pair .str .unit)))]), (4, [.fix .nil, .fix .nil]), (5, [.fix (.ref 10000 [] none), .fix .nil])], [(10000, .str)]⟩
def spec_l15Done_O0 : Tpl := ⟨[(4, .one (.fix (.vptr 4 0))), (5, .one (.fix (.vptr 5 0)))], [(4, [.fix .nil, .fix .nil]), (5, [.fix (.ref 10500 [] none), .fix .nil])], [(10500, .str)]⟩
def spec_l15Done_k0 (N : Nat) : Nat → ((Unit × ((Unit × Unit × Unit) × ((List ByteArray) × Unit))) → Option (Unit × (((List ByteArray) × (List (Int × ByteArray × Unit)) × Unit) × Unit))) → ((Int × Int × Unit) × ((((List ByteArray) × (List (Int × (ByteArray × Unit))) × Unit) × Unit × Unit × Unit) × ((List ByteArray) × Unit))) → Option (Unit × (((List ByteArray) × (List (Int × ByteArray × Unit)) × Unit) × Unit))
  | 0, _, _ => none
  | n + 1, k, x =>
    tb (ilt x.1.2.1 (((llen x.2.1.1.2.1) : Nat) : Int))
    (chk ((31 : Int) = 0) (none) (chk ((Int.tmod x.1.2.1 31) < 0) (none) (tb (ieq (bandK .i64 (shrK .i64 x.1.1 (Int.tmod x.1.2.1 31)) 1) 1)
          (chk (0 ≤ x.1.2.1) (obind (at? x.2.1.1.2.1 (Int.toNat x.1.2.1)) fun v0 =>
              chk (0 ≤ x.1.2.1) (obind (at? x.2.1.1.2.1 (Int.toNat x.1.2.1)) fun v1 =>
                chk ((0 ≤ v0.1) ∧ (v0.1 < (((llen x.2.2.1) : Nat) : Int))) (obind (at? x.2.2.1 (Int.toNat v0.1)) fun v2 =>
                  spec_l15Done_k0 N n k ((x.1.1, (wr .i64 (x.1.2.1 + 1)), ()), ((x.2.1.1.1, x.2.1.1.2.1, ()), (), (), ()), (lset x.2.2.1 (Int.toNat v0.1) v1.2.1), ())) (none)) (none)) (none))
          (spec_l15Done_k0 N n k ((x.1.1, (wr .i64 (x.1.2.1 + 1)), ()), ((x.2.1.1.1, x.2.1.1.2.1, ()), (), (), ()), x.2.2.1, ())))))
    (k ((), ((), (), ()), x.2.2.1, ()))
def spec_l15Done_k (N : Nat) (x0 : ((List ByteArray) × (List (Int × ByteArray × Unit)) × Unit)) (x1 : Int) : Option (Unit × (((List ByteArray) × (List (Int × ByteArray × Unit)) × Unit) × Unit)) :=
  chk ((plus 0 (llen x0.1)) ≤ 8796093022208) (spec_l15Done_k0 N N (fun v0 =>
      some ((), (v0.2.2.1, [], ()), ())) ((x1, 0, ()), ((x0.1, x0.2.1, ()), (), (), ()), (lapp [] x0.1), ())) (none)
def spec_l15Done (x : (((List ByteArray) × (List (Int × ByteArray × Unit)) × Unit) × Int × Unit)) : Option (Unit × (((List ByteArray) × (List (Int × ByteArray × Unit)) × Unit) × Unit)) := spec_l15Done_k fuel x.1 x.2.1
def spec_l15Done_s : List (Nat × Con) := []
def spec_l15Done_E : Env := ⟨fun j => (look tyTab j).getD .unit, fun j => look spec_l15Done_s j⟩
theorem spec_l15Done_r0 (N n : Nat) (k : spec_l15Done_O0.ty.den → Option (Unit × (((List ByteArray) × (List (Int × ByteArray × Unit)) × Unit) × Unit))) (x : spec_l15Done_P0.ty.den) : roundK spec_l15Done_E ⟨Try.f153.ntmps, N, (fun i => look [(0, ⟨spec_l15Done_P0, spec_l15Done_O0, [.cell 5 0 10000 .str], [.cell 5 0 10500 .str], spec_l15Done_k0 N⟩)] i), retK spec_l15Done_E Try.f153 [.val S55, .val (.int .i64)] [T55] (.pair T55 .unit)⟩ (Try.f153.body.getD .skip) 0 ⟨spec_l15Done_P0, spec_l15Done_O0, [.cell 5 0 10000 .str], [.cell 5 0 10500 .str], spec_l15Done_k0 N⟩ (spec_l15Done_k0 N n k) k x = spec_l15Done_k0 N (n + 1) k x := by kernel_rfl
theorem spec_l15Done_f_eq (N : Nat) (x0 : ((List ByteArray) × (List (Int × ByteArray × Unit)) × Unit)) (x1 : Int) : funK spec_l15Done_E Try.f153 [.val S55, .val (.int .i64)] [T55] (.pair T55 .unit) (fun i => look [(0, ⟨spec_l15Done_P0, spec_l15Done_O0, [.cell 5 0 10000 .str], [.cell 5 0 10500 .str], spec_l15Done_k0 N⟩)] i) N (x0, x1, ()) = spec_l15Done_k N x0 x1 := by kernel_rfl
theorem spec_l15Done_o : Known Try.prog 153 ⟨[.val S55, .val (.int .i64)], [T55], (.pair T55 .unit), spec_l15Done⟩ := known_of (tab := tyTab) (cons := spec_l15Done_s) (segs := [(0, ⟨spec_l15Done_P0, spec_l15Done_O0, [.cell 5 0 10000 .str], [.cell 5 0 10500 .str], spec_l15Done_k0 fuel⟩)]) (n := fuel) mixed_ok tab_ok .nil Try.func153 (by kernel_rfl) ⟨⟨fun _ _ => rfl, fun n k x => spec_l15Done_r0 fuel n k x⟩, trivial⟩ (fun x => spec_l15Done_f_eq fuel x.1 x.2.1)
def spec_DiskSync_k (N : Nat) (x0 : ((List ByteArray) × (List (Int × ByteArray × Unit)) × Unit)) : Option (Unit × (((List ByteArray) × (List (Int × ByteArray × Unit)) × Unit) × Bool × Unit)) :=
  obind (spec_DiskOk ((x0.1, x0.2.1, ()), ())) fun v0 =>
  tb (bnot v0.2.1)
  (some ((), ([], [], ()), false, ()))
  (obind (spec_l15Done ((x0.1, x0.2.1, ()), 2147483647, ())) fun v1 =>
    some ((), (v1.2.1.1, v1.2.1.2.1, ()), true, ()))
def spec_DiskSync (x : (((List ByteArray) × (List (Int × ByteArray × Unit)) × Unit) × Unit)) : Option (Unit × (((List ByteArray) × (List (Int × ByteArray × Unit)) × Unit) × Bool × Unit)) := spec_DiskSync_k fuel x.1
def spec_DiskSync_s : List (Nat × Con) := [(93, ⟨[.val S55], [.bool], (.pair .bool .unit), spec_DiskOk⟩), (153, ⟨[.val S55, .val (.int .i64)], [T55], (.pair T55 .unit), spec_l15Done⟩)]
def spec_DiskSync_E : Env := ⟨fun j => (look tyTab j).getD .unit, fun j => look spec_DiskSync_s j⟩
theorem spec_DiskSync_f_eq (N : Nat) (x0 : ((List ByteArray) × (List (Int × ByteArray × Unit)) × Unit)) : funK spec_DiskSync_E Try.f115 [.val S55] [T55, .bool] (.pair T55 (.pair .bool .unit)) (fun i => look [] i) N (x0, ()) = spec_DiskSync_k N x0 := by kernel_rfl
theorem spec_DiskSync_o : Known Try.prog 115 ⟨[.val S55], [T55, .bool], (.pair T55 (.pair .bool .unit)), spec_DiskSync⟩ := known_of (tab := tyTab) (cons := spec_DiskSync_s) (segs := []) (n := fuel) mixed_ok tab_ok (.cons spec_DiskOk_o (.cons spec_l15Done_o .nil)) Try.func115 (by kernel_rfl) trivial (fun x => spec_DiskSync_f_eq fuel x.1)
def spec_ArchiveNew_k (N : Nat)  : Option (Unit × ((Bool × ((List ByteArray) × (List (Int × ByteArray × Unit)) × Unit) × (Int × Int × Int × Unit) × (List (ByteArray × ByteArray × Unit)) × Unit) × Unit)) :=
  obind (spec_DiskNew ()) fun v0 =>
  obind (spec_HeadPut ((v0.2.1.1, v0.2.1.2.1, ()), (1, 0, 0, ()), ())) fun v1 =>
  obind (spec_DiskSync ((v1.2.1.1, v1.2.1.2.1, ()), ())) fun v2 =>
  some ((), (true, (v2.2.1.1, v2.2.1.2.1, ()), (1, 0, 0, ()), [], ()), ())
def spec_ArchiveNew (x : Unit) : Option (Unit × ((Bool × ((List ByteArray) × (List (Int × ByteArray × Unit)) × Unit) × (Int × Int × Int × Unit) × (List (ByteArray × ByteArray × Unit)) × Unit) × Unit)) := spec_ArchiveNew_k fuel 
def spec_ArchiveNew_s : List (Nat × Con) := [(50, ⟨[.val S55, .val S69], [T55, .bool], (.pair T55 (.pair .bool .unit)), spec_HeadPut⟩), (114, ⟨[], [T55], (.pair T55 .unit), spec_DiskNew⟩), (115, ⟨[.val S55], [T55, .bool], (.pair T55 (.pair .bool .unit)), spec_DiskSync⟩)]
def spec_ArchiveNew_E : Env := ⟨fun j => (look tyTab j).getD .unit, fun j => look spec_ArchiveNew_s j⟩
theorem spec_ArchiveNew_f_eq (N : Nat)  : funK spec_ArchiveNew_E Try.f53 [] [T78] (.pair T78 .unit) (fun i => look [] i) N () = spec_ArchiveNew_k N  := by kernel_rfl
theorem spec_ArchiveNew_o : Known Try.prog 53 ⟨[], [T78], (.pair T78 .unit), spec_ArchiveNew⟩ := known_of (tab := tyTab) (cons := spec_ArchiveNew_s) (segs := []) (n := fuel) mixed_ok tab_ok (.cons spec_HeadPut_o (.cons spec_DiskNew_o (.cons spec_DiskSync_o .nil))) Try.func53 (by kernel_rfl) trivial (fun x => spec_ArchiveNew_f_eq fuel )
def slices_Repeat_string_P0 : Tpl := ⟨[(7, .one (.fix (.ref 10000 [] none))), (8, .one (.leaf (.int .i64)))], [], [(10000, .str)]⟩
def slices_Repeat_string_O0 : Tpl := ⟨[(7, .one (.fix (.ref 10500 [] none)))], [], [(10500, .str)]⟩
def slices_Repeat_string_k0 (N : Nat) : Nat → ((Unit × (Unit × ((List ByteArray) × Unit))) → Option (Unit × ((List ByteArray) × Unit))) → ((Int × Unit) × (Unit × ((List ByteArray) × Unit))) → Option (Unit × ((List ByteArray) × Unit))
  | 0, _, _ => none
  | n + 1, k, x =>
    tb (ilt x.1.1 (((llen x.2.2.1) : Nat) : Int))
    (chk ((0 ≤ x.1.1) ∧ ((x.1.1 ≤ (((llen x.2.2.1) : Nat) : Int)) ∧ ((((llen x.2.2.1) : Nat) : Int) ≤ (((llen x.2.2.1) : Nat) : Int)))) (chk (((0 : Int) ≤ 0) ∧ ((0 ≤ x.1.1) ∧ (x.1.1 ≤ (((llen x.2.2.1) : Nat) : Int)))) (chk (0 < (llen x.2.2.1)) (slices_Repeat_string_k0 N n k (((wr .i64 (x.1.1 + (((nmin (lgap (loOf (Option.some ((Int.toNat x.1.1), (Int.toNat (((llen x.2.2.1) : Nat) : Int))))) (hiOf (llen x.2.2.1) (Option.some ((Int.toNat x.1.1), (Int.toNat (((llen x.2.2.1) : Nat) : Int)))))) (llen (lcut x.2.2.1 (Int.toNat 0) (Int.toNat x.1.1)))) : Nat) : Int))), ()), (), (lput x.2.2.1 (loOf (Option.some ((Int.toNat x.1.1), (Int.toNat (((llen x.2.2.1) : Nat) : Int))))) (nmin (lgap (loOf (Option.some ((Int.toNat x.1.1), (Int.toNat (((llen x.2.2.1) : Nat) : Int))))) (hiOf (llen x.2.2.1) (Option.some ((Int.toNat x.1.1), (Int.toNat (((llen x.2.2.1) : Nat) : Int)))))) (llen (lcut x.2.2.1 (Int.toNat 0) (Int.toNat x.1.1)))) (lcut x.2.2.1 (Int.toNat 0) (Int.toNat x.1.1))), ())) (none)) (none)) (none))
    (k ((), (), x.2.2.1, ()))
def slices_Repeat_string_k (N : Nat) (x0 : (List ByteArray)) (x1 : Int) : Option (Unit × ((List ByteArray) × Unit)) :=
  tb (ilt x1 0)
  (none)
  (obind (math_bits_Mul ((wr .u64 (((llen x0) : Nat) : Int)), (wr .u64 x1), ())) fun v0 =>
    tb (ilt 0 v0.2.1)
    (none)
    (tb (ilt 9223372036854775807 v0.2.2.1)
      (none)
      (chk ((0 ≤ (wr .i64 v0.2.2.1)) ∧ (((wr .i64 v0.2.2.1) ≤ (wr .i64 v0.2.2.1)) ∧ ((Int.toNat (wr .i64 v0.2.2.1)) ≤ 8796093022208))) (chk (0 < (llen (lrep (Int.toNat (wr .i64 v0.2.2.1)) (⟨#[]⟩ : ByteArray)))) (slices_Repeat_string_k0 N N (fun v1 =>
              some ((), v1.2.2.1, ())) (((((nmin (lgap (loOf Option.none) (hiOf (llen (lrep (Int.toNat (wr .i64 v0.2.2.1)) (⟨#[]⟩ : ByteArray))) Option.none)) (llen x0)) : Nat) : Int), ()), (), (lput (lrep (Int.toNat (wr .i64 v0.2.2.1)) (⟨#[]⟩ : ByteArray)) (loOf Option.none) (nmin (lgap (loOf Option.none) (hiOf (llen (lrep (Int.toNat (wr .i64 v0.2.2.1)) (⟨#[]⟩ : ByteArray))) Option.none)) (llen x0)) x0), ())) (none)) (none))))
def slices_Repeat_string (x : ((List ByteArray) × Int × Unit)) : Option (Unit × ((List ByteArray) × Unit)) := slices_Repeat_string_k fuel x.1 x.2.1
def slices_Repeat_string_s : List (Nat × Con) := [(158, ⟨[.val (.int .u64), .val (.int .u64)], [(.int .u64), (.int .u64)], (.pair (.int .u64) (.pair (.int .u64) .unit)), math_bits_Mul⟩)]
def slices_Repeat_string_E : Env := ⟨fun j => (look tyTab j).getD .unit, fun j => look slices_Repeat_string_s j⟩
theorem slices_Repeat_string_r0 (N n : Nat) (k : slices_Repeat_string_O0.ty.den → Option (Unit × ((List ByteArray) × Unit))) (x : slices_Repeat_string_P0.ty.den) : roundK slices_Repeat_string_E ⟨Try.f154.ntmps, N, (fun i => look [(0, ⟨slices_Repeat_string_P0, slices_Repeat_string_O0, [.tmp 7 10000 .str], [.tmp 7 10500 .str], slices_Repeat_string_k0 N⟩)] i), retK slices_Repeat_string_E Try.f154 [.val (.row false .str), .val (.int .i64)] [(.row true .str)] (.pair (.row true .str) .unit)⟩ (Try.f154.body.getD .skip) 0 ⟨slices_Repeat_string_P0, slices_Repeat_string_O0, [.tmp 7 10000 .str], [.tmp 7 10500 .str], slices_Repeat_string_k0 N⟩ (slices_Repeat_string_k0 N n k) k x = slices_Repeat_string_k0 N (n + 1) k x := by kernel_rfl
theorem slices_Repeat_string_f_eq (N : Nat) (x0 : (List ByteArray)) (x1 : Int) : funK slices_Repeat_string_E Try.f154 [.val (.row false .str), .val (.int .i64)] [(.row true .str)] (.pair (.row true .str) .unit) (fun i => look [(0, ⟨slices_Repeat_string_P0, slices_Repeat_string_O0, [.tmp 7 10000 .str], [.tmp 7 10500 .str], slices_Repeat_string_k0 N⟩)] i) N (x0, x1, ()) = slices_Repeat_string_k N x0 x1 := by kernel_rfl
theorem slices_Repeat_string_o : Known Try.prog 154 ⟨[.val (.row false .str), .val (.int .i64)], [(.row true .str)], (.pair (.row true .str) .unit), slices_Repeat_string⟩ := known_of (tab := tyTab) (cons := slices_Repeat_string_s) (segs := [(0, ⟨slices_Repeat_string_P0, slices_Repeat_string_O0, [.tmp 7 10000 .str], [.tmp 7 10500 .str], slices_Repeat_string_k0 fuel⟩)]) (n := fuel) mixed_ok tab_ok (.cons math_bits_Mul_o .nil) Try.func154 (by kernel_rfl) ⟨⟨fun _ _ => rfl, fun n k x => slices_Repeat_string_r0 fuel n k x⟩, trivial⟩ (fun x => slices_Repeat_string_f_eq fuel x.1 x.2.1)
def impl_DiskNew_k (N : Nat)  : Option (Unit × (((List ByteArray) × (List (Int × ByteArray × Unit)) × Unit) × Unit)) :=
  obind (strings_Repeat ((⟨#[0]⟩ : ByteArray), 64, ())) fun v0 =>
  obind (slices_Repeat_string ([v0.2.1], 130, ())) fun v1 =>
  some ((), (v1.2.1, [], ()), ())
def impl_DiskNew (x : Unit) : Option (Unit × (((List ByteArray) × (List (Int × ByteArray × Unit)) × Unit) × Unit)) := impl_DiskNew_k fuel 
def impl_DiskNew_s : List (Nat × Con) := [(120, ⟨[.val .str, .val (.int .i64)], [.str], (.pair .str .unit), strings_Repeat⟩), (154, ⟨[.val (.row false .str), .val (.int .i64)], [(.row true .str)], (.pair (.row true .str) .unit), slices_Repeat_string⟩)]
def impl_DiskNew_E : Env := ⟨fun j => (look tyTab j).getD .unit, fun j => look impl_DiskNew_s j⟩
theorem impl_DiskNew_f_eq (N : Nat)  : funK impl_DiskNew_E Try.f116 [] [T55] (.pair T55 .unit) (fun i => look [] i) N () = impl_DiskNew_k N  := by kernel_rfl
theorem impl_DiskNew_o : Known Try.prog 116 ⟨[], [T55], (.pair T55 .unit), impl_DiskNew⟩ := known_of (tab := tyTab) (cons := impl_DiskNew_s) (segs := []) (n := fuel) mixed_ok tab_ok (.cons strings_Repeat_o (.cons slices_Repeat_string_o .nil)) Try.func116 (by kernel_rfl) trivial (fun x => impl_DiskNew_f_eq fuel )
def impl_DiskSync_1_k (N : Nat) (x0 : Int) : Option (Unit × (Bool × Unit)) :=
  some ((), true, ())
def impl_DiskSync_1 (x : (Int × Unit)) : Option (Unit × (Bool × Unit)) := impl_DiskSync_1_k fuel x.1
def impl_DiskSync_1_s : List (Nat × Con) := []
def impl_DiskSync_1_E : Env := ⟨fun j => (look tyTab j).getD .unit, fun j => look impl_DiskSync_1_s j⟩
theorem impl_DiskSync_1_f_eq (N : Nat) (x0 : Int) : funK impl_DiskSync_1_E Try.f156 [.val (.int .i64)] [.bool] (.pair .bool .unit) (fun i => look [] i) N (x0, ()) = impl_DiskSync_1_k N x0 := by kernel_rfl
theorem impl_DiskSync_1_o : Known Try.prog 156 ⟨[.val (.int .i64)], [.bool], (.pair .bool .unit), impl_DiskSync_1⟩ := known_of (tab := tyTab) (cons := impl_DiskSync_1_s) (segs := []) (n := fuel) mixed_ok tab_ok .nil Try.func156 (by kernel_rfl) trivial (fun x => impl_DiskSync_1_f_eq fuel x.1)
def impl_settled_of156_P0 : Tpl := ⟨[(1, .one (.fix (.fn 156 []))), (4, .one (.fix (.vptr 4 0))), (5, .one (.fix (.vptr 5 0))), (13, .one (.leaf (.row false (.pair (.int .i64) (.pair .str .unit))))), (14, .one (.leaf (.int .i64))), (15, .one (.leaf (.int .i64)))], [(4, [.fix .nil, .fix .nil]), (5, [.fix (.ref 10000 [] none), .fix .nil])], [(10000, .str)]⟩
def impl_settled_of156_O0 : Tpl := ⟨[(4, .one (.fix (.vptr 4 0))), (5, .one (.fix (.vptr 5 0)))], [(4, [.fix .nil, .fix .nil]), (5, [.fix (.ref 10500 [] none), .fix .nil])], [(10500, .str)]⟩
def impl_settled_of156_k0 (N : Nat) : Nat → ((Unit × ((Unit × Unit × Unit) × ((List ByteArray) × Unit))) → Option (Unit × (((List ByteArray) × (List (Int × ByteArray × Unit)) × Unit) × Unit))) → (((List (Int × (ByteArray × Unit))) × Int × Int × Unit) × ((Unit × Unit × Unit) × ((List ByteArray) × Unit))) → Option (Unit × (((List ByteArray) × (List (Int × ByteArray × Unit)) × Unit) × Unit))
  | 0, _, _ => none
  | n + 1, k, x =>
    tb (ilt x.1.2.2.1 x.1.2.1)
    (chk (0 ≤ x.1.2.2.1) (obind (at? x.1.1 (Int.toNat x.1.2.2.1)) fun v0 =>
        obind (impl_DiskSync_1 (x.1.2.2.1, ())) fun v1 =>
        tb v1.2.1
        (chk ((0 ≤ v0.1) ∧ (v0.1 < (((llen x.2.2.1) : Nat) : Int))) (obind (at? x.2.2.1 (Int.toNat v0.1)) fun v2 =>
            impl_settled_of156_k0 N n k ((x.1.1, x.1.2.1, (wr .i64 (x.1.2.2.1 + 1)), ()), ((), (), ()), (lset x.2.2.1 (Int.toNat v0.1) v0.2.1), ())) (none))
        (impl_settled_of156_k0 N n k ((x.1.1, x.1.2.1, (wr .i64 (x.1.2.2.1 + 1)), ()), ((), (), ()), x.2.2.1, ()))) (none))
    (k ((), ((), (), ()), x.2.2.1, ()))
def impl_settled_of156_k (N : Nat) (x0 : ((List ByteArray) × (List (Int × ByteArray × Unit)) × Unit)) (x1 : Unit) : Option (Unit × (((List ByteArray) × (List (Int × ByteArray × Unit)) × Unit) × Unit)) :=
  obind (slices_Clone_string (x0.1, ())) fun v0 =>
  impl_settled_of156_k0 N N (fun v1 =>
    some ((), (v1.2.2.1, [], ()), ())) ((x0.2.1, (((llen x0.2.1) : Nat) : Int), 0, ()), ((), (), ()), v0.2.1, ())
def impl_settled_of156 (x : (((List ByteArray) × (List (Int × ByteArray × Unit)) × Unit) × Unit × Unit)) : Option (Unit × (((List ByteArray) × (List (Int × ByteArray × Unit)) × Unit) × Unit)) := impl_settled_of156_k fuel x.1 x.2.1
def impl_settled_of156_s : List (Nat × Con) := [(147, ⟨[.val (.row false .str)], [(.row true .str)], (.pair (.row true .str) .unit), slices_Clone_string⟩), (156, ⟨[.val (.int .i64)], [.bool], (.pair .bool .unit), impl_DiskSync_1⟩)]
def impl_settled_of156_E : Env := ⟨fun j => (look tyTab j).getD .unit, fun j => look impl_settled_of156_s j⟩
theorem impl_settled_of156_r0 (N n : Nat) (k : impl_settled_of156_O0.ty.den → Option (Unit × (((List ByteArray) × (List (Int × ByteArray × Unit)) × Unit) × Unit))) (x : impl_settled_of156_P0.ty.den) : roundK impl_settled_of156_E ⟨Try.f155.ntmps, N, (fun i => look [(0, ⟨impl_settled_of156_P0, impl_settled_of156_O0, [.cell 5 0 10000 .str], [.cell 5 0 10500 .str], impl_settled_of156_k0 N⟩)] i), retK impl_settled_of156_E Try.f155 [.val S55, .fn 156] [T55] (.pair T55 .unit)⟩ (Try.f155.body.getD .skip) 0 ⟨impl_settled_of156_P0, impl_settled_of156_O0, [.cell 5 0 10000 .str], [.cell 5 0 10500 .str], impl_settled_of156_k0 N⟩ (impl_settled_of156_k0 N n k) k x = impl_settled_of156_k0 N (n + 1) k x := by kernel_rfl
theorem impl_settled_of156_f_eq (N : Nat) (x0 : ((List ByteArray) × (List (Int × ByteArray × Unit)) × Unit)) (x1 : Unit) : funK impl_settled_of156_E Try.f155 [.val S55, .fn 156] [T55] (.pair T55 .unit) (fun i => look [(0, ⟨impl_settled_of156_P0, impl_settled_of156_O0, [.cell 5 0 10000 .str], [.cell 5 0 10500 .str], impl_settled_of156_k0 N⟩)] i) N (x0, x1, ()) = impl_settled_of156_k N x0 x1 := by kernel_rfl
theorem impl_settled_of156_o : Known Try.prog 155 ⟨[.val S55, .fn 156], [T55], (.pair T55 .unit), impl_settled_of156⟩ := known_of (tab := tyTab) (cons := impl_settled_of156_s) (segs := [(0, ⟨impl_settled_of156_P0, impl_settled_of156_O0, [.cell 5 0 10000 .str], [.cell 5 0 10500 .str], impl_settled_of156_k0 fuel⟩)]) (n := fuel) mixed_ok tab_ok (.cons slices_Clone_string_o (.cons impl_DiskSync_1_o .nil)) Try.func155 (by kernel_rfl) ⟨⟨fun _ _ => rfl, fun n k x => impl_settled_of156_r0 fuel n k x⟩, trivial⟩ (fun x => impl_settled_of156_f_eq fuel x.1 x.2.1)
def impl_DiskSync_k (N : Nat) (x0 : ((List ByteArray) × (List (Int × ByteArray × Unit)) × Unit)) : Option (Unit × (((List ByteArray) × (List (Int × ByteArray × Unit)) × Unit) × Bool × Unit)) :=
  obind (impl_DiskOk ((x0.1, x0.2.1, ()), ())) fun v0 =>
  tb (bnot v0.2.1)
  (some ((), ([], [], ()), false, ()))
  (obind (impl_settled_of156 ((x0.1, x0.2.1, ()), (), ())) fun v1 =>
    some ((), (v1.2.1.1, v1.2.1.2.1, ()), true, ()))
def impl_DiskSync (x : (((List ByteArray) × (List (Int × ByteArray × Unit)) × Unit) × Unit)) : Option (Unit × (((List ByteArray) × (List (Int × ByteArray × Unit)) × Unit) × Bool × Unit)) := impl_DiskSync_k fuel x.1
def impl_DiskSync_s : List (Nat × Con) := [(101, ⟨[.val S55], [.bool], (.pair .bool .unit), impl_DiskOk⟩), (156, ⟨[.val (.int .i64)], [.bool], (.pair .bool .unit), impl_DiskSync_1⟩), (155, ⟨[.val S55, .fn 156], [T55], (.pair T55 .unit), impl_settled_of156⟩)]
def impl_DiskSync_E : Env := ⟨fun j => (look tyTab j).getD .unit, fun j => look impl_DiskSync_s j⟩
theorem impl_DiskSync_f_eq (N : Nat) (x0 : ((List ByteArray) × (List (Int × ByteArray × Unit)) × Unit)) : funK impl_DiskSync_E Try.f117 [.val S55] [T55, .bool] (.pair T55 (.pair .bool .unit)) (fun i => look [] i) N (x0, ()) = impl_DiskSync_k N x0 := by kernel_rfl
theorem impl_DiskSync_o : Known Try.prog 117 ⟨[.val S55], [T55, .bool], (.pair T55 (.pair .bool .unit)), impl_DiskSync⟩ := known_of (tab := tyTab) (cons := impl_DiskSync_s) (segs := []) (n := fuel) mixed_ok tab_ok (.cons impl_DiskOk_o (.cons impl_DiskSync_1_o (.cons impl_settled_of156_o .nil))) Try.func117 (by kernel_rfl) trivial (fun x => impl_DiskSync_f_eq fuel x.1)
def impl_ArchiveNew_k (N : Nat)  : Option (Unit × ((Bool × ((List ByteArray) × (List (Int × ByteArray × Unit)) × Unit) × (Int × Int × Int × Unit) × (List (ByteArray × ByteArray × Unit)) × Unit) × Unit)) :=
  obind (impl_DiskNew ()) fun v0 =>
  obind (impl_Disk_putHead ((v0.2.1.1, v0.2.1.2.1, ()), (1, 0, 0, ()), ())) fun v1 =>
  obind (impl_DiskSync ((v1.1.1.1, v1.1.1.2.1, ()), ())) fun v2 =>
  some ((), (true, (v2.2.1.1, v2.2.1.2.1, ()), (1, 0, 0, ()), [], ()), ())
def impl_ArchiveNew (x : Unit) : Option (Unit × ((Bool × ((List ByteArray) × (List (Int × ByteArray × Unit)) × Unit) × (Int × Int × Int × Unit) × (List (ByteArray × ByteArray × Unit)) × Unit) × Unit)) := impl_ArchiveNew_k fuel 
def impl_ArchiveNew_s : List (Nat × Con) := [(113, ⟨[.io T55, .val S69], [.bool], (.pair .bool .unit), impl_Disk_putHead⟩), (116, ⟨[], [T55], (.pair T55 .unit), impl_DiskNew⟩), (117, ⟨[.val S55], [T55, .bool], (.pair T55 (.pair .bool .unit)), impl_DiskSync⟩)]
def impl_ArchiveNew_E : Env := ⟨fun j => (look tyTab j).getD .unit, fun j => look impl_ArchiveNew_s j⟩
theorem impl_ArchiveNew_f_eq (N : Nat)  : funK impl_ArchiveNew_E Try.f54 [] [T78] (.pair T78 .unit) (fun i => look [] i) N () = impl_ArchiveNew_k N  := by kernel_rfl
theorem impl_ArchiveNew_o : Known Try.prog 54 ⟨[], [T78], (.pair T78 .unit), impl_ArchiveNew⟩ := known_of (tab := tyTab) (cons := impl_ArchiveNew_s) (segs := []) (n := fuel) mixed_ok tab_ok (.cons impl_Disk_putHead_o (.cons impl_DiskNew_o (.cons impl_DiskSync_o .nil))) Try.func54 (by kernel_rfl) trivial (fun x => impl_ArchiveNew_f_eq fuel )
def laws_eqEntry_k (N : Nat) (x0 : (ByteArray × ByteArray × Unit)) (x1 : (ByteArray × ByteArray × Unit)) : Option (Unit × (Bool × Unit)) :=
  tb (bnot (seq x0.1 x1.1))
  (some ((), false, ()))
  (tb (bnot (seq x0.2.1 x1.2.1))
    (some ((), false, ()))
    (some ((), true, ())))
def laws_eqEntry (x : ((ByteArray × ByteArray × Unit) × (ByteArray × ByteArray × Unit) × Unit)) : Option (Unit × (Bool × Unit)) := laws_eqEntry_k fuel x.1 x.2.1
def laws_eqEntry_s : List (Nat × Con) := []
def laws_eqEntry_E : Env := ⟨fun j => (look tyTab j).getD .unit, fun j => look laws_eqEntry_s j⟩
theorem laws_eqEntry_f_eq (N : Nat) (x0 : (ByteArray × ByteArray × Unit)) (x1 : (ByteArray × ByteArray × Unit)) : funK laws_eqEntry_E Try.f90 [.val S64, .val S64] [.bool] (.pair .bool .unit) (fun i => look [] i) N (x0, x1, ()) = laws_eqEntry_k N x0 x1 := by kernel_rfl
theorem laws_eqEntry_o : Known Try.prog 90 ⟨[.val S64, .val S64], [.bool], (.pair .bool .unit), laws_eqEntry⟩ := known_of (tab := tyTab) (cons := laws_eqEntry_s) (segs := []) (n := fuel) mixed_ok tab_ok .nil Try.func90 (by kernel_rfl) trivial (fun x => laws_eqEntry_f_eq fuel x.1 x.2.1)
def laws_eqEntryS_P0 : Tpl := ⟨[(0, .one (.leaf (.row false (.pair .str (.pair .str .unit))))), (1, .one (.leaf (.row false (.pair .str (.pair .str .unit))))), (5, .one (.leaf (.int .i64)))], [], []⟩
def laws_eqEntryS_O0 : Tpl := ⟨[], [], []⟩
def laws_eqEntryS_k0 (N : Nat) : Nat → ((Unit × (Unit × Unit)) → Option (Unit × (Bool × Unit))) → (((List (ByteArray × (ByteArray × Unit))) × (List (ByteArray × (ByteArray × Unit))) × Int × Unit) × (Unit × Unit)) → Option (Unit × (Bool × Unit))
  | 0, _, _ => none
  | n + 1, k, x =>
    tb (ilt x.1.2.2.1 (((llen x.1.1) : Nat) : Int))
    (chk (0 ≤ x.1.2.2.1) (obind (at? x.1.1 (Int.toNat x.1.2.2.1)) fun v0 =>
        chk (0 ≤ x.1.2.2.1) (obind (at? x.1.2.1 (Int.toNat x.1.2.2.1)) fun v1 =>
          obind (laws_eqEntry ((v0.1, v0.2.1, ()), (v1.1, v1.2.1, ()), ())) fun v2 =>
          tb (bnot v2.2.1)
          (some ((), false, ()))
          (laws_eqEntryS_k0 N n k ((x.1.1, x.1.2.1, (wr .i64 (x.1.2.2.1 + 1)), ()), (), ()))) (none)) (none))
    (k ((), (), ()))
def laws_eqEntryS_k (N : Nat) (x0 : (List (ByteArray × ByteArray × Unit))) (x1 : (List (ByteArray × ByteArray × Unit))) : Option (Unit × (Bool × Unit)) :=
  tb (bnot (ieq (((llen x0) : Nat) : Int) (((llen x1) : Nat) : Int)))
  (some ((), false, ()))
  (laws_eqEntryS_k0 N N (fun v0 =>
      some ((), true, ())) ((x0, x1, 0, ()), (), ()))
def laws_eqEntryS (x : ((List (ByteArray × ByteArray × Unit)) × (List (ByteArray × ByteArray × Unit)) × Unit)) : Option (Unit × (Bool × Unit)) := laws_eqEntryS_k fuel x.1 x.2.1
def laws_eqEntryS_s : List (Nat × Con) := [(90, ⟨[.val S64, .val S64], [.bool], (.pair .bool .unit), laws_eqEntry⟩)]
def laws_eqEntryS_E : Env := ⟨fun j => (look tyTab j).getD .unit, fun j => look laws_eqEntryS_s j⟩
theorem laws_eqEntryS_r0 (N n : Nat) (k : laws_eqEntryS_O0.ty.den → Option (Unit × (Bool × Unit))) (x : laws_eqEntryS_P0.ty.den) : roundK laws_eqEntryS_E ⟨Try.f33.ntmps, N, (fun i => look [(0, ⟨laws_eqEntryS_P0, laws_eqEntryS_O0, [], [], laws_eqEntryS_k0 N⟩)] i), retK laws_eqEntryS_E Try.f33 [.val (.row false S64), .val (.row false S64)] [.bool] (.pair .bool .unit)⟩ (Try.f33.body.getD .skip) 0 ⟨laws_eqEntryS_P0, laws_eqEntryS_O0, [], [], laws_eqEntryS_k0 N⟩ (laws_eqEntryS_k0 N n k) k x = laws_eqEntryS_k0 N (n + 1) k x := by kernel_rfl
theorem laws_eqEntryS_f_eq (N : Nat) (x0 : (List (ByteArray × ByteArray × Unit))) (x1 : (List (ByteArray × ByteArray × Unit))) : funK laws_eqEntryS_E Try.f33 [.val (.row false S64), .val (.row false S64)] [.bool] (.pair .bool .unit) (fun i => look [(0, ⟨laws_eqEntryS_P0, laws_eqEntryS_O0, [], [], laws_eqEntryS_k0 N⟩)] i) N (x0, x1, ()) = laws_eqEntryS_k N x0 x1 := by kernel_rfl
theorem laws_eqEntryS_o : Known Try.prog 33 ⟨[.val (.row false S64), .val (.row false S64)], [.bool], (.pair .bool .unit), laws_eqEntryS⟩ := known_of (tab := tyTab) (cons := laws_eqEntryS_s) (segs := [(0, ⟨laws_eqEntryS_P0, laws_eqEntryS_O0, [], [], laws_eqEntryS_k0 fuel⟩)]) (n := fuel) mixed_ok tab_ok (.cons laws_eqEntry_o .nil) Try.func33 (by kernel_rfl) ⟨⟨fun _ _ => rfl, fun n k x => laws_eqEntryS_r0 fuel n k x⟩, trivial⟩ (fun x => laws_eqEntryS_f_eq fuel x.1 x.2.1)
def laws_eqHead_k (N : Nat) (x0 : (Int × Int × Int × Unit)) (x1 : (Int × Int × Int × Unit)) : Option (Unit × (Bool × Unit)) :=
  tb (bnot (ieq x0.1 x1.1))
  (some ((), false, ()))
  (tb (bnot (ieq x0.2.1 x1.2.1))
    (some ((), false, ()))
    (tb (bnot (ieq x0.2.2.1 x1.2.2.1))
      (some ((), false, ()))
      (some ((), true, ()))))
def laws_eqHead (x : ((Int × Int × Int × Unit) × (Int × Int × Int × Unit) × Unit)) : Option (Unit × (Bool × Unit)) := laws_eqHead_k fuel x.1 x.2.1
def laws_eqHead_s : List (Nat × Con) := []
def laws_eqHead_E : Env := ⟨fun j => (look tyTab j).getD .unit, fun j => look laws_eqHead_s j⟩
theorem laws_eqHead_f_eq (N : Nat) (x0 : (Int × Int × Int × Unit)) (x1 : (Int × Int × Int × Unit)) : funK laws_eqHead_E Try.f49 [.val S69, .val S69] [.bool] (.pair .bool .unit) (fun i => look [] i) N (x0, x1, ()) = laws_eqHead_k N x0 x1 := by kernel_rfl
theorem laws_eqHead_o : Known Try.prog 49 ⟨[.val S69, .val S69], [.bool], (.pair .bool .unit), laws_eqHead⟩ := known_of (tab := tyTab) (cons := laws_eqHead_s) (segs := []) (n := fuel) mixed_ok tab_ok .nil Try.func49 (by kernel_rfl) trivial (fun x => laws_eqHead_f_eq fuel x.1 x.2.1)
def laws_eqArchive_k (N : Nat) (x0 : (Bool × ((List ByteArray) × (List (Int × ByteArray × Unit)) × Unit) × (Int × Int × Int × Unit) × (List (ByteArray × ByteArray × Unit)) × Unit)) (x1 : (Bool × ((List ByteArray) × (List (Int × ByteArray × Unit)) × Unit) × (Int × Int × Int × Unit) × (List (ByteArray × ByteArray × Unit)) × Unit)) : Option (Unit × (Bool × Unit)) :=
  tb (bnot (beq x0.1 x1.1))
  (some ((), false, ()))
  (obind (laws_eqDisk ((x0.2.1.1, x0.2.1.2.1, ()), (x1.2.1.1, x1.2.1.2.1, ()), ())) fun v0 =>
    tb (bnot v0.2.1)
    (some ((), false, ()))
    (obind (laws_eqHead ((x0.2.2.1.1, x0.2.2.1.2.1, x0.2.2.1.2.2.1, ()), (x1.2.2.1.1, x1.2.2.1.2.1, x1.2.2.1.2.2.1, ()), ())) fun v1 =>
      tb (bnot v1.2.1)
      (some ((), false, ()))
      (obind (laws_eqEntryS (x0.2.2.2.1, x1.2.2.2.1, ())) fun v2 =>
        tb (bnot v2.2.1)
        (some ((), false, ()))
        (some ((), true, ())))))
def laws_eqArchive (x : ((Bool × ((List ByteArray) × (List (Int × ByteArray × Unit)) × Unit) × (Int × Int × Int × Unit) × (List (ByteArray × ByteArray × Unit)) × Unit) × (Bool × ((List ByteArray) × (List (Int × ByteArray × Unit)) × Unit) × (Int × Int × Int × Unit) × (List (ByteArray × ByteArray × Unit)) × Unit) × Unit)) : Option (Unit × (Bool × Unit)) := laws_eqArchive_k fuel x.1 x.2.1
def laws_eqArchive_s : List (Nat × Con) := [(33, ⟨[.val (.row false S64), .val (.row false S64)], [.bool], (.pair .bool .unit), laws_eqEntryS⟩), (40, ⟨[.val S55, .val S55], [.bool], (.pair .bool .unit), laws_eqDisk⟩), (49, ⟨[.val S69, .val S69], [.bool], (.pair .bool .unit), laws_eqHead⟩)]
def laws_eqArchive_E : Env := ⟨fun j => (look tyTab j).getD .unit, fun j => look laws_eqArchive_s j⟩
theorem laws_eqArchive_f_eq (N : Nat) (x0 : (Bool × ((List ByteArray) × (List (Int × ByteArray × Unit)) × Unit) × (Int × Int × Int × Unit) × (List (ByteArray × ByteArray × Unit)) × Unit)) (x1 : (Bool × ((List ByteArray) × (List (Int × ByteArray × Unit)) × Unit) × (Int × Int × Int × Unit) × (List (ByteArray × ByteArray × Unit)) × Unit)) : funK laws_eqArchive_E Try.f55 [.val S78, .val S78] [.bool] (.pair .bool .unit) (fun i => look [] i) N (x0, x1, ()) = laws_eqArchive_k N x0 x1 := by kernel_rfl
theorem laws_eqArchive_o : Known Try.prog 55 ⟨[.val S78, .val S78], [.bool], (.pair .bool .unit), laws_eqArchive⟩ := known_of (tab := tyTab) (cons := laws_eqArchive_s) (segs := []) (n := fuel) mixed_ok tab_ok (.cons laws_eqEntryS_o (.cons laws_eqDisk_o (.cons laws_eqHead_o .nil))) Try.func55 (by kernel_rfl) trivial (fun x => laws_eqArchive_f_eq fuel x.1 x.2.1)
def laws_markEntryS_P0 : Tpl := ⟨[(0, .one (.fix (.ref 500 [] none))), (1, .one (.leaf (.int .i64))), (5, .one (.leaf (.int .i64)))], [], [(500, (.pair .str (.pair .str .unit)))]⟩
def laws_markEntryS_O0 : Tpl := ⟨[(1, .one (.leaf (.int .i64)))], [], [(500, (.pair .str (.pair .str .unit)))]⟩
def laws_markEntryS_k0 (N : Nat) : Nat → (((Int × Unit) × (Unit × ((List (ByteArray × (ByteArray × Unit))) × Unit))) → Option (((List (ByteArray × ByteArray × Unit)) × Unit) × (Int × Unit))) → ((Int × Int × Unit) × (Unit × ((List (ByteArray × (ByteArray × Unit))) × Unit))) → Option (((List (ByteArray × ByteArray × Unit)) × Unit) × (Int × Unit))
  | 0, _, _ => none
  | n + 1, k, x =>
    tb (ilt x.1.2.1 (((llen x.2.2.1) : Nat) : Int))
    (obind (laws_markText (x.1.1, ())) fun v0 =>
      chk ((0 ≤ x.1.2.1) ∧ (x.1.2.1 < (((llen x.2.2.1) : Nat) : Int))) (obind (at? x.2.2.1 (Int.toNat x.1.2.1)) fun v1 =>
        obind (laws_markText ((wr .i64 (x.1.1 + 1)), ())) fun v2 =>
        chk ((0 ≤ x.1.2.1) ∧ (x.1.2.1 < (((llen (lset x.2.2.1 (Int.toNat x.1.2.1) (v0.2.1, v1.2))) : Nat) : Int))) (obind (at? (lset x.2.2.1 (Int.toNat x.1.2.1) (v0.2.1, v1.2)) (Int.toNat x.1.2.1)) fun v3 =>
          laws_markEntryS_k0 N n k (((wr .i64 ((wr .i64 (x.1.1 + 1)) + 1)), (wr .i64 (x.1.2.1 + 1)), ()), (), (lset (lset x.2.2.1 (Int.toNat x.1.2.1) (v0.2.1, v1.2)) (Int.toNat x.1.2.1) (v3.1, v2.2.1, v3.2.2)), ())) (none)) (none))
    (k ((x.1.1, ()), (), x.2.2.1, ()))
def laws_markEntryS_k (N : Nat) (x0 : (List (ByteArray × ByteArray × Unit))) (x1 : Int) : Option (((List (ByteArray × ByteArray × Unit)) × Unit) × (Int × Unit)) :=
  laws_markEntryS_k0 N N (fun v0 =>
    some ((v0.2.2.1, ()), v0.1.1, ())) ((x1, 0, ()), (), x0, ())
def laws_markEntryS (x : ((List (ByteArray × ByteArray × Unit)) × Int × Unit)) : Option (((List (ByteArray × ByteArray × Unit)) × Unit) × (Int × Unit)) := laws_markEntryS_k fuel x.1 x.2.1
def laws_markEntryS_s : List (Nat × Con) := [(84, ⟨[.val (.int .i64)], [.str], (.pair .str .unit), laws_markText⟩)]
def laws_markEntryS_E : Env := ⟨fun j => (look tyTab j).getD .unit, fun j => look laws_markEntryS_s j⟩
theorem laws_markEntryS_r0 (N n : Nat) (k : laws_markEntryS_O0.ty.den → Option (((List (ByteArray × ByteArray × Unit)) × Unit) × (Int × Unit))) (x : laws_markEntryS_P0.ty.den) : roundK laws_markEntryS_E ⟨Try.f34.ntmps, N, (fun i => look [(0, ⟨laws_markEntryS_P0, laws_markEntryS_O0, [], [], laws_markEntryS_k0 N⟩)] i), retK laws_markEntryS_E Try.f34 [.bor (.row true T64), .val (.int .i64)] [(.int .i64)] (.pair (.int .i64) .unit)⟩ (Try.f34.body.getD .skip) 0 ⟨laws_markEntryS_P0, laws_markEntryS_O0, [], [], laws_markEntryS_k0 N⟩ (laws_markEntryS_k0 N n k) k x = laws_markEntryS_k0 N (n + 1) k x := by kernel_rfl
theorem laws_markEntryS_f_eq (N : Nat) (x0 : (List (ByteArray × ByteArray × Unit))) (x1 : Int) : funK laws_markEntryS_E Try.f34 [.bor (.row true T64), .val (.int .i64)] [(.int .i64)] (.pair (.int .i64) .unit) (fun i => look [(0, ⟨laws_markEntryS_P0, laws_markEntryS_O0, [], [], laws_markEntryS_k0 N⟩)] i) N (x0, x1, ()) = laws_markEntryS_k N x0 x1 := by kernel_rfl
theorem laws_markEntryS_o : Known Try.prog 34 ⟨[.bor (.row true T64), .val (.int .i64)], [(.int .i64)], (.pair (.int .i64) .unit), laws_markEntryS⟩ := known_of (tab := tyTab) (cons := laws_markEntryS_s) (segs := [(0, ⟨laws_markEntryS_P0, laws_markEntryS_O0, [], [], laws_markEntryS_k0 fuel⟩)]) (n := fuel) mixed_ok tab_ok (.cons laws_markText_o .nil) Try.func34 (by kernel_rfl) ⟨⟨fun _ _ => rfl, fun n k x => laws_markEntryS_r0 fuel n k x⟩, trivial⟩ (fun x => laws_markEntryS_f_eq fuel x.1 x.2.1)
def laws_markArchive_k (N : Nat) (x0 : (Bool × ((List ByteArray) × (List (Int × ByteArray × Unit)) × Unit) × (Int × Int × Int × Unit) × (List (ByteArray × ByteArray × Unit)) × Unit)) (x1 : Int) : Option (((Unit × ((List ByteArray) × (List (Int × ByteArray × Unit)) × Unit) × (Unit × Unit × Unit × Unit) × (List (ByteArray × ByteArray × Unit)) × Unit) × Unit) × (Int × Unit)) :=
  obind (laws_markDisk ((x0.2.1.1, x0.2.1.2.1, ()), x1, ())) fun v0 =>
  obind (laws_markEntryS (x0.2.2.2.1, v0.2.1, ())) fun v1 =>
  some ((((), (v0.1.1.1, v0.1.1.2.1, ()), ((), (), (), ()), v1.1.1, ()), ()), v1.2.1, ())
def laws_markArchive (x : ((Bool × ((List ByteArray) × (List (Int × ByteArray × Unit)) × Unit) × (Int × Int × Int × Unit) × (List (ByteArray × ByteArray × Unit)) × Unit) × Int × Unit)) : Option (((Unit × ((List ByteArray) × (List (Int × ByteArray × Unit)) × Unit) × (Unit × Unit × Unit × Unit) × (List (ByteArray × ByteArray × Unit)) × Unit) × Unit) × (Int × Unit)) := laws_markArchive_k fuel x.1 x.2.1
def laws_markArchive_s : List (Nat × Con) := [(34, ⟨[.bor (.row true T64), .val (.int .i64)], [(.int .i64)], (.pair (.int .i64) .unit), laws_markEntryS⟩), (41, ⟨[.bor T55, .val (.int .i64)], [(.int .i64)], (.pair (.int .i64) .unit), laws_markDisk⟩)]
def laws_markArchive_E : Env := ⟨fun j => (look tyTab j).getD .unit, fun j => look laws_markArchive_s j⟩
theorem laws_markArchive_f_eq (N : Nat) (x0 : (Bool × ((List ByteArray) × (List (Int × ByteArray × Unit)) × Unit) × (Int × Int × Int × Unit) × (List (ByteArray × ByteArray × Unit)) × Unit)) (x1 : Int) : funK laws_markArchive_E Try.f56 [.bor T78, .val (.int .i64)] [(.int .i64)] (.pair (.int .i64) .unit) (fun i => look [] i) N (x0, x1, ()) = laws_markArchive_k N x0 x1 := by kernel_rfl
theorem laws_markArchive_o : Known Try.prog 56 ⟨[.bor T78, .val (.int .i64)], [(.int .i64)], (.pair (.int .i64) .unit), laws_markArchive⟩ := known_of (tab := tyTab) (cons := laws_markArchive_s) (segs := []) (n := fuel) mixed_ok tab_ok (.cons laws_markEntryS_o (.cons laws_markDisk_o .nil)) Try.func56 (by kernel_rfl) trivial (fun x => laws_markArchive_f_eq fuel x.1 x.2.1)
def laws_heldEntryS_P0 : Tpl := ⟨[(0, .one (.leaf (.row false (.pair .str (.pair .str .unit))))), (1, .one (.leaf (.int .i64))), (5, .one (.leaf (.int .i64)))], [], []⟩
def laws_heldEntryS_O0 : Tpl := ⟨[(1, .one (.leaf (.int .i64)))], [], []⟩
def laws_heldEntryS_k0 (N : Nat) : Nat → (((Int × Unit) × (Unit × Unit)) → Option (Unit × (Int × Unit))) → (((List (ByteArray × (ByteArray × Unit))) × Int × Int × Unit) × (Unit × Unit)) → Option (Unit × (Int × Unit))
  | 0, _, _ => none
  | n + 1, k, x =>
    tb (ilt x.1.2.2.1 (((llen x.1.1) : Nat) : Int))
    (chk (0 ≤ x.1.2.2.1) (obind (at? x.1.1 (Int.toNat x.1.2.2.1)) fun v0 =>
        obind (laws_markText (x.1.2.1, ())) fun v1 =>
        tb (bnot (seq v0.1 v1.2.1))
        (some ((), (-1), ()))
        (chk (0 ≤ x.1.2.2.1) (obind (at? x.1.1 (Int.toNat x.1.2.2.1)) fun v2 =>
            obind (laws_markText ((wr .i64 (x.1.2.1 + 1)), ())) fun v3 =>
            tb (bnot (seq v2.2.1 v3.2.1))
            (some ((), (-1), ()))
            (laws_heldEntryS_k0 N n k ((x.1.1, (wr .i64 ((wr .i64 (x.1.2.1 + 1)) + 1)), (wr .i64 (x.1.2.2.1 + 1)), ()), (), ()))) (none))) (none))
    (k ((x.1.2.1, ()), (), ()))
def laws_heldEntryS_k (N : Nat) (x0 : (List (ByteArray × ByteArray × Unit))) (x1 : Int) : Option (Unit × (Int × Unit)) :=
  laws_heldEntryS_k0 N N (fun v0 =>
    some ((), v0.1.1, ())) ((x0, x1, 0, ()), (), ())
def laws_heldEntryS (x : ((List (ByteArray × ByteArray × Unit)) × Int × Unit)) : Option (Unit × (Int × Unit)) := laws_heldEntryS_k fuel x.1 x.2.1
def laws_heldEntryS_s : List (Nat × Con) := [(84, ⟨[.val (.int .i64)], [.str], (.pair .str .unit), laws_markText⟩)]
def laws_heldEntryS_E : Env := ⟨fun j => (look tyTab j).getD .unit, fun j => look laws_heldEntryS_s j⟩
theorem laws_heldEntryS_r0 (N n : Nat) (k : laws_heldEntryS_O0.ty.den → Option (Unit × (Int × Unit))) (x : laws_heldEntryS_P0.ty.den) : roundK laws_heldEntryS_E ⟨Try.f35.ntmps, N, (fun i => look [(0, ⟨laws_heldEntryS_P0, laws_heldEntryS_O0, [], [], laws_heldEntryS_k0 N⟩)] i), retK laws_heldEntryS_E Try.f35 [.val (.row false S64), .val (.int .i64)] [(.int .i64)] (.pair (.int .i64) .unit)⟩ (Try.f35.body.getD .skip) 0 ⟨laws_heldEntryS_P0, laws_heldEntryS_O0, [], [], laws_heldEntryS_k0 N⟩ (laws_heldEntryS_k0 N n k) k x = laws_heldEntryS_k0 N (n + 1) k x := by kernel_rfl
theorem laws_heldEntryS_f_eq (N : Nat) (x0 : (List (ByteArray × ByteArray × Unit))) (x1 : Int) : funK laws_heldEntryS_E Try.f35 [.val (.row false S64), .val (.int .i64)] [(.int .i64)] (.pair (.int .i64) .unit) (fun i => look [(0, ⟨laws_heldEntryS_P0, laws_heldEntryS_O0, [], [], laws_heldEntryS_k0 N⟩)] i) N (x0, x1, ()) = laws_heldEntryS_k N x0 x1 := by kernel_rfl
theorem laws_heldEntryS_o : Known Try.prog 35 ⟨[.val (.row false S64), .val (.int .i64)], [(.int .i64)], (.pair (.int .i64) .unit), laws_heldEntryS⟩ := known_of (tab := tyTab) (cons := laws_heldEntryS_s) (segs := [(0, ⟨laws_heldEntryS_P0, laws_heldEntryS_O0, [], [], laws_heldEntryS_k0 fuel⟩)]) (n := fuel) mixed_ok tab_ok (.cons laws_markText_o .nil) Try.func35 (by kernel_rfl) ⟨⟨fun _ _ => rfl, fun n k x => laws_heldEntryS_r0 fuel n k x⟩, trivial⟩ (fun x => laws_heldEntryS_f_eq fuel x.1 x.2.1)
def laws_heldArchive_k (N : Nat) (x0 : (Bool × ((List ByteArray) × (List (Int × ByteArray × Unit)) × Unit) × (Int × Int × Int × Unit) × (List (ByteArray × ByteArray × Unit)) × Unit)) (x1 : Int) : Option (Unit × (Int × Unit)) :=
  obind (laws_heldDisk ((x0.2.1.1, x0.2.1.2.1, ()), x1, ())) fun v0 =>
  tb (ilt v0.2.1 0)
  (some ((), (-1), ()))
  (obind (laws_heldEntryS (x0.2.2.2.1, v0.2.1, ())) fun v1 =>
    tb (ilt v1.2.1 0)
    (some ((), (-1), ()))
    (some ((), v1.2.1, ())))
def laws_heldArchive (x : ((Bool × ((List ByteArray) × (List (Int × ByteArray × Unit)) × Unit) × (Int × Int × Int × Unit) × (List (ByteArray × ByteArray × Unit)) × Unit) × Int × Unit)) : Option (Unit × (Int × Unit)) := laws_heldArchive_k fuel x.1 x.2.1
def laws_heldArchive_s : List (Nat × Con) := [(35, ⟨[.val (.row false S64), .val (.int .i64)], [(.int .i64)], (.pair (.int .i64) .unit), laws_heldEntryS⟩), (42, ⟨[.val S55, .val (.int .i64)], [(.int .i64)], (.pair (.int .i64) .unit), laws_heldDisk⟩)]
def laws_heldArchive_E : Env := ⟨fun j => (look tyTab j).getD .unit, fun j => look laws_heldArchive_s j⟩
theorem laws_heldArchive_f_eq (N : Nat) (x0 : (Bool × ((List ByteArray) × (List (Int × ByteArray × Unit)) × Unit) × (Int × Int × Int × Unit) × (List (ByteArray × ByteArray × Unit)) × Unit)) (x1 : Int) : funK laws_heldArchive_E Try.f57 [.val S78, .val (.int .i64)] [(.int .i64)] (.pair (.int .i64) .unit) (fun i => look [] i) N (x0, x1, ()) = laws_heldArchive_k N x0 x1 := by kernel_rfl
theorem laws_heldArchive_o : Known Try.prog 57 ⟨[.val S78, .val (.int .i64)], [(.int .i64)], (.pair (.int .i64) .unit), laws_heldArchive⟩ := known_of (tab := tyTab) (cons := laws_heldArchive_s) (segs := []) (n := fuel) mixed_ok tab_ok (.cons laws_heldEntryS_o (.cons laws_heldDisk_o .nil)) Try.func57 (by kernel_rfl) trivial (fun x => laws_heldArchive_f_eq fuel x.1 x.2.1)
def laws_FnExactArchiveNew_k (N : Nat)  : Option (Unit × (Bool × Unit)) :=
  obind (spec_ArchiveNew ()) fun v0 =>
  obind (impl_ArchiveNew ()) fun v1 =>
  obind (laws_eqArchive ((v1.2.1.1, (v1.2.1.2.1.1, v1.2.1.2.1.2.1, ()), (v1.2.1.2.2.1.1, v1.2.1.2.2.1.2.1, v1.2.1.2.2.1.2.2.1, ()), v1.2.1.2.2.2.1, ()), (v0.2.1.1, (v0.2.1.2.1.1, v0.2.1.2.1.2.1, ()), (v0.2.1.2.2.1.1, v0.2.1.2.2.1.2.1, v0.2.1.2.2.1.2.2.1, ()), v0.2.1.2.2.2.1, ()), ())) fun v2 =>
  tb (bnot v2.2.1)
  (some ((), false, ()))
  (obind (laws_markArchive ((v1.2.1.1, (v1.2.1.2.1.1, v1.2.1.2.1.2.1, ()), (v1.2.1.2.2.1.1, v1.2.1.2.2.1.2.1, v1.2.1.2.2.1.2.2.1, ()), v1.2.1.2.2.2.1, ()), 1, ())) fun v3 =>
    obind (laws_heldArchive ((v1.2.1.1, (v3.1.1.2.1.1, v3.1.1.2.1.2.1, ()), (v1.2.1.2.2.1.1, v1.2.1.2.2.1.2.1, v1.2.1.2.2.1.2.2.1, ()), v3.1.1.2.2.2.1, ()), 1, ())) fun v4 =>
    tb (ilt v4.2.1 0)
    (some ((), false, ()))
    (tb (bnot (ieq v4.2.1 v3.2.1))
      (some ((), false, ()))
      (obind (impl_ArchiveNew ()) fun v5 =>
        obind (laws_eqArchive ((v5.2.1.1, (v5.2.1.2.1.1, v5.2.1.2.1.2.1, ()), (v5.2.1.2.2.1.1, v5.2.1.2.2.1.2.1, v5.2.1.2.2.1.2.2.1, ()), v5.2.1.2.2.2.1, ()), (v0.2.1.1, (v0.2.1.2.1.1, v0.2.1.2.1.2.1, ()), (v0.2.1.2.2.1.1, v0.2.1.2.2.1.2.1, v0.2.1.2.2.1.2.2.1, ()), v0.2.1.2.2.2.1, ()), ())) fun v6 =>
        tb (bnot v6.2.1)
        (some ((), false, ()))
        (obind (laws_heldArchive ((v1.2.1.1, (v3.1.1.2.1.1, v3.1.1.2.1.2.1, ()), (v1.2.1.2.2.1.1, v1.2.1.2.2.1.2.1, v1.2.1.2.2.1.2.2.1, ()), v3.1.1.2.2.2.1, ()), 1, ())) fun v7 =>
          tb (ilt v7.2.1 0)
          (some ((), false, ()))
          (tb (bnot (ieq v7.2.1 v3.2.1))
            (some ((), false, ()))
            (some ((), true, ())))))))
def laws_FnExactArchiveNew (x : Unit) : Option (Unit × (Bool × Unit)) := laws_FnExactArchiveNew_k fuel 
def laws_FnExactArchiveNew_s : List (Nat × Con) := [(53, ⟨[], [T78], (.pair T78 .unit), spec_ArchiveNew⟩), (54, ⟨[], [T78], (.pair T78 .unit), impl_ArchiveNew⟩), (55, ⟨[.val S78, .val S78], [.bool], (.pair .bool .unit), laws_eqArchive⟩), (56, ⟨[.bor T78, .val (.int .i64)], [(.int .i64)], (.pair (.int .i64) .unit), laws_markArchive⟩), (57, ⟨[.val S78, .val (.int .i64)], [(.int .i64)], (.pair (.int .i64) .unit), laws_heldArchive⟩)]
def laws_FnExactArchiveNew_E : Env := ⟨fun j => (look tyTab j).getD .unit, fun j => look laws_FnExactArchiveNew_s j⟩
theorem laws_FnExactArchiveNew_f_eq (N : Nat)  : funK laws_FnExactArchiveNew_E Try.f10 [] [.bool] (.pair .bool .unit) (fun i => look [] i) N () = laws_FnExactArchiveNew_k N  := by kernel_rfl
theorem laws_FnExactArchiveNew_o : Known Try.prog 10 ⟨[], [.bool], (.pair .bool .unit), laws_FnExactArchiveNew⟩ := known_of (tab := tyTab) (cons := laws_FnExactArchiveNew_s) (segs := []) (n := fuel) mixed_ok tab_ok (.cons spec_ArchiveNew_o (.cons impl_ArchiveNew_o (.cons laws_eqArchive_o (.cons laws_markArchive_o (.cons laws_heldArchive_o .nil))))) Try.func10 (by kernel_rfl) trivial (fun x => laws_FnExactArchiveNew_f_eq fuel )
attribute [irreducible] fuel
end Go.Proofs.Ytaakhgjlekllgaa.V
namespace Go.Proofs.Ytaakhgjlekllgaa.V
open Go Go.RowKit
theorem bytes_length (s : ByteArray) : (bytesOf s).length = s.size := by simp [bytesOf]
theorem bytes_get {s : ByteArray} {i : Nat} (h : i < s.size) : (bytesOf s)[i]? = some (bt s (i : Int)) := by
  have h' : i < s.data.toList.length := by simpa using h
  simp only [bytesOf, List.getElem?_map, List.getElem?_eq_getElem h', Option.map_some, bt]
  rw [dif_pos (by simpa using h)]
  rfl
theorem strOf_size (l : List Int) : (strOf l).size = l.length := by
  show (l.map _).toArray.size = _
  simp
theorem strOf_append (a b : List Int) : strOf a ++ strOf b = strOf (a ++ b) := by
  apply ByteArray.ext
  simp [strOf]
theorem strOf_bytes (s : ByteArray) : strOf (bytesOf s) = s := by
  apply ByteArray.ext
  simp only [strOf, bytesOf, List.map_map]
  have : ((fun n : Int => UInt8.ofNat n.toNat) ∘ fun b : UInt8 => (b.toNat : Int)) = id := by
    funext b; simp
  rw [this]; simp
theorem lcut_length {α : Type} (l : List α) (a b : Nat) (h : b ≤ l.length) : (lcut l a b).length = b - a := by
  simp only [lcut, List.length_drop, List.length_take]; omega
theorem scut_strOf (l : List Int) (a b : Nat) : scut (strOf l) a b = strOf (lcut l a b) := by
  apply ByteArray.ext
  apply Array.ext'
  simp only [scut, ByteArray.data_extract, strOf, Array.toList_extract, List.extract_eq_take_drop, lcut, List.map_drop, List.map_take, List.drop_take]
theorem scut_bytes (s : ByteArray) (a b : Nat) : scut s a b = strOf (lcut (bytesOf s) a b) := by
  rw [← scut_strOf, strOf_bytes]
theorem lcut_get {α : Type} (l : List α) (a b i : Nat) : (lcut l a b)[i]? = if a + i < b then l[a + i]? else none := by
  simp only [lcut, List.getElem?_drop, List.getElem?_take]
end Go.Proofs.Ytaakhgjlekllgaa.V
namespace Go.Proofs.Ytaakhgjlekllgaa.V
open Go Go.RowKit
theorem fuel_gt : 140737488351232 < fuel := by unfold fuel; omega
theorem all_loop {α S R : Type} {k : Nat → S → Option R} (st : Nat → S) (fin bad : Option R) (p : α → Bool) (xs : List α) (hend : ∀ n, k (n + 1) (st xs.length) = fin) (hstep : ∀ n i x, xs[i]? = some x → k (n + 1) (st i) = if p x = true then k n (st (i + 1)) else bad) :
    ∀ (post pre : List α) (n : Nat), xs = pre ++ post → post.length < n → k n (st pre.length) = if post.all p = true then fin else bad
  | [], pre, n, he, hn => by
    obtain ⟨m, rfl⟩ : ∃ m, n = m + 1 := ⟨n - 1, by simp at hn; omega⟩
    rw [show pre.length = xs.length by rw [he]; simp, hend]
    simp
  | x :: post, pre, n, he, hn => by
    obtain ⟨m, rfl⟩ : ∃ m, n = m + 1 := ⟨n - 1, by simp at hn; omega⟩
    rw [hstep m pre.length x (by rw [he]; exact get_split pre x post)]
    have := all_loop st fin bad p xs hend hstep post (pre ++ [x]) m (by rw [he]; simp) (by simp at hn; omega)
    rw [show (pre ++ [x]).length = pre.length + 1 by simp] at this
    rw [this, List.all_cons]
    cases p x <;> simp
theorem lt_of_get {α : Type} {xs : List α} {i : Nat} {x : α} (h : xs[i]? = some x) : i < xs.length := (List.getElem?_eq_some_iff.1 h).1
theorem mark_loop0 {K} : ∀ (n x : Nat) (s : ByteArray) (m : Nat), x < n → s.size + x ≤ 2199023255552 → x < m → (∃ r, laws_markText_k0 fuel m K (((x : Int), s, ()), (), ()) = K ((r, ()), (), ()) ∧ r.size ≤ 2199023255552)
  | 0, x, s, m, h, _, _ => by omega
  | n + 1, x, s, m, h, hs, hm => by
    obtain ⟨m, rfl⟩ : ∃ k, m = k + 1 := ⟨m - 1, by omega⟩
    rw [laws_markText_k0]
    simp only
    by_cases hx : x = 0
    · subst hx
      rw [tb_neg (ilt_f (by omega))]
      exact ⟨s, rfl, by omega⟩
    · have e1 : wr .i64 (Int.tdiv (x : Int) 10) = ((x / 10 : Nat) : Int) := by
        rw [Int.tdiv_eq_ediv_of_nonneg (by omega), wr64 (by omega) (by omega)]; omega
      have hz : ∀ y, (strOf [y]).size = 1 := fun y => rfl
      rw [tb_pos (ilt_t (by omega)), chk_neg (by decide), chk_pos (by simp only [plus, slen, hz, slim]; omega), chk_neg (by decide), e1]
      refine mark_loop0 n (x / 10) _ m (by omega) ?_ (by omega)
      rw [show (sapp (strOf [wr .u8 (wr .i64 (48 + Int.tmod (x : Int) 10))]) s).size = 1 + s.size by simp [sapp, hz]]
      omega
def mt (m : Int) : ByteArray := match laws_markText (m, ()) with | some r => r.2.1 | none => ⟨#[]⟩
theorem markText {m : Int} (h0 : 0 ≤ m) (h1 : m ≤ 1099511627777) : laws_markText (m, ()) = some ((), mt m, ()) := by
  have key : ∃ r, laws_markText (m, ()) = some ((), r, ()) := by
    unfold laws_markText laws_markText_k
    simp only
    by_cases h : m ≤ 0
    · rw [tb_pos (ile_t h)]; exact ⟨_, rfl⟩
    · rw [tb_neg (ile_f (by omega))]
      obtain ⟨x, rfl⟩ := Int.eq_ofNat_of_zero_le h0
      obtain ⟨r, e, hr⟩ := mark_loop0 (K := fun v0 => chk ((plus (slen (⟨#[109]⟩ : ByteArray)) (slen v0.1.1)) < slim) (some ((), (sapp (⟨#[109]⟩ : ByteArray) v0.1.1), ())) none) (x + 1) x ⟨#[]⟩ fuel (by omega) (by show 0 + x ≤ _; omega) (by unfold fuel; omega)
      rw [e]
      simp only
      rw [chk_pos (by simp only [plus, slen, slim]; show 1 + _ < _; omega)]
      exact ⟨_, rfl⟩
  obtain ⟨r, e⟩ := key
  unfold mt
  rw [e]
theorem szStringS : SzOk (fun xs s => laws_szStringS (xs, s, ())) (BL (fun v => ByteArray.size v ≤ 140737488351232)) (wL (fun v => ByteArray.size v)) :=
  szS_ok fuel_gt (fun _ _ => rfl) (k := laws_szStringS_k0 fuel) (fun _ _ _ => rfl) szStr_ok
theorem toStringS : ToOk (fun xs => laws_toStringS (xs, ())) (fun xs => xs.length ≤ 1048576 ∧ ∀ x ∈ xs, True) :=
  toS_ok fuel_gt (by decide) (fun _ => rfl) (k := laws_toStringS_k0 fuel) (e := fun v => some ((), v, ())) (fun _ _ _ => rfl) (fun _ _ => rfl)
theorem eqStringS : EqOk (fun xs ys => laws_eqStringS (xs, ys, ())) (BL (fun _ => True)) :=
  eqS_ok fuel_gt (fun _ _ => rfl) (k := laws_eqStringS_k0 fuel) (e := fun v u => some ((), seq v u, ())) (fun _ _ _ => rfl) eqStr_ok
def mkStr (_ : ByteArray) (m : Int) : ByteArray × Int := (mt m, m + 1)
theorem markStringS_step : MarkStep (laws_markStringS_k0 fuel) mkStr (fun _ => True) (fun _ => 1) := by
  refine ⟨fun n K m i xs h => ?_, fun n K m i xs x hx hl hB h0 h1 => ?_⟩
  · rw [laws_markStringS_k0]
    simp only
    rw [tb_neg (ilt_f (by simp only [llen]; omega))]
  · have hi := lt_of_get hx
    rw [laws_markStringS_k0]
    simp only
    rw [tb_pos (ilt_t (by simp only [llen]; omega)), obind_eq (markText h0 (by omega)), chk_pos (by simp only [llen]; omega), obind_eq (at_some hx), wr64 (by omega) (by omega), wr_succ (by omega)]
    rfl
theorem heldStringS_step : HeldStep (laws_heldStringS_k0 fuel) mkStr (fun _ => True) (fun _ => 1) := by
  refine ⟨fun n K m i xs h => ?_, fun n K m i xs x hx hl hB h0 h1 => ?_⟩
  · rw [laws_heldStringS_k0]
    simp only
    rw [tb_neg (ilt_f (by simp only [llen]; omega))]
  · have hi := lt_of_get hx
    rw [laws_heldStringS_k0]
    simp only
    rw [tb_pos (ilt_t (by simp only [llen]; omega)), chk_pos (by omega), obind_eq (at_some hx), obind_eq (markText h0 (by omega))]
    simp only [mkStr, seq_self]
    rw [tb_nt, wr64 (by omega) (by omega), wr_succ (by omega)]
theorem mkStr_le (x : ByteArray) (m : Int) (_ : True) (_ : 0 ≤ m) (_ : m + ((1 : Nat) : Int) ≤ 1099511627776) : m ≤ (mkStr x m).2 ∧ (mkStr x m).2 ≤ m + ((1 : Nat) : Int) := by
  simp only [mkStr]; omega
abbrev Pt := Int × ByteArray × Unit
theorem szPut : SzOk (fun (v : Pt) s => laws_szPut ((v.1, v.2.1, ()), s, ())) (fun v => ByteArray.size v.2.1 ≤ 140737488351232) (fun v => ByteArray.size v.2.1) := by
  intro v s hB h0 h1
  have hw : wr .i64 (s - ((slen v.2.1 : Nat) : Int)) = s - (v.2.1.size : Int) := wr64 (by simp only [slen]; omega) (by simp only [slen]; omega)
  simp only [laws_szPut, laws_szPut_k, hw]
  by_cases h : s - (v.2.1.size : Int) < 0
  · exact ⟨-1, tb_pos (ilt_t h) _ _, .inl (by omega)⟩
  · exact ⟨_, tb_neg (ilt_f (by omega)) _ _, .inr (by omega)⟩
theorem szPutS : SzOk (fun xs s => laws_szPutS (xs, s, ())) (BL (fun v : Pt => ByteArray.size v.2.1 ≤ 140737488351232)) (wL (fun v : Pt => ByteArray.size v.2.1)) :=
  szS_ok fuel_gt (fun _ _ => rfl) (k := laws_szPutS_k0 fuel) (fun _ _ _ => rfl) szPut
theorem toPutS : ToOk (fun xs => laws_toPutS (xs, ())) (fun xs => xs.length ≤ 1048576 ∧ ∀ x ∈ xs, True) :=
  toS_ok fuel_gt (by decide) (fun _ => rfl) (k := laws_toPutS_k0 fuel) (e := fun v => laws_toPut ((v.1, v.2.1, ()), ())) (fun _ _ _ => rfl) (fun _ _ => rfl)
theorem eqPut : EqOk (fun (v u : Pt) => laws_eqPut ((v.1, v.2.1, ()), (u.1, u.2.1, ()), ())) (fun _ => True) := by
  intro v _
  simp only [laws_eqPut, laws_eqPut_k, ieq_self, seq_self, tb_nt]
theorem eqPutS : EqOk (fun xs ys => laws_eqPutS (xs, ys, ())) (BL (fun _ => True)) :=
  eqS_ok fuel_gt (fun _ _ => rfl) (k := laws_eqPutS_k0 fuel) (fun _ _ _ => rfl) eqPut
def mkPut (_ : Pt) (m : Int) : Pt × Int := ((m, mt (m + 1), ()), m + 2)
theorem mkPut_le (x : Pt) (m : Int) (_ : True) (_ : 0 ≤ m) (_ : m + ((2 : Nat) : Int) ≤ 1099511627776) : m ≤ (mkPut x m).2 ∧ (mkPut x m).2 ≤ m + ((2 : Nat) : Int) := by
  simp only [mkPut]; omega
theorem markPutS_step : MarkStep (laws_markPutS_k0 fuel) mkPut (fun _ => True) (fun _ => 2) := by
  refine ⟨fun n K m i xs h => ?_, fun n K m i xs x hx hl hB h0 h1 => ?_⟩
  · rw [laws_markPutS_k0]
    simp only
    rw [tb_neg (ilt_f (by simp only [llen]; omega))]
  · have hi := lt_of_get hx
    rw [laws_markPutS_k0]
    simp only
    rw [tb_pos (ilt_t (by simp only [llen]; omega)), chk_pos (by simp only [llen]; omega), obind_eq (at_some hx), wr64 (n := m + 1) (by omega) (by omega), obind_eq (markText (by omega) (by omega)), chk_pos (by simp only [llen, lset, List.length_set]; omega),
      obind_eq (at_some (x := (m, x.2)) (by simp [lset, hi])), wr64 (by omega) (by omega), wr_succ (by omega)]
    simp [lset, mkPut, Int.add_assoc]
theorem heldPutS_step : HeldStep (laws_heldPutS_k0 fuel) mkPut (fun _ => True) (fun _ => 2) := by
  refine ⟨fun n K m i xs h => ?_, fun n K m i xs x hx hl hB h0 h1 => ?_⟩
  · rw [laws_heldPutS_k0]
    simp only
    rw [tb_neg (ilt_f (by simp only [llen]; omega))]
  · have hi := lt_of_get hx
    rw [laws_heldPutS_k0]
    simp only
    rw [tb_pos (ilt_t (by simp only [llen]; omega)), chk_pos (by omega), obind_eq (at_some hx)]
    simp only [mkPut, ieq_self]
    rw [tb_nt, chk_pos (by omega), obind_eq (at_some hx), wr64 (n := m + 1) (by omega) (by omega), obind_eq (markText (by omega) (by omega))]
    simp only [mkPut, seq_self]
    rw [tb_nt, wr64 (by omega) (by omega), wr_succ (by omega)]
    simp [Int.add_assoc]
abbrev Dk := List ByteArray × List Pt × Unit
def DkB (d : Dk) : Prop := BL (fun v => ByteArray.size v ≤ 140737488351232) d.1 ∧ BL (fun v : Pt => ByteArray.size v.2.1 ≤ 140737488351232) d.2.1
def dkW (d : Dk) : Nat := wL (fun v => ByteArray.size v) d.1 + wL (fun v : Pt => ByteArray.size v.2.1) d.2.1
theorem szDisk : SzOk (fun (d : Dk) s => laws_szDisk ((d.1, d.2.1, ()), s, ())) DkB dkW := by
  intro d s hB h0 h1
  obtain ⟨r, e1, e2⟩ := szStringS d.1 s hB.1 h0 h1
  simp only at e1
  simp only [laws_szDisk, laws_szDisk_k, obind_eq e1]
  rcases e2 with e2 | ⟨e2, e3⟩
  · exact ⟨-1, tb_pos (ilt_t e2) _ _, .inl (by omega)⟩
  · rw [tb_neg (ilt_f e2)]
    obtain ⟨r', g1, g2⟩ := szPutS d.2.1 r hB.2 e2 (by omega)
    simp only at g1
    rw [obind_eq g1]
    simp only
    rcases g2 with g2 | ⟨g2, g3⟩
    · exact ⟨-1, tb_pos (ilt_t g2) _ _, .inl (by omega)⟩
    · exact ⟨r', tb_neg (ilt_f g2) _ _, .inr ⟨g2, by simp only [dkW]; omega⟩⟩
theorem toDisk {d : Dk} (h : dkW d ≤ 1048576) : laws_toDisk ((d.1, d.2.1, ()), ()) = some ((), d, ()) := by
  simp only [dkW, wL] at h
  have e1 := toStringS d.1 ⟨by omega, fun _ _ => trivial⟩
  have e2 := toPutS d.2.1 ⟨by omega, fun _ _ => trivial⟩
  simp only at e1 e2
  simp only [laws_toDisk, laws_toDisk_k, obind_eq e1, obind_eq e2]
theorem eqDisk {d : Dk} (h1 : d.1.length ≤ 140737488351232) (h2 : d.2.1.length ≤ 140737488351232) : laws_eqDisk ((d.1, d.2.1, ()), (d.1, d.2.1, ()), ()) = some ((), true, ()) := by
  have e1 := eqStringS d.1 ⟨h1, fun _ _ => trivial⟩
  have e2 := eqPutS d.2.1 ⟨h2, fun _ _ => trivial⟩
  simp only at e1 e2
  simp only [laws_eqDisk, laws_eqDisk_k, obind_eq e1, obind_eq e2, tb_nt]
theorem sumL_const {α : Type} (c : Nat) : ∀ l : List α, sumL (fun _ => c) l = c * l.length
  | [] => rfl
  | x :: l => by simp only [sumL, sumL_const c l, List.length_cons, Nat.mul_succ]; omega
def mkDk (d : Dk) (m : Int) : Dk × Int := (((marksL mkStr d.1 m).1, (marksL mkPut d.2.1 (marksL mkStr d.1 m).2).1, ()), (marksL mkPut d.2.1 (marksL mkStr d.1 m).2).2)
theorem mkStr_row {l : List ByteArray} {m : Int} (h0 : 0 ≤ m) (h1 : m + l.length ≤ 1099511627776) : m ≤ (marksL mkStr l m).2 ∧ (marksL mkStr l m).2 ≤ m + l.length := by
  have := marksL_le (B := fun _ => True) (w := fun _ => 1) mkStr_le l m (fun _ _ => trivial) h0 (by rw [sumL_const]; omega)
  rw [sumL_const] at this
  omega
theorem mkPut_row {l : List Pt} {m : Int} (h0 : 0 ≤ m) (h1 : m + 2 * l.length ≤ 1099511627776) : m ≤ (marksL mkPut l m).2 ∧ (marksL mkPut l m).2 ≤ m + 2 * l.length := by
  have := marksL_le (B := fun _ => True) (w := fun _ => 2) mkPut_le l m (fun _ _ => trivial) h0 (by rw [sumL_const]; omega)
  rw [sumL_const] at this
  omega
theorem markStringS {l : List ByteArray} {m : Int} (h0 : 0 ≤ m) (hl : l.length ≤ 140737488351232) (h1 : m + l.length ≤ 1099511627776) : laws_markStringS (l, m, ()) = some (((marksL mkStr l m).1, ()), (marksL mkStr l m).2, ()) := by
  have := mark_loop markStringS_step (B := fun _ => True) (w := fun _ => 1) mkStr_le (fun v0 => some ((v0.2.2.1, ()), v0.1.1, ())) l [] m fuel (fun _ _ => trivial) h0 (by rw [sumL_const]; omega) (by simpa using hl) (by have := fuel_gt; omega)
  simpa [laws_markStringS, laws_markStringS_k] using this
theorem markPutS {l : List Pt} {m : Int} (h0 : 0 ≤ m) (hl : l.length ≤ 140737488351232) (h1 : m + 2 * l.length ≤ 1099511627776) : laws_markPutS (l, m, ()) = some (((marksL mkPut l m).1, ()), (marksL mkPut l m).2, ()) := by
  have := mark_loop markPutS_step (B := fun _ => True) (w := fun _ => 2) mkPut_le (fun v0 => some ((v0.2.2.1, ()), v0.1.1, ())) l [] m fuel (fun _ _ => trivial) h0 (by rw [sumL_const]; omega) (by simpa using hl) (by have := fuel_gt; omega)
  simpa [laws_markPutS, laws_markPutS_k] using this
theorem heldStringS {l : List ByteArray} {m : Int} (h0 : 0 ≤ m) (hl : l.length ≤ 140737488351232) (h1 : m + l.length ≤ 1099511627776) : laws_heldStringS ((marksL mkStr l m).1, m, ()) = some ((), (marksL mkStr l m).2, ()) := by
  have := held_loop heldStringS_step (B := fun _ => True) (w := fun _ => 1) mkStr_le (fun v0 => some ((), v0.1.1, ())) l [] m fuel (fun _ _ => trivial) h0 (by rw [sumL_const]; omega) (by simpa using hl) (by have := fuel_gt; omega)
  simpa [laws_heldStringS, laws_heldStringS_k] using this
theorem heldPutS {l : List Pt} {m : Int} (h0 : 0 ≤ m) (hl : l.length ≤ 140737488351232) (h1 : m + 2 * l.length ≤ 1099511627776) : laws_heldPutS ((marksL mkPut l m).1, m, ()) = some ((), (marksL mkPut l m).2, ()) := by
  have := held_loop heldPutS_step (B := fun _ => True) (w := fun _ => 2) mkPut_le (fun v0 => some ((), v0.1.1, ())) l [] m fuel (fun _ _ => trivial) h0 (by rw [sumL_const]; omega) (by simpa using hl) (by have := fuel_gt; omega)
  simpa [laws_heldPutS, laws_heldPutS_k] using this
theorem mkDk_le {d : Dk} {m : Int} (h0 : 0 ≤ m) (h1 : m + d.1.length + 2 * d.2.1.length ≤ 1099511627776) : m ≤ (mkDk d m).2 ∧ (mkDk d m).2 ≤ m + d.1.length + 2 * d.2.1.length := by
  have a := mkStr_row (l := d.1) h0 (by omega)
  have b := mkPut_row (l := d.2.1) (m := (marksL mkStr d.1 m).2) (by omega) (by omega)
  simp only [mkDk]; omega
theorem markDisk {d : Dk} {m : Int} (h0 : 0 ≤ m) (hl : d.1.length ≤ 140737488351232) (hl' : d.2.1.length ≤ 140737488351232) (h1 : m + d.1.length + 2 * d.2.1.length ≤ 1099511627776) : laws_markDisk ((d.1, d.2.1, ()), m, ()) = some (((mkDk d m).1, ()), (mkDk d m).2, ()) := by
  have a := mkStr_row (l := d.1) h0 (by omega)
  simp only [laws_markDisk, laws_markDisk_k, obind_eq (markStringS (l := d.1) h0 hl (by omega)), obind_eq (markPutS (l := d.2.1) (m := (marksL mkStr d.1 m).2) (by omega) hl' (by omega))]
  rfl
theorem heldDisk {d : Dk} {m : Int} (h0 : 0 ≤ m) (hl : d.1.length ≤ 140737488351232) (hl' : d.2.1.length ≤ 140737488351232) (h1 : m + d.1.length + 2 * d.2.1.length ≤ 1099511627776) : laws_heldDisk (((mkDk d m).1.1, (mkDk d m).1.2.1, ()), m, ()) = some ((), (mkDk d m).2, ()) := by
  have a := mkStr_row (l := d.1) h0 (by omega)
  have b := mkPut_row (l := d.2.1) (m := (marksL mkStr d.1 m).2) (by omega) (by omega)
  simp only [laws_heldDisk, laws_heldDisk_k, mkDk]
  rw [obind_eq (heldStringS (l := d.1) h0 hl (by omega))]
  simp only
  rw [tb_neg (ilt_f (by omega)), obind_eq (heldPutS (l := d.2.1) (m := (marksL mkStr d.1 m).2) (by omega) hl' (by omega))]
  simp only
  rw [tb_neg (ilt_f (by omega))]
end Go.Proofs.Ytaakhgjlekllgaa.V
namespace Go.Proofs.Ytaakhgjlekllgaa.V
open Go Go.RowKit
def numF : Nat → Nat → List Int
  | 0, _ => []
  | n + 1, x => if 127 < x then ((x % 128 + 128 : Nat) : Int) :: numF n (x / 128) else [(x : Int)]
def numForm (x : Nat) : List Int := numF 10 x
theorem numF_length : ∀ n x, (numF n x).length ≤ n
  | 0, _ => by simp [numF]
  | n + 1, x => by
    unfold numF
    split
    · have := numF_length n (x / 128); simp; omega
    · simp
theorem numF_pos : ∀ n x, 1 ≤ (numF (n + 1) x).length := by
  intro n x
  unfold numF
  split <;> simp
theorem numF_range : ∀ n x, ∀ y ∈ numF n x, 0 ≤ y ∧ y ≤ 255
  | 0, _ => by simp [numF]
  | n + 1, x => by
    unfold numF
    intro y hy
    split at hy
    · rcases List.mem_cons.1 hy with h | h
      · omega
      · exact numF_range n _ y h
    · have : y = x := by simpa using hy
      omega
theorem numForm_length (x : Nat) : (numForm x).length ≤ 10 := numF_length 10 x
theorem numForm_range (x : Nat) : ∀ y ∈ numForm x, 0 ≤ y ∧ y ≤ 255 := numF_range 10 x
theorem and127 {x : Nat} (h : x ≤ 9223372036854775807) : bandK .i64 (x : Int) 127 = ((x % 128 : Nat) : Int) := by
  have := Go.bits_mask .i64 63 (by decide) (fun n a b => by rw [IntKind.wrap_i64]; omega) 7 (by decide) (x : Int) (by omega) (by omega)
  have e : Go.bits .and .i64 (x : Int) 127 = bandK .i64 (x : Int) 127 := rfl
  rw [← e]
  simpa using this
theorem or128 : ∀ m : Fin 128, borK .i64 128 (m.val : Int) = ((m.val + 128 : Nat) : Int) := by
  have : ∀ m : Fin 128, Go.bits .or .i64 128 (m.val : Int) = ((m.val + 128 : Nat) : Int) := by decide +kernel
  exact this
theorem shr7 (x : Nat) : shrK .i64 (x : Int) 7 = ((x / 128 : Nat) : Int) := by
  show Int.fdiv (x : Int) (2 ^ 7) = _
  rw [Int.fdiv_eq_ediv_of_nonneg _ (by decide)]
  omega
theorem num_loops : ∀ (n x : Nat) (acc : List Int) (m : Nat), 1 ≤ n → x < 128 ^ n → n ≤ 10 → x ≤ 9223372036854775807 → acc.length + n < 140737488355328 → n ≤ m →
    (∀ K : (Int × Unit) × Unit × List Int × Unit → Option (Unit × List Int × Unit), (∀ y zs, K ((y, ()), (), zs, ()) = chk ((plus (llen zs) (llen [wr .u8 y])) ≤ 140737488355328) (some ((), lapp zs [wr .u8 y], ())) none) →
      spec_PutNum_k0 fuel m K (((x : Int), ()), (), acc, ()) = some ((), acc ++ numF n x, ()) ∧ impl_putNum_k0 fuel m K (((x : Int), ()), (), acc, ()) = some ((), acc ++ numF n x, ())) := by
  intro n
  induction n with
  | zero =>
    intro x acc m h0
    omega
  | succ n ih =>
    intro x acc m _ h h10 hx hl hm K hK
    obtain ⟨m, rfl⟩ : ∃ k, m = k + 1 := ⟨m - 1, by omega⟩
    rw [spec_PutNum_k0, impl_putNum_k0]
    simp only
    by_cases h127 : 127 < x
    · have hd : x / 128 < 128 ^ n := by
        rw [Nat.div_lt_iff_lt_mul (by decide)]
        rwa [Nat.pow_succ] at h
      have hn1 : 1 ≤ n := by
        rcases Nat.eq_zero_or_pos n with h0 | h0
        · subst h0
          have : x < 128 := by simpa using h
          omega
        · exact h0
      obtain ⟨i1, i2⟩ := ih (x / 128) (acc ++ [((x % 128 + 128 : Nat) : Int)]) m hn1 hd (by omega) (by omega) (by simp; omega) (by omega) K hK
      have e : numF (n + 1) x = ((x % 128 + 128 : Nat) : Int) :: numF n (x / 128) := by rw [numF, if_pos h127]
      rw [e]
      rw [List.append_assoc, List.singleton_append] at i1 i2
      have e1 : wr .i64 (Int.tdiv (x : Int) 128) = ((x / 128 : Nat) : Int) := by
        rw [Int.tdiv_eq_ediv_of_nonneg (by omega), wr64 (by omega) (by omega)]; omega
      have e2 : wr .u8 (wr .i64 ((Int.tmod (x : Int) 128) + 128)) = ((x % 128 + 128 : Nat) : Int) := by
        rw [Int.tmod_eq_emod_of_nonneg (by omega), wr64 (by omega) (by omega), wr8 (by omega) (by omega)]; omega
      have e3 : wr .u8 (borK .i64 128 (bandK .i64 (x : Int) 127)) = ((x % 128 + 128 : Nat) : Int) := by
        rw [and127 hx, or128 ⟨x % 128, Nat.mod_lt _ (by decide)⟩, wr8 (by omega) (by simp only; omega)]
      rw [tb_pos (ilt_t (by omega)), tb_pos (ilt_t (by omega)), e1, e2, e3, shr7]
      refine ⟨?_, ?_⟩
      · rw [chk_neg (by decide), chk_pos (by simp [plus, llen]; omega), chk_neg (by decide)]; exact i1
      · rw [chk_pos (by simp [plus, llen]; omega), chk_neg (by decide)]; exact i2
    · have e : numF (n + 1) x = [(x : Int)] := by rw [numF, if_neg h127]
      rw [e, tb_neg (ilt_f (by omega)), tb_neg (ilt_f (by omega)), hK, wr8 (by omega) (by omega), chk_pos (by simp [plus, llen]; omega)]
      exact ⟨rfl, rfl⟩
theorem spec_num {x : Nat} (hx : x ≤ 9223372036854775807) : spec_PutNum ((x : Int), ()) = some ((), numForm x, ()) := by
  simp only [spec_PutNum, spec_PutNum_k]
  rw [tb_neg (ilt_f (by omega))]
  exact (num_loops 10 x [] fuel (by omega) (by simp; omega) (by omega) hx (by simp) (by unfold fuel; omega) _ (fun _ _ => rfl)).1
theorem impl_num {x : Nat} (acc : List Int) (hx : x ≤ 9223372036854775807) (hl : acc.length ≤ 140737488355000) : impl_putNum (acc, (x : Int), ()) = some ((), acc ++ numForm x, ()) := by
  simp only [impl_putNum, impl_putNum_k]
  exact (num_loops 10 x acc fuel (by omega) (by simp; omega) (by omega) hx (by omega) (by unfold fuel; omega) _ (fun _ _ => rfl)).2
theorem in_eq (a b c : Int) : (tb (ile b a) (some ((), ile a c, ())) (some ((), false, ()))) = some ((), decide (b ≤ a ∧ a ≤ c), ()) := by
  by_cases h : b ≤ a
  · rw [tb_pos (ile_t h)]; simp [ile, h]
  · rw [tb_neg (ile_f (by omega))]; simp [h]
theorem spec_in (a b c : Int) : spec_l1In (a, b, c, ()) = some ((), decide (b ≤ a ∧ a ≤ c), ()) := in_eq a b c
theorem impl_in (a b c : Int) : impl_inRange (a, b, c, ()) = some ((), decide (b ≤ a ∧ a ≤ c), ()) := in_eq a b c
end Go.Proofs.Ytaakhgjlekllgaa.V
namespace Go.Proofs.Ytaakhgjlekllgaa.V
open Go Go.RowKit
abbrev Hd := Int × Int × Int × Unit
def headRight (a b c : Int) : Bool := decide ((1 ≤ a ∧ a ≤ 1000000000) ∧ (0 ≤ b ∧ b ≤ 1) ∧ (0 ≤ c ∧ c ≤ 4096))
theorem spec_right (a b c : Int) : spec_l16Right ((a, b, c, ()), ()) = some ((), headRight a b c, ()) := by
  simp only [spec_l16Right, spec_l16Right_k, spec_in, obind_some]
  by_cases h1 : 1 ≤ a ∧ a ≤ 1000000000
  · rw [tb_pos (by simpa using h1)]
    by_cases h2 : 0 ≤ b ∧ b ≤ 1
    · rw [tb_pos (by simpa using h2)]; simp [headRight, h1, h2]
    · rw [tb_neg (by simpa using h2)]; simp [headRight, h2]
  · rw [tb_neg (by simpa using h1)]; simp [headRight, h1]
theorem impl_right (a b c : Int) : impl_headOk ((a, b, c, ()), ()) = some ((), headRight a b c, ()) := by
  simp only [impl_headOk, impl_headOk_k, impl_isArea, impl_isArea_k, impl_in, obind_some]
  by_cases h1 : 1 ≤ a ∧ a ≤ 1000000000
  · rw [tb_pos (by simpa using h1)]
    by_cases hb : b = 0
    · rw [tb_pos (ieq_t hb), obind_some, tb_t]; simp [headRight, h1, hb]
    · rw [tb_neg (ieq_f hb), obind_some]
      by_cases hb1 : b = 1
      · rw [ieq_t hb1, tb_t]; simp [headRight, h1, hb1]
      · rw [ieq_f hb1, tb_f]
        have : ¬ (0 ≤ b ∧ b ≤ 1) := by omega
        simp [headRight, this]
  · rw [tb_neg (by simpa using h1)]; simp [headRight, h1]
def headBytes (a b c : Int) : List Int := numForm a.toNat ++ numForm b.toNat ++ numForm c.toNat
theorem headBytes_length (a b c : Int) : (headBytes a b c).length ≤ 30 := by
  have h1 := numForm_length a.toNat
  have h2 := numForm_length b.toNat
  have h3 := numForm_length c.toNat
  simp [headBytes]; omega
def headText (a b c : Int) : ByteArray := strOf (headBytes a b c ++ List.replicate (64 - (headBytes a b c).length) 0)
theorem headText_size (a b c : Int) : (headText a b c).size = 64 := by
  have := headBytes_length a b c
  simp only [headText, strOf_size, List.length_append, List.length_replicate]; omega
theorem pad {K : Unit × Unit × List Int × Unit → Option (Unit × ByteArray × Bool × Unit)} : ∀ (d : Nat) (acc : List Int) (m : Nat), acc.length + d = 64 → d < m → spec_HeadPack_k0 fuel m K ((), (), acc, ()) = K ((), (), acc ++ List.replicate d 0, ()) := by
  intro d
  induction d with
  | zero =>
    intro acc m h hm
    obtain ⟨m, rfl⟩ : ∃ k, m = k + 1 := ⟨m - 1, by omega⟩
    rw [spec_HeadPack_k0]
    simp only
    rw [tb_neg (ilt_f (by simp only [llen]; omega))]
    simp
  | succ d ih =>
    intro acc m h hm
    obtain ⟨m, rfl⟩ : ∃ k, m = k + 1 := ⟨m - 1, by omega⟩
    rw [spec_HeadPack_k0]
    simp only
    rw [tb_pos (ilt_t (by simp only [llen]; omega)), chk_pos (by simp [plus, llen]; omega)]
    have := ih (acc ++ [0]) m (by simp; omega) (by omega)
    rw [List.append_assoc, List.singleton_append, ← List.replicate_succ] at this
    exact this
theorem spec_head {a b c : Int} (h : headRight a b c = true) : spec_HeadPack ((a, b, c, ()), ()) = some ((), headText a b c, true, ()) := by
  have hr : (1 ≤ a ∧ a ≤ 1000000000) ∧ (0 ≤ b ∧ b ≤ 1) ∧ (0 ≤ c ∧ c ≤ 4096) := by simpa [headRight] using h
  have ha := spec_num (x := a.toNat) (by omega)
  have hb := spec_num (x := b.toNat) (by omega)
  have hc := spec_num (x := c.toNat) (by omega)
  rw [Int.toNat_of_nonneg (by omega)] at ha hb hc
  have h1 := numForm_length a.toNat
  have h2 := numForm_length b.toNat
  have h3 := numForm_length c.toNat
  have hl := headBytes_length a b c
  simp only [spec_HeadPack, spec_HeadPack_k, spec_right, obind_some, h, tb_nt, ha, hb, hc]
  rw [chk_pos (by simp only [plus, llen]; omega), chk_pos (by simp only [plus, llen, lapp, List.length_append]; omega)]
  exact pad (64 - (headBytes a b c).length) (headBytes a b c) fuel (by omega) (by unfold fuel; omega)
theorem spec_head_bad {a b c : Int} (h : headRight a b c = false) : spec_HeadPack ((a, b, c, ()), ()) = some ((), ⟨#[]⟩, false, ()) := by
  simp only [spec_HeadPack, spec_HeadPack_k, spec_right, obind_some, h, tb_nf]
theorem zeros (n : Nat) : (⟨(Lib.repeatL [0] n).toArray⟩ : ByteArray) = strOf (List.replicate n 0) := by
  apply ByteArray.ext
  show (Lib.repeatL [0] n).toArray = ((List.replicate n (0 : Int)).map fun n => UInt8.ofNat n.toNat).toArray
  congr 1
  induction n with
  | zero => rfl
  | succ n ih => simp only [Lib.repeatL, ih, List.replicate_succ, List.map_cons]; rfl
theorem repeat0 {n : Nat} (h : n ≤ 140737488355328) : strings_Repeat ((⟨#[0]⟩ : ByteArray), (n : Int), ()) = some ((), strOf (List.replicate n 0), ()) := by
  show repeatF _ = _
  unfold repeatF
  rw [if_pos ⟨by show (0 : Int) ≤ (n : Int); omega, by show (n : Int) ≤ 9223372036854775807; omega, by show ((1 : Nat) : Int) * (n : Int) ≤ _; omega⟩]
  rw [show (((⟨#[0]⟩ : ByteArray), (n : Int), ()) : ByteArray × Int × Unit).2.1.toNat = n by simp]
  exact congrArg (fun x => some ((), x, ())) (zeros n)
theorem impl_head {a b c : Int} (h : headRight a b c = true) : impl_HeadPack ((a, b, c, ()), ()) = some ((), headText a b c, true, ()) := by
  have hr : (1 ≤ a ∧ a ≤ 1000000000) ∧ (0 ≤ b ∧ b ≤ 1) ∧ (0 ≤ c ∧ c ≤ 4096) := by simpa [headRight] using h
  have h1 := numForm_length a.toNat
  have h2 := numForm_length b.toNat
  have h3 := numForm_length c.toNat
  have hl := headBytes_length a b c
  have ha := impl_num (x := a.toNat) [] (by omega) (by simp)
  have hb := impl_num (x := b.toNat) ([] ++ numForm a.toNat) (by omega) (by simp; omega)
  have hc := impl_num (x := c.toNat) ([] ++ numForm a.toNat ++ numForm b.toNat) (by omega) (by simp; omega)
  rw [Int.toNat_of_nonneg (by omega)] at ha hb hc
  rw [show ([] ++ numForm a.toNat ++ numForm b.toNat ++ numForm c.toNat) = headBytes a b c by simp [headBytes]] at hc
  have hw : wr .i64 (64 - ((headBytes a b c).length : Int)) = ((64 - (headBytes a b c).length : Nat) : Int) := by
    rw [wr64 (by omega) (by omega)]; omega
  simp only [impl_HeadPack, impl_HeadPack_k, impl_right, obind_some, h, tb_nt, ha, hb, hc]
  simp only [llen, hw]
  rw [obind_eq (repeat0 (by omega))]
  simp only
  rw [chk_pos (by simp only [plus, slen, slim, strOf_size, List.length_replicate]; omega)]
  simp only [sapp, strOf_append]
  rfl
theorem impl_head_bad {a b c : Int} (h : headRight a b c = false) : impl_HeadPack ((a, b, c, ()), ()) = some ((), ⟨#[]⟩, false, ()) := by
  simp only [impl_HeadPack, impl_HeadPack_k, impl_right, obind_some, h, tb_nf]
def secOk (v : ByteArray) : Bool := ieq ((slen v : Nat) : Int) 64
def putOk (v : Pt) : Bool := decide (0 ≤ v.1 ∧ v.1 ≤ 129) && ieq ((slen v.2.1 : Nat) : Int) 64
def diskOk (d : Dk) : Bool := ieq ((llen d.1 : Nat) : Int) 130 && (ile ((llen d.2.1 : Nat) : Int) 200 && (d.1.all secOk && d.2.1.all putOk))
theorem spec_sector (x : Int) : spec_l15Sector (x, ()) = some ((), decide (0 ≤ x ∧ x ≤ 129), ()) := by
  simp only [spec_l15Sector, spec_l15Sector_k, spec_in, obind_some]
theorem impl_sector (x : Int) : impl_isSector (x, ()) = some ((), decide (0 ≤ x ∧ x ≤ 129), ()) := by
  simp only [impl_isSector, impl_isSector_k, impl_in, obind_some]
theorem spec_ok0 {K} (d : Dk) (hl : d.1.length ≤ 140737488351232) : spec_DiskOk_k0 fuel fuel K ((0, ()), ((d.1, d.2.1, ()), ()), ()) = if d.1.all secOk = true then K ((), ((d.1, d.2.1, ()), ()), ()) else some ((), false, ()) := by
  refine all_loop (k := fun n s => spec_DiskOk_k0 fuel n K s) (fun i => (((i : Int), ()), ((d.1, d.2.1, ()), ()), ())) _ _ secOk d.1 (fun n => ?_) (fun n i x hx => ?_) d.1 [] fuel rfl (by have := fuel_gt; omega)
  · rw [spec_DiskOk_k0]
    simp only
    rw [tb_neg (ilt_f (by simp only [llen]; omega))]
  · have hi := lt_of_get hx
    rw [spec_DiskOk_k0]
    simp only
    rw [tb_pos (ilt_t (by simp only [llen]; omega)), chk_pos (by omega), obind_eq (at_some hx), wr_succ (by omega)]
    show tb (bnot (secOk x)) _ _ = _
    cases secOk x <;> rfl
theorem spec_ok2 {K} (d : Dk) (hl : d.2.1.length ≤ 140737488351232) : spec_DiskOk_k2 fuel fuel K ((0, ()), ((d.1, d.2.1, ()), ()), ()) = if d.2.1.all putOk = true then K ((), (), ()) else some ((), false, ()) := by
  refine all_loop (k := fun n s => spec_DiskOk_k2 fuel n K s) (fun i => (((i : Int), ()), ((d.1, d.2.1, ()), ()), ())) _ _ putOk d.2.1 (fun n => ?_) (fun n i x hx => ?_) d.2.1 [] fuel rfl (by have := fuel_gt; omega)
  · rw [spec_DiskOk_k2]
    simp only
    rw [tb_neg (ilt_f (by simp only [llen]; omega))]
  · have hi := lt_of_get hx
    rw [spec_DiskOk_k2]
    simp only
    rw [tb_pos (ilt_t (by simp only [llen]; omega)), chk_pos (by omega), obind_eq (at_some hx), obind_eq (spec_sector _), chk_pos (by omega), obind_eq (at_some hx), wr_succ (by omega)]
    rw [show putOk x = (decide (0 ≤ x.1 ∧ x.1 ≤ 129) && ieq ((slen x.2.1 : Nat) : Int) 64) from rfl]
    simp only
    cases decide (0 ≤ x.1 ∧ x.1 ≤ 129)
    · rfl
    · rw [tb_nt]
      cases ieq ((slen x.2.1 : Nat) : Int) 64 <;> rfl
theorem spec_ok (d : Dk) (hl : d.1.length ≤ 140737488351232) (hl' : d.2.1.length ≤ 140737488351232) : spec_DiskOk ((d.1, d.2.1, ()), ()) = some ((), diskOk d, ()) := by
  simp only [spec_DiskOk, spec_DiskOk_k, diskOk]
  cases ieq ((llen d.1 : Nat) : Int) 130
  · rfl
  rw [tb_nt]
  by_cases h2 : (d.2.1.length : Int) ≤ 200
  rotate_left
  · rw [tb_pos (ilt_t (by simp only [llen]; omega)), ile_f (by simp only [llen]; omega)]; rfl
  rw [tb_neg (ilt_f (by simp only [llen]; omega)), ile_t (by simp only [llen]; omega), spec_ok0 d hl]
  cases d.1.all secOk
  · rfl
  rw [if_pos rfl, spec_ok2 d hl']
  cases d.2.1.all putOk <;> rfl
theorem impl_ok0 {K} (d : Dk) (hl : d.1.length ≤ 140737488351232) : impl_DiskOk_k0 fuel fuel K ((d.1, ((llen d.1 : Nat) : Int), 0, ()), ((d.1, d.2.1, ()), ()), ()) = if d.1.all secOk = true then K ((), ((d.1, d.2.1, ()), ()), ()) else some ((), false, ()) := by
  refine all_loop (k := fun n s => impl_DiskOk_k0 fuel n K s) (fun i => ((d.1, ((llen d.1 : Nat) : Int), (i : Int), ()), ((d.1, d.2.1, ()), ()), ())) _ _ secOk d.1 (fun n => ?_) (fun n i x hx => ?_) d.1 [] fuel rfl (by have := fuel_gt; omega)
  · rw [impl_DiskOk_k0]
    simp only
    rw [tb_neg (ilt_f (by simp only [llen]; omega))]
  · have hi := lt_of_get hx
    rw [impl_DiskOk_k0]
    simp only
    rw [tb_pos (ilt_t (by simp only [llen]; omega)), chk_pos (by omega), obind_eq (at_some hx), wr_succ (by omega)]
    show tb (bnot (secOk x)) _ _ = _
    cases secOk x <;> rfl
theorem impl_ok2 {K} (d : Dk) (hl : d.2.1.length ≤ 140737488351232) : impl_DiskOk_k2 fuel fuel K ((d.2.1, ((llen d.2.1 : Nat) : Int), 0, ()), ((d.1, d.2.1, ()), ()), ()) = if d.2.1.all putOk = true then K ((), ((d.1, d.2.1, ()), ()), ()) else some ((), false, ()) := by
  refine all_loop (k := fun n s => impl_DiskOk_k2 fuel n K s) (fun i => ((d.2.1, ((llen d.2.1 : Nat) : Int), (i : Int), ()), ((d.1, d.2.1, ()), ()), ())) _ _ putOk d.2.1 (fun n => ?_) (fun n i x hx => ?_) d.2.1 [] fuel rfl (by have := fuel_gt; omega)
  · rw [impl_DiskOk_k2]
    simp only
    rw [tb_neg (ilt_f (by simp only [llen]; omega))]
  · have hi := lt_of_get hx
    rw [impl_DiskOk_k2]
    simp only
    rw [tb_pos (ilt_t (by simp only [llen]; omega)), chk_pos (by omega), obind_eq (at_some hx), obind_eq (impl_sector _), wr_succ (by omega)]
    rw [show putOk x = (decide (0 ≤ x.1 ∧ x.1 ≤ 129) && ieq ((slen x.2.1 : Nat) : Int) 64) from rfl]
    simp only
    cases decide (0 ≤ x.1 ∧ x.1 ≤ 129)
    · rfl
    · rw [tb_nt]
      cases ieq ((slen x.2.1 : Nat) : Int) 64 <;> rfl
theorem impl_ok (d : Dk) (hl : d.1.length ≤ 140737488351232) (hl' : d.2.1.length ≤ 140737488351232) : impl_DiskOk ((d.1, d.2.1, ()), ()) = some ((), diskOk d, ()) := by
  simp only [impl_DiskOk, impl_DiskOk_k, diskOk]
  rw [impl_ok0 d hl]
  cases d.1.all secOk
  · simp
  rw [if_pos rfl]
  simp only
  rw [impl_ok2 d hl']
  cases d.2.1.all putOk
  · simp
  rw [if_pos rfl]
  cases ieq ((llen d.1 : Nat) : Int) 130
  · rfl
  · rw [tb_t]; simp
end Go.Proofs.Ytaakhgjlekllgaa.V
namespace Go.Proofs.Ytaakhgjlekllgaa.V
open Go Go.RowKit
def dkSmall (d : Dk) : Prop := d.1.length ≤ 1048576 ∧ d.2.1.length ≤ 1048576
theorem dkSmall_of {d : Dk} (h : dkW d ≤ 1048576) : dkSmall d := by simp only [dkW, wL] at h; exact ⟨by omega, by omega⟩
theorem spec_copy {d : Dk} (h : dkSmall d) : spec_l15Copy ((d.1, d.2.1, ()), ()) = some ((), d, ()) := by
  simp only [spec_l15Copy, spec_l15Copy_k]
  rw [chk_pos (by simp only [plus, llen]; have := h.1; omega), chk_pos (by simp only [plus, llen]; have := h.2; omega)]
  rfl
theorem clone_str {l : List ByteArray} (h : l.length ≤ 1048576) : slices_Clone_string (l, ()) = some ((), l, ()) := by
  simp only [slices_Clone_string, slices_Clone_string_k]
  rw [chk_pos (by simp only [plus, llen]; omega)]
  cases l with
  | nil => exact agree_same _ _
  | cons x l => rfl
theorem clone_put {l : List Pt} (h : l.length ≤ 1048576) : slices_Clone_Put (l, ()) = some ((), l, ()) := by
  simp only [slices_Clone_Put, slices_Clone_Put_k]
  rw [chk_pos (by simp only [plus, llen]; omega)]
  cases l with
  | nil => exact agree_same _ _
  | cons x l => rfl
theorem impl_copy {d : Dk} (h : dkSmall d) : impl_copyDisk ((d.1, d.2.1, ()), ()) = some ((), d, ()) := by
  simp only [impl_copyDisk, impl_copyDisk_k, clone_str h.1, clone_put h.2, obind_some]
def putF (d : Dk) (at' : Int) (t : ByteArray) : Dk × Bool :=
  if 0 ≤ at' ∧ at' ≤ 129 ∧ t.size = 64 ∧ d.2.1.length < 200 then ((d.1, d.2.1 ++ [(at', t, ())], ()), true) else (d, false)
theorem spec_put {d : Dk} {at' : Int} {t : ByteArray} (hs : dkSmall d) (hd : diskOk d = true) : spec_DiskPut ((d.1, d.2.1, ()), at', t, ()) = some ((), (putF d at' t).1, (putF d at' t).2, ()) := by
  have hn : d.2.1.length ≤ 200 := by
    simp only [diskOk, Bool.and_eq_true] at hd
    have : ((d.2.1.length : Nat) : Int) ≤ 200 := of_decide_eq_true hd.2.1
    omega
  simp only [spec_DiskPut, spec_DiskPut_k, spec_ok d (by have := hs.1; omega) (by have := hs.2; omega), obind_some, hd, tb_nt, spec_copy hs, spec_sector]
  unfold putF
  by_cases h1 : 0 ≤ at' ∧ at' ≤ 129
  rotate_left
  · rw [tb_pos (by simp [bnot, h1]), if_neg (fun q => h1 ⟨q.1, q.2.1⟩)]
  rw [tb_neg (by simp [bnot, h1])]
  by_cases h2 : t.size = 64
  rotate_left
  · rw [ieq_f (by simp only [slen]; omega), tb_nf, if_neg (fun q => h2 q.2.2.1)]
  rw [ieq_t (by simp only [slen]; omega), tb_nt]
  by_cases h3 : d.2.1.length < 200
  rotate_left
  · rw [tb_pos (ieq_t (by simp only [llen]; omega)), if_neg (fun q => h3 q.2.2.2)]
  rw [tb_neg (ieq_f (by simp only [llen]; omega)), chk_pos (by simp [plus, llen]; omega), if_pos ⟨h1.1, h1.2, h2, h3⟩]
  rfl
theorem impl_put {d : Dk} {at' : Int} {t : ByteArray} (hs : dkSmall d) : impl_Disk_put ((d.1, d.2.1, ()), at', t, ()) = some (((putF d at' t).1, ()), (putF d at' t).2, ()) := by
  simp only [impl_Disk_put, impl_Disk_put_k, obind_some, impl_sector]
  unfold putF
  by_cases h1 : 0 ≤ at' ∧ at' ≤ 129
  rotate_left
  · rw [tb_pos (by simp [bnot, h1]), if_neg (fun q => h1 ⟨q.1, q.2.1⟩)]
  rw [tb_neg (by simp [bnot, h1])]
  by_cases h2 : t.size = 64
  rotate_left
  · rw [ieq_f (by simp only [slen]; omega), tb_nf, if_neg (fun q => h2 q.2.2.1)]
  rw [ieq_t (by simp only [slen]; omega), tb_nt]
  by_cases h3 : d.2.1.length < 200
  rotate_left
  · rw [tb_pos (ile_t (by simp only [llen]; omega)), if_neg (fun q => h3 q.2.2.2)]
  rw [tb_neg (ile_f (by simp only [llen]; omega)), chk_pos (by have := hs.2; simp [plus, llen]; omega), if_pos ⟨h1.1, h1.2, h2, h3⟩]
  rfl
theorem putF_small {d : Dk} {at' : Int} {t : ByteArray} (hs : dkSmall d) : (putF d at' t).1.1.length ≤ 1048577 ∧ (putF d at' t).1.2.1.length ≤ 1048577 := by
  unfold putF
  have h1 := hs.1
  have h2 := hs.2
  split
  · simp; omega
  · constructor <;> simp only <;> omega
def headPutF (d : Dk) (h : Hd) : Dk × Bool :=
  if diskOk d = true then (if headRight h.1 h.2.1 h.2.2.1 = true then putF d (Int.tmod h.1 2) (headText h.1 h.2.1 h.2.2.1) else (d, false)) else (([], [], ()), false)
theorem spec_headPut {d : Dk} {h : Hd} (hs : dkSmall d) : spec_HeadPut ((d.1, d.2.1, ()), (h.1, h.2.1, h.2.2.1, ()), ()) = some ((), (headPutF d h).1, (headPutF d h).2, ()) := by
  simp only [spec_HeadPut, spec_HeadPut_k, spec_ok d (by have := hs.1; omega) (by have := hs.2; omega), obind_some]
  unfold headPutF
  cases hd : diskOk d
  · rfl
  rw [tb_nt, if_pos rfl]
  cases hr : headRight h.1 h.2.1 h.2.2.1
  · rw [spec_head_bad hr, obind_some]
    simp only [tb_nf, spec_copy hs, obind_some]
    rfl
  · rw [spec_head hr, obind_some]
    simp only [tb_nt]
    rw [chk_neg (by decide), spec_put hs hd, obind_some]
    rfl
theorem impl_headPut {d : Dk} {h : Hd} (hs : dkSmall d) : impl_HeadPut ((d.1, d.2.1, ()), (h.1, h.2.1, h.2.2.1, ()), ()) = some ((), (headPutF d h).1, (headPutF d h).2, ()) := by
  simp only [impl_HeadPut, impl_HeadPut_k, impl_ok d (by have := hs.1; omega) (by have := hs.2; omega), obind_some]
  unfold headPutF
  cases hd : diskOk d
  · rfl
  rw [tb_nt, if_pos rfl, impl_copy hs, obind_some]
  simp only [impl_Disk_putHead, impl_Disk_putHead_k]
  cases hr : headRight h.1 h.2.1 h.2.2.1
  · rw [impl_head_bad hr, obind_some]
    simp only [tb_f, obind_some]
    rfl
  · rw [impl_head hr, obind_some]
    simp only [tb_t]
    rw [chk_neg (by decide), impl_put hs, obind_some, obind_some]
    rfl
theorem headPutF_small {d : Dk} {h : Hd} (hs : dkSmall d) : (headPutF d h).1.1.length ≤ 1048577 ∧ (headPutF d h).1.2.1.length ≤ 1048577 := by
  have h1 := hs.1
  have h2 := hs.2
  unfold headPutF
  split
  · split
    · exact putF_small hs
    · constructor <;> simp only <;> omega
  · constructor <;> simp
theorem bnd_dk {d : Dk} (h : Bnd S51 d) : DkB d := ⟨⟨h.1.1, h.1.2⟩, ⟨h.2.1.1, fun x hx => (h.2.1.2 x hx).2.1⟩⟩
theorem FnExactHeadPut_pure (x0 : ((List ByteArray) × (List (Int × ByteArray × Unit)) × Unit)) (x1 : (Int × Int × Int × Unit)) (h0 : Bnd S51 x0) (h1 : Bnd S73 x1) : laws_FnExactHeadPut (x0, x1, ()) = some ((), true, ()) := by
  obtain ⟨r, e1, e2⟩ := szDisk x0 1048576 (bnd_dk h0) (by omega) (by omega)
  simp only at e1
  simp only [laws_FnExactHeadPut, laws_FnExactHeadPut_k, obind_eq e1]
  rcases e2 with e2 | ⟨e2, e3⟩
  · exact tb_pos (ilt_t e2) _ _
  have hw : dkW x0 ≤ 1048576 := by omega
  have hs := dkSmall_of hw
  have hr := headPutF_small (h := x1) hs
  have hm := mkDk_le (d := x0) (m := 1) (by omega) (by have := hs.1; have := hs.2; omega)
  have hm' := mkDk_le (d := (headPutF x0 x1).1) (m := 1) (by omega) (by have := hr.1; have := hr.2; omega)
  have t1 : laws_toDisk ((x0.1, x0.2.1, ()), ()) = some ((), x0, ()) := toDisk hw
  have t2 : laws_toHead ((x1.1, x1.2.1, x1.2.2.1, ()), ()) = some ((), x1, ()) := rfl
  have t3 := eqDisk (d := x0) (by have := hs.1; omega) (by have := hs.2; omega)
  have t4 := eqDisk (d := (headPutF x0 x1).1) (by have := hr.1; omega) (by have := hr.2; omega)
  have t5 := markDisk (d := x0) (m := 1) (by omega) (by have := hs.1; omega) (by have := hs.2; omega) (by have := hs.1; have := hs.2; omega)
  have t6 := markDisk (d := (headPutF x0 x1).1) (m := 1) (by omega) (by have := hr.1; omega) (by have := hr.2; omega) (by have := hr.1; have := hr.2; omega)
  have t7 := heldDisk (d := (headPutF x0 x1).1) (m := 1) (by omega) (by have := hr.1; omega) (by have := hr.2; omega) (by have := hr.1; have := hr.2; omega)
  rw [tb_neg (ilt_f e2)]
  simp only [t1, t2, obind_some, spec_headPut (h := x1) hs, impl_headPut (h := x1) hs, t3, t4, t5, t6, t7, tb_nt, beq_self, ieq_self, ilt_f (show (0 : Int) ≤ (mkDk x0 1).2 by omega), ilt_f (show (0 : Int) ≤ (mkDk (headPutF x0 x1).1 1).2 by omega), tb_f]
end Go.Proofs.Ytaakhgjlekllgaa.V
namespace Go.Proofs.Ytaakhgjlekllgaa.V
open Go Go.RowKit
attribute [local irreducible] wr
def secF (d : Dk) (at' : Int) : ByteArray := match d.2.1.reverse.find? (fun p => ieq p.1 at') with | some p => p.2.1 | none => (d.1[at'.toNat]?).getD ⟨#[]⟩
theorem find_step {d : Dk} {at' : Int} {n : Nat} {x : Pt} (h : d.2.1[n]? = some x) : (d.2.1.take (n + 1)).reverse.find? (fun p => ieq p.1 at') = if ieq x.1 at' = true then some x else (d.2.1.take n).reverse.find? (fun p => ieq p.1 at') := by
  have : d.2.1.take (n + 1) = d.2.1.take n ++ [x] := by
    rw [List.take_add_one, h]; rfl
  rw [this, List.reverse_append]
  simp only [List.reverse_singleton, List.cons_append, List.nil_append, List.find?_cons]
  cases ieq x.1 at' <;> rfl
theorem spec_sec0 {K} {d : Dk} {at' : Int} (hl : d.2.1.length ≤ 140737488351232) : ∀ (n m : Nat), n ≤ d.2.1.length → n < m → spec_l15Of_k0 fuel m K ((at', (n : Int) - 1, ()), ((d.1, d.2.1, ()), ()), ()) = match (d.2.1.take n).reverse.find? (fun p => ieq p.1 at') with | some p => some ((), p.2.1, ()) | none => K ((at', ()), ((d.1, d.2.1, ()), ()), ())
  | 0, m, h, hm => by
    obtain ⟨m, rfl⟩ : ∃ k, m = k + 1 := ⟨m - 1, by omega⟩
    rw [spec_l15Of_k0]
    rw [tb_neg (ile_f (by simp))]
    rfl
  | n + 1, m, h, hm => by
    obtain ⟨m, rfl⟩ : ∃ k, m = k + 1 := ⟨m - 1, by omega⟩
    have e : ((n + 1 : Nat) : Int) - 1 = (n : Int) := by omega
    have hx : d.2.1[n]? = some d.2.1[n] := List.getElem?_eq_getElem (by omega)
    rw [spec_l15Of_k0, e, find_step hx]
    simp only
    rw [tb_pos (ile_t (by omega)), chk_pos (by omega), obind_eq (at_some hx), chk_pos (by omega), obind_eq (at_some hx), wr64 (by omega) (by omega)]
    cases hq : ieq d.2.1[n].1 at'
    · rw [tb_f, spec_sec0 hl n m (by omega) (by omega)]; simp
    · rw [tb_t]; rfl
theorem impl_sec0 {K} {d : Dk} {at' : Int} (hl : d.2.1.length ≤ 140737488351232) : ∀ (n m : Nat), n ≤ d.2.1.length → n < m → impl_Disk_sector_k0 fuel m K ((d, at', (n : Int) - 1, ()), (), ()) = match (d.2.1.take n).reverse.find? (fun p => ieq p.1 at') with | some p => some ((), p.2.1, ()) | none => K ((d, at', ()), (), ())
  | 0, m, h, hm => by
    obtain ⟨m, rfl⟩ : ∃ k, m = k + 1 := ⟨m - 1, by omega⟩
    rw [impl_Disk_sector_k0]
    rw [tb_neg (ile_f (by simp))]
    rfl
  | n + 1, m, h, hm => by
    obtain ⟨m, rfl⟩ : ∃ k, m = k + 1 := ⟨m - 1, by omega⟩
    have e : ((n + 1 : Nat) : Int) - 1 = (n : Int) := by omega
    have hx : d.2.1[n]? = some d.2.1[n] := List.getElem?_eq_getElem (by omega)
    rw [impl_Disk_sector_k0, e, find_step hx]
    simp only
    rw [tb_pos (ile_t (by omega)), chk_pos (by omega), obind_eq (at_some hx), chk_pos (by omega), obind_eq (at_some hx), wr64 (by omega) (by omega)]
    cases hq : ieq d.2.1[n].1 at'
    · rw [tb_f, impl_sec0 hl n m (by omega) (by omega)]; simp
    · rw [tb_t]; rfl
theorem get_nat {d : Dk} {at' : Int} (h0 : 0 ≤ at') (h1 : at' < d.1.length) : at? d.1 at'.toNat = some ((d.1[at'.toNat]?).getD ⟨#[]⟩) := by
  have : d.1[at'.toNat]? = some d.1[at'.toNat] := List.getElem?_eq_getElem (by omega)
  simp only [at?, this, Option.getD_some]
theorem spec_sec {d : Dk} {at' : Int} (hl : d.2.1.length ≤ 140737488351232) (h0 : 0 ≤ at') (h1 : at' < d.1.length) : spec_l15Of ((d.1, d.2.1, ()), at', ()) = some ((), secF d at', ()) := by
  simp only [spec_l15Of, spec_l15Of_k]
  rw [wr64 (by simp only [llen]; omega) (by simp only [llen]; omega), show ((llen d.2.1 : Nat) : Int) = ((d.2.1.length : Nat) : Int) from rfl, spec_sec0 hl d.2.1.length fuel (Nat.le_refl _) (by have := fuel_gt; omega), List.take_length]
  unfold secF
  cases d.2.1.reverse.find? (fun p => ieq p.1 at') with
  | some p => rfl
  | none =>
    simp only
    rw [chk_pos h0, obind_eq (get_nat h0 h1)]
theorem impl_sec {d : Dk} {at' : Int} (hl : d.2.1.length ≤ 140737488351232) (h0 : 0 ≤ at') (h1 : at' < d.1.length) : impl_Disk_sector ((d.1, d.2.1, ()), at', ()) = some ((), secF d at', ()) := by
  simp only [impl_Disk_sector, impl_Disk_sector_k]
  rw [wr64 (by simp only [llen]; omega) (by simp only [llen]; omega), show ((llen d.2.1 : Nat) : Int) = ((d.2.1.length : Nat) : Int) from rfl]
  have := impl_sec0 (K := fun v0 => chk (0 ≤ v0.1.2.1) (obind (at? v0.1.1.1 (Int.toNat v0.1.2.1)) fun v1 => some ((), v1, ())) (none)) (d := d) (at' := at') hl d.2.1.length fuel (Nat.le_refl _) (by have := fuel_gt; omega)
  rw [List.take_length] at this
  refine Eq.trans this ?_
  unfold secF
  cases d.2.1.reverse.find? (fun p => ieq p.1 at') with
  | some p => rfl
  | none =>
    simp only
    rw [chk_pos h0, obind_eq (get_nat h0 h1)]
theorem diskOk_len {d : Dk} (h : diskOk d = true) : d.1.length = 130 ∧ d.2.1.length ≤ 200 := by
  simp only [diskOk, Bool.and_eq_true] at h
  have h1 : ((d.1.length : Nat) : Int) = 130 := by simpa [ieq, llen] using h.1
  have h2 : ((d.2.1.length : Nat) : Int) ≤ 200 := of_decide_eq_true h.2.1
  omega
theorem diskOk_small {d : Dk} (h : diskOk d = true) : dkSmall d := by
  have := diskOk_len h
  exact ⟨by omega, by omega⟩
theorem secF_size {d : Dk} {at' : Int} (h : diskOk d = true) (h0 : 0 ≤ at') (h1 : at' ≤ 129) : (secF d at').size = 64 := by
  have hl := diskOk_len h
  simp only [diskOk, Bool.and_eq_true, List.all_eq_true] at h
  unfold secF
  split
  · rename_i p hp
    have hm := List.mem_of_find?_eq_some hp
    have := h.2.2.2 p (List.mem_reverse.1 hm)
    simp only [putOk, Bool.and_eq_true] at this
    have h2 : ((p.2.1.size : Nat) : Int) = 64 := by simpa [ieq, slen] using this.2
    omega
  · have hx : d.1[at'.toNat]? = some d.1[at'.toNat] := List.getElem?_eq_getElem (by omega)
    rw [hx, Option.getD_some]
    have := h.2.2.1 _ (List.getElem_mem (l := d.1) (n := at'.toNat) (by omega))
    have h2 : ((d.1[at'.toNat].size : Nat) : Int) = 64 := by simpa [ieq, slen, secOk] using this
    omega
theorem putF_ok {d : Dk} {at' : Int} {t : ByteArray} (h : diskOk d = true) : diskOk (putF d at' t).1 = true := by
  unfold putF
  split
  · rename_i hc
    simp only [diskOk, Bool.and_eq_true] at h ⊢
    refine ⟨h.1, ile_t (by simp only [llen, List.length_append, List.length_cons, List.length_nil]; omega), h.2.2.1, ?_⟩
    rw [List.all_append, h.2.2.2]
    simp only [List.all_cons, List.all_nil, Bool.and_true, Bool.true_and, putOk, Bool.and_eq_true, decide_eq_true_eq]
    exact ⟨⟨hc.1, hc.2.1⟩, ieq_t (by simp only [slen]; omega)⟩
  · exact h
def secText (old : ByteArray) (k a : Nat) (b : List Int) : List Int := (List.range 64).map fun i => if a ≤ 64 * k + i ∧ 64 * k + i < a + b.length then b.getD (64 * k + i - a) 0 else bt old (i : Int)
theorem secText_length (old : ByteArray) (k a : Nat) (b : List Int) : (secText old k a b).length = 64 := by simp [secText]
def skipB (k a : Nat) (b : List Int) : Bool := decide (64 * k + 64 ≤ a) || (decide (a + b.length ≤ 64 * k) || decide (b.length = 0))
def areaF (area a : Nat) (b : List Int) : Nat → Dk → Option Dk
  | 0, d => some d
  | r + 1, d => if skipB (63 - r) a b = true then areaF area a b r d else
    if (putF d ((2 + 64 * area + (63 - r) : Nat) : Int) (strOf (secText (secF d ((2 + 64 * area + (63 - r) : Nat) : Int)) (63 - r) a b))).2 = true then areaF area a b r (putF d ((2 + 64 * area + (63 - r) : Nat) : Int) (strOf (secText (secF d ((2 + 64 * area + (63 - r) : Nat) : Int)) (63 - r) a b))).1 else none
theorem areaF_done {area a : Nat} {b : List Int} : ∀ {r : Nat} {d : Dk}, r ≤ 64 → b.length = 0 ∨ a + b.length ≤ 64 * (64 - r) → areaF area a b r d = some d
  | 0, d, _, _ => rfl
  | r + 1, d, hr, h => by
    have hs : skipB (63 - r) a b = true := by
      rcases h with h | h
      · unfold skipB; rw [decide_eq_true h]; simp
      · unfold skipB; rw [decide_eq_true (show a + b.length ≤ 64 * (63 - r) by omega)]; simp
    rw [areaF, if_pos hs]
    exact areaF_done (by omega) (by omega)
theorem areaF_ok {area a : Nat} {b : List Int} : ∀ {r : Nat} {d e : Dk}, diskOk d = true → areaF area a b r d = some e → diskOk e = true
  | 0, d, e, hd, h => by cases h; exact hd
  | r + 1, d, e, hd, h => by
    rw [areaF] at h
    split at h
    · exact areaF_ok hd h
    · split at h
      · exact areaF_ok (putF_ok hd) h
      · cases h
def secPart (old : ByteArray) (k a : Nat) (b : List Int) (j : Nat) : List Int := (List.range 64).map fun i => if i < j ∧ a ≤ 64 * k + i ∧ 64 * k + i < a + b.length then b.getD (64 * k + i - a) 0 else bt old (i : Int)
theorem secPart_length (old : ByteArray) (k a : Nat) (b : List Int) (j : Nat) : (secPart old k a b j).length = 64 := by simp [secPart]
theorem secPart_get {old : ByteArray} {k a : Nat} {b : List Int} {j i : Nat} (h : i < 64) : (secPart old k a b j)[i]? = some (if i < j ∧ a ≤ 64 * k + i ∧ 64 * k + i < a + b.length then b.getD (64 * k + i - a) 0 else bt old (i : Int)) := by
  simp [secPart, h]
theorem secPart_step_in {old : ByteArray} {k a : Nat} {b : List Int} {j : Nat} (h : j < 64) (h1 : a ≤ 64 * k + j) (h2 : 64 * k + j < a + b.length) : lset (secPart old k a b j) j (b.getD (64 * k + j - a) 0) = secPart old k a b (j + 1) := by
  apply List.ext_getElem?
  intro i
  by_cases hi : i < 64
  · simp only [lset, List.getElem?_set, secPart_length, secPart_get hi]
    by_cases e : j = i
    · subst e
      rw [if_pos rfl, if_pos h, if_pos ⟨by omega, h1, h2⟩]
    · rw [if_neg e]
      by_cases c : i < j ∧ a ≤ 64 * k + i ∧ 64 * k + i < a + b.length
      · rw [if_pos c, if_pos ⟨by omega, c.2⟩]
      · rw [if_neg c, if_neg (by omega)]
  · rw [List.getElem?_eq_none (by simp [lset, secPart_length]; omega), List.getElem?_eq_none (by simp [secPart_length]; omega)]
theorem secPart_step_out {old : ByteArray} {k a : Nat} {b : List Int} {j : Nat} (h : ¬ (a ≤ 64 * k + j ∧ 64 * k + j < a + b.length)) : secPart old k a b j = secPart old k a b (j + 1) := by
  unfold secPart
  apply List.map_congr_left
  intro i hi
  by_cases e : j = i
  · subst e
    rw [if_neg (fun q => h q.2), if_neg (fun q => h q.2)]
  · by_cases c : i < j ∧ a ≤ 64 * k + i ∧ 64 * k + i < a + b.length
    · rw [if_pos c, if_pos ⟨by omega, c.2⟩]
    · rw [if_neg c, if_neg (by omega)]
theorem secPart_zero {old : ByteArray} (h : old.size = 64) (k a : Nat) (b : List Int) : secPart old k a b 0 = bytesOf old := by
  apply List.ext_getElem?
  intro i
  by_cases hi : i < 64
  · rw [secPart_get hi, bytes_get (by omega), if_neg (by omega)]
  · rw [List.getElem?_eq_none (by simp [secPart_length]; omega), List.getElem?_eq_none (by rw [bytes_length]; omega)]
theorem secPart_all (old : ByteArray) (k a : Nat) (b : List Int) : secPart old k a b 64 = secText old k a b := by
  unfold secPart secText
  apply List.map_congr_left
  intro i hi
  have hi : i < 64 := by simpa using hi
  by_cases c : a ≤ 64 * k + i ∧ 64 * k + i < a + b.length
  · rw [if_pos ⟨hi, c⟩, if_pos c]
  · rw [if_neg (fun q => c q.2), if_neg c]
theorem spec_lay {K} {old : ByteArray} {k a area : Nat} {b : List Int} {z1 z2 z3 z4 z5 z6 z7 z8 z9 x0} {p q p' q'} (hk : k ≤ 64) (hab : a + b.length ≤ 4096) : ∀ (d j m : Nat), j + d = 64 → d < m →
      spec_AreaPut_k2 fuel m K (((area : Int), (a : Int), b, (k : Int), ((64 * k : Nat) : Int), z1, (j : Int), z2, z3, z4, z5, z6, z7, z8, z9, x0, ()), ((), (), (), ()), secPart old k a b j, p, q, p', q', ())
      = K (((area : Int), (a : Int), b, (k : Int), z1, z2, z3, z4, z5, z6, z7, z8, z9, x0, ()), ((), (), (), ()), secText old k a b, p, q, p', q', ())
  | 0, j, m, h, hm => by
    obtain ⟨m, rfl⟩ : ∃ k, m = k + 1 := ⟨m - 1, by omega⟩
    obtain rfl : j = 64 := by omega
    rw [spec_AreaPut_k2, secPart_all]
    simp only
    rw [tb_neg (ilt_f (by omega))]
  | d + 1, j, m, h, hm => by
    obtain ⟨m, rfl⟩ : ∃ k, m = k + 1 := ⟨m - 1, by omega⟩
    have hw : Hid (wr .i64 (((64 * k : Nat) : Int) + (j : Int)) = ((64 * k + j : Nat) : Int)) := ⟨wrn (by omega) (by omega)⟩
    have hw2 : Hid (wr .i64 ((a : Int) + ((llen b : Nat) : Int)) = ((a + b.length : Nat) : Int)) := ⟨wrn (by simp only [llen]; omega) (by omega)⟩
    have hw3 : Hid (wr .i64 ((j : Int) + 1) = ((j + 1 : Nat) : Int)) := ⟨wrn (by omega) (by omega)⟩
    rw [spec_AreaPut_k2]
    simp only [hw.out, hw2.out, hw3.out]
    rw [tb_pos (ilt_t (by omega))]
    have ih := spec_lay (K := K) (old := old) (area := area) (z1 := z1) (z2 := z2) (z3 := z3) (z4 := z4) (z5 := z5) (z6 := z6) (z7 := z7) (z8 := z8) (z9 := z9) (x0 := x0) (p := p) (q := q) (p' := p') (q' := q') hk hab d (j + 1) m (by omega) (by omega)
    by_cases h1 : a ≤ 64 * k + j
    · rw [tb_pos (ile_t (by omega))]
      by_cases h2 : 64 * k + j < a + b.length
      · have e : Hid (wr .i64 (((64 * k + j : Nat) : Int) - (a : Int)) = ((64 * k + j - a : Nat) : Int)) := ⟨wrn (by omega) (by omega)⟩
        have hx : b[64 * k + j - a]? = some (b.getD (64 * k + j - a) 0) := by rw [List.getD_eq_getElem?_getD, List.getElem?_eq_getElem (by omega)]; rfl
        have hy : (secPart old k a b j)[j]? = some _ := secPart_get (by omega)
        rw [tb_pos (ilt_t (by omega)), e.out, chk_pos (by omega), obind_eq (at_some hx), chk_pos ⟨by omega, by simp only [llen, secPart_length]; omega⟩, obind_eq (at_some hy), Int.toNat_natCast, secPart_step_in (by omega) h1 h2]
        exact ih
      · rw [tb_neg (ilt_f (by omega)), secPart_step_out (by omega)]
        exact ih
    · rw [tb_neg (ile_f (by omega)), secPart_step_out (by omega)]
      exact ih
theorem spec_area0 {K} {area a : Nat} {b : List Int} {p q} (ha : area ≤ 1) (hab : a + b.length ≤ 4096) : ∀ (r m : Nat) (d : Dk), r ≤ 64 → r < m → diskOk d = true →
      spec_AreaPut_k0 fuel m K (((area : Int), (a : Int), b, ((64 - r : Nat) : Int), ()), ((), (), (), ()), p, q, d.1, d.2.1, ()) = match areaF area a b r d with | some e => K ((), ((), (), ()), e.1, e.2.1, ()) | none => some ((), (p, q, ()), false, ())
  | 0, m, d, hr, hm, hd => by
    obtain ⟨m, rfl⟩ : ∃ k, m = k + 1 := ⟨m - 1, by omega⟩
    rw [spec_AreaPut_k0]
    simp only
    rw [tb_neg (ilt_f (by omega))]
    rfl
  | r + 1, m, d, hr, hm, hd => by
    obtain ⟨m, rfl⟩ : ∃ k, m = k + 1 := ⟨m - 1, by omega⟩
    have hk : 64 - (r + 1) = 63 - r := by omega
    have hk1 : 64 - r = 63 - r + 1 := by omega
    obtain ⟨k, hkk⟩ : ∃ k, k = 63 - r := ⟨_, rfl⟩
    have hl := diskOk_len hd
    have hw1 : Hid (wr .i64 ((k : Int) * 64) = ((64 * k : Nat) : Int)) := ⟨wrn (by omega) (by omega)⟩
    have hw2 : Hid (wr .i64 (((64 * k : Nat) : Int) + 64) = ((64 * k + 64 : Nat) : Int)) := ⟨wrn (by omega) (by omega)⟩
    have hw3 : Hid (wr .i64 ((a : Int) + ((llen b : Nat) : Int)) = ((a + b.length : Nat) : Int)) := ⟨wrn (by simp only [llen]; omega) (by omega)⟩
    have hw4 : Hid (wr .i64 ((k : Int) + 1) = ((k + 1 : Nat) : Int)) := ⟨wrn (by omega) (by omega)⟩
    have hw5 : Hid (wr .i64 (64 * (area : Int)) = ((64 * area : Nat) : Int)) := ⟨wrn (by omega) (by omega)⟩
    have hw6 : Hid (wr .i64 (2 + ((64 * area : Nat) : Int)) = ((2 + 64 * area : Nat) : Int)) := ⟨wrn (by omega) (by omega)⟩
    have hw7 : Hid (wr .i64 (((2 + 64 * area : Nat) : Int) + (k : Int)) = ((2 + 64 * area + k : Nat) : Int)) := ⟨wrn (by omega) (by omega)⟩
    rw [spec_AreaPut_k0, areaF, hk, ← hkk]
    simp only [hw1.out, hw2.out, hw3.out, hw4.out, hw5.out, hw6.out, hw7.out]
    have ih := fun d hd => spec_area0 (K := K) (p := p) (q := q) ha hab r m d (by omega) (by omega) hd
    rw [hk1, ← hkk] at ih
    rw [tb_pos (ilt_t (by omega))]
    by_cases h1 : 64 * k + 64 ≤ a
    · rw [tb_pos (ile_t (by omega)), if_pos (by simp [skipB, h1])]
      exact ih d hd
    rw [tb_neg (ile_f (by omega))]
    by_cases h2 : a + b.length ≤ 64 * k
    · rw [tb_pos (ile_t (by omega)), if_pos (by simp [skipB, h2])]
      exact ih d hd
    rw [tb_neg (ile_f (by omega))]
    by_cases h3 : b.length = 0
    · rw [tb_pos (ieq_t (by simp only [llen]; omega)), if_pos (by simp [skipB, h3])]
      exact ih d hd
    have h3' : b ≠ [] := fun e => h3 (by rw [e]; rfl)
    rw [tb_neg (ieq_f (by simp only [llen]; omega)), if_neg (by simp [skipB, h1, h2, h3']), obind_eq (spec_sec (by omega) (by omega) (by omega))]
    have hsz := secF_size (at' := ((2 + 64 * area + k : Nat) : Int)) hd (by omega) (by omega)
    rw [← secPart_zero hsz k a b]
    refine (spec_lay (z1 := _) (z2 := _) (by omega) hab 64 0 fuel (by omega) (by unfold fuel; omega)).trans ?_
    simp only
    rw [obind_eq (spec_put (diskOk_small hd) hd)]
    simp only
    have hok := putF_ok (at' := ((2 + 64 * area + k : Nat) : Int)) (t := strOf (secText (secF d ((2 + 64 * area + k : Nat) : Int)) k a b)) hd
    cases hp : (putF d ((2 + 64 * area + k : Nat) : Int) (strOf (secText (secF d ((2 + 64 * area + k : Nat) : Int)) k a b))).2
    · rw [tb_nf]; rfl
    · rw [tb_nt, hw4.out, if_pos rfl]
      exact ih _ hok
theorem lcut_len {α : Type} (l : List α) (a b : Nat) : (lcut l a b).length = min b l.length - a := by simp only [lcut, List.length_drop, List.length_take]
theorem scut_size (s : ByteArray) (a b : Nat) : (scut s a b).size = min b s.size - a := by rw [scut_bytes, strOf_size, lcut_len, bytes_length]
theorem secText_get {old : ByteArray} {k a : Nat} {b : List Int} {i : Nat} (h : i < 64) : (secText old k a b)[i]? = some (if a ≤ 64 * k + i ∧ 64 * k + i < a + b.length then b.getD (64 * k + i - a) 0 else bt old (i : Int)) := by
  simp [secText, h]
theorem impl_text {old : ByteArray} (hs : old.size = 64) {k a x n : Nat} {b c : List Int} (h1 : 64 * k ≤ x) (h2 : x < 64 * k + 64) (h3 : x = max a (64 * k)) (hc : c = b.drop (x - a)) (hn : n = min c.length (64 - (x - 64 * k))) (hp : 0 < n) :
    sapp (sapp (scut old 0 (x - 64 * k)) (strOf (lcut c 0 n))) (scut old (x - 64 * k + n) 64) = strOf (secText old k a b) := by
  have hcl : c.length = b.length - (x - a) := by rw [hc, List.length_drop]
  simp only [sapp, scut_bytes, strOf_append]
  congr 1
  have l1 : (lcut (bytesOf old) 0 (x - 64 * k)).length = x - 64 * k := by rw [lcut_len, bytes_length]; omega
  have l2 : (lcut c 0 n).length = n := by rw [lcut_len]; omega
  have l3 : (lcut (bytesOf old) (x - 64 * k + n) 64).length = 64 - (x - 64 * k + n) := by rw [lcut_len, bytes_length]; omega
  apply List.ext_getElem?
  intro i
  by_cases hi : i < 64
  · rw [secText_get hi]
    by_cases c1 : i < x - 64 * k
    · rw [List.getElem?_append_left (by rw [List.length_append, l1]; omega), List.getElem?_append_left (by rw [l1]; omega), lcut_get, if_pos (by omega), Nat.zero_add, bytes_get (by omega), if_neg (by omega)]
    by_cases c2 : i < x - 64 * k + n
    · rw [List.getElem?_append_left (by rw [List.length_append, l1, l2]; omega), List.getElem?_append_right (by rw [l1]; omega), l1, lcut_get, if_pos (by omega), if_pos (by omega), hc, List.getElem?_drop, List.getD_eq_getElem?_getD, Nat.zero_add, show x - a + (i - (x - 64 * k)) = 64 * k + i - a by omega, List.getElem?_eq_getElem (by omega)]
      rfl
    · rw [List.getElem?_append_right (by rw [List.length_append, l1, l2]; omega), List.length_append, l1, l2, lcut_get, if_pos (by omega), show x - 64 * k + n + (i - (x - 64 * k + n)) = i by omega, bytes_get (by omega), if_neg (by omega)]
  · rw [List.getElem?_eq_none (by rw [List.length_append, List.length_append, l1, l2, l3]; omega), List.getElem?_eq_none (by rw [secText_length]; omega)]
theorem impl_area_end {K} {area x : Int} {d : Dk} {m : Nat} (hm : 0 < m) : impl_Disk_putArea_k0 fuel m K ((area, x, [], ()), ((), ()), d.1, d.2.1, ()) = K ((), ((), ()), d.1, d.2.1, ()) := by
  obtain ⟨m, rfl⟩ : ∃ k, m = k + 1 := ⟨m - 1, by omega⟩
  rw [impl_Disk_putArea_k0]
  simp only
  rw [tb_neg (ilt_f (by simp [llen]))]
theorem impl_area0 {K} {area a : Nat} {b : List Int} (ha : area ≤ 1) (hab : a + b.length ≤ 4096) : ∀ (r m : Nat) (d : Dk) (x : Nat) (c : List Int), r ≤ 64 → r + 1 < m → diskOk d = true → x ≤ 4096 → ((c = [] ∧ (b.length = 0 ∨ a + b.length ≤ 64 * (64 - r))) ∨ (x = max a (64 * (64 - r)) ∧ c = b.drop (x - a))) →
      match areaF area a b r d with
      | some e => impl_Disk_putArea_k0 fuel m K (((area : Int), (x : Int), c, ()), ((), ()), d.1, d.2.1, ()) = K ((), ((), ()), e.1, e.2.1, ())
      | none => ∃ e : Dk, impl_Disk_putArea_k0 fuel m K (((area : Int), (x : Int), c, ()), ((), ()), d.1, d.2.1, ()) = some (((e.1, e.2.1, ()), ()), false, ())
  | 0, m, d, x, c, hr, hm, hd, hx, hc => by
    have : c = [] := by
      rcases hc with h | ⟨h, rfl⟩
      · exact h.1
      · rw [List.drop_eq_nil_of_le (by omega)]
    subst this
    exact impl_area_end (by omega)
  | r + 1, m, d, x, c, hr, hm, hd, hx, hc => by
    obtain ⟨k, hkk⟩ : ∃ k, k = 63 - r := ⟨_, rfl⟩
    have hk : 64 - (r + 1) = k := by omega
    have hk1 : 64 - r = k + 1 := by omega
    rw [hk] at hc
    have ih := fun d x c => impl_area0 (K := K) ha hab r (m - 1) d x c (by omega) (by omega)
    rw [hk1] at ih
    have hdone : c = [] → (b.length = 0 ∨ a + b.length ≤ 64 * k) → (match areaF area a b (r + 1) d with
      | some e => impl_Disk_putArea_k0 fuel m K (((area : Int), (x : Int), c, ()), ((), ()), d.1, d.2.1, ()) = K ((), ((), ()), e.1, e.2.1, ())
      | none => ∃ e : Dk, impl_Disk_putArea_k0 fuel m K (((area : Int), (x : Int), c, ()), ((), ()), d.1, d.2.1, ()) = some (((e.1, e.2.1, ()), ()), false, ())) := by
      intro h1 h2
      rw [areaF_done (by omega) (by rw [hk]; exact h2), h1]
      exact impl_area_end (by omega)
    rcases hc with ⟨h1, h2⟩ | ⟨hx1, hc⟩
    · exact hdone h1 h2
    by_cases c2 : a + b.length ≤ 64 * k
    · exact hdone (by rw [hc, List.drop_eq_nil_of_le (by omega)]) (.inr c2)
    by_cases c3 : b.length = 0
    · exact hdone (by rw [hc, List.eq_nil_of_length_eq_zero c3, List.drop_nil]) (.inl c3)
    have c3' : b ≠ [] := fun e => c3 (by rw [e]; rfl)
    by_cases c1 : 64 * k + 64 ≤ a
    · rw [areaF, ← hkk, if_pos (by simp [skipB, c1])]
      have := impl_area0 (K := K) ha hab r m d x c (by omega) (by omega) hd hx (.inr ⟨by rw [hk1]; omega, hc⟩)
      exact this
    rw [areaF, ← hkk, if_neg (by simp [skipB, c1, c2, c3'])]
    obtain ⟨m, rfl⟩ : ∃ k, m = k + 1 := ⟨m - 1, by omega⟩
    have hl := diskOk_len hd
    have hcl : c.length = b.length - (x - a) := by rw [hc, List.length_drop]
    obtain ⟨n, hn⟩ : ∃ n, n = min c.length (64 - (x - 64 * k)) := ⟨_, rfl⟩
    have q1 : Hid (Int.tmod (x : Int) 64 = ((x - 64 * k : Nat) : Int)) := ⟨by rw [Int.tmod_eq_emod_of_nonneg (by omega)]; omega⟩
    have q2 : Hid (Int.tdiv (x : Int) 64 = (k : Int)) := ⟨by rw [Int.tdiv_eq_ediv_of_nonneg (by omega)]; omega⟩
    have q3 : Hid (wr .i64 (k : Int) = (k : Int)) := ⟨wrn rfl (by omega)⟩
    have q4 : Hid (wr .i64 (64 * (area : Int)) = ((64 * area : Nat) : Int)) := ⟨wrn (by omega) (by omega)⟩
    have q5 : Hid (wr .i64 (2 + ((64 * area : Nat) : Int)) = ((2 + 64 * area : Nat) : Int)) := ⟨wrn (by omega) (by omega)⟩
    have q6 : Hid (wr .i64 (((2 + 64 * area : Nat) : Int) + (k : Int)) = ((2 + 64 * area + k : Nat) : Int)) := ⟨wrn (by omega) (by omega)⟩
    have q7 : Hid (wr .i64 (64 - ((x - 64 * k : Nat) : Int)) = ((64 - (x - 64 * k) : Nat) : Int)) := ⟨wrn (by omega) (by omega)⟩
    have q8 : Hid (mn ((llen c : Nat) : Int) ((64 - (x - 64 * k) : Nat) : Int) = (n : Int)) := ⟨by rw [mn_nat, hn]; rfl⟩
    have q9 : Hid (wr .i64 (((x - 64 * k : Nat) : Int) + (n : Int)) = ((x - 64 * k + n : Nat) : Int)) := ⟨wrn (by omega) (by omega)⟩
    have q10 : Hid (wr .i64 ((x : Int) + (n : Int)) = ((x + n : Nat) : Int)) := ⟨wrn (by omega) (by omega)⟩
    have hsz := secF_size (at' := ((2 + 64 * area + k : Nat) : Int)) hd (by omega) (by omega)
    have ht := impl_text hsz (k := k) (by omega) (by omega) hx1 hc hn (by omega)
    have e64 : ((slen (secF d ((2 + 64 * area + k : Nat) : Int)) : Nat) : Int) = 64 := by simp only [slen, hsz]; rfl
    rw [impl_Disk_putArea_k0]
    simp only [impl_first, impl_first_k, obind_some, q1.out, q2.out, q3.out, q4.out, q5.out, q6.out, q7.out, q8.out, q9.out, q10.out]
    rw [tb_pos (ilt_t (by simp only [llen]; omega)), chk_neg (by decide), obind_eq (impl_sec (by omega) (by omega) (by omega))]
    simp only [e64, Int.toNat_natCast]
    rw [chk_neg (by decide), chk_pos (by omega), chk_pos (by simp only [llen]; omega), chk_pos (by simp only [plus, slen, scut_size, strOf_size, lcut_len, slim]; omega), chk_pos (by omega), chk_pos (by simp only [plus, slen, sapp, ByteArray.size_append, scut_size, strOf_size, lcut_len, slim]; omega), show (0 : Int).toNat = 0 from rfl, show (64 : Int).toNat = 64 from rfl, ht, obind_eq (impl_put (diskOk_small hd))]
    simp only
    have hok := putF_ok (at' := ((2 + 64 * area + k : Nat) : Int)) (t := strOf (secText (secF d ((2 + 64 * area + k : Nat) : Int)) k a b)) hd
    cases hp : (putF d ((2 + 64 * area + k : Nat) : Int) (strOf (secText (secF d ((2 + 64 * area + k : Nat) : Int)) k a b))).2
    · rw [tb_nf]
      simp only [Bool.false_eq_true, if_false]
      exact ⟨_, rfl⟩
    · rw [tb_nt, if_pos rfl, chk_pos (by simp only [llen]; omega)]
      rw [show lcut c n (llen c) = c.drop n by simp only [lcut, llen, List.take_length]]
      refine ih _ (x + n) (c.drop n) hok (by omega) ?_
      by_cases hq : n = c.length
      · exact .inl ⟨by rw [hq, List.drop_length], by omega⟩
      · exact .inr ⟨by omega, by rw [hc, List.drop_drop]; congr 1; omega⟩
end Go.Proofs.Ytaakhgjlekllgaa.V
namespace Go.Proofs.Ytaakhgjlekllgaa.V
open Go Go.RowKit
attribute [local irreducible] wr
def doneL : List Pt → List ByteArray → List ByteArray
  | [], s => s
  | p :: l, s => doneL l (s.set p.1.toNat p.2.1)
theorem doneL_length : ∀ (l : List Pt) (s : List ByteArray), (doneL l s).length = s.length
  | [], _ => rfl
  | p :: l, s => by rw [doneL, doneL_length l]; simp
theorem doneL_all {q : ByteArray → Bool} : ∀ (l : List Pt) (s : List ByteArray), s.all q = true → (∀ p ∈ l, q p.2.1 = true) → (doneL l s).all q = true
  | [], _, h, _ => h
  | p :: l, s, h, hp => by
    rw [doneL]
    refine doneL_all l _ ?_ (fun x hx => hp x (List.mem_cons_of_mem _ hx))
    rw [List.all_eq_true] at h ⊢
    intro x hx
    rcases List.mem_or_eq_of_mem_set hx with hx | rfl
    · exact h x hx
    · exact hp p (List.mem_cons_self ..)
def syncF (d : Dk) : Dk := (doneL d.2.1 d.1, [], ())
theorem putOk_out {p : Pt} (h : putOk p = true) : (0 ≤ p.1 ∧ p.1 ≤ 129) ∧ secOk p.2.1 = true := by
  simp only [putOk, Bool.and_eq_true] at h
  exact ⟨of_decide_eq_true h.1, h.2⟩
theorem diskOk_puts {d : Dk} (h : diskOk d = true) : ∀ p ∈ d.2.1, (0 ≤ p.1 ∧ p.1 ≤ 129) ∧ secOk p.2.1 = true := by
  simp only [diskOk, Bool.and_eq_true, List.all_eq_true] at h
  exact fun p hp => putOk_out (h.2.2.2 p hp)
theorem syncF_ok {d : Dk} (h : diskOk d = true) : diskOk (syncF d) = true := by
  have hl := diskOk_len h
  have hp := diskOk_puts h
  simp only [diskOk, Bool.and_eq_true] at h ⊢
  refine ⟨ieq_t (by simp only [syncF, llen, doneL_length]; omega), ile_t (by simp [syncF, llen]), ?_, rfl⟩
  exact doneL_all d.2.1 d.1 h.2.2.1 (fun p q => (hp p q).2)
theorem get_lt {α : Type} {l : List α} {i : Nat} (h : i < l.length) : ∃ x, l[i]? = some x := ⟨l[i], List.getElem?_eq_getElem h⟩
theorem at_int {α : Type} {l : List α} {i : Int} (h0 : 0 ≤ i) (h1 : i < l.length) : ∃ x, at? l i.toNat = some x := get_lt (l := l) (i := i.toNat) (by omega)
theorem impl_settled0 {K} {late : List Pt} (hl : late.length ≤ 140737488351232) : ∀ (post pre : List Pt) (s : List ByteArray) (m : Nat), late = pre ++ post → (∀ p ∈ post, 0 ≤ p.1 ∧ p.1 ≤ 129) → s.length = 130 → post.length < m →
      impl_settled_of156_k0 fuel m K ((late, (late.length : Int), (pre.length : Int), ()), ((), (), ()), s, ()) = K ((), ((), (), ()), doneL post s, ())
  | [], pre, s, m, e, hp, hs, hm => by
    obtain ⟨m, rfl⟩ : ∃ k, m = k + 1 := ⟨m - 1, by simp at hm; omega⟩
    rw [impl_settled_of156_k0]
    simp only
    rw [tb_neg (ilt_f (by rw [e]; simp))]
    rfl
  | p :: post, pre, s, m, e, hp, hs, hm => by
    obtain ⟨m, rfl⟩ : ∃ k, m = k + 1 := ⟨m - 1, by simp at hm; omega⟩
    have hx : late[pre.length]? = some p := by rw [e]; exact get_split pre p post
    have hlt := lt_of_get hx
    have hq := hp p (List.mem_cons_self ..)
    obtain ⟨y, hy⟩ := at_int (l := s) hq.1 (by omega)
    rw [impl_settled_of156_k0]
    simp only
    rw [tb_pos (ilt_t (by omega)), chk_pos (by omega), obind_eq (at_some hx)]
    simp only [impl_DiskSync_1, impl_DiskSync_1_k, obind_some]
    rw [tb_t, chk_pos (by simp only [llen]; omega), obind_eq hy, wr_succ (by omega)]
    have := impl_settled0 (K := K) hl post (pre ++ [p]) (s.set p.1.toNat p.2.1) m (by rw [e]; simp) (fun q hq => hp q (List.mem_cons_of_mem _ hq)) (by simpa using hs) (by simp at hm; omega)
    rw [List.length_append, List.length_singleton] at this
    exact this
theorem keepAll (i : Nat) : ieq (bandK .i64 (shrK .i64 2147483647 (Int.tmod (i : Int) 31)) 1) 1 = true := by
  have e : Int.tmod (i : Int) 31 = ((i % 31 : Nat) : Int) := by rw [Int.tmod_eq_emod_of_nonneg (by omega)]; omega
  rw [e]
  have key : ∀ j : Fin 31, ieq (bandK .i64 (shrK .i64 2147483647 (j.val : Int)) 1) 1 = true := by decide +kernel
  exact key ⟨i % 31, Nat.mod_lt _ (by decide)⟩
theorem spec_done0 {K} {d : Dk} (hl : d.2.1.length ≤ 140737488351232) : ∀ (post pre : List Pt) (s : List ByteArray) (m : Nat), d.2.1 = pre ++ post → (∀ p ∈ post, 0 ≤ p.1 ∧ p.1 ≤ 129) → s.length = 130 → post.length < m →
      spec_l15Done_k0 fuel m K ((2147483647, (pre.length : Int), ()), ((d.1, d.2.1, ()), (), (), ()), s, ()) = K ((), ((), (), ()), doneL post s, ())
  | [], pre, s, m, e, hp, hs, hm => by
    obtain ⟨m, rfl⟩ : ∃ k, m = k + 1 := ⟨m - 1, by simp at hm; omega⟩
    rw [spec_l15Done_k0]
    simp only
    rw [tb_neg (ilt_f (by rw [e]; simp [llen]))]
    rfl
  | p :: post, pre, s, m, e, hp, hs, hm => by
    obtain ⟨m, rfl⟩ : ∃ k, m = k + 1 := ⟨m - 1, by simp at hm; omega⟩
    have hx : d.2.1[pre.length]? = some p := by rw [e]; exact get_split pre p post
    have hlt := lt_of_get hx
    have hq := hp p (List.mem_cons_self ..)
    obtain ⟨y, hy⟩ := at_int (l := s) hq.1 (by omega)
    have hm0 : 0 ≤ Int.tmod (pre.length : Int) 31 := by rw [Int.tmod_eq_emod_of_nonneg (by omega)]; omega
    rw [spec_l15Done_k0]
    simp only
    rw [tb_pos (ilt_t (by simp only [llen]; omega)), chk_neg (by decide), chk_neg (by omega), tb_pos (keepAll _), chk_pos (by omega), obind_eq (at_some hx), chk_pos (by omega), obind_eq (at_some hx), chk_pos (by simp only [llen]; omega), obind_eq hy, wr_succ (by omega)]
    have := spec_done0 (K := K) hl post (pre ++ [p]) (s.set p.1.toNat p.2.1) m (by rw [e]; simp) (fun q hq => hp q (List.mem_cons_of_mem _ hq)) (by simpa using hs) (by simp at hm; omega)
    rw [List.length_append, List.length_singleton] at this
    exact this
theorem impl_sync {d : Dk} (hd : diskOk d = true) : impl_DiskSync ((d.1, d.2.1, ()), ()) = some ((), syncF d, true, ()) := by
  have hl := diskOk_len hd
  have hs := diskOk_small hd
  unfold impl_DiskSync impl_DiskSync_k
  rw [obind_eq (impl_ok d (by omega) (by omega)), hd, tb_nt]
  unfold impl_settled_of156 impl_settled_of156_k
  rw [obind_eq (clone_str hs.1)]
  have := impl_settled0 (K := fun v1 => some ((), (v1.2.2.1, [], ()), ())) (late := d.2.1) (by omega) d.2.1 [] d.1 fuel rfl (fun p hp => (diskOk_puts hd p hp).1) hl.1 (by have := fuel_gt; omega)
  exact (congrArg (fun z => obind z fun v1 => some ((), (v1.2.1.1, v1.2.1.2.1, ()), true, ())) this).trans rfl
theorem spec_sync {d : Dk} (hd : diskOk d = true) : spec_DiskSync ((d.1, d.2.1, ()), ()) = some ((), syncF d, true, ()) := by
  have hl := diskOk_len hd
  unfold spec_DiskSync spec_DiskSync_k
  rw [obind_eq (spec_ok d (by omega) (by omega)), hd, tb_nt]
  unfold spec_l15Done spec_l15Done_k
  simp only
  rw [chk_pos (by simp only [plus, llen]; omega)]
  have := spec_done0 (K := fun v0 => some ((), (v0.2.2.1, [], ()), ())) (d := d) (by omega) d.2.1 [] d.1 fuel rfl (fun p hp => (diskOk_puts hd p hp).1) hl.1 (by have := fuel_gt; omega)
  exact (congrArg (fun z => obind z fun v1 => some ((), (v1.2.1.1, v1.2.1.2.1, ()), true, ())) this).trans rfl
def zs : ByteArray := strOf (List.replicate 64 0)
def disk0 : Dk := (List.replicate 130 zs, [], ())
theorem disk0_ok : diskOk disk0 = true := by
  have h : secOk zs = true := ieq_t (by simp only [slen, zs, strOf_size, List.length_replicate]; rfl)
  simp only [diskOk, Bool.and_eq_true]
  refine ⟨ieq_t (by simp only [disk0, llen, List.length_replicate]; rfl), ile_t (by simp [disk0, llen]), ?_, rfl⟩
  rw [List.all_eq_true]
  intro x hx
  rw [List.eq_of_mem_replicate hx]
  exact h
theorem rep_loop {K} {z : ByteArray} {c : Nat} (hc : c ≤ 1048576) : ∀ (d n m : Nat), c ≤ n + d → 1 ≤ n → n ≤ c → d < m →
      slices_Repeat_string_k0 fuel m K (((n : Int), ()), (), List.replicate n z ++ List.replicate (c - n) (⟨#[]⟩ : ByteArray), ()) = K ((), (), List.replicate c z, ())
  | d, n, m, h1, h2, h3, hm => by
    obtain ⟨m, rfl⟩ : ∃ k, m = k + 1 := ⟨m - 1, by omega⟩
    have hlen : llen (List.replicate n z ++ List.replicate (c - n) (⟨#[]⟩ : ByteArray)) = c := by simp only [llen, List.length_append, List.length_replicate]; omega
    rw [slices_Repeat_string_k0]
    simp only [hlen]
    by_cases hn : n = c
    · subst hn
      rw [tb_neg (ilt_f (by omega))]
      simp
    · rw [tb_pos (ilt_t (by omega)), chk_pos (by omega), chk_pos (by omega), chk_pos (by omega)]
      simp only [Int.toNat_natCast, loOf, hiOf, show (0 : Int).toNat = 0 from rfl]
      have e1 : lcut (List.replicate n z ++ List.replicate (c - n) (⟨#[]⟩ : ByteArray)) 0 n = List.replicate n z := by
        simp only [lcut, List.drop_zero]
        rw [List.take_append_of_le_length (by simp), List.take_of_length_le (by simp)]
      rw [e1]
      obtain ⟨q, hq⟩ : ∃ q, q = min (c - n) n := ⟨_, rfl⟩
      have e2 : nmin (lgap n c) (llen (List.replicate n z)) = q := by rw [hq]; simp [nmin, lgap, llen]
      have e3 : lput (List.replicate n z ++ List.replicate (c - n) (⟨#[]⟩ : ByteArray)) n q (List.replicate n z) = List.replicate (n + q) z ++ List.replicate (c - (n + q)) (⟨#[]⟩ : ByteArray) := by
        have l1 : (List.replicate n z ++ List.replicate (c - n) (⟨#[]⟩ : ByteArray)).take n = List.replicate n z := by rw [List.take_append_of_le_length (by simp), List.take_of_length_le (by simp)]
        have l2 : (List.replicate n z).take q = List.replicate q z := by rw [List.take_replicate]; congr 1; omega
        have l3 : (List.replicate n z ++ List.replicate (c - n) (⟨#[]⟩ : ByteArray)).drop (n + q) = List.replicate (c - (n + q)) (⟨#[]⟩ : ByteArray) := by
          rw [List.drop_append, List.drop_of_length_le (by simp), List.nil_append, List.length_replicate, List.drop_replicate]; congr 1; omega
        simp only [lput, l1, l2, l3]
        rw [List.replicate_append_replicate]
      rw [e2, e3, wr64 (by omega) (by omega), show (n : Int) + (q : Int) = ((n + q : Nat) : Int) from rfl]
      exact rep_loop hc (d - 1) (n + q) m (by omega) (by omega) (by omega) (by omega)
theorem repeat1 {z : ByteArray} {c : Nat} (h0 : 1 ≤ c) (hc : c ≤ 1048576) : slices_Repeat_string ([z], (c : Int), ()) = some ((), List.replicate c z, ()) := by
  have hw : ∀ n : Nat, n ≤ 1048576 → wr .u64 (n : Int) = (n : Int) := fun n hn => by
    unfold wr
    show IntKind.u64.wrap (n : Int) = n
    simp only [IntKind.wrap, IntKind.signed, IntKind.bits]
    first | omega | (simp; omega)
  have hm : math_bits_Mul (((1 : Nat) : Int), (c : Int), ()) = some ((), 0, (c : Int), ()) := by
    unfold math_bits_Mul
    rw [mulG_eq]
    unfold mulF
    simp only
    rw [if_pos (by omega), Int.toNat_natCast, Int.toNat_natCast]
    have e1 : 1 * c / 18446744073709551616 = 0 := by omega
    have e2 : 1 * c % 18446744073709551616 = c := by omega
    rw [e1, e2]; rfl
  unfold slices_Repeat_string slices_Repeat_string_k
  simp only
  rw [tb_neg (ilt_f (by omega)), show ((llen [z] : Nat) : Int) = ((1 : Nat) : Int) from rfl, hw 1 (by omega), hw c hc, obind_eq hm]
  simp only
  rw [tb_neg (ilt_f (by omega)), tb_neg (ilt_f (by omega)), wr64 (by omega) (by omega), Int.toNat_natCast, chk_pos (by omega), chk_pos (by simp only [llen, lrep, List.length_replicate]; omega)]
  have e1 : nmin (lgap (loOf none) (hiOf (llen (lrep c (⟨#[]⟩ : ByteArray))) none)) (llen [z]) = 1 := by
    simp only [nmin, lgap, loOf, hiOf, llen, lrep, List.length_replicate, List.length_singleton]; omega
  have e2 : lput (lrep c (⟨#[]⟩ : ByteArray)) (loOf none) 1 [z] = List.replicate 1 z ++ List.replicate (c - 1) (⟨#[]⟩ : ByteArray) := by
    simp only [lput, loOf, lrep, List.take_zero, List.nil_append, List.drop_replicate, Nat.zero_add]; rfl
  rw [e1, e2]
  exact rep_loop hc c 1 fuel (by omega) (by omega) (by omega) (by have := fuel_gt; omega)
theorem impl_new : impl_DiskNew () = some ((), disk0, ()) := by
  unfold impl_DiskNew impl_DiskNew_k
  have h1 : strings_Repeat ((⟨#[0]⟩ : ByteArray), 64, ()) = some ((), strOf (List.replicate 64 0), ()) := repeat0 (n := 64) (by omega)
  have h2 : slices_Repeat_string ([zs], 130, ()) = some ((), List.replicate 130 zs, ()) := repeat1 (c := 130) (by omega) (by omega)
  rw [obind_eq h1]
  exact (congrArg (fun z => obind z fun v1 => some ((), (v1.2.1, [], ()), ())) h2).trans rfl
theorem spec_zeros : spec_l15Zeros () = some ((), zs, ()) := by
  unfold spec_l15Zeros spec_l15Zeros_k
  rw [chk_pos (by decide)]
  rfl
theorem spec_new0 {K} : ∀ (d i m : Nat), i + d = 130 → d < m → spec_DiskNew_k0 fuel m K (((i : Int), ()), ((), (), ()), List.replicate i zs, ()) = K ((), ((), (), ()), List.replicate 130 zs, ())
  | 0, i, m, h, hm => by
    obtain ⟨m, rfl⟩ : ∃ k, m = k + 1 := ⟨m - 1, by omega⟩
    obtain rfl : i = 130 := by omega
    rw [spec_DiskNew_k0]
    rw [tb_neg (ilt_f (by simp))]
  | d + 1, i, m, h, hm => by
    obtain ⟨m, rfl⟩ : ∃ k, m = k + 1 := ⟨m - 1, by omega⟩
    rw [spec_DiskNew_k0]
    simp only
    rw [tb_pos (ilt_t (by omega)), obind_eq spec_zeros, chk_pos (by simp only [plus, llen, List.length_replicate, List.length_singleton]; omega), wr_succ (by omega)]
    have e : lapp (List.replicate i zs) [zs] = List.replicate (i + 1) zs := by simp only [lapp]; rw [List.replicate_succ']
    simp only
    rw [e]
    exact spec_new0 d (i + 1) m (by omega) (by omega)
theorem spec_new : spec_DiskNew () = some ((), disk0, ()) := by
  unfold spec_DiskNew spec_DiskNew_k
  exact spec_new0 (K := fun v0 => some ((), (v0.2.2.1, [], ()), ())) 130 0 fuel rfl (by have := fuel_gt; omega)
end Go.Proofs.Ytaakhgjlekllgaa.V
namespace Go.Proofs.Ytaakhgjlekllgaa.V
open Go Go.RowKit
attribute [local irreducible] wr
abbrev En : Type := ByteArray × ByteArray × Unit
abbrev Ar : Type := Bool × Dk × Hd × List En × Unit
theorem fuel_succ : ∃ n, fuel = n + 1 := ⟨fuel - 1, by have := fuel_gt; omega⟩
def putHeadF (d : Dk) (h : Hd) : Dk × Bool := if headRight h.1 h.2.1 h.2.2.1 = true then putF d (Int.tmod h.1 2) (headText h.1 h.2.1 h.2.2.1) else (d, false)
theorem impl_putHead {d : Dk} {h : Hd} (hs : dkSmall d) : impl_Disk_putHead ((d.1, d.2.1, ()), (h.1, h.2.1, h.2.2.1, ()), ()) = some (((putHeadF d h).1, ()), (putHeadF d h).2, ()) := by
  unfold putHeadF
  simp only [impl_Disk_putHead, impl_Disk_putHead_k]
  cases hr : headRight h.1 h.2.1 h.2.2.1
  · rw [impl_head_bad hr, obind_some]
    simp only [tb_f]
    rfl
  · rw [impl_head hr, obind_some]
    simp only [tb_t]
    rw [chk_neg (by decide), impl_put hs, obind_some]
    rfl
theorem headPutF_eq {d : Dk} {h : Hd} (hd : diskOk d = true) : headPutF d h = putHeadF d h := by
  unfold headPutF putHeadF
  rw [if_pos hd]
theorem putHeadF_ok {d : Dk} {h : Hd} (hd : diskOk d = true) : diskOk (putHeadF d h).1 = true := by
  unfold putHeadF
  split
  · exact putF_ok hd
  · exact hd
def arch0 : Ar := (true, syncF (putHeadF disk0 (1, 0, 0, ())).1, (1, 0, 0, ()), [], ())
theorem impl_archNew : impl_ArchiveNew () = some ((), arch0, ()) := by
  unfold impl_ArchiveNew impl_ArchiveNew_k
  rw [obind_eq impl_new]
  have h1 := impl_putHead (d := disk0) (h := (1, 0, 0, ())) (diskOk_small disk0_ok)
  have h2 := impl_sync (putHeadF_ok (h := (1, 0, 0, ())) disk0_ok)
  rw [obind_eq h1]
  rw [obind_eq h2]
  rfl
theorem spec_archNew : spec_ArchiveNew () = some ((), arch0, ()) := by
  unfold spec_ArchiveNew spec_ArchiveNew_k
  rw [obind_eq spec_new]
  have h1 := spec_headPut (d := disk0) (h := (1, 0, 0, ())) (diskOk_small disk0_ok)
  rw [headPutF_eq disk0_ok] at h1
  have h2 := spec_sync (putHeadF_ok (h := (1, 0, 0, ())) disk0_ok)
  rw [obind_eq h1]
  rw [obind_eq h2]
  rfl
theorem eqEntry : EqOk (fun (v u : En) => laws_eqEntry ((v.1, v.2.1, ()), (u.1, u.2.1, ()), ())) (fun _ => True) := by
  intro v _
  simp only [laws_eqEntry, laws_eqEntry_k, seq_self, tb_nt]
theorem eqEntryS : EqOk (fun xs ys => laws_eqEntryS (xs, ys, ())) (BL (fun _ => True)) :=
  eqS_ok fuel_gt (fun _ _ => rfl) (k := laws_eqEntryS_k0 fuel) (fun _ _ _ => rfl) eqEntry
theorem eqHead (h : Hd) : laws_eqHead ((h.1, h.2.1, h.2.2.1, ()), (h.1, h.2.1, h.2.2.1, ()), ()) = some ((), true, ()) := by
  simp only [laws_eqHead, laws_eqHead_k, ieq_self, tb_nt]
theorem eqArchive {a : Ar} (h1 : a.2.1.1.length ≤ 140737488351232) (h2 : a.2.1.2.1.length ≤ 140737488351232) (h3 : a.2.2.2.1.length ≤ 140737488351232) :
    laws_eqArchive ((a.1, (a.2.1.1, a.2.1.2.1, ()), (a.2.2.1.1, a.2.2.1.2.1, a.2.2.1.2.2.1, ()), a.2.2.2.1, ()), (a.1, (a.2.1.1, a.2.1.2.1, ()), (a.2.2.1.1, a.2.2.1.2.1, a.2.2.1.2.2.1, ()), a.2.2.2.1, ()), ()) = some ((), true, ()) := by
  have e1 := eqDisk (d := a.2.1) h1 h2
  have e2 : laws_eqEntryS (a.2.2.2.1, a.2.2.2.1, ()) = some ((), true, ()) := eqEntryS a.2.2.2.1 ⟨h3, fun _ _ => trivial⟩
  have e3 := eqHead a.2.2.1
  unfold laws_eqArchive laws_eqArchive_k
  simp only
  rw [beq_self, tb_nt, obind_eq e1]
  simp only
  rw [tb_nt, obind_eq e3]
  simp only
  rw [tb_nt, obind_eq e2]
  rfl
theorem markEntry0 (m : Int) : laws_markEntryS ([], m, ()) = some (([], ()), m, ()) := by
  obtain ⟨n, hn⟩ := fuel_succ
  unfold laws_markEntryS laws_markEntryS_k
  rw [hn, laws_markEntryS_k0]
  simp only
  rw [tb_neg (ilt_f (by simp [llen]))]
theorem heldEntry0 (m : Int) : laws_heldEntryS ([], m, ()) = some ((), m, ()) := by
  obtain ⟨n, hn⟩ := fuel_succ
  unfold laws_heldEntryS laws_heldEntryS_k
  rw [hn, laws_heldEntryS_k0]
  simp only
  rw [tb_neg (ilt_f (by simp [llen]))]
theorem FnExactArchiveNew_pure : laws_FnExactArchiveNew () = some ((), true, ()) := by
  have hd : diskOk arch0.2.1 = true := syncF_ok (putHeadF_ok disk0_ok)
  have hl := diskOk_len hd
  have t1 := eqArchive (a := arch0) (by omega) (by omega) (by simp [arch0])
  have t2 := markDisk (d := arch0.2.1) (m := 1) (by omega) (by omega) (by omega) (by omega)
  have t3 := heldDisk (d := arch0.2.1) (m := 1) (by omega) (by omega) (by omega) (by omega)
  have hm := mkDk_le (d := arch0.2.1) (m := 1) (by omega) (by omega)
  have t4 : laws_markArchive ((arch0.1, (arch0.2.1.1, arch0.2.1.2.1, ()), (arch0.2.2.1.1, arch0.2.2.1.2.1, arch0.2.2.1.2.2.1, ()), arch0.2.2.2.1, ()), 1, ()) = some ((((), (mkDk arch0.2.1 1).1, ((), (), (), ()), [], ()), ()), (mkDk arch0.2.1 1).2, ()) := by
    unfold laws_markArchive laws_markArchive_k
    rw [obind_eq t2]
    have := markEntry0 (mkDk arch0.2.1 1).2
    exact (congrArg (fun z => obind z fun v1 => some ((((), ((mkDk arch0.2.1 1).1.1, (mkDk arch0.2.1 1).1.2.1, ()), ((), (), (), ()), v1.1.1, ()), ()), v1.2.1, ())) this).trans rfl
  have t5 : laws_heldArchive ((arch0.1, ((mkDk arch0.2.1 1).1.1, (mkDk arch0.2.1 1).1.2.1, ()), (arch0.2.2.1.1, arch0.2.2.1.2.1, arch0.2.2.1.2.2.1, ()), [], ()), 1, ()) = some ((), (mkDk arch0.2.1 1).2, ()) := by
    unfold laws_heldArchive laws_heldArchive_k
    rw [obind_eq t3]
    simp only
    rw [tb_neg (ilt_f (by omega)), obind_eq (heldEntry0 _)]
    simp only
    rw [tb_neg (ilt_f (by omega))]
  unfold laws_FnExactArchiveNew laws_FnExactArchiveNew_k
  rw [obind_eq spec_archNew, obind_eq impl_archNew, obind_eq t1]
  simp only
  rw [tb_nt, obind_eq t4]
  simp only
  rw [obind_eq t5]
  simp only
  rw [tb_neg (ilt_f (by omega)), ieq_self, tb_nt, obind_eq impl_archNew, obind_eq t1]
  simp only
  rw [tb_nt, obind_eq t5]
  simp only
  rw [tb_neg (ilt_f (by omega)), ieq_self, tb_nt]
end Go.Proofs.Ytaakhgjlekllgaa.V
