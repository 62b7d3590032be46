/- The functions that FnExactArchiveUrls reaches, each as a plain function, and the plain law about them: the statement answers true at every input. No condition beyond those that stand in each theorem. -/
import Derived.Test.YtekcpaiphcmfmaaGreatVK
import Derived.KernelRfl
import Derived.Test.YtekcpaiphcmfmaaGreatChecked
import Derived.Test.YtekcpaiphcmfmaaGreatXShelf
import Derived.Laws.BitsLemmas
set_option linter.unusedVariables false
set_option linter.unusedSimpArgs false
noncomputable section
set_option maxRecDepth 100000
namespace Go.Proofs.YtekcpaiphcmfmaaGreat.V
open Go Go.Proofs
@[irreducible] def fuel : Nat := 18446744073709551616
abbrev T105 : Ty := .pair (.int .i64) (.pair .str .unit)
abbrev S105 : Ty := .pair (.int .i64) (.pair .str .unit)
abbrev T25 : Ty := .pair (.row true .str) (.pair (.row true T105) .unit)
abbrev S25 : Ty := .pair (.row false .str) (.pair (.row false S105) .unit)
abbrev T27 : Ty := .pair (.int .i64) (.pair (.int .i64) (.pair (.int .i64) .unit))
abbrev S27 : Ty := .pair (.int .i64) (.pair (.int .i64) (.pair (.int .i64) .unit))
abbrev T79 : Ty := .pair .str (.pair .str .unit)
abbrev S79 : Ty := .pair .str (.pair .str .unit)
abbrev T30 : Ty := .pair .bool (.pair T25 (.pair T27 (.pair (.row true T79) .unit)))
abbrev S30 : Ty := .pair .bool (.pair S25 (.pair S27 (.pair (.row false S79) .unit)))
abbrev T90 : Ty := .pair (.int .i64) (.pair .str .unit)
abbrev S90 : Ty := .pair (.int .i64) (.pair .str .unit)
abbrev T36 : Ty := .pair (.row true .str) (.pair (.row true T90) .unit)
abbrev S36 : Ty := .pair (.row false .str) (.pair (.row false S90) .unit)
abbrev T37 : Ty := .pair (.int .i64) (.pair (.int .i64) (.pair (.int .i64) .unit))
abbrev S37 : Ty := .pair (.int .i64) (.pair (.int .i64) (.pair (.int .i64) .unit))
abbrev T53 : Ty := .pair .str (.pair .str .unit)
abbrev S53 : Ty := .pair .str (.pair .str .unit)
abbrev T40 : Ty := .pair .bool (.pair T36 (.pair T37 (.pair (.row true T53) .unit)))
abbrev S40 : Ty := .pair .bool (.pair S36 (.pair S37 (.pair (.row false S53) .unit)))
abbrev T96 : Ty := .pair (.int .i64) (.pair .str (.pair .str .unit))
abbrev S96 : Ty := .pair (.int .i64) (.pair .str (.pair .str .unit))
abbrev T116 : Ty := .pair (.row true (.int .u8)) (.pair (.int .i64) (.pair .bool .unit))
abbrev S116 : Ty := .pair (.row false (.int .u8)) (.pair (.int .i64) (.pair .bool .unit))
def tyTab : List (Nat × Ty) := [(3, (.int .i64)), (4, .bool), (5, (.int .u8)), (9, .str), (22, (.row true .str)), (23, (.row true T105)), (25, T25), (27, T27), (28, (.row true T79)), (30, T30), (34, (.row true T90)), (36, T36), (37, T37), (38, (.row true T53)), (40, T40), (53, T53), (69, (.row true T96)), (72, (.row true (.int .u8))), (79, T79), (90, T90), (96, T96), (105, T105), (116, T116), (118, .any), (127, .any), (133, (.int .u64))]
def tyE (i : Nat) : Ty := (look tyTab i).getD .unit
theorem mixed_ok : Tryz.prog.follows .mixedOrders = true := by kernel_rfl
theorem tab_ok : tabOk Tryz.prog tyTab = true := by kernel_rfl
def slices_Delete_Entry : ((List (ByteArray × ByteArray × Unit)) × Int × Int × Unit) → Option (Unit × ((List (ByteArray × ByteArray × Unit)) × Unit)) := deleteF
theorem slices_Delete_Entry_o : Known Tryz.prog 94 ⟨[.own (.row true T53), .val (.int .i64), .val (.int .i64)], [(.row true T53)], (.pair (.row true T53) .unit), slices_Delete_Entry⟩ := known_delete (entered_of Tryz.func94 (by kernel_rfl))
def slices_Insert_Entry : ((List (ByteArray × ByteArray × Unit)) × Int × (List (ByteArray × ByteArray × Unit)) × Unit) → Option (Unit × ((List (ByteArray × ByteArray × Unit)) × Unit)) := insertF
theorem slices_Insert_Entry_o : Known Tryz.prog 95 ⟨[.own (.row true T53), .val (.int .i64), .own (.row true T53)], [(.row true T53)], (.pair (.row true T53) .unit), slices_Insert_Entry⟩ := known_insert (entered_of Tryz.func95 (by kernel_rfl))
def strings_Repeat : (ByteArray × Int × Unit) → Option (Unit × (ByteArray × Unit)) := repeatF
theorem strings_Repeat_o : Known Tryz.prog 101 ⟨[.val .str, .val (.int .i64)], [.str], (.pair .str .unit), strings_Repeat⟩ := known_repeat (entered_of Tryz.func101 (by kernel_rfl)) (fun s c w h1 h2 => Tryz.strings_Repeat s c w h1 h2)
def laws_szStringS_P0 : Tpl := ⟨[(0, .one (.leaf (.row false .str))), (1, .one (.leaf (.int .i64))), (5, .one (.leaf (.int .i64)))], [], []⟩
def laws_szStringS_O0 : Tpl := ⟨[(1, .one (.leaf (.int .i64)))], [], []⟩
def laws_szStringS_k0 (N : Nat) : Nat → (((Int × Unit) × (Unit × Unit)) → Option (Unit × (Int × Unit))) → (((List ByteArray) × Int × Int × Unit) × (Unit × Unit)) → Option (Unit × (Int × Unit))
  | 0, _, _ => none
  | n + 1, k, x =>
    tb (ilt x.1.2.2.1 (((llen x.1.1) : Nat) : Int))
    (chk (0 ≤ x.1.2.2.1) (obind (at? x.1.1 (Int.toNat x.1.2.2.1)) fun v0 =>
        tb (ilt (wr .i64 (x.1.2.1 - (((slen v0) : Nat) : Int))) 0)
        (some ((), (-1), ()))
        (laws_szStringS_k0 N n k ((x.1.1, (wr .i64 (x.1.2.1 - (((slen v0) : Nat) : Int))), (wr .i64 (x.1.2.2.1 + 1)), ()), (), ()))) (none))
    (k ((x.1.2.1, ()), (), ()))
def laws_szStringS_k (N : Nat) (x0 : (List ByteArray)) (x1 : Int) : Option (Unit × (Int × Unit)) :=
  tb (ilt (wr .i64 (x1 - (((llen x0) : Nat) : Int))) 0)
  (some ((), (-1), ()))
  (laws_szStringS_k0 N N (fun v0 =>
      some ((), v0.1.1, ())) ((x0, (wr .i64 (x1 - (((llen x0) : Nat) : Int))), 0, ()), (), ()))
def laws_szStringS (x : ((List ByteArray) × Int × Unit)) : Option (Unit × (Int × Unit)) := laws_szStringS_k fuel x.1 x.2.1
def laws_szStringS_s : List (Nat × Con) := []
def laws_szStringS_E : Env := ⟨fun j => (look tyTab j).getD .unit, fun j => look laws_szStringS_s j⟩
theorem laws_szStringS_r0 (N n : Nat) (k : laws_szStringS_O0.ty.den → Option (Unit × (Int × Unit))) (x : laws_szStringS_P0.ty.den) : roundK laws_szStringS_E ⟨Tryz.f49.ntmps, N, (fun i => look [(0, ⟨laws_szStringS_P0, laws_szStringS_O0, [], [], laws_szStringS_k0 N⟩)] i), retK laws_szStringS_E Tryz.f49 [.val (.row false .str), .val (.int .i64)] [(.int .i64)] (.pair (.int .i64) .unit)⟩ (Tryz.f49.body.getD .skip) 0 ⟨laws_szStringS_P0, laws_szStringS_O0, [], [], laws_szStringS_k0 N⟩ (laws_szStringS_k0 N n k) k x = laws_szStringS_k0 N (n + 1) k x := by kernel_rfl
theorem laws_szStringS_f_eq (N : Nat) (x0 : (List ByteArray)) (x1 : Int) : funK laws_szStringS_E Tryz.f49 [.val (.row false .str), .val (.int .i64)] [(.int .i64)] (.pair (.int .i64) .unit) (fun i => look [(0, ⟨laws_szStringS_P0, laws_szStringS_O0, [], [], laws_szStringS_k0 N⟩)] i) N (x0, x1, ()) = laws_szStringS_k N x0 x1 := by kernel_rfl
theorem laws_szStringS_o : Known Tryz.prog 49 ⟨[.val (.row false .str), .val (.int .i64)], [(.int .i64)], (.pair (.int .i64) .unit), laws_szStringS⟩ := known_of (tab := tyTab) (cons := laws_szStringS_s) (segs := [(0, ⟨laws_szStringS_P0, laws_szStringS_O0, [], [], laws_szStringS_k0 fuel⟩)]) (n := fuel) mixed_ok tab_ok .nil Tryz.func49 (by kernel_rfl) ⟨⟨fun _ _ => rfl, fun n k x => laws_szStringS_r0 fuel n k x⟩, trivial⟩ (fun x => laws_szStringS_f_eq fuel x.1 x.2.1)
def laws_szPut_k (N : Nat) (x0 : (Int × ByteArray × Unit)) (x1 : Int) : Option (Unit × (Int × Unit)) :=
  tb (ilt (wr .i64 (x1 - (((slen x0.2.1) : Nat) : Int))) 0)
  (some ((), (-1), ()))
  (some ((), (wr .i64 (x1 - (((slen x0.2.1) : Nat) : Int))), ()))
def laws_szPut (x : ((Int × ByteArray × Unit) × Int × Unit)) : Option (Unit × (Int × Unit)) := laws_szPut_k fuel x.1 x.2.1
def laws_szPut_s : List (Nat × Con) := []
def laws_szPut_E : Env := ⟨fun j => (look tyTab j).getD .unit, fun j => look laws_szPut_s j⟩
theorem laws_szPut_f_eq (N : Nat) (x0 : (Int × ByteArray × Unit)) (x1 : Int) : funK laws_szPut_E Tryz.f79 [.val S105, .val (.int .i64)] [(.int .i64)] (.pair (.int .i64) .unit) (fun i => look [] i) N (x0, x1, ()) = laws_szPut_k N x0 x1 := by kernel_rfl
theorem laws_szPut_o : Known Tryz.prog 79 ⟨[.val S105, .val (.int .i64)], [(.int .i64)], (.pair (.int .i64) .unit), laws_szPut⟩ := known_of (tab := tyTab) (cons := laws_szPut_s) (segs := []) (n := fuel) mixed_ok tab_ok .nil Tryz.func79 (by kernel_rfl) trivial (fun x => laws_szPut_f_eq fuel x.1 x.2.1)
def laws_szPutS_P0 : Tpl := ⟨[(0, .one (.leaf (.row false (.pair (.int .i64) (.pair .str .unit))))), (1, .one (.leaf (.int .i64))), (5, .one (.leaf (.int .i64)))], [], []⟩
def laws_szPutS_O0 : Tpl := ⟨[(1, .one (.leaf (.int .i64)))], [], []⟩
def laws_szPutS_k0 (N : Nat) : Nat → (((Int × Unit) × (Unit × Unit)) → Option (Unit × (Int × Unit))) → (((List (Int × (ByteArray × Unit))) × Int × Int × Unit) × (Unit × Unit)) → Option (Unit × (Int × Unit))
  | 0, _, _ => none
  | n + 1, k, x =>
    tb (ilt x.1.2.2.1 (((llen x.1.1) : Nat) : Int))
    (chk (0 ≤ x.1.2.2.1) (obind (at? x.1.1 (Int.toNat x.1.2.2.1)) fun v0 =>
        obind (laws_szPut ((v0.1, v0.2.1, ()), x.1.2.1, ())) fun v1 =>
        tb (ilt v1.2.1 0)
        (some ((), (-1), ()))
        (laws_szPutS_k0 N n k ((x.1.1, v1.2.1, (wr .i64 (x.1.2.2.1 + 1)), ()), (), ()))) (none))
    (k ((x.1.2.1, ()), (), ()))
def laws_szPutS_k (N : Nat) (x0 : (List (Int × ByteArray × Unit))) (x1 : Int) : Option (Unit × (Int × Unit)) :=
  tb (ilt (wr .i64 (x1 - (((llen x0) : Nat) : Int))) 0)
  (some ((), (-1), ()))
  (laws_szPutS_k0 N N (fun v0 =>
      some ((), v0.1.1, ())) ((x0, (wr .i64 (x1 - (((llen x0) : Nat) : Int))), 0, ()), (), ()))
def laws_szPutS (x : ((List (Int × ByteArray × Unit)) × Int × Unit)) : Option (Unit × (Int × Unit)) := laws_szPutS_k fuel x.1 x.2.1
def laws_szPutS_s : List (Nat × Con) := [(79, ⟨[.val S105, .val (.int .i64)], [(.int .i64)], (.pair (.int .i64) .unit), laws_szPut⟩)]
def laws_szPutS_E : Env := ⟨fun j => (look tyTab j).getD .unit, fun j => look laws_szPutS_s j⟩
theorem laws_szPutS_r0 (N n : Nat) (k : laws_szPutS_O0.ty.den → Option (Unit × (Int × Unit))) (x : laws_szPutS_P0.ty.den) : roundK laws_szPutS_E ⟨Tryz.f50.ntmps, N, (fun i => look [(0, ⟨laws_szPutS_P0, laws_szPutS_O0, [], [], laws_szPutS_k0 N⟩)] i), retK laws_szPutS_E Tryz.f50 [.val (.row false S105), .val (.int .i64)] [(.int .i64)] (.pair (.int .i64) .unit)⟩ (Tryz.f50.body.getD .skip) 0 ⟨laws_szPutS_P0, laws_szPutS_O0, [], [], laws_szPutS_k0 N⟩ (laws_szPutS_k0 N n k) k x = laws_szPutS_k0 N (n + 1) k x := by kernel_rfl
theorem laws_szPutS_f_eq (N : Nat) (x0 : (List (Int × ByteArray × Unit))) (x1 : Int) : funK laws_szPutS_E Tryz.f50 [.val (.row false S105), .val (.int .i64)] [(.int .i64)] (.pair (.int .i64) .unit) (fun i => look [(0, ⟨laws_szPutS_P0, laws_szPutS_O0, [], [], laws_szPutS_k0 N⟩)] i) N (x0, x1, ()) = laws_szPutS_k N x0 x1 := by kernel_rfl
theorem laws_szPutS_o : Known Tryz.prog 50 ⟨[.val (.row false S105), .val (.int .i64)], [(.int .i64)], (.pair (.int .i64) .unit), laws_szPutS⟩ := known_of (tab := tyTab) (cons := laws_szPutS_s) (segs := [(0, ⟨laws_szPutS_P0, laws_szPutS_O0, [], [], laws_szPutS_k0 fuel⟩)]) (n := fuel) mixed_ok tab_ok (.cons laws_szPut_o .nil) Tryz.func50 (by kernel_rfl) ⟨⟨fun _ _ => rfl, fun n k x => laws_szPutS_r0 fuel n k x⟩, trivial⟩ (fun x => laws_szPutS_f_eq fuel x.1 x.2.1)
def laws_szDisk_k (N : Nat) (x0 : ((List ByteArray) × (List (Int × ByteArray × Unit)) × Unit)) (x1 : Int) : Option (Unit × (Int × Unit)) :=
  obind (laws_szStringS (x0.1, x1, ())) fun v0 =>
  tb (ilt v0.2.1 0)
  (some ((), (-1), ()))
  (obind (laws_szPutS (x0.2.1, v0.2.1, ())) fun v1 =>
    tb (ilt v1.2.1 0)
    (some ((), (-1), ()))
    (some ((), v1.2.1, ())))
def laws_szDisk (x : (((List ByteArray) × (List (Int × ByteArray × Unit)) × Unit) × Int × Unit)) : Option (Unit × (Int × Unit)) := laws_szDisk_k fuel x.1 x.2.1
def laws_szDisk_s : List (Nat × Con) := [(49, ⟨[.val (.row false .str), .val (.int .i64)], [(.int .i64)], (.pair (.int .i64) .unit), laws_szStringS⟩), (50, ⟨[.val (.row false S105), .val (.int .i64)], [(.int .i64)], (.pair (.int .i64) .unit), laws_szPutS⟩)]
def laws_szDisk_E : Env := ⟨fun j => (look tyTab j).getD .unit, fun j => look laws_szDisk_s j⟩
theorem laws_szDisk_f_eq (N : Nat) (x0 : ((List ByteArray) × (List (Int × ByteArray × Unit)) × Unit)) (x1 : Int) : funK laws_szDisk_E Tryz.f20 [.val S25, .val (.int .i64)] [(.int .i64)] (.pair (.int .i64) .unit) (fun i => look [] i) N (x0, x1, ()) = laws_szDisk_k N x0 x1 := by kernel_rfl
theorem laws_szDisk_o : Known Tryz.prog 20 ⟨[.val S25, .val (.int .i64)], [(.int .i64)], (.pair (.int .i64) .unit), laws_szDisk⟩ := known_of (tab := tyTab) (cons := laws_szDisk_s) (segs := []) (n := fuel) mixed_ok tab_ok (.cons laws_szStringS_o (.cons laws_szPutS_o .nil)) Tryz.func20 (by kernel_rfl) trivial (fun x => laws_szDisk_f_eq fuel x.1 x.2.1)
def laws_szEntry_k (N : Nat) (x0 : (ByteArray × ByteArray × Unit)) (x1 : Int) : Option (Unit × (Int × Unit)) :=
  tb (ilt (wr .i64 (x1 - (((slen x0.1) : Nat) : Int))) 0)
  (some ((), (-1), ()))
  (tb (ilt (wr .i64 ((wr .i64 (x1 - (((slen x0.1) : Nat) : Int))) - (((slen x0.2.1) : Nat) : Int))) 0)
    (some ((), (-1), ()))
    (some ((), (wr .i64 ((wr .i64 (x1 - (((slen x0.1) : Nat) : Int))) - (((slen x0.2.1) : Nat) : Int))), ())))
def laws_szEntry (x : ((ByteArray × ByteArray × Unit) × Int × Unit)) : Option (Unit × (Int × Unit)) := laws_szEntry_k fuel x.1 x.2.1
def laws_szEntry_s : List (Nat × Con) := []
def laws_szEntry_E : Env := ⟨fun j => (look tyTab j).getD .unit, fun j => look laws_szEntry_s j⟩
theorem laws_szEntry_f_eq (N : Nat) (x0 : (ByteArray × ByteArray × Unit)) (x1 : Int) : funK laws_szEntry_E Tryz.f51 [.val S79, .val (.int .i64)] [(.int .i64)] (.pair (.int .i64) .unit) (fun i => look [] i) N (x0, x1, ()) = laws_szEntry_k N x0 x1 := by kernel_rfl
theorem laws_szEntry_o : Known Tryz.prog 51 ⟨[.val S79, .val (.int .i64)], [(.int .i64)], (.pair (.int .i64) .unit), laws_szEntry⟩ := known_of (tab := tyTab) (cons := laws_szEntry_s) (segs := []) (n := fuel) mixed_ok tab_ok .nil Tryz.func51 (by kernel_rfl) trivial (fun x => laws_szEntry_f_eq fuel x.1 x.2.1)
def laws_szEntryS_P0 : Tpl := ⟨[(0, .one (.leaf (.row false (.pair .str (.pair .str .unit))))), (1, .one (.leaf (.int .i64))), (5, .one (.leaf (.int .i64)))], [], []⟩
def laws_szEntryS_O0 : Tpl := ⟨[(1, .one (.leaf (.int .i64)))], [], []⟩
def laws_szEntryS_k0 (N : Nat) : Nat → (((Int × Unit) × (Unit × Unit)) → Option (Unit × (Int × Unit))) → (((List (ByteArray × (ByteArray × Unit))) × Int × Int × Unit) × (Unit × Unit)) → Option (Unit × (Int × Unit))
  | 0, _, _ => none
  | n + 1, k, x =>
    tb (ilt x.1.2.2.1 (((llen x.1.1) : Nat) : Int))
    (chk (0 ≤ x.1.2.2.1) (obind (at? x.1.1 (Int.toNat x.1.2.2.1)) fun v0 =>
        obind (laws_szEntry ((v0.1, v0.2.1, ()), x.1.2.1, ())) fun v1 =>
        tb (ilt v1.2.1 0)
        (some ((), (-1), ()))
        (laws_szEntryS_k0 N n k ((x.1.1, v1.2.1, (wr .i64 (x.1.2.2.1 + 1)), ()), (), ()))) (none))
    (k ((x.1.2.1, ()), (), ()))
def laws_szEntryS_k (N : Nat) (x0 : (List (ByteArray × ByteArray × Unit))) (x1 : Int) : Option (Unit × (Int × Unit)) :=
  tb (ilt (wr .i64 (x1 - (((llen x0) : Nat) : Int))) 0)
  (some ((), (-1), ()))
  (laws_szEntryS_k0 N N (fun v0 =>
      some ((), v0.1.1, ())) ((x0, (wr .i64 (x1 - (((llen x0) : Nat) : Int))), 0, ()), (), ()))
def laws_szEntryS (x : ((List (ByteArray × ByteArray × Unit)) × Int × Unit)) : Option (Unit × (Int × Unit)) := laws_szEntryS_k fuel x.1 x.2.1
def laws_szEntryS_s : List (Nat × Con) := [(51, ⟨[.val S79, .val (.int .i64)], [(.int .i64)], (.pair (.int .i64) .unit), laws_szEntry⟩)]
def laws_szEntryS_E : Env := ⟨fun j => (look tyTab j).getD .unit, fun j => look laws_szEntryS_s j⟩
theorem laws_szEntryS_r0 (N n : Nat) (k : laws_szEntryS_O0.ty.den → Option (Unit × (Int × Unit))) (x : laws_szEntryS_P0.ty.den) : roundK laws_szEntryS_E ⟨Tryz.f21.ntmps, N, (fun i => look [(0, ⟨laws_szEntryS_P0, laws_szEntryS_O0, [], [], laws_szEntryS_k0 N⟩)] i), retK laws_szEntryS_E Tryz.f21 [.val (.row false S79), .val (.int .i64)] [(.int .i64)] (.pair (.int .i64) .unit)⟩ (Tryz.f21.body.getD .skip) 0 ⟨laws_szEntryS_P0, laws_szEntryS_O0, [], [], laws_szEntryS_k0 N⟩ (laws_szEntryS_k0 N n k) k x = laws_szEntryS_k0 N (n + 1) k x := by kernel_rfl
theorem laws_szEntryS_f_eq (N : Nat) (x0 : (List (ByteArray × ByteArray × Unit))) (x1 : Int) : funK laws_szEntryS_E Tryz.f21 [.val (.row false S79), .val (.int .i64)] [(.int .i64)] (.pair (.int .i64) .unit) (fun i => look [(0, ⟨laws_szEntryS_P0, laws_szEntryS_O0, [], [], laws_szEntryS_k0 N⟩)] i) N (x0, x1, ()) = laws_szEntryS_k N x0 x1 := by kernel_rfl
theorem laws_szEntryS_o : Known Tryz.prog 21 ⟨[.val (.row false S79), .val (.int .i64)], [(.int .i64)], (.pair (.int .i64) .unit), laws_szEntryS⟩ := known_of (tab := tyTab) (cons := laws_szEntryS_s) (segs := [(0, ⟨laws_szEntryS_P0, laws_szEntryS_O0, [], [], laws_szEntryS_k0 fuel⟩)]) (n := fuel) mixed_ok tab_ok (.cons laws_szEntry_o .nil) Tryz.func21 (by kernel_rfl) ⟨⟨fun _ _ => rfl, fun n k x => laws_szEntryS_r0 fuel n k x⟩, trivial⟩ (fun x => laws_szEntryS_f_eq fuel x.1 x.2.1)
def laws_szArchive_k (N : Nat) (x0 : (Bool × ((List ByteArray) × (List (Int × ByteArray × Unit)) × Unit) × (Int × Int × Int × Unit) × (List (ByteArray × ByteArray × Unit)) × Unit)) (x1 : Int) : Option (Unit × (Int × Unit)) :=
  obind (laws_szDisk ((x0.2.1.1, x0.2.1.2.1, ()), x1, ())) fun v0 =>
  tb (ilt v0.2.1 0)
  (some ((), (-1), ()))
  (obind (laws_szEntryS (x0.2.2.2.1, v0.2.1, ())) fun v1 =>
    tb (ilt v1.2.1 0)
    (some ((), (-1), ()))
    (some ((), v1.2.1, ())))
def laws_szArchive (x : ((Bool × ((List ByteArray) × (List (Int × ByteArray × Unit)) × Unit) × (Int × Int × Int × Unit) × (List (ByteArray × ByteArray × Unit)) × Unit) × Int × Unit)) : Option (Unit × (Int × Unit)) := laws_szArchive_k fuel x.1 x.2.1
def laws_szArchive_s : List (Nat × Con) := [(20, ⟨[.val S25, .val (.int .i64)], [(.int .i64)], (.pair (.int .i64) .unit), laws_szDisk⟩), (21, ⟨[.val (.row false S79), .val (.int .i64)], [(.int .i64)], (.pair (.int .i64) .unit), laws_szEntryS⟩)]
def laws_szArchive_E : Env := ⟨fun j => (look tyTab j).getD .unit, fun j => look laws_szArchive_s j⟩
theorem laws_szArchive_f_eq (N : Nat) (x0 : (Bool × ((List ByteArray) × (List (Int × ByteArray × Unit)) × Unit) × (Int × Int × Int × Unit) × (List (ByteArray × ByteArray × Unit)) × Unit)) (x1 : Int) : funK laws_szArchive_E Tryz.f6 [.val S30, .val (.int .i64)] [(.int .i64)] (.pair (.int .i64) .unit) (fun i => look [] i) N (x0, x1, ()) = laws_szArchive_k N x0 x1 := by kernel_rfl
theorem laws_szArchive_o : Known Tryz.prog 6 ⟨[.val S30, .val (.int .i64)], [(.int .i64)], (.pair (.int .i64) .unit), laws_szArchive⟩ := known_of (tab := tyTab) (cons := laws_szArchive_s) (segs := []) (n := fuel) mixed_ok tab_ok (.cons laws_szDisk_o (.cons laws_szEntryS_o .nil)) Tryz.func6 (by kernel_rfl) trivial (fun x => laws_szArchive_f_eq fuel x.1 x.2.1)
def spec_l1In_k (N : Nat) (x0 : Int) (x1 : Int) (x2 : Int) : Option (Unit × (Bool × Unit)) :=
  tb (ile x1 x0)
  (some ((), (ile x0 x2), ()))
  (some ((), false, ()))
def spec_l1In (x : (Int × Int × Int × Unit)) : Option (Unit × (Bool × Unit)) := spec_l1In_k fuel x.1 x.2.1 x.2.2.1
def spec_l1In_s : List (Nat × Con) := []
def spec_l1In_E : Env := ⟨fun j => (look tyTab j).getD .unit, fun j => look spec_l1In_s j⟩
theorem spec_l1In_f_eq (N : Nat) (x0 : Int) (x1 : Int) (x2 : Int) : funK spec_l1In_E Tryz.f66 [.val (.int .i64), .val (.int .i64), .val (.int .i64)] [.bool] (.pair .bool .unit) (fun i => look [] i) N (x0, x1, x2, ()) = spec_l1In_k N x0 x1 x2 := by kernel_rfl
theorem spec_l1In_o : Known Tryz.prog 66 ⟨[.val (.int .i64), .val (.int .i64), .val (.int .i64)], [.bool], (.pair .bool .unit), spec_l1In⟩ := known_of (tab := tyTab) (cons := spec_l1In_s) (segs := []) (n := fuel) mixed_ok tab_ok .nil Tryz.func66 (by kernel_rfl) trivial (fun x => spec_l1In_f_eq fuel x.1 x.2.1 x.2.2.1)
def spec_l15Sector_k (N : Nat) (x0 : Int) : Option (Unit × (Bool × Unit)) :=
  obind (spec_l1In (x0, 0, 129, ())) fun v0 =>
  some ((), v0.2.1, ())
def spec_l15Sector (x : (Int × Unit)) : Option (Unit × (Bool × Unit)) := spec_l15Sector_k fuel x.1
def spec_l15Sector_s : List (Nat × Con) := [(66, ⟨[.val (.int .i64), .val (.int .i64), .val (.int .i64)], [.bool], (.pair .bool .unit), spec_l1In⟩)]
def spec_l15Sector_E : Env := ⟨fun j => (look tyTab j).getD .unit, fun j => look spec_l15Sector_s j⟩
theorem spec_l15Sector_f_eq (N : Nat) (x0 : Int) : funK spec_l15Sector_E Tryz.f80 [.val (.int .i64)] [.bool] (.pair .bool .unit) (fun i => look [] i) N (x0, ()) = spec_l15Sector_k N x0 := by kernel_rfl
theorem spec_l15Sector_o : Known Tryz.prog 80 ⟨[.val (.int .i64)], [.bool], (.pair .bool .unit), spec_l15Sector⟩ := known_of (tab := tyTab) (cons := spec_l15Sector_s) (segs := []) (n := fuel) mixed_ok tab_ok (.cons spec_l1In_o .nil) Tryz.func80 (by kernel_rfl) trivial (fun x => spec_l15Sector_f_eq fuel x.1)
def spec_DiskOk_P0 : Tpl := ⟨[(1, .one (.fix (.vptr 1 0))), (3, .one (.leaf (.int .i64)))], [(1, [.leaf (.row false .str), .leaf (.row false (.pair (.int .i64) (.pair .str .unit)))])], []⟩
def spec_DiskOk_O0 : Tpl := ⟨[(1, .one (.fix (.vptr 1 0)))], [(1, [.leaf (.row false .str), .leaf (.row false (.pair (.int .i64) (.pair .str .unit)))])], []⟩
def spec_DiskOk_k0 (N : Nat) : Nat → ((Unit × ((((List ByteArray) × (List (Int × (ByteArray × Unit))) × Unit) × Unit) × Unit)) → Option (Unit × (Bool × Unit))) → ((Int × Unit) × ((((List ByteArray) × (List (Int × (ByteArray × Unit))) × Unit) × Unit) × Unit)) → Option (Unit × (Bool × Unit))
  | 0, _, _ => none
  | n + 1, k, x =>
    tb (ilt x.1.1 (((llen x.2.1.1.1) : Nat) : Int))
    (chk (0 ≤ x.1.1) (obind (at? x.2.1.1.1 (Int.toNat x.1.1)) fun v0 =>
        tb (bnot (ieq (((slen v0) : Nat) : Int) 64))
        (some ((), false, ()))
        (spec_DiskOk_k0 N n k (((wr .i64 (x.1.1 + 1)), ()), ((x.2.1.1.1, x.2.1.1.2.1, ()), ()), ()))) (none))
    (k ((), ((x.2.1.1.1, x.2.1.1.2.1, ()), ()), ()))
def spec_DiskOk_P2 : Tpl := ⟨[(1, .one (.fix (.vptr 1 0))), (4, .one (.leaf (.int .i64)))], [(1, [.leaf (.row false .str), .leaf (.row false (.pair (.int .i64) (.pair .str .unit)))])], []⟩
def spec_DiskOk_O2 : Tpl := ⟨[], [], []⟩
def spec_DiskOk_k2 (N : Nat) : Nat → ((Unit × (Unit × Unit)) → Option (Unit × (Bool × Unit))) → ((Int × Unit) × ((((List ByteArray) × (List (Int × (ByteArray × Unit))) × Unit) × Unit) × Unit)) → Option (Unit × (Bool × Unit))
  | 0, _, _ => none
  | n + 1, k, x =>
    tb (ilt x.1.1 (((llen x.2.1.1.2.1) : Nat) : Int))
    (chk (0 ≤ x.1.1) (obind (at? x.2.1.1.2.1 (Int.toNat x.1.1)) fun v0 =>
        obind (spec_l15Sector (v0.1, ())) fun v1 =>
        tb (bnot v1.2.1)
        (some ((), false, ()))
        (chk (0 ≤ x.1.1) (obind (at? x.2.1.1.2.1 (Int.toNat x.1.1)) fun v2 =>
            tb (bnot (ieq (((slen v2.2.1) : Nat) : Int) 64))
            (some ((), false, ()))
            (spec_DiskOk_k2 N n k (((wr .i64 (x.1.1 + 1)), ()), ((x.2.1.1.1, x.2.1.1.2.1, ()), ()), ()))) (none))) (none))
    (k ((), (), ()))
def spec_DiskOk_k (N : Nat) (x0 : ((List ByteArray) × (List (Int × ByteArray × Unit)) × Unit)) : Option (Unit × (Bool × Unit)) :=
  tb (bnot (ieq (((llen x0.1) : Nat) : Int) 130))
  (some ((), false, ()))
  (tb (ilt 200 (((llen x0.2.1) : Nat) : Int))
    (some ((), false, ()))
    (spec_DiskOk_k0 N N (fun v0 =>
        spec_DiskOk_k2 N N (fun v1 =>
          some ((), true, ())) ((0, ()), ((v0.2.1.1.1, v0.2.1.1.2.1, ()), ()), ())) ((0, ()), ((x0.1, x0.2.1, ()), ()), ())))
def spec_DiskOk (x : (((List ByteArray) × (List (Int × ByteArray × Unit)) × Unit) × Unit)) : Option (Unit × (Bool × Unit)) := spec_DiskOk_k fuel x.1
def spec_DiskOk_s : List (Nat × Con) := [(80, ⟨[.val (.int .i64)], [.bool], (.pair .bool .unit), spec_l15Sector⟩)]
def spec_DiskOk_E : Env := ⟨fun j => (look tyTab j).getD .unit, fun j => look spec_DiskOk_s j⟩
theorem spec_DiskOk_r0 (N n : Nat) (k : spec_DiskOk_O0.ty.den → Option (Unit × (Bool × Unit))) (x : spec_DiskOk_P0.ty.den) : roundK spec_DiskOk_E ⟨Tryz.f52.ntmps, N, (fun i => look [(0, ⟨spec_DiskOk_P0, spec_DiskOk_O0, [], [], spec_DiskOk_k0 N⟩), (2, ⟨spec_DiskOk_P2, spec_DiskOk_O2, [], [], spec_DiskOk_k2 N⟩)] i), retK spec_DiskOk_E Tryz.f52 [.val S36] [.bool] (.pair .bool .unit)⟩ (Tryz.f52.body.getD .skip) 0 ⟨spec_DiskOk_P0, spec_DiskOk_O0, [], [], spec_DiskOk_k0 N⟩ (spec_DiskOk_k0 N n k) k x = spec_DiskOk_k0 N (n + 1) k x := by kernel_rfl
theorem spec_DiskOk_r2 (N n : Nat) (k : spec_DiskOk_O2.ty.den → Option (Unit × (Bool × Unit))) (x : spec_DiskOk_P2.ty.den) : roundK spec_DiskOk_E ⟨Tryz.f52.ntmps, N, (fun i => look [(0, ⟨spec_DiskOk_P0, spec_DiskOk_O0, [], [], spec_DiskOk_k0 N⟩), (2, ⟨spec_DiskOk_P2, spec_DiskOk_O2, [], [], spec_DiskOk_k2 N⟩)] i), retK spec_DiskOk_E Tryz.f52 [.val S36] [.bool] (.pair .bool .unit)⟩ (Tryz.f52.body.getD .skip) 2 ⟨spec_DiskOk_P2, spec_DiskOk_O2, [], [], spec_DiskOk_k2 N⟩ (spec_DiskOk_k2 N n k) k x = spec_DiskOk_k2 N (n + 1) k x := by kernel_rfl
theorem spec_DiskOk_f_eq (N : Nat) (x0 : ((List ByteArray) × (List (Int × ByteArray × Unit)) × Unit)) : funK spec_DiskOk_E Tryz.f52 [.val S36] [.bool] (.pair .bool .unit) (fun i => look [(0, ⟨spec_DiskOk_P0, spec_DiskOk_O0, [], [], spec_DiskOk_k0 N⟩), (2, ⟨spec_DiskOk_P2, spec_DiskOk_O2, [], [], spec_DiskOk_k2 N⟩)] i) N (x0, ()) = spec_DiskOk_k N x0 := by kernel_rfl
theorem spec_DiskOk_o : Known Tryz.prog 52 ⟨[.val S36], [.bool], (.pair .bool .unit), spec_DiskOk⟩ := known_of (tab := tyTab) (cons := spec_DiskOk_s) (segs := [(0, ⟨spec_DiskOk_P0, spec_DiskOk_O0, [], [], spec_DiskOk_k0 fuel⟩), (2, ⟨spec_DiskOk_P2, spec_DiskOk_O2, [], [], spec_DiskOk_k2 fuel⟩)]) (n := fuel) mixed_ok tab_ok (.cons spec_l15Sector_o .nil) Tryz.func52 (by kernel_rfl) ⟨⟨fun _ _ => rfl, fun n k x => spec_DiskOk_r0 fuel n k x⟩, ⟨⟨fun _ _ => rfl, fun n k x => spec_DiskOk_r2 fuel n k x⟩, trivial⟩⟩ (fun x => spec_DiskOk_f_eq fuel x.1)
def spec_GetNum_P0 : Tpl := ⟨[(0, .one (.leaf (.row false (.int .u8)))), (1, .one (.leaf (.int .i64))), (7, .one (.leaf (.int .i64))), (8, .one (.leaf (.int .i64))), (9, .one (.leaf (.int .i64)))], [], []⟩
def spec_GetNum_O0 : Tpl := ⟨[], [], []⟩
def spec_GetNum_k0 (N : Nat) : Nat → ((Unit × (Unit × Unit)) → Option (Unit × (Int × Int × Bool × Unit))) → (((List Int) × Int × Int × Int × Int × Unit) × (Unit × Unit)) → Option (Unit × (Int × Int × Bool × Unit))
  | 0, _, _ => none
  | n + 1, k, x =>
    tb (ilt x.1.2.2.2.2.1 9)
    (tb (ilt (wr .i64 (x.1.2.1 + x.1.2.2.2.2.1)) (((llen x.1.1) : Nat) : Int))
      (chk (0 ≤ (wr .i64 (x.1.2.1 + x.1.2.2.2.2.1))) (obind (at? x.1.1 (Int.toNat (wr .i64 (x.1.2.1 + x.1.2.2.2.2.1)))) fun v0 =>
          chk ((128 : Int) = 0) (none) (tb (ilt (wr .i64 v0) 128)
            (tb (ieq (wr .i64 v0) 0)
              (tb (ilt 0 x.1.2.2.2.2.1)
                (some ((), 0, 0, false, ()))
                (some ((), (wr .i64 (x.1.2.2.1 + (wr .i64 ((Int.tmod (wr .i64 v0) 128) * x.1.2.2.2.1)))), (wr .i64 ((wr .i64 (x.1.2.1 + x.1.2.2.2.2.1)) + 1)), true, ())))
              (some ((), (wr .i64 (x.1.2.2.1 + (wr .i64 ((Int.tmod (wr .i64 v0) 128) * x.1.2.2.2.1)))), (wr .i64 ((wr .i64 (x.1.2.1 + x.1.2.2.2.2.1)) + 1)), true, ())))
            (spec_GetNum_k0 N n k ((x.1.1, x.1.2.1, (wr .i64 (x.1.2.2.1 + (wr .i64 ((Int.tmod (wr .i64 v0) 128) * x.1.2.2.2.1)))), (wr .i64 (x.1.2.2.2.1 * 128)), (wr .i64 (x.1.2.2.2.2.1 + 1)), ()), (), ())))) (none))
      (k ((), (), ())))
    (k ((), (), ()))
def spec_GetNum_k (N : Nat) (x0 : (List Int)) (x1 : Int) : Option (Unit × (Int × Int × Bool × Unit)) :=
  tb (ilt x1 0)
  (some ((), 0, 0, false, ()))
  (tb (ile (((llen x0) : Nat) : Int) x1)
    (some ((), 0, 0, false, ()))
    (spec_GetNum_k0 N N (fun v0 =>
        some ((), 0, 0, false, ())) ((x0, x1, 0, 1, 0, ()), (), ())))
def spec_GetNum (x : ((List Int) × Int × Unit)) : Option (Unit × (Int × Int × Bool × Unit)) := spec_GetNum_k fuel x.1 x.2.1
def spec_GetNum_s : List (Nat × Con) := []
def spec_GetNum_E : Env := ⟨fun j => (look tyTab j).getD .unit, fun j => look spec_GetNum_s j⟩
theorem spec_GetNum_r0 (N n : Nat) (k : spec_GetNum_O0.ty.den → Option (Unit × (Int × Int × Bool × Unit))) (x : spec_GetNum_P0.ty.den) : roundK spec_GetNum_E ⟨Tryz.f83.ntmps, N, (fun i => look [(0, ⟨spec_GetNum_P0, spec_GetNum_O0, [], [], spec_GetNum_k0 N⟩)] i), retK spec_GetNum_E Tryz.f83 [.val (.row false (.int .u8)), .val (.int .i64)] [(.int .i64), (.int .i64), .bool] (.pair (.int .i64) (.pair (.int .i64) (.pair .bool .unit)))⟩ (Tryz.f83.body.getD .skip) 0 ⟨spec_GetNum_P0, spec_GetNum_O0, [], [], spec_GetNum_k0 N⟩ (spec_GetNum_k0 N n k) k x = spec_GetNum_k0 N (n + 1) k x := by kernel_rfl
theorem spec_GetNum_f_eq (N : Nat) (x0 : (List Int)) (x1 : Int) : funK spec_GetNum_E Tryz.f83 [.val (.row false (.int .u8)), .val (.int .i64)] [(.int .i64), (.int .i64), .bool] (.pair (.int .i64) (.pair (.int .i64) (.pair .bool .unit))) (fun i => look [(0, ⟨spec_GetNum_P0, spec_GetNum_O0, [], [], spec_GetNum_k0 N⟩)] i) N (x0, x1, ()) = spec_GetNum_k N x0 x1 := by kernel_rfl
theorem spec_GetNum_o : Known Tryz.prog 83 ⟨[.val (.row false (.int .u8)), .val (.int .i64)], [(.int .i64), (.int .i64), .bool], (.pair (.int .i64) (.pair (.int .i64) (.pair .bool .unit))), spec_GetNum⟩ := known_of (tab := tyTab) (cons := spec_GetNum_s) (segs := [(0, ⟨spec_GetNum_P0, spec_GetNum_O0, [], [], spec_GetNum_k0 fuel⟩)]) (n := fuel) mixed_ok tab_ok .nil Tryz.func83 (by kernel_rfl) ⟨⟨fun _ _ => rfl, fun n k x => spec_GetNum_r0 fuel n k x⟩, trivial⟩ (fun x => spec_GetNum_f_eq fuel x.1 x.2.1)
def spec_l16Right_k (N : Nat) (x0 : (Int × Int × Int × Unit)) : Option (Unit × (Bool × Unit)) :=
  obind (spec_l1In (x0.1, 1, 1000000000, ())) fun v0 =>
  tb v0.2.1
  (obind (spec_l1In (x0.2.1, 0, 1, ())) fun v1 =>
    tb v1.2.1
    (obind (spec_l1In (x0.2.2.1, 0, 4096, ())) fun v2 =>
      some ((), v2.2.1, ()))
    (some ((), false, ())))
  (some ((), false, ()))
def spec_l16Right (x : ((Int × Int × Int × Unit) × Unit)) : Option (Unit × (Bool × Unit)) := spec_l16Right_k fuel x.1
def spec_l16Right_s : List (Nat × Con) := [(66, ⟨[.val (.int .i64), .val (.int .i64), .val (.int .i64)], [.bool], (.pair .bool .unit), spec_l1In⟩)]
def spec_l16Right_E : Env := ⟨fun j => (look tyTab j).getD .unit, fun j => look spec_l16Right_s j⟩
theorem spec_l16Right_f_eq (N : Nat) (x0 : (Int × Int × Int × Unit)) : funK spec_l16Right_E Tryz.f40 [.val S37] [.bool] (.pair .bool .unit) (fun i => look [] i) N (x0, ()) = spec_l16Right_k N x0 := by kernel_rfl
theorem spec_l16Right_o : Known Tryz.prog 40 ⟨[.val S37], [.bool], (.pair .bool .unit), spec_l16Right⟩ := known_of (tab := tyTab) (cons := spec_l16Right_s) (segs := []) (n := fuel) mixed_ok tab_ok (.cons spec_l1In_o .nil) Tryz.func40 (by kernel_rfl) trivial (fun x => spec_l16Right_f_eq fuel x.1)
def spec_PutNum_P0 : Tpl := ⟨[(0, .one (.leaf (.int .i64))), (3, .one (.fix (.ref 10000 [] none)))], [], [(10000, (.int .u8))]⟩
def spec_PutNum_O0 : Tpl := ⟨[(0, .one (.leaf (.int .i64))), (3, .one (.fix (.ref 10500 [] none)))], [], [(10500, (.int .u8))]⟩
def spec_PutNum_k0 (N : Nat) : Nat → (((Int × Unit) × (Unit × ((List Int) × Unit))) → Option (Unit × ((List Int) × Unit))) → ((Int × Unit) × (Unit × ((List Int) × Unit))) → Option (Unit × ((List Int) × Unit))
  | 0, _, _ => none
  | n + 1, k, x =>
    tb (ilt 127 x.1.1)
    (chk ((128 : Int) = 0) (none) (chk ((plus (llen x.2.2.1) (llen [(wr .u8 (wr .i64 ((Int.tmod x.1.1 128) + 128)))])) ≤ 140737488355328) (chk ((128 : Int) = 0) (none) (spec_PutNum_k0 N n k (((wr .i64 (Int.tdiv x.1.1 128)), ()), (), (lapp x.2.2.1 [(wr .u8 (wr .i64 ((Int.tmod x.1.1 128) + 128)))]), ()))) (none)))
    (k ((x.1.1, ()), (), x.2.2.1, ()))
def spec_PutNum_k (N : Nat) (x0 : Int) : Option (Unit × ((List Int) × Unit)) :=
  tb (ilt x0 0)
  (some ((), [], ()))
  (spec_PutNum_k0 N N (fun v0 =>
      chk ((plus (llen v0.2.2.1) (llen [(wr .u8 v0.1.1)])) ≤ 140737488355328) (some ((), (lapp v0.2.2.1 [(wr .u8 v0.1.1)]), ())) (none)) ((x0, ()), (), [], ()))
def spec_PutNum (x : (Int × Unit)) : Option (Unit × ((List Int) × Unit)) := spec_PutNum_k fuel x.1
def spec_PutNum_s : List (Nat × Con) := []
def spec_PutNum_E : Env := ⟨fun j => (look tyTab j).getD .unit, fun j => look spec_PutNum_s j⟩
theorem spec_PutNum_r0 (N n : Nat) (k : spec_PutNum_O0.ty.den → Option (Unit × ((List Int) × Unit))) (x : spec_PutNum_P0.ty.den) : roundK spec_PutNum_E ⟨Tryz.f96.ntmps, N, (fun i => look [(0, ⟨spec_PutNum_P0, spec_PutNum_O0, [.tmp 3 10000 (.int .u8)], [.tmp 3 10500 (.int .u8)], spec_PutNum_k0 N⟩)] i), retK spec_PutNum_E Tryz.f96 [.val (.int .i64)] [(.row true (.int .u8))] (.pair (.row true (.int .u8)) .unit)⟩ (Tryz.f96.body.getD .skip) 0 ⟨spec_PutNum_P0, spec_PutNum_O0, [.tmp 3 10000 (.int .u8)], [.tmp 3 10500 (.int .u8)], spec_PutNum_k0 N⟩ (spec_PutNum_k0 N n k) k x = spec_PutNum_k0 N (n + 1) k x := by kernel_rfl
theorem spec_PutNum_f_eq (N : Nat) (x0 : Int) : funK spec_PutNum_E Tryz.f96 [.val (.int .i64)] [(.row true (.int .u8))] (.pair (.row true (.int .u8)) .unit) (fun i => look [(0, ⟨spec_PutNum_P0, spec_PutNum_O0, [.tmp 3 10000 (.int .u8)], [.tmp 3 10500 (.int .u8)], spec_PutNum_k0 N⟩)] i) N (x0, ()) = spec_PutNum_k N x0 := by kernel_rfl
theorem spec_PutNum_o : Known Tryz.prog 96 ⟨[.val (.int .i64)], [(.row true (.int .u8))], (.pair (.row true (.int .u8)) .unit), spec_PutNum⟩ := known_of (tab := tyTab) (cons := spec_PutNum_s) (segs := [(0, ⟨spec_PutNum_P0, spec_PutNum_O0, [.tmp 3 10000 (.int .u8)], [.tmp 3 10500 (.int .u8)], spec_PutNum_k0 fuel⟩)]) (n := fuel) mixed_ok tab_ok .nil Tryz.func96 (by kernel_rfl) ⟨⟨fun _ _ => rfl, fun n k x => spec_PutNum_r0 fuel n k x⟩, trivial⟩ (fun x => spec_PutNum_f_eq fuel x.1)
def spec_HeadPack_P0 : Tpl := ⟨[(4, .one (.fix (.ref 10000 [] none)))], [], [(10000, (.int .u8))]⟩
def spec_HeadPack_O0 : Tpl := ⟨[(4, .one (.fix (.ref 10500 [] none)))], [], [(10500, (.int .u8))]⟩
def spec_HeadPack_k0 (N : Nat) : Nat → ((Unit × (Unit × ((List Int) × Unit))) → Option (Unit × (ByteArray × Bool × Unit))) → (Unit × (Unit × ((List Int) × Unit))) → Option (Unit × (ByteArray × Bool × Unit))
  | 0, _, _ => none
  | n + 1, k, x =>
    tb (ilt (((llen x.2.2.1) : Nat) : Int) 64)
    (chk ((plus (llen x.2.2.1) (llen [0])) ≤ 140737488355328) (spec_HeadPack_k0 N n k ((), (), (lapp x.2.2.1 [0]), ())) (none))
    (k ((), (), x.2.2.1, ()))
def spec_HeadPack_k (N : Nat) (x0 : (Int × Int × Int × Unit)) : Option (Unit × (ByteArray × Bool × Unit)) :=
  obind (spec_l16Right ((x0.1, x0.2.1, x0.2.2.1, ()), ())) fun v0 =>
  tb (bnot v0.2.1)
  (some ((), (⟨#[]⟩ : ByteArray), false, ()))
  (obind (spec_PutNum (x0.1, ())) fun v1 =>
    obind (spec_PutNum (x0.2.1, ())) fun v2 =>
    chk ((plus (llen v1.2.1) (llen v2.2.1)) ≤ 140737488355328) (obind (spec_PutNum (x0.2.2.1, ())) fun v3 =>
      chk ((plus (llen (lapp v1.2.1 v2.2.1)) (llen v3.2.1)) ≤ 140737488355328) (spec_HeadPack_k0 N N (fun v4 =>
          some ((), (strOf v4.2.2.1), true, ())) ((), (), (lapp (lapp v1.2.1 v2.2.1) v3.2.1), ())) (none)) (none))
def spec_HeadPack (x : ((Int × Int × Int × Unit) × Unit)) : Option (Unit × (ByteArray × Bool × Unit)) := spec_HeadPack_k fuel x.1
def spec_HeadPack_s : List (Nat × Con) := [(40, ⟨[.val S37], [.bool], (.pair .bool .unit), spec_l16Right⟩), (96, ⟨[.val (.int .i64)], [(.row true (.int .u8))], (.pair (.row true (.int .u8)) .unit), spec_PutNum⟩)]
def spec_HeadPack_E : Env := ⟨fun j => (look tyTab j).getD .unit, fun j => look spec_HeadPack_s j⟩
theorem spec_HeadPack_r0 (N n : Nat) (k : spec_HeadPack_O0.ty.den → Option (Unit × (ByteArray × Bool × Unit))) (x : spec_HeadPack_P0.ty.den) : roundK spec_HeadPack_E ⟨Tryz.f84.ntmps, N, (fun i => look [(0, ⟨spec_HeadPack_P0, spec_HeadPack_O0, [.tmp 4 10000 (.int .u8)], [.tmp 4 10500 (.int .u8)], spec_HeadPack_k0 N⟩)] i), retK spec_HeadPack_E Tryz.f84 [.val S37] [.str, .bool] (.pair .str (.pair .bool .unit))⟩ (Tryz.f84.body.getD .skip) 0 ⟨spec_HeadPack_P0, spec_HeadPack_O0, [.tmp 4 10000 (.int .u8)], [.tmp 4 10500 (.int .u8)], spec_HeadPack_k0 N⟩ (spec_HeadPack_k0 N n k) k x = spec_HeadPack_k0 N (n + 1) k x := by kernel_rfl
theorem spec_HeadPack_f_eq (N : Nat) (x0 : (Int × Int × Int × Unit)) : funK spec_HeadPack_E Tryz.f84 [.val S37] [.str, .bool] (.pair .str (.pair .bool .unit)) (fun i => look [(0, ⟨spec_HeadPack_P0, spec_HeadPack_O0, [.tmp 4 10000 (.int .u8)], [.tmp 4 10500 (.int .u8)], spec_HeadPack_k0 N⟩)] i) N (x0, ()) = spec_HeadPack_k N x0 := by kernel_rfl
theorem spec_HeadPack_o : Known Tryz.prog 84 ⟨[.val S37], [.str, .bool], (.pair .str (.pair .bool .unit)), spec_HeadPack⟩ := known_of (tab := tyTab) (cons := spec_HeadPack_s) (segs := [(0, ⟨spec_HeadPack_P0, spec_HeadPack_O0, [.tmp 4 10000 (.int .u8)], [.tmp 4 10500 (.int .u8)], spec_HeadPack_k0 fuel⟩)]) (n := fuel) mixed_ok tab_ok (.cons spec_l16Right_o (.cons spec_PutNum_o .nil)) Tryz.func84 (by kernel_rfl) ⟨⟨fun _ _ => rfl, fun n k x => spec_HeadPack_r0 fuel n k x⟩, trivial⟩ (fun x => spec_HeadPack_f_eq fuel x.1)
def spec_HeadRead_k (N : Nat) (x0 : ByteArray) : Option (Unit × ((Int × Int × Int × Unit) × Bool × Unit)) :=
  obind (spec_GetNum ((bytesOf x0), 0, ())) fun v0 =>
  obind (spec_GetNum ((bytesOf x0), v0.2.2.1, ())) fun v1 =>
  obind (spec_GetNum ((bytesOf x0), v1.2.2.1, ())) fun v2 =>
  obind (spec_HeadPack ((v0.2.1, v1.2.1, v2.2.1, ()), ())) fun v3 =>
  tb (bnot v0.2.2.2.1)
  (some ((), (0, 0, 0, ()), false, ()))
  (tb (bnot v1.2.2.2.1)
    (some ((), (0, 0, 0, ()), false, ()))
    (tb (bnot v2.2.2.2.1)
      (some ((), (0, 0, 0, ()), false, ()))
      (tb (bnot v3.2.2.1)
        (some ((), (0, 0, 0, ()), false, ()))
        (tb (bnot (seq v3.2.1 x0))
          (some ((), (0, 0, 0, ()), false, ()))
          (some ((), (v0.2.1, v1.2.1, v2.2.1, ()), true, ()))))))
def spec_HeadRead (x : (ByteArray × Unit)) : Option (Unit × ((Int × Int × Int × Unit) × Bool × Unit)) := spec_HeadRead_k fuel x.1
def spec_HeadRead_s : List (Nat × Con) := [(83, ⟨[.val (.row false (.int .u8)), .val (.int .i64)], [(.int .i64), (.int .i64), .bool], (.pair (.int .i64) (.pair (.int .i64) (.pair .bool .unit))), spec_GetNum⟩), (84, ⟨[.val S37], [.str, .bool], (.pair .str (.pair .bool .unit)), spec_HeadPack⟩)]
def spec_HeadRead_E : Env := ⟨fun j => (look tyTab j).getD .unit, fun j => look spec_HeadRead_s j⟩
theorem spec_HeadRead_f_eq (N : Nat) (x0 : ByteArray) : funK spec_HeadRead_E Tryz.f64 [.val .str] [T37, .bool] (.pair T37 (.pair .bool .unit)) (fun i => look [] i) N (x0, ()) = spec_HeadRead_k N x0 := by kernel_rfl
theorem spec_HeadRead_o : Known Tryz.prog 64 ⟨[.val .str], [T37, .bool], (.pair T37 (.pair .bool .unit)), spec_HeadRead⟩ := known_of (tab := tyTab) (cons := spec_HeadRead_s) (segs := []) (n := fuel) mixed_ok tab_ok (.cons spec_GetNum_o (.cons spec_HeadPack_o .nil)) Tryz.func64 (by kernel_rfl) trivial (fun x => spec_HeadRead_f_eq fuel x.1)
def spec_l15Of_P0 : Tpl := ⟨[(1, .one (.leaf (.int .i64))), (2, .one (.fix (.vptr 2 0))), (5, .one (.leaf (.int .i64)))], [(2, [.leaf (.row false .str), .leaf (.row false (.pair (.int .i64) (.pair .str .unit)))])], []⟩
def spec_l15Of_O0 : Tpl := ⟨[(1, .one (.leaf (.int .i64))), (2, .one (.fix (.vptr 2 0)))], [(2, [.leaf (.row false .str), .leaf (.row false (.pair (.int .i64) (.pair .str .unit)))])], []⟩
def spec_l15Of_k0 (N : Nat) : Nat → (((Int × Unit) × ((((List ByteArray) × (List (Int × (ByteArray × Unit))) × Unit) × Unit) × Unit)) → Option (Unit × (ByteArray × Unit))) → ((Int × Int × Unit) × ((((List ByteArray) × (List (Int × (ByteArray × Unit))) × Unit) × Unit) × Unit)) → Option (Unit × (ByteArray × Unit))
  | 0, _, _ => none
  | n + 1, k, x =>
    tb (ile 0 x.1.2.1)
    (chk (0 ≤ x.1.2.1) (obind (at? x.2.1.1.2.1 (Int.toNat x.1.2.1)) fun v0 =>
        tb (ieq v0.1 x.1.1)
        (chk (0 ≤ x.1.2.1) (obind (at? x.2.1.1.2.1 (Int.toNat x.1.2.1)) fun v1 =>
            some ((), v1.2.1, ())) (none))
        (spec_l15Of_k0 N n k ((x.1.1, (wr .i64 (x.1.2.1 - 1)), ()), ((x.2.1.1.1, x.2.1.1.2.1, ()), ()), ()))) (none))
    (k ((x.1.1, ()), ((x.2.1.1.1, x.2.1.1.2.1, ()), ()), ()))
def spec_l15Of_k (N : Nat) (x0 : ((List ByteArray) × (List (Int × ByteArray × Unit)) × Unit)) (x1 : Int) : Option (Unit × (ByteArray × Unit)) :=
  spec_l15Of_k0 N N (fun v0 =>
    chk (0 ≤ v0.1.1) (obind (at? v0.2.1.1.1 (Int.toNat v0.1.1)) fun v1 =>
      some ((), v1, ())) (none)) ((x1, (wr .i64 ((((llen x0.2.1) : Nat) : Int) - 1)), ()), ((x0.1, x0.2.1, ()), ()), ())
def spec_l15Of (x : (((List ByteArray) × (List (Int × ByteArray × Unit)) × Unit) × Int × Unit)) : Option (Unit × (ByteArray × Unit)) := spec_l15Of_k fuel x.1 x.2.1
def spec_l15Of_s : List (Nat × Con) := []
def spec_l15Of_E : Env := ⟨fun j => (look tyTab j).getD .unit, fun j => look spec_l15Of_s j⟩
theorem spec_l15Of_r0 (N n : Nat) (k : spec_l15Of_O0.ty.den → Option (Unit × (ByteArray × Unit))) (x : spec_l15Of_P0.ty.den) : roundK spec_l15Of_E ⟨Tryz.f65.ntmps, N, (fun i => look [(0, ⟨spec_l15Of_P0, spec_l15Of_O0, [], [], spec_l15Of_k0 N⟩)] i), retK spec_l15Of_E Tryz.f65 [.val S36, .val (.int .i64)] [.str] (.pair .str .unit)⟩ (Tryz.f65.body.getD .skip) 0 ⟨spec_l15Of_P0, spec_l15Of_O0, [], [], spec_l15Of_k0 N⟩ (spec_l15Of_k0 N n k) k x = spec_l15Of_k0 N (n + 1) k x := by kernel_rfl
theorem spec_l15Of_f_eq (N : Nat) (x0 : ((List ByteArray) × (List (Int × ByteArray × Unit)) × Unit)) (x1 : Int) : funK spec_l15Of_E Tryz.f65 [.val S36, .val (.int .i64)] [.str] (.pair .str .unit) (fun i => look [(0, ⟨spec_l15Of_P0, spec_l15Of_O0, [], [], spec_l15Of_k0 N⟩)] i) N (x0, x1, ()) = spec_l15Of_k N x0 x1 := by kernel_rfl
theorem spec_l15Of_o : Known Tryz.prog 65 ⟨[.val S36, .val (.int .i64)], [.str], (.pair .str .unit), spec_l15Of⟩ := known_of (tab := tyTab) (cons := spec_l15Of_s) (segs := [(0, ⟨spec_l15Of_P0, spec_l15Of_O0, [], [], spec_l15Of_k0 fuel⟩)]) (n := fuel) mixed_ok tab_ok .nil Tryz.func65 (by kernel_rfl) ⟨⟨fun _ _ => rfl, fun n k x => spec_l15Of_r0 fuel n k x⟩, trivial⟩ (fun x => spec_l15Of_f_eq fuel x.1 x.2.1)
def spec_HeadNow_k (N : Nat) (x0 : ((List ByteArray) × (List (Int × ByteArray × Unit)) × Unit)) : Option (Unit × ((Int × Int × Int × Unit) × Unit)) :=
  obind (spec_DiskOk ((x0.1, x0.2.1, ()), ())) fun v0 =>
  tb (bnot v0.2.1)
  (some ((), (0, 0, 0, ()), ()))
  (obind (spec_l15Of ((x0.1, x0.2.1, ()), 0, ())) fun v1 =>
    obind (spec_HeadRead (v1.2.1, ())) fun v2 =>
    obind (spec_l15Of ((x0.1, x0.2.1, ()), 1, ())) fun v3 =>
    obind (spec_HeadRead (v3.2.1, ())) fun v4 =>
    tb (ilt v2.2.1.1 v4.2.1.1)
    (some ((), (v4.2.1.1, v4.2.1.2.1, v4.2.1.2.2.1, ()), ()))
    (some ((), (v2.2.1.1, v2.2.1.2.1, v2.2.1.2.2.1, ()), ())))
def spec_HeadNow (x : (((List ByteArray) × (List (Int × ByteArray × Unit)) × Unit) × Unit)) : Option (Unit × ((Int × Int × Int × Unit) × Unit)) := spec_HeadNow_k fuel x.1
def spec_HeadNow_s : List (Nat × Con) := [(52, ⟨[.val S36], [.bool], (.pair .bool .unit), spec_DiskOk⟩), (64, ⟨[.val .str], [T37, .bool], (.pair T37 (.pair .bool .unit)), spec_HeadRead⟩), (65, ⟨[.val S36, .val (.int .i64)], [.str], (.pair .str .unit), spec_l15Of⟩)]
def spec_HeadNow_E : Env := ⟨fun j => (look tyTab j).getD .unit, fun j => look spec_HeadNow_s j⟩
theorem spec_HeadNow_f_eq (N : Nat) (x0 : ((List ByteArray) × (List (Int × ByteArray × Unit)) × Unit)) : funK spec_HeadNow_E Tryz.f39 [.val S36] [T37] (.pair T37 .unit) (fun i => look [] i) N (x0, ()) = spec_HeadNow_k N x0 := by kernel_rfl
theorem spec_HeadNow_o : Known Tryz.prog 39 ⟨[.val S36], [T37], (.pair T37 .unit), spec_HeadNow⟩ := known_of (tab := tyTab) (cons := spec_HeadNow_s) (segs := []) (n := fuel) mixed_ok tab_ok (.cons spec_DiskOk_o (.cons spec_HeadRead_o (.cons spec_l15Of_o .nil))) Tryz.func39 (by kernel_rfl) trivial (fun x => spec_HeadNow_f_eq fuel x.1)
def spec_GetText_k (N : Nat) (x0 : (List Int)) (x1 : Int) : Option (Unit × (ByteArray × Int × Bool × Unit)) :=
  obind (spec_GetNum (x0, x1, ())) fun v0 =>
  tb (bnot v0.2.2.2.1)
  (some ((), (⟨#[]⟩ : ByteArray), 0, false, ()))
  (tb (ilt (wr .i64 ((((llen x0) : Nat) : Int) - v0.2.2.1)) v0.2.1)
    (some ((), (⟨#[]⟩ : ByteArray), 0, false, ()))
    (chk ((0 ≤ v0.2.2.1) ∧ ((v0.2.2.1 ≤ (wr .i64 (v0.2.2.1 + v0.2.1))) ∧ ((wr .i64 (v0.2.2.1 + v0.2.1)) ≤ (((llen x0) : Nat) : Int)))) (some ((), (strOf (lcut x0 (Int.toNat v0.2.2.1) (Int.toNat (wr .i64 (v0.2.2.1 + v0.2.1))))), (wr .i64 (v0.2.2.1 + v0.2.1)), true, ())) (none)))
def spec_GetText (x : ((List Int) × Int × Unit)) : Option (Unit × (ByteArray × Int × Bool × Unit)) := spec_GetText_k fuel x.1 x.2.1
def spec_GetText_s : List (Nat × Con) := [(83, ⟨[.val (.row false (.int .u8)), .val (.int .i64)], [(.int .i64), (.int .i64), .bool], (.pair (.int .i64) (.pair (.int .i64) (.pair .bool .unit))), spec_GetNum⟩)]
def spec_GetText_E : Env := ⟨fun j => (look tyTab j).getD .unit, fun j => look spec_GetText_s j⟩
theorem spec_GetText_f_eq (N : Nat) (x0 : (List Int)) (x1 : Int) : funK spec_GetText_E Tryz.f85 [.val (.row false (.int .u8)), .val (.int .i64)] [.str, (.int .i64), .bool] (.pair .str (.pair (.int .i64) (.pair .bool .unit))) (fun i => look [] i) N (x0, x1, ()) = spec_GetText_k N x0 x1 := by kernel_rfl
theorem spec_GetText_o : Known Tryz.prog 85 ⟨[.val (.row false (.int .u8)), .val (.int .i64)], [.str, (.int .i64), .bool], (.pair .str (.pair (.int .i64) (.pair .bool .unit))), spec_GetText⟩ := known_of (tab := tyTab) (cons := spec_GetText_s) (segs := []) (n := fuel) mixed_ok tab_ok (.cons spec_GetNum_o .nil) Tryz.func85 (by kernel_rfl) trivial (fun x => spec_GetText_f_eq fuel x.1 x.2.1)
def spec_UrlOk_P0 : Tpl := ⟨[(0, .one (.leaf .str)), (3, .one (.leaf (.int .i64)))], [], []⟩
def spec_UrlOk_O0 : Tpl := ⟨[], [], []⟩
def spec_UrlOk_k0 (N : Nat) : Nat → ((Unit × (Unit × Unit)) → Option (Unit × (Bool × Unit))) → ((ByteArray × Int × Unit) × (Unit × Unit)) → Option (Unit × (Bool × Unit))
  | 0, _, _ => none
  | n + 1, k, x =>
    tb (ilt x.1.2.1 (((slen x.1.1) : Nat) : Int))
    (chk ((0 ≤ x.1.2.1) ∧ (x.1.2.1 < (((slen x.1.1) : Nat) : Int))) (tb (ilt (bt x.1.1 x.1.2.1) 33)
        (some ((), false, ()))
        (chk ((0 ≤ x.1.2.1) ∧ (x.1.2.1 < (((slen x.1.1) : Nat) : Int))) (tb (ilt 126 (bt x.1.1 x.1.2.1))
            (some ((), false, ()))
            (spec_UrlOk_k0 N n k ((x.1.1, (wr .i64 (x.1.2.1 + 1)), ()), (), ()))) (none))) (none))
    (k ((), (), ()))
def spec_UrlOk_k (N : Nat) (x0 : ByteArray) : Option (Unit × (Bool × Unit)) :=
  obind (spec_l1In ((((slen x0) : Nat) : Int), 1, 60, ())) fun v0 =>
  tb (bnot v0.2.1)
  (some ((), false, ()))
  (spec_UrlOk_k0 N N (fun v1 =>
      some ((), true, ())) ((x0, 0, ()), (), ()))
def spec_UrlOk (x : (ByteArray × Unit)) : Option (Unit × (Bool × Unit)) := spec_UrlOk_k fuel x.1
def spec_UrlOk_s : List (Nat × Con) := [(66, ⟨[.val (.int .i64), .val (.int .i64), .val (.int .i64)], [.bool], (.pair .bool .unit), spec_l1In⟩)]
def spec_UrlOk_E : Env := ⟨fun j => (look tyTab j).getD .unit, fun j => look spec_UrlOk_s j⟩
theorem spec_UrlOk_r0 (N n : Nat) (k : spec_UrlOk_O0.ty.den → Option (Unit × (Bool × Unit))) (x : spec_UrlOk_P0.ty.den) : roundK spec_UrlOk_E ⟨Tryz.f97.ntmps, N, (fun i => look [(0, ⟨spec_UrlOk_P0, spec_UrlOk_O0, [], [], spec_UrlOk_k0 N⟩)] i), retK spec_UrlOk_E Tryz.f97 [.val .str] [.bool] (.pair .bool .unit)⟩ (Tryz.f97.body.getD .skip) 0 ⟨spec_UrlOk_P0, spec_UrlOk_O0, [], [], spec_UrlOk_k0 N⟩ (spec_UrlOk_k0 N n k) k x = spec_UrlOk_k0 N (n + 1) k x := by kernel_rfl
theorem spec_UrlOk_f_eq (N : Nat) (x0 : ByteArray) : funK spec_UrlOk_E Tryz.f97 [.val .str] [.bool] (.pair .bool .unit) (fun i => look [(0, ⟨spec_UrlOk_P0, spec_UrlOk_O0, [], [], spec_UrlOk_k0 N⟩)] i) N (x0, ()) = spec_UrlOk_k N x0 := by kernel_rfl
theorem spec_UrlOk_o : Known Tryz.prog 97 ⟨[.val .str], [.bool], (.pair .bool .unit), spec_UrlOk⟩ := known_of (tab := tyTab) (cons := spec_UrlOk_s) (segs := [(0, ⟨spec_UrlOk_P0, spec_UrlOk_O0, [], [], spec_UrlOk_k0 fuel⟩)]) (n := fuel) mixed_ok tab_ok (.cons spec_l1In_o .nil) Tryz.func97 (by kernel_rfl) ⟨⟨fun _ _ => rfl, fun n k x => spec_UrlOk_r0 fuel n k x⟩, trivial⟩ (fun x => spec_UrlOk_f_eq fuel x.1)
def spec_PutText_k (N : Nat) (x0 : ByteArray) : Option (Unit × ((List Int) × Unit)) :=
  obind (spec_PutNum ((((slen x0) : Nat) : Int), ())) fun v0 =>
  chk ((plus (llen v0.2.1) (llen (bytesOf x0))) ≤ 140737488355328) (some ((), (lapp v0.2.1 (bytesOf x0)), ())) (none)
def spec_PutText (x : (ByteArray × Unit)) : Option (Unit × ((List Int) × Unit)) := spec_PutText_k fuel x.1
def spec_PutText_s : List (Nat × Con) := [(96, ⟨[.val (.int .i64)], [(.row true (.int .u8))], (.pair (.row true (.int .u8)) .unit), spec_PutNum⟩)]
def spec_PutText_E : Env := ⟨fun j => (look tyTab j).getD .unit, fun j => look spec_PutText_s j⟩
theorem spec_PutText_f_eq (N : Nat) (x0 : ByteArray) : funK spec_PutText_E Tryz.f98 [.val .str] [(.row true (.int .u8))] (.pair (.row true (.int .u8)) .unit) (fun i => look [] i) N (x0, ()) = spec_PutText_k N x0 := by kernel_rfl
theorem spec_PutText_o : Known Tryz.prog 98 ⟨[.val .str], [(.row true (.int .u8))], (.pair (.row true (.int .u8)) .unit), spec_PutText⟩ := known_of (tab := tyTab) (cons := spec_PutText_s) (segs := []) (n := fuel) mixed_ok tab_ok (.cons spec_PutNum_o .nil) Tryz.func98 (by kernel_rfl) trivial (fun x => spec_PutText_f_eq fuel x.1)
def spec_RecordPack_k (N : Nat) (x0 : (Int × ByteArray × ByteArray × Unit)) : Option (Unit × ((List Int) × Bool × Unit)) :=
  tb (bnot (ieq x0.1 1))
  (tb (bnot (ieq x0.1 2))
    (some ((), [], false, ()))
    (obind (spec_UrlOk (x0.2.1, ())) fun v0 =>
      tb (bnot v0.2.1)
      (some ((), [], false, ()))
      (tb (ieq x0.1 2)
        (tb (bnot (seq x0.2.2.1 (⟨#[]⟩ : ByteArray)))
          (some ((), [], false, ()))
          (obind (spec_PutNum (x0.1, ())) fun v1 =>
            obind (spec_PutText (x0.2.1, ())) fun v2 =>
            chk ((plus (llen v1.2.1) (llen v2.2.1)) ≤ 140737488355328) (tb (ieq x0.1 1)
              (obind (spec_PutText (x0.2.2.1, ())) fun v3 =>
                chk ((plus (llen (lapp v1.2.1 v2.2.1)) (llen v3.2.1)) ≤ 140737488355328) (some ((), (lapp (lapp v1.2.1 v2.2.1) v3.2.1), true, ())) (none))
              (some ((), (lapp v1.2.1 v2.2.1), true, ()))) (none)))
        (obind (spec_PutNum (x0.1, ())) fun v4 =>
          obind (spec_PutText (x0.2.1, ())) fun v5 =>
          chk ((plus (llen v4.2.1) (llen v5.2.1)) ≤ 140737488355328) (tb (ieq x0.1 1)
            (obind (spec_PutText (x0.2.2.1, ())) fun v6 =>
              chk ((plus (llen (lapp v4.2.1 v5.2.1)) (llen v6.2.1)) ≤ 140737488355328) (some ((), (lapp (lapp v4.2.1 v5.2.1) v6.2.1), true, ())) (none))
            (some ((), (lapp v4.2.1 v5.2.1), true, ()))) (none)))))
  (obind (spec_UrlOk (x0.2.1, ())) fun v7 =>
    tb (bnot v7.2.1)
    (some ((), [], false, ()))
    (tb (ieq x0.1 2)
      (tb (bnot (seq x0.2.2.1 (⟨#[]⟩ : ByteArray)))
        (some ((), [], false, ()))
        (obind (spec_PutNum (x0.1, ())) fun v8 =>
          obind (spec_PutText (x0.2.1, ())) fun v9 =>
          chk ((plus (llen v8.2.1) (llen v9.2.1)) ≤ 140737488355328) (tb (ieq x0.1 1)
            (obind (spec_PutText (x0.2.2.1, ())) fun v10 =>
              chk ((plus (llen (lapp v8.2.1 v9.2.1)) (llen v10.2.1)) ≤ 140737488355328) (some ((), (lapp (lapp v8.2.1 v9.2.1) v10.2.1), true, ())) (none))
            (some ((), (lapp v8.2.1 v9.2.1), true, ()))) (none)))
      (obind (spec_PutNum (x0.1, ())) fun v11 =>
        obind (spec_PutText (x0.2.1, ())) fun v12 =>
        chk ((plus (llen v11.2.1) (llen v12.2.1)) ≤ 140737488355328) (tb (ieq x0.1 1)
          (obind (spec_PutText (x0.2.2.1, ())) fun v13 =>
            chk ((plus (llen (lapp v11.2.1 v12.2.1)) (llen v13.2.1)) ≤ 140737488355328) (some ((), (lapp (lapp v11.2.1 v12.2.1) v13.2.1), true, ())) (none))
          (some ((), (lapp v11.2.1 v12.2.1), true, ()))) (none))))
def spec_RecordPack (x : ((Int × ByteArray × ByteArray × Unit) × Unit)) : Option (Unit × ((List Int) × Bool × Unit)) := spec_RecordPack_k fuel x.1
def spec_RecordPack_s : List (Nat × Con) := [(96, ⟨[.val (.int .i64)], [(.row true (.int .u8))], (.pair (.row true (.int .u8)) .unit), spec_PutNum⟩), (97, ⟨[.val .str], [.bool], (.pair .bool .unit), spec_UrlOk⟩), (98, ⟨[.val .str], [(.row true (.int .u8))], (.pair (.row true (.int .u8)) .unit), spec_PutText⟩)]
def spec_RecordPack_E : Env := ⟨fun j => (look tyTab j).getD .unit, fun j => look spec_RecordPack_s j⟩
theorem spec_RecordPack_f_eq (N : Nat) (x0 : (Int × ByteArray × ByteArray × Unit)) : funK spec_RecordPack_E Tryz.f86 [.val S96] [(.row true (.int .u8)), .bool] (.pair (.row true (.int .u8)) (.pair .bool .unit)) (fun i => look [] i) N (x0, ()) = spec_RecordPack_k N x0 := by kernel_rfl
theorem spec_RecordPack_o : Known Tryz.prog 86 ⟨[.val S96], [(.row true (.int .u8)), .bool], (.pair (.row true (.int .u8)) (.pair .bool .unit)), spec_RecordPack⟩ := known_of (tab := tyTab) (cons := spec_RecordPack_s) (segs := []) (n := fuel) mixed_ok tab_ok (.cons spec_PutNum_o (.cons spec_UrlOk_o (.cons spec_PutText_o .nil))) Tryz.func86 (by kernel_rfl) trivial (fun x => spec_RecordPack_f_eq fuel x.1)
def spec_RecordRead_k (N : Nat) (x0 : (List Int)) (x1 : Int) : Option (Unit × ((Int × ByteArray × ByteArray × Unit) × Int × Bool × Unit)) :=
  obind (spec_GetNum (x0, x1, ())) fun v0 =>
  tb (bnot v0.2.2.2.1)
  (some ((), (0, (⟨#[]⟩ : ByteArray), (⟨#[]⟩ : ByteArray), ()), 0, false, ()))
  (obind (spec_GetText (x0, v0.2.2.1, ())) fun v1 =>
    tb (bnot v1.2.2.2.1)
    (some ((), (0, (⟨#[]⟩ : ByteArray), (⟨#[]⟩ : ByteArray), ()), 0, false, ()))
    (tb (ieq v0.2.1 1)
      (obind (spec_GetText (x0, v1.2.2.1, ())) fun v2 =>
        tb (bnot v2.2.2.2.1)
        (some ((), (0, (⟨#[]⟩ : ByteArray), (⟨#[]⟩ : ByteArray), ()), 0, false, ()))
        (obind (spec_RecordPack ((v0.2.1, v1.2.1, v2.2.1, ()), ())) fun v3 =>
          tb (bnot v3.2.2.1)
          (some ((), (0, (⟨#[]⟩ : ByteArray), (⟨#[]⟩ : ByteArray), ()), 0, false, ()))
          (some ((), (v0.2.1, v1.2.1, v2.2.1, ()), v2.2.2.1, true, ()))))
      (obind (spec_RecordPack ((v0.2.1, v1.2.1, (⟨#[]⟩ : ByteArray), ()), ())) fun v4 =>
        tb (bnot v4.2.2.1)
        (some ((), (0, (⟨#[]⟩ : ByteArray), (⟨#[]⟩ : ByteArray), ()), 0, false, ()))
        (some ((), (v0.2.1, v1.2.1, (⟨#[]⟩ : ByteArray), ()), v1.2.2.1, true, ())))))
def spec_RecordRead (x : ((List Int) × Int × Unit)) : Option (Unit × ((Int × ByteArray × ByteArray × Unit) × Int × Bool × Unit)) := spec_RecordRead_k fuel x.1 x.2.1
def spec_RecordRead_s : List (Nat × Con) := [(83, ⟨[.val (.row false (.int .u8)), .val (.int .i64)], [(.int .i64), (.int .i64), .bool], (.pair (.int .i64) (.pair (.int .i64) (.pair .bool .unit))), spec_GetNum⟩), (85, ⟨[.val (.row false (.int .u8)), .val (.int .i64)], [.str, (.int .i64), .bool], (.pair .str (.pair (.int .i64) (.pair .bool .unit))), spec_GetText⟩), (86, ⟨[.val S96], [(.row true (.int .u8)), .bool], (.pair (.row true (.int .u8)) (.pair .bool .unit)), spec_RecordPack⟩)]
def spec_RecordRead_E : Env := ⟨fun j => (look tyTab j).getD .unit, fun j => look spec_RecordRead_s j⟩
theorem spec_RecordRead_f_eq (N : Nat) (x0 : (List Int)) (x1 : Int) : funK spec_RecordRead_E Tryz.f67 [.val (.row false (.int .u8)), .val (.int .i64)] [T96, (.int .i64), .bool] (.pair T96 (.pair (.int .i64) (.pair .bool .unit))) (fun i => look [] i) N (x0, x1, ()) = spec_RecordRead_k N x0 x1 := by kernel_rfl
theorem spec_RecordRead_o : Known Tryz.prog 67 ⟨[.val (.row false (.int .u8)), .val (.int .i64)], [T96, (.int .i64), .bool], (.pair T96 (.pair (.int .i64) (.pair .bool .unit))), spec_RecordRead⟩ := known_of (tab := tyTab) (cons := spec_RecordRead_s) (segs := []) (n := fuel) mixed_ok tab_ok (.cons spec_GetNum_o (.cons spec_GetText_o (.cons spec_RecordPack_o .nil))) Tryz.func67 (by kernel_rfl) trivial (fun x => spec_RecordRead_f_eq fuel x.1 x.2.1)
def spec_Records_P0 : Tpl := ⟨[(0, .one (.leaf (.row false (.int .u8)))), (4, .one (.fix (.ref 10000 [] none))), (5, .one (.leaf (.int .i64)))], [], [(10000, (.pair (.int .i64) (.pair .str (.pair .str .unit))))]⟩
def spec_Records_O0 : Tpl := ⟨[(4, .one (.fix (.ref 10500 [] none)))], [], [(10500, (.pair (.int .i64) (.pair .str (.pair .str .unit))))]⟩
def spec_Records_k0 (N : Nat) : Nat → ((Unit × (Unit × ((List (Int × (ByteArray × (ByteArray × Unit)))) × Unit))) → Option (Unit × ((List (Int × ByteArray × ByteArray × Unit)) × Bool × Unit))) → (((List Int) × Int × Unit) × (Unit × ((List (Int × (ByteArray × (ByteArray × Unit)))) × Unit))) → Option (Unit × ((List (Int × ByteArray × ByteArray × Unit)) × Bool × Unit))
  | 0, _, _ => none
  | n + 1, k, x =>
    tb (ilt x.1.2.1 (((llen x.1.1) : Nat) : Int))
    (obind (spec_RecordRead (x.1.1, x.1.2.1, ())) fun v0 =>
      tb (bnot v0.2.2.2.1)
      (some ((), [], false, ()))
      (chk ((plus (llen x.2.2.1) (llen [(v0.2.1.1, v0.2.1.2.1, v0.2.1.2.2.1, ())])) ≤ 3518437208883) (spec_Records_k0 N n k ((x.1.1, v0.2.2.1, ()), (), (lapp x.2.2.1 [(v0.2.1.1, v0.2.1.2.1, v0.2.1.2.2.1, ())]), ())) (none)))
    (k ((), (), x.2.2.1, ()))
def spec_Records_k (N : Nat) (x0 : (List Int)) : Option (Unit × ((List (Int × ByteArray × ByteArray × Unit)) × Bool × Unit)) :=
  spec_Records_k0 N N (fun v0 =>
    some ((), v0.2.2.1, true, ())) ((x0, 0, ()), (), [], ())
def spec_Records (x : ((List Int) × Unit)) : Option (Unit × ((List (Int × ByteArray × ByteArray × Unit)) × Bool × Unit)) := spec_Records_k fuel x.1
def spec_Records_s : List (Nat × Con) := [(67, ⟨[.val (.row false (.int .u8)), .val (.int .i64)], [T96, (.int .i64), .bool], (.pair T96 (.pair (.int .i64) (.pair .bool .unit))), spec_RecordRead⟩)]
def spec_Records_E : Env := ⟨fun j => (look tyTab j).getD .unit, fun j => look spec_Records_s j⟩
theorem spec_Records_r0 (N n : Nat) (k : spec_Records_O0.ty.den → Option (Unit × ((List (Int × ByteArray × ByteArray × Unit)) × Bool × Unit))) (x : spec_Records_P0.ty.den) : roundK spec_Records_E ⟨Tryz.f41.ntmps, N, (fun i => look [(0, ⟨spec_Records_P0, spec_Records_O0, [.tmp 4 10000 (.pair (.int .i64) (.pair .str (.pair .str .unit)))], [.tmp 4 10500 (.pair (.int .i64) (.pair .str (.pair .str .unit)))], spec_Records_k0 N⟩)] i), retK spec_Records_E Tryz.f41 [.val (.row false (.int .u8))] [(.row true T96), .bool] (.pair (.row true T96) (.pair .bool .unit))⟩ (Tryz.f41.body.getD .skip) 0 ⟨spec_Records_P0, spec_Records_O0, [.tmp 4 10000 (.pair (.int .i64) (.pair .str (.pair .str .unit)))], [.tmp 4 10500 (.pair (.int .i64) (.pair .str (.pair .str .unit)))], spec_Records_k0 N⟩ (spec_Records_k0 N n k) k x = spec_Records_k0 N (n + 1) k x := by kernel_rfl
theorem spec_Records_f_eq (N : Nat) (x0 : (List Int)) : funK spec_Records_E Tryz.f41 [.val (.row false (.int .u8))] [(.row true T96), .bool] (.pair (.row true T96) (.pair .bool .unit)) (fun i => look [(0, ⟨spec_Records_P0, spec_Records_O0, [.tmp 4 10000 (.pair (.int .i64) (.pair .str (.pair .str .unit)))], [.tmp 4 10500 (.pair (.int .i64) (.pair .str (.pair .str .unit)))], spec_Records_k0 N⟩)] i) N (x0, ()) = spec_Records_k N x0 := by kernel_rfl
theorem spec_Records_o : Known Tryz.prog 41 ⟨[.val (.row false (.int .u8))], [(.row true T96), .bool], (.pair (.row true T96) (.pair .bool .unit)), spec_Records⟩ := known_of (tab := tyTab) (cons := spec_Records_s) (segs := [(0, ⟨spec_Records_P0, spec_Records_O0, [.tmp 4 10000 (.pair (.int .i64) (.pair .str (.pair .str .unit)))], [.tmp 4 10500 (.pair (.int .i64) (.pair .str (.pair .str .unit)))], spec_Records_k0 fuel⟩)]) (n := fuel) mixed_ok tab_ok (.cons spec_RecordRead_o .nil) Tryz.func41 (by kernel_rfl) ⟨⟨fun _ _ => rfl, fun n k x => spec_Records_r0 fuel n k x⟩, trivial⟩ (fun x => spec_Records_f_eq fuel x.1)
def spec_l16Get_P0 : Tpl := ⟨[(1, .one (.leaf (.int .i64))), (2, .one (.leaf (.int .i64))), (3, .one (.leaf (.int .i64))), (4, .one (.fix (.vptr 4 0))), (9, .one (.fix (.ref 10000 [] none))), (10, .one (.leaf (.int .i64)))], [(4, [.leaf (.row false .str), .leaf (.row false (.pair (.int .i64) (.pair .str .unit)))])], [(10000, (.int .u8))]⟩
def spec_l16Get_O0 : Tpl := ⟨[(9, .one (.fix (.ref 10500 [] none)))], [], [(10500, (.int .u8))]⟩
def spec_l16Get_k0 (N : Nat) : Nat → ((Unit × (Unit × ((List Int) × Unit))) → Option (Unit × ((List Int) × Unit))) → ((Int × Int × Int × Int × Unit) × ((((List ByteArray) × (List (Int × (ByteArray × Unit))) × Unit) × Unit) × ((List Int) × Unit))) → Option (Unit × ((List Int) × Unit))
  | 0, _, _ => none
  | n + 1, k, x =>
    tb (ilt x.1.2.2.2.1 x.1.2.2.1)
    (chk ((64 : Int) = 0) (none) (obind (spec_l15Of ((x.2.1.1.1, x.2.1.1.2.1, ()), (wr .i64 ((wr .i64 (2 + (wr .i64 (64 * x.1.1)))) + (wr .i64 (Int.tdiv (wr .i64 (x.1.2.1 + x.1.2.2.2.1)) 64)))), ())) fun v0 =>
        chk ((64 : Int) = 0) (none) (chk ((0 ≤ (Int.tmod (wr .i64 (x.1.2.1 + x.1.2.2.2.1)) 64)) ∧ ((Int.tmod (wr .i64 (x.1.2.1 + x.1.2.2.2.1)) 64) < (((slen v0.2.1) : Nat) : Int))) (chk ((plus (llen x.2.2.1) (llen [(bt v0.2.1 (Int.tmod (wr .i64 (x.1.2.1 + x.1.2.2.2.1)) 64))])) ≤ 140737488355328) (spec_l16Get_k0 N n k ((x.1.1, x.1.2.1, x.1.2.2.1, (wr .i64 (x.1.2.2.2.1 + 1)), ()), ((x.2.1.1.1, x.2.1.1.2.1, ()), ()), (lapp x.2.2.1 [(bt v0.2.1 (Int.tmod (wr .i64 (x.1.2.1 + x.1.2.2.2.1)) 64))]), ())) (none)) (none))))
    (k ((), (), x.2.2.1, ()))
def spec_l16Get_k (N : Nat) (x0 : ((List ByteArray) × (List (Int × ByteArray × Unit)) × Unit)) (x1 : Int) (x2 : Int) (x3 : Int) : Option (Unit × ((List Int) × Unit)) :=
  spec_l16Get_k0 N N (fun v0 =>
    some ((), v0.2.2.1, ())) ((x1, x2, x3, 0, ()), ((x0.1, x0.2.1, ()), ()), [], ())
def spec_l16Get (x : (((List ByteArray) × (List (Int × ByteArray × Unit)) × Unit) × Int × Int × Int × Unit)) : Option (Unit × ((List Int) × Unit)) := spec_l16Get_k fuel x.1 x.2.1 x.2.2.1 x.2.2.2.1
def spec_l16Get_s : List (Nat × Con) := [(65, ⟨[.val S36, .val (.int .i64)], [.str], (.pair .str .unit), spec_l15Of⟩)]
def spec_l16Get_E : Env := ⟨fun j => (look tyTab j).getD .unit, fun j => look spec_l16Get_s j⟩
theorem spec_l16Get_r0 (N n : Nat) (k : spec_l16Get_O0.ty.den → Option (Unit × ((List Int) × Unit))) (x : spec_l16Get_P0.ty.den) : roundK spec_l16Get_E ⟨Tryz.f68.ntmps, N, (fun i => look [(0, ⟨spec_l16Get_P0, spec_l16Get_O0, [.tmp 9 10000 (.int .u8)], [.tmp 9 10500 (.int .u8)], spec_l16Get_k0 N⟩)] i), retK spec_l16Get_E Tryz.f68 [.val S36, .val (.int .i64), .val (.int .i64), .val (.int .i64)] [(.row true (.int .u8))] (.pair (.row true (.int .u8)) .unit)⟩ (Tryz.f68.body.getD .skip) 0 ⟨spec_l16Get_P0, spec_l16Get_O0, [.tmp 9 10000 (.int .u8)], [.tmp 9 10500 (.int .u8)], spec_l16Get_k0 N⟩ (spec_l16Get_k0 N n k) k x = spec_l16Get_k0 N (n + 1) k x := by kernel_rfl
theorem spec_l16Get_f_eq (N : Nat) (x0 : ((List ByteArray) × (List (Int × ByteArray × Unit)) × Unit)) (x1 : Int) (x2 : Int) (x3 : Int) : funK spec_l16Get_E Tryz.f68 [.val S36, .val (.int .i64), .val (.int .i64), .val (.int .i64)] [(.row true (.int .u8))] (.pair (.row true (.int .u8)) .unit) (fun i => look [(0, ⟨spec_l16Get_P0, spec_l16Get_O0, [.tmp 9 10000 (.int .u8)], [.tmp 9 10500 (.int .u8)], spec_l16Get_k0 N⟩)] i) N (x0, x1, x2, x3, ()) = spec_l16Get_k N x0 x1 x2 x3 := by kernel_rfl
theorem spec_l16Get_o : Known Tryz.prog 68 ⟨[.val S36, .val (.int .i64), .val (.int .i64), .val (.int .i64)], [(.row true (.int .u8))], (.pair (.row true (.int .u8)) .unit), spec_l16Get⟩ := known_of (tab := tyTab) (cons := spec_l16Get_s) (segs := [(0, ⟨spec_l16Get_P0, spec_l16Get_O0, [.tmp 9 10000 (.int .u8)], [.tmp 9 10500 (.int .u8)], spec_l16Get_k0 fuel⟩)]) (n := fuel) mixed_ok tab_ok (.cons spec_l15Of_o .nil) Tryz.func68 (by kernel_rfl) ⟨⟨fun _ _ => rfl, fun n k x => spec_l16Get_r0 fuel n k x⟩, trivial⟩ (fun x => spec_l16Get_f_eq fuel x.1 x.2.1 x.2.2.1 x.2.2.2.1)
def spec_l18Bytes_k (N : Nat) (x0 : ((List ByteArray) × (List (Int × ByteArray × Unit)) × Unit)) (x1 : (Int × Int × Int × Unit)) : Option (Unit × ((List Int) × Unit)) :=
  obind (spec_l16Get ((x0.1, x0.2.1, ()), x1.2.1, 0, x1.2.2.1, ())) fun v0 =>
  some ((), v0.2.1, ())
def spec_l18Bytes (x : (((List ByteArray) × (List (Int × ByteArray × Unit)) × Unit) × (Int × Int × Int × Unit) × Unit)) : Option (Unit × ((List Int) × Unit)) := spec_l18Bytes_k fuel x.1 x.2.1
def spec_l18Bytes_s : List (Nat × Con) := [(68, ⟨[.val S36, .val (.int .i64), .val (.int .i64), .val (.int .i64)], [(.row true (.int .u8))], (.pair (.row true (.int .u8)) .unit), spec_l16Get⟩)]
def spec_l18Bytes_E : Env := ⟨fun j => (look tyTab j).getD .unit, fun j => look spec_l18Bytes_s j⟩
theorem spec_l18Bytes_f_eq (N : Nat) (x0 : ((List ByteArray) × (List (Int × ByteArray × Unit)) × Unit)) (x1 : (Int × Int × Int × Unit)) : funK spec_l18Bytes_E Tryz.f42 [.val S36, .val S37] [(.row true (.int .u8))] (.pair (.row true (.int .u8)) .unit) (fun i => look [] i) N (x0, x1, ()) = spec_l18Bytes_k N x0 x1 := by kernel_rfl
theorem spec_l18Bytes_o : Known Tryz.prog 42 ⟨[.val S36, .val S37], [(.row true (.int .u8))], (.pair (.row true (.int .u8)) .unit), spec_l18Bytes⟩ := known_of (tab := tyTab) (cons := spec_l18Bytes_s) (segs := []) (n := fuel) mixed_ok tab_ok (.cons spec_l16Get_o .nil) Tryz.func42 (by kernel_rfl) trivial (fun x => spec_l18Bytes_f_eq fuel x.1 x.2.1)
def spec_l18SameList_P0 : Tpl := ⟨[(0, .one (.leaf (.row false (.pair .str (.pair .str .unit))))), (1, .one (.leaf (.row false (.pair .str (.pair .str .unit))))), (5, .one (.leaf (.int .i64)))], [], []⟩
def spec_l18SameList_O0 : Tpl := ⟨[], [], []⟩
def spec_l18SameList_k0 (N : Nat) : Nat → ((Unit × (Unit × Unit)) → Option (Unit × (Bool × Unit))) → (((List (ByteArray × (ByteArray × Unit))) × (List (ByteArray × (ByteArray × Unit))) × Int × Unit) × (Unit × Unit)) → Option (Unit × (Bool × Unit))
  | 0, _, _ => none
  | n + 1, k, x =>
    tb (ilt x.1.2.2.1 (((llen x.1.1) : Nat) : Int))
    (chk (0 ≤ x.1.2.2.1) (obind (at? x.1.1 (Int.toNat x.1.2.2.1)) fun v0 =>
        chk (0 ≤ x.1.2.2.1) (obind (at? x.1.2.1 (Int.toNat x.1.2.2.1)) fun v1 =>
          tb (bnot (band (seq v0.1 v1.1) (band (seq v0.2.1 v1.2.1) true)))
          (some ((), false, ()))
          (spec_l18SameList_k0 N n k ((x.1.1, x.1.2.1, (wr .i64 (x.1.2.2.1 + 1)), ()), (), ()))) (none)) (none))
    (k ((), (), ()))
def spec_l18SameList_k (N : Nat) (x0 : (List (ByteArray × ByteArray × Unit))) (x1 : (List (ByteArray × ByteArray × Unit))) : Option (Unit × (Bool × Unit)) :=
  tb (bnot (ieq (((llen x0) : Nat) : Int) (((llen x1) : Nat) : Int)))
  (some ((), false, ()))
  (spec_l18SameList_k0 N N (fun v0 =>
      some ((), true, ())) ((x0, x1, 0, ()), (), ()))
def spec_l18SameList (x : ((List (ByteArray × ByteArray × Unit)) × (List (ByteArray × ByteArray × Unit)) × Unit)) : Option (Unit × (Bool × Unit)) := spec_l18SameList_k fuel x.1 x.2.1
def spec_l18SameList_s : List (Nat × Con) := []
def spec_l18SameList_E : Env := ⟨fun j => (look tyTab j).getD .unit, fun j => look spec_l18SameList_s j⟩
theorem spec_l18SameList_r0 (N n : Nat) (k : spec_l18SameList_O0.ty.den → Option (Unit × (Bool × Unit))) (x : spec_l18SameList_P0.ty.den) : roundK spec_l18SameList_E ⟨Tryz.f53.ntmps, N, (fun i => look [(0, ⟨spec_l18SameList_P0, spec_l18SameList_O0, [], [], spec_l18SameList_k0 N⟩)] i), retK spec_l18SameList_E Tryz.f53 [.val (.row false S53), .val (.row false S53)] [.bool] (.pair .bool .unit)⟩ (Tryz.f53.body.getD .skip) 0 ⟨spec_l18SameList_P0, spec_l18SameList_O0, [], [], spec_l18SameList_k0 N⟩ (spec_l18SameList_k0 N n k) k x = spec_l18SameList_k0 N (n + 1) k x := by kernel_rfl
theorem spec_l18SameList_f_eq (N : Nat) (x0 : (List (ByteArray × ByteArray × Unit))) (x1 : (List (ByteArray × ByteArray × Unit))) : funK spec_l18SameList_E Tryz.f53 [.val (.row false S53), .val (.row false S53)] [.bool] (.pair .bool .unit) (fun i => look [(0, ⟨spec_l18SameList_P0, spec_l18SameList_O0, [], [], spec_l18SameList_k0 N⟩)] i) N (x0, x1, ()) = spec_l18SameList_k N x0 x1 := by kernel_rfl
theorem spec_l18SameList_o : Known Tryz.prog 53 ⟨[.val (.row false S53), .val (.row false S53)], [.bool], (.pair .bool .unit), spec_l18SameList⟩ := known_of (tab := tyTab) (cons := spec_l18SameList_s) (segs := [(0, ⟨spec_l18SameList_P0, spec_l18SameList_O0, [], [], spec_l18SameList_k0 fuel⟩)]) (n := fuel) mixed_ok tab_ok .nil Tryz.func53 (by kernel_rfl) ⟨⟨fun _ _ => rfl, fun n k x => spec_l18SameList_r0 fuel n k x⟩, trivial⟩ (fun x => spec_l18SameList_f_eq fuel x.1 x.2.1)
def spec_IndexOf_P2 : Tpl := ⟨[(0, .one (.leaf (.row false (.pair (.int .i64) (.pair .str (.pair .str .unit)))))), (3, .one (.fix (.ref 12000 [] none))), (4, .one (.leaf (.int .i64))), (5, .one (.fix (.ref 12001 [] none))), (6, .one (.leaf .bool)), (7, .one (.leaf (.int .i64)))], [], [(12000, (.pair .str (.pair .str .unit))), (12001, (.pair .str (.pair .str .unit)))]⟩
def spec_IndexOf_O2 : Tpl := ⟨[(0, .one (.leaf (.row false (.pair (.int .i64) (.pair .str (.pair .str .unit)))))), (4, .one (.leaf (.int .i64))), (5, .one (.fix (.ref 12500 [] none))), (6, .one (.leaf .bool))], [], [(12500, (.pair .str (.pair .str .unit)))]⟩
def spec_IndexOf_k2 (N : Nat) : Nat → ((((List (Int × (ByteArray × (ByteArray × Unit)))) × Int × Bool × Unit) × (Unit × ((List (ByteArray × (ByteArray × Unit))) × Unit))) → Option (Unit × ((List (ByteArray × ByteArray × Unit)) × Unit))) → (((List (Int × (ByteArray × (ByteArray × Unit)))) × Int × Bool × Int × Unit) × (Unit × ((List (ByteArray × (ByteArray × Unit))) × (List (ByteArray × (ByteArray × Unit))) × Unit))) → Option (Unit × ((List (ByteArray × ByteArray × Unit)) × Unit))
  | 0, _, _ => none
  | n + 1, k, x =>
    tb (ilt x.1.2.2.2.1 (((llen x.2.2.1) : Nat) : Int))
    (tb (bnot x.1.2.2.1)
      (chk ((0 ≤ x.1.2.2.2.1) ∧ (x.1.2.2.2.1 < (((llen x.2.2.1) : Nat) : Int))) (obind (at? x.2.2.1 (Int.toNat x.1.2.2.2.1)) fun v0 =>
          chk (0 ≤ x.1.2.1) (obind (at? x.1.1 (Int.toNat x.1.2.1)) fun v1 =>
            tb (bnot (slt v0.1 v1.2.1))
            (chk (0 ≤ x.1.2.1) (obind (at? x.1.1 (Int.toNat x.1.2.1)) fun v2 =>
                chk (0 ≤ x.1.2.1) (obind (at? x.1.1 (Int.toNat x.1.2.1)) fun v3 =>
                  chk ((plus (llen x.2.2.2.1) (llen [(v2.2.1, v3.2.2.1, ())])) ≤ 4398046511104) (chk ((0 ≤ x.1.2.2.2.1) ∧ (x.1.2.2.2.1 < (((llen x.2.2.1) : Nat) : Int))) (obind (at? x.2.2.1 (Int.toNat x.1.2.2.2.1)) fun v4 =>
                      chk (0 ≤ x.1.2.1) (obind (at? x.1.1 (Int.toNat x.1.2.1)) fun v5 =>
                        tb (bnot (seq v4.1 v5.2.1))
                        (chk ((0 ≤ x.1.2.2.2.1) ∧ (x.1.2.2.2.1 < (((llen x.2.2.1) : Nat) : Int))) (obind (at? x.2.2.1 (Int.toNat x.1.2.2.2.1)) fun v6 =>
                            chk ((plus (llen (lapp x.2.2.2.1 [(v2.2.1, v3.2.2.1, ())])) (llen [(v6.1, v6.2.1, ())])) ≤ 4398046511104) (spec_IndexOf_k2 N n k ((x.1.1, x.1.2.1, true, (wr .i64 (x.1.2.2.2.1 + 1)), ()), (), x.2.2.1, (lapp (lapp x.2.2.2.1 [(v2.2.1, v3.2.2.1, ())]) [(v6.1, v6.2.1, ())]), ())) (none)) (none))
                        (spec_IndexOf_k2 N n k ((x.1.1, x.1.2.1, true, (wr .i64 (x.1.2.2.2.1 + 1)), ()), (), x.2.2.1, (lapp x.2.2.2.1 [(v2.2.1, v3.2.2.1, ())]), ()))) (none)) (none)) (none)) (none)) (none))
            (chk ((0 ≤ x.1.2.2.2.1) ∧ (x.1.2.2.2.1 < (((llen x.2.2.1) : Nat) : Int))) (obind (at? x.2.2.1 (Int.toNat x.1.2.2.2.1)) fun v7 =>
                chk (0 ≤ x.1.2.1) (obind (at? x.1.1 (Int.toNat x.1.2.1)) fun v8 =>
                  tb (bnot (seq v7.1 v8.2.1))
                  (chk ((0 ≤ x.1.2.2.2.1) ∧ (x.1.2.2.2.1 < (((llen x.2.2.1) : Nat) : Int))) (obind (at? x.2.2.1 (Int.toNat x.1.2.2.2.1)) fun v9 =>
                      chk ((plus (llen x.2.2.2.1) (llen [(v9.1, v9.2.1, ())])) ≤ 4398046511104) (spec_IndexOf_k2 N n k ((x.1.1, x.1.2.1, x.1.2.2.1, (wr .i64 (x.1.2.2.2.1 + 1)), ()), (), x.2.2.1, (lapp x.2.2.2.1 [(v9.1, v9.2.1, ())]), ())) (none)) (none))
                  (spec_IndexOf_k2 N n k ((x.1.1, x.1.2.1, x.1.2.2.1, (wr .i64 (x.1.2.2.2.1 + 1)), ()), (), x.2.2.1, x.2.2.2.1, ()))) (none)) (none))) (none)) (none))
      (chk ((0 ≤ x.1.2.2.2.1) ∧ (x.1.2.2.2.1 < (((llen x.2.2.1) : Nat) : Int))) (obind (at? x.2.2.1 (Int.toNat x.1.2.2.2.1)) fun v10 =>
          chk (0 ≤ x.1.2.1) (obind (at? x.1.1 (Int.toNat x.1.2.1)) fun v11 =>
            tb (bnot (seq v10.1 v11.2.1))
            (chk ((0 ≤ x.1.2.2.2.1) ∧ (x.1.2.2.2.1 < (((llen x.2.2.1) : Nat) : Int))) (obind (at? x.2.2.1 (Int.toNat x.1.2.2.2.1)) fun v12 =>
                chk ((plus (llen x.2.2.2.1) (llen [(v12.1, v12.2.1, ())])) ≤ 4398046511104) (spec_IndexOf_k2 N n k ((x.1.1, x.1.2.1, x.1.2.2.1, (wr .i64 (x.1.2.2.2.1 + 1)), ()), (), x.2.2.1, (lapp x.2.2.2.1 [(v12.1, v12.2.1, ())]), ())) (none)) (none))
            (spec_IndexOf_k2 N n k ((x.1.1, x.1.2.1, x.1.2.2.1, (wr .i64 (x.1.2.2.2.1 + 1)), ()), (), x.2.2.1, x.2.2.2.1, ()))) (none)) (none)))
    (k ((x.1.1, x.1.2.1, x.1.2.2.1, ()), (), x.2.2.2.1, ()))
def spec_IndexOf_P0 : Tpl := ⟨[(0, .one (.leaf (.row false (.pair (.int .i64) (.pair .str (.pair .str .unit)))))), (3, .one (.fix (.ref 10000 [] none))), (4, .one (.leaf (.int .i64)))], [], [(10000, (.pair .str (.pair .str .unit)))]⟩
def spec_IndexOf_O0 : Tpl := ⟨[(3, .one (.fix (.ref 10500 [] none)))], [], [(10500, (.pair .str (.pair .str .unit)))]⟩
def spec_IndexOf_k0 (N : Nat) : Nat → ((Unit × (Unit × ((List (ByteArray × (ByteArray × Unit))) × Unit))) → Option (Unit × ((List (ByteArray × ByteArray × Unit)) × Unit))) → (((List (Int × (ByteArray × (ByteArray × Unit)))) × Int × Unit) × (Unit × ((List (ByteArray × (ByteArray × Unit))) × Unit))) → Option (Unit × ((List (ByteArray × ByteArray × Unit)) × Unit))
  | 0, _, _ => none
  | n + 1, k, x =>
    tb (ilt x.1.2.1 (((llen x.1.1) : Nat) : Int))
    (chk (0 ≤ x.1.2.1) (obind (at? x.1.1 (Int.toNat x.1.2.1)) fun v0 =>
        spec_IndexOf_k2 N N (fun v1 =>
          tb (bnot v1.1.2.2.1)
          (chk (0 ≤ v1.1.2.1) (obind (at? v1.1.1 (Int.toNat v1.1.2.1)) fun v2 =>
              chk (0 ≤ v1.1.2.1) (obind (at? v1.1.1 (Int.toNat v1.1.2.1)) fun v3 =>
                chk ((plus (llen v1.2.2.1) (llen [(v2.2.1, v3.2.2.1, ())])) ≤ 4398046511104) (spec_IndexOf_k0 N n k ((v1.1.1, (wr .i64 (v1.1.2.1 + 1)), ()), (), (lapp v1.2.2.1 [(v2.2.1, v3.2.2.1, ())]), ())) (none)) (none)) (none))
          (spec_IndexOf_k0 N n k ((v1.1.1, (wr .i64 (v1.1.2.1 + 1)), ()), (), v1.2.2.1, ()))) ((x.1.1, x.1.2.1, (bnot (ieq v0.1 1)), 0, ()), (), x.2.2.1, [], ())) (none))
    (k ((), (), x.2.2.1, ()))
def spec_IndexOf_k (N : Nat) (x0 : (List (Int × ByteArray × ByteArray × Unit))) : Option (Unit × ((List (ByteArray × ByteArray × Unit)) × Unit)) :=
  spec_IndexOf_k0 N N (fun v0 =>
    some ((), v0.2.2.1, ())) ((x0, 0, ()), (), [], ())
def spec_IndexOf (x : ((List (Int × ByteArray × ByteArray × Unit)) × Unit)) : Option (Unit × ((List (ByteArray × ByteArray × Unit)) × Unit)) := spec_IndexOf_k fuel x.1
def spec_IndexOf_s : List (Nat × Con) := []
def spec_IndexOf_E : Env := ⟨fun j => (look tyTab j).getD .unit, fun j => look spec_IndexOf_s j⟩
theorem spec_IndexOf_r2 (N n : Nat) (k : spec_IndexOf_O2.ty.den → Option (Unit × ((List (ByteArray × ByteArray × Unit)) × Unit))) (x : spec_IndexOf_P2.ty.den) : roundK spec_IndexOf_E ⟨Tryz.f54.ntmps, N, (fun i => look [(0, ⟨spec_IndexOf_P0, spec_IndexOf_O0, [.tmp 3 10000 (.pair .str (.pair .str .unit))], [.tmp 3 10500 (.pair .str (.pair .str .unit))], spec_IndexOf_k0 N⟩), (2, ⟨spec_IndexOf_P2, spec_IndexOf_O2, [.tmp 3 12000 (.pair .str (.pair .str .unit)), .tmp 5 12001 (.pair .str (.pair .str .unit))], [.tmp 5 12500 (.pair .str (.pair .str .unit))], spec_IndexOf_k2 N⟩)] i), retK spec_IndexOf_E Tryz.f54 [.val (.row false S96)] [(.row true T53)] (.pair (.row true T53) .unit)⟩ (Tryz.f54.body.getD .skip) 2 ⟨spec_IndexOf_P2, spec_IndexOf_O2, [.tmp 3 12000 (.pair .str (.pair .str .unit)), .tmp 5 12001 (.pair .str (.pair .str .unit))], [.tmp 5 12500 (.pair .str (.pair .str .unit))], spec_IndexOf_k2 N⟩ (spec_IndexOf_k2 N n k) k x = spec_IndexOf_k2 N (n + 1) k x := by kernel_rfl
theorem spec_IndexOf_r0 (N n : Nat) (k : spec_IndexOf_O0.ty.den → Option (Unit × ((List (ByteArray × ByteArray × Unit)) × Unit))) (x : spec_IndexOf_P0.ty.den) : roundK spec_IndexOf_E ⟨Tryz.f54.ntmps, N, (fun i => look [(0, ⟨spec_IndexOf_P0, spec_IndexOf_O0, [.tmp 3 10000 (.pair .str (.pair .str .unit))], [.tmp 3 10500 (.pair .str (.pair .str .unit))], spec_IndexOf_k0 N⟩), (2, ⟨spec_IndexOf_P2, spec_IndexOf_O2, [.tmp 3 12000 (.pair .str (.pair .str .unit)), .tmp 5 12001 (.pair .str (.pair .str .unit))], [.tmp 5 12500 (.pair .str (.pair .str .unit))], spec_IndexOf_k2 N⟩)] i), retK spec_IndexOf_E Tryz.f54 [.val (.row false S96)] [(.row true T53)] (.pair (.row true T53) .unit)⟩ (Tryz.f54.body.getD .skip) 0 ⟨spec_IndexOf_P0, spec_IndexOf_O0, [.tmp 3 10000 (.pair .str (.pair .str .unit))], [.tmp 3 10500 (.pair .str (.pair .str .unit))], spec_IndexOf_k0 N⟩ (spec_IndexOf_k0 N n k) k x = spec_IndexOf_k0 N (n + 1) k x := by kernel_rfl
theorem spec_IndexOf_f_eq (N : Nat) (x0 : (List (Int × ByteArray × ByteArray × Unit))) : funK spec_IndexOf_E Tryz.f54 [.val (.row false S96)] [(.row true T53)] (.pair (.row true T53) .unit) (fun i => look [(0, ⟨spec_IndexOf_P0, spec_IndexOf_O0, [.tmp 3 10000 (.pair .str (.pair .str .unit))], [.tmp 3 10500 (.pair .str (.pair .str .unit))], spec_IndexOf_k0 N⟩), (2, ⟨spec_IndexOf_P2, spec_IndexOf_O2, [.tmp 3 12000 (.pair .str (.pair .str .unit)), .tmp 5 12001 (.pair .str (.pair .str .unit))], [.tmp 5 12500 (.pair .str (.pair .str .unit))], spec_IndexOf_k2 N⟩)] i) N (x0, ()) = spec_IndexOf_k N x0 := by kernel_rfl
theorem spec_IndexOf_o : Known Tryz.prog 54 ⟨[.val (.row false S96)], [(.row true T53)], (.pair (.row true T53) .unit), spec_IndexOf⟩ := known_of (tab := tyTab) (cons := spec_IndexOf_s) (segs := [(0, ⟨spec_IndexOf_P0, spec_IndexOf_O0, [.tmp 3 10000 (.pair .str (.pair .str .unit))], [.tmp 3 10500 (.pair .str (.pair .str .unit))], spec_IndexOf_k0 fuel⟩), (2, ⟨spec_IndexOf_P2, spec_IndexOf_O2, [.tmp 3 12000 (.pair .str (.pair .str .unit)), .tmp 5 12001 (.pair .str (.pair .str .unit))], [.tmp 5 12500 (.pair .str (.pair .str .unit))], spec_IndexOf_k2 fuel⟩)]) (n := fuel) mixed_ok tab_ok .nil Tryz.func54 (by kernel_rfl) ⟨⟨fun _ _ => rfl, fun n k x => spec_IndexOf_r0 fuel n k x⟩, ⟨⟨fun _ _ => rfl, fun n k x => spec_IndexOf_r2 fuel n k x⟩, trivial⟩⟩ (fun x => spec_IndexOf_f_eq fuel x.1)
def spec_ArchiveOk_k (N : Nat) (x0 : (Bool × ((List ByteArray) × (List (Int × ByteArray × Unit)) × Unit) × (Int × Int × Int × Unit) × (List (ByteArray × ByteArray × Unit)) × Unit)) : Option (Unit × (Bool × Unit)) :=
  obind (spec_DiskOk ((x0.2.1.1, x0.2.1.2.1, ()), ())) fun v0 =>
  tb (bnot v0.2.1)
  (some ((), false, ()))
  (tb (ilt 0 (((llen x0.2.1.2.1) : Nat) : Int))
    (some ((), false, ()))
    (tb (bnot x0.1)
      (tb (band (ieq x0.2.2.1.1 0) (band (ieq x0.2.2.1.2.1 0) (band (ieq x0.2.2.1.2.2.1 0) true)))
        (some ((), (ieq (((llen x0.2.2.2.1) : Nat) : Int) 0), ()))
        (some ((), false, ())))
      (obind (spec_l16Right ((x0.2.2.1.1, x0.2.2.1.2.1, x0.2.2.1.2.2.1, ()), ())) fun v1 =>
        tb (bnot v1.2.1)
        (some ((), false, ()))
        (obind (spec_HeadNow ((x0.2.1.1, x0.2.1.2.1, ()), ())) fun v2 =>
          tb (bnot (band (ieq v2.2.1.1 x0.2.2.1.1) (band (ieq v2.2.1.2.1 x0.2.2.1.2.1) (band (ieq v2.2.1.2.2.1 x0.2.2.1.2.2.1) true))))
          (some ((), false, ()))
          (obind (spec_l18Bytes ((x0.2.1.1, x0.2.1.2.1, ()), (x0.2.2.1.1, x0.2.2.1.2.1, x0.2.2.1.2.2.1, ()), ())) fun v3 =>
            obind (spec_Records (v3.2.1, ())) fun v4 =>
            tb v4.2.2.1
            (obind (spec_IndexOf (v4.2.1, ())) fun v5 =>
              obind (spec_l18SameList (v5.2.1, x0.2.2.2.1, ())) fun v6 =>
              some ((), v6.2.1, ()))
            (some ((), false, ())))))))
def spec_ArchiveOk (x : ((Bool × ((List ByteArray) × (List (Int × ByteArray × Unit)) × Unit) × (Int × Int × Int × Unit) × (List (ByteArray × ByteArray × Unit)) × Unit) × Unit)) : Option (Unit × (Bool × Unit)) := spec_ArchiveOk_k fuel x.1
def spec_ArchiveOk_s : List (Nat × Con) := [(39, ⟨[.val S36], [T37], (.pair T37 .unit), spec_HeadNow⟩), (40, ⟨[.val S37], [.bool], (.pair .bool .unit), spec_l16Right⟩), (41, ⟨[.val (.row false (.int .u8))], [(.row true T96), .bool], (.pair (.row true T96) (.pair .bool .unit)), spec_Records⟩), (42, ⟨[.val S36, .val S37], [(.row true (.int .u8))], (.pair (.row true (.int .u8)) .unit), spec_l18Bytes⟩), (52, ⟨[.val S36], [.bool], (.pair .bool .unit), spec_DiskOk⟩), (53, ⟨[.val (.row false S53), .val (.row false S53)], [.bool], (.pair .bool .unit), spec_l18SameList⟩), (54, ⟨[.val (.row false S96)], [(.row true T53)], (.pair (.row true T53) .unit), spec_IndexOf⟩)]
def spec_ArchiveOk_E : Env := ⟨fun j => (look tyTab j).getD .unit, fun j => look spec_ArchiveOk_s j⟩
theorem spec_ArchiveOk_f_eq (N : Nat) (x0 : (Bool × ((List ByteArray) × (List (Int × ByteArray × Unit)) × Unit) × (Int × Int × Int × Unit) × (List (ByteArray × ByteArray × Unit)) × Unit)) : funK spec_ArchiveOk_E Tryz.f22 [.val S40] [.bool] (.pair .bool .unit) (fun i => look [] i) N (x0, ()) = spec_ArchiveOk_k N x0 := by kernel_rfl
theorem spec_ArchiveOk_o : Known Tryz.prog 22 ⟨[.val S40], [.bool], (.pair .bool .unit), spec_ArchiveOk⟩ := known_of (tab := tyTab) (cons := spec_ArchiveOk_s) (segs := []) (n := fuel) mixed_ok tab_ok (.cons spec_HeadNow_o (.cons spec_l16Right_o (.cons spec_Records_o (.cons spec_l18Bytes_o (.cons spec_DiskOk_o (.cons spec_l18SameList_o (.cons spec_IndexOf_o .nil))))))) Tryz.func22 (by kernel_rfl) trivial (fun x => spec_ArchiveOk_f_eq fuel x.1)
def spec_ArchiveUrls_P1 : Tpl := ⟨[(1, .one (.fix (.vptr 1 0))), (4, .one (.fix (.ref 11000 [] none))), (5, .one (.leaf (.int .i64)))], [(1, [.leaf .bool, .leaf (.row false .str), .leaf (.row false (.pair (.int .i64) (.pair .str .unit))), .leaf (.int .i64), .leaf (.int .i64), .leaf (.int .i64), .leaf (.row false (.pair .str (.pair .str .unit)))])], [(11000, .str)]⟩
def spec_ArchiveUrls_O1 : Tpl := ⟨[(4, .one (.fix (.ref 11500 [] none)))], [], [(11500, .str)]⟩
def spec_ArchiveUrls_k1 (N : Nat) : Nat → ((Unit × (Unit × ((List ByteArray) × Unit))) → Option (Unit × ((List ByteArray) × Int × Unit))) → ((Int × Unit) × (((Bool × (List ByteArray) × (List (Int × (ByteArray × Unit))) × Int × Int × Int × (List (ByteArray × (ByteArray × Unit))) × Unit) × Unit) × ((List ByteArray) × Unit))) → Option (Unit × ((List ByteArray) × Int × Unit))
  | 0, _, _ => none
  | n + 1, k, x =>
    tb (ilt x.1.1 (((llen x.2.1.1.2.2.2.2.2.2.1) : Nat) : Int))
    (chk (0 ≤ x.1.1) (obind (at? x.2.1.1.2.2.2.2.2.2.1 (Int.toNat x.1.1)) fun v0 =>
        chk ((plus (llen x.2.2.1) (llen [v0.1])) ≤ 8796093022208) (spec_ArchiveUrls_k1 N n k (((wr .i64 (x.1.1 + 1)), ()), ((x.2.1.1.1, x.2.1.1.2.1, x.2.1.1.2.2.1, x.2.1.1.2.2.2.1, x.2.1.1.2.2.2.2.1, x.2.1.1.2.2.2.2.2.1, x.2.1.1.2.2.2.2.2.2.1, ()), ()), (lapp x.2.2.1 [v0.1]), ())) (none)) (none))
    (k ((), (), x.2.2.1, ()))
def spec_ArchiveUrls_k (N : Nat) (x0 : (Bool × ((List ByteArray) × (List (Int × ByteArray × Unit)) × Unit) × (Int × Int × Int × Unit) × (List (ByteArray × ByteArray × Unit)) × Unit)) : Option (Unit × ((List ByteArray) × Int × Unit)) :=
  obind (spec_ArchiveOk ((x0.1, (x0.2.1.1, x0.2.1.2.1, ()), (x0.2.2.1.1, x0.2.2.1.2.1, x0.2.2.1.2.2.1, ()), x0.2.2.2.1, ()), ())) fun v0 =>
  tb (bnot v0.2.1)
  (some ((), [], 1, ()))
  (tb (bnot x0.1)
    (some ((), [], 2, ()))
    (spec_ArchiveUrls_k1 N N (fun v1 =>
        some ((), v1.2.2.1, 0, ())) ((0, ()), ((x0.1, x0.2.1.1, x0.2.1.2.1, x0.2.2.1.1, x0.2.2.1.2.1, x0.2.2.1.2.2.1, x0.2.2.2.1, ()), ()), [], ())))
def spec_ArchiveUrls (x : ((Bool × ((List ByteArray) × (List (Int × ByteArray × Unit)) × Unit) × (Int × Int × Int × Unit) × (List (ByteArray × ByteArray × Unit)) × Unit) × Unit)) : Option (Unit × ((List ByteArray) × Int × Unit)) := spec_ArchiveUrls_k fuel x.1
def spec_ArchiveUrls_s : List (Nat × Con) := [(22, ⟨[.val S40], [.bool], (.pair .bool .unit), spec_ArchiveOk⟩)]
def spec_ArchiveUrls_E : Env := ⟨fun j => (look tyTab j).getD .unit, fun j => look spec_ArchiveUrls_s j⟩
theorem spec_ArchiveUrls_r1 (N n : Nat) (k : spec_ArchiveUrls_O1.ty.den → Option (Unit × ((List ByteArray) × Int × Unit))) (x : spec_ArchiveUrls_P1.ty.den) : roundK spec_ArchiveUrls_E ⟨Tryz.f7.ntmps, N, (fun i => look [(1, ⟨spec_ArchiveUrls_P1, spec_ArchiveUrls_O1, [.tmp 4 11000 .str], [.tmp 4 11500 .str], spec_ArchiveUrls_k1 N⟩)] i), retK spec_ArchiveUrls_E Tryz.f7 [.val S40] [(.row true .str), (.int .i64)] (.pair (.row true .str) (.pair (.int .i64) .unit))⟩ (Tryz.f7.body.getD .skip) 1 ⟨spec_ArchiveUrls_P1, spec_ArchiveUrls_O1, [.tmp 4 11000 .str], [.tmp 4 11500 .str], spec_ArchiveUrls_k1 N⟩ (spec_ArchiveUrls_k1 N n k) k x = spec_ArchiveUrls_k1 N (n + 1) k x := by kernel_rfl
theorem spec_ArchiveUrls_f_eq (N : Nat) (x0 : (Bool × ((List ByteArray) × (List (Int × ByteArray × Unit)) × Unit) × (Int × Int × Int × Unit) × (List (ByteArray × ByteArray × Unit)) × Unit)) : funK spec_ArchiveUrls_E Tryz.f7 [.val S40] [(.row true .str), (.int .i64)] (.pair (.row true .str) (.pair (.int .i64) .unit)) (fun i => look [(1, ⟨spec_ArchiveUrls_P1, spec_ArchiveUrls_O1, [.tmp 4 11000 .str], [.tmp 4 11500 .str], spec_ArchiveUrls_k1 N⟩)] i) N (x0, ()) = spec_ArchiveUrls_k N x0 := by kernel_rfl
theorem spec_ArchiveUrls_o : Known Tryz.prog 7 ⟨[.val S40], [(.row true .str), (.int .i64)], (.pair (.row true .str) (.pair (.int .i64) .unit)), spec_ArchiveUrls⟩ := known_of (tab := tyTab) (cons := spec_ArchiveUrls_s) (segs := [(1, ⟨spec_ArchiveUrls_P1, spec_ArchiveUrls_O1, [.tmp 4 11000 .str], [.tmp 4 11500 .str], spec_ArchiveUrls_k1 fuel⟩)]) (n := fuel) mixed_ok tab_ok (.cons spec_ArchiveOk_o .nil) Tryz.func7 (by kernel_rfl) ⟨⟨fun _ _ => rfl, fun n k x => spec_ArchiveUrls_r1 fuel n k x⟩, trivial⟩ (fun x => spec_ArchiveUrls_f_eq fuel x.1)
def laws_toStringS_P0 : Tpl := ⟨[(0, .one (.leaf (.row false .str))), (3, .one (.fix (.ref 10000 [] none))), (4, .one (.leaf (.int .i64)))], [], [(10000, .str)]⟩
def laws_toStringS_O0 : Tpl := ⟨[(3, .one (.fix (.ref 10500 [] none)))], [], [(10500, .str)]⟩
def laws_toStringS_k0 (N : Nat) : Nat → ((Unit × (Unit × ((List ByteArray) × Unit))) → Option (Unit × ((List ByteArray) × Unit))) → (((List ByteArray) × Int × Unit) × (Unit × ((List ByteArray) × Unit))) → Option (Unit × ((List ByteArray) × Unit))
  | 0, _, _ => none
  | n + 1, k, x =>
    tb (ilt x.1.2.1 (((llen x.1.1) : Nat) : Int))
    (chk (0 ≤ x.1.2.1) (obind (at? x.1.1 (Int.toNat x.1.2.1)) fun v0 =>
        chk ((0 ≤ x.1.2.1) ∧ (x.1.2.1 < (((llen x.2.2.1) : Nat) : Int))) (obind (at? x.2.2.1 (Int.toNat x.1.2.1)) fun v1 =>
          laws_toStringS_k0 N n k ((x.1.1, (wr .i64 (x.1.2.1 + 1)), ()), (), (lset x.2.2.1 (Int.toNat x.1.2.1) v0), ())) (none)) (none))
    (k ((), (), x.2.2.1, ()))
def laws_toStringS_k (N : Nat) (x0 : (List ByteArray)) : Option (Unit × ((List ByteArray) × Unit)) :=
  chk ((0 ≤ (((llen x0) : Nat) : Int)) ∧ (((((llen x0) : Nat) : Int) ≤ (((llen x0) : Nat) : Int)) ∧ ((Int.toNat (((llen x0) : Nat) : Int)) ≤ 8796093022208))) (laws_toStringS_k0 N N (fun v0 =>
      some ((), v0.2.2.1, ())) ((x0, 0, ()), (), (lrep (Int.toNat (((llen x0) : Nat) : Int)) (⟨#[]⟩ : ByteArray)), ())) (none)
def laws_toStringS (x : ((List ByteArray) × Unit)) : Option (Unit × ((List ByteArray) × Unit)) := laws_toStringS_k fuel x.1
def laws_toStringS_s : List (Nat × Con) := []
def laws_toStringS_E : Env := ⟨fun j => (look tyTab j).getD .unit, fun j => look laws_toStringS_s j⟩
theorem laws_toStringS_r0 (N n : Nat) (k : laws_toStringS_O0.ty.den → Option (Unit × ((List ByteArray) × Unit))) (x : laws_toStringS_P0.ty.den) : roundK laws_toStringS_E ⟨Tryz.f55.ntmps, N, (fun i => look [(0, ⟨laws_toStringS_P0, laws_toStringS_O0, [.tmp 3 10000 .str], [.tmp 3 10500 .str], laws_toStringS_k0 N⟩)] i), retK laws_toStringS_E Tryz.f55 [.val (.row false .str)] [(.row true .str)] (.pair (.row true .str) .unit)⟩ (Tryz.f55.body.getD .skip) 0 ⟨laws_toStringS_P0, laws_toStringS_O0, [.tmp 3 10000 .str], [.tmp 3 10500 .str], laws_toStringS_k0 N⟩ (laws_toStringS_k0 N n k) k x = laws_toStringS_k0 N (n + 1) k x := by kernel_rfl
theorem laws_toStringS_f_eq (N : Nat) (x0 : (List ByteArray)) : funK laws_toStringS_E Tryz.f55 [.val (.row false .str)] [(.row true .str)] (.pair (.row true .str) .unit) (fun i => look [(0, ⟨laws_toStringS_P0, laws_toStringS_O0, [.tmp 3 10000 .str], [.tmp 3 10500 .str], laws_toStringS_k0 N⟩)] i) N (x0, ()) = laws_toStringS_k N x0 := by kernel_rfl
theorem laws_toStringS_o : Known Tryz.prog 55 ⟨[.val (.row false .str)], [(.row true .str)], (.pair (.row true .str) .unit), laws_toStringS⟩ := known_of (tab := tyTab) (cons := laws_toStringS_s) (segs := [(0, ⟨laws_toStringS_P0, laws_toStringS_O0, [.tmp 3 10000 .str], [.tmp 3 10500 .str], laws_toStringS_k0 fuel⟩)]) (n := fuel) mixed_ok tab_ok .nil Tryz.func55 (by kernel_rfl) ⟨⟨fun _ _ => rfl, fun n k x => laws_toStringS_r0 fuel n k x⟩, trivial⟩ (fun x => laws_toStringS_f_eq fuel x.1)
def laws_toPut_k (N : Nat) (x0 : (Int × ByteArray × Unit)) : Option (Unit × ((Int × ByteArray × Unit) × Unit)) :=
  some ((), (x0.1, x0.2.1, ()), ())
def laws_toPut (x : ((Int × ByteArray × Unit) × Unit)) : Option (Unit × ((Int × ByteArray × Unit) × Unit)) := laws_toPut_k fuel x.1
def laws_toPut_s : List (Nat × Con) := []
def laws_toPut_E : Env := ⟨fun j => (look tyTab j).getD .unit, fun j => look laws_toPut_s j⟩
theorem laws_toPut_f_eq (N : Nat) (x0 : (Int × ByteArray × Unit)) : funK laws_toPut_E Tryz.f81 [.val S105] [T90] (.pair T90 .unit) (fun i => look [] i) N (x0, ()) = laws_toPut_k N x0 := by kernel_rfl
theorem laws_toPut_o : Known Tryz.prog 81 ⟨[.val S105], [T90], (.pair T90 .unit), laws_toPut⟩ := known_of (tab := tyTab) (cons := laws_toPut_s) (segs := []) (n := fuel) mixed_ok tab_ok .nil Tryz.func81 (by kernel_rfl) trivial (fun x => laws_toPut_f_eq fuel x.1)
def laws_toPutS_P0 : Tpl := ⟨[(0, .one (.leaf (.row false (.pair (.int .i64) (.pair .str .unit))))), (3, .one (.fix (.ref 10000 [] none))), (4, .one (.leaf (.int .i64)))], [], [(10000, (.pair (.int .i64) (.pair .str .unit)))]⟩
def laws_toPutS_O0 : Tpl := ⟨[(3, .one (.fix (.ref 10500 [] none)))], [], [(10500, (.pair (.int .i64) (.pair .str .unit)))]⟩
def laws_toPutS_k0 (N : Nat) : Nat → ((Unit × (Unit × ((List (Int × (ByteArray × Unit))) × Unit))) → Option (Unit × ((List (Int × ByteArray × Unit)) × Unit))) → (((List (Int × (ByteArray × Unit))) × Int × Unit) × (Unit × ((List (Int × (ByteArray × Unit))) × Unit))) → Option (Unit × ((List (Int × ByteArray × Unit)) × Unit))
  | 0, _, _ => none
  | n + 1, k, x =>
    tb (ilt x.1.2.1 (((llen x.1.1) : Nat) : Int))
    (chk (0 ≤ x.1.2.1) (obind (at? x.1.1 (Int.toNat x.1.2.1)) fun v0 =>
        obind (laws_toPut ((v0.1, v0.2.1, ()), ())) fun v1 =>
        chk ((0 ≤ x.1.2.1) ∧ (x.1.2.1 < (((llen x.2.2.1) : Nat) : Int))) (obind (at? x.2.2.1 (Int.toNat x.1.2.1)) fun v2 =>
          laws_toPutS_k0 N n k ((x.1.1, (wr .i64 (x.1.2.1 + 1)), ()), (), (lset x.2.2.1 (Int.toNat x.1.2.1) (v1.2.1.1, v1.2.1.2.1, ())), ())) (none)) (none))
    (k ((), (), x.2.2.1, ()))
def laws_toPutS_k (N : Nat) (x0 : (List (Int × ByteArray × Unit))) : Option (Unit × ((List (Int × ByteArray × Unit)) × Unit)) :=
  chk ((0 ≤ (((llen x0) : Nat) : Int)) ∧ (((((llen x0) : Nat) : Int) ≤ (((llen x0) : Nat) : Int)) ∧ ((Int.toNat (((llen x0) : Nat) : Int)) ≤ 5864062014805))) (laws_toPutS_k0 N N (fun v0 =>
      some ((), v0.2.2.1, ())) ((x0, 0, ()), (), (lrep (Int.toNat (((llen x0) : Nat) : Int)) ((0 : Int), (⟨#[]⟩ : ByteArray), PUnit.unit)), ())) (none)
def laws_toPutS (x : ((List (Int × ByteArray × Unit)) × Unit)) : Option (Unit × ((List (Int × ByteArray × Unit)) × Unit)) := laws_toPutS_k fuel x.1
def laws_toPutS_s : List (Nat × Con) := [(81, ⟨[.val S105], [T90], (.pair T90 .unit), laws_toPut⟩)]
def laws_toPutS_E : Env := ⟨fun j => (look tyTab j).getD .unit, fun j => look laws_toPutS_s j⟩
theorem laws_toPutS_r0 (N n : Nat) (k : laws_toPutS_O0.ty.den → Option (Unit × ((List (Int × ByteArray × Unit)) × Unit))) (x : laws_toPutS_P0.ty.den) : roundK laws_toPutS_E ⟨Tryz.f56.ntmps, N, (fun i => look [(0, ⟨laws_toPutS_P0, laws_toPutS_O0, [.tmp 3 10000 (.pair (.int .i64) (.pair .str .unit))], [.tmp 3 10500 (.pair (.int .i64) (.pair .str .unit))], laws_toPutS_k0 N⟩)] i), retK laws_toPutS_E Tryz.f56 [.val (.row false S105)] [(.row true T90)] (.pair (.row true T90) .unit)⟩ (Tryz.f56.body.getD .skip) 0 ⟨laws_toPutS_P0, laws_toPutS_O0, [.tmp 3 10000 (.pair (.int .i64) (.pair .str .unit))], [.tmp 3 10500 (.pair (.int .i64) (.pair .str .unit))], laws_toPutS_k0 N⟩ (laws_toPutS_k0 N n k) k x = laws_toPutS_k0 N (n + 1) k x := by kernel_rfl
theorem laws_toPutS_f_eq (N : Nat) (x0 : (List (Int × ByteArray × Unit))) : funK laws_toPutS_E Tryz.f56 [.val (.row false S105)] [(.row true T90)] (.pair (.row true T90) .unit) (fun i => look [(0, ⟨laws_toPutS_P0, laws_toPutS_O0, [.tmp 3 10000 (.pair (.int .i64) (.pair .str .unit))], [.tmp 3 10500 (.pair (.int .i64) (.pair .str .unit))], laws_toPutS_k0 N⟩)] i) N (x0, ()) = laws_toPutS_k N x0 := by kernel_rfl
theorem laws_toPutS_o : Known Tryz.prog 56 ⟨[.val (.row false S105)], [(.row true T90)], (.pair (.row true T90) .unit), laws_toPutS⟩ := known_of (tab := tyTab) (cons := laws_toPutS_s) (segs := [(0, ⟨laws_toPutS_P0, laws_toPutS_O0, [.tmp 3 10000 (.pair (.int .i64) (.pair .str .unit))], [.tmp 3 10500 (.pair (.int .i64) (.pair .str .unit))], laws_toPutS_k0 fuel⟩)]) (n := fuel) mixed_ok tab_ok (.cons laws_toPut_o .nil) Tryz.func56 (by kernel_rfl) ⟨⟨fun _ _ => rfl, fun n k x => laws_toPutS_r0 fuel n k x⟩, trivial⟩ (fun x => laws_toPutS_f_eq fuel x.1)
def laws_toDisk_k (N : Nat) (x0 : ((List ByteArray) × (List (Int × ByteArray × Unit)) × Unit)) : Option (Unit × (((List ByteArray) × (List (Int × ByteArray × Unit)) × Unit) × Unit)) :=
  obind (laws_toStringS (x0.1, ())) fun v0 =>
  obind (laws_toPutS (x0.2.1, ())) fun v1 =>
  some ((), (v0.2.1, v1.2.1, ()), ())
def laws_toDisk (x : (((List ByteArray) × (List (Int × ByteArray × Unit)) × Unit) × Unit)) : Option (Unit × (((List ByteArray) × (List (Int × ByteArray × Unit)) × Unit) × Unit)) := laws_toDisk_k fuel x.1
def laws_toDisk_s : List (Nat × Con) := [(55, ⟨[.val (.row false .str)], [(.row true .str)], (.pair (.row true .str) .unit), laws_toStringS⟩), (56, ⟨[.val (.row false S105)], [(.row true T90)], (.pair (.row true T90) .unit), laws_toPutS⟩)]
def laws_toDisk_E : Env := ⟨fun j => (look tyTab j).getD .unit, fun j => look laws_toDisk_s j⟩
theorem laws_toDisk_f_eq (N : Nat) (x0 : ((List ByteArray) × (List (Int × ByteArray × Unit)) × Unit)) : funK laws_toDisk_E Tryz.f23 [.val S25] [T36] (.pair T36 .unit) (fun i => look [] i) N (x0, ()) = laws_toDisk_k N x0 := by kernel_rfl
theorem laws_toDisk_o : Known Tryz.prog 23 ⟨[.val S25], [T36], (.pair T36 .unit), laws_toDisk⟩ := known_of (tab := tyTab) (cons := laws_toDisk_s) (segs := []) (n := fuel) mixed_ok tab_ok (.cons laws_toStringS_o (.cons laws_toPutS_o .nil)) Tryz.func23 (by kernel_rfl) trivial (fun x => laws_toDisk_f_eq fuel x.1)
def laws_toHead_k (N : Nat) (x0 : (Int × Int × Int × Unit)) : Option (Unit × ((Int × Int × Int × Unit) × Unit)) :=
  some ((), (x0.1, x0.2.1, x0.2.2.1, ()), ())
def laws_toHead (x : ((Int × Int × Int × Unit) × Unit)) : Option (Unit × ((Int × Int × Int × Unit) × Unit)) := laws_toHead_k fuel x.1
def laws_toHead_s : List (Nat × Con) := []
def laws_toHead_E : Env := ⟨fun j => (look tyTab j).getD .unit, fun j => look laws_toHead_s j⟩
theorem laws_toHead_f_eq (N : Nat) (x0 : (Int × Int × Int × Unit)) : funK laws_toHead_E Tryz.f24 [.val S27] [T37] (.pair T37 .unit) (fun i => look [] i) N (x0, ()) = laws_toHead_k N x0 := by kernel_rfl
theorem laws_toHead_o : Known Tryz.prog 24 ⟨[.val S27], [T37], (.pair T37 .unit), laws_toHead⟩ := known_of (tab := tyTab) (cons := laws_toHead_s) (segs := []) (n := fuel) mixed_ok tab_ok .nil Tryz.func24 (by kernel_rfl) trivial (fun x => laws_toHead_f_eq fuel x.1)
def laws_toEntry_k (N : Nat) (x0 : (ByteArray × ByteArray × Unit)) : Option (Unit × ((ByteArray × ByteArray × Unit) × Unit)) :=
  some ((), (x0.1, x0.2.1, ()), ())
def laws_toEntry (x : ((ByteArray × ByteArray × Unit) × Unit)) : Option (Unit × ((ByteArray × ByteArray × Unit) × Unit)) := laws_toEntry_k fuel x.1
def laws_toEntry_s : List (Nat × Con) := []
def laws_toEntry_E : Env := ⟨fun j => (look tyTab j).getD .unit, fun j => look laws_toEntry_s j⟩
theorem laws_toEntry_f_eq (N : Nat) (x0 : (ByteArray × ByteArray × Unit)) : funK laws_toEntry_E Tryz.f57 [.val S79] [T53] (.pair T53 .unit) (fun i => look [] i) N (x0, ()) = laws_toEntry_k N x0 := by kernel_rfl
theorem laws_toEntry_o : Known Tryz.prog 57 ⟨[.val S79], [T53], (.pair T53 .unit), laws_toEntry⟩ := known_of (tab := tyTab) (cons := laws_toEntry_s) (segs := []) (n := fuel) mixed_ok tab_ok .nil Tryz.func57 (by kernel_rfl) trivial (fun x => laws_toEntry_f_eq fuel x.1)
def laws_toEntryS_P0 : Tpl := ⟨[(0, .one (.leaf (.row false (.pair .str (.pair .str .unit))))), (3, .one (.fix (.ref 10000 [] none))), (4, .one (.leaf (.int .i64)))], [], [(10000, (.pair .str (.pair .str .unit)))]⟩
def laws_toEntryS_O0 : Tpl := ⟨[(3, .one (.fix (.ref 10500 [] none)))], [], [(10500, (.pair .str (.pair .str .unit)))]⟩
def laws_toEntryS_k0 (N : Nat) : Nat → ((Unit × (Unit × ((List (ByteArray × (ByteArray × Unit))) × Unit))) → Option (Unit × ((List (ByteArray × ByteArray × Unit)) × Unit))) → (((List (ByteArray × (ByteArray × Unit))) × Int × Unit) × (Unit × ((List (ByteArray × (ByteArray × Unit))) × Unit))) → Option (Unit × ((List (ByteArray × ByteArray × Unit)) × Unit))
  | 0, _, _ => none
  | n + 1, k, x =>
    tb (ilt x.1.2.1 (((llen x.1.1) : Nat) : Int))
    (chk (0 ≤ x.1.2.1) (obind (at? x.1.1 (Int.toNat x.1.2.1)) fun v0 =>
        obind (laws_toEntry ((v0.1, v0.2.1, ()), ())) fun v1 =>
        chk ((0 ≤ x.1.2.1) ∧ (x.1.2.1 < (((llen x.2.2.1) : Nat) : Int))) (obind (at? x.2.2.1 (Int.toNat x.1.2.1)) fun v2 =>
          laws_toEntryS_k0 N n k ((x.1.1, (wr .i64 (x.1.2.1 + 1)), ()), (), (lset x.2.2.1 (Int.toNat x.1.2.1) (v1.2.1.1, v1.2.1.2.1, ())), ())) (none)) (none))
    (k ((), (), x.2.2.1, ()))
def laws_toEntryS_k (N : Nat) (x0 : (List (ByteArray × ByteArray × Unit))) : Option (Unit × ((List (ByteArray × ByteArray × Unit)) × Unit)) :=
  chk ((0 ≤ (((llen x0) : Nat) : Int)) ∧ (((((llen x0) : Nat) : Int) ≤ (((llen x0) : Nat) : Int)) ∧ ((Int.toNat (((llen x0) : Nat) : Int)) ≤ 4398046511104))) (laws_toEntryS_k0 N N (fun v0 =>
      some ((), v0.2.2.1, ())) ((x0, 0, ()), (), (lrep (Int.toNat (((llen x0) : Nat) : Int)) ((⟨#[]⟩ : ByteArray), (⟨#[]⟩ : ByteArray), PUnit.unit)), ())) (none)
def laws_toEntryS (x : ((List (ByteArray × ByteArray × Unit)) × Unit)) : Option (Unit × ((List (ByteArray × ByteArray × Unit)) × Unit)) := laws_toEntryS_k fuel x.1
def laws_toEntryS_s : List (Nat × Con) := [(57, ⟨[.val S79], [T53], (.pair T53 .unit), laws_toEntry⟩)]
def laws_toEntryS_E : Env := ⟨fun j => (look tyTab j).getD .unit, fun j => look laws_toEntryS_s j⟩
theorem laws_toEntryS_r0 (N n : Nat) (k : laws_toEntryS_O0.ty.den → Option (Unit × ((List (ByteArray × ByteArray × Unit)) × Unit))) (x : laws_toEntryS_P0.ty.den) : roundK laws_toEntryS_E ⟨Tryz.f25.ntmps, N, (fun i => look [(0, ⟨laws_toEntryS_P0, laws_toEntryS_O0, [.tmp 3 10000 (.pair .str (.pair .str .unit))], [.tmp 3 10500 (.pair .str (.pair .str .unit))], laws_toEntryS_k0 N⟩)] i), retK laws_toEntryS_E Tryz.f25 [.val (.row false S79)] [(.row true T53)] (.pair (.row true T53) .unit)⟩ (Tryz.f25.body.getD .skip) 0 ⟨laws_toEntryS_P0, laws_toEntryS_O0, [.tmp 3 10000 (.pair .str (.pair .str .unit))], [.tmp 3 10500 (.pair .str (.pair .str .unit))], laws_toEntryS_k0 N⟩ (laws_toEntryS_k0 N n k) k x = laws_toEntryS_k0 N (n + 1) k x := by kernel_rfl
theorem laws_toEntryS_f_eq (N : Nat) (x0 : (List (ByteArray × ByteArray × Unit))) : funK laws_toEntryS_E Tryz.f25 [.val (.row false S79)] [(.row true T53)] (.pair (.row true T53) .unit) (fun i => look [(0, ⟨laws_toEntryS_P0, laws_toEntryS_O0, [.tmp 3 10000 (.pair .str (.pair .str .unit))], [.tmp 3 10500 (.pair .str (.pair .str .unit))], laws_toEntryS_k0 N⟩)] i) N (x0, ()) = laws_toEntryS_k N x0 := by kernel_rfl
theorem laws_toEntryS_o : Known Tryz.prog 25 ⟨[.val (.row false S79)], [(.row true T53)], (.pair (.row true T53) .unit), laws_toEntryS⟩ := known_of (tab := tyTab) (cons := laws_toEntryS_s) (segs := [(0, ⟨laws_toEntryS_P0, laws_toEntryS_O0, [.tmp 3 10000 (.pair .str (.pair .str .unit))], [.tmp 3 10500 (.pair .str (.pair .str .unit))], laws_toEntryS_k0 fuel⟩)]) (n := fuel) mixed_ok tab_ok (.cons laws_toEntry_o .nil) Tryz.func25 (by kernel_rfl) ⟨⟨fun _ _ => rfl, fun n k x => laws_toEntryS_r0 fuel n k x⟩, trivial⟩ (fun x => laws_toEntryS_f_eq fuel x.1)
def laws_toArchive_k (N : Nat) (x0 : (Bool × ((List ByteArray) × (List (Int × ByteArray × Unit)) × Unit) × (Int × Int × Int × Unit) × (List (ByteArray × ByteArray × Unit)) × Unit)) : Option (Unit × ((Bool × ((List ByteArray) × (List (Int × ByteArray × Unit)) × Unit) × (Int × Int × Int × Unit) × (List (ByteArray × ByteArray × Unit)) × Unit) × Unit)) :=
  obind (laws_toDisk ((x0.2.1.1, x0.2.1.2.1, ()), ())) fun v0 =>
  obind (laws_toHead ((x0.2.2.1.1, x0.2.2.1.2.1, x0.2.2.1.2.2.1, ()), ())) fun v1 =>
  obind (laws_toEntryS (x0.2.2.2.1, ())) fun v2 =>
  some ((), (x0.1, (v0.2.1.1, v0.2.1.2.1, ()), (v1.2.1.1, v1.2.1.2.1, v1.2.1.2.2.1, ()), v2.2.1, ()), ())
def laws_toArchive (x : ((Bool × ((List ByteArray) × (List (Int × ByteArray × Unit)) × Unit) × (Int × Int × Int × Unit) × (List (ByteArray × ByteArray × Unit)) × Unit) × Unit)) : Option (Unit × ((Bool × ((List ByteArray) × (List (Int × ByteArray × Unit)) × Unit) × (Int × Int × Int × Unit) × (List (ByteArray × ByteArray × Unit)) × Unit) × Unit)) := laws_toArchive_k fuel x.1
def laws_toArchive_s : List (Nat × Con) := [(23, ⟨[.val S25], [T36], (.pair T36 .unit), laws_toDisk⟩), (24, ⟨[.val S27], [T37], (.pair T37 .unit), laws_toHead⟩), (25, ⟨[.val (.row false S79)], [(.row true T53)], (.pair (.row true T53) .unit), laws_toEntryS⟩)]
def laws_toArchive_E : Env := ⟨fun j => (look tyTab j).getD .unit, fun j => look laws_toArchive_s j⟩
theorem laws_toArchive_f_eq (N : Nat) (x0 : (Bool × ((List ByteArray) × (List (Int × ByteArray × Unit)) × Unit) × (Int × Int × Int × Unit) × (List (ByteArray × ByteArray × Unit)) × Unit)) : funK laws_toArchive_E Tryz.f8 [.val S30] [T40] (.pair T40 .unit) (fun i => look [] i) N (x0, ()) = laws_toArchive_k N x0 := by kernel_rfl
theorem laws_toArchive_o : Known Tryz.prog 8 ⟨[.val S30], [T40], (.pair T40 .unit), laws_toArchive⟩ := known_of (tab := tyTab) (cons := laws_toArchive_s) (segs := []) (n := fuel) mixed_ok tab_ok (.cons laws_toDisk_o (.cons laws_toHead_o (.cons laws_toEntryS_o .nil))) Tryz.func8 (by kernel_rfl) trivial (fun x => laws_toArchive_f_eq fuel x.1)
def impl_inRange_k (N : Nat) (x0 : Int) (x1 : Int) (x2 : Int) : Option (Unit × (Bool × Unit)) :=
  tb (ile x1 x0)
  (some ((), (ile x0 x2), ()))
  (some ((), false, ()))
def impl_inRange (x : (Int × Int × Int × Unit)) : Option (Unit × (Bool × Unit)) := impl_inRange_k fuel x.1 x.2.1 x.2.2.1
def impl_inRange_s : List (Nat × Con) := []
def impl_inRange_E : Env := ⟨fun j => (look tyTab j).getD .unit, fun j => look impl_inRange_s j⟩
theorem impl_inRange_f_eq (N : Nat) (x0 : Int) (x1 : Int) (x2 : Int) : funK impl_inRange_E Tryz.f77 [.val (.int .i64), .val (.int .i64), .val (.int .i64)] [.bool] (.pair .bool .unit) (fun i => look [] i) N (x0, x1, x2, ()) = impl_inRange_k N x0 x1 x2 := by kernel_rfl
theorem impl_inRange_o : Known Tryz.prog 77 ⟨[.val (.int .i64), .val (.int .i64), .val (.int .i64)], [.bool], (.pair .bool .unit), impl_inRange⟩ := known_of (tab := tyTab) (cons := impl_inRange_s) (segs := []) (n := fuel) mixed_ok tab_ok .nil Tryz.func77 (by kernel_rfl) trivial (fun x => impl_inRange_f_eq fuel x.1 x.2.1 x.2.2.1)
def impl_isSector_k (N : Nat) (x0 : Int) : Option (Unit × (Bool × Unit)) :=
  obind (impl_inRange (x0, 0, 129, ())) fun v0 =>
  some ((), v0.2.1, ())
def impl_isSector (x : (Int × Unit)) : Option (Unit × (Bool × Unit)) := impl_isSector_k fuel x.1
def impl_isSector_s : List (Nat × Con) := [(77, ⟨[.val (.int .i64), .val (.int .i64), .val (.int .i64)], [.bool], (.pair .bool .unit), impl_inRange⟩)]
def impl_isSector_E : Env := ⟨fun j => (look tyTab j).getD .unit, fun j => look impl_isSector_s j⟩
theorem impl_isSector_f_eq (N : Nat) (x0 : Int) : funK impl_isSector_E Tryz.f87 [.val (.int .i64)] [.bool] (.pair .bool .unit) (fun i => look [] i) N (x0, ()) = impl_isSector_k N x0 := by kernel_rfl
theorem impl_isSector_o : Known Tryz.prog 87 ⟨[.val (.int .i64)], [.bool], (.pair .bool .unit), impl_isSector⟩ := known_of (tab := tyTab) (cons := impl_isSector_s) (segs := []) (n := fuel) mixed_ok tab_ok (.cons impl_inRange_o .nil) Tryz.func87 (by kernel_rfl) trivial (fun x => impl_isSector_f_eq fuel x.1)
def impl_DiskOk_P0 : Tpl := ⟨[(1, .one (.fix (.vptr 1 0))), (8, .one (.leaf (.row false .str))), (9, .one (.leaf (.int .i64))), (10, .one (.leaf (.int .i64)))], [(1, [.leaf (.row false .str), .leaf (.row false (.pair (.int .i64) (.pair .str .unit)))])], []⟩
def impl_DiskOk_O0 : Tpl := ⟨[(1, .one (.fix (.vptr 1 0)))], [(1, [.leaf (.row false .str), .leaf (.row false (.pair (.int .i64) (.pair .str .unit)))])], []⟩
def impl_DiskOk_k0 (N : Nat) : Nat → ((Unit × ((((List ByteArray) × (List (Int × (ByteArray × Unit))) × Unit) × Unit) × Unit)) → Option (Unit × (Bool × Unit))) → (((List ByteArray) × Int × Int × Unit) × ((((List ByteArray) × (List (Int × (ByteArray × Unit))) × Unit) × Unit) × Unit)) → Option (Unit × (Bool × Unit))
  | 0, _, _ => none
  | n + 1, k, x =>
    tb (ilt x.1.2.2.1 x.1.2.1)
    (chk (0 ≤ x.1.2.2.1) (obind (at? x.1.1 (Int.toNat x.1.2.2.1)) fun v0 =>
        tb (bnot (ieq (((slen v0) : Nat) : Int) 64))
        (some ((), false, ()))
        (impl_DiskOk_k0 N n k ((x.1.1, x.1.2.1, (wr .i64 (x.1.2.2.1 + 1)), ()), ((x.2.1.1.1, x.2.1.1.2.1, ()), ()), ()))) (none))
    (k ((), ((x.2.1.1.1, x.2.1.1.2.1, ()), ()), ()))
def impl_DiskOk_P2 : Tpl := ⟨[(1, .one (.fix (.vptr 1 0))), (19, .one (.leaf (.row false (.pair (.int .i64) (.pair .str .unit))))), (20, .one (.leaf (.int .i64))), (21, .one (.leaf (.int .i64)))], [(1, [.leaf (.row false .str), .leaf (.row false (.pair (.int .i64) (.pair .str .unit)))])], []⟩
def impl_DiskOk_O2 : Tpl := ⟨[(1, .one (.fix (.vptr 1 0)))], [(1, [.leaf (.row false .str), .leaf (.row false (.pair (.int .i64) (.pair .str .unit)))])], []⟩
def impl_DiskOk_k2 (N : Nat) : Nat → ((Unit × ((((List ByteArray) × (List (Int × (ByteArray × Unit))) × Unit) × Unit) × Unit)) → Option (Unit × (Bool × Unit))) → (((List (Int × (ByteArray × Unit))) × Int × Int × Unit) × ((((List ByteArray) × (List (Int × (ByteArray × Unit))) × Unit) × Unit) × Unit)) → Option (Unit × (Bool × Unit))
  | 0, _, _ => none
  | n + 1, k, x =>
    tb (ilt x.1.2.2.1 x.1.2.1)
    (chk (0 ≤ x.1.2.2.1) (obind (at? x.1.1 (Int.toNat x.1.2.2.1)) fun v0 =>
        obind (impl_isSector (v0.1, ())) fun v1 =>
        tb (bnot v1.2.1)
        (some ((), false, ()))
        (tb (bnot (ieq (((slen v0.2.1) : Nat) : Int) 64))
          (some ((), false, ()))
          (impl_DiskOk_k2 N n k ((x.1.1, x.1.2.1, (wr .i64 (x.1.2.2.1 + 1)), ()), ((x.2.1.1.1, x.2.1.1.2.1, ()), ()), ())))) (none))
    (k ((), ((x.2.1.1.1, x.2.1.1.2.1, ()), ()), ()))
def impl_DiskOk_k (N : Nat) (x0 : ((List ByteArray) × (List (Int × ByteArray × Unit)) × Unit)) : Option (Unit × (Bool × Unit)) :=
  impl_DiskOk_k0 N N (fun v0 =>
    impl_DiskOk_k2 N N (fun v1 =>
      tb (ieq (((llen v1.2.1.1.1) : Nat) : Int) 130)
      (some ((), (ile (((llen v1.2.1.1.2.1) : Nat) : Int) 200), ()))
      (some ((), false, ()))) ((v0.2.1.1.2.1, (((llen v0.2.1.1.2.1) : Nat) : Int), 0, ()), ((v0.2.1.1.1, v0.2.1.1.2.1, ()), ()), ())) ((x0.1, (((llen x0.1) : Nat) : Int), 0, ()), ((x0.1, x0.2.1, ()), ()), ())
def impl_DiskOk (x : (((List ByteArray) × (List (Int × ByteArray × Unit)) × Unit) × Unit)) : Option (Unit × (Bool × Unit)) := impl_DiskOk_k fuel x.1
def impl_DiskOk_s : List (Nat × Con) := [(87, ⟨[.val (.int .i64)], [.bool], (.pair .bool .unit), impl_isSector⟩)]
def impl_DiskOk_E : Env := ⟨fun j => (look tyTab j).getD .unit, fun j => look impl_DiskOk_s j⟩
theorem impl_DiskOk_r0 (N n : Nat) (k : impl_DiskOk_O0.ty.den → Option (Unit × (Bool × Unit))) (x : impl_DiskOk_P0.ty.den) : roundK impl_DiskOk_E ⟨Tryz.f69.ntmps, N, (fun i => look [(0, ⟨impl_DiskOk_P0, impl_DiskOk_O0, [], [], impl_DiskOk_k0 N⟩), (2, ⟨impl_DiskOk_P2, impl_DiskOk_O2, [], [], impl_DiskOk_k2 N⟩)] i), retK impl_DiskOk_E Tryz.f69 [.val S36] [.bool] (.pair .bool .unit)⟩ (Tryz.f69.body.getD .skip) 0 ⟨impl_DiskOk_P0, impl_DiskOk_O0, [], [], impl_DiskOk_k0 N⟩ (impl_DiskOk_k0 N n k) k x = impl_DiskOk_k0 N (n + 1) k x := by kernel_rfl
theorem impl_DiskOk_r2 (N n : Nat) (k : impl_DiskOk_O2.ty.den → Option (Unit × (Bool × Unit))) (x : impl_DiskOk_P2.ty.den) : roundK impl_DiskOk_E ⟨Tryz.f69.ntmps, N, (fun i => look [(0, ⟨impl_DiskOk_P0, impl_DiskOk_O0, [], [], impl_DiskOk_k0 N⟩), (2, ⟨impl_DiskOk_P2, impl_DiskOk_O2, [], [], impl_DiskOk_k2 N⟩)] i), retK impl_DiskOk_E Tryz.f69 [.val S36] [.bool] (.pair .bool .unit)⟩ (Tryz.f69.body.getD .skip) 2 ⟨impl_DiskOk_P2, impl_DiskOk_O2, [], [], impl_DiskOk_k2 N⟩ (impl_DiskOk_k2 N n k) k x = impl_DiskOk_k2 N (n + 1) k x := by kernel_rfl
theorem impl_DiskOk_f_eq (N : Nat) (x0 : ((List ByteArray) × (List (Int × ByteArray × Unit)) × Unit)) : funK impl_DiskOk_E Tryz.f69 [.val S36] [.bool] (.pair .bool .unit) (fun i => look [(0, ⟨impl_DiskOk_P0, impl_DiskOk_O0, [], [], impl_DiskOk_k0 N⟩), (2, ⟨impl_DiskOk_P2, impl_DiskOk_O2, [], [], impl_DiskOk_k2 N⟩)] i) N (x0, ()) = impl_DiskOk_k N x0 := by kernel_rfl
theorem impl_DiskOk_o : Known Tryz.prog 69 ⟨[.val S36], [.bool], (.pair .bool .unit), impl_DiskOk⟩ := known_of (tab := tyTab) (cons := impl_DiskOk_s) (segs := [(0, ⟨impl_DiskOk_P0, impl_DiskOk_O0, [], [], impl_DiskOk_k0 fuel⟩), (2, ⟨impl_DiskOk_P2, impl_DiskOk_O2, [], [], impl_DiskOk_k2 fuel⟩)]) (n := fuel) mixed_ok tab_ok (.cons impl_isSector_o .nil) Tryz.func69 (by kernel_rfl) ⟨⟨fun _ _ => rfl, fun n k x => impl_DiskOk_r0 fuel n k x⟩, ⟨⟨fun _ _ => rfl, fun n k x => impl_DiskOk_r2 fuel n k x⟩, trivial⟩⟩ (fun x => impl_DiskOk_f_eq fuel x.1)
def impl_GetNum_P0 : Tpl := ⟨[(0, .one (.leaf (.row false (.int .u8)))), (1, .one (.leaf (.int .i64))), (7, .one (.leaf (.int .i64))), (8, .one (.leaf (.int .i64)))], [], []⟩
def impl_GetNum_O0 : Tpl := ⟨[], [], []⟩
def impl_GetNum_k0 (N : Nat) : Nat → ((Unit × (Unit × Unit)) → Option (Unit × (Int × Int × Bool × Unit))) → (((List Int) × Int × Int × Int × Unit) × (Unit × Unit)) → Option (Unit × (Int × Int × Bool × Unit))
  | 0, _, _ => none
  | n + 1, k, x =>
    tb (ilt x.1.2.2.2.1 9)
    (tb (ilt x.1.2.1 (((llen x.1.1) : Nat) : Int))
      (chk (0 ≤ x.1.2.1) (obind (at? x.1.1 (Int.toNat x.1.2.1)) fun v0 =>
          chk ((wr .u64 (wr .i64 (7 * x.1.2.2.2.1))) < 0) (none) (tb (ilt (wr .i64 v0) 128)
            (tb (ieq (wr .i64 v0) 0)
              (tb (ilt 0 x.1.2.2.2.1)
                (some ((), 0, 0, false, ()))
                (some ((), (borK .i64 x.1.2.2.1 (shlK .i64 (bandK .i64 (wr .i64 v0) 127) (wr .u64 (wr .i64 (7 * x.1.2.2.2.1))))), (wr .i64 (x.1.2.1 + 1)), true, ())))
              (some ((), (borK .i64 x.1.2.2.1 (shlK .i64 (bandK .i64 (wr .i64 v0) 127) (wr .u64 (wr .i64 (7 * x.1.2.2.2.1))))), (wr .i64 (x.1.2.1 + 1)), true, ())))
            (impl_GetNum_k0 N n k ((x.1.1, (wr .i64 (x.1.2.1 + 1)), (borK .i64 x.1.2.2.1 (shlK .i64 (bandK .i64 (wr .i64 v0) 127) (wr .u64 (wr .i64 (7 * x.1.2.2.2.1))))), (wr .i64 (x.1.2.2.2.1 + 1)), ()), (), ())))) (none))
      (k ((), (), ())))
    (k ((), (), ()))
def impl_GetNum_k (N : Nat) (x0 : (List Int)) (x1 : Int) : Option (Unit × (Int × Int × Bool × Unit)) :=
  obind (impl_inRange (x1, 0, (wr .i64 ((((llen x0) : Nat) : Int) - 1)), ())) fun v0 =>
  tb (bnot v0.2.1)
  (some ((), 0, 0, false, ()))
  (impl_GetNum_k0 N N (fun v1 =>
      some ((), 0, 0, false, ())) ((x0, x1, 0, 0, ()), (), ()))
def impl_GetNum (x : ((List Int) × Int × Unit)) : Option (Unit × (Int × Int × Bool × Unit)) := impl_GetNum_k fuel x.1 x.2.1
def impl_GetNum_s : List (Nat × Con) := [(77, ⟨[.val (.int .i64), .val (.int .i64), .val (.int .i64)], [.bool], (.pair .bool .unit), impl_inRange⟩)]
def impl_GetNum_E : Env := ⟨fun j => (look tyTab j).getD .unit, fun j => look impl_GetNum_s j⟩
theorem impl_GetNum_r0 (N n : Nat) (k : impl_GetNum_O0.ty.den → Option (Unit × (Int × Int × Bool × Unit))) (x : impl_GetNum_P0.ty.den) : roundK impl_GetNum_E ⟨Tryz.f99.ntmps, N, (fun i => look [(0, ⟨impl_GetNum_P0, impl_GetNum_O0, [], [], impl_GetNum_k0 N⟩)] i), retK impl_GetNum_E Tryz.f99 [.val (.row false (.int .u8)), .val (.int .i64)] [(.int .i64), (.int .i64), .bool] (.pair (.int .i64) (.pair (.int .i64) (.pair .bool .unit)))⟩ (Tryz.f99.body.getD .skip) 0 ⟨impl_GetNum_P0, impl_GetNum_O0, [], [], impl_GetNum_k0 N⟩ (impl_GetNum_k0 N n k) k x = impl_GetNum_k0 N (n + 1) k x := by kernel_rfl
theorem impl_GetNum_f_eq (N : Nat) (x0 : (List Int)) (x1 : Int) : funK impl_GetNum_E Tryz.f99 [.val (.row false (.int .u8)), .val (.int .i64)] [(.int .i64), (.int .i64), .bool] (.pair (.int .i64) (.pair (.int .i64) (.pair .bool .unit))) (fun i => look [(0, ⟨impl_GetNum_P0, impl_GetNum_O0, [], [], impl_GetNum_k0 N⟩)] i) N (x0, x1, ()) = impl_GetNum_k N x0 x1 := by kernel_rfl
theorem impl_GetNum_o : Known Tryz.prog 99 ⟨[.val (.row false (.int .u8)), .val (.int .i64)], [(.int .i64), (.int .i64), .bool], (.pair (.int .i64) (.pair (.int .i64) (.pair .bool .unit))), impl_GetNum⟩ := known_of (tab := tyTab) (cons := impl_GetNum_s) (segs := [(0, ⟨impl_GetNum_P0, impl_GetNum_O0, [], [], impl_GetNum_k0 fuel⟩)]) (n := fuel) mixed_ok tab_ok (.cons impl_inRange_o .nil) Tryz.func99 (by kernel_rfl) ⟨⟨fun _ _ => rfl, fun n k x => impl_GetNum_r0 fuel n k x⟩, trivial⟩ (fun x => impl_GetNum_f_eq fuel x.1 x.2.1)
def impl_getter_num_k (N : Nat) (x0 : ((List Int) × Int × Bool × Unit)) : Option ((((List Int) × Int × Bool × Unit) × Unit) × (Int × Unit)) :=
  obind (impl_GetNum (x0.1, x0.2.1, ())) fun v0 =>
  tb x0.2.2.1
  (some (((x0.1, x0.2.1, true, ()), ()), 0, ()))
  (tb (bnot v0.2.2.2.1)
    (some (((x0.1, x0.2.1, true, ()), ()), 0, ()))
    (some (((x0.1, v0.2.2.1, x0.2.2.1, ()), ()), v0.2.1, ())))
def impl_getter_num (x : (((List Int) × Int × Bool × Unit) × Unit)) : Option ((((List Int) × Int × Bool × Unit) × Unit) × (Int × Unit)) := impl_getter_num_k fuel x.1
def impl_getter_num_s : List (Nat × Con) := [(99, ⟨[.val (.row false (.int .u8)), .val (.int .i64)], [(.int .i64), (.int .i64), .bool], (.pair (.int .i64) (.pair (.int .i64) (.pair .bool .unit))), impl_GetNum⟩)]
def impl_getter_num_E : Env := ⟨fun j => (look tyTab j).getD .unit, fun j => look impl_getter_num_s j⟩
theorem impl_getter_num_f_eq (N : Nat) (x0 : ((List Int) × Int × Bool × Unit)) : funK impl_getter_num_E Tryz.f88 [.io S116] [(.int .i64)] (.pair (.int .i64) .unit) (fun i => look [] i) N (x0, ()) = impl_getter_num_k N x0 := by kernel_rfl
theorem impl_getter_num_o : Known Tryz.prog 88 ⟨[.io S116], [(.int .i64)], (.pair (.int .i64) .unit), impl_getter_num⟩ := known_of (tab := tyTab) (cons := impl_getter_num_s) (segs := []) (n := fuel) mixed_ok tab_ok (.cons impl_GetNum_o .nil) Tryz.func88 (by kernel_rfl) trivial (fun x => impl_getter_num_f_eq fuel x.1)
def impl_isArea_k (N : Nat) (x0 : Int) : Option (Unit × (Bool × Unit)) :=
  tb (ieq x0 0)
  (some ((), true, ()))
  (some ((), (ieq x0 1), ()))
def impl_isArea (x : (Int × Unit)) : Option (Unit × (Bool × Unit)) := impl_isArea_k fuel x.1
def impl_isArea_s : List (Nat × Con) := []
def impl_isArea_E : Env := ⟨fun j => (look tyTab j).getD .unit, fun j => look impl_isArea_s j⟩
theorem impl_isArea_f_eq (N : Nat) (x0 : Int) : funK impl_isArea_E Tryz.f78 [.val (.int .i64)] [.bool] (.pair .bool .unit) (fun i => look [] i) N (x0, ()) = impl_isArea_k N x0 := by kernel_rfl
theorem impl_isArea_o : Known Tryz.prog 78 ⟨[.val (.int .i64)], [.bool], (.pair .bool .unit), impl_isArea⟩ := known_of (tab := tyTab) (cons := impl_isArea_s) (segs := []) (n := fuel) mixed_ok tab_ok .nil Tryz.func78 (by kernel_rfl) trivial (fun x => impl_isArea_f_eq fuel x.1)
def impl_headOk_k (N : Nat) (x0 : (Int × Int × Int × Unit)) : Option (Unit × (Bool × Unit)) :=
  obind (impl_inRange (x0.1, 1, 1000000000, ())) fun v0 =>
  tb v0.2.1
  (obind (impl_isArea (x0.2.1, ())) fun v1 =>
    tb v1.2.1
    (obind (impl_inRange (x0.2.2.1, 0, 4096, ())) fun v2 =>
      some ((), v2.2.1, ()))
    (some ((), false, ())))
  (some ((), false, ()))
def impl_headOk (x : ((Int × Int × Int × Unit) × Unit)) : Option (Unit × (Bool × Unit)) := impl_headOk_k fuel x.1
def impl_headOk_s : List (Nat × Con) := [(77, ⟨[.val (.int .i64), .val (.int .i64), .val (.int .i64)], [.bool], (.pair .bool .unit), impl_inRange⟩), (78, ⟨[.val (.int .i64)], [.bool], (.pair .bool .unit), impl_isArea⟩)]
def impl_headOk_E : Env := ⟨fun j => (look tyTab j).getD .unit, fun j => look impl_headOk_s j⟩
theorem impl_headOk_f_eq (N : Nat) (x0 : (Int × Int × Int × Unit)) : funK impl_headOk_E Tryz.f48 [.val S37] [.bool] (.pair .bool .unit) (fun i => look [] i) N (x0, ()) = impl_headOk_k N x0 := by kernel_rfl
theorem impl_headOk_o : Known Tryz.prog 48 ⟨[.val S37], [.bool], (.pair .bool .unit), impl_headOk⟩ := known_of (tab := tyTab) (cons := impl_headOk_s) (segs := []) (n := fuel) mixed_ok tab_ok (.cons impl_inRange_o (.cons impl_isArea_o .nil)) Tryz.func48 (by kernel_rfl) trivial (fun x => impl_headOk_f_eq fuel x.1)
def impl_putNum_P0 : Tpl := ⟨[(0, .one (.fix (.ref 10000 [] none))), (1, .one (.leaf (.int .i64)))], [], [(10000, (.int .u8))]⟩
def impl_putNum_O0 : Tpl := ⟨[(0, .one (.fix (.ref 10500 [] none))), (1, .one (.leaf (.int .i64)))], [], [(10500, (.int .u8))]⟩
def impl_putNum_k0 (N : Nat) : Nat → (((Int × Unit) × (Unit × ((List Int) × Unit))) → Option (Unit × ((List Int) × Unit))) → ((Int × Unit) × (Unit × ((List Int) × Unit))) → Option (Unit × ((List Int) × Unit))
  | 0, _, _ => none
  | n + 1, k, x =>
    tb (ilt 127 x.1.1)
    (chk ((plus (llen x.2.2.1) (llen [(wr .u8 (borK .i64 128 (bandK .i64 x.1.1 127)))])) ≤ 140737488355328) (chk ((7 : Int) < 0) (none) (impl_putNum_k0 N n k (((shrK .i64 x.1.1 7), ()), (), (lapp x.2.2.1 [(wr .u8 (borK .i64 128 (bandK .i64 x.1.1 127)))]), ()))) (none))
    (k ((x.1.1, ()), (), x.2.2.1, ()))
def impl_putNum_k (N : Nat) (x0 : (List Int)) (x1 : Int) : Option (Unit × ((List Int) × Unit)) :=
  impl_putNum_k0 N N (fun v0 =>
    chk ((plus (llen v0.2.2.1) (llen [(wr .u8 v0.1.1)])) ≤ 140737488355328) (some ((), (lapp v0.2.2.1 [(wr .u8 v0.1.1)]), ())) (none)) ((x1, ()), (), x0, ())
def impl_putNum (x : ((List Int) × Int × Unit)) : Option (Unit × ((List Int) × Unit)) := impl_putNum_k fuel x.1 x.2.1
def impl_putNum_s : List (Nat × Con) := []
def impl_putNum_E : Env := ⟨fun j => (look tyTab j).getD .unit, fun j => look impl_putNum_s j⟩
theorem impl_putNum_r0 (N n : Nat) (k : impl_putNum_O0.ty.den → Option (Unit × ((List Int) × Unit))) (x : impl_putNum_P0.ty.den) : roundK impl_putNum_E ⟨Tryz.f100.ntmps, N, (fun i => look [(0, ⟨impl_putNum_P0, impl_putNum_O0, [.tmp 0 10000 (.int .u8)], [.tmp 0 10500 (.int .u8)], impl_putNum_k0 N⟩)] i), retK impl_putNum_E Tryz.f100 [.own (.row true (.int .u8)), .val (.int .i64)] [(.row true (.int .u8))] (.pair (.row true (.int .u8)) .unit)⟩ (Tryz.f100.body.getD .skip) 0 ⟨impl_putNum_P0, impl_putNum_O0, [.tmp 0 10000 (.int .u8)], [.tmp 0 10500 (.int .u8)], impl_putNum_k0 N⟩ (impl_putNum_k0 N n k) k x = impl_putNum_k0 N (n + 1) k x := by kernel_rfl
theorem impl_putNum_f_eq (N : Nat) (x0 : (List Int)) (x1 : Int) : funK impl_putNum_E Tryz.f100 [.own (.row true (.int .u8)), .val (.int .i64)] [(.row true (.int .u8))] (.pair (.row true (.int .u8)) .unit) (fun i => look [(0, ⟨impl_putNum_P0, impl_putNum_O0, [.tmp 0 10000 (.int .u8)], [.tmp 0 10500 (.int .u8)], impl_putNum_k0 N⟩)] i) N (x0, x1, ()) = impl_putNum_k N x0 x1 := by kernel_rfl
theorem impl_putNum_o : Known Tryz.prog 100 ⟨[.own (.row true (.int .u8)), .val (.int .i64)], [(.row true (.int .u8))], (.pair (.row true (.int .u8)) .unit), impl_putNum⟩ := known_of (tab := tyTab) (cons := impl_putNum_s) (segs := [(0, ⟨impl_putNum_P0, impl_putNum_O0, [.tmp 0 10000 (.int .u8)], [.tmp 0 10500 (.int .u8)], impl_putNum_k0 fuel⟩)]) (n := fuel) mixed_ok tab_ok .nil Tryz.func100 (by kernel_rfl) ⟨⟨fun _ _ => rfl, fun n k x => impl_putNum_r0 fuel n k x⟩, trivial⟩ (fun x => impl_putNum_f_eq fuel x.1 x.2.1)
def impl_HeadPack_k (N : Nat) (x0 : (Int × Int × Int × Unit)) : Option (Unit × (ByteArray × Bool × Unit)) :=
  obind (impl_headOk ((x0.1, x0.2.1, x0.2.2.1, ()), ())) fun v0 =>
  tb (bnot v0.2.1)
  (some ((), (⟨#[]⟩ : ByteArray), false, ()))
  (obind (impl_putNum ([], x0.1, ())) fun v1 =>
    obind (impl_putNum (v1.2.1, x0.2.1, ())) fun v2 =>
    obind (impl_putNum (v2.2.1, x0.2.2.1, ())) fun v3 =>
    obind (strings_Repeat ((⟨#[0]⟩ : ByteArray), (wr .i64 (64 - (((llen v3.2.1) : Nat) : Int))), ())) fun v4 =>
    chk ((plus (slen (strOf v3.2.1)) (slen v4.2.1)) < slim) (some ((), (sapp (strOf v3.2.1) v4.2.1), true, ())) (none))
def impl_HeadPack (x : ((Int × Int × Int × Unit) × Unit)) : Option (Unit × (ByteArray × Bool × Unit)) := impl_HeadPack_k fuel x.1
def impl_HeadPack_s : List (Nat × Con) := [(48, ⟨[.val S37], [.bool], (.pair .bool .unit), impl_headOk⟩), (100, ⟨[.own (.row true (.int .u8)), .val (.int .i64)], [(.row true (.int .u8))], (.pair (.row true (.int .u8)) .unit), impl_putNum⟩), (101, ⟨[.val .str, .val (.int .i64)], [.str], (.pair .str .unit), strings_Repeat⟩)]
def impl_HeadPack_E : Env := ⟨fun j => (look tyTab j).getD .unit, fun j => look impl_HeadPack_s j⟩
theorem impl_HeadPack_f_eq (N : Nat) (x0 : (Int × Int × Int × Unit)) : funK impl_HeadPack_E Tryz.f89 [.val S37] [.str, .bool] (.pair .str (.pair .bool .unit)) (fun i => look [] i) N (x0, ()) = impl_HeadPack_k N x0 := by kernel_rfl
theorem impl_HeadPack_o : Known Tryz.prog 89 ⟨[.val S37], [.str, .bool], (.pair .str (.pair .bool .unit)), impl_HeadPack⟩ := known_of (tab := tyTab) (cons := impl_HeadPack_s) (segs := []) (n := fuel) mixed_ok tab_ok (.cons impl_headOk_o (.cons impl_putNum_o (.cons strings_Repeat_o .nil))) Tryz.func89 (by kernel_rfl) trivial (fun x => impl_HeadPack_f_eq fuel x.1)
def impl_HeadRead_k (N : Nat) (x0 : ByteArray) : Option (Unit × ((Int × Int × Int × Unit) × Bool × Unit)) :=
  obind (impl_getter_num (((bytesOf x0), 0, false, ()), ())) fun v0 =>
  obind (impl_getter_num ((v0.1.1.1, v0.1.1.2.1, v0.1.1.2.2.1, ()), ())) fun v1 =>
  obind (impl_getter_num ((v1.1.1.1, v1.1.1.2.1, v1.1.1.2.2.1, ()), ())) fun v2 =>
  obind (impl_HeadPack ((v0.2.1, v1.2.1, v2.2.1, ()), ())) fun v3 =>
  tb v2.1.1.2.2.1
  (some ((), (0, 0, 0, ()), false, ()))
  (tb (bnot v3.2.2.1)
    (some ((), (0, 0, 0, ()), false, ()))
    (tb (bnot (seq v3.2.1 x0))
      (some ((), (0, 0, 0, ()), false, ()))
      (some ((), (v0.2.1, v1.2.1, v2.2.1, ()), true, ()))))
def impl_HeadRead (x : (ByteArray × Unit)) : Option (Unit × ((Int × Int × Int × Unit) × Bool × Unit)) := impl_HeadRead_k fuel x.1
def impl_HeadRead_s : List (Nat × Con) := [(88, ⟨[.io S116], [(.int .i64)], (.pair (.int .i64) .unit), impl_getter_num⟩), (89, ⟨[.val S37], [.str, .bool], (.pair .str (.pair .bool .unit)), impl_HeadPack⟩)]
def impl_HeadRead_E : Env := ⟨fun j => (look tyTab j).getD .unit, fun j => look impl_HeadRead_s j⟩
theorem impl_HeadRead_f_eq (N : Nat) (x0 : ByteArray) : funK impl_HeadRead_E Tryz.f72 [.val .str] [T37, .bool] (.pair T37 (.pair .bool .unit)) (fun i => look [] i) N (x0, ()) = impl_HeadRead_k N x0 := by kernel_rfl
theorem impl_HeadRead_o : Known Tryz.prog 72 ⟨[.val .str], [T37, .bool], (.pair T37 (.pair .bool .unit)), impl_HeadRead⟩ := known_of (tab := tyTab) (cons := impl_HeadRead_s) (segs := []) (n := fuel) mixed_ok tab_ok (.cons impl_getter_num_o (.cons impl_HeadPack_o .nil)) Tryz.func72 (by kernel_rfl) trivial (fun x => impl_HeadRead_f_eq fuel x.1)
def impl_Disk_sector_P0 : Tpl := ⟨[(0, .one (.leaf (.pair (.row true .str) (.pair (.row true (.pair (.int .i64) (.pair .str .unit))) .unit)))), (1, .one (.leaf (.int .i64))), (5, .one (.leaf (.int .i64)))], [], []⟩
def impl_Disk_sector_O0 : Tpl := ⟨[(0, .one (.leaf (.pair (.row true .str) (.pair (.row true (.pair (.int .i64) (.pair .str .unit))) .unit)))), (1, .one (.leaf (.int .i64)))], [], []⟩
def impl_Disk_sector_k0 (N : Nat) : Nat → (((((List ByteArray) × ((List (Int × (ByteArray × Unit))) × Unit)) × Int × Unit) × (Unit × Unit)) → Option (Unit × (ByteArray × Unit))) → ((((List ByteArray) × ((List (Int × (ByteArray × Unit))) × Unit)) × Int × Int × Unit) × (Unit × Unit)) → Option (Unit × (ByteArray × Unit))
  | 0, _, _ => none
  | n + 1, k, x =>
    tb (ile 0 x.1.2.2.1)
    (chk (0 ≤ x.1.2.2.1) (obind (at? x.1.1.2.1 (Int.toNat x.1.2.2.1)) fun v0 =>
        tb (ieq v0.1 x.1.2.1)
        (chk (0 ≤ x.1.2.2.1) (obind (at? x.1.1.2.1 (Int.toNat x.1.2.2.1)) fun v1 =>
            some ((), v1.2.1, ())) (none))
        (impl_Disk_sector_k0 N n k ((x.1.1, x.1.2.1, (wr .i64 (x.1.2.2.1 - 1)), ()), (), ()))) (none))
    (k ((x.1.1, x.1.2.1, ()), (), ()))
def impl_Disk_sector_k (N : Nat) (x0 : ((List ByteArray) × (List (Int × ByteArray × Unit)) × Unit)) (x1 : Int) : Option (Unit × (ByteArray × Unit)) :=
  impl_Disk_sector_k0 N N (fun v0 =>
    chk (0 ≤ v0.1.2.1) (obind (at? v0.1.1.1 (Int.toNat v0.1.2.1)) fun v1 =>
      some ((), v1, ())) (none)) ((x0, x1, (wr .i64 ((((llen x0.2.1) : Nat) : Int) - 1)), ()), (), ())
def impl_Disk_sector (x : (((List ByteArray) × (List (Int × ByteArray × Unit)) × Unit) × Int × Unit)) : Option (Unit × (ByteArray × Unit)) := impl_Disk_sector_k fuel x.1 x.2.1
def impl_Disk_sector_s : List (Nat × Con) := []
def impl_Disk_sector_E : Env := ⟨fun j => (look tyTab j).getD .unit, fun j => look impl_Disk_sector_s j⟩
theorem impl_Disk_sector_r0 (N n : Nat) (k : impl_Disk_sector_O0.ty.den → Option (Unit × (ByteArray × Unit))) (x : impl_Disk_sector_P0.ty.den) : roundK impl_Disk_sector_E ⟨Tryz.f73.ntmps, N, (fun i => look [(0, ⟨impl_Disk_sector_P0, impl_Disk_sector_O0, [], [], impl_Disk_sector_k0 N⟩)] i), retK impl_Disk_sector_E Tryz.f73 [.rptr T36, .val (.int .i64)] [.str] (.pair .str .unit)⟩ (Tryz.f73.body.getD .skip) 0 ⟨impl_Disk_sector_P0, impl_Disk_sector_O0, [], [], impl_Disk_sector_k0 N⟩ (impl_Disk_sector_k0 N n k) k x = impl_Disk_sector_k0 N (n + 1) k x := by kernel_rfl
theorem impl_Disk_sector_f_eq (N : Nat) (x0 : ((List ByteArray) × (List (Int × ByteArray × Unit)) × Unit)) (x1 : Int) : funK impl_Disk_sector_E Tryz.f73 [.rptr T36, .val (.int .i64)] [.str] (.pair .str .unit) (fun i => look [(0, ⟨impl_Disk_sector_P0, impl_Disk_sector_O0, [], [], impl_Disk_sector_k0 N⟩)] i) N (x0, x1, ()) = impl_Disk_sector_k N x0 x1 := by kernel_rfl
theorem impl_Disk_sector_o : Known Tryz.prog 73 ⟨[.rptr T36, .val (.int .i64)], [.str], (.pair .str .unit), impl_Disk_sector⟩ := known_of (tab := tyTab) (cons := impl_Disk_sector_s) (segs := [(0, ⟨impl_Disk_sector_P0, impl_Disk_sector_O0, [], [], impl_Disk_sector_k0 fuel⟩)]) (n := fuel) mixed_ok tab_ok .nil Tryz.func73 (by kernel_rfl) ⟨⟨fun _ _ => rfl, fun n k x => impl_Disk_sector_r0 fuel n k x⟩, trivial⟩ (fun x => impl_Disk_sector_f_eq fuel x.1 x.2.1)
def impl_HeadNow_P0 : Tpl := ⟨[(1, .one (.fix (.vptr 1 0))), (2, .one (.fix (.vptr 2 0))), (3, .one (.fix (.vptr 3 0))), (11, .one (.leaf (.int .i64)))], [(1, [.leaf (.row false .str), .leaf (.row false (.pair (.int .i64) (.pair .str .unit)))]), (2, [.leaf (.int .i64), .leaf (.int .i64), .leaf (.int .i64)]), (3, [.leaf (.int .i64), .leaf (.int .i64), .leaf (.int .i64)])], []⟩
def impl_HeadNow_O0 : Tpl := ⟨[(2, .one (.fix (.vptr 2 0))), (3, .one (.fix (.vptr 3 0)))], [(2, [.leaf (.int .i64), .leaf (.int .i64), .leaf (.int .i64)]), (3, [.leaf (.int .i64), .leaf (.int .i64), .leaf (.int .i64)])], []⟩
def impl_HeadNow_k0 (N : Nat) : Nat → ((Unit × (((Int × Int × Int × Unit) × (Int × Int × Int × Unit) × Unit) × Unit)) → Option (Unit × ((Int × Int × Int × Unit) × Unit))) → ((Int × Unit) × ((((List ByteArray) × (List (Int × (ByteArray × Unit))) × Unit) × (Int × Int × Int × Unit) × (Int × Int × Int × Unit) × Unit) × Unit)) → Option (Unit × ((Int × Int × Int × Unit) × Unit))
  | 0, _, _ => none
  | n + 1, k, x =>
    tb (ilt x.1.1 2)
    (obind (impl_Disk_sector ((x.2.1.1.1, x.2.1.1.2.1, ()), x.1.1, ())) fun v0 =>
      obind (impl_HeadRead (v0.2.1, ())) fun v1 =>
      tb v1.2.2.1
      (tb (ilt x.2.1.2.2.1.1 v1.2.1.1)
        (impl_HeadNow_k0 N n k (((wr .i64 (x.1.1 + 1)), ()), ((x.2.1.1.1, x.2.1.1.2.1, ()), (x.2.1.2.1.1, x.2.1.2.1.2.1, x.2.1.2.1.2.2.1, ()), (v1.2.1.1, v1.2.1.2.1, v1.2.1.2.2.1, ()), ()), ()))
        (impl_HeadNow_k0 N n k (((wr .i64 (x.1.1 + 1)), ()), ((x.2.1.1.1, x.2.1.1.2.1, ()), (x.2.1.2.1.1, x.2.1.2.1.2.1, x.2.1.2.1.2.2.1, ()), (x.2.1.2.2.1.1, x.2.1.2.2.1.2.1, x.2.1.2.2.1.2.2.1, ()), ()), ())))
      (impl_HeadNow_k0 N n k (((wr .i64 (x.1.1 + 1)), ()), ((x.2.1.1.1, x.2.1.1.2.1, ()), (x.2.1.2.1.1, x.2.1.2.1.2.1, x.2.1.2.1.2.2.1, ()), (x.2.1.2.2.1.1, x.2.1.2.2.1.2.1, x.2.1.2.2.1.2.2.1, ()), ()), ())))
    (k ((), ((x.2.1.2.1.1, x.2.1.2.1.2.1, x.2.1.2.1.2.2.1, ()), (x.2.1.2.2.1.1, x.2.1.2.2.1.2.1, x.2.1.2.2.1.2.2.1, ()), ()), ()))
def impl_HeadNow_k (N : Nat) (x0 : ((List ByteArray) × (List (Int × ByteArray × Unit)) × Unit)) : Option (Unit × ((Int × Int × Int × Unit) × Unit)) :=
  obind (impl_DiskOk ((x0.1, x0.2.1, ()), ())) fun v0 =>
  tb (bnot v0.2.1)
  (some ((), (0, 0, 0, ()), ()))
  (impl_HeadNow_k0 N N (fun v1 =>
      some ((), (v1.2.1.2.1.1, v1.2.1.2.1.2.1, v1.2.1.2.1.2.2.1, ()), ())) ((0, ()), ((x0.1, x0.2.1, ()), (0, 0, 0, ()), (0, 0, 0, ()), ()), ()))
def impl_HeadNow (x : (((List ByteArray) × (List (Int × ByteArray × Unit)) × Unit) × Unit)) : Option (Unit × ((Int × Int × Int × Unit) × Unit)) := impl_HeadNow_k fuel x.1
def impl_HeadNow_s : List (Nat × Con) := [(69, ⟨[.val S36], [.bool], (.pair .bool .unit), impl_DiskOk⟩), (72, ⟨[.val .str], [T37, .bool], (.pair T37 (.pair .bool .unit)), impl_HeadRead⟩), (73, ⟨[.rptr T36, .val (.int .i64)], [.str], (.pair .str .unit), impl_Disk_sector⟩)]
def impl_HeadNow_E : Env := ⟨fun j => (look tyTab j).getD .unit, fun j => look impl_HeadNow_s j⟩
theorem impl_HeadNow_r0 (N n : Nat) (k : impl_HeadNow_O0.ty.den → Option (Unit × ((Int × Int × Int × Unit) × Unit))) (x : impl_HeadNow_P0.ty.den) : roundK impl_HeadNow_E ⟨Tryz.f46.ntmps, N, (fun i => look [(0, ⟨impl_HeadNow_P0, impl_HeadNow_O0, [], [], impl_HeadNow_k0 N⟩)] i), retK impl_HeadNow_E Tryz.f46 [.val S36] [T37] (.pair T37 .unit)⟩ (Tryz.f46.body.getD .skip) 0 ⟨impl_HeadNow_P0, impl_HeadNow_O0, [], [], impl_HeadNow_k0 N⟩ (impl_HeadNow_k0 N n k) k x = impl_HeadNow_k0 N (n + 1) k x := by kernel_rfl
theorem impl_HeadNow_f_eq (N : Nat) (x0 : ((List ByteArray) × (List (Int × ByteArray × Unit)) × Unit)) : funK impl_HeadNow_E Tryz.f46 [.val S36] [T37] (.pair T37 .unit) (fun i => look [(0, ⟨impl_HeadNow_P0, impl_HeadNow_O0, [], [], impl_HeadNow_k0 N⟩)] i) N (x0, ()) = impl_HeadNow_k N x0 := by kernel_rfl
theorem impl_HeadNow_o : Known Tryz.prog 46 ⟨[.val S36], [T37], (.pair T37 .unit), impl_HeadNow⟩ := known_of (tab := tyTab) (cons := impl_HeadNow_s) (segs := [(0, ⟨impl_HeadNow_P0, impl_HeadNow_O0, [], [], impl_HeadNow_k0 fuel⟩)]) (n := fuel) mixed_ok tab_ok (.cons impl_DiskOk_o (.cons impl_HeadRead_o (.cons impl_Disk_sector_o .nil))) Tryz.func46 (by kernel_rfl) ⟨⟨fun _ _ => rfl, fun n k x => impl_HeadNow_r0 fuel n k x⟩, trivial⟩ (fun x => impl_HeadNow_f_eq fuel x.1)
def impl_fitsArea_k (N : Nat) (x0 : Int) (x1 : Int) (x2 : Int) : Option (Unit × (Bool × Unit)) :=
  obind (impl_isArea (x0, ())) fun v0 =>
  tb v0.2.1
  (obind (impl_inRange (x1, 0, 4096, ())) fun v1 =>
    tb v1.2.1
    (obind (impl_inRange (x2, 0, (wr .i64 (4096 - x1)), ())) fun v2 =>
      some ((), v2.2.1, ()))
    (some ((), false, ())))
  (some ((), false, ()))
def impl_fitsArea (x : (Int × Int × Int × Unit)) : Option (Unit × (Bool × Unit)) := impl_fitsArea_k fuel x.1 x.2.1 x.2.2.1
def impl_fitsArea_s : List (Nat × Con) := [(77, ⟨[.val (.int .i64), .val (.int .i64), .val (.int .i64)], [.bool], (.pair .bool .unit), impl_inRange⟩), (78, ⟨[.val (.int .i64)], [.bool], (.pair .bool .unit), impl_isArea⟩)]
def impl_fitsArea_E : Env := ⟨fun j => (look tyTab j).getD .unit, fun j => look impl_fitsArea_s j⟩
theorem impl_fitsArea_f_eq (N : Nat) (x0 : Int) (x1 : Int) (x2 : Int) : funK impl_fitsArea_E Tryz.f90 [.val (.int .i64), .val (.int .i64), .val (.int .i64)] [.bool] (.pair .bool .unit) (fun i => look [] i) N (x0, x1, x2, ()) = impl_fitsArea_k N x0 x1 x2 := by kernel_rfl
theorem impl_fitsArea_o : Known Tryz.prog 90 ⟨[.val (.int .i64), .val (.int .i64), .val (.int .i64)], [.bool], (.pair .bool .unit), impl_fitsArea⟩ := known_of (tab := tyTab) (cons := impl_fitsArea_s) (segs := []) (n := fuel) mixed_ok tab_ok (.cons impl_inRange_o (.cons impl_isArea_o .nil)) Tryz.func90 (by kernel_rfl) trivial (fun x => impl_fitsArea_f_eq fuel x.1 x.2.1 x.2.2.1)
def impl_first_k (N : Nat) (x0 : Int) : Option (Unit × (Int × Unit)) :=
  some ((), (wr .i64 (2 + (wr .i64 (64 * x0)))), ())
def impl_first (x : (Int × Unit)) : Option (Unit × (Int × Unit)) := impl_first_k fuel x.1
def impl_first_s : List (Nat × Con) := []
def impl_first_E : Env := ⟨fun j => (look tyTab j).getD .unit, fun j => look impl_first_s j⟩
theorem impl_first_f_eq (N : Nat) (x0 : Int) : funK impl_first_E Tryz.f102 [.val (.int .i64)] [(.int .i64)] (.pair (.int .i64) .unit) (fun i => look [] i) N (x0, ()) = impl_first_k N x0 := by kernel_rfl
theorem impl_first_o : Known Tryz.prog 102 ⟨[.val (.int .i64)], [(.int .i64)], (.pair (.int .i64) .unit), impl_first⟩ := known_of (tab := tyTab) (cons := impl_first_s) (segs := []) (n := fuel) mixed_ok tab_ok .nil Tryz.func102 (by kernel_rfl) trivial (fun x => impl_first_f_eq fuel x.1)
def impl_Disk_area_P0 : Tpl := ⟨[(0, .one (.leaf (.pair (.row true .str) (.pair (.row true (.pair (.int .i64) (.pair .str .unit))) .unit)))), (1, .one (.leaf (.int .i64))), (2, .one (.leaf (.int .i64))), (3, .one (.leaf (.int .i64))), (9, .one (.fix (.ref 10000 [] none)))], [], [(10000, (.int .u8))]⟩
def impl_Disk_area_O0 : Tpl := ⟨[(9, .one (.fix (.ref 10500 [] none)))], [], [(10500, (.int .u8))]⟩
def impl_Disk_area_k0 (N : Nat) : Nat → ((Unit × (Unit × ((List Int) × Unit))) → Option (Unit × ((List Int) × Unit))) → ((((List ByteArray) × ((List (Int × (ByteArray × Unit))) × Unit)) × Int × Int × Int × Unit) × (Unit × ((List Int) × Unit))) → Option (Unit × ((List Int) × Unit))
  | 0, _, _ => none
  | n + 1, k, x =>
    tb (ilt 0 x.1.2.2.2.1)
    (chk ((64 : Int) = 0) (none) (obind (impl_first (x.1.2.1, ())) fun v0 =>
        chk ((64 : Int) = 0) (none) (obind (impl_Disk_sector (x.1.1, (wr .i64 (v0.2.1 + (wr .i64 (Int.tdiv x.1.2.2.1 64)))), ())) fun v1 =>
          chk ((0 ≤ (Int.tmod x.1.2.2.1 64)) ∧ (((Int.tmod x.1.2.2.1 64) ≤ (wr .i64 ((Int.tmod x.1.2.2.1 64) + (mn x.1.2.2.2.1 (wr .i64 (64 - (Int.tmod x.1.2.2.1 64))))))) ∧ ((wr .i64 ((Int.tmod x.1.2.2.1 64) + (mn x.1.2.2.2.1 (wr .i64 (64 - (Int.tmod x.1.2.2.1 64)))))) ≤ (((slen v1.2.1) : Nat) : Int)))) (chk ((plus (llen x.2.2.1) (llen (bytesOf (scut v1.2.1 (Int.toNat (Int.tmod x.1.2.2.1 64)) (Int.toNat (wr .i64 ((Int.tmod x.1.2.2.1 64) + (mn x.1.2.2.2.1 (wr .i64 (64 - (Int.tmod x.1.2.2.1 64))))))))))) ≤ 140737488355328) (impl_Disk_area_k0 N n k ((x.1.1, x.1.2.1, (wr .i64 (x.1.2.2.1 + (mn x.1.2.2.2.1 (wr .i64 (64 - (Int.tmod x.1.2.2.1 64)))))), (wr .i64 (x.1.2.2.2.1 - (mn x.1.2.2.2.1 (wr .i64 (64 - (Int.tmod x.1.2.2.1 64)))))), ()), (), (lapp x.2.2.1 (bytesOf (scut v1.2.1 (Int.toNat (Int.tmod x.1.2.2.1 64)) (Int.toNat (wr .i64 ((Int.tmod x.1.2.2.1 64) + (mn x.1.2.2.2.1 (wr .i64 (64 - (Int.tmod x.1.2.2.1 64)))))))))), ())) (none)) (none))))
    (k ((), (), x.2.2.1, ()))
def impl_Disk_area_k (N : Nat) (x0 : ((List ByteArray) × (List (Int × ByteArray × Unit)) × Unit)) (x1 : Int) (x2 : Int) (x3 : Int) : Option (Unit × ((List Int) × Unit)) :=
  impl_Disk_area_k0 N N (fun v0 =>
    some ((), v0.2.2.1, ())) ((x0, x1, x2, x3, ()), (), [], ())
def impl_Disk_area (x : (((List ByteArray) × (List (Int × ByteArray × Unit)) × Unit) × Int × Int × Int × Unit)) : Option (Unit × ((List Int) × Unit)) := impl_Disk_area_k fuel x.1 x.2.1 x.2.2.1 x.2.2.2.1
def impl_Disk_area_s : List (Nat × Con) := [(73, ⟨[.rptr T36, .val (.int .i64)], [.str], (.pair .str .unit), impl_Disk_sector⟩), (102, ⟨[.val (.int .i64)], [(.int .i64)], (.pair (.int .i64) .unit), impl_first⟩)]
def impl_Disk_area_E : Env := ⟨fun j => (look tyTab j).getD .unit, fun j => look impl_Disk_area_s j⟩
theorem impl_Disk_area_r0 (N n : Nat) (k : impl_Disk_area_O0.ty.den → Option (Unit × ((List Int) × Unit))) (x : impl_Disk_area_P0.ty.den) : roundK impl_Disk_area_E ⟨Tryz.f91.ntmps, N, (fun i => look [(0, ⟨impl_Disk_area_P0, impl_Disk_area_O0, [.tmp 9 10000 (.int .u8)], [.tmp 9 10500 (.int .u8)], impl_Disk_area_k0 N⟩)] i), retK impl_Disk_area_E Tryz.f91 [.rptr T36, .val (.int .i64), .val (.int .i64), .val (.int .i64)] [(.row true (.int .u8))] (.pair (.row true (.int .u8)) .unit)⟩ (Tryz.f91.body.getD .skip) 0 ⟨impl_Disk_area_P0, impl_Disk_area_O0, [.tmp 9 10000 (.int .u8)], [.tmp 9 10500 (.int .u8)], impl_Disk_area_k0 N⟩ (impl_Disk_area_k0 N n k) k x = impl_Disk_area_k0 N (n + 1) k x := by kernel_rfl
theorem impl_Disk_area_f_eq (N : Nat) (x0 : ((List ByteArray) × (List (Int × ByteArray × Unit)) × Unit)) (x1 : Int) (x2 : Int) (x3 : Int) : funK impl_Disk_area_E Tryz.f91 [.rptr T36, .val (.int .i64), .val (.int .i64), .val (.int .i64)] [(.row true (.int .u8))] (.pair (.row true (.int .u8)) .unit) (fun i => look [(0, ⟨impl_Disk_area_P0, impl_Disk_area_O0, [.tmp 9 10000 (.int .u8)], [.tmp 9 10500 (.int .u8)], impl_Disk_area_k0 N⟩)] i) N (x0, x1, x2, x3, ()) = impl_Disk_area_k N x0 x1 x2 x3 := by kernel_rfl
theorem impl_Disk_area_o : Known Tryz.prog 91 ⟨[.rptr T36, .val (.int .i64), .val (.int .i64), .val (.int .i64)], [(.row true (.int .u8))], (.pair (.row true (.int .u8)) .unit), impl_Disk_area⟩ := known_of (tab := tyTab) (cons := impl_Disk_area_s) (segs := [(0, ⟨impl_Disk_area_P0, impl_Disk_area_O0, [.tmp 9 10000 (.int .u8)], [.tmp 9 10500 (.int .u8)], impl_Disk_area_k0 fuel⟩)]) (n := fuel) mixed_ok tab_ok (.cons impl_Disk_sector_o (.cons impl_first_o .nil)) Tryz.func91 (by kernel_rfl) ⟨⟨fun _ _ => rfl, fun n k x => impl_Disk_area_r0 fuel n k x⟩, trivial⟩ (fun x => impl_Disk_area_f_eq fuel x.1 x.2.1 x.2.2.1 x.2.2.2.1)
def impl_AreaGet_k (N : Nat) (x0 : ((List ByteArray) × (List (Int × ByteArray × Unit)) × Unit)) (x1 : Int) (x2 : Int) (x3 : Int) : Option (Unit × ((List Int) × Bool × Unit)) :=
  obind (impl_fitsArea (x1, x2, x3, ())) fun v0 =>
  tb (bnot v0.2.1)
  (some ((), [], false, ()))
  (obind (impl_DiskOk ((x0.1, x0.2.1, ()), ())) fun v1 =>
    tb (bnot v1.2.1)
    (some ((), [], false, ()))
    (obind (impl_Disk_area ((x0.1, x0.2.1, ()), x1, x2, x3, ())) fun v2 =>
      some ((), v2.2.1, true, ())))
def impl_AreaGet (x : (((List ByteArray) × (List (Int × ByteArray × Unit)) × Unit) × Int × Int × Int × Unit)) : Option (Unit × ((List Int) × Bool × Unit)) := impl_AreaGet_k fuel x.1 x.2.1 x.2.2.1 x.2.2.2.1
def impl_AreaGet_s : List (Nat × Con) := [(69, ⟨[.val S36], [.bool], (.pair .bool .unit), impl_DiskOk⟩), (90, ⟨[.val (.int .i64), .val (.int .i64), .val (.int .i64)], [.bool], (.pair .bool .unit), impl_fitsArea⟩), (91, ⟨[.rptr T36, .val (.int .i64), .val (.int .i64), .val (.int .i64)], [(.row true (.int .u8))], (.pair (.row true (.int .u8)) .unit), impl_Disk_area⟩)]
def impl_AreaGet_E : Env := ⟨fun j => (look tyTab j).getD .unit, fun j => look impl_AreaGet_s j⟩
theorem impl_AreaGet_f_eq (N : Nat) (x0 : ((List ByteArray) × (List (Int × ByteArray × Unit)) × Unit)) (x1 : Int) (x2 : Int) (x3 : Int) : funK impl_AreaGet_E Tryz.f74 [.val S36, .val (.int .i64), .val (.int .i64), .val (.int .i64)] [(.row true (.int .u8)), .bool] (.pair (.row true (.int .u8)) (.pair .bool .unit)) (fun i => look [] i) N (x0, x1, x2, x3, ()) = impl_AreaGet_k N x0 x1 x2 x3 := by kernel_rfl
theorem impl_AreaGet_o : Known Tryz.prog 74 ⟨[.val S36, .val (.int .i64), .val (.int .i64), .val (.int .i64)], [(.row true (.int .u8)), .bool], (.pair (.row true (.int .u8)) (.pair .bool .unit)), impl_AreaGet⟩ := known_of (tab := tyTab) (cons := impl_AreaGet_s) (segs := []) (n := fuel) mixed_ok tab_ok (.cons impl_DiskOk_o (.cons impl_fitsArea_o (.cons impl_Disk_area_o .nil))) Tryz.func74 (by kernel_rfl) trivial (fun x => impl_AreaGet_f_eq fuel x.1 x.2.1 x.2.2.1 x.2.2.2.1)
def impl_GetText_k (N : Nat) (x0 : (List Int)) (x1 : Int) : Option (Unit × (ByteArray × Int × Bool × Unit)) :=
  obind (impl_GetNum (x0, x1, ())) fun v0 =>
  tb (bnot v0.2.2.2.1)
  (some ((), (⟨#[]⟩ : ByteArray), 0, false, ()))
  (tb (ilt (wr .i64 ((((llen x0) : Nat) : Int) - v0.2.2.1)) v0.2.1)
    (some ((), (⟨#[]⟩ : ByteArray), 0, false, ()))
    (chk ((0 ≤ v0.2.2.1) ∧ ((v0.2.2.1 ≤ (wr .i64 (v0.2.2.1 + v0.2.1))) ∧ ((wr .i64 (v0.2.2.1 + v0.2.1)) ≤ (((llen x0) : Nat) : Int)))) (some ((), (strOf (lcut x0 (Int.toNat v0.2.2.1) (Int.toNat (wr .i64 (v0.2.2.1 + v0.2.1))))), (wr .i64 (v0.2.2.1 + v0.2.1)), true, ())) (none)))
def impl_GetText (x : ((List Int) × Int × Unit)) : Option (Unit × (ByteArray × Int × Bool × Unit)) := impl_GetText_k fuel x.1 x.2.1
def impl_GetText_s : List (Nat × Con) := [(99, ⟨[.val (.row false (.int .u8)), .val (.int .i64)], [(.int .i64), (.int .i64), .bool], (.pair (.int .i64) (.pair (.int .i64) (.pair .bool .unit))), impl_GetNum⟩)]
def impl_GetText_E : Env := ⟨fun j => (look tyTab j).getD .unit, fun j => look impl_GetText_s j⟩
theorem impl_GetText_f_eq (N : Nat) (x0 : (List Int)) (x1 : Int) : funK impl_GetText_E Tryz.f113 [.val (.row false (.int .u8)), .val (.int .i64)] [.str, (.int .i64), .bool] (.pair .str (.pair (.int .i64) (.pair .bool .unit))) (fun i => look [] i) N (x0, x1, ()) = impl_GetText_k N x0 x1 := by kernel_rfl
theorem impl_GetText_o : Known Tryz.prog 113 ⟨[.val (.row false (.int .u8)), .val (.int .i64)], [.str, (.int .i64), .bool], (.pair .str (.pair (.int .i64) (.pair .bool .unit))), impl_GetText⟩ := known_of (tab := tyTab) (cons := impl_GetText_s) (segs := []) (n := fuel) mixed_ok tab_ok (.cons impl_GetNum_o .nil) Tryz.func113 (by kernel_rfl) trivial (fun x => impl_GetText_f_eq fuel x.1 x.2.1)
def impl_getter_text_k (N : Nat) (x0 : ((List Int) × Int × Bool × Unit)) : Option ((((List Int) × Int × Bool × Unit) × Unit) × (ByteArray × Unit)) :=
  obind (impl_GetText (x0.1, x0.2.1, ())) fun v0 =>
  tb x0.2.2.1
  (some (((x0.1, x0.2.1, true, ()), ()), (⟨#[]⟩ : ByteArray), ()))
  (tb (bnot v0.2.2.2.1)
    (some (((x0.1, x0.2.1, true, ()), ()), (⟨#[]⟩ : ByteArray), ()))
    (some (((x0.1, v0.2.2.1, x0.2.2.1, ()), ()), v0.2.1, ())))
def impl_getter_text (x : (((List Int) × Int × Bool × Unit) × Unit)) : Option ((((List Int) × Int × Bool × Unit) × Unit) × (ByteArray × Unit)) := impl_getter_text_k fuel x.1
def impl_getter_text_s : List (Nat × Con) := [(113, ⟨[.val (.row false (.int .u8)), .val (.int .i64)], [.str, (.int .i64), .bool], (.pair .str (.pair (.int .i64) (.pair .bool .unit))), impl_GetText⟩)]
def impl_getter_text_E : Env := ⟨fun j => (look tyTab j).getD .unit, fun j => look impl_getter_text_s j⟩
theorem impl_getter_text_f_eq (N : Nat) (x0 : ((List Int) × Int × Bool × Unit)) : funK impl_getter_text_E Tryz.f103 [.io S116] [.str] (.pair .str .unit) (fun i => look [] i) N (x0, ()) = impl_getter_text_k N x0 := by kernel_rfl
theorem impl_getter_text_o : Known Tryz.prog 103 ⟨[.io S116], [.str], (.pair .str .unit), impl_getter_text⟩ := known_of (tab := tyTab) (cons := impl_getter_text_s) (segs := []) (n := fuel) mixed_ok tab_ok (.cons impl_GetText_o .nil) Tryz.func103 (by kernel_rfl) trivial (fun x => impl_getter_text_f_eq fuel x.1)
def impl_UrlOk_P0 : Tpl := ⟨[(0, .one (.leaf .str)), (3, .one (.leaf (.int .i64)))], [], []⟩
def impl_UrlOk_O0 : Tpl := ⟨[(0, .one (.leaf .str))], [], []⟩
def impl_UrlOk_k0 (N : Nat) : Nat → (((ByteArray × Unit) × (Unit × Unit)) → Option (Unit × (Bool × Unit))) → ((ByteArray × Int × Unit) × (Unit × Unit)) → Option (Unit × (Bool × Unit))
  | 0, _, _ => none
  | n + 1, k, x =>
    tb (ilt x.1.2.1 (((slen x.1.1) : Nat) : Int))
    (chk ((0 ≤ x.1.2.1) ∧ (x.1.2.1 < (((slen x.1.1) : Nat) : Int))) (tb (ilt (bt x.1.1 x.1.2.1) 33)
        (some ((), false, ()))
        (chk ((0 ≤ x.1.2.1) ∧ (x.1.2.1 < (((slen x.1.1) : Nat) : Int))) (tb (ilt 126 (bt x.1.1 x.1.2.1))
            (some ((), false, ()))
            (impl_UrlOk_k0 N n k ((x.1.1, (wr .i64 (x.1.2.1 + 1)), ()), (), ()))) (none))) (none))
    (k ((x.1.1, ()), (), ()))
def impl_UrlOk_k (N : Nat) (x0 : ByteArray) : Option (Unit × (Bool × Unit)) :=
  impl_UrlOk_k0 N N (fun v0 =>
    obind (impl_inRange ((((slen v0.1.1) : Nat) : Int), 1, 60, ())) fun v1 =>
    some ((), v1.2.1, ())) ((x0, 0, ()), (), ())
def impl_UrlOk (x : (ByteArray × Unit)) : Option (Unit × (Bool × Unit)) := impl_UrlOk_k fuel x.1
def impl_UrlOk_s : List (Nat × Con) := [(77, ⟨[.val (.int .i64), .val (.int .i64), .val (.int .i64)], [.bool], (.pair .bool .unit), impl_inRange⟩)]
def impl_UrlOk_E : Env := ⟨fun j => (look tyTab j).getD .unit, fun j => look impl_UrlOk_s j⟩
theorem impl_UrlOk_r0 (N n : Nat) (k : impl_UrlOk_O0.ty.den → Option (Unit × (Bool × Unit))) (x : impl_UrlOk_P0.ty.den) : roundK impl_UrlOk_E ⟨Tryz.f114.ntmps, N, (fun i => look [(0, ⟨impl_UrlOk_P0, impl_UrlOk_O0, [], [], impl_UrlOk_k0 N⟩)] i), retK impl_UrlOk_E Tryz.f114 [.val .str] [.bool] (.pair .bool .unit)⟩ (Tryz.f114.body.getD .skip) 0 ⟨impl_UrlOk_P0, impl_UrlOk_O0, [], [], impl_UrlOk_k0 N⟩ (impl_UrlOk_k0 N n k) k x = impl_UrlOk_k0 N (n + 1) k x := by kernel_rfl
theorem impl_UrlOk_f_eq (N : Nat) (x0 : ByteArray) : funK impl_UrlOk_E Tryz.f114 [.val .str] [.bool] (.pair .bool .unit) (fun i => look [(0, ⟨impl_UrlOk_P0, impl_UrlOk_O0, [], [], impl_UrlOk_k0 N⟩)] i) N (x0, ()) = impl_UrlOk_k N x0 := by kernel_rfl
theorem impl_UrlOk_o : Known Tryz.prog 114 ⟨[.val .str], [.bool], (.pair .bool .unit), impl_UrlOk⟩ := known_of (tab := tyTab) (cons := impl_UrlOk_s) (segs := [(0, ⟨impl_UrlOk_P0, impl_UrlOk_O0, [], [], impl_UrlOk_k0 fuel⟩)]) (n := fuel) mixed_ok tab_ok (.cons impl_inRange_o .nil) Tryz.func114 (by kernel_rfl) ⟨⟨fun _ _ => rfl, fun n k x => impl_UrlOk_r0 fuel n k x⟩, trivial⟩ (fun x => impl_UrlOk_f_eq fuel x.1)
def impl_putText_k (N : Nat) (x0 : (List Int)) (x1 : ByteArray) : Option (Unit × ((List Int) × Unit)) :=
  obind (impl_putNum (x0, (((slen x1) : Nat) : Int), ())) fun v0 =>
  chk ((plus (llen v0.2.1) (llen (bytesOf x1))) ≤ 140737488355328) (some ((), (lapp v0.2.1 (bytesOf x1)), ())) (none)
def impl_putText (x : ((List Int) × ByteArray × Unit)) : Option (Unit × ((List Int) × Unit)) := impl_putText_k fuel x.1 x.2.1
def impl_putText_s : List (Nat × Con) := [(100, ⟨[.own (.row true (.int .u8)), .val (.int .i64)], [(.row true (.int .u8))], (.pair (.row true (.int .u8)) .unit), impl_putNum⟩)]
def impl_putText_E : Env := ⟨fun j => (look tyTab j).getD .unit, fun j => look impl_putText_s j⟩
theorem impl_putText_f_eq (N : Nat) (x0 : (List Int)) (x1 : ByteArray) : funK impl_putText_E Tryz.f115 [.own (.row true (.int .u8)), .val .str] [(.row true (.int .u8))] (.pair (.row true (.int .u8)) .unit) (fun i => look [] i) N (x0, x1, ()) = impl_putText_k N x0 x1 := by kernel_rfl
theorem impl_putText_o : Known Tryz.prog 115 ⟨[.own (.row true (.int .u8)), .val .str], [(.row true (.int .u8))], (.pair (.row true (.int .u8)) .unit), impl_putText⟩ := known_of (tab := tyTab) (cons := impl_putText_s) (segs := []) (n := fuel) mixed_ok tab_ok (.cons impl_putNum_o .nil) Tryz.func115 (by kernel_rfl) trivial (fun x => impl_putText_f_eq fuel x.1 x.2.1)
def impl_RecordPack_k (N : Nat) (x0 : (Int × ByteArray × ByteArray × Unit)) : Option (Unit × ((List Int) × Bool × Unit)) :=
  obind (impl_inRange (x0.1, 1, 2, ())) fun v0 =>
  tb (bnot v0.2.1)
  (some ((), [], false, ()))
  (obind (impl_UrlOk (x0.2.1, ())) fun v1 =>
    tb (bnot v1.2.1)
    (some ((), [], false, ()))
    (tb (ieq x0.1 2)
      (tb (bnot (seq x0.2.2.1 (⟨#[]⟩ : ByteArray)))
        (some ((), [], false, ()))
        (obind (impl_putNum ([], x0.1, ())) fun v2 =>
          obind (impl_putText (v2.2.1, x0.2.1, ())) fun v3 =>
          tb (ieq x0.1 1)
          (obind (impl_putText (v3.2.1, x0.2.2.1, ())) fun v4 =>
            some ((), v4.2.1, true, ()))
          (some ((), v3.2.1, true, ()))))
      (obind (impl_putNum ([], x0.1, ())) fun v5 =>
        obind (impl_putText (v5.2.1, x0.2.1, ())) fun v6 =>
        tb (ieq x0.1 1)
        (obind (impl_putText (v6.2.1, x0.2.2.1, ())) fun v7 =>
          some ((), v7.2.1, true, ()))
        (some ((), v6.2.1, true, ())))))
def impl_RecordPack (x : ((Int × ByteArray × ByteArray × Unit) × Unit)) : Option (Unit × ((List Int) × Bool × Unit)) := impl_RecordPack_k fuel x.1
def impl_RecordPack_s : List (Nat × Con) := [(77, ⟨[.val (.int .i64), .val (.int .i64), .val (.int .i64)], [.bool], (.pair .bool .unit), impl_inRange⟩), (100, ⟨[.own (.row true (.int .u8)), .val (.int .i64)], [(.row true (.int .u8))], (.pair (.row true (.int .u8)) .unit), impl_putNum⟩), (114, ⟨[.val .str], [.bool], (.pair .bool .unit), impl_UrlOk⟩), (115, ⟨[.own (.row true (.int .u8)), .val .str], [(.row true (.int .u8))], (.pair (.row true (.int .u8)) .unit), impl_putText⟩)]
def impl_RecordPack_E : Env := ⟨fun j => (look tyTab j).getD .unit, fun j => look impl_RecordPack_s j⟩
theorem impl_RecordPack_f_eq (N : Nat) (x0 : (Int × ByteArray × ByteArray × Unit)) : funK impl_RecordPack_E Tryz.f104 [.val S96] [(.row true (.int .u8)), .bool] (.pair (.row true (.int .u8)) (.pair .bool .unit)) (fun i => look [] i) N (x0, ()) = impl_RecordPack_k N x0 := by kernel_rfl
theorem impl_RecordPack_o : Known Tryz.prog 104 ⟨[.val S96], [(.row true (.int .u8)), .bool], (.pair (.row true (.int .u8)) (.pair .bool .unit)), impl_RecordPack⟩ := known_of (tab := tyTab) (cons := impl_RecordPack_s) (segs := []) (n := fuel) mixed_ok tab_ok (.cons impl_inRange_o (.cons impl_putNum_o (.cons impl_UrlOk_o (.cons impl_putText_o .nil)))) Tryz.func104 (by kernel_rfl) trivial (fun x => impl_RecordPack_f_eq fuel x.1)
def impl_RecordRead_k (N : Nat) (x0 : (List Int)) (x1 : Int) : Option (Unit × ((Int × ByteArray × ByteArray × Unit) × Int × Bool × Unit)) :=
  obind (impl_getter_num ((x0, x1, false, ()), ())) fun v0 =>
  obind (impl_getter_text ((v0.1.1.1, v0.1.1.2.1, v0.1.1.2.2.1, ()), ())) fun v1 =>
  tb (ieq v0.2.1 1)
  (obind (impl_getter_text ((v1.1.1.1, v1.1.1.2.1, v1.1.1.2.2.1, ()), ())) fun v2 =>
    obind (impl_RecordPack ((v0.2.1, v1.2.1, v2.2.1, ()), ())) fun v3 =>
    tb v2.1.1.2.2.1
    (some ((), (0, (⟨#[]⟩ : ByteArray), (⟨#[]⟩ : ByteArray), ()), 0, false, ()))
    (tb (bnot v3.2.2.1)
      (some ((), (0, (⟨#[]⟩ : ByteArray), (⟨#[]⟩ : ByteArray), ()), 0, false, ()))
      (some ((), (v0.2.1, v1.2.1, v2.2.1, ()), v2.1.1.2.1, true, ()))))
  (obind (impl_RecordPack ((v0.2.1, v1.2.1, (⟨#[]⟩ : ByteArray), ()), ())) fun v4 =>
    tb v1.1.1.2.2.1
    (some ((), (0, (⟨#[]⟩ : ByteArray), (⟨#[]⟩ : ByteArray), ()), 0, false, ()))
    (tb (bnot v4.2.2.1)
      (some ((), (0, (⟨#[]⟩ : ByteArray), (⟨#[]⟩ : ByteArray), ()), 0, false, ()))
      (some ((), (v0.2.1, v1.2.1, (⟨#[]⟩ : ByteArray), ()), v1.1.1.2.1, true, ()))))
def impl_RecordRead (x : ((List Int) × Int × Unit)) : Option (Unit × ((Int × ByteArray × ByteArray × Unit) × Int × Bool × Unit)) := impl_RecordRead_k fuel x.1 x.2.1
def impl_RecordRead_s : List (Nat × Con) := [(88, ⟨[.io S116], [(.int .i64)], (.pair (.int .i64) .unit), impl_getter_num⟩), (103, ⟨[.io S116], [.str], (.pair .str .unit), impl_getter_text⟩), (104, ⟨[.val S96], [(.row true (.int .u8)), .bool], (.pair (.row true (.int .u8)) (.pair .bool .unit)), impl_RecordPack⟩)]
def impl_RecordRead_E : Env := ⟨fun j => (look tyTab j).getD .unit, fun j => look impl_RecordRead_s j⟩
theorem impl_RecordRead_f_eq (N : Nat) (x0 : (List Int)) (x1 : Int) : funK impl_RecordRead_E Tryz.f92 [.val (.row false (.int .u8)), .val (.int .i64)] [T96, (.int .i64), .bool] (.pair T96 (.pair (.int .i64) (.pair .bool .unit))) (fun i => look [] i) N (x0, x1, ()) = impl_RecordRead_k N x0 x1 := by kernel_rfl
theorem impl_RecordRead_o : Known Tryz.prog 92 ⟨[.val (.row false (.int .u8)), .val (.int .i64)], [T96, (.int .i64), .bool], (.pair T96 (.pair (.int .i64) (.pair .bool .unit))), impl_RecordRead⟩ := known_of (tab := tyTab) (cons := impl_RecordRead_s) (segs := []) (n := fuel) mixed_ok tab_ok (.cons impl_getter_num_o (.cons impl_getter_text_o (.cons impl_RecordPack_o .nil))) Tryz.func92 (by kernel_rfl) trivial (fun x => impl_RecordRead_f_eq fuel x.1 x.2.1)
def impl_Records_P0 : Tpl := ⟨[(0, .one (.leaf (.row false (.int .u8)))), (4, .one (.fix (.ref 10000 [] none))), (5, .one (.leaf (.int .i64)))], [], [(10000, (.pair (.int .i64) (.pair .str (.pair .str .unit))))]⟩
def impl_Records_O0 : Tpl := ⟨[(4, .one (.fix (.ref 10500 [] none)))], [], [(10500, (.pair (.int .i64) (.pair .str (.pair .str .unit))))]⟩
def impl_Records_k0 (N : Nat) : Nat → ((Unit × (Unit × ((List (Int × (ByteArray × (ByteArray × Unit)))) × Unit))) → Option (Unit × ((List (Int × ByteArray × ByteArray × Unit)) × Bool × Unit))) → (((List Int) × Int × Unit) × (Unit × ((List (Int × (ByteArray × (ByteArray × Unit)))) × Unit))) → Option (Unit × ((List (Int × ByteArray × ByteArray × Unit)) × Bool × Unit))
  | 0, _, _ => none
  | n + 1, k, x =>
    tb (ilt x.1.2.1 (((llen x.1.1) : Nat) : Int))
    (obind (impl_RecordRead (x.1.1, x.1.2.1, ())) fun v0 =>
      tb (bnot v0.2.2.2.1)
      (some ((), [], false, ()))
      (chk ((plus (llen x.2.2.1) (llen [(v0.2.1.1, v0.2.1.2.1, v0.2.1.2.2.1, ())])) ≤ 3518437208883) (impl_Records_k0 N n k ((x.1.1, v0.2.2.1, ()), (), (lapp x.2.2.1 [(v0.2.1.1, v0.2.1.2.1, v0.2.1.2.2.1, ())]), ())) (none)))
    (k ((), (), x.2.2.1, ()))
def impl_Records_k (N : Nat) (x0 : (List Int)) : Option (Unit × ((List (Int × ByteArray × ByteArray × Unit)) × Bool × Unit)) :=
  impl_Records_k0 N N (fun v0 =>
    some ((), v0.2.2.1, true, ())) ((x0, 0, ()), (), [], ())
def impl_Records (x : ((List Int) × Unit)) : Option (Unit × ((List (Int × ByteArray × ByteArray × Unit)) × Bool × Unit)) := impl_Records_k fuel x.1
def impl_Records_s : List (Nat × Con) := [(92, ⟨[.val (.row false (.int .u8)), .val (.int .i64)], [T96, (.int .i64), .bool], (.pair T96 (.pair (.int .i64) (.pair .bool .unit))), impl_RecordRead⟩)]
def impl_Records_E : Env := ⟨fun j => (look tyTab j).getD .unit, fun j => look impl_Records_s j⟩
theorem impl_Records_r0 (N n : Nat) (k : impl_Records_O0.ty.den → Option (Unit × ((List (Int × ByteArray × ByteArray × Unit)) × Bool × Unit))) (x : impl_Records_P0.ty.den) : roundK impl_Records_E ⟨Tryz.f75.ntmps, N, (fun i => look [(0, ⟨impl_Records_P0, impl_Records_O0, [.tmp 4 10000 (.pair (.int .i64) (.pair .str (.pair .str .unit)))], [.tmp 4 10500 (.pair (.int .i64) (.pair .str (.pair .str .unit)))], impl_Records_k0 N⟩)] i), retK impl_Records_E Tryz.f75 [.val (.row false (.int .u8))] [(.row true T96), .bool] (.pair (.row true T96) (.pair .bool .unit))⟩ (Tryz.f75.body.getD .skip) 0 ⟨impl_Records_P0, impl_Records_O0, [.tmp 4 10000 (.pair (.int .i64) (.pair .str (.pair .str .unit)))], [.tmp 4 10500 (.pair (.int .i64) (.pair .str (.pair .str .unit)))], impl_Records_k0 N⟩ (impl_Records_k0 N n k) k x = impl_Records_k0 N (n + 1) k x := by kernel_rfl
theorem impl_Records_f_eq (N : Nat) (x0 : (List Int)) : funK impl_Records_E Tryz.f75 [.val (.row false (.int .u8))] [(.row true T96), .bool] (.pair (.row true T96) (.pair .bool .unit)) (fun i => look [(0, ⟨impl_Records_P0, impl_Records_O0, [.tmp 4 10000 (.pair (.int .i64) (.pair .str (.pair .str .unit)))], [.tmp 4 10500 (.pair (.int .i64) (.pair .str (.pair .str .unit)))], impl_Records_k0 N⟩)] i) N (x0, ()) = impl_Records_k N x0 := by kernel_rfl
theorem impl_Records_o : Known Tryz.prog 75 ⟨[.val (.row false (.int .u8))], [(.row true T96), .bool], (.pair (.row true T96) (.pair .bool .unit)), impl_Records⟩ := known_of (tab := tyTab) (cons := impl_Records_s) (segs := [(0, ⟨impl_Records_P0, impl_Records_O0, [.tmp 4 10000 (.pair (.int .i64) (.pair .str (.pair .str .unit)))], [.tmp 4 10500 (.pair (.int .i64) (.pair .str (.pair .str .unit)))], impl_Records_k0 fuel⟩)]) (n := fuel) mixed_ok tab_ok (.cons impl_RecordRead_o .nil) Tryz.func75 (by kernel_rfl) ⟨⟨fun _ _ => rfl, fun n k x => impl_Records_r0 fuel n k x⟩, trivial⟩ (fun x => impl_Records_f_eq fuel x.1)
def impl_entryAt_P0 : Tpl := ⟨[(0, .one (.leaf (.row false (.pair .str (.pair .str .unit))))), (1, .one (.leaf .str)), (6, .one (.leaf (.int .i64)))], [], []⟩
def impl_entryAt_O0 : Tpl := ⟨[(0, .one (.leaf (.row false (.pair .str (.pair .str .unit))))), (1, .one (.leaf .str)), (6, .one (.leaf (.int .i64)))], [], []⟩
def impl_entryAt_k0 (N : Nat) : Nat → ((((List (ByteArray × (ByteArray × Unit))) × ByteArray × Int × Unit) × (Unit × Unit)) → Option (Unit × (Int × Bool × Unit))) → (((List (ByteArray × (ByteArray × Unit))) × ByteArray × Int × Unit) × (Unit × Unit)) → Option (Unit × (Int × Bool × Unit))
  | 0, _, _ => none
  | n + 1, k, x =>
    tb (ilt x.1.2.2.1 (((llen x.1.1) : Nat) : Int))
    (chk (0 ≤ x.1.2.2.1) (obind (at? x.1.1 (Int.toNat x.1.2.2.1)) fun v0 =>
        tb (slt v0.1 x.1.2.1)
        (impl_entryAt_k0 N n k ((x.1.1, x.1.2.1, (wr .i64 (x.1.2.2.1 + 1)), ()), (), ()))
        (k ((x.1.1, x.1.2.1, x.1.2.2.1, ()), (), ()))) (none))
    (k ((x.1.1, x.1.2.1, x.1.2.2.1, ()), (), ()))
def impl_entryAt_k (N : Nat) (x0 : (List (ByteArray × ByteArray × Unit))) (x1 : ByteArray) : Option (Unit × (Int × Bool × Unit)) :=
  impl_entryAt_k0 N N (fun v0 =>
    tb (ilt v0.1.2.2.1 (((llen v0.1.1) : Nat) : Int))
    (chk (0 ≤ v0.1.2.2.1) (obind (at? v0.1.1 (Int.toNat v0.1.2.2.1)) fun v1 =>
        some ((), v0.1.2.2.1, (seq v1.1 v0.1.2.1), ())) (none))
    (some ((), v0.1.2.2.1, false, ()))) ((x0, x1, 0, ()), (), ())
def impl_entryAt (x : ((List (ByteArray × ByteArray × Unit)) × ByteArray × Unit)) : Option (Unit × (Int × Bool × Unit)) := impl_entryAt_k fuel x.1 x.2.1
def impl_entryAt_s : List (Nat × Con) := []
def impl_entryAt_E : Env := ⟨fun j => (look tyTab j).getD .unit, fun j => look impl_entryAt_s j⟩
theorem impl_entryAt_r0 (N n : Nat) (k : impl_entryAt_O0.ty.den → Option (Unit × (Int × Bool × Unit))) (x : impl_entryAt_P0.ty.den) : roundK impl_entryAt_E ⟨Tryz.f93.ntmps, N, (fun i => look [(0, ⟨impl_entryAt_P0, impl_entryAt_O0, [], [], impl_entryAt_k0 N⟩)] i), retK impl_entryAt_E Tryz.f93 [.val (.row false S53), .val .str] [(.int .i64), .bool] (.pair (.int .i64) (.pair .bool .unit))⟩ (Tryz.f93.body.getD .skip) 0 ⟨impl_entryAt_P0, impl_entryAt_O0, [], [], impl_entryAt_k0 N⟩ (impl_entryAt_k0 N n k) k x = impl_entryAt_k0 N (n + 1) k x := by kernel_rfl
theorem impl_entryAt_f_eq (N : Nat) (x0 : (List (ByteArray × ByteArray × Unit))) (x1 : ByteArray) : funK impl_entryAt_E Tryz.f93 [.val (.row false S53), .val .str] [(.int .i64), .bool] (.pair (.int .i64) (.pair .bool .unit)) (fun i => look [(0, ⟨impl_entryAt_P0, impl_entryAt_O0, [], [], impl_entryAt_k0 N⟩)] i) N (x0, x1, ()) = impl_entryAt_k N x0 x1 := by kernel_rfl
theorem impl_entryAt_o : Known Tryz.prog 93 ⟨[.val (.row false S53), .val .str], [(.int .i64), .bool], (.pair (.int .i64) (.pair .bool .unit)), impl_entryAt⟩ := known_of (tab := tyTab) (cons := impl_entryAt_s) (segs := [(0, ⟨impl_entryAt_P0, impl_entryAt_O0, [], [], impl_entryAt_k0 fuel⟩)]) (n := fuel) mixed_ok tab_ok .nil Tryz.func93 (by kernel_rfl) ⟨⟨fun _ _ => rfl, fun n k x => impl_entryAt_r0 fuel n k x⟩, trivial⟩ (fun x => impl_entryAt_f_eq fuel x.1 x.2.1)
def impl_IndexOf_P0 : Tpl := ⟨[(3, .one (.fix (.ref 10000 [] none))), (8, .one (.leaf (.row false (.pair (.int .i64) (.pair .str (.pair .str .unit)))))), (9, .one (.leaf (.int .i64))), (10, .one (.leaf (.int .i64)))], [], [(10000, (.pair .str (.pair .str .unit)))]⟩
def impl_IndexOf_O0 : Tpl := ⟨[(3, .one (.fix (.ref 10500 [] none)))], [], [(10500, (.pair .str (.pair .str .unit)))]⟩
def impl_IndexOf_k0 (N : Nat) : Nat → ((Unit × (Unit × ((List (ByteArray × (ByteArray × Unit))) × Unit))) → Option (Unit × ((List (ByteArray × ByteArray × Unit)) × Unit))) → (((List (Int × (ByteArray × (ByteArray × Unit)))) × Int × Int × Unit) × (Unit × ((List (ByteArray × (ByteArray × Unit))) × Unit))) → Option (Unit × ((List (ByteArray × ByteArray × Unit)) × Unit))
  | 0, _, _ => none
  | n + 1, k, x =>
    tb (ilt x.1.2.2.1 x.1.2.1)
    (chk (0 ≤ x.1.2.2.1) (obind (at? x.1.1 (Int.toNat x.1.2.2.1)) fun v0 =>
        obind (impl_entryAt (x.2.2.1, v0.2.1, ())) fun v1 =>
        tb v1.2.2.1
        (obind (slices_Delete_Entry (x.2.2.1, v1.2.1, (wr .i64 (v1.2.1 + 1)), ())) fun v2 =>
          tb (ieq v0.1 1)
          (obind (slices_Insert_Entry (v2.2.1, v1.2.1, [(v0.2.1, v0.2.2.1, ())], ())) fun v3 =>
            impl_IndexOf_k0 N n k ((x.1.1, x.1.2.1, (wr .i64 (x.1.2.2.1 + 1)), ()), (), v3.2.1, ()))
          (impl_IndexOf_k0 N n k ((x.1.1, x.1.2.1, (wr .i64 (x.1.2.2.1 + 1)), ()), (), v2.2.1, ())))
        (tb (ieq v0.1 1)
          (obind (slices_Insert_Entry (x.2.2.1, v1.2.1, [(v0.2.1, v0.2.2.1, ())], ())) fun v4 =>
            impl_IndexOf_k0 N n k ((x.1.1, x.1.2.1, (wr .i64 (x.1.2.2.1 + 1)), ()), (), v4.2.1, ()))
          (impl_IndexOf_k0 N n k ((x.1.1, x.1.2.1, (wr .i64 (x.1.2.2.1 + 1)), ()), (), x.2.2.1, ())))) (none))
    (k ((), (), x.2.2.1, ()))
def impl_IndexOf_k (N : Nat) (x0 : (List (Int × ByteArray × ByteArray × Unit))) : Option (Unit × ((List (ByteArray × ByteArray × Unit)) × Unit)) :=
  impl_IndexOf_k0 N N (fun v0 =>
    some ((), v0.2.2.1, ())) ((x0, (((llen x0) : Nat) : Int), 0, ()), (), [], ())
def impl_IndexOf (x : ((List (Int × ByteArray × ByteArray × Unit)) × Unit)) : Option (Unit × ((List (ByteArray × ByteArray × Unit)) × Unit)) := impl_IndexOf_k fuel x.1
def impl_IndexOf_s : List (Nat × Con) := [(93, ⟨[.val (.row false S53), .val .str], [(.int .i64), .bool], (.pair (.int .i64) (.pair .bool .unit)), impl_entryAt⟩), (94, ⟨[.own (.row true T53), .val (.int .i64), .val (.int .i64)], [(.row true T53)], (.pair (.row true T53) .unit), slices_Delete_Entry⟩), (95, ⟨[.own (.row true T53), .val (.int .i64), .own (.row true T53)], [(.row true T53)], (.pair (.row true T53) .unit), slices_Insert_Entry⟩)]
def impl_IndexOf_E : Env := ⟨fun j => (look tyTab j).getD .unit, fun j => look impl_IndexOf_s j⟩
theorem impl_IndexOf_r0 (N n : Nat) (k : impl_IndexOf_O0.ty.den → Option (Unit × ((List (ByteArray × ByteArray × Unit)) × Unit))) (x : impl_IndexOf_P0.ty.den) : roundK impl_IndexOf_E ⟨Tryz.f76.ntmps, N, (fun i => look [(0, ⟨impl_IndexOf_P0, impl_IndexOf_O0, [.tmp 3 10000 (.pair .str (.pair .str .unit))], [.tmp 3 10500 (.pair .str (.pair .str .unit))], impl_IndexOf_k0 N⟩)] i), retK impl_IndexOf_E Tryz.f76 [.val (.row false S96)] [(.row true T53)] (.pair (.row true T53) .unit)⟩ (Tryz.f76.body.getD .skip) 0 ⟨impl_IndexOf_P0, impl_IndexOf_O0, [.tmp 3 10000 (.pair .str (.pair .str .unit))], [.tmp 3 10500 (.pair .str (.pair .str .unit))], impl_IndexOf_k0 N⟩ (impl_IndexOf_k0 N n k) k x = impl_IndexOf_k0 N (n + 1) k x := by kernel_rfl
theorem impl_IndexOf_f_eq (N : Nat) (x0 : (List (Int × ByteArray × ByteArray × Unit))) : funK impl_IndexOf_E Tryz.f76 [.val (.row false S96)] [(.row true T53)] (.pair (.row true T53) .unit) (fun i => look [(0, ⟨impl_IndexOf_P0, impl_IndexOf_O0, [.tmp 3 10000 (.pair .str (.pair .str .unit))], [.tmp 3 10500 (.pair .str (.pair .str .unit))], impl_IndexOf_k0 N⟩)] i) N (x0, ()) = impl_IndexOf_k N x0 := by kernel_rfl
theorem impl_IndexOf_o : Known Tryz.prog 76 ⟨[.val (.row false S96)], [(.row true T53)], (.pair (.row true T53) .unit), impl_IndexOf⟩ := known_of (tab := tyTab) (cons := impl_IndexOf_s) (segs := [(0, ⟨impl_IndexOf_P0, impl_IndexOf_O0, [.tmp 3 10000 (.pair .str (.pair .str .unit))], [.tmp 3 10500 (.pair .str (.pair .str .unit))], impl_IndexOf_k0 fuel⟩)]) (n := fuel) mixed_ok tab_ok (.cons impl_entryAt_o (.cons slices_Delete_Entry_o (.cons slices_Insert_Entry_o .nil))) Tryz.func76 (by kernel_rfl) ⟨⟨fun _ _ => rfl, fun n k x => impl_IndexOf_r0 fuel n k x⟩, trivial⟩ (fun x => impl_IndexOf_f_eq fuel x.1)
def impl_listOf_k (N : Nat) (x0 : ((List ByteArray) × (List (Int × ByteArray × Unit)) × Unit)) (x1 : (Int × Int × Int × Unit)) : Option (Unit × ((List (ByteArray × ByteArray × Unit)) × Bool × Unit)) :=
  obind (impl_AreaGet ((x0.1, x0.2.1, ()), x1.2.1, 0, x1.2.2.1, ())) fun v0 =>
  tb (bnot v0.2.2.1)
  (some ((), [], false, ()))
  (obind (impl_Records (v0.2.1, ())) fun v1 =>
    obind (impl_IndexOf (v1.2.1, ())) fun v2 =>
    some ((), v2.2.1, v1.2.2.1, ()))
def impl_listOf (x : (((List ByteArray) × (List (Int × ByteArray × Unit)) × Unit) × (Int × Int × Int × Unit) × Unit)) : Option (Unit × ((List (ByteArray × ByteArray × Unit)) × Bool × Unit)) := impl_listOf_k fuel x.1 x.2.1
def impl_listOf_s : List (Nat × Con) := [(74, ⟨[.val S36, .val (.int .i64), .val (.int .i64), .val (.int .i64)], [(.row true (.int .u8)), .bool], (.pair (.row true (.int .u8)) (.pair .bool .unit)), impl_AreaGet⟩), (75, ⟨[.val (.row false (.int .u8))], [(.row true T96), .bool], (.pair (.row true T96) (.pair .bool .unit)), impl_Records⟩), (76, ⟨[.val (.row false S96)], [(.row true T53)], (.pair (.row true T53) .unit), impl_IndexOf⟩)]
def impl_listOf_E : Env := ⟨fun j => (look tyTab j).getD .unit, fun j => look impl_listOf_s j⟩
theorem impl_listOf_f_eq (N : Nat) (x0 : ((List ByteArray) × (List (Int × ByteArray × Unit)) × Unit)) (x1 : (Int × Int × Int × Unit)) : funK impl_listOf_E Tryz.f47 [.val S36, .val S37] [(.row true T53), .bool] (.pair (.row true T53) (.pair .bool .unit)) (fun i => look [] i) N (x0, x1, ()) = impl_listOf_k N x0 x1 := by kernel_rfl
theorem impl_listOf_o : Known Tryz.prog 47 ⟨[.val S36, .val S37], [(.row true T53), .bool], (.pair (.row true T53) (.pair .bool .unit)), impl_listOf⟩ := known_of (tab := tyTab) (cons := impl_listOf_s) (segs := []) (n := fuel) mixed_ok tab_ok (.cons impl_AreaGet_o (.cons impl_Records_o (.cons impl_IndexOf_o .nil))) Tryz.func47 (by kernel_rfl) trivial (fun x => impl_listOf_f_eq fuel x.1 x.2.1)
end Go.Proofs.YtekcpaiphcmfmaaGreat.V
set_option maxRecDepth 100000
namespace Go.Proofs.YtekcpaiphcmfmaaGreat.V
open Go Go.Proofs
def slices_Equal_Entry_P0 : Tpl := ⟨[(0, .one (.leaf (.row false (.pair .str (.pair .str .unit))))), (1, .one (.leaf (.row false (.pair .str (.pair .str .unit))))), (12, .one (.leaf (.int .i64))), (13, .one (.leaf (.int .i64)))], [], []⟩
def slices_Equal_Entry_O0 : Tpl := ⟨[], [], []⟩
def slices_Equal_Entry_k0 (N : Nat) : Nat → ((Unit × (Unit × Unit)) → Option (Unit × (Bool × Unit))) → (((List (ByteArray × (ByteArray × Unit))) × (List (ByteArray × (ByteArray × Unit))) × Int × Int × Unit) × (Unit × Unit)) → Option (Unit × (Bool × Unit))
  | 0, _, _ => none
  | n + 1, k, x =>
    tb (ilt x.1.2.2.2.1 x.1.2.2.1)
    (chk (0 ≤ x.1.2.2.2.1) (obind (at? x.1.1 (Int.toNat x.1.2.2.2.1)) fun v0 =>
        chk (0 ≤ x.1.2.2.2.1) (obind (at? x.1.2.1 (Int.toNat x.1.2.2.2.1)) fun v1 =>
          tb (bnot (band (seq v0.1 v1.1) (band (seq v0.2.1 v1.2.1) true)))
          (some ((), false, ()))
          (slices_Equal_Entry_k0 N n k ((x.1.1, x.1.2.1, x.1.2.2.1, (wr .i64 (x.1.2.2.2.1 + 1)), ()), (), ()))) (none)) (none))
    (k ((), (), ()))
def slices_Equal_Entry_k (N : Nat) (x0 : (List (ByteArray × ByteArray × Unit))) (x1 : (List (ByteArray × ByteArray × Unit))) : Option (Unit × (Bool × Unit)) :=
  tb (bnot (ieq (((llen x0) : Nat) : Int) (((llen x1) : Nat) : Int)))
  (some ((), false, ()))
  (slices_Equal_Entry_k0 N N (fun v0 =>
      some ((), true, ())) ((x0, x1, (((llen x0) : Nat) : Int), 0, ()), (), ()))
def slices_Equal_Entry (x : ((List (ByteArray × ByteArray × Unit)) × (List (ByteArray × ByteArray × Unit)) × Unit)) : Option (Unit × (Bool × Unit)) := slices_Equal_Entry_k fuel x.1 x.2.1
def slices_Equal_Entry_s : List (Nat × Con) := []
def slices_Equal_Entry_E : Env := ⟨fun j => (look tyTab j).getD .unit, fun j => look slices_Equal_Entry_s j⟩
theorem slices_Equal_Entry_r0 (N n : Nat) (k : slices_Equal_Entry_O0.ty.den → Option (Unit × (Bool × Unit))) (x : slices_Equal_Entry_P0.ty.den) : roundK slices_Equal_Entry_E ⟨Tryz.f70.ntmps, N, (fun i => look [(0, ⟨slices_Equal_Entry_P0, slices_Equal_Entry_O0, [], [], slices_Equal_Entry_k0 N⟩)] i), retK slices_Equal_Entry_E Tryz.f70 [.val (.row false S53), .val (.row false S53)] [.bool] (.pair .bool .unit)⟩ (Tryz.f70.body.getD .skip) 0 ⟨slices_Equal_Entry_P0, slices_Equal_Entry_O0, [], [], slices_Equal_Entry_k0 N⟩ (slices_Equal_Entry_k0 N n k) k x = slices_Equal_Entry_k0 N (n + 1) k x := by kernel_rfl
theorem slices_Equal_Entry_f_eq (N : Nat) (x0 : (List (ByteArray × ByteArray × Unit))) (x1 : (List (ByteArray × ByteArray × Unit))) : funK slices_Equal_Entry_E Tryz.f70 [.val (.row false S53), .val (.row false S53)] [.bool] (.pair .bool .unit) (fun i => look [(0, ⟨slices_Equal_Entry_P0, slices_Equal_Entry_O0, [], [], slices_Equal_Entry_k0 N⟩)] i) N (x0, x1, ()) = slices_Equal_Entry_k N x0 x1 := by kernel_rfl
theorem slices_Equal_Entry_o : Known Tryz.prog 70 ⟨[.val (.row false S53), .val (.row false S53)], [.bool], (.pair .bool .unit), slices_Equal_Entry⟩ := known_of (tab := tyTab) (cons := slices_Equal_Entry_s) (segs := [(0, ⟨slices_Equal_Entry_P0, slices_Equal_Entry_O0, [], [], slices_Equal_Entry_k0 fuel⟩)]) (n := fuel) mixed_ok tab_ok .nil Tryz.func70 (by kernel_rfl) ⟨⟨fun _ _ => rfl, fun n k x => slices_Equal_Entry_r0 fuel n k x⟩, trivial⟩ (fun x => slices_Equal_Entry_f_eq fuel x.1 x.2.1)
def impl_ArchiveOk_k (N : Nat) (x0 : (Bool × ((List ByteArray) × (List (Int × ByteArray × Unit)) × Unit) × (Int × Int × Int × Unit) × (List (ByteArray × ByteArray × Unit)) × Unit)) : Option (Unit × (Bool × Unit)) :=
  tb (ilt 0 (((llen x0.2.1.2.1) : Nat) : Int))
  (some ((), false, ()))
  (obind (impl_DiskOk ((x0.2.1.1, x0.2.1.2.1, ()), ())) fun v0 =>
    tb (bnot v0.2.1)
    (some ((), false, ()))
    (tb (bnot x0.1)
      (tb (band (ieq x0.2.2.1.1 0) (band (ieq x0.2.2.1.2.1 0) (band (ieq x0.2.2.1.2.2.1 0) true)))
        (some ((), (ieq (((llen x0.2.2.2.1) : Nat) : Int) 0), ()))
        (some ((), false, ())))
      (obind (impl_headOk ((x0.2.2.1.1, x0.2.2.1.2.1, x0.2.2.1.2.2.1, ()), ())) fun v1 =>
        tb (bnot v1.2.1)
        (some ((), false, ()))
        (obind (impl_HeadNow ((x0.2.1.1, x0.2.1.2.1, ()), ())) fun v2 =>
          tb (bnot (band (ieq v2.2.1.1 x0.2.2.1.1) (band (ieq v2.2.1.2.1 x0.2.2.1.2.1) (band (ieq v2.2.1.2.2.1 x0.2.2.1.2.2.1) true))))
          (some ((), false, ()))
          (obind (impl_listOf ((x0.2.1.1, x0.2.1.2.1, ()), (x0.2.2.1.1, x0.2.2.1.2.1, x0.2.2.1.2.2.1, ()), ())) fun v3 =>
            tb v3.2.2.1
            (obind (slices_Equal_Entry (v3.2.1, x0.2.2.2.1, ())) fun v4 =>
              some ((), v4.2.1, ()))
            (some ((), false, ())))))))
def impl_ArchiveOk (x : ((Bool × ((List ByteArray) × (List (Int × ByteArray × Unit)) × Unit) × (Int × Int × Int × Unit) × (List (ByteArray × ByteArray × Unit)) × Unit) × Unit)) : Option (Unit × (Bool × Unit)) := impl_ArchiveOk_k fuel x.1
def impl_ArchiveOk_s : List (Nat × Con) := [(46, ⟨[.val S36], [T37], (.pair T37 .unit), impl_HeadNow⟩), (47, ⟨[.val S36, .val S37], [(.row true T53), .bool], (.pair (.row true T53) (.pair .bool .unit)), impl_listOf⟩), (48, ⟨[.val S37], [.bool], (.pair .bool .unit), impl_headOk⟩), (69, ⟨[.val S36], [.bool], (.pair .bool .unit), impl_DiskOk⟩), (70, ⟨[.val (.row false S53), .val (.row false S53)], [.bool], (.pair .bool .unit), slices_Equal_Entry⟩)]
def impl_ArchiveOk_E : Env := ⟨fun j => (look tyTab j).getD .unit, fun j => look impl_ArchiveOk_s j⟩
theorem impl_ArchiveOk_f_eq (N : Nat) (x0 : (Bool × ((List ByteArray) × (List (Int × ByteArray × Unit)) × Unit) × (Int × Int × Int × Unit) × (List (ByteArray × ByteArray × Unit)) × Unit)) : funK impl_ArchiveOk_E Tryz.f44 [.val S40] [.bool] (.pair .bool .unit) (fun i => look [] i) N (x0, ()) = impl_ArchiveOk_k N x0 := by kernel_rfl
theorem impl_ArchiveOk_o : Known Tryz.prog 44 ⟨[.val S40], [.bool], (.pair .bool .unit), impl_ArchiveOk⟩ := known_of (tab := tyTab) (cons := impl_ArchiveOk_s) (segs := []) (n := fuel) mixed_ok tab_ok (.cons impl_HeadNow_o (.cons impl_listOf_o (.cons impl_headOk_o (.cons impl_DiskOk_o (.cons slices_Equal_Entry_o .nil))))) Tryz.func44 (by kernel_rfl) trivial (fun x => impl_ArchiveOk_f_eq fuel x.1)
def impl_upCode_k (N : Nat) (x0 : (Bool × ((List ByteArray) × (List (Int × ByteArray × Unit)) × Unit) × (Int × Int × Int × Unit) × (List (ByteArray × ByteArray × Unit)) × Unit)) : Option (Unit × (Int × Unit)) :=
  obind (impl_ArchiveOk ((x0.1, (x0.2.1.1, x0.2.1.2.1, ()), (x0.2.2.1.1, x0.2.2.1.2.1, x0.2.2.1.2.2.1, ()), x0.2.2.2.1, ()), ())) fun v0 =>
  tb (bnot v0.2.1)
  (some ((), 1, ()))
  (tb (bnot x0.1)
    (some ((), 2, ()))
    (some ((), 0, ())))
def impl_upCode (x : ((Bool × ((List ByteArray) × (List (Int × ByteArray × Unit)) × Unit) × (Int × Int × Int × Unit) × (List (ByteArray × ByteArray × Unit)) × Unit) × Unit)) : Option (Unit × (Int × Unit)) := impl_upCode_k fuel x.1
def impl_upCode_s : List (Nat × Con) := [(44, ⟨[.val S40], [.bool], (.pair .bool .unit), impl_ArchiveOk⟩)]
def impl_upCode_E : Env := ⟨fun j => (look tyTab j).getD .unit, fun j => look impl_upCode_s j⟩
theorem impl_upCode_f_eq (N : Nat) (x0 : (Bool × ((List ByteArray) × (List (Int × ByteArray × Unit)) × Unit) × (Int × Int × Int × Unit) × (List (ByteArray × ByteArray × Unit)) × Unit)) : funK impl_upCode_E Tryz.f26 [.val S40] [(.int .i64)] (.pair (.int .i64) .unit) (fun i => look [] i) N (x0, ()) = impl_upCode_k N x0 := by kernel_rfl
theorem impl_upCode_o : Known Tryz.prog 26 ⟨[.val S40], [(.int .i64)], (.pair (.int .i64) .unit), impl_upCode⟩ := known_of (tab := tyTab) (cons := impl_upCode_s) (segs := []) (n := fuel) mixed_ok tab_ok (.cons impl_ArchiveOk_o .nil) Tryz.func26 (by kernel_rfl) trivial (fun x => impl_upCode_f_eq fuel x.1)
def impl_ArchiveUrls_P0 : Tpl := ⟨[(5, .one (.fix (.ref 10000 [] none))), (14, .one (.leaf (.row false (.pair .str (.pair .str .unit))))), (15, .one (.leaf (.int .i64))), (16, .one (.leaf (.int .i64)))], [], [(10000, .str)]⟩
def impl_ArchiveUrls_O0 : Tpl := ⟨[(5, .one (.fix (.ref 10500 [] none)))], [], [(10500, .str)]⟩
def impl_ArchiveUrls_k0 (N : Nat) : Nat → ((Unit × (Unit × ((List ByteArray) × Unit))) → Option (Unit × ((List ByteArray) × Int × Unit))) → (((List (ByteArray × (ByteArray × Unit))) × Int × Int × Unit) × (Unit × ((List ByteArray) × Unit))) → Option (Unit × ((List ByteArray) × Int × Unit))
  | 0, _, _ => none
  | n + 1, k, x =>
    tb (ilt x.1.2.2.1 x.1.2.1)
    (chk (0 ≤ x.1.2.2.1) (obind (at? x.1.1 (Int.toNat x.1.2.2.1)) fun v0 =>
        chk ((plus (llen x.2.2.1) (llen [v0.1])) ≤ 8796093022208) (impl_ArchiveUrls_k0 N n k ((x.1.1, x.1.2.1, (wr .i64 (x.1.2.2.1 + 1)), ()), (), (lapp x.2.2.1 [v0.1]), ())) (none)) (none))
    (k ((), (), x.2.2.1, ()))
def impl_ArchiveUrls_k (N : Nat) (x0 : (Bool × ((List ByteArray) × (List (Int × ByteArray × Unit)) × Unit) × (Int × Int × Int × Unit) × (List (ByteArray × ByteArray × Unit)) × Unit)) : Option (Unit × ((List ByteArray) × Int × Unit)) :=
  obind (impl_upCode ((x0.1, (x0.2.1.1, x0.2.1.2.1, ()), (x0.2.2.1.1, x0.2.2.1.2.1, x0.2.2.1.2.2.1, ()), x0.2.2.2.1, ()), ())) fun v0 =>
  tb (bnot (ieq v0.2.1 0))
  (some ((), [], v0.2.1, ()))
  (impl_ArchiveUrls_k0 N N (fun v1 =>
      some ((), v1.2.2.1, 0, ())) ((x0.2.2.2.1, (((llen x0.2.2.2.1) : Nat) : Int), 0, ()), (), [], ()))
def impl_ArchiveUrls (x : ((Bool × ((List ByteArray) × (List (Int × ByteArray × Unit)) × Unit) × (Int × Int × Int × Unit) × (List (ByteArray × ByteArray × Unit)) × Unit) × Unit)) : Option (Unit × ((List ByteArray) × Int × Unit)) := impl_ArchiveUrls_k fuel x.1
def impl_ArchiveUrls_s : List (Nat × Con) := [(26, ⟨[.val S40], [(.int .i64)], (.pair (.int .i64) .unit), impl_upCode⟩)]
def impl_ArchiveUrls_E : Env := ⟨fun j => (look tyTab j).getD .unit, fun j => look impl_ArchiveUrls_s j⟩
theorem impl_ArchiveUrls_r0 (N n : Nat) (k : impl_ArchiveUrls_O0.ty.den → Option (Unit × ((List ByteArray) × Int × Unit))) (x : impl_ArchiveUrls_P0.ty.den) : roundK impl_ArchiveUrls_E ⟨Tryz.f9.ntmps, N, (fun i => look [(0, ⟨impl_ArchiveUrls_P0, impl_ArchiveUrls_O0, [.tmp 5 10000 .str], [.tmp 5 10500 .str], impl_ArchiveUrls_k0 N⟩)] i), retK impl_ArchiveUrls_E Tryz.f9 [.val S40] [(.row true .str), (.int .i64)] (.pair (.row true .str) (.pair (.int .i64) .unit))⟩ (Tryz.f9.body.getD .skip) 0 ⟨impl_ArchiveUrls_P0, impl_ArchiveUrls_O0, [.tmp 5 10000 .str], [.tmp 5 10500 .str], impl_ArchiveUrls_k0 N⟩ (impl_ArchiveUrls_k0 N n k) k x = impl_ArchiveUrls_k0 N (n + 1) k x := by kernel_rfl
theorem impl_ArchiveUrls_f_eq (N : Nat) (x0 : (Bool × ((List ByteArray) × (List (Int × ByteArray × Unit)) × Unit) × (Int × Int × Int × Unit) × (List (ByteArray × ByteArray × Unit)) × Unit)) : funK impl_ArchiveUrls_E Tryz.f9 [.val S40] [(.row true .str), (.int .i64)] (.pair (.row true .str) (.pair (.int .i64) .unit)) (fun i => look [(0, ⟨impl_ArchiveUrls_P0, impl_ArchiveUrls_O0, [.tmp 5 10000 .str], [.tmp 5 10500 .str], impl_ArchiveUrls_k0 N⟩)] i) N (x0, ()) = impl_ArchiveUrls_k N x0 := by kernel_rfl
theorem impl_ArchiveUrls_o : Known Tryz.prog 9 ⟨[.val S40], [(.row true .str), (.int .i64)], (.pair (.row true .str) (.pair (.int .i64) .unit)), impl_ArchiveUrls⟩ := known_of (tab := tyTab) (cons := impl_ArchiveUrls_s) (segs := [(0, ⟨impl_ArchiveUrls_P0, impl_ArchiveUrls_O0, [.tmp 5 10000 .str], [.tmp 5 10500 .str], impl_ArchiveUrls_k0 fuel⟩)]) (n := fuel) mixed_ok tab_ok (.cons impl_upCode_o .nil) Tryz.func9 (by kernel_rfl) ⟨⟨fun _ _ => rfl, fun n k x => impl_ArchiveUrls_r0 fuel n k x⟩, trivial⟩ (fun x => impl_ArchiveUrls_f_eq fuel x.1)
def laws_eqStringS_P0 : Tpl := ⟨[(0, .one (.leaf (.row false .str))), (1, .one (.leaf (.row false .str))), (5, .one (.leaf (.int .i64)))], [], []⟩
def laws_eqStringS_O0 : Tpl := ⟨[], [], []⟩
def laws_eqStringS_k0 (N : Nat) : Nat → ((Unit × (Unit × Unit)) → Option (Unit × (Bool × Unit))) → (((List ByteArray) × (List ByteArray) × Int × Unit) × (Unit × Unit)) → Option (Unit × (Bool × Unit))
  | 0, _, _ => none
  | n + 1, k, x =>
    tb (ilt x.1.2.2.1 (((llen x.1.1) : Nat) : Int))
    (chk (0 ≤ x.1.2.2.1) (obind (at? x.1.1 (Int.toNat x.1.2.2.1)) fun v0 =>
        chk (0 ≤ x.1.2.2.1) (obind (at? x.1.2.1 (Int.toNat x.1.2.2.1)) fun v1 =>
          tb (bnot (seq v0 v1))
          (some ((), false, ()))
          (laws_eqStringS_k0 N n k ((x.1.1, x.1.2.1, (wr .i64 (x.1.2.2.1 + 1)), ()), (), ()))) (none)) (none))
    (k ((), (), ()))
def laws_eqStringS_k (N : Nat) (x0 : (List ByteArray)) (x1 : (List ByteArray)) : Option (Unit × (Bool × Unit)) :=
  tb (bnot (ieq (((llen x0) : Nat) : Int) (((llen x1) : Nat) : Int)))
  (some ((), false, ()))
  (laws_eqStringS_k0 N N (fun v0 =>
      some ((), true, ())) ((x0, x1, 0, ()), (), ()))
def laws_eqStringS (x : ((List ByteArray) × (List ByteArray) × Unit)) : Option (Unit × (Bool × Unit)) := laws_eqStringS_k fuel x.1 x.2.1
def laws_eqStringS_s : List (Nat × Con) := []
def laws_eqStringS_E : Env := ⟨fun j => (look tyTab j).getD .unit, fun j => look laws_eqStringS_s j⟩
theorem laws_eqStringS_r0 (N n : Nat) (k : laws_eqStringS_O0.ty.den → Option (Unit × (Bool × Unit))) (x : laws_eqStringS_P0.ty.den) : roundK laws_eqStringS_E ⟨Tryz.f10.ntmps, N, (fun i => look [(0, ⟨laws_eqStringS_P0, laws_eqStringS_O0, [], [], laws_eqStringS_k0 N⟩)] i), retK laws_eqStringS_E Tryz.f10 [.val (.row false .str), .val (.row false .str)] [.bool] (.pair .bool .unit)⟩ (Tryz.f10.body.getD .skip) 0 ⟨laws_eqStringS_P0, laws_eqStringS_O0, [], [], laws_eqStringS_k0 N⟩ (laws_eqStringS_k0 N n k) k x = laws_eqStringS_k0 N (n + 1) k x := by kernel_rfl
theorem laws_eqStringS_f_eq (N : Nat) (x0 : (List ByteArray)) (x1 : (List ByteArray)) : funK laws_eqStringS_E Tryz.f10 [.val (.row false .str), .val (.row false .str)] [.bool] (.pair .bool .unit) (fun i => look [(0, ⟨laws_eqStringS_P0, laws_eqStringS_O0, [], [], laws_eqStringS_k0 N⟩)] i) N (x0, x1, ()) = laws_eqStringS_k N x0 x1 := by kernel_rfl
theorem laws_eqStringS_o : Known Tryz.prog 10 ⟨[.val (.row false .str), .val (.row false .str)], [.bool], (.pair .bool .unit), laws_eqStringS⟩ := known_of (tab := tyTab) (cons := laws_eqStringS_s) (segs := [(0, ⟨laws_eqStringS_P0, laws_eqStringS_O0, [], [], laws_eqStringS_k0 fuel⟩)]) (n := fuel) mixed_ok tab_ok .nil Tryz.func10 (by kernel_rfl) ⟨⟨fun _ _ => rfl, fun n k x => laws_eqStringS_r0 fuel n k x⟩, trivial⟩ (fun x => laws_eqStringS_f_eq fuel x.1 x.2.1)
def laws_eqPut_k (N : Nat) (x0 : (Int × ByteArray × Unit)) (x1 : (Int × ByteArray × Unit)) : Option (Unit × (Bool × Unit)) :=
  tb (bnot (ieq x0.1 x1.1))
  (some ((), false, ()))
  (tb (bnot (seq x0.2.1 x1.2.1))
    (some ((), false, ()))
    (some ((), true, ())))
def laws_eqPut (x : ((Int × ByteArray × Unit) × (Int × ByteArray × Unit) × Unit)) : Option (Unit × (Bool × Unit)) := laws_eqPut_k fuel x.1 x.2.1
def laws_eqPut_s : List (Nat × Con) := []
def laws_eqPut_E : Env := ⟨fun j => (look tyTab j).getD .unit, fun j => look laws_eqPut_s j⟩
theorem laws_eqPut_f_eq (N : Nat) (x0 : (Int × ByteArray × Unit)) (x1 : (Int × ByteArray × Unit)) : funK laws_eqPut_E Tryz.f82 [.val S90, .val S90] [.bool] (.pair .bool .unit) (fun i => look [] i) N (x0, x1, ()) = laws_eqPut_k N x0 x1 := by kernel_rfl
theorem laws_eqPut_o : Known Tryz.prog 82 ⟨[.val S90, .val S90], [.bool], (.pair .bool .unit), laws_eqPut⟩ := known_of (tab := tyTab) (cons := laws_eqPut_s) (segs := []) (n := fuel) mixed_ok tab_ok .nil Tryz.func82 (by kernel_rfl) trivial (fun x => laws_eqPut_f_eq fuel x.1 x.2.1)
def laws_eqPutS_P0 : Tpl := ⟨[(0, .one (.leaf (.row false (.pair (.int .i64) (.pair .str .unit))))), (1, .one (.leaf (.row false (.pair (.int .i64) (.pair .str .unit))))), (5, .one (.leaf (.int .i64)))], [], []⟩
def laws_eqPutS_O0 : Tpl := ⟨[], [], []⟩
def laws_eqPutS_k0 (N : Nat) : Nat → ((Unit × (Unit × Unit)) → Option (Unit × (Bool × Unit))) → (((List (Int × (ByteArray × Unit))) × (List (Int × (ByteArray × Unit))) × Int × Unit) × (Unit × Unit)) → Option (Unit × (Bool × Unit))
  | 0, _, _ => none
  | n + 1, k, x =>
    tb (ilt x.1.2.2.1 (((llen x.1.1) : Nat) : Int))
    (chk (0 ≤ x.1.2.2.1) (obind (at? x.1.1 (Int.toNat x.1.2.2.1)) fun v0 =>
        chk (0 ≤ x.1.2.2.1) (obind (at? x.1.2.1 (Int.toNat x.1.2.2.1)) fun v1 =>
          obind (laws_eqPut ((v0.1, v0.2.1, ()), (v1.1, v1.2.1, ()), ())) fun v2 =>
          tb (bnot v2.2.1)
          (some ((), false, ()))
          (laws_eqPutS_k0 N n k ((x.1.1, x.1.2.1, (wr .i64 (x.1.2.2.1 + 1)), ()), (), ()))) (none)) (none))
    (k ((), (), ()))
def laws_eqPutS_k (N : Nat) (x0 : (List (Int × ByteArray × Unit))) (x1 : (List (Int × ByteArray × Unit))) : Option (Unit × (Bool × Unit)) :=
  tb (bnot (ieq (((llen x0) : Nat) : Int) (((llen x1) : Nat) : Int)))
  (some ((), false, ()))
  (laws_eqPutS_k0 N N (fun v0 =>
      some ((), true, ())) ((x0, x1, 0, ()), (), ()))
def laws_eqPutS (x : ((List (Int × ByteArray × Unit)) × (List (Int × ByteArray × Unit)) × Unit)) : Option (Unit × (Bool × Unit)) := laws_eqPutS_k fuel x.1 x.2.1
def laws_eqPutS_s : List (Nat × Con) := [(82, ⟨[.val S90, .val S90], [.bool], (.pair .bool .unit), laws_eqPut⟩)]
def laws_eqPutS_E : Env := ⟨fun j => (look tyTab j).getD .unit, fun j => look laws_eqPutS_s j⟩
theorem laws_eqPutS_r0 (N n : Nat) (k : laws_eqPutS_O0.ty.den → Option (Unit × (Bool × Unit))) (x : laws_eqPutS_P0.ty.den) : roundK laws_eqPutS_E ⟨Tryz.f58.ntmps, N, (fun i => look [(0, ⟨laws_eqPutS_P0, laws_eqPutS_O0, [], [], laws_eqPutS_k0 N⟩)] i), retK laws_eqPutS_E Tryz.f58 [.val (.row false S90), .val (.row false S90)] [.bool] (.pair .bool .unit)⟩ (Tryz.f58.body.getD .skip) 0 ⟨laws_eqPutS_P0, laws_eqPutS_O0, [], [], laws_eqPutS_k0 N⟩ (laws_eqPutS_k0 N n k) k x = laws_eqPutS_k0 N (n + 1) k x := by kernel_rfl
theorem laws_eqPutS_f_eq (N : Nat) (x0 : (List (Int × ByteArray × Unit))) (x1 : (List (Int × ByteArray × Unit))) : funK laws_eqPutS_E Tryz.f58 [.val (.row false S90), .val (.row false S90)] [.bool] (.pair .bool .unit) (fun i => look [(0, ⟨laws_eqPutS_P0, laws_eqPutS_O0, [], [], laws_eqPutS_k0 N⟩)] i) N (x0, x1, ()) = laws_eqPutS_k N x0 x1 := by kernel_rfl
theorem laws_eqPutS_o : Known Tryz.prog 58 ⟨[.val (.row false S90), .val (.row false S90)], [.bool], (.pair .bool .unit), laws_eqPutS⟩ := known_of (tab := tyTab) (cons := laws_eqPutS_s) (segs := [(0, ⟨laws_eqPutS_P0, laws_eqPutS_O0, [], [], laws_eqPutS_k0 fuel⟩)]) (n := fuel) mixed_ok tab_ok (.cons laws_eqPut_o .nil) Tryz.func58 (by kernel_rfl) ⟨⟨fun _ _ => rfl, fun n k x => laws_eqPutS_r0 fuel n k x⟩, trivial⟩ (fun x => laws_eqPutS_f_eq fuel x.1 x.2.1)
def laws_eqDisk_k (N : Nat) (x0 : ((List ByteArray) × (List (Int × ByteArray × Unit)) × Unit)) (x1 : ((List ByteArray) × (List (Int × ByteArray × Unit)) × Unit)) : Option (Unit × (Bool × Unit)) :=
  obind (laws_eqStringS (x0.1, x1.1, ())) fun v0 =>
  tb (bnot v0.2.1)
  (some ((), false, ()))
  (obind (laws_eqPutS (x0.2.1, x1.2.1, ())) fun v1 =>
    tb (bnot v1.2.1)
    (some ((), false, ()))
    (some ((), true, ())))
def laws_eqDisk (x : (((List ByteArray) × (List (Int × ByteArray × Unit)) × Unit) × ((List ByteArray) × (List (Int × ByteArray × Unit)) × Unit) × Unit)) : Option (Unit × (Bool × Unit)) := laws_eqDisk_k fuel x.1 x.2.1
def laws_eqDisk_s : List (Nat × Con) := [(10, ⟨[.val (.row false .str), .val (.row false .str)], [.bool], (.pair .bool .unit), laws_eqStringS⟩), (58, ⟨[.val (.row false S90), .val (.row false S90)], [.bool], (.pair .bool .unit), laws_eqPutS⟩)]
def laws_eqDisk_E : Env := ⟨fun j => (look tyTab j).getD .unit, fun j => look laws_eqDisk_s j⟩
theorem laws_eqDisk_f_eq (N : Nat) (x0 : ((List ByteArray) × (List (Int × ByteArray × Unit)) × Unit)) (x1 : ((List ByteArray) × (List (Int × ByteArray × Unit)) × Unit)) : funK laws_eqDisk_E Tryz.f27 [.val S36, .val S36] [.bool] (.pair .bool .unit) (fun i => look [] i) N (x0, x1, ()) = laws_eqDisk_k N x0 x1 := by kernel_rfl
theorem laws_eqDisk_o : Known Tryz.prog 27 ⟨[.val S36, .val S36], [.bool], (.pair .bool .unit), laws_eqDisk⟩ := known_of (tab := tyTab) (cons := laws_eqDisk_s) (segs := []) (n := fuel) mixed_ok tab_ok (.cons laws_eqStringS_o (.cons laws_eqPutS_o .nil)) Tryz.func27 (by kernel_rfl) trivial (fun x => laws_eqDisk_f_eq fuel x.1 x.2.1)
def laws_eqHead_k (N : Nat) (x0 : (Int × Int × Int × Unit)) (x1 : (Int × Int × Int × Unit)) : Option (Unit × (Bool × Unit)) :=
  tb (bnot (ieq x0.1 x1.1))
  (some ((), false, ()))
  (tb (bnot (ieq x0.2.1 x1.2.1))
    (some ((), false, ()))
    (tb (bnot (ieq x0.2.2.1 x1.2.2.1))
      (some ((), false, ()))
      (some ((), true, ()))))
def laws_eqHead (x : ((Int × Int × Int × Unit) × (Int × Int × Int × Unit) × Unit)) : Option (Unit × (Bool × Unit)) := laws_eqHead_k fuel x.1 x.2.1
def laws_eqHead_s : List (Nat × Con) := []
def laws_eqHead_E : Env := ⟨fun j => (look tyTab j).getD .unit, fun j => look laws_eqHead_s j⟩
theorem laws_eqHead_f_eq (N : Nat) (x0 : (Int × Int × Int × Unit)) (x1 : (Int × Int × Int × Unit)) : funK laws_eqHead_E Tryz.f28 [.val S37, .val S37] [.bool] (.pair .bool .unit) (fun i => look [] i) N (x0, x1, ()) = laws_eqHead_k N x0 x1 := by kernel_rfl
theorem laws_eqHead_o : Known Tryz.prog 28 ⟨[.val S37, .val S37], [.bool], (.pair .bool .unit), laws_eqHead⟩ := known_of (tab := tyTab) (cons := laws_eqHead_s) (segs := []) (n := fuel) mixed_ok tab_ok .nil Tryz.func28 (by kernel_rfl) trivial (fun x => laws_eqHead_f_eq fuel x.1 x.2.1)
def laws_eqEntry_k (N : Nat) (x0 : (ByteArray × ByteArray × Unit)) (x1 : (ByteArray × ByteArray × Unit)) : Option (Unit × (Bool × Unit)) :=
  tb (bnot (seq x0.1 x1.1))
  (some ((), false, ()))
  (tb (bnot (seq x0.2.1 x1.2.1))
    (some ((), false, ()))
    (some ((), true, ())))
def laws_eqEntry (x : ((ByteArray × ByteArray × Unit) × (ByteArray × ByteArray × Unit) × Unit)) : Option (Unit × (Bool × Unit)) := laws_eqEntry_k fuel x.1 x.2.1
def laws_eqEntry_s : List (Nat × Con) := []
def laws_eqEntry_E : Env := ⟨fun j => (look tyTab j).getD .unit, fun j => look laws_eqEntry_s j⟩
theorem laws_eqEntry_f_eq (N : Nat) (x0 : (ByteArray × ByteArray × Unit)) (x1 : (ByteArray × ByteArray × Unit)) : funK laws_eqEntry_E Tryz.f59 [.val S53, .val S53] [.bool] (.pair .bool .unit) (fun i => look [] i) N (x0, x1, ()) = laws_eqEntry_k N x0 x1 := by kernel_rfl
theorem laws_eqEntry_o : Known Tryz.prog 59 ⟨[.val S53, .val S53], [.bool], (.pair .bool .unit), laws_eqEntry⟩ := known_of (tab := tyTab) (cons := laws_eqEntry_s) (segs := []) (n := fuel) mixed_ok tab_ok .nil Tryz.func59 (by kernel_rfl) trivial (fun x => laws_eqEntry_f_eq fuel x.1 x.2.1)
def laws_eqEntryS_P0 : Tpl := ⟨[(0, .one (.leaf (.row false (.pair .str (.pair .str .unit))))), (1, .one (.leaf (.row false (.pair .str (.pair .str .unit))))), (5, .one (.leaf (.int .i64)))], [], []⟩
def laws_eqEntryS_O0 : Tpl := ⟨[], [], []⟩
def laws_eqEntryS_k0 (N : Nat) : Nat → ((Unit × (Unit × Unit)) → Option (Unit × (Bool × Unit))) → (((List (ByteArray × (ByteArray × Unit))) × (List (ByteArray × (ByteArray × Unit))) × Int × Unit) × (Unit × Unit)) → Option (Unit × (Bool × Unit))
  | 0, _, _ => none
  | n + 1, k, x =>
    tb (ilt x.1.2.2.1 (((llen x.1.1) : Nat) : Int))
    (chk (0 ≤ x.1.2.2.1) (obind (at? x.1.1 (Int.toNat x.1.2.2.1)) fun v0 =>
        chk (0 ≤ x.1.2.2.1) (obind (at? x.1.2.1 (Int.toNat x.1.2.2.1)) fun v1 =>
          obind (laws_eqEntry ((v0.1, v0.2.1, ()), (v1.1, v1.2.1, ()), ())) fun v2 =>
          tb (bnot v2.2.1)
          (some ((), false, ()))
          (laws_eqEntryS_k0 N n k ((x.1.1, x.1.2.1, (wr .i64 (x.1.2.2.1 + 1)), ()), (), ()))) (none)) (none))
    (k ((), (), ()))
def laws_eqEntryS_k (N : Nat) (x0 : (List (ByteArray × ByteArray × Unit))) (x1 : (List (ByteArray × ByteArray × Unit))) : Option (Unit × (Bool × Unit)) :=
  tb (bnot (ieq (((llen x0) : Nat) : Int) (((llen x1) : Nat) : Int)))
  (some ((), false, ()))
  (laws_eqEntryS_k0 N N (fun v0 =>
      some ((), true, ())) ((x0, x1, 0, ()), (), ()))
def laws_eqEntryS (x : ((List (ByteArray × ByteArray × Unit)) × (List (ByteArray × ByteArray × Unit)) × Unit)) : Option (Unit × (Bool × Unit)) := laws_eqEntryS_k fuel x.1 x.2.1
def laws_eqEntryS_s : List (Nat × Con) := [(59, ⟨[.val S53, .val S53], [.bool], (.pair .bool .unit), laws_eqEntry⟩)]
def laws_eqEntryS_E : Env := ⟨fun j => (look tyTab j).getD .unit, fun j => look laws_eqEntryS_s j⟩
theorem laws_eqEntryS_r0 (N n : Nat) (k : laws_eqEntryS_O0.ty.den → Option (Unit × (Bool × Unit))) (x : laws_eqEntryS_P0.ty.den) : roundK laws_eqEntryS_E ⟨Tryz.f29.ntmps, N, (fun i => look [(0, ⟨laws_eqEntryS_P0, laws_eqEntryS_O0, [], [], laws_eqEntryS_k0 N⟩)] i), retK laws_eqEntryS_E Tryz.f29 [.val (.row false S53), .val (.row false S53)] [.bool] (.pair .bool .unit)⟩ (Tryz.f29.body.getD .skip) 0 ⟨laws_eqEntryS_P0, laws_eqEntryS_O0, [], [], laws_eqEntryS_k0 N⟩ (laws_eqEntryS_k0 N n k) k x = laws_eqEntryS_k0 N (n + 1) k x := by kernel_rfl
theorem laws_eqEntryS_f_eq (N : Nat) (x0 : (List (ByteArray × ByteArray × Unit))) (x1 : (List (ByteArray × ByteArray × Unit))) : funK laws_eqEntryS_E Tryz.f29 [.val (.row false S53), .val (.row false S53)] [.bool] (.pair .bool .unit) (fun i => look [(0, ⟨laws_eqEntryS_P0, laws_eqEntryS_O0, [], [], laws_eqEntryS_k0 N⟩)] i) N (x0, x1, ()) = laws_eqEntryS_k N x0 x1 := by kernel_rfl
theorem laws_eqEntryS_o : Known Tryz.prog 29 ⟨[.val (.row false S53), .val (.row false S53)], [.bool], (.pair .bool .unit), laws_eqEntryS⟩ := known_of (tab := tyTab) (cons := laws_eqEntryS_s) (segs := [(0, ⟨laws_eqEntryS_P0, laws_eqEntryS_O0, [], [], laws_eqEntryS_k0 fuel⟩)]) (n := fuel) mixed_ok tab_ok (.cons laws_eqEntry_o .nil) Tryz.func29 (by kernel_rfl) ⟨⟨fun _ _ => rfl, fun n k x => laws_eqEntryS_r0 fuel n k x⟩, trivial⟩ (fun x => laws_eqEntryS_f_eq fuel x.1 x.2.1)
def laws_eqArchive_k (N : Nat) (x0 : (Bool × ((List ByteArray) × (List (Int × ByteArray × Unit)) × Unit) × (Int × Int × Int × Unit) × (List (ByteArray × ByteArray × Unit)) × Unit)) (x1 : (Bool × ((List ByteArray) × (List (Int × ByteArray × Unit)) × Unit) × (Int × Int × Int × Unit) × (List (ByteArray × ByteArray × Unit)) × Unit)) : Option (Unit × (Bool × Unit)) :=
  tb (bnot (beq x0.1 x1.1))
  (some ((), false, ()))
  (obind (laws_eqDisk ((x0.2.1.1, x0.2.1.2.1, ()), (x1.2.1.1, x1.2.1.2.1, ()), ())) fun v0 =>
    tb (bnot v0.2.1)
    (some ((), false, ()))
    (obind (laws_eqHead ((x0.2.2.1.1, x0.2.2.1.2.1, x0.2.2.1.2.2.1, ()), (x1.2.2.1.1, x1.2.2.1.2.1, x1.2.2.1.2.2.1, ()), ())) fun v1 =>
      tb (bnot v1.2.1)
      (some ((), false, ()))
      (obind (laws_eqEntryS (x0.2.2.2.1, x1.2.2.2.1, ())) fun v2 =>
        tb (bnot v2.2.1)
        (some ((), false, ()))
        (some ((), true, ())))))
def laws_eqArchive (x : ((Bool × ((List ByteArray) × (List (Int × ByteArray × Unit)) × Unit) × (Int × Int × Int × Unit) × (List (ByteArray × ByteArray × Unit)) × Unit) × (Bool × ((List ByteArray) × (List (Int × ByteArray × Unit)) × Unit) × (Int × Int × Int × Unit) × (List (ByteArray × ByteArray × Unit)) × Unit) × Unit)) : Option (Unit × (Bool × Unit)) := laws_eqArchive_k fuel x.1 x.2.1
def laws_eqArchive_s : List (Nat × Con) := [(27, ⟨[.val S36, .val S36], [.bool], (.pair .bool .unit), laws_eqDisk⟩), (28, ⟨[.val S37, .val S37], [.bool], (.pair .bool .unit), laws_eqHead⟩), (29, ⟨[.val (.row false S53), .val (.row false S53)], [.bool], (.pair .bool .unit), laws_eqEntryS⟩)]
def laws_eqArchive_E : Env := ⟨fun j => (look tyTab j).getD .unit, fun j => look laws_eqArchive_s j⟩
theorem laws_eqArchive_f_eq (N : Nat) (x0 : (Bool × ((List ByteArray) × (List (Int × ByteArray × Unit)) × Unit) × (Int × Int × Int × Unit) × (List (ByteArray × ByteArray × Unit)) × Unit)) (x1 : (Bool × ((List ByteArray) × (List (Int × ByteArray × Unit)) × Unit) × (Int × Int × Int × Unit) × (List (ByteArray × ByteArray × Unit)) × Unit)) : funK laws_eqArchive_E Tryz.f11 [.val S40, .val S40] [.bool] (.pair .bool .unit) (fun i => look [] i) N (x0, x1, ()) = laws_eqArchive_k N x0 x1 := by kernel_rfl
theorem laws_eqArchive_o : Known Tryz.prog 11 ⟨[.val S40, .val S40], [.bool], (.pair .bool .unit), laws_eqArchive⟩ := known_of (tab := tyTab) (cons := laws_eqArchive_s) (segs := []) (n := fuel) mixed_ok tab_ok (.cons laws_eqDisk_o (.cons laws_eqHead_o (.cons laws_eqEntryS_o .nil))) Tryz.func11 (by kernel_rfl) trivial (fun x => laws_eqArchive_f_eq fuel x.1 x.2.1)
def laws_markText_P0 : Tpl := ⟨[(0, .one (.leaf (.int .i64))), (3, .one (.leaf .str))], [], []⟩
def laws_markText_O0 : Tpl := ⟨[(3, .one (.leaf .str))], [], []⟩
def laws_markText_k0 (N : Nat) : Nat → (((ByteArray × Unit) × (Unit × Unit)) → Option (Unit × (ByteArray × Unit))) → ((Int × ByteArray × Unit) × (Unit × Unit)) → Option (Unit × (ByteArray × Unit))
  | 0, _, _ => none
  | n + 1, k, x =>
    tb (ilt 0 x.1.1)
    (chk ((10 : Int) = 0) (none) (chk ((plus (slen (strOf [(wr .u8 (wr .i64 (48 + (Int.tmod x.1.1 10))))])) (slen x.1.2.1)) < slim) (chk ((10 : Int) = 0) (none) (laws_markText_k0 N n k (((wr .i64 (Int.tdiv x.1.1 10)), (sapp (strOf [(wr .u8 (wr .i64 (48 + (Int.tmod x.1.1 10))))]) x.1.2.1), ()), (), ()))) (none)))
    (k ((x.1.2.1, ()), (), ()))
def laws_markText_k (N : Nat) (x0 : Int) : Option (Unit × (ByteArray × Unit)) :=
  tb (ile x0 0)
  (some ((), (⟨#[109, 48]⟩ : ByteArray), ()))
  (laws_markText_k0 N N (fun v0 =>
      chk ((plus (slen (⟨#[109]⟩ : ByteArray)) (slen v0.1.1)) < slim) (some ((), (sapp (⟨#[109]⟩ : ByteArray) v0.1.1), ())) (none)) ((x0, (⟨#[]⟩ : ByteArray), ()), (), ()))
def laws_markText (x : (Int × Unit)) : Option (Unit × (ByteArray × Unit)) := laws_markText_k fuel x.1
def laws_markText_s : List (Nat × Con) := []
def laws_markText_E : Env := ⟨fun j => (look tyTab j).getD .unit, fun j => look laws_markText_s j⟩
theorem laws_markText_r0 (N n : Nat) (k : laws_markText_O0.ty.den → Option (Unit × (ByteArray × Unit))) (x : laws_markText_P0.ty.den) : roundK laws_markText_E ⟨Tryz.f32.ntmps, N, (fun i => look [(0, ⟨laws_markText_P0, laws_markText_O0, [], [], laws_markText_k0 N⟩)] i), retK laws_markText_E Tryz.f32 [.val (.int .i64)] [.str] (.pair .str .unit)⟩ (Tryz.f32.body.getD .skip) 0 ⟨laws_markText_P0, laws_markText_O0, [], [], laws_markText_k0 N⟩ (laws_markText_k0 N n k) k x = laws_markText_k0 N (n + 1) k x := by kernel_rfl
theorem laws_markText_f_eq (N : Nat) (x0 : Int) : funK laws_markText_E Tryz.f32 [.val (.int .i64)] [.str] (.pair .str .unit) (fun i => look [(0, ⟨laws_markText_P0, laws_markText_O0, [], [], laws_markText_k0 N⟩)] i) N (x0, ()) = laws_markText_k N x0 := by kernel_rfl
theorem laws_markText_o : Known Tryz.prog 32 ⟨[.val (.int .i64)], [.str], (.pair .str .unit), laws_markText⟩ := known_of (tab := tyTab) (cons := laws_markText_s) (segs := [(0, ⟨laws_markText_P0, laws_markText_O0, [], [], laws_markText_k0 fuel⟩)]) (n := fuel) mixed_ok tab_ok .nil Tryz.func32 (by kernel_rfl) ⟨⟨fun _ _ => rfl, fun n k x => laws_markText_r0 fuel n k x⟩, trivial⟩ (fun x => laws_markText_f_eq fuel x.1)
def laws_markStringS_P0 : Tpl := ⟨[(0, .one (.fix (.ref 500 [] none))), (1, .one (.leaf (.int .i64))), (5, .one (.leaf (.int .i64)))], [], [(500, .str)]⟩
def laws_markStringS_O0 : Tpl := ⟨[(1, .one (.leaf (.int .i64)))], [], [(500, .str)]⟩
def laws_markStringS_k0 (N : Nat) : Nat → (((Int × Unit) × (Unit × ((List ByteArray) × Unit))) → Option (((List ByteArray) × Unit) × (Int × Unit))) → ((Int × Int × Unit) × (Unit × ((List ByteArray) × Unit))) → Option (((List ByteArray) × Unit) × (Int × Unit))
  | 0, _, _ => none
  | n + 1, k, x =>
    tb (ilt x.1.2.1 (((llen x.2.2.1) : Nat) : Int))
    (obind (laws_markText (x.1.1, ())) fun v0 =>
      chk ((0 ≤ x.1.2.1) ∧ (x.1.2.1 < (((llen x.2.2.1) : Nat) : Int))) (obind (at? x.2.2.1 (Int.toNat x.1.2.1)) fun v1 =>
        laws_markStringS_k0 N n k (((wr .i64 (x.1.1 + 1)), (wr .i64 (x.1.2.1 + 1)), ()), (), (lset x.2.2.1 (Int.toNat x.1.2.1) v0.2.1), ())) (none))
    (k ((x.1.1, ()), (), x.2.2.1, ()))
def laws_markStringS_k (N : Nat) (x0 : (List ByteArray)) (x1 : Int) : Option (((List ByteArray) × Unit) × (Int × Unit)) :=
  laws_markStringS_k0 N N (fun v0 =>
    some ((v0.2.2.1, ()), v0.1.1, ())) ((x1, 0, ()), (), x0, ())
def laws_markStringS (x : ((List ByteArray) × Int × Unit)) : Option (((List ByteArray) × Unit) × (Int × Unit)) := laws_markStringS_k fuel x.1 x.2.1
def laws_markStringS_s : List (Nat × Con) := [(32, ⟨[.val (.int .i64)], [.str], (.pair .str .unit), laws_markText⟩)]
def laws_markStringS_E : Env := ⟨fun j => (look tyTab j).getD .unit, fun j => look laws_markStringS_s j⟩
theorem laws_markStringS_r0 (N n : Nat) (k : laws_markStringS_O0.ty.den → Option (((List ByteArray) × Unit) × (Int × Unit))) (x : laws_markStringS_P0.ty.den) : roundK laws_markStringS_E ⟨Tryz.f13.ntmps, N, (fun i => look [(0, ⟨laws_markStringS_P0, laws_markStringS_O0, [], [], laws_markStringS_k0 N⟩)] i), retK laws_markStringS_E Tryz.f13 [.bor (.row true .str), .val (.int .i64)] [(.int .i64)] (.pair (.int .i64) .unit)⟩ (Tryz.f13.body.getD .skip) 0 ⟨laws_markStringS_P0, laws_markStringS_O0, [], [], laws_markStringS_k0 N⟩ (laws_markStringS_k0 N n k) k x = laws_markStringS_k0 N (n + 1) k x := by kernel_rfl
theorem laws_markStringS_f_eq (N : Nat) (x0 : (List ByteArray)) (x1 : Int) : funK laws_markStringS_E Tryz.f13 [.bor (.row true .str), .val (.int .i64)] [(.int .i64)] (.pair (.int .i64) .unit) (fun i => look [(0, ⟨laws_markStringS_P0, laws_markStringS_O0, [], [], laws_markStringS_k0 N⟩)] i) N (x0, x1, ()) = laws_markStringS_k N x0 x1 := by kernel_rfl
theorem laws_markStringS_o : Known Tryz.prog 13 ⟨[.bor (.row true .str), .val (.int .i64)], [(.int .i64)], (.pair (.int .i64) .unit), laws_markStringS⟩ := known_of (tab := tyTab) (cons := laws_markStringS_s) (segs := [(0, ⟨laws_markStringS_P0, laws_markStringS_O0, [], [], laws_markStringS_k0 fuel⟩)]) (n := fuel) mixed_ok tab_ok (.cons laws_markText_o .nil) Tryz.func13 (by kernel_rfl) ⟨⟨fun _ _ => rfl, fun n k x => laws_markStringS_r0 fuel n k x⟩, trivial⟩ (fun x => laws_markStringS_f_eq fuel x.1 x.2.1)
def laws_markPutS_P0 : Tpl := ⟨[(0, .one (.fix (.ref 500 [] none))), (1, .one (.leaf (.int .i64))), (5, .one (.leaf (.int .i64)))], [], [(500, (.pair (.int .i64) (.pair .str .unit)))]⟩
def laws_markPutS_O0 : Tpl := ⟨[(1, .one (.leaf (.int .i64)))], [], [(500, (.pair (.int .i64) (.pair .str .unit)))]⟩
def laws_markPutS_k0 (N : Nat) : Nat → (((Int × Unit) × (Unit × ((List (Int × (ByteArray × Unit))) × Unit))) → Option (((List (Int × ByteArray × Unit)) × Unit) × (Int × Unit))) → ((Int × Int × Unit) × (Unit × ((List (Int × (ByteArray × Unit))) × Unit))) → Option (((List (Int × ByteArray × Unit)) × Unit) × (Int × Unit))
  | 0, _, _ => none
  | n + 1, k, x =>
    tb (ilt x.1.2.1 (((llen x.2.2.1) : Nat) : Int))
    (chk ((0 ≤ x.1.2.1) ∧ (x.1.2.1 < (((llen x.2.2.1) : Nat) : Int))) (obind (at? x.2.2.1 (Int.toNat x.1.2.1)) fun v0 =>
        obind (laws_markText ((wr .i64 (x.1.1 + 1)), ())) fun v1 =>
        chk ((0 ≤ x.1.2.1) ∧ (x.1.2.1 < (((llen (lset x.2.2.1 (Int.toNat x.1.2.1) (x.1.1, v0.2))) : Nat) : Int))) (obind (at? (lset x.2.2.1 (Int.toNat x.1.2.1) (x.1.1, v0.2)) (Int.toNat x.1.2.1)) fun v2 =>
          laws_markPutS_k0 N n k (((wr .i64 ((wr .i64 (x.1.1 + 1)) + 1)), (wr .i64 (x.1.2.1 + 1)), ()), (), (lset (lset x.2.2.1 (Int.toNat x.1.2.1) (x.1.1, v0.2)) (Int.toNat x.1.2.1) (v2.1, v1.2.1, v2.2.2)), ())) (none)) (none))
    (k ((x.1.1, ()), (), x.2.2.1, ()))
def laws_markPutS_k (N : Nat) (x0 : (List (Int × ByteArray × Unit))) (x1 : Int) : Option (((List (Int × ByteArray × Unit)) × Unit) × (Int × Unit)) :=
  laws_markPutS_k0 N N (fun v0 =>
    some ((v0.2.2.1, ()), v0.1.1, ())) ((x1, 0, ()), (), x0, ())
def laws_markPutS (x : ((List (Int × ByteArray × Unit)) × Int × Unit)) : Option (((List (Int × ByteArray × Unit)) × Unit) × (Int × Unit)) := laws_markPutS_k fuel x.1 x.2.1
def laws_markPutS_s : List (Nat × Con) := [(32, ⟨[.val (.int .i64)], [.str], (.pair .str .unit), laws_markText⟩)]
def laws_markPutS_E : Env := ⟨fun j => (look tyTab j).getD .unit, fun j => look laws_markPutS_s j⟩
theorem laws_markPutS_r0 (N n : Nat) (k : laws_markPutS_O0.ty.den → Option (((List (Int × ByteArray × Unit)) × Unit) × (Int × Unit))) (x : laws_markPutS_P0.ty.den) : roundK laws_markPutS_E ⟨Tryz.f60.ntmps, N, (fun i => look [(0, ⟨laws_markPutS_P0, laws_markPutS_O0, [], [], laws_markPutS_k0 N⟩)] i), retK laws_markPutS_E Tryz.f60 [.bor (.row true T90), .val (.int .i64)] [(.int .i64)] (.pair (.int .i64) .unit)⟩ (Tryz.f60.body.getD .skip) 0 ⟨laws_markPutS_P0, laws_markPutS_O0, [], [], laws_markPutS_k0 N⟩ (laws_markPutS_k0 N n k) k x = laws_markPutS_k0 N (n + 1) k x := by kernel_rfl
theorem laws_markPutS_f_eq (N : Nat) (x0 : (List (Int × ByteArray × Unit))) (x1 : Int) : funK laws_markPutS_E Tryz.f60 [.bor (.row true T90), .val (.int .i64)] [(.int .i64)] (.pair (.int .i64) .unit) (fun i => look [(0, ⟨laws_markPutS_P0, laws_markPutS_O0, [], [], laws_markPutS_k0 N⟩)] i) N (x0, x1, ()) = laws_markPutS_k N x0 x1 := by kernel_rfl
theorem laws_markPutS_o : Known Tryz.prog 60 ⟨[.bor (.row true T90), .val (.int .i64)], [(.int .i64)], (.pair (.int .i64) .unit), laws_markPutS⟩ := known_of (tab := tyTab) (cons := laws_markPutS_s) (segs := [(0, ⟨laws_markPutS_P0, laws_markPutS_O0, [], [], laws_markPutS_k0 fuel⟩)]) (n := fuel) mixed_ok tab_ok (.cons laws_markText_o .nil) Tryz.func60 (by kernel_rfl) ⟨⟨fun _ _ => rfl, fun n k x => laws_markPutS_r0 fuel n k x⟩, trivial⟩ (fun x => laws_markPutS_f_eq fuel x.1 x.2.1)
def laws_markDisk_k (N : Nat) (x0 : ((List ByteArray) × (List (Int × ByteArray × Unit)) × Unit)) (x1 : Int) : Option ((((List ByteArray) × (List (Int × ByteArray × Unit)) × Unit) × Unit) × (Int × Unit)) :=
  obind (laws_markStringS (x0.1, x1, ())) fun v0 =>
  obind (laws_markPutS (x0.2.1, v0.2.1, ())) fun v1 =>
  some (((v0.1.1, v1.1.1, ()), ()), v1.2.1, ())
def laws_markDisk (x : (((List ByteArray) × (List (Int × ByteArray × Unit)) × Unit) × Int × Unit)) : Option ((((List ByteArray) × (List (Int × ByteArray × Unit)) × Unit) × Unit) × (Int × Unit)) := laws_markDisk_k fuel x.1 x.2.1
def laws_markDisk_s : List (Nat × Con) := [(13, ⟨[.bor (.row true .str), .val (.int .i64)], [(.int .i64)], (.pair (.int .i64) .unit), laws_markStringS⟩), (60, ⟨[.bor (.row true T90), .val (.int .i64)], [(.int .i64)], (.pair (.int .i64) .unit), laws_markPutS⟩)]
def laws_markDisk_E : Env := ⟨fun j => (look tyTab j).getD .unit, fun j => look laws_markDisk_s j⟩
theorem laws_markDisk_f_eq (N : Nat) (x0 : ((List ByteArray) × (List (Int × ByteArray × Unit)) × Unit)) (x1 : Int) : funK laws_markDisk_E Tryz.f30 [.bor T36, .val (.int .i64)] [(.int .i64)] (.pair (.int .i64) .unit) (fun i => look [] i) N (x0, x1, ()) = laws_markDisk_k N x0 x1 := by kernel_rfl
theorem laws_markDisk_o : Known Tryz.prog 30 ⟨[.bor T36, .val (.int .i64)], [(.int .i64)], (.pair (.int .i64) .unit), laws_markDisk⟩ := known_of (tab := tyTab) (cons := laws_markDisk_s) (segs := []) (n := fuel) mixed_ok tab_ok (.cons laws_markStringS_o (.cons laws_markPutS_o .nil)) Tryz.func30 (by kernel_rfl) trivial (fun x => laws_markDisk_f_eq fuel x.1 x.2.1)
def laws_markEntryS_P0 : Tpl := ⟨[(0, .one (.fix (.ref 500 [] none))), (1, .one (.leaf (.int .i64))), (5, .one (.leaf (.int .i64)))], [], [(500, (.pair .str (.pair .str .unit)))]⟩
def laws_markEntryS_O0 : Tpl := ⟨[(1, .one (.leaf (.int .i64)))], [], [(500, (.pair .str (.pair .str .unit)))]⟩
def laws_markEntryS_k0 (N : Nat) : Nat → (((Int × Unit) × (Unit × ((List (ByteArray × (ByteArray × Unit))) × Unit))) → Option (((List (ByteArray × ByteArray × Unit)) × Unit) × (Int × Unit))) → ((Int × Int × Unit) × (Unit × ((List (ByteArray × (ByteArray × Unit))) × Unit))) → Option (((List (ByteArray × ByteArray × Unit)) × Unit) × (Int × Unit))
  | 0, _, _ => none
  | n + 1, k, x =>
    tb (ilt x.1.2.1 (((llen x.2.2.1) : Nat) : Int))
    (obind (laws_markText (x.1.1, ())) fun v0 =>
      chk ((0 ≤ x.1.2.1) ∧ (x.1.2.1 < (((llen x.2.2.1) : Nat) : Int))) (obind (at? x.2.2.1 (Int.toNat x.1.2.1)) fun v1 =>
        obind (laws_markText ((wr .i64 (x.1.1 + 1)), ())) fun v2 =>
        chk ((0 ≤ x.1.2.1) ∧ (x.1.2.1 < (((llen (lset x.2.2.1 (Int.toNat x.1.2.1) (v0.2.1, v1.2))) : Nat) : Int))) (obind (at? (lset x.2.2.1 (Int.toNat x.1.2.1) (v0.2.1, v1.2)) (Int.toNat x.1.2.1)) fun v3 =>
          laws_markEntryS_k0 N n k (((wr .i64 ((wr .i64 (x.1.1 + 1)) + 1)), (wr .i64 (x.1.2.1 + 1)), ()), (), (lset (lset x.2.2.1 (Int.toNat x.1.2.1) (v0.2.1, v1.2)) (Int.toNat x.1.2.1) (v3.1, v2.2.1, v3.2.2)), ())) (none)) (none))
    (k ((x.1.1, ()), (), x.2.2.1, ()))
def laws_markEntryS_k (N : Nat) (x0 : (List (ByteArray × ByteArray × Unit))) (x1 : Int) : Option (((List (ByteArray × ByteArray × Unit)) × Unit) × (Int × Unit)) :=
  laws_markEntryS_k0 N N (fun v0 =>
    some ((v0.2.2.1, ()), v0.1.1, ())) ((x1, 0, ()), (), x0, ())
def laws_markEntryS (x : ((List (ByteArray × ByteArray × Unit)) × Int × Unit)) : Option (((List (ByteArray × ByteArray × Unit)) × Unit) × (Int × Unit)) := laws_markEntryS_k fuel x.1 x.2.1
def laws_markEntryS_s : List (Nat × Con) := [(32, ⟨[.val (.int .i64)], [.str], (.pair .str .unit), laws_markText⟩)]
def laws_markEntryS_E : Env := ⟨fun j => (look tyTab j).getD .unit, fun j => look laws_markEntryS_s j⟩
theorem laws_markEntryS_r0 (N n : Nat) (k : laws_markEntryS_O0.ty.den → Option (((List (ByteArray × ByteArray × Unit)) × Unit) × (Int × Unit))) (x : laws_markEntryS_P0.ty.den) : roundK laws_markEntryS_E ⟨Tryz.f31.ntmps, N, (fun i => look [(0, ⟨laws_markEntryS_P0, laws_markEntryS_O0, [], [], laws_markEntryS_k0 N⟩)] i), retK laws_markEntryS_E Tryz.f31 [.bor (.row true T53), .val (.int .i64)] [(.int .i64)] (.pair (.int .i64) .unit)⟩ (Tryz.f31.body.getD .skip) 0 ⟨laws_markEntryS_P0, laws_markEntryS_O0, [], [], laws_markEntryS_k0 N⟩ (laws_markEntryS_k0 N n k) k x = laws_markEntryS_k0 N (n + 1) k x := by kernel_rfl
theorem laws_markEntryS_f_eq (N : Nat) (x0 : (List (ByteArray × ByteArray × Unit))) (x1 : Int) : funK laws_markEntryS_E Tryz.f31 [.bor (.row true T53), .val (.int .i64)] [(.int .i64)] (.pair (.int .i64) .unit) (fun i => look [(0, ⟨laws_markEntryS_P0, laws_markEntryS_O0, [], [], laws_markEntryS_k0 N⟩)] i) N (x0, x1, ()) = laws_markEntryS_k N x0 x1 := by kernel_rfl
theorem laws_markEntryS_o : Known Tryz.prog 31 ⟨[.bor (.row true T53), .val (.int .i64)], [(.int .i64)], (.pair (.int .i64) .unit), laws_markEntryS⟩ := known_of (tab := tyTab) (cons := laws_markEntryS_s) (segs := [(0, ⟨laws_markEntryS_P0, laws_markEntryS_O0, [], [], laws_markEntryS_k0 fuel⟩)]) (n := fuel) mixed_ok tab_ok (.cons laws_markText_o .nil) Tryz.func31 (by kernel_rfl) ⟨⟨fun _ _ => rfl, fun n k x => laws_markEntryS_r0 fuel n k x⟩, trivial⟩ (fun x => laws_markEntryS_f_eq fuel x.1 x.2.1)
def laws_markArchive_k (N : Nat) (x0 : (Bool × ((List ByteArray) × (List (Int × ByteArray × Unit)) × Unit) × (Int × Int × Int × Unit) × (List (ByteArray × ByteArray × Unit)) × Unit)) (x1 : Int) : Option (((Unit × ((List ByteArray) × (List (Int × ByteArray × Unit)) × Unit) × (Unit × Unit × Unit × Unit) × (List (ByteArray × ByteArray × Unit)) × Unit) × Unit) × (Int × Unit)) :=
  obind (laws_markDisk ((x0.2.1.1, x0.2.1.2.1, ()), x1, ())) fun v0 =>
  obind (laws_markEntryS (x0.2.2.2.1, v0.2.1, ())) fun v1 =>
  some ((((), (v0.1.1.1, v0.1.1.2.1, ()), ((), (), (), ()), v1.1.1, ()), ()), v1.2.1, ())
def laws_markArchive (x : ((Bool × ((List ByteArray) × (List (Int × ByteArray × Unit)) × Unit) × (Int × Int × Int × Unit) × (List (ByteArray × ByteArray × Unit)) × Unit) × Int × Unit)) : Option (((Unit × ((List ByteArray) × (List (Int × ByteArray × Unit)) × Unit) × (Unit × Unit × Unit × Unit) × (List (ByteArray × ByteArray × Unit)) × Unit) × Unit) × (Int × Unit)) := laws_markArchive_k fuel x.1 x.2.1
def laws_markArchive_s : List (Nat × Con) := [(30, ⟨[.bor T36, .val (.int .i64)], [(.int .i64)], (.pair (.int .i64) .unit), laws_markDisk⟩), (31, ⟨[.bor (.row true T53), .val (.int .i64)], [(.int .i64)], (.pair (.int .i64) .unit), laws_markEntryS⟩)]
def laws_markArchive_E : Env := ⟨fun j => (look tyTab j).getD .unit, fun j => look laws_markArchive_s j⟩
theorem laws_markArchive_f_eq (N : Nat) (x0 : (Bool × ((List ByteArray) × (List (Int × ByteArray × Unit)) × Unit) × (Int × Int × Int × Unit) × (List (ByteArray × ByteArray × Unit)) × Unit)) (x1 : Int) : funK laws_markArchive_E Tryz.f12 [.bor T40, .val (.int .i64)] [(.int .i64)] (.pair (.int .i64) .unit) (fun i => look [] i) N (x0, x1, ()) = laws_markArchive_k N x0 x1 := by kernel_rfl
theorem laws_markArchive_o : Known Tryz.prog 12 ⟨[.bor T40, .val (.int .i64)], [(.int .i64)], (.pair (.int .i64) .unit), laws_markArchive⟩ := known_of (tab := tyTab) (cons := laws_markArchive_s) (segs := []) (n := fuel) mixed_ok tab_ok (.cons laws_markDisk_o (.cons laws_markEntryS_o .nil)) Tryz.func12 (by kernel_rfl) trivial (fun x => laws_markArchive_f_eq fuel x.1 x.2.1)
def laws_heldStringS_P0 : Tpl := ⟨[(0, .one (.leaf (.row false .str))), (1, .one (.leaf (.int .i64))), (5, .one (.leaf (.int .i64)))], [], []⟩
def laws_heldStringS_O0 : Tpl := ⟨[(1, .one (.leaf (.int .i64)))], [], []⟩
def laws_heldStringS_k0 (N : Nat) : Nat → (((Int × Unit) × (Unit × Unit)) → Option (Unit × (Int × Unit))) → (((List ByteArray) × Int × Int × Unit) × (Unit × Unit)) → Option (Unit × (Int × Unit))
  | 0, _, _ => none
  | n + 1, k, x =>
    tb (ilt x.1.2.2.1 (((llen x.1.1) : Nat) : Int))
    (chk (0 ≤ x.1.2.2.1) (obind (at? x.1.1 (Int.toNat x.1.2.2.1)) fun v0 =>
        obind (laws_markText (x.1.2.1, ())) fun v1 =>
        tb (bnot (seq v0 v1.2.1))
        (some ((), (-1), ()))
        (laws_heldStringS_k0 N n k ((x.1.1, (wr .i64 (x.1.2.1 + 1)), (wr .i64 (x.1.2.2.1 + 1)), ()), (), ()))) (none))
    (k ((x.1.2.1, ()), (), ()))
def laws_heldStringS_k (N : Nat) (x0 : (List ByteArray)) (x1 : Int) : Option (Unit × (Int × Unit)) :=
  laws_heldStringS_k0 N N (fun v0 =>
    some ((), v0.1.1, ())) ((x0, x1, 0, ()), (), ())
def laws_heldStringS (x : ((List ByteArray) × Int × Unit)) : Option (Unit × (Int × Unit)) := laws_heldStringS_k fuel x.1 x.2.1
def laws_heldStringS_s : List (Nat × Con) := [(32, ⟨[.val (.int .i64)], [.str], (.pair .str .unit), laws_markText⟩)]
def laws_heldStringS_E : Env := ⟨fun j => (look tyTab j).getD .unit, fun j => look laws_heldStringS_s j⟩
theorem laws_heldStringS_r0 (N n : Nat) (k : laws_heldStringS_O0.ty.den → Option (Unit × (Int × Unit))) (x : laws_heldStringS_P0.ty.den) : roundK laws_heldStringS_E ⟨Tryz.f14.ntmps, N, (fun i => look [(0, ⟨laws_heldStringS_P0, laws_heldStringS_O0, [], [], laws_heldStringS_k0 N⟩)] i), retK laws_heldStringS_E Tryz.f14 [.val (.row false .str), .val (.int .i64)] [(.int .i64)] (.pair (.int .i64) .unit)⟩ (Tryz.f14.body.getD .skip) 0 ⟨laws_heldStringS_P0, laws_heldStringS_O0, [], [], laws_heldStringS_k0 N⟩ (laws_heldStringS_k0 N n k) k x = laws_heldStringS_k0 N (n + 1) k x := by kernel_rfl
theorem laws_heldStringS_f_eq (N : Nat) (x0 : (List ByteArray)) (x1 : Int) : funK laws_heldStringS_E Tryz.f14 [.val (.row false .str), .val (.int .i64)] [(.int .i64)] (.pair (.int .i64) .unit) (fun i => look [(0, ⟨laws_heldStringS_P0, laws_heldStringS_O0, [], [], laws_heldStringS_k0 N⟩)] i) N (x0, x1, ()) = laws_heldStringS_k N x0 x1 := by kernel_rfl
theorem laws_heldStringS_o : Known Tryz.prog 14 ⟨[.val (.row false .str), .val (.int .i64)], [(.int .i64)], (.pair (.int .i64) .unit), laws_heldStringS⟩ := known_of (tab := tyTab) (cons := laws_heldStringS_s) (segs := [(0, ⟨laws_heldStringS_P0, laws_heldStringS_O0, [], [], laws_heldStringS_k0 fuel⟩)]) (n := fuel) mixed_ok tab_ok (.cons laws_markText_o .nil) Tryz.func14 (by kernel_rfl) ⟨⟨fun _ _ => rfl, fun n k x => laws_heldStringS_r0 fuel n k x⟩, trivial⟩ (fun x => laws_heldStringS_f_eq fuel x.1 x.2.1)
def laws_FnExactArchiveUrls_k (N : Nat) (x0 : (Bool × ((List ByteArray) × (List (Int × ByteArray × Unit)) × Unit) × (Int × Int × Int × Unit) × (List (ByteArray × ByteArray × Unit)) × Unit)) : Option (Unit × (Bool × Unit)) :=
  obind (laws_szArchive ((x0.1, (x0.2.1.1, x0.2.1.2.1, ()), (x0.2.2.1.1, x0.2.2.1.2.1, x0.2.2.1.2.2.1, ()), x0.2.2.2.1, ()), 1048576, ())) fun v0 =>
  tb (ilt v0.2.1 0)
  (some ((), true, ()))
  (obind (laws_toArchive ((x0.1, (x0.2.1.1, x0.2.1.2.1, ()), (x0.2.2.1.1, x0.2.2.1.2.1, x0.2.2.1.2.2.1, ()), x0.2.2.2.1, ()), ())) fun v1 =>
    obind (spec_ArchiveUrls ((v1.2.1.1, (v1.2.1.2.1.1, v1.2.1.2.1.2.1, ()), (v1.2.1.2.2.1.1, v1.2.1.2.2.1.2.1, v1.2.1.2.2.1.2.2.1, ()), v1.2.1.2.2.2.1, ()), ())) fun v2 =>
    obind (laws_toArchive ((x0.1, (x0.2.1.1, x0.2.1.2.1, ()), (x0.2.2.1.1, x0.2.2.1.2.1, x0.2.2.1.2.2.1, ()), x0.2.2.2.1, ()), ())) fun v3 =>
    obind (impl_ArchiveUrls ((v3.2.1.1, (v3.2.1.2.1.1, v3.2.1.2.1.2.1, ()), (v3.2.1.2.2.1.1, v3.2.1.2.2.1.2.1, v3.2.1.2.2.1.2.2.1, ()), v3.2.1.2.2.2.1, ()), ())) fun v4 =>
    obind (laws_eqStringS (v4.2.1, v2.2.1, ())) fun v5 =>
    tb (bnot v5.2.1)
    (some ((), false, ()))
    (tb (bnot (ieq v4.2.2.1 v2.2.2.1))
      (some ((), false, ()))
      (obind (laws_toArchive ((x0.1, (x0.2.1.1, x0.2.1.2.1, ()), (x0.2.2.1.1, x0.2.2.1.2.1, x0.2.2.1.2.2.1, ()), x0.2.2.2.1, ()), ())) fun v6 =>
        obind (laws_eqArchive ((v3.2.1.1, (v3.2.1.2.1.1, v3.2.1.2.1.2.1, ()), (v3.2.1.2.2.1.1, v3.2.1.2.2.1.2.1, v3.2.1.2.2.1.2.2.1, ()), v3.2.1.2.2.2.1, ()), (v6.2.1.1, (v6.2.1.2.1.1, v6.2.1.2.1.2.1, ()), (v6.2.1.2.2.1.1, v6.2.1.2.2.1.2.1, v6.2.1.2.2.1.2.2.1, ()), v6.2.1.2.2.2.1, ()), ())) fun v7 =>
        tb (bnot v7.2.1)
        (some ((), false, ()))
        (obind (laws_markArchive ((v3.2.1.1, (v3.2.1.2.1.1, v3.2.1.2.1.2.1, ()), (v3.2.1.2.2.1.1, v3.2.1.2.2.1.2.1, v3.2.1.2.2.1.2.2.1, ()), v3.2.1.2.2.2.1, ()), 1, ())) fun v8 =>
          tb (ilt v8.2.1 0)
          (some ((), false, ()))
          (obind (laws_eqStringS (v4.2.1, v2.2.1, ())) fun v9 =>
            tb (bnot v9.2.1)
            (some ((), false, ()))
            (tb (bnot (ieq v4.2.2.1 v2.2.2.1))
              (some ((), false, ()))
              (obind (laws_markStringS (v4.2.1, 1, ())) fun v10 =>
                obind (laws_heldStringS (v10.1.1, 1, ())) fun v11 =>
                tb (ilt v11.2.1 0)
                (some ((), false, ()))
                (tb (bnot (ieq v11.2.1 v10.2.1))
                  (some ((), false, ()))
                  (obind (laws_toArchive ((x0.1, (x0.2.1.1, x0.2.1.2.1, ()), (x0.2.2.1.1, x0.2.2.1.2.1, x0.2.2.1.2.2.1, ()), x0.2.2.2.1, ()), ())) fun v12 =>
                    obind (impl_ArchiveUrls ((v12.2.1.1, (v12.2.1.2.1.1, v12.2.1.2.1.2.1, ()), (v12.2.1.2.2.1.1, v12.2.1.2.2.1.2.1, v12.2.1.2.2.1.2.2.1, ()), v12.2.1.2.2.2.1, ()), ())) fun v13 =>
                    obind (laws_eqStringS (v13.2.1, v2.2.1, ())) fun v14 =>
                    tb (bnot v14.2.1)
                    (some ((), false, ()))
                    (tb (bnot (ieq v13.2.2.1 v2.2.2.1))
                      (some ((), false, ()))
                      (obind (laws_heldStringS (v10.1.1, 1, ())) fun v15 =>
                        tb (ilt v15.2.1 0)
                        (some ((), false, ()))
                        (tb (bnot (ieq v15.2.1 v10.2.1))
                          (some ((), false, ()))
                          (some ((), true, ()))))))))))))))
def laws_FnExactArchiveUrls (x : ((Bool × ((List ByteArray) × (List (Int × ByteArray × Unit)) × Unit) × (Int × Int × Int × Unit) × (List (ByteArray × ByteArray × Unit)) × Unit) × Unit)) : Option (Unit × (Bool × Unit)) := laws_FnExactArchiveUrls_k fuel x.1
def laws_FnExactArchiveUrls_s : List (Nat × Con) := [(6, ⟨[.val S30, .val (.int .i64)], [(.int .i64)], (.pair (.int .i64) .unit), laws_szArchive⟩), (7, ⟨[.val S40], [(.row true .str), (.int .i64)], (.pair (.row true .str) (.pair (.int .i64) .unit)), spec_ArchiveUrls⟩), (8, ⟨[.val S30], [T40], (.pair T40 .unit), laws_toArchive⟩), (9, ⟨[.val S40], [(.row true .str), (.int .i64)], (.pair (.row true .str) (.pair (.int .i64) .unit)), impl_ArchiveUrls⟩), (10, ⟨[.val (.row false .str), .val (.row false .str)], [.bool], (.pair .bool .unit), laws_eqStringS⟩), (11, ⟨[.val S40, .val S40], [.bool], (.pair .bool .unit), laws_eqArchive⟩), (12, ⟨[.bor T40, .val (.int .i64)], [(.int .i64)], (.pair (.int .i64) .unit), laws_markArchive⟩), (13, ⟨[.bor (.row true .str), .val (.int .i64)], [(.int .i64)], (.pair (.int .i64) .unit), laws_markStringS⟩), (14, ⟨[.val (.row false .str), .val (.int .i64)], [(.int .i64)], (.pair (.int .i64) .unit), laws_heldStringS⟩)]
def laws_FnExactArchiveUrls_E : Env := ⟨fun j => (look tyTab j).getD .unit, fun j => look laws_FnExactArchiveUrls_s j⟩
theorem laws_FnExactArchiveUrls_f_eq (N : Nat) (x0 : (Bool × ((List ByteArray) × (List (Int × ByteArray × Unit)) × Unit) × (Int × Int × Int × Unit) × (List (ByteArray × ByteArray × Unit)) × Unit)) : funK laws_FnExactArchiveUrls_E Tryz.f3 [.val S30] [.bool] (.pair .bool .unit) (fun i => look [] i) N (x0, ()) = laws_FnExactArchiveUrls_k N x0 := by kernel_rfl
theorem laws_FnExactArchiveUrls_o : Known Tryz.prog 3 ⟨[.val S30], [.bool], (.pair .bool .unit), laws_FnExactArchiveUrls⟩ := known_of (tab := tyTab) (cons := laws_FnExactArchiveUrls_s) (segs := []) (n := fuel) mixed_ok tab_ok (.cons laws_szArchive_o (.cons spec_ArchiveUrls_o (.cons laws_toArchive_o (.cons impl_ArchiveUrls_o (.cons laws_eqStringS_o (.cons laws_eqArchive_o (.cons laws_markArchive_o (.cons laws_markStringS_o (.cons laws_heldStringS_o .nil))))))))) Tryz.func3 (by kernel_rfl) trivial (fun x => laws_FnExactArchiveUrls_f_eq fuel x.1)
end Go.Proofs.YtekcpaiphcmfmaaGreat.V
namespace Go.Proofs.YtekcpaiphcmfmaaGreat.V
open Go Go.RowKit
theorem fuel_gt : 140737488351232 < fuel := by unfold fuel; omega
theorem all_loop {α S R : Type} {k : Nat → S → Option R} (st : Nat → S) (fin bad : Option R) (p : α → Bool) (xs : List α) (hend : ∀ n, k (n + 1) (st xs.length) = fin) (hstep : ∀ n i x, xs[i]? = some x → k (n + 1) (st i) = if p x = true then k n (st (i + 1)) else bad) :
    ∀ (post pre : List α) (n : Nat), xs = pre ++ post → post.length < n → k n (st pre.length) = if post.all p = true then fin else bad
  | [], pre, n, he, hn => by
    obtain ⟨m, rfl⟩ : ∃ m, n = m + 1 := ⟨n - 1, by simp at hn; omega⟩
    rw [show pre.length = xs.length by rw [he]; simp, hend]
    simp
  | x :: post, pre, n, he, hn => by
    obtain ⟨m, rfl⟩ : ∃ m, n = m + 1 := ⟨n - 1, by simp at hn; omega⟩
    rw [hstep m pre.length x (by rw [he]; exact get_split pre x post)]
    have := all_loop st fin bad p xs hend hstep post (pre ++ [x]) m (by rw [he]; simp) (by simp at hn; omega)
    rw [show (pre ++ [x]).length = pre.length + 1 by simp] at this
    rw [this, List.all_cons]
    cases p x <;> simp
theorem lt_of_get {α : Type} {xs : List α} {i : Nat} {x : α} (h : xs[i]? = some x) : i < xs.length := (List.getElem?_eq_some_iff.1 h).1
theorem mark_loop0 {K} : ∀ (n x : Nat) (s : ByteArray) (m : Nat), x < n → s.size + x ≤ 2199023255552 → x < m → (∃ r, laws_markText_k0 fuel m K (((x : Int), s, ()), (), ()) = K ((r, ()), (), ()) ∧ r.size ≤ 2199023255552)
  | 0, x, s, m, h, _, _ => by omega
  | n + 1, x, s, m, h, hs, hm => by
    obtain ⟨m, rfl⟩ : ∃ k, m = k + 1 := ⟨m - 1, by omega⟩
    rw [laws_markText_k0]
    simp only
    by_cases hx : x = 0
    · subst hx
      rw [tb_neg (ilt_f (by omega))]
      exact ⟨s, rfl, by omega⟩
    · have e1 : wr .i64 (Int.tdiv (x : Int) 10) = ((x / 10 : Nat) : Int) := by
        rw [Int.tdiv_eq_ediv_of_nonneg (by omega), wr64 (by omega) (by omega)]; omega
      have hz : ∀ y, (strOf [y]).size = 1 := fun y => rfl
      rw [tb_pos (ilt_t (by omega)), chk_neg (by decide), chk_pos (by simp only [plus, slen, hz, slim]; omega), chk_neg (by decide), e1]
      refine mark_loop0 n (x / 10) _ m (by omega) ?_ (by omega)
      rw [show (sapp (strOf [wr .u8 (wr .i64 (48 + Int.tmod (x : Int) 10))]) s).size = 1 + s.size by simp [sapp, hz]]
      omega
def mt (m : Int) : ByteArray := match laws_markText (m, ()) with | some r => r.2.1 | none => ⟨#[]⟩
theorem markText {m : Int} (h0 : 0 ≤ m) (h1 : m ≤ 1099511627777) : laws_markText (m, ()) = some ((), mt m, ()) := by
  have key : ∃ r, laws_markText (m, ()) = some ((), r, ()) := by
    unfold laws_markText laws_markText_k
    simp only
    by_cases h : m ≤ 0
    · rw [tb_pos (ile_t h)]; exact ⟨_, rfl⟩
    · rw [tb_neg (ile_f (by omega))]
      obtain ⟨x, rfl⟩ := Int.eq_ofNat_of_zero_le h0
      obtain ⟨r, e, hr⟩ := mark_loop0 (K := fun v0 => chk ((plus (slen (⟨#[109]⟩ : ByteArray)) (slen v0.1.1)) < slim) (some ((), (sapp (⟨#[109]⟩ : ByteArray) v0.1.1), ())) none) (x + 1) x ⟨#[]⟩ fuel (by omega) (by show 0 + x ≤ _; omega) (by unfold fuel; omega)
      rw [e]
      simp only
      rw [chk_pos (by simp only [plus, slen, slim]; show 1 + _ < _; omega)]
      exact ⟨_, rfl⟩
  obtain ⟨r, e⟩ := key
  unfold mt
  rw [e]
theorem szStringS : SzOk (fun xs s => laws_szStringS (xs, s, ())) (BL (fun v => ByteArray.size v ≤ 140737488351232)) (wL (fun v => ByteArray.size v)) :=
  szS_ok fuel_gt (fun _ _ => rfl) (k := laws_szStringS_k0 fuel) (fun _ _ _ => rfl) szStr_ok
theorem toStringS : ToOk (fun xs => laws_toStringS (xs, ())) (fun xs => xs.length ≤ 1048576 ∧ ∀ x ∈ xs, True) :=
  toS_ok fuel_gt (by decide) (fun _ => rfl) (k := laws_toStringS_k0 fuel) (e := fun v => some ((), v, ())) (fun _ _ _ => rfl) (fun _ _ => rfl)
theorem eqStringS : EqOk (fun xs ys => laws_eqStringS (xs, ys, ())) (BL (fun _ => True)) :=
  eqS_ok fuel_gt (fun _ _ => rfl) (k := laws_eqStringS_k0 fuel) (e := fun v u => some ((), seq v u, ())) (fun _ _ _ => rfl) eqStr_ok
def mkStr (_ : ByteArray) (m : Int) : ByteArray × Int := (mt m, m + 1)
theorem markStringS_step : MarkStep (laws_markStringS_k0 fuel) mkStr (fun _ => True) (fun _ => 1) := by
  refine ⟨fun n K m i xs h => ?_, fun n K m i xs x hx hl hB h0 h1 => ?_⟩
  · rw [laws_markStringS_k0]
    simp only
    rw [tb_neg (ilt_f (by simp only [llen]; omega))]
  · have hi := lt_of_get hx
    rw [laws_markStringS_k0]
    simp only
    rw [tb_pos (ilt_t (by simp only [llen]; omega)), obind_eq (markText h0 (by omega)), chk_pos (by simp only [llen]; omega), obind_eq (at_some hx), wr64 (by omega) (by omega), wr_succ (by omega)]
    rfl
theorem heldStringS_step : HeldStep (laws_heldStringS_k0 fuel) mkStr (fun _ => True) (fun _ => 1) := by
  refine ⟨fun n K m i xs h => ?_, fun n K m i xs x hx hl hB h0 h1 => ?_⟩
  · rw [laws_heldStringS_k0]
    simp only
    rw [tb_neg (ilt_f (by simp only [llen]; omega))]
  · have hi := lt_of_get hx
    rw [laws_heldStringS_k0]
    simp only
    rw [tb_pos (ilt_t (by simp only [llen]; omega)), chk_pos (by omega), obind_eq (at_some hx), obind_eq (markText h0 (by omega))]
    simp only [mkStr, seq_self]
    rw [tb_nt, wr64 (by omega) (by omega), wr_succ (by omega)]
theorem mkStr_le (x : ByteArray) (m : Int) (_ : True) (_ : 0 ≤ m) (_ : m + ((1 : Nat) : Int) ≤ 1099511627776) : m ≤ (mkStr x m).2 ∧ (mkStr x m).2 ≤ m + ((1 : Nat) : Int) := by
  simp only [mkStr]; omega
abbrev Pt := Int × ByteArray × Unit
theorem szPut : SzOk (fun (v : Pt) s => laws_szPut ((v.1, v.2.1, ()), s, ())) (fun v => ByteArray.size v.2.1 ≤ 140737488351232) (fun v => ByteArray.size v.2.1) := by
  intro v s hB h0 h1
  have hw : wr .i64 (s - ((slen v.2.1 : Nat) : Int)) = s - (v.2.1.size : Int) := wr64 (by simp only [slen]; omega) (by simp only [slen]; omega)
  simp only [laws_szPut, laws_szPut_k, hw]
  by_cases h : s - (v.2.1.size : Int) < 0
  · exact ⟨-1, tb_pos (ilt_t h) _ _, .inl (by omega)⟩
  · exact ⟨_, tb_neg (ilt_f (by omega)) _ _, .inr (by omega)⟩
theorem szPutS : SzOk (fun xs s => laws_szPutS (xs, s, ())) (BL (fun v : Pt => ByteArray.size v.2.1 ≤ 140737488351232)) (wL (fun v : Pt => ByteArray.size v.2.1)) :=
  szS_ok fuel_gt (fun _ _ => rfl) (k := laws_szPutS_k0 fuel) (fun _ _ _ => rfl) szPut
theorem toPutS : ToOk (fun xs => laws_toPutS (xs, ())) (fun xs => xs.length ≤ 1048576 ∧ ∀ x ∈ xs, True) :=
  toS_ok fuel_gt (by decide) (fun _ => rfl) (k := laws_toPutS_k0 fuel) (e := fun v => laws_toPut ((v.1, v.2.1, ()), ())) (fun _ _ _ => rfl) (fun _ _ => rfl)
theorem eqPut : EqOk (fun (v u : Pt) => laws_eqPut ((v.1, v.2.1, ()), (u.1, u.2.1, ()), ())) (fun _ => True) := by
  intro v _
  simp only [laws_eqPut, laws_eqPut_k, ieq_self, seq_self, tb_nt]
theorem eqPutS : EqOk (fun xs ys => laws_eqPutS (xs, ys, ())) (BL (fun _ => True)) :=
  eqS_ok fuel_gt (fun _ _ => rfl) (k := laws_eqPutS_k0 fuel) (fun _ _ _ => rfl) eqPut
def mkPut (_ : Pt) (m : Int) : Pt × Int := ((m, mt (m + 1), ()), m + 2)
theorem mkPut_le (x : Pt) (m : Int) (_ : True) (_ : 0 ≤ m) (_ : m + ((2 : Nat) : Int) ≤ 1099511627776) : m ≤ (mkPut x m).2 ∧ (mkPut x m).2 ≤ m + ((2 : Nat) : Int) := by
  simp only [mkPut]; omega
theorem markPutS_step : MarkStep (laws_markPutS_k0 fuel) mkPut (fun _ => True) (fun _ => 2) := by
  refine ⟨fun n K m i xs h => ?_, fun n K m i xs x hx hl hB h0 h1 => ?_⟩
  · rw [laws_markPutS_k0]
    simp only
    rw [tb_neg (ilt_f (by simp only [llen]; omega))]
  · have hi := lt_of_get hx
    rw [laws_markPutS_k0]
    simp only
    rw [tb_pos (ilt_t (by simp only [llen]; omega)), chk_pos (by simp only [llen]; omega), obind_eq (at_some hx), wr64 (n := m + 1) (by omega) (by omega), obind_eq (markText (by omega) (by omega)), chk_pos (by simp only [llen, lset, List.length_set]; omega),
      obind_eq (at_some (x := (m, x.2)) (by simp [lset, hi])), wr64 (by omega) (by omega), wr_succ (by omega)]
    simp [lset, mkPut, Int.add_assoc]
abbrev Dk := List ByteArray × List Pt × Unit
def DkB (d : Dk) : Prop := BL (fun v => ByteArray.size v ≤ 140737488351232) d.1 ∧ BL (fun v : Pt => ByteArray.size v.2.1 ≤ 140737488351232) d.2.1
def dkW (d : Dk) : Nat := wL (fun v => ByteArray.size v) d.1 + wL (fun v : Pt => ByteArray.size v.2.1) d.2.1
theorem szDisk : SzOk (fun (d : Dk) s => laws_szDisk ((d.1, d.2.1, ()), s, ())) DkB dkW := by
  intro d s hB h0 h1
  obtain ⟨r, e1, e2⟩ := szStringS d.1 s hB.1 h0 h1
  simp only at e1
  simp only [laws_szDisk, laws_szDisk_k, obind_eq e1]
  rcases e2 with e2 | ⟨e2, e3⟩
  · exact ⟨-1, tb_pos (ilt_t e2) _ _, .inl (by omega)⟩
  · rw [tb_neg (ilt_f e2)]
    obtain ⟨r', g1, g2⟩ := szPutS d.2.1 r hB.2 e2 (by omega)
    simp only at g1
    rw [obind_eq g1]
    simp only
    rcases g2 with g2 | ⟨g2, g3⟩
    · exact ⟨-1, tb_pos (ilt_t g2) _ _, .inl (by omega)⟩
    · exact ⟨r', tb_neg (ilt_f g2) _ _, .inr ⟨g2, by simp only [dkW]; omega⟩⟩
theorem toDisk {d : Dk} (h : dkW d ≤ 1048576) : laws_toDisk ((d.1, d.2.1, ()), ()) = some ((), d, ()) := by
  simp only [dkW, wL] at h
  have e1 := toStringS d.1 ⟨by omega, fun _ _ => trivial⟩
  have e2 := toPutS d.2.1 ⟨by omega, fun _ _ => trivial⟩
  simp only at e1 e2
  simp only [laws_toDisk, laws_toDisk_k, obind_eq e1, obind_eq e2]
theorem eqDisk {d : Dk} (h1 : d.1.length ≤ 140737488351232) (h2 : d.2.1.length ≤ 140737488351232) : laws_eqDisk ((d.1, d.2.1, ()), (d.1, d.2.1, ()), ()) = some ((), true, ()) := by
  have e1 := eqStringS d.1 ⟨h1, fun _ _ => trivial⟩
  have e2 := eqPutS d.2.1 ⟨h2, fun _ _ => trivial⟩
  simp only at e1 e2
  simp only [laws_eqDisk, laws_eqDisk_k, obind_eq e1, obind_eq e2, tb_nt]
theorem sumL_const {α : Type} (c : Nat) : ∀ l : List α, sumL (fun _ => c) l = c * l.length
  | [] => rfl
  | x :: l => by simp only [sumL, sumL_const c l, List.length_cons, Nat.mul_succ]; omega
def mkDk (d : Dk) (m : Int) : Dk × Int := (((marksL mkStr d.1 m).1, (marksL mkPut d.2.1 (marksL mkStr d.1 m).2).1, ()), (marksL mkPut d.2.1 (marksL mkStr d.1 m).2).2)
theorem mkStr_row {l : List ByteArray} {m : Int} (h0 : 0 ≤ m) (h1 : m + l.length ≤ 1099511627776) : m ≤ (marksL mkStr l m).2 ∧ (marksL mkStr l m).2 ≤ m + l.length := by
  have := marksL_le (B := fun _ => True) (w := fun _ => 1) mkStr_le l m (fun _ _ => trivial) h0 (by rw [sumL_const]; omega)
  rw [sumL_const] at this
  omega
theorem mkPut_row {l : List Pt} {m : Int} (h0 : 0 ≤ m) (h1 : m + 2 * l.length ≤ 1099511627776) : m ≤ (marksL mkPut l m).2 ∧ (marksL mkPut l m).2 ≤ m + 2 * l.length := by
  have := marksL_le (B := fun _ => True) (w := fun _ => 2) mkPut_le l m (fun _ _ => trivial) h0 (by rw [sumL_const]; omega)
  rw [sumL_const] at this
  omega
theorem markStringS {l : List ByteArray} {m : Int} (h0 : 0 ≤ m) (hl : l.length ≤ 140737488351232) (h1 : m + l.length ≤ 1099511627776) : laws_markStringS (l, m, ()) = some (((marksL mkStr l m).1, ()), (marksL mkStr l m).2, ()) := by
  have := mark_loop markStringS_step (B := fun _ => True) (w := fun _ => 1) mkStr_le (fun v0 => some ((v0.2.2.1, ()), v0.1.1, ())) l [] m fuel (fun _ _ => trivial) h0 (by rw [sumL_const]; omega) (by simpa using hl) (by have := fuel_gt; omega)
  simpa [laws_markStringS, laws_markStringS_k] using this
theorem markPutS {l : List Pt} {m : Int} (h0 : 0 ≤ m) (hl : l.length ≤ 140737488351232) (h1 : m + 2 * l.length ≤ 1099511627776) : laws_markPutS (l, m, ()) = some (((marksL mkPut l m).1, ()), (marksL mkPut l m).2, ()) := by
  have := mark_loop markPutS_step (B := fun _ => True) (w := fun _ => 2) mkPut_le (fun v0 => some ((v0.2.2.1, ()), v0.1.1, ())) l [] m fuel (fun _ _ => trivial) h0 (by rw [sumL_const]; omega) (by simpa using hl) (by have := fuel_gt; omega)
  simpa [laws_markPutS, laws_markPutS_k] using this
theorem heldStringS {l : List ByteArray} {m : Int} (h0 : 0 ≤ m) (hl : l.length ≤ 140737488351232) (h1 : m + l.length ≤ 1099511627776) : laws_heldStringS ((marksL mkStr l m).1, m, ()) = some ((), (marksL mkStr l m).2, ()) := by
  have := held_loop heldStringS_step (B := fun _ => True) (w := fun _ => 1) mkStr_le (fun v0 => some ((), v0.1.1, ())) l [] m fuel (fun _ _ => trivial) h0 (by rw [sumL_const]; omega) (by simpa using hl) (by have := fuel_gt; omega)
  simpa [laws_heldStringS, laws_heldStringS_k] using this
theorem mkDk_le {d : Dk} {m : Int} (h0 : 0 ≤ m) (h1 : m + d.1.length + 2 * d.2.1.length ≤ 1099511627776) : m ≤ (mkDk d m).2 ∧ (mkDk d m).2 ≤ m + d.1.length + 2 * d.2.1.length := by
  have a := mkStr_row (l := d.1) h0 (by omega)
  have b := mkPut_row (l := d.2.1) (m := (marksL mkStr d.1 m).2) (by omega) (by omega)
  simp only [mkDk]; omega
theorem markDisk {d : Dk} {m : Int} (h0 : 0 ≤ m) (hl : d.1.length ≤ 140737488351232) (hl' : d.2.1.length ≤ 140737488351232) (h1 : m + d.1.length + 2 * d.2.1.length ≤ 1099511627776) : laws_markDisk ((d.1, d.2.1, ()), m, ()) = some (((mkDk d m).1, ()), (mkDk d m).2, ()) := by
  have a := mkStr_row (l := d.1) h0 (by omega)
  simp only [laws_markDisk, laws_markDisk_k, obind_eq (markStringS (l := d.1) h0 hl (by omega)), obind_eq (markPutS (l := d.2.1) (m := (marksL mkStr d.1 m).2) (by omega) hl' (by omega))]
  rfl
end Go.Proofs.YtekcpaiphcmfmaaGreat.V
namespace Go.Proofs.YtekcpaiphcmfmaaGreat.V
open Go Go.RowKit
def numF : Nat → Nat → List Int
  | 0, _ => []
  | n + 1, x => if 127 < x then ((x % 128 + 128 : Nat) : Int) :: numF n (x / 128) else [(x : Int)]
def numForm (x : Nat) : List Int := numF 10 x
theorem numF_length : ∀ n x, (numF n x).length ≤ n
  | 0, _ => by simp [numF]
  | n + 1, x => by
    unfold numF
    split
    · have := numF_length n (x / 128); simp; omega
    · simp
theorem numForm_length (x : Nat) : (numForm x).length ≤ 10 := numF_length 10 x
theorem and127 {x : Nat} (h : x ≤ 9223372036854775807) : bandK .i64 (x : Int) 127 = ((x % 128 : Nat) : Int) := by
  have := Go.bits_mask .i64 63 (by decide) (fun n a b => by rw [IntKind.wrap_i64]; omega) 7 (by decide) (x : Int) (by omega) (by omega)
  have e : Go.bits .and .i64 (x : Int) 127 = bandK .i64 (x : Int) 127 := rfl
  rw [← e]
  simpa using this
theorem or128 : ∀ m : Fin 128, borK .i64 128 (m.val : Int) = ((m.val + 128 : Nat) : Int) := by
  have : ∀ m : Fin 128, Go.bits .or .i64 128 (m.val : Int) = ((m.val + 128 : Nat) : Int) := by decide +kernel
  exact this
theorem shr7 (x : Nat) : shrK .i64 (x : Int) 7 = ((x / 128 : Nat) : Int) := by
  show Int.fdiv (x : Int) (2 ^ 7) = _
  rw [Int.fdiv_eq_ediv_of_nonneg _ (by decide)]
  omega
theorem num_loops : ∀ (n x : Nat) (acc : List Int) (m : Nat), 1 ≤ n → x < 128 ^ n → n ≤ 10 → x ≤ 9223372036854775807 → acc.length + n < 140737488355328 → n ≤ m →
    (∀ K : (Int × Unit) × Unit × List Int × Unit → Option (Unit × List Int × Unit), (∀ y zs, K ((y, ()), (), zs, ()) = chk ((plus (llen zs) (llen [wr .u8 y])) ≤ 140737488355328) (some ((), lapp zs [wr .u8 y], ())) none) →
      spec_PutNum_k0 fuel m K (((x : Int), ()), (), acc, ()) = some ((), acc ++ numF n x, ()) ∧ impl_putNum_k0 fuel m K (((x : Int), ()), (), acc, ()) = some ((), acc ++ numF n x, ())) := by
  intro n
  induction n with
  | zero =>
    intro x acc m h0
    omega
  | succ n ih =>
    intro x acc m _ h h10 hx hl hm K hK
    obtain ⟨m, rfl⟩ : ∃ k, m = k + 1 := ⟨m - 1, by omega⟩
    rw [spec_PutNum_k0, impl_putNum_k0]
    simp only
    by_cases h127 : 127 < x
    · have hd : x / 128 < 128 ^ n := by
        rw [Nat.div_lt_iff_lt_mul (by decide)]
        rwa [Nat.pow_succ] at h
      have hn1 : 1 ≤ n := by
        rcases Nat.eq_zero_or_pos n with h0 | h0
        · subst h0
          have : x < 128 := by simpa using h
          omega
        · exact h0
      obtain ⟨i1, i2⟩ := ih (x / 128) (acc ++ [((x % 128 + 128 : Nat) : Int)]) m hn1 hd (by omega) (by omega) (by simp; omega) (by omega) K hK
      have e : numF (n + 1) x = ((x % 128 + 128 : Nat) : Int) :: numF n (x / 128) := by rw [numF, if_pos h127]
      rw [e]
      rw [List.append_assoc, List.singleton_append] at i1 i2
      have e1 : wr .i64 (Int.tdiv (x : Int) 128) = ((x / 128 : Nat) : Int) := by
        rw [Int.tdiv_eq_ediv_of_nonneg (by omega), wr64 (by omega) (by omega)]; omega
      have e2 : wr .u8 (wr .i64 ((Int.tmod (x : Int) 128) + 128)) = ((x % 128 + 128 : Nat) : Int) := by
        rw [Int.tmod_eq_emod_of_nonneg (by omega), wr64 (by omega) (by omega), wr8 (by omega) (by omega)]; omega
      have e3 : wr .u8 (borK .i64 128 (bandK .i64 (x : Int) 127)) = ((x % 128 + 128 : Nat) : Int) := by
        rw [and127 hx, or128 ⟨x % 128, Nat.mod_lt _ (by decide)⟩, wr8 (by omega) (by simp only; omega)]
      rw [tb_pos (ilt_t (by omega)), tb_pos (ilt_t (by omega)), e1, e2, e3, shr7]
      refine ⟨?_, ?_⟩
      · rw [chk_neg (by decide), chk_pos (by simp [plus, llen]; omega), chk_neg (by decide)]; exact i1
      · rw [chk_pos (by simp [plus, llen]; omega), chk_neg (by decide)]; exact i2
    · have e : numF (n + 1) x = [(x : Int)] := by rw [numF, if_neg h127]
      rw [e, tb_neg (ilt_f (by omega)), tb_neg (ilt_f (by omega)), hK, wr8 (by omega) (by omega), chk_pos (by simp [plus, llen]; omega)]
      exact ⟨rfl, rfl⟩
theorem spec_num {x : Nat} (hx : x ≤ 9223372036854775807) : spec_PutNum ((x : Int), ()) = some ((), numForm x, ()) := by
  simp only [spec_PutNum, spec_PutNum_k]
  rw [tb_neg (ilt_f (by omega))]
  exact (num_loops 10 x [] fuel (by omega) (by simp; omega) (by omega) hx (by simp) (by unfold fuel; omega) _ (fun _ _ => rfl)).1
theorem impl_num {x : Nat} (acc : List Int) (hx : x ≤ 9223372036854775807) (hl : acc.length ≤ 140737488355000) : impl_putNum (acc, (x : Int), ()) = some ((), acc ++ numForm x, ()) := by
  simp only [impl_putNum, impl_putNum_k]
  exact (num_loops 10 x acc fuel (by omega) (by simp; omega) (by omega) hx (by omega) (by unfold fuel; omega) _ (fun _ _ => rfl)).2
theorem in_eq (a b c : Int) : (tb (ile b a) (some ((), ile a c, ())) (some ((), false, ()))) = some ((), decide (b ≤ a ∧ a ≤ c), ()) := by
  by_cases h : b ≤ a
  · rw [tb_pos (ile_t h)]; simp [ile, h]
  · rw [tb_neg (ile_f (by omega))]; simp [h]
theorem spec_in (a b c : Int) : spec_l1In (a, b, c, ()) = some ((), decide (b ≤ a ∧ a ≤ c), ()) := in_eq a b c
theorem impl_in (a b c : Int) : impl_inRange (a, b, c, ()) = some ((), decide (b ≤ a ∧ a ≤ c), ()) := in_eq a b c
end Go.Proofs.YtekcpaiphcmfmaaGreat.V
namespace Go.Proofs.YtekcpaiphcmfmaaGreat.V
open Go Go.RowKit
theorem bor_comm (k : IntKind) (a b : Int) : borK k a b = borK k b a := by
  unfold borK
  simp only [BitVec.or_comm]
def p128 : Nat → Nat
  | 0 => 1
  | k + 1 => 128 * p128 k
theorem pow_table : ∀ k : Fin 9, wr .u64 (wr .i64 (7 * (k.val : Int))) = ((7 * k.val : Nat) : Int) ∧ min (7 * k.val) IntKind.i64.bits = 7 * k.val ∧ (2 : Int) ^ (7 * k.val) = ((p128 k.val : Nat) : Int) ∧ p128 k.val ≤ 72057594037927936 ∧ 0 < p128 k.val ∧ 7 * k.val ≤ 63 := by decide +kernel
theorem small63 {p : Nat} (h : p ≤ 9151314442816847872) : (p : Int) < 2 ^ 63 := by omega
theorem join_step (i M x q : Nat) (hM : (2 : Int) ^ i = (M : Int)) (hM1 : M ≤ 72057594037927936) (hx : x < M) (hq : q ≤ 127) : borK .i64 ((q * M : Nat) : Int) (x : Int) = ((q * M + x : Nat) : Int) := by
  have hp : q * M ≤ 9151314442816847872 := Nat.le_trans (Nat.mul_le_mul hq hM1) (by decide)
  have hdiv : ((q * M : Nat) : Int) % 2 ^ i = 0 := by rw [hM, Int.natCast_mul]; exact Int.mul_emod_left ..
  have hx2 : (x : Int) < 2 ^ i := by rw [hM]; exact Int.ofNat_lt.2 hx
  have e : borK .i64 ((q * M : Nat) : Int) (x : Int) = Go.bits .or .i64 ((q * M : Nat) : Int) (x : Int) := rfl
  rw [e, Go.bits_join .i64 63 (by decide) (fun n a b => by rw [IntKind.wrap_i64]; omega) i _ _ (Int.natCast_nonneg _) hdiv (small63 hp) (Int.natCast_nonneg _) hx2 (small63 (Nat.le_trans (Nat.le_of_lt hx) (Nat.le_trans hM1 (by decide))))]
  exact (Int.natCast_add _ _).symm
theorem shl_step (i M q : Nat) (y : Int) (hy : y = (i : Int)) (hi : min i IntKind.i64.bits = i) (hM : (2 : Int) ^ i = (M : Int)) (hM1 : M ≤ 72057594037927936) (hq : q ≤ 127) : shlK .i64 (q : Int) y = ((q * M : Nat) : Int) := by
  have hp : q * M ≤ 9151314442816847872 := Nat.le_trans (Nat.mul_le_mul hq hM1) (by decide)
  unfold shlK
  rw [hy, Int.toNat_natCast, hi, hM, ← Int.natCast_mul]
  clear hM hi hy
  generalize q * M = p at hp
  exact wr64 (by omega) (by omega)
theorem unit_step (M x q : Nat) (hM1 : M ≤ 72057594037927936) (hx : x < M) (hq : q ≤ 127) : wr .i64 ((x : Int) + wr .i64 ((q : Int) * (M : Int))) = ((x + q * M : Nat) : Int) ∧ x + q * M < 128 * M := by
  have hp : q * M ≤ 127 * M := Nat.mul_le_mul_right _ hq
  rw [← Int.natCast_mul]
  generalize q * M = p at hp
  rw [wr64 (n := (p : Int)) (by omega) (by omega)]
  constructor
  · exact wrn (by omega) (by omega)
  · omega
theorem get_step {k x d : Nat} (hk : k ≤ 8) (hx : x < p128 k) (hd : d ≤ 255) :
    borK .i64 (x : Int) (shlK .i64 (bandK .i64 (d : Int) 127) (wr .u64 (wr .i64 (7 * (k : Int))))) = ((x + d % 128 * p128 k : Nat) : Int) ∧
    wr .i64 ((x : Int) + wr .i64 (Int.tmod (d : Int) 128 * ((p128 k : Nat) : Int))) = ((x + d % 128 * p128 k : Nat) : Int) ∧ x + d % 128 * p128 k < p128 (k + 1) ∧ p128 (k + 1) ≤ 9223372036854775808 := by
  obtain ⟨t1, t2, t3, t4, t5, t6⟩ := pow_table ⟨k, by omega⟩
  simp only at t1 t2 t3 t4 t5 t6
  have hdm : d % 128 ≤ 127 := Nat.le_of_lt_succ (Nat.mod_lt _ (by decide))
  obtain ⟨u1, u2⟩ := unit_step (p128 k) x (d % 128) t4 hx hdm
  refine ⟨?_, ?_, ?_, ?_⟩
  · rw [and127 (Nat.le_trans hd (by decide)), bor_comm, shl_step (7 * k) (p128 k) (d % 128) _ t1 t2 t3 t4 hdm, join_step (7 * k) (p128 k) x (d % 128) t3 t4 hx hdm, Nat.add_comm]
  · rw [Int.tmod_eq_emod_of_nonneg (Int.natCast_nonneg _)]
    exact u1
  · exact u2
  · exact Nat.le_trans (Nat.mul_le_mul_left 128 t4) (by decide)
theorem sh_nonneg {k : Nat} (hk : k ≤ 8) : ¬ wr .u64 (wr .i64 (7 * (k : Int))) < 0 := by
  have := (pow_table ⟨k, Nat.lt_succ_of_le hk⟩).1
  exact Int.not_lt.2 (Int.le_trans (Int.natCast_nonneg (7 * k)) (Int.le_of_eq this.symm))
def GetOk (l : List Int) (a : Int) (r : Int × Int × Bool) : Prop := (r.2.2 = false → r = (0, 0, false)) ∧ (r.2.2 = true → 0 ≤ r.1 ∧ r.1 ≤ 9223372036854775807 ∧ 0 ≤ a ∧ a < r.2.1 ∧ r.2.1 ≤ (l.length : Int))
abbrev numOut (r : Int × Int × Bool) : Option (Unit × (Int × Int × Bool × Unit)) := some ((), r.1, r.2.1, r.2.2, ())
theorem get_loops (P : Nat → Nat) (hP : P = p128) (l : List Int) (hl : l.length ≤ 140737488355328) (hb : ∀ y ∈ l, 0 ≤ y ∧ y ≤ 255) (a : Nat) (ha : a ≤ l.length) : ∀ (d k x m m' : Nat) (u : Int), k + d = 9 → d < m → d < m' → x < P k → (k ≤ 8 → u = ((P k : Nat) : Int)) →
    ∃ r : Int × Int × Bool, spec_GetNum_k0 fuel m (fun _ => some ((), 0, 0, false, ())) ((l, (a : Int), (x : Int), u, (k : Int), ()), (), ()) = numOut r ∧ impl_GetNum_k0 fuel m' (fun _ => some ((), 0, 0, false, ())) ((l, ((a + k : Nat) : Int), (x : Int), (k : Int), ()), (), ()) = numOut r ∧ GetOk l a r := by
  intro d
  induction d with
  | zero =>
    intro k x m m' u hk hm hm' hx hu
    obtain ⟨m, rfl⟩ : ∃ q, m = q + 1 := ⟨m - 1, by omega⟩
    obtain ⟨m', rfl⟩ : ∃ q, m' = q + 1 := ⟨m' - 1, by omega⟩
    refine ⟨(0, 0, false), ?_, ?_, fun _ => rfl, fun h => by cases h⟩
    · rw [spec_GetNum_k0]; simp only; rw [tb_neg (ilt_f (by omega))]
    · rw [impl_GetNum_k0]; simp only; rw [tb_neg (ilt_f (by omega))]
  | succ d ih =>
    intro k x m m' u hk hm hm' hx hu
    obtain ⟨m, rfl⟩ : ∃ q, m = q + 1 := ⟨m - 1, by omega⟩
    obtain ⟨m', rfl⟩ : ∃ q, m' = q + 1 := ⟨m' - 1, by omega⟩
    have hu := hu (by omega)
    have hw : Hid (wr .i64 ((a : Int) + (k : Int)) = ((a + k : Nat) : Int)) := ⟨wrn (by omega) (by omega)⟩
    by_cases hin : a + k < l.length
    rotate_left
    · refine ⟨(0, 0, false), ?_, ?_, fun _ => rfl, fun h => by cases h⟩
      · rw [spec_GetNum_k0]; simp only [hw.out]; rw [tb_pos (ilt_t (by omega)), tb_neg (ilt_f (by simp only [llen]; omega))]
      · rw [impl_GetNum_k0]; simp only; rw [tb_pos (ilt_t (by omega)), tb_neg (ilt_f (by simp only [llen]; omega))]
    obtain ⟨y, hy⟩ : ∃ y, l[a + k]? = some y := ⟨l[a + k], List.getElem?_eq_getElem hin⟩
    have hyb := hb y (List.mem_of_getElem? hy)
    obtain ⟨v, rfl⟩ := Int.eq_ofNat_of_zero_le hyb.1
    have hv2 : v ≤ 255 := by have := hyb.2; omega
    have hwv : Hid (wr .i64 (v : Int) = (v : Int)) := ⟨wrn rfl (by omega)⟩
    obtain ⟨s1, s2, s3, s4⟩ := get_step (k := k) (x := x) (d := v) (by omega) (by rw [← hP]; exact hx) hv2
    rw [← hP] at s1 s2 s3 s4
    obtain ⟨X, hX⟩ : ∃ X : Nat, X = x + v % 128 * P k := ⟨_, rfl⟩
    rw [← hX] at s1 s2 s3
    have hX := Hid.mk hX
    have S1 := Hid.mk s1
    have S2 := Hid.mk s2
    clear s1 s2
    have hn : Hid (wr .i64 (((a + k : Nat) : Int) + 1) = ((a + (k + 1) : Nat) : Int)) := ⟨wrn (by omega) (by omega)⟩
    have hk1 : Hid (wr .i64 ((k : Int) + 1) = ((k + 1 : Nat) : Int)) := ⟨wrn (by omega) (by omega)⟩
    have S : ∀ r, tb (ilt (v : Int) 128) (tb (ieq (v : Int) 0) (tb (ilt 0 (k : Int)) (some ((), 0, 0, false, ())) (some ((), (X : Int), ((a + (k + 1) : Nat) : Int), true, ()))) (some ((), (X : Int), ((a + (k + 1) : Nat) : Int), true, ()))) (spec_GetNum_k0 fuel m (fun _ => some ((), 0, 0, false, ())) ((l, (a : Int), (X : Int), wr .i64 (u * 128), ((k + 1 : Nat) : Int), ()), (), ())) = numOut r →
        spec_GetNum_k0 fuel (m + 1) (fun _ => some ((), 0, 0, false, ())) ((l, (a : Int), (x : Int), u, (k : Int), ()), (), ()) = numOut r := fun r h => by
      rw [spec_GetNum_k0]
      simp only [hw.out]
      rw [tb_pos (ilt_t (by omega)), tb_pos (ilt_t (by simp only [llen]; omega)), chk_pos (by omega), obind_eq (at_some hy), chk_neg (by decide), hwv.out, hn.out, hk1.out, hu, S2.out, ← hu]
      exact h
    have I : ∀ r, tb (ilt (v : Int) 128) (tb (ieq (v : Int) 0) (tb (ilt 0 (k : Int)) (some ((), 0, 0, false, ())) (some ((), (X : Int), ((a + (k + 1) : Nat) : Int), true, ()))) (some ((), (X : Int), ((a + (k + 1) : Nat) : Int), true, ()))) (impl_GetNum_k0 fuel m' (fun _ => some ((), 0, 0, false, ())) ((l, ((a + (k + 1) : Nat) : Int), (X : Int), ((k + 1 : Nat) : Int), ()), (), ())) = numOut r →
        impl_GetNum_k0 fuel (m' + 1) (fun _ => some ((), 0, 0, false, ())) ((l, ((a + k : Nat) : Int), (x : Int), (k : Int), ()), (), ()) = numOut r := fun r h => by
      rw [impl_GetNum_k0]
      simp only
      rw [tb_pos (ilt_t (by omega)), tb_pos (ilt_t (by simp only [llen]; omega)), chk_pos (by omega), obind_eq (at_some hy), chk_neg (sh_nonneg (by omega)), hwv.out, hn.out, hk1.out, S1.out]
      exact h
    by_cases c1 : v < 128
    · by_cases c2 : v = 0 ∧ 0 < k
      · refine ⟨(0, 0, false), S _ ?_, I _ ?_, fun _ => rfl, fun h => by cases h⟩
        · rw [tb_pos (ilt_t (by omega)), tb_pos (ieq_t (by omega)), tb_pos (ilt_t (by omega))]
        · rw [tb_pos (ilt_t (by omega)), tb_pos (ieq_t (by omega)), tb_pos (ilt_t (by omega))]
      · have hq : ∀ z, tb (ilt (v : Int) 128) (tb (ieq (v : Int) 0) (tb (ilt 0 (k : Int)) (some ((), 0, 0, false, ())) (some ((), (X : Int), ((a + (k + 1) : Nat) : Int), true, ()))) (some ((), (X : Int), ((a + (k + 1) : Nat) : Int), true, ()))) z = numOut ((X : Int), ((a + (k + 1) : Nat) : Int), true) := fun z => by
          rw [tb_pos (ilt_t (by omega))]
          by_cases c3 : v = 0
          · rw [tb_pos (ieq_t (by omega)), tb_neg (ilt_f (by omega))]
          · rw [tb_neg (ieq_f (by omega))]
        refine ⟨_, S _ (hq _), I _ (hq _), fun h => (by cases h), fun _ => ⟨?_, ?_, ?_, ?_, ?_⟩⟩
        · simp only; omega
        · simp only; omega
        · omega
        · simp only; omega
        · simp only; omega
    · obtain ⟨r, r1, r2, r3⟩ := ih (k + 1) X m m' (wr .i64 (u * 128)) (by omega) (by omega) (by omega) s3 (fun h8 => by
        have t4 := (pow_table ⟨k + 1, by omega⟩).2.2.2.1
        simp only at t4
        rw [← hP] at t4
        have e2 : u * 128 = ((P (k + 1) : Nat) : Int) := by
          rw [hu, show P (k + 1) = 128 * P k by rw [hP]; rfl]
          rw [Int.natCast_mul, Int.mul_comm]; rfl
        rw [e2]
        exact wrn rfl (by omega))
      refine ⟨r, S r ?_, I r ?_, r3⟩
      · rw [tb_neg (ilt_f (by omega))]; exact r1
      · rw [tb_neg (ilt_f (by omega))]; exact r2
theorem getNum (l : List Int) (hl : l.length ≤ 140737488355328) (hb : ∀ y ∈ l, 0 ≤ y ∧ y ≤ 255) (a : Int) : ∃ r, spec_GetNum (l, a, ()) = numOut r ∧ impl_GetNum (l, a, ()) = numOut r ∧ GetOk l a r := by
  unfold spec_GetNum impl_GetNum spec_GetNum_k impl_GetNum_k
  simp only
  have hw : wr .i64 (((llen l : Nat) : Int) - 1) = (l.length : Int) - 1 := by simp only [llen]; exact wr64 (by omega) (by omega)
  rw [hw, obind_eq (impl_in ..)]
  simp only
  by_cases h1 : a < 0
  · refine ⟨(0, 0, false), ?_, ?_, fun _ => rfl, fun h => by cases h⟩
    · rw [tb_pos (ilt_t h1)]
    · rw [decide_eq_false (by omega), tb_nf]
  rw [tb_neg (ilt_f (by omega))]
  by_cases h2 : (l.length : Int) ≤ a
  · refine ⟨(0, 0, false), ?_, ?_, fun _ => rfl, fun h => by cases h⟩
    · rw [tb_pos (ile_t (by simp only [llen]; omega))]
    · rw [decide_eq_false (by omega), tb_nf]
  · obtain ⟨n, rfl⟩ := Int.eq_ofNat_of_zero_le (show 0 ≤ a by omega)
    rw [tb_neg (ile_f (by simp only [llen]; omega)), decide_eq_true (by omega), tb_nt]
    exact get_loops p128 rfl l hl hb n (by omega) 9 0 0 fuel fuel 1 (by omega) (by have := fuel_gt; omega) (by have := fuel_gt; omega) (by decide) (fun _ => rfl)
theorem bytes_range (s : ByteArray) : ∀ y ∈ bytesOf s, 0 ≤ y ∧ y ≤ 255 := by
  intro y hy
  simp only [bytesOf, List.mem_map] at hy
  obtain ⟨b, _, rfl⟩ := hy
  have := b.toNat_lt
  omega
end Go.Proofs.YtekcpaiphcmfmaaGreat.V
namespace Go.Proofs.YtekcpaiphcmfmaaGreat.V
open Go Go.RowKit
theorem bytes_length (s : ByteArray) : (bytesOf s).length = s.size := by simp [bytesOf]
theorem bytes_get {s : ByteArray} {i : Nat} (h : i < s.size) : (bytesOf s)[i]? = some (bt s (i : Int)) := by
  have h' : i < s.data.toList.length := by simpa using h
  simp only [bytesOf, List.getElem?_map, List.getElem?_eq_getElem h', Option.map_some, bt]
  rw [dif_pos (by simpa using h)]
  rfl
theorem strOf_size (l : List Int) : (strOf l).size = l.length := by
  show (l.map _).toArray.size = _
  simp
theorem strOf_append (a b : List Int) : strOf a ++ strOf b = strOf (a ++ b) := by
  apply ByteArray.ext
  simp [strOf]
theorem lcut_length {α : Type} (l : List α) (a b : Nat) (h : b ≤ l.length) : (lcut l a b).length = b - a := by
  simp only [lcut, List.length_drop, List.length_take]; omega
theorem lcut_get {α : Type} (l : List α) (a b i : Nat) : (lcut l a b)[i]? = if a + i < b then l[a + i]? else none := by
  simp only [lcut, List.getElem?_drop, List.getElem?_take]
end Go.Proofs.YtekcpaiphcmfmaaGreat.V
namespace Go.Proofs.YtekcpaiphcmfmaaGreat.V
open Go Go.RowKit
attribute [local irreducible] wr
def urlFrom (s : ByteArray) : Nat → Nat → Bool
  | 0, _ => true
  | d + 1, i => if bt s (i : Int) < 33 then false else if 126 < bt s (i : Int) then false else urlFrom s d (i + 1)
def urlGood (s : ByteArray) : Bool := decide (1 ≤ (s.size : Int) ∧ (s.size : Int) ≤ 60) && urlFrom s s.size 0
theorem url_spec0 {K} (s : ByteArray) (hn : s.size ≤ 140737488355328) : ∀ (d i m : Nat), i + d = s.size → d < m → spec_UrlOk_k0 fuel m K ((s, (i : Int), ()), (), ()) = if urlFrom s d i = true then K ((), (), ()) else some ((), false, ())
  | 0, i, m, h, hm => by
    obtain ⟨m, rfl⟩ : ∃ q, m = q + 1 := ⟨m - 1, by omega⟩
    rw [spec_UrlOk_k0]
    simp only
    rw [tb_neg (ilt_f (by simp only [slen]; omega)), urlFrom, if_pos rfl]
  | d + 1, i, m, h, hm => by
    obtain ⟨m, rfl⟩ : ∃ q, m = q + 1 := ⟨m - 1, by omega⟩
    rw [spec_UrlOk_k0, urlFrom]
    simp only
    rw [tb_pos (ilt_t (by simp only [slen]; omega)), chk_pos (by simp only [slen]; omega)]
    by_cases h1 : bt s (i : Int) < 33
    · rw [tb_pos (ilt_t h1), if_pos h1, if_neg (by decide)]
    · rw [tb_neg (ilt_f (by omega)), if_neg h1, chk_pos (by simp only [slen]; omega)]
      by_cases h2 : 126 < bt s (i : Int)
      · rw [tb_pos (ilt_t h2), if_pos h2, if_neg (by decide)]
      · rw [tb_neg (ilt_f (by omega)), if_neg h2, wr_succ (by omega)]
        exact url_spec0 s hn d (i + 1) m (by omega) (by omega)
theorem url_impl0 {K} (s : ByteArray) (hn : s.size ≤ 140737488355328) : ∀ (d i m : Nat), i + d = s.size → d < m → impl_UrlOk_k0 fuel m K ((s, (i : Int), ()), (), ()) = if urlFrom s d i = true then K ((s, ()), (), ()) else some ((), false, ())
  | 0, i, m, h, hm => by
    obtain ⟨m, rfl⟩ : ∃ q, m = q + 1 := ⟨m - 1, by omega⟩
    rw [impl_UrlOk_k0]
    simp only
    rw [tb_neg (ilt_f (by simp only [slen]; omega)), urlFrom, if_pos rfl]
  | d + 1, i, m, h, hm => by
    obtain ⟨m, rfl⟩ : ∃ q, m = q + 1 := ⟨m - 1, by omega⟩
    rw [impl_UrlOk_k0, urlFrom]
    simp only
    rw [tb_pos (ilt_t (by simp only [slen]; omega)), chk_pos (by simp only [slen]; omega)]
    by_cases h1 : bt s (i : Int) < 33
    · rw [tb_pos (ilt_t h1), if_pos h1, if_neg (by decide)]
    · rw [tb_neg (ilt_f (by omega)), if_neg h1, chk_pos (by simp only [slen]; omega)]
      by_cases h2 : 126 < bt s (i : Int)
      · rw [tb_pos (ilt_t h2), if_pos h2, if_neg (by decide)]
      · rw [tb_neg (ilt_f (by omega)), if_neg h2, wr_succ (by omega)]
        exact url_impl0 s hn d (i + 1) m (by omega) (by omega)
theorem spec_url (s : ByteArray) (hn : s.size ≤ 140737488351232) : spec_UrlOk (s, ()) = some ((), urlGood s, ()) := by
  unfold spec_UrlOk spec_UrlOk_k urlGood
  simp only
  rw [show ((slen s : Nat) : Int) = (s.size : Int) from rfl, obind_eq (spec_in ..)]
  simp only
  by_cases h : 1 ≤ (s.size : Int) ∧ (s.size : Int) ≤ 60
  · rw [decide_eq_true h, tb_nt]
    refine (url_spec0 s (by omega) s.size 0 fuel (by omega) (by have := fuel_gt; omega)).trans ?_
    cases urlFrom s s.size 0 <;> rfl
  · rw [decide_eq_false h, tb_nf]; rfl
theorem impl_url (s : ByteArray) (hn : s.size ≤ 140737488351232) : impl_UrlOk (s, ()) = some ((), urlGood s, ()) := by
  unfold impl_UrlOk impl_UrlOk_k urlGood
  refine (url_impl0 s (by omega) s.size 0 fuel (by omega) (by have := fuel_gt; omega)).trans ?_
  simp only
  cases urlFrom s s.size 0
  · simp
  · rw [if_pos rfl, obind_eq (impl_in ..), Bool.and_true]
    rfl
def textForm (s : ByteArray) : List Int := numForm s.size ++ bytesOf s
theorem textForm_length (s : ByteArray) : (textForm s).length ≤ s.size + 10 := by
  have := numForm_length s.size
  simp [textForm, bytes_length]; omega
theorem spec_text {s : ByteArray} (hn : s.size ≤ 140737488355000) : spec_PutText (s, ()) = some ((), textForm s, ()) := by
  have := numForm_length s.size
  have h : spec_PutNum (((slen s : Nat) : Int), ()) = some ((), numForm s.size, ()) := spec_num (x := s.size) (by omega)
  unfold spec_PutText spec_PutText_k
  simp only
  rw [obind_eq h]
  simp only
  rw [chk_pos (by simp only [plus, llen, bytes_length]; omega)]
  rfl
theorem impl_text {s : ByteArray} (acc : List Int) (hn : s.size + acc.length ≤ 140737488355000) : impl_putText (acc, s, ()) = some ((), acc ++ textForm s, ()) := by
  have := numForm_length s.size
  have h : impl_putNum (acc, ((slen s : Nat) : Int), ()) = some ((), acc ++ numForm s.size, ()) := impl_num (x := s.size) acc (by omega) (by omega)
  unfold impl_putText impl_putText_k
  simp only
  rw [obind_eq h]
  simp only
  rw [chk_pos (by simp only [plus, llen, List.length_append, bytes_length]; omega)]
  simp only [textForm, lapp, List.append_assoc]
def recForm (kind : Nat) (url body : ByteArray) : List Int := numForm kind ++ textForm url ++ (if kind = 1 then textForm body else [])
def recRight (kind : Int) (url body : ByteArray) : Bool := decide (kind = 1 ∨ kind = 2) && (urlGood url && !(decide (kind = 2) && !(seq body ⟨#[]⟩)))
def recPacked (kind : Int) (url body : ByteArray) : List Int × Bool := if recRight kind url body = true then (recForm kind.toNat url body, true) else ([], false)
theorem spec_rec (kind : Int) (url body : ByteArray) (hn : url.size + body.size ≤ 140737488350000) : spec_RecordPack ((kind, url, body, ()), ()) = some ((), (recPacked kind url body).1, (recPacked kind url body).2, ()) := by
  have hu := spec_url url (by omega)
  have t1 := spec_text (s := url) (by omega)
  have t2 := spec_text (s := body) (by omega)
  have l1 := numForm_length 1
  have l2 := numForm_length 2
  have l3 := textForm_length url
  have l4 := textForm_length body
  have n1 : spec_PutNum (1, ()) = some ((), numForm 1, ()) := spec_num (x := 1) (by omega)
  have n2 : spec_PutNum (2, ()) = some ((), numForm 2, ()) := spec_num (x := 2) (by omega)
  unfold spec_RecordPack spec_RecordPack_k recPacked recRight
  simp only
  by_cases h1 : kind = 1
  · subst h1
    rw [ieq_self, tb_nt, obind_eq hu]
    simp only
    cases hg : urlGood url
    · rw [tb_nf]; simp
    · rw [tb_nt, ieq_f (by decide), tb_f, obind_eq n1]
      simp only
      rw [obind_eq t1]
      simp only
      rw [chk_pos (by simp only [plus, llen]; omega), tb_t, obind_eq t2]
      simp only
      rw [chk_pos (by simp only [plus, llen, lapp, List.length_append]; omega)]
      simp [recForm, lapp]
  · rw [ieq_f h1, tb_nf]
    by_cases h2 : kind = 2
    · subst h2
      rw [ieq_self, tb_nt, obind_eq hu]
      simp only
      cases hg : urlGood url
      · rw [tb_nf]; simp
      · rw [tb_nt, tb_t]
        cases hq : seq body ⟨#[]⟩
        · rw [tb_nf]; simp
        · rw [tb_nt, obind_eq n2]
          simp only
          rw [obind_eq t1]
          simp only
          rw [chk_pos (by simp only [plus, llen]; omega), tb_f]
          simp [recForm, lapp]
    · rw [ieq_f h2, tb_nf]; simp [h1, h2]
theorem impl_rec (kind : Int) (url body : ByteArray) (hn : url.size + body.size ≤ 140737488350000) : impl_RecordPack ((kind, url, body, ()), ()) = some ((), (recPacked kind url body).1, (recPacked kind url body).2, ()) := by
  have hu := impl_url url (by omega)
  have l1 := numForm_length 1
  have l2 := numForm_length 2
  have l3 := textForm_length url
  have l4 := textForm_length body
  have n1 : impl_putNum ([], 1, ()) = some ((), [] ++ numForm 1, ()) := impl_num (x := 1) [] (by omega) (by simp)
  have n2 : impl_putNum ([], 2, ()) = some ((), [] ++ numForm 2, ()) := impl_num (x := 2) [] (by omega) (by simp)
  unfold impl_RecordPack impl_RecordPack_k recPacked recRight
  simp only
  rw [obind_eq (impl_in ..)]
  simp only
  by_cases h1 : kind = 1
  · subst h1
    rw [decide_eq_true (by omega), tb_nt, obind_eq hu]
    simp only
    cases hg : urlGood url
    · rw [tb_nf]; simp
    · rw [tb_nt, ieq_f (by decide), tb_f, obind_eq n1]
      simp only
      rw [obind_eq (impl_text _ (by simp; omega))]
      simp only
      rw [ieq_self, tb_t, obind_eq (impl_text _ (by simp; omega))]
      simp [recForm]
  · by_cases h2 : kind = 2
    · subst h2
      rw [decide_eq_true (by omega), tb_nt, obind_eq hu]
      simp only
      cases hg : urlGood url
      · rw [tb_nf]; simp
      · rw [tb_nt, ieq_self, tb_t]
        cases hq : seq body ⟨#[]⟩
        · rw [tb_nf]; simp
        · rw [tb_nt, obind_eq n2]
          simp only
          rw [obind_eq (impl_text _ (by simp; omega))]
          simp only
          rw [ieq_f (by decide), tb_f]
          simp [recForm]
    · rw [decide_eq_false (by omega), tb_nf]; simp [h1, h2]
end Go.Proofs.YtekcpaiphcmfmaaGreat.V
namespace Go.Proofs.YtekcpaiphcmfmaaGreat.V
open Go Go.RowKit
abbrev Hd := Int × Int × Int × Unit
def headRight (a b c : Int) : Bool := decide ((1 ≤ a ∧ a ≤ 1000000000) ∧ (0 ≤ b ∧ b ≤ 1) ∧ (0 ≤ c ∧ c ≤ 4096))
theorem spec_right (a b c : Int) : spec_l16Right ((a, b, c, ()), ()) = some ((), headRight a b c, ()) := by
  simp only [spec_l16Right, spec_l16Right_k, spec_in, obind_some]
  by_cases h1 : 1 ≤ a ∧ a ≤ 1000000000
  · rw [tb_pos (by simpa using h1)]
    by_cases h2 : 0 ≤ b ∧ b ≤ 1
    · rw [tb_pos (by simpa using h2)]; simp [headRight, h1, h2]
    · rw [tb_neg (by simpa using h2)]; simp [headRight, h2]
  · rw [tb_neg (by simpa using h1)]; simp [headRight, h1]
theorem impl_right (a b c : Int) : impl_headOk ((a, b, c, ()), ()) = some ((), headRight a b c, ()) := by
  simp only [impl_headOk, impl_headOk_k, impl_isArea, impl_isArea_k, impl_in, obind_some]
  by_cases h1 : 1 ≤ a ∧ a ≤ 1000000000
  · rw [tb_pos (by simpa using h1)]
    by_cases hb : b = 0
    · rw [tb_pos (ieq_t hb), obind_some, tb_t]; simp [headRight, h1, hb]
    · rw [tb_neg (ieq_f hb), obind_some]
      by_cases hb1 : b = 1
      · rw [ieq_t hb1, tb_t]; simp [headRight, h1, hb1]
      · rw [ieq_f hb1, tb_f]
        have : ¬ (0 ≤ b ∧ b ≤ 1) := by omega
        simp [headRight, this]
  · rw [tb_neg (by simpa using h1)]; simp [headRight, h1]
def headBytes (a b c : Int) : List Int := numForm a.toNat ++ numForm b.toNat ++ numForm c.toNat
theorem headBytes_length (a b c : Int) : (headBytes a b c).length ≤ 30 := by
  have h1 := numForm_length a.toNat
  have h2 := numForm_length b.toNat
  have h3 := numForm_length c.toNat
  simp [headBytes]; omega
def headText (a b c : Int) : ByteArray := strOf (headBytes a b c ++ List.replicate (64 - (headBytes a b c).length) 0)
theorem pad {K : Unit × Unit × List Int × Unit → Option (Unit × ByteArray × Bool × Unit)} : ∀ (d : Nat) (acc : List Int) (m : Nat), acc.length + d = 64 → d < m → spec_HeadPack_k0 fuel m K ((), (), acc, ()) = K ((), (), acc ++ List.replicate d 0, ()) := by
  intro d
  induction d with
  | zero =>
    intro acc m h hm
    obtain ⟨m, rfl⟩ : ∃ k, m = k + 1 := ⟨m - 1, by omega⟩
    rw [spec_HeadPack_k0]
    simp only
    rw [tb_neg (ilt_f (by simp only [llen]; omega))]
    simp
  | succ d ih =>
    intro acc m h hm
    obtain ⟨m, rfl⟩ : ∃ k, m = k + 1 := ⟨m - 1, by omega⟩
    rw [spec_HeadPack_k0]
    simp only
    rw [tb_pos (ilt_t (by simp only [llen]; omega)), chk_pos (by simp [plus, llen]; omega)]
    have := ih (acc ++ [0]) m (by simp; omega) (by omega)
    rw [List.append_assoc, List.singleton_append, ← List.replicate_succ] at this
    exact this
theorem spec_head {a b c : Int} (h : headRight a b c = true) : spec_HeadPack ((a, b, c, ()), ()) = some ((), headText a b c, true, ()) := by
  have hr : (1 ≤ a ∧ a ≤ 1000000000) ∧ (0 ≤ b ∧ b ≤ 1) ∧ (0 ≤ c ∧ c ≤ 4096) := by simpa [headRight] using h
  have ha := spec_num (x := a.toNat) (by omega)
  have hb := spec_num (x := b.toNat) (by omega)
  have hc := spec_num (x := c.toNat) (by omega)
  rw [Int.toNat_of_nonneg (by omega)] at ha hb hc
  have h1 := numForm_length a.toNat
  have h2 := numForm_length b.toNat
  have h3 := numForm_length c.toNat
  have hl := headBytes_length a b c
  simp only [spec_HeadPack, spec_HeadPack_k, spec_right, obind_some, h, tb_nt, ha, hb, hc]
  rw [chk_pos (by simp only [plus, llen]; omega), chk_pos (by simp only [plus, llen, lapp, List.length_append]; omega)]
  exact pad (64 - (headBytes a b c).length) (headBytes a b c) fuel (by omega) (by unfold fuel; omega)
theorem spec_head_bad {a b c : Int} (h : headRight a b c = false) : spec_HeadPack ((a, b, c, ()), ()) = some ((), ⟨#[]⟩, false, ()) := by
  simp only [spec_HeadPack, spec_HeadPack_k, spec_right, obind_some, h, tb_nf]
theorem zeros (n : Nat) : (⟨(Lib.repeatL [0] n).toArray⟩ : ByteArray) = strOf (List.replicate n 0) := by
  apply ByteArray.ext
  show (Lib.repeatL [0] n).toArray = ((List.replicate n (0 : Int)).map fun n => UInt8.ofNat n.toNat).toArray
  congr 1
  induction n with
  | zero => rfl
  | succ n ih => simp only [Lib.repeatL, ih, List.replicate_succ, List.map_cons]; rfl
theorem repeat0 {n : Nat} (h : n ≤ 140737488355328) : strings_Repeat ((⟨#[0]⟩ : ByteArray), (n : Int), ()) = some ((), strOf (List.replicate n 0), ()) := by
  show repeatF _ = _
  unfold repeatF
  rw [if_pos ⟨by show (0 : Int) ≤ (n : Int); omega, by show (n : Int) ≤ 9223372036854775807; omega, by show ((1 : Nat) : Int) * (n : Int) ≤ _; omega⟩]
  rw [show (((⟨#[0]⟩ : ByteArray), (n : Int), ()) : ByteArray × Int × Unit).2.1.toNat = n by simp]
  exact congrArg (fun x => some ((), x, ())) (zeros n)
theorem impl_head {a b c : Int} (h : headRight a b c = true) : impl_HeadPack ((a, b, c, ()), ()) = some ((), headText a b c, true, ()) := by
  have hr : (1 ≤ a ∧ a ≤ 1000000000) ∧ (0 ≤ b ∧ b ≤ 1) ∧ (0 ≤ c ∧ c ≤ 4096) := by simpa [headRight] using h
  have h1 := numForm_length a.toNat
  have h2 := numForm_length b.toNat
  have h3 := numForm_length c.toNat
  have hl := headBytes_length a b c
  have ha := impl_num (x := a.toNat) [] (by omega) (by simp)
  have hb := impl_num (x := b.toNat) ([] ++ numForm a.toNat) (by omega) (by simp; omega)
  have hc := impl_num (x := c.toNat) ([] ++ numForm a.toNat ++ numForm b.toNat) (by omega) (by simp; omega)
  rw [Int.toNat_of_nonneg (by omega)] at ha hb hc
  rw [show ([] ++ numForm a.toNat ++ numForm b.toNat ++ numForm c.toNat) = headBytes a b c by simp [headBytes]] at hc
  have hw : wr .i64 (64 - ((headBytes a b c).length : Int)) = ((64 - (headBytes a b c).length : Nat) : Int) := by
    rw [wr64 (by omega) (by omega)]; omega
  simp only [impl_HeadPack, impl_HeadPack_k, impl_right, obind_some, h, tb_nt, ha, hb, hc]
  simp only [llen, hw]
  rw [obind_eq (repeat0 (by omega))]
  simp only
  rw [chk_pos (by simp only [plus, slen, slim, strOf_size, List.length_replicate]; omega)]
  simp only [sapp, strOf_append]
  rfl
theorem impl_head_bad {a b c : Int} (h : headRight a b c = false) : impl_HeadPack ((a, b, c, ()), ()) = some ((), ⟨#[]⟩, false, ()) := by
  simp only [impl_HeadPack, impl_HeadPack_k, impl_right, obind_some, h, tb_nf]
def secOk (v : ByteArray) : Bool := ieq ((slen v : Nat) : Int) 64
def putOk (v : Pt) : Bool := decide (0 ≤ v.1 ∧ v.1 ≤ 129) && ieq ((slen v.2.1 : Nat) : Int) 64
def diskOk (d : Dk) : Bool := ieq ((llen d.1 : Nat) : Int) 130 && (ile ((llen d.2.1 : Nat) : Int) 200 && (d.1.all secOk && d.2.1.all putOk))
theorem spec_sector (x : Int) : spec_l15Sector (x, ()) = some ((), decide (0 ≤ x ∧ x ≤ 129), ()) := by
  simp only [spec_l15Sector, spec_l15Sector_k, spec_in, obind_some]
theorem impl_sector (x : Int) : impl_isSector (x, ()) = some ((), decide (0 ≤ x ∧ x ≤ 129), ()) := by
  simp only [impl_isSector, impl_isSector_k, impl_in, obind_some]
theorem spec_ok0 {K} (d : Dk) (hl : d.1.length ≤ 140737488351232) : spec_DiskOk_k0 fuel fuel K ((0, ()), ((d.1, d.2.1, ()), ()), ()) = if d.1.all secOk = true then K ((), ((d.1, d.2.1, ()), ()), ()) else some ((), false, ()) := by
  refine all_loop (k := fun n s => spec_DiskOk_k0 fuel n K s) (fun i => (((i : Int), ()), ((d.1, d.2.1, ()), ()), ())) _ _ secOk d.1 (fun n => ?_) (fun n i x hx => ?_) d.1 [] fuel rfl (by have := fuel_gt; omega)
  · rw [spec_DiskOk_k0]
    simp only
    rw [tb_neg (ilt_f (by simp only [llen]; omega))]
  · have hi := lt_of_get hx
    rw [spec_DiskOk_k0]
    simp only
    rw [tb_pos (ilt_t (by simp only [llen]; omega)), chk_pos (by omega), obind_eq (at_some hx), wr_succ (by omega)]
    show tb (bnot (secOk x)) _ _ = _
    cases secOk x <;> rfl
theorem spec_ok2 {K} (d : Dk) (hl : d.2.1.length ≤ 140737488351232) : spec_DiskOk_k2 fuel fuel K ((0, ()), ((d.1, d.2.1, ()), ()), ()) = if d.2.1.all putOk = true then K ((), (), ()) else some ((), false, ()) := by
  refine all_loop (k := fun n s => spec_DiskOk_k2 fuel n K s) (fun i => (((i : Int), ()), ((d.1, d.2.1, ()), ()), ())) _ _ putOk d.2.1 (fun n => ?_) (fun n i x hx => ?_) d.2.1 [] fuel rfl (by have := fuel_gt; omega)
  · rw [spec_DiskOk_k2]
    simp only
    rw [tb_neg (ilt_f (by simp only [llen]; omega))]
  · have hi := lt_of_get hx
    rw [spec_DiskOk_k2]
    simp only
    rw [tb_pos (ilt_t (by simp only [llen]; omega)), chk_pos (by omega), obind_eq (at_some hx), obind_eq (spec_sector _), chk_pos (by omega), obind_eq (at_some hx), wr_succ (by omega)]
    rw [show putOk x = (decide (0 ≤ x.1 ∧ x.1 ≤ 129) && ieq ((slen x.2.1 : Nat) : Int) 64) from rfl]
    simp only
    cases decide (0 ≤ x.1 ∧ x.1 ≤ 129)
    · rfl
    · rw [tb_nt]
      cases ieq ((slen x.2.1 : Nat) : Int) 64 <;> rfl
theorem spec_ok (d : Dk) (hl : d.1.length ≤ 140737488351232) (hl' : d.2.1.length ≤ 140737488351232) : spec_DiskOk ((d.1, d.2.1, ()), ()) = some ((), diskOk d, ()) := by
  simp only [spec_DiskOk, spec_DiskOk_k, diskOk]
  cases ieq ((llen d.1 : Nat) : Int) 130
  · rfl
  rw [tb_nt]
  by_cases h2 : (d.2.1.length : Int) ≤ 200
  rotate_left
  · rw [tb_pos (ilt_t (by simp only [llen]; omega)), ile_f (by simp only [llen]; omega)]; rfl
  rw [tb_neg (ilt_f (by simp only [llen]; omega)), ile_t (by simp only [llen]; omega), spec_ok0 d hl]
  cases d.1.all secOk
  · rfl
  rw [if_pos rfl, spec_ok2 d hl']
  cases d.2.1.all putOk <;> rfl
theorem impl_ok0 {K} (d : Dk) (hl : d.1.length ≤ 140737488351232) : impl_DiskOk_k0 fuel fuel K ((d.1, ((llen d.1 : Nat) : Int), 0, ()), ((d.1, d.2.1, ()), ()), ()) = if d.1.all secOk = true then K ((), ((d.1, d.2.1, ()), ()), ()) else some ((), false, ()) := by
  refine all_loop (k := fun n s => impl_DiskOk_k0 fuel n K s) (fun i => ((d.1, ((llen d.1 : Nat) : Int), (i : Int), ()), ((d.1, d.2.1, ()), ()), ())) _ _ secOk d.1 (fun n => ?_) (fun n i x hx => ?_) d.1 [] fuel rfl (by have := fuel_gt; omega)
  · rw [impl_DiskOk_k0]
    simp only
    rw [tb_neg (ilt_f (by simp only [llen]; omega))]
  · have hi := lt_of_get hx
    rw [impl_DiskOk_k0]
    simp only
    rw [tb_pos (ilt_t (by simp only [llen]; omega)), chk_pos (by omega), obind_eq (at_some hx), wr_succ (by omega)]
    show tb (bnot (secOk x)) _ _ = _
    cases secOk x <;> rfl
theorem impl_ok2 {K} (d : Dk) (hl : d.2.1.length ≤ 140737488351232) : impl_DiskOk_k2 fuel fuel K ((d.2.1, ((llen d.2.1 : Nat) : Int), 0, ()), ((d.1, d.2.1, ()), ()), ()) = if d.2.1.all putOk = true then K ((), ((d.1, d.2.1, ()), ()), ()) else some ((), false, ()) := by
  refine all_loop (k := fun n s => impl_DiskOk_k2 fuel n K s) (fun i => ((d.2.1, ((llen d.2.1 : Nat) : Int), (i : Int), ()), ((d.1, d.2.1, ()), ()), ())) _ _ putOk d.2.1 (fun n => ?_) (fun n i x hx => ?_) d.2.1 [] fuel rfl (by have := fuel_gt; omega)
  · rw [impl_DiskOk_k2]
    simp only
    rw [tb_neg (ilt_f (by simp only [llen]; omega))]
  · have hi := lt_of_get hx
    rw [impl_DiskOk_k2]
    simp only
    rw [tb_pos (ilt_t (by simp only [llen]; omega)), chk_pos (by omega), obind_eq (at_some hx), obind_eq (impl_sector _), wr_succ (by omega)]
    rw [show putOk x = (decide (0 ≤ x.1 ∧ x.1 ≤ 129) && ieq ((slen x.2.1 : Nat) : Int) 64) from rfl]
    simp only
    cases decide (0 ≤ x.1 ∧ x.1 ≤ 129)
    · rfl
    · rw [tb_nt]
      cases ieq ((slen x.2.1 : Nat) : Int) 64 <;> rfl
theorem impl_ok (d : Dk) (hl : d.1.length ≤ 140737488351232) (hl' : d.2.1.length ≤ 140737488351232) : impl_DiskOk ((d.1, d.2.1, ()), ()) = some ((), diskOk d, ()) := by
  simp only [impl_DiskOk, impl_DiskOk_k, diskOk]
  rw [impl_ok0 d hl]
  cases d.1.all secOk
  · simp
  rw [if_pos rfl]
  simp only
  rw [impl_ok2 d hl']
  cases d.2.1.all putOk
  · simp
  rw [if_pos rfl]
  cases ieq ((llen d.1 : Nat) : Int) 130
  · rfl
  · rw [tb_t]; simp
end Go.Proofs.YtekcpaiphcmfmaaGreat.V
namespace Go.Proofs.YtekcpaiphcmfmaaGreat.V
open Go Go.RowKit
def dkSmall (d : Dk) : Prop := d.1.length ≤ 1048576 ∧ d.2.1.length ≤ 1048576
theorem dkSmall_of {d : Dk} (h : dkW d ≤ 1048576) : dkSmall d := by simp only [dkW, wL] at h; exact ⟨by omega, by omega⟩
end Go.Proofs.YtekcpaiphcmfmaaGreat.V
namespace Go.Proofs.YtekcpaiphcmfmaaGreat.V
open Go Go.RowKit
attribute [local irreducible] wr
def secF (d : Dk) (at' : Int) : ByteArray := match d.2.1.reverse.find? (fun p => ieq p.1 at') with | some p => p.2.1 | none => (d.1[at'.toNat]?).getD ⟨#[]⟩
theorem find_step {d : Dk} {at' : Int} {n : Nat} {x : Pt} (h : d.2.1[n]? = some x) : (d.2.1.take (n + 1)).reverse.find? (fun p => ieq p.1 at') = if ieq x.1 at' = true then some x else (d.2.1.take n).reverse.find? (fun p => ieq p.1 at') := by
  have : d.2.1.take (n + 1) = d.2.1.take n ++ [x] := by
    rw [List.take_add_one, h]; rfl
  rw [this, List.reverse_append]
  simp only [List.reverse_singleton, List.cons_append, List.nil_append, List.find?_cons]
  cases ieq x.1 at' <;> rfl
theorem spec_sec0 {K} {d : Dk} {at' : Int} (hl : d.2.1.length ≤ 140737488351232) : ∀ (n m : Nat), n ≤ d.2.1.length → n < m → spec_l15Of_k0 fuel m K ((at', (n : Int) - 1, ()), ((d.1, d.2.1, ()), ()), ()) = match (d.2.1.take n).reverse.find? (fun p => ieq p.1 at') with | some p => some ((), p.2.1, ()) | none => K ((at', ()), ((d.1, d.2.1, ()), ()), ())
  | 0, m, h, hm => by
    obtain ⟨m, rfl⟩ : ∃ k, m = k + 1 := ⟨m - 1, by omega⟩
    rw [spec_l15Of_k0]
    rw [tb_neg (ile_f (by simp))]
    rfl
  | n + 1, m, h, hm => by
    obtain ⟨m, rfl⟩ : ∃ k, m = k + 1 := ⟨m - 1, by omega⟩
    have e : ((n + 1 : Nat) : Int) - 1 = (n : Int) := by omega
    have hx : d.2.1[n]? = some d.2.1[n] := List.getElem?_eq_getElem (by omega)
    rw [spec_l15Of_k0, e, find_step hx]
    simp only
    rw [tb_pos (ile_t (by omega)), chk_pos (by omega), obind_eq (at_some hx), chk_pos (by omega), obind_eq (at_some hx), wr64 (by omega) (by omega)]
    cases hq : ieq d.2.1[n].1 at'
    · rw [tb_f, spec_sec0 hl n m (by omega) (by omega)]; simp
    · rw [tb_t]; rfl
theorem impl_sec0 {K} {d : Dk} {at' : Int} (hl : d.2.1.length ≤ 140737488351232) : ∀ (n m : Nat), n ≤ d.2.1.length → n < m → impl_Disk_sector_k0 fuel m K ((d, at', (n : Int) - 1, ()), (), ()) = match (d.2.1.take n).reverse.find? (fun p => ieq p.1 at') with | some p => some ((), p.2.1, ()) | none => K ((d, at', ()), (), ())
  | 0, m, h, hm => by
    obtain ⟨m, rfl⟩ : ∃ k, m = k + 1 := ⟨m - 1, by omega⟩
    rw [impl_Disk_sector_k0]
    rw [tb_neg (ile_f (by simp))]
    rfl
  | n + 1, m, h, hm => by
    obtain ⟨m, rfl⟩ : ∃ k, m = k + 1 := ⟨m - 1, by omega⟩
    have e : ((n + 1 : Nat) : Int) - 1 = (n : Int) := by omega
    have hx : d.2.1[n]? = some d.2.1[n] := List.getElem?_eq_getElem (by omega)
    rw [impl_Disk_sector_k0, e, find_step hx]
    simp only
    rw [tb_pos (ile_t (by omega)), chk_pos (by omega), obind_eq (at_some hx), chk_pos (by omega), obind_eq (at_some hx), wr64 (by omega) (by omega)]
    cases hq : ieq d.2.1[n].1 at'
    · rw [tb_f, impl_sec0 hl n m (by omega) (by omega)]; simp
    · rw [tb_t]; rfl
theorem get_nat {d : Dk} {at' : Int} (h0 : 0 ≤ at') (h1 : at' < d.1.length) : at? d.1 at'.toNat = some ((d.1[at'.toNat]?).getD ⟨#[]⟩) := by
  have : d.1[at'.toNat]? = some d.1[at'.toNat] := List.getElem?_eq_getElem (by omega)
  simp only [at?, this, Option.getD_some]
theorem spec_sec {d : Dk} {at' : Int} (hl : d.2.1.length ≤ 140737488351232) (h0 : 0 ≤ at') (h1 : at' < d.1.length) : spec_l15Of ((d.1, d.2.1, ()), at', ()) = some ((), secF d at', ()) := by
  simp only [spec_l15Of, spec_l15Of_k]
  rw [wr64 (by simp only [llen]; omega) (by simp only [llen]; omega), show ((llen d.2.1 : Nat) : Int) = ((d.2.1.length : Nat) : Int) from rfl, spec_sec0 hl d.2.1.length fuel (Nat.le_refl _) (by have := fuel_gt; omega), List.take_length]
  unfold secF
  cases d.2.1.reverse.find? (fun p => ieq p.1 at') with
  | some p => rfl
  | none =>
    simp only
    rw [chk_pos h0, obind_eq (get_nat h0 h1)]
theorem impl_sec {d : Dk} {at' : Int} (hl : d.2.1.length ≤ 140737488351232) (h0 : 0 ≤ at') (h1 : at' < d.1.length) : impl_Disk_sector ((d.1, d.2.1, ()), at', ()) = some ((), secF d at', ()) := by
  simp only [impl_Disk_sector, impl_Disk_sector_k]
  rw [wr64 (by simp only [llen]; omega) (by simp only [llen]; omega), show ((llen d.2.1 : Nat) : Int) = ((d.2.1.length : Nat) : Int) from rfl]
  have := impl_sec0 (K := fun v0 => chk (0 ≤ v0.1.2.1) (obind (at? v0.1.1.1 (Int.toNat v0.1.2.1)) fun v1 => some ((), v1, ())) (none)) (d := d) (at' := at') hl d.2.1.length fuel (Nat.le_refl _) (by have := fuel_gt; omega)
  rw [List.take_length] at this
  refine Eq.trans this ?_
  unfold secF
  cases d.2.1.reverse.find? (fun p => ieq p.1 at') with
  | some p => rfl
  | none =>
    simp only
    rw [chk_pos h0, obind_eq (get_nat h0 h1)]
theorem diskOk_len {d : Dk} (h : diskOk d = true) : d.1.length = 130 ∧ d.2.1.length ≤ 200 := by
  simp only [diskOk, Bool.and_eq_true] at h
  have h1 : ((d.1.length : Nat) : Int) = 130 := by simpa [ieq, llen] using h.1
  have h2 : ((d.2.1.length : Nat) : Int) ≤ 200 := of_decide_eq_true h.2.1
  omega
theorem secF_size {d : Dk} {at' : Int} (h : diskOk d = true) (h0 : 0 ≤ at') (h1 : at' ≤ 129) : (secF d at').size = 64 := by
  have hl := diskOk_len h
  simp only [diskOk, Bool.and_eq_true, List.all_eq_true] at h
  unfold secF
  split
  · rename_i p hp
    have hm := List.mem_of_find?_eq_some hp
    have := h.2.2.2 p (List.mem_reverse.1 hm)
    simp only [putOk, Bool.and_eq_true] at this
    have h2 : ((p.2.1.size : Nat) : Int) = 64 := by simpa [ieq, slen] using this.2
    omega
  · have hx : d.1[at'.toNat]? = some d.1[at'.toNat] := List.getElem?_eq_getElem (by omega)
    rw [hx, Option.getD_some]
    have := h.2.2.1 _ (List.getElem_mem (l := d.1) (n := at'.toNat) (by omega))
    have h2 : ((d.1[at'.toNat].size : Nat) : Int) = 64 := by simpa [ieq, slen, secOk] using this
    omega
end Go.Proofs.YtekcpaiphcmfmaaGreat.V
