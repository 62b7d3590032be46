/- The functions that FnExactArchiveOk reaches, each as a plain function, and the plain law about them: the statement answers true at every input. No condition beyond those that stand in each theorem. -/
import Derived.Test.YtaakhgjlekllgaaVEArchiveOk0
import Derived.Laws.BitsLemmas
set_option linter.unusedVariables false
set_option linter.unusedSimpArgs false
noncomputable section
set_option maxRecDepth 100000
namespace Go.Proofs.Ytaakhgjlekllgaa.V
open Go Go.Proofs
def impl_settled_of156_P0 : Tpl := ⟨[(1, .one (.fix (.fn 156 []))), (4, .one (.fix (.vptr 4 0))), (5, .one (.fix (.vptr 5 0))), (13, .one (.leaf (.row false (.pair (.int .i64) (.pair .str .unit))))), (14, .one (.leaf (.int .i64))), (15, .one (.leaf (.int .i64)))], [(4, [.fix .nil, .fix .nil]), (5, [.fix (.ref 10000 [] none), .fix .nil])], [(10000, .str)]⟩
def impl_settled_of156_O0 : Tpl := ⟨[(4, .one (.fix (.vptr 4 0))), (5, .one (.fix (.vptr 5 0)))], [(4, [.fix .nil, .fix .nil]), (5, [.fix (.ref 10500 [] none), .fix .nil])], [(10500, .str)]⟩
def impl_settled_of156_k0 (N : Nat) : Nat → ((Unit × ((Unit × Unit × Unit) × ((List ByteArray) × Unit))) → Option (Unit × (((List ByteArray) × (List (Int × ByteArray × Unit)) × Unit) × Unit))) → (((List (Int × (ByteArray × Unit))) × Int × Int × Unit) × ((Unit × Unit × Unit) × ((List ByteArray) × Unit))) → Option (Unit × (((List ByteArray) × (List (Int × ByteArray × Unit)) × Unit) × Unit))
  | 0, _, _ => none
  | n + 1, k, x =>
    tb (ilt x.1.2.2.1 x.1.2.1)
    (chk (0 ≤ x.1.2.2.1) (obind (at? x.1.1 (Int.toNat x.1.2.2.1)) fun v0 =>
        obind (impl_DiskSync_1 (x.1.2.2.1, ())) fun v1 =>
        tb v1.2.1
        (chk ((0 ≤ v0.1) ∧ (v0.1 < (((llen x.2.2.1) : Nat) : Int))) (obind (at? x.2.2.1 (Int.toNat v0.1)) fun v2 =>
            impl_settled_of156_k0 N n k ((x.1.1, x.1.2.1, (wr .i64 (x.1.2.2.1 + 1)), ()), ((), (), ()), (lset x.2.2.1 (Int.toNat v0.1) v0.2.1), ())) (none))
        (impl_settled_of156_k0 N n k ((x.1.1, x.1.2.1, (wr .i64 (x.1.2.2.1 + 1)), ()), ((), (), ()), x.2.2.1, ()))) (none))
    (k ((), ((), (), ()), x.2.2.1, ()))
def impl_settled_of156_k (N : Nat) (x0 : ((List ByteArray) × (List (Int × ByteArray × Unit)) × Unit)) (x1 : Unit) : Option (Unit × (((List ByteArray) × (List (Int × ByteArray × Unit)) × Unit) × Unit)) :=
  obind (slices_Clone_string (x0.1, ())) fun v0 =>
  impl_settled_of156_k0 N N (fun v1 =>
    some ((), (v1.2.2.1, [], ()), ())) ((x0.2.1, (((llen x0.2.1) : Nat) : Int), 0, ()), ((), (), ()), v0.2.1, ())
def impl_settled_of156 (x : (((List ByteArray) × (List (Int × ByteArray × Unit)) × Unit) × Unit × Unit)) : Option (Unit × (((List ByteArray) × (List (Int × ByteArray × Unit)) × Unit) × Unit)) := impl_settled_of156_k fuel x.1 x.2.1
def impl_settled_of156_s : List (Nat × Con) := [(147, ⟨[.val (.row false .str)], [(.row true .str)], (.pair (.row true .str) .unit), slices_Clone_string⟩), (156, ⟨[.val (.int .i64)], [.bool], (.pair .bool .unit), impl_DiskSync_1⟩)]
def impl_settled_of156_E : Env := ⟨fun j => (look tyTab j).getD .unit, fun j => look impl_settled_of156_s j⟩
theorem impl_settled_of156_r0 (N n : Nat) (k : impl_settled_of156_O0.ty.den → Option (Unit × (((List ByteArray) × (List (Int × ByteArray × Unit)) × Unit) × Unit))) (x : impl_settled_of156_P0.ty.den) : roundK impl_settled_of156_E ⟨Try.f155.ntmps, N, (fun i => look [(0, ⟨impl_settled_of156_P0, impl_settled_of156_O0, [.cell 5 0 10000 .str], [.cell 5 0 10500 .str], impl_settled_of156_k0 N⟩)] i), retK impl_settled_of156_E Try.f155 [.val S55, .fn 156] [T55] (.pair T55 .unit)⟩ (Try.f155.body.getD .skip) 0 ⟨impl_settled_of156_P0, impl_settled_of156_O0, [.cell 5 0 10000 .str], [.cell 5 0 10500 .str], impl_settled_of156_k0 N⟩ (impl_settled_of156_k0 N n k) k x = impl_settled_of156_k0 N (n + 1) k x := by kernel_rfl
theorem impl_settled_of156_f_eq (N : Nat) (x0 : ((List ByteArray) × (List (Int × ByteArray × Unit)) × Unit)) (x1 : Unit) : funK impl_settled_of156_E Try.f155 [.val S55, .fn 156] [T55] (.pair T55 .unit) (fun i => look [(0, ⟨impl_settled_of156_P0, impl_settled_of156_O0, [.cell 5 0 10000 .str], [.cell 5 0 10500 .str], impl_settled_of156_k0 N⟩)] i) N (x0, x1, ()) = impl_settled_of156_k N x0 x1 := by kernel_rfl
theorem impl_settled_of156_o : Known Try.prog 155 ⟨[.val S55, .fn 156], [T55], (.pair T55 .unit), impl_settled_of156⟩ := known_of (tab := tyTab) (cons := impl_settled_of156_s) (segs := [(0, ⟨impl_settled_of156_P0, impl_settled_of156_O0, [.cell 5 0 10000 .str], [.cell 5 0 10500 .str], impl_settled_of156_k0 fuel⟩)]) (n := fuel) mixed_ok tab_ok (.cons slices_Clone_string_o (.cons impl_DiskSync_1_o .nil)) Try.func155 (by kernel_rfl) ⟨⟨fun _ _ => rfl, fun n k x => impl_settled_of156_r0 fuel n k x⟩, trivial⟩ (fun x => impl_settled_of156_f_eq fuel x.1 x.2.1)
def impl_DiskSync_k (N : Nat) (x0 : ((List ByteArray) × (List (Int × ByteArray × Unit)) × Unit)) : Option (Unit × (((List ByteArray) × (List (Int × ByteArray × Unit)) × Unit) × Bool × Unit)) :=
  obind (impl_DiskOk ((x0.1, x0.2.1, ()), ())) fun v0 =>
  tb (bnot v0.2.1)
  (some ((), ([], [], ()), false, ()))
  (obind (impl_settled_of156 ((x0.1, x0.2.1, ()), (), ())) fun v1 =>
    some ((), (v1.2.1.1, v1.2.1.2.1, ()), true, ()))
def impl_DiskSync (x : (((List ByteArray) × (List (Int × ByteArray × Unit)) × Unit) × Unit)) : Option (Unit × (((List ByteArray) × (List (Int × ByteArray × Unit)) × Unit) × Bool × Unit)) := impl_DiskSync_k fuel x.1
def impl_DiskSync_s : List (Nat × Con) := [(101, ⟨[.val S55], [.bool], (.pair .bool .unit), impl_DiskOk⟩), (156, ⟨[.val (.int .i64)], [.bool], (.pair .bool .unit), impl_DiskSync_1⟩), (155, ⟨[.val S55, .fn 156], [T55], (.pair T55 .unit), impl_settled_of156⟩)]
def impl_DiskSync_E : Env := ⟨fun j => (look tyTab j).getD .unit, fun j => look impl_DiskSync_s j⟩
theorem impl_DiskSync_f_eq (N : Nat) (x0 : ((List ByteArray) × (List (Int × ByteArray × Unit)) × Unit)) : funK impl_DiskSync_E Try.f117 [.val S55] [T55, .bool] (.pair T55 (.pair .bool .unit)) (fun i => look [] i) N (x0, ()) = impl_DiskSync_k N x0 := by kernel_rfl
theorem impl_DiskSync_o : Known Try.prog 117 ⟨[.val S55], [T55, .bool], (.pair T55 (.pair .bool .unit)), impl_DiskSync⟩ := known_of (tab := tyTab) (cons := impl_DiskSync_s) (segs := []) (n := fuel) mixed_ok tab_ok (.cons impl_DiskOk_o (.cons impl_DiskSync_1_o (.cons impl_settled_of156_o .nil))) Try.func117 (by kernel_rfl) trivial (fun x => impl_DiskSync_f_eq fuel x.1)
def impl_ArchiveNew_k (N : Nat)  : Option (Unit × ((Bool × ((List ByteArray) × (List (Int × ByteArray × Unit)) × Unit) × (Int × Int × Int × Unit) × (List (ByteArray × ByteArray × Unit)) × Unit) × Unit)) :=
  obind (impl_DiskNew ()) fun v0 =>
  obind (impl_Disk_putHead ((v0.2.1.1, v0.2.1.2.1, ()), (1, 0, 0, ()), ())) fun v1 =>
  obind (impl_DiskSync ((v1.1.1.1, v1.1.1.2.1, ()), ())) fun v2 =>
  some ((), (true, (v2.2.1.1, v2.2.1.2.1, ()), (1, 0, 0, ()), [], ()), ())
def impl_ArchiveNew (x : Unit) : Option (Unit × ((Bool × ((List ByteArray) × (List (Int × ByteArray × Unit)) × Unit) × (Int × Int × Int × Unit) × (List (ByteArray × ByteArray × Unit)) × Unit) × Unit)) := impl_ArchiveNew_k fuel 
def impl_ArchiveNew_s : List (Nat × Con) := [(113, ⟨[.io T55, .val S69], [.bool], (.pair .bool .unit), impl_Disk_putHead⟩), (116, ⟨[], [T55], (.pair T55 .unit), impl_DiskNew⟩), (117, ⟨[.val S55], [T55, .bool], (.pair T55 (.pair .bool .unit)), impl_DiskSync⟩)]
def impl_ArchiveNew_E : Env := ⟨fun j => (look tyTab j).getD .unit, fun j => look impl_ArchiveNew_s j⟩
theorem impl_ArchiveNew_f_eq (N : Nat)  : funK impl_ArchiveNew_E Try.f54 [] [T78] (.pair T78 .unit) (fun i => look [] i) N () = impl_ArchiveNew_k N  := by kernel_rfl
theorem impl_ArchiveNew_o : Known Try.prog 54 ⟨[], [T78], (.pair T78 .unit), impl_ArchiveNew⟩ := known_of (tab := tyTab) (cons := impl_ArchiveNew_s) (segs := []) (n := fuel) mixed_ok tab_ok (.cons impl_Disk_putHead_o (.cons impl_DiskNew_o (.cons impl_DiskSync_o .nil))) Try.func54 (by kernel_rfl) trivial (fun x => impl_ArchiveNew_f_eq fuel )
def laws_eqEntry_k (N : Nat) (x0 : (ByteArray × ByteArray × Unit)) (x1 : (ByteArray × ByteArray × Unit)) : Option (Unit × (Bool × Unit)) :=
  tb (bnot (seq x0.1 x1.1))
  (some ((), false, ()))
  (tb (bnot (seq x0.2.1 x1.2.1))
    (some ((), false, ()))
    (some ((), true, ())))
def laws_eqEntry (x : ((ByteArray × ByteArray × Unit) × (ByteArray × ByteArray × Unit) × Unit)) : Option (Unit × (Bool × Unit)) := laws_eqEntry_k fuel x.1 x.2.1
def laws_eqEntry_s : List (Nat × Con) := []
def laws_eqEntry_E : Env := ⟨fun j => (look tyTab j).getD .unit, fun j => look laws_eqEntry_s j⟩
theorem laws_eqEntry_f_eq (N : Nat) (x0 : (ByteArray × ByteArray × Unit)) (x1 : (ByteArray × ByteArray × Unit)) : funK laws_eqEntry_E Try.f90 [.val S64, .val S64] [.bool] (.pair .bool .unit) (fun i => look [] i) N (x0, x1, ()) = laws_eqEntry_k N x0 x1 := by kernel_rfl
theorem laws_eqEntry_o : Known Try.prog 90 ⟨[.val S64, .val S64], [.bool], (.pair .bool .unit), laws_eqEntry⟩ := known_of (tab := tyTab) (cons := laws_eqEntry_s) (segs := []) (n := fuel) mixed_ok tab_ok .nil Try.func90 (by kernel_rfl) trivial (fun x => laws_eqEntry_f_eq fuel x.1 x.2.1)
def laws_eqEntryS_P0 : Tpl := ⟨[(0, .one (.leaf (.row false (.pair .str (.pair .str .unit))))), (1, .one (.leaf (.row false (.pair .str (.pair .str .unit))))), (5, .one (.leaf (.int .i64)))], [], []⟩
def laws_eqEntryS_O0 : Tpl := ⟨[], [], []⟩
def laws_eqEntryS_k0 (N : Nat) : Nat → ((Unit × (Unit × Unit)) → Option (Unit × (Bool × Unit))) → (((List (ByteArray × (ByteArray × Unit))) × (List (ByteArray × (ByteArray × Unit))) × Int × Unit) × (Unit × Unit)) → Option (Unit × (Bool × Unit))
  | 0, _, _ => none
  | n + 1, k, x =>
    tb (ilt x.1.2.2.1 (((llen x.1.1) : Nat) : Int))
    (chk (0 ≤ x.1.2.2.1) (obind (at? x.1.1 (Int.toNat x.1.2.2.1)) fun v0 =>
        chk (0 ≤ x.1.2.2.1) (obind (at? x.1.2.1 (Int.toNat x.1.2.2.1)) fun v1 =>
          obind (laws_eqEntry ((v0.1, v0.2.1, ()), (v1.1, v1.2.1, ()), ())) fun v2 =>
          tb (bnot v2.2.1)
          (some ((), false, ()))
          (laws_eqEntryS_k0 N n k ((x.1.1, x.1.2.1, (wr .i64 (x.1.2.2.1 + 1)), ()), (), ()))) (none)) (none))
    (k ((), (), ()))
def laws_eqEntryS_k (N : Nat) (x0 : (List (ByteArray × ByteArray × Unit))) (x1 : (List (ByteArray × ByteArray × Unit))) : Option (Unit × (Bool × Unit)) :=
  tb (bnot (ieq (((llen x0) : Nat) : Int) (((llen x1) : Nat) : Int)))
  (some ((), false, ()))
  (laws_eqEntryS_k0 N N (fun v0 =>
      some ((), true, ())) ((x0, x1, 0, ()), (), ()))
def laws_eqEntryS (x : ((List (ByteArray × ByteArray × Unit)) × (List (ByteArray × ByteArray × Unit)) × Unit)) : Option (Unit × (Bool × Unit)) := laws_eqEntryS_k fuel x.1 x.2.1
def laws_eqEntryS_s : List (Nat × Con) := [(90, ⟨[.val S64, .val S64], [.bool], (.pair .bool .unit), laws_eqEntry⟩)]
def laws_eqEntryS_E : Env := ⟨fun j => (look tyTab j).getD .unit, fun j => look laws_eqEntryS_s j⟩
theorem laws_eqEntryS_r0 (N n : Nat) (k : laws_eqEntryS_O0.ty.den → Option (Unit × (Bool × Unit))) (x : laws_eqEntryS_P0.ty.den) : roundK laws_eqEntryS_E ⟨Try.f33.ntmps, N, (fun i => look [(0, ⟨laws_eqEntryS_P0, laws_eqEntryS_O0, [], [], laws_eqEntryS_k0 N⟩)] i), retK laws_eqEntryS_E Try.f33 [.val (.row false S64), .val (.row false S64)] [.bool] (.pair .bool .unit)⟩ (Try.f33.body.getD .skip) 0 ⟨laws_eqEntryS_P0, laws_eqEntryS_O0, [], [], laws_eqEntryS_k0 N⟩ (laws_eqEntryS_k0 N n k) k x = laws_eqEntryS_k0 N (n + 1) k x := by kernel_rfl
theorem laws_eqEntryS_f_eq (N : Nat) (x0 : (List (ByteArray × ByteArray × Unit))) (x1 : (List (ByteArray × ByteArray × Unit))) : funK laws_eqEntryS_E Try.f33 [.val (.row false S64), .val (.row false S64)] [.bool] (.pair .bool .unit) (fun i => look [(0, ⟨laws_eqEntryS_P0, laws_eqEntryS_O0, [], [], laws_eqEntryS_k0 N⟩)] i) N (x0, x1, ()) = laws_eqEntryS_k N x0 x1 := by kernel_rfl
theorem laws_eqEntryS_o : Known Try.prog 33 ⟨[.val (.row false S64), .val (.row false S64)], [.bool], (.pair .bool .unit), laws_eqEntryS⟩ := known_of (tab := tyTab) (cons := laws_eqEntryS_s) (segs := [(0, ⟨laws_eqEntryS_P0, laws_eqEntryS_O0, [], [], laws_eqEntryS_k0 fuel⟩)]) (n := fuel) mixed_ok tab_ok (.cons laws_eqEntry_o .nil) Try.func33 (by kernel_rfl) ⟨⟨fun _ _ => rfl, fun n k x => laws_eqEntryS_r0 fuel n k x⟩, trivial⟩ (fun x => laws_eqEntryS_f_eq fuel x.1 x.2.1)
def laws_eqHead_k (N : Nat) (x0 : (Int × Int × Int × Unit)) (x1 : (Int × Int × Int × Unit)) : Option (Unit × (Bool × Unit)) :=
  tb (bnot (ieq x0.1 x1.1))
  (some ((), false, ()))
  (tb (bnot (ieq x0.2.1 x1.2.1))
    (some ((), false, ()))
    (tb (bnot (ieq x0.2.2.1 x1.2.2.1))
      (some ((), false, ()))
      (some ((), true, ()))))
def laws_eqHead (x : ((Int × Int × Int × Unit) × (Int × Int × Int × Unit) × Unit)) : Option (Unit × (Bool × Unit)) := laws_eqHead_k fuel x.1 x.2.1
def laws_eqHead_s : List (Nat × Con) := []
def laws_eqHead_E : Env := ⟨fun j => (look tyTab j).getD .unit, fun j => look laws_eqHead_s j⟩
theorem laws_eqHead_f_eq (N : Nat) (x0 : (Int × Int × Int × Unit)) (x1 : (Int × Int × Int × Unit)) : funK laws_eqHead_E Try.f49 [.val S69, .val S69] [.bool] (.pair .bool .unit) (fun i => look [] i) N (x0, x1, ()) = laws_eqHead_k N x0 x1 := by kernel_rfl
theorem laws_eqHead_o : Known Try.prog 49 ⟨[.val S69, .val S69], [.bool], (.pair .bool .unit), laws_eqHead⟩ := known_of (tab := tyTab) (cons := laws_eqHead_s) (segs := []) (n := fuel) mixed_ok tab_ok .nil Try.func49 (by kernel_rfl) trivial (fun x => laws_eqHead_f_eq fuel x.1 x.2.1)
def laws_eqArchive_k (N : Nat) (x0 : (Bool × ((List ByteArray) × (List (Int × ByteArray × Unit)) × Unit) × (Int × Int × Int × Unit) × (List (ByteArray × ByteArray × Unit)) × Unit)) (x1 : (Bool × ((List ByteArray) × (List (Int × ByteArray × Unit)) × Unit) × (Int × Int × Int × Unit) × (List (ByteArray × ByteArray × Unit)) × Unit)) : Option (Unit × (Bool × Unit)) :=
  tb (bnot (beq x0.1 x1.1))
  (some ((), false, ()))
  (obind (laws_eqDisk ((x0.2.1.1, x0.2.1.2.1, ()), (x1.2.1.1, x1.2.1.2.1, ()), ())) fun v0 =>
    tb (bnot v0.2.1)
    (some ((), false, ()))
    (obind (laws_eqHead ((x0.2.2.1.1, x0.2.2.1.2.1, x0.2.2.1.2.2.1, ()), (x1.2.2.1.1, x1.2.2.1.2.1, x1.2.2.1.2.2.1, ()), ())) fun v1 =>
      tb (bnot v1.2.1)
      (some ((), false, ()))
      (obind (laws_eqEntryS (x0.2.2.2.1, x1.2.2.2.1, ())) fun v2 =>
        tb (bnot v2.2.1)
        (some ((), false, ()))
        (some ((), true, ())))))
def laws_eqArchive (x : ((Bool × ((List ByteArray) × (List (Int × ByteArray × Unit)) × Unit) × (Int × Int × Int × Unit) × (List (ByteArray × ByteArray × Unit)) × Unit) × (Bool × ((List ByteArray) × (List (Int × ByteArray × Unit)) × Unit) × (Int × Int × Int × Unit) × (List (ByteArray × ByteArray × Unit)) × Unit) × Unit)) : Option (Unit × (Bool × Unit)) := laws_eqArchive_k fuel x.1 x.2.1
def laws_eqArchive_s : List (Nat × Con) := [(33, ⟨[.val (.row false S64), .val (.row false S64)], [.bool], (.pair .bool .unit), laws_eqEntryS⟩), (40, ⟨[.val S55, .val S55], [.bool], (.pair .bool .unit), laws_eqDisk⟩), (49, ⟨[.val S69, .val S69], [.bool], (.pair .bool .unit), laws_eqHead⟩)]
def laws_eqArchive_E : Env := ⟨fun j => (look tyTab j).getD .unit, fun j => look laws_eqArchive_s j⟩
theorem laws_eqArchive_f_eq (N : Nat) (x0 : (Bool × ((List ByteArray) × (List (Int × ByteArray × Unit)) × Unit) × (Int × Int × Int × Unit) × (List (ByteArray × ByteArray × Unit)) × Unit)) (x1 : (Bool × ((List ByteArray) × (List (Int × ByteArray × Unit)) × Unit) × (Int × Int × Int × Unit) × (List (ByteArray × ByteArray × Unit)) × Unit)) : funK laws_eqArchive_E Try.f55 [.val S78, .val S78] [.bool] (.pair .bool .unit) (fun i => look [] i) N (x0, x1, ()) = laws_eqArchive_k N x0 x1 := by kernel_rfl
theorem laws_eqArchive_o : Known Try.prog 55 ⟨[.val S78, .val S78], [.bool], (.pair .bool .unit), laws_eqArchive⟩ := known_of (tab := tyTab) (cons := laws_eqArchive_s) (segs := []) (n := fuel) mixed_ok tab_ok (.cons laws_eqEntryS_o (.cons laws_eqDisk_o (.cons laws_eqHead_o .nil))) Try.func55 (by kernel_rfl) trivial (fun x => laws_eqArchive_f_eq fuel x.1 x.2.1)
def laws_markEntryS_P0 : Tpl := ⟨[(0, .one (.fix (.ref 500 [] none))), (1, .one (.leaf (.int .i64))), (5, .one (.leaf (.int .i64)))], [], [(500, (.pair .str (.pair .str .unit)))]⟩
def laws_markEntryS_O0 : Tpl := ⟨[(1, .one (.leaf (.int .i64)))], [], [(500, (.pair .str (.pair .str .unit)))]⟩
def laws_markEntryS_k0 (N : Nat) : Nat → (((Int × Unit) × (Unit × ((List (ByteArray × (ByteArray × Unit))) × Unit))) → Option (((List (ByteArray × ByteArray × Unit)) × Unit) × (Int × Unit))) → ((Int × Int × Unit) × (Unit × ((List (ByteArray × (ByteArray × Unit))) × Unit))) → Option (((List (ByteArray × ByteArray × Unit)) × Unit) × (Int × Unit))
  | 0, _, _ => none
  | n + 1, k, x =>
    tb (ilt x.1.2.1 (((llen x.2.2.1) : Nat) : Int))
    (obind (laws_markText (x.1.1, ())) fun v0 =>
      chk ((0 ≤ x.1.2.1) ∧ (x.1.2.1 < (((llen x.2.2.1) : Nat) : Int))) (obind (at? x.2.2.1 (Int.toNat x.1.2.1)) fun v1 =>
        obind (laws_markText ((wr .i64 (x.1.1 + 1)), ())) fun v2 =>
        chk ((0 ≤ x.1.2.1) ∧ (x.1.2.1 < (((llen (lset x.2.2.1 (Int.toNat x.1.2.1) (v0.2.1, v1.2))) : Nat) : Int))) (obind (at? (lset x.2.2.1 (Int.toNat x.1.2.1) (v0.2.1, v1.2)) (Int.toNat x.1.2.1)) fun v3 =>
          laws_markEntryS_k0 N n k (((wr .i64 ((wr .i64 (x.1.1 + 1)) + 1)), (wr .i64 (x.1.2.1 + 1)), ()), (), (lset (lset x.2.2.1 (Int.toNat x.1.2.1) (v0.2.1, v1.2)) (Int.toNat x.1.2.1) (v3.1, v2.2.1, v3.2.2)), ())) (none)) (none))
    (k ((x.1.1, ()), (), x.2.2.1, ()))
def laws_markEntryS_k (N : Nat) (x0 : (List (ByteArray × ByteArray × Unit))) (x1 : Int) : Option (((List (ByteArray × ByteArray × Unit)) × Unit) × (Int × Unit)) :=
  laws_markEntryS_k0 N N (fun v0 =>
    some ((v0.2.2.1, ()), v0.1.1, ())) ((x1, 0, ()), (), x0, ())
def laws_markEntryS (x : ((List (ByteArray × ByteArray × Unit)) × Int × Unit)) : Option (((List (ByteArray × ByteArray × Unit)) × Unit) × (Int × Unit)) := laws_markEntryS_k fuel x.1 x.2.1
def laws_markEntryS_s : List (Nat × Con) := [(84, ⟨[.val (.int .i64)], [.str], (.pair .str .unit), laws_markText⟩)]
def laws_markEntryS_E : Env := ⟨fun j => (look tyTab j).getD .unit, fun j => look laws_markEntryS_s j⟩
theorem laws_markEntryS_r0 (N n : Nat) (k : laws_markEntryS_O0.ty.den → Option (((List (ByteArray × ByteArray × Unit)) × Unit) × (Int × Unit))) (x : laws_markEntryS_P0.ty.den) : roundK laws_markEntryS_E ⟨Try.f34.ntmps, N, (fun i => look [(0, ⟨laws_markEntryS_P0, laws_markEntryS_O0, [], [], laws_markEntryS_k0 N⟩)] i), retK laws_markEntryS_E Try.f34 [.bor (.row true T64), .val (.int .i64)] [(.int .i64)] (.pair (.int .i64) .unit)⟩ (Try.f34.body.getD .skip) 0 ⟨laws_markEntryS_P0, laws_markEntryS_O0, [], [], laws_markEntryS_k0 N⟩ (laws_markEntryS_k0 N n k) k x = laws_markEntryS_k0 N (n + 1) k x := by kernel_rfl
theorem laws_markEntryS_f_eq (N : Nat) (x0 : (List (ByteArray × ByteArray × Unit))) (x1 : Int) : funK laws_markEntryS_E Try.f34 [.bor (.row true T64), .val (.int .i64)] [(.int .i64)] (.pair (.int .i64) .unit) (fun i => look [(0, ⟨laws_markEntryS_P0, laws_markEntryS_O0, [], [], laws_markEntryS_k0 N⟩)] i) N (x0, x1, ()) = laws_markEntryS_k N x0 x1 := by kernel_rfl
theorem laws_markEntryS_o : Known Try.prog 34 ⟨[.bor (.row true T64), .val (.int .i64)], [(.int .i64)], (.pair (.int .i64) .unit), laws_markEntryS⟩ := known_of (tab := tyTab) (cons := laws_markEntryS_s) (segs := [(0, ⟨laws_markEntryS_P0, laws_markEntryS_O0, [], [], laws_markEntryS_k0 fuel⟩)]) (n := fuel) mixed_ok tab_ok (.cons laws_markText_o .nil) Try.func34 (by kernel_rfl) ⟨⟨fun _ _ => rfl, fun n k x => laws_markEntryS_r0 fuel n k x⟩, trivial⟩ (fun x => laws_markEntryS_f_eq fuel x.1 x.2.1)
def laws_markArchive_k (N : Nat) (x0 : (Bool × ((List ByteArray) × (List (Int × ByteArray × Unit)) × Unit) × (Int × Int × Int × Unit) × (List (ByteArray × ByteArray × Unit)) × Unit)) (x1 : Int) : Option (((Unit × ((List ByteArray) × (List (Int × ByteArray × Unit)) × Unit) × (Unit × Unit × Unit × Unit) × (List (ByteArray × ByteArray × Unit)) × Unit) × Unit) × (Int × Unit)) :=
  obind (laws_markDisk ((x0.2.1.1, x0.2.1.2.1, ()), x1, ())) fun v0 =>
  obind (laws_markEntryS (x0.2.2.2.1, v0.2.1, ())) fun v1 =>
  some ((((), (v0.1.1.1, v0.1.1.2.1, ()), ((), (), (), ()), v1.1.1, ()), ()), v1.2.1, ())
def laws_markArchive (x : ((Bool × ((List ByteArray) × (List (Int × ByteArray × Unit)) × Unit) × (Int × Int × Int × Unit) × (List (ByteArray × ByteArray × Unit)) × Unit) × Int × Unit)) : Option (((Unit × ((List ByteArray) × (List (Int × ByteArray × Unit)) × Unit) × (Unit × Unit × Unit × Unit) × (List (ByteArray × ByteArray × Unit)) × Unit) × Unit) × (Int × Unit)) := laws_markArchive_k fuel x.1 x.2.1
def laws_markArchive_s : List (Nat × Con) := [(34, ⟨[.bor (.row true T64), .val (.int .i64)], [(.int .i64)], (.pair (.int .i64) .unit), laws_markEntryS⟩), (41, ⟨[.bor T55, .val (.int .i64)], [(.int .i64)], (.pair (.int .i64) .unit), laws_markDisk⟩)]
def laws_markArchive_E : Env := ⟨fun j => (look tyTab j).getD .unit, fun j => look laws_markArchive_s j⟩
theorem laws_markArchive_f_eq (N : Nat) (x0 : (Bool × ((List ByteArray) × (List (Int × ByteArray × Unit)) × Unit) × (Int × Int × Int × Unit) × (List (ByteArray × ByteArray × Unit)) × Unit)) (x1 : Int) : funK laws_markArchive_E Try.f56 [.bor T78, .val (.int .i64)] [(.int .i64)] (.pair (.int .i64) .unit) (fun i => look [] i) N (x0, x1, ()) = laws_markArchive_k N x0 x1 := by kernel_rfl
theorem laws_markArchive_o : Known Try.prog 56 ⟨[.bor T78, .val (.int .i64)], [(.int .i64)], (.pair (.int .i64) .unit), laws_markArchive⟩ := known_of (tab := tyTab) (cons := laws_markArchive_s) (segs := []) (n := fuel) mixed_ok tab_ok (.cons laws_markEntryS_o (.cons laws_markDisk_o .nil)) Try.func56 (by kernel_rfl) trivial (fun x => laws_markArchive_f_eq fuel x.1 x.2.1)
def laws_heldEntryS_P0 : Tpl := ⟨[(0, .one (.leaf (.row false (.pair .str (.pair .str .unit))))), (1, .one (.leaf (.int .i64))), (5, .one (.leaf (.int .i64)))], [], []⟩
def laws_heldEntryS_O0 : Tpl := ⟨[(1, .one (.leaf (.int .i64)))], [], []⟩
def laws_heldEntryS_k0 (N : Nat) : Nat → (((Int × Unit) × (Unit × Unit)) → Option (Unit × (Int × Unit))) → (((List (ByteArray × (ByteArray × Unit))) × Int × Int × Unit) × (Unit × Unit)) → Option (Unit × (Int × Unit))
  | 0, _, _ => none
  | n + 1, k, x =>
    tb (ilt x.1.2.2.1 (((llen x.1.1) : Nat) : Int))
    (chk (0 ≤ x.1.2.2.1) (obind (at? x.1.1 (Int.toNat x.1.2.2.1)) fun v0 =>
        obind (laws_markText (x.1.2.1, ())) fun v1 =>
        tb (bnot (seq v0.1 v1.2.1))
        (some ((), (-1), ()))
        (chk (0 ≤ x.1.2.2.1) (obind (at? x.1.1 (Int.toNat x.1.2.2.1)) fun v2 =>
            obind (laws_markText ((wr .i64 (x.1.2.1 + 1)), ())) fun v3 =>
            tb (bnot (seq v2.2.1 v3.2.1))
            (some ((), (-1), ()))
            (laws_heldEntryS_k0 N n k ((x.1.1, (wr .i64 ((wr .i64 (x.1.2.1 + 1)) + 1)), (wr .i64 (x.1.2.2.1 + 1)), ()), (), ()))) (none))) (none))
    (k ((x.1.2.1, ()), (), ()))
def laws_heldEntryS_k (N : Nat) (x0 : (List (ByteArray × ByteArray × Unit))) (x1 : Int) : Option (Unit × (Int × Unit)) :=
  laws_heldEntryS_k0 N N (fun v0 =>
    some ((), v0.1.1, ())) ((x0, x1, 0, ()), (), ())
def laws_heldEntryS (x : ((List (ByteArray × ByteArray × Unit)) × Int × Unit)) : Option (Unit × (Int × Unit)) := laws_heldEntryS_k fuel x.1 x.2.1
def laws_heldEntryS_s : List (Nat × Con) := [(84, ⟨[.val (.int .i64)], [.str], (.pair .str .unit), laws_markText⟩)]
def laws_heldEntryS_E : Env := ⟨fun j => (look tyTab j).getD .unit, fun j => look laws_heldEntryS_s j⟩
theorem laws_heldEntryS_r0 (N n : Nat) (k : laws_heldEntryS_O0.ty.den → Option (Unit × (Int × Unit))) (x : laws_heldEntryS_P0.ty.den) : roundK laws_heldEntryS_E ⟨Try.f35.ntmps, N, (fun i => look [(0, ⟨laws_heldEntryS_P0, laws_heldEntryS_O0, [], [], laws_heldEntryS_k0 N⟩)] i), retK laws_heldEntryS_E Try.f35 [.val (.row false S64), .val (.int .i64)] [(.int .i64)] (.pair (.int .i64) .unit)⟩ (Try.f35.body.getD .skip) 0 ⟨laws_heldEntryS_P0, laws_heldEntryS_O0, [], [], laws_heldEntryS_k0 N⟩ (laws_heldEntryS_k0 N n k) k x = laws_heldEntryS_k0 N (n + 1) k x := by kernel_rfl
theorem laws_heldEntryS_f_eq (N : Nat) (x0 : (List (ByteArray × ByteArray × Unit))) (x1 : Int) : funK laws_heldEntryS_E Try.f35 [.val (.row false S64), .val (.int .i64)] [(.int .i64)] (.pair (.int .i64) .unit) (fun i => look [(0, ⟨laws_heldEntryS_P0, laws_heldEntryS_O0, [], [], laws_heldEntryS_k0 N⟩)] i) N (x0, x1, ()) = laws_heldEntryS_k N x0 x1 := by kernel_rfl
theorem laws_heldEntryS_o : Known Try.prog 35 ⟨[.val (.row false S64), .val (.int .i64)], [(.int .i64)], (.pair (.int .i64) .unit), laws_heldEntryS⟩ := known_of (tab := tyTab) (cons := laws_heldEntryS_s) (segs := [(0, ⟨laws_heldEntryS_P0, laws_heldEntryS_O0, [], [], laws_heldEntryS_k0 fuel⟩)]) (n := fuel) mixed_ok tab_ok (.cons laws_markText_o .nil) Try.func35 (by kernel_rfl) ⟨⟨fun _ _ => rfl, fun n k x => laws_heldEntryS_r0 fuel n k x⟩, trivial⟩ (fun x => laws_heldEntryS_f_eq fuel x.1 x.2.1)
def laws_heldArchive_k (N : Nat) (x0 : (Bool × ((List ByteArray) × (List (Int × ByteArray × Unit)) × Unit) × (Int × Int × Int × Unit) × (List (ByteArray × ByteArray × Unit)) × Unit)) (x1 : Int) : Option (Unit × (Int × Unit)) :=
  obind (laws_heldDisk ((x0.2.1.1, x0.2.1.2.1, ()), x1, ())) fun v0 =>
  tb (ilt v0.2.1 0)
  (some ((), (-1), ()))
  (obind (laws_heldEntryS (x0.2.2.2.1, v0.2.1, ())) fun v1 =>
    tb (ilt v1.2.1 0)
    (some ((), (-1), ()))
    (some ((), v1.2.1, ())))
def laws_heldArchive (x : ((Bool × ((List ByteArray) × (List (Int × ByteArray × Unit)) × Unit) × (Int × Int × Int × Unit) × (List (ByteArray × ByteArray × Unit)) × Unit) × Int × Unit)) : Option (Unit × (Int × Unit)) := laws_heldArchive_k fuel x.1 x.2.1
def laws_heldArchive_s : List (Nat × Con) := [(35, ⟨[.val (.row false S64), .val (.int .i64)], [(.int .i64)], (.pair (.int .i64) .unit), laws_heldEntryS⟩), (42, ⟨[.val S55, .val (.int .i64)], [(.int .i64)], (.pair (.int .i64) .unit), laws_heldDisk⟩)]
def laws_heldArchive_E : Env := ⟨fun j => (look tyTab j).getD .unit, fun j => look laws_heldArchive_s j⟩
theorem laws_heldArchive_f_eq (N : Nat) (x0 : (Bool × ((List ByteArray) × (List (Int × ByteArray × Unit)) × Unit) × (Int × Int × Int × Unit) × (List (ByteArray × ByteArray × Unit)) × Unit)) (x1 : Int) : funK laws_heldArchive_E Try.f57 [.val S78, .val (.int .i64)] [(.int .i64)] (.pair (.int .i64) .unit) (fun i => look [] i) N (x0, x1, ()) = laws_heldArchive_k N x0 x1 := by kernel_rfl
theorem laws_heldArchive_o : Known Try.prog 57 ⟨[.val S78, .val (.int .i64)], [(.int .i64)], (.pair (.int .i64) .unit), laws_heldArchive⟩ := known_of (tab := tyTab) (cons := laws_heldArchive_s) (segs := []) (n := fuel) mixed_ok tab_ok (.cons laws_heldEntryS_o (.cons laws_heldDisk_o .nil)) Try.func57 (by kernel_rfl) trivial (fun x => laws_heldArchive_f_eq fuel x.1 x.2.1)
def laws_FnExactArchiveNew_k (N : Nat)  : Option (Unit × (Bool × Unit)) :=
  obind (spec_ArchiveNew ()) fun v0 =>
  obind (impl_ArchiveNew ()) fun v1 =>
  obind (laws_eqArchive ((v1.2.1.1, (v1.2.1.2.1.1, v1.2.1.2.1.2.1, ()), (v1.2.1.2.2.1.1, v1.2.1.2.2.1.2.1, v1.2.1.2.2.1.2.2.1, ()), v1.2.1.2.2.2.1, ()), (v0.2.1.1, (v0.2.1.2.1.1, v0.2.1.2.1.2.1, ()), (v0.2.1.2.2.1.1, v0.2.1.2.2.1.2.1, v0.2.1.2.2.1.2.2.1, ()), v0.2.1.2.2.2.1, ()), ())) fun v2 =>
  tb (bnot v2.2.1)
  (some ((), false, ()))
  (obind (laws_markArchive ((v1.2.1.1, (v1.2.1.2.1.1, v1.2.1.2.1.2.1, ()), (v1.2.1.2.2.1.1, v1.2.1.2.2.1.2.1, v1.2.1.2.2.1.2.2.1, ()), v1.2.1.2.2.2.1, ()), 1, ())) fun v3 =>
    obind (laws_heldArchive ((v1.2.1.1, (v3.1.1.2.1.1, v3.1.1.2.1.2.1, ()), (v1.2.1.2.2.1.1, v1.2.1.2.2.1.2.1, v1.2.1.2.2.1.2.2.1, ()), v3.1.1.2.2.2.1, ()), 1, ())) fun v4 =>
    tb (ilt v4.2.1 0)
    (some ((), false, ()))
    (tb (bnot (ieq v4.2.1 v3.2.1))
      (some ((), false, ()))
      (obind (impl_ArchiveNew ()) fun v5 =>
        obind (laws_eqArchive ((v5.2.1.1, (v5.2.1.2.1.1, v5.2.1.2.1.2.1, ()), (v5.2.1.2.2.1.1, v5.2.1.2.2.1.2.1, v5.2.1.2.2.1.2.2.1, ()), v5.2.1.2.2.2.1, ()), (v0.2.1.1, (v0.2.1.2.1.1, v0.2.1.2.1.2.1, ()), (v0.2.1.2.2.1.1, v0.2.1.2.2.1.2.1, v0.2.1.2.2.1.2.2.1, ()), v0.2.1.2.2.2.1, ()), ())) fun v6 =>
        tb (bnot v6.2.1)
        (some ((), false, ()))
        (obind (laws_heldArchive ((v1.2.1.1, (v3.1.1.2.1.1, v3.1.1.2.1.2.1, ()), (v1.2.1.2.2.1.1, v1.2.1.2.2.1.2.1, v1.2.1.2.2.1.2.2.1, ()), v3.1.1.2.2.2.1, ()), 1, ())) fun v7 =>
          tb (ilt v7.2.1 0)
          (some ((), false, ()))
          (tb (bnot (ieq v7.2.1 v3.2.1))
            (some ((), false, ()))
            (some ((), true, ())))))))
def laws_FnExactArchiveNew (x : Unit) : Option (Unit × (Bool × Unit)) := laws_FnExactArchiveNew_k fuel 
def laws_FnExactArchiveNew_s : List (Nat × Con) := [(53, ⟨[], [T78], (.pair T78 .unit), spec_ArchiveNew⟩), (54, ⟨[], [T78], (.pair T78 .unit), impl_ArchiveNew⟩), (55, ⟨[.val S78, .val S78], [.bool], (.pair .bool .unit), laws_eqArchive⟩), (56, ⟨[.bor T78, .val (.int .i64)], [(.int .i64)], (.pair (.int .i64) .unit), laws_markArchive⟩), (57, ⟨[.val S78, .val (.int .i64)], [(.int .i64)], (.pair (.int .i64) .unit), laws_heldArchive⟩)]
def laws_FnExactArchiveNew_E : Env := ⟨fun j => (look tyTab j).getD .unit, fun j => look laws_FnExactArchiveNew_s j⟩
theorem laws_FnExactArchiveNew_f_eq (N : Nat)  : funK laws_FnExactArchiveNew_E Try.f10 [] [.bool] (.pair .bool .unit) (fun i => look [] i) N () = laws_FnExactArchiveNew_k N  := by kernel_rfl
theorem laws_FnExactArchiveNew_o : Known Try.prog 10 ⟨[], [.bool], (.pair .bool .unit), laws_FnExactArchiveNew⟩ := known_of (tab := tyTab) (cons := laws_FnExactArchiveNew_s) (segs := []) (n := fuel) mixed_ok tab_ok (.cons spec_ArchiveNew_o (.cons impl_ArchiveNew_o (.cons laws_eqArchive_o (.cons laws_markArchive_o (.cons laws_heldArchive_o .nil))))) Try.func10 (by kernel_rfl) trivial (fun x => laws_FnExactArchiveNew_f_eq fuel )
def laws_szEntry_k (N : Nat) (x0 : (ByteArray × ByteArray × Unit)) (x1 : Int) : Option (Unit × (Int × Unit)) :=
  tb (ilt (wr .i64 (x1 - (((slen x0.1) : Nat) : Int))) 0)
  (some ((), (-1), ()))
  (tb (ilt (wr .i64 ((wr .i64 (x1 - (((slen x0.1) : Nat) : Int))) - (((slen x0.2.1) : Nat) : Int))) 0)
    (some ((), (-1), ()))
    (some ((), (wr .i64 ((wr .i64 (x1 - (((slen x0.1) : Nat) : Int))) - (((slen x0.2.1) : Nat) : Int))), ())))
def laws_szEntry (x : ((ByteArray × ByteArray × Unit) × Int × Unit)) : Option (Unit × (Int × Unit)) := laws_szEntry_k fuel x.1 x.2.1
def laws_szEntry_s : List (Nat × Con) := []
def laws_szEntry_E : Env := ⟨fun j => (look tyTab j).getD .unit, fun j => look laws_szEntry_s j⟩
theorem laws_szEntry_f_eq (N : Nat) (x0 : (ByteArray × ByteArray × Unit)) (x1 : Int) : funK laws_szEntry_E Try.f166 [.val S190, .val (.int .i64)] [(.int .i64)] (.pair (.int .i64) .unit) (fun i => look [] i) N (x0, x1, ()) = laws_szEntry_k N x0 x1 := by kernel_rfl
theorem laws_szEntry_o : Known Try.prog 166 ⟨[.val S190, .val (.int .i64)], [(.int .i64)], (.pair (.int .i64) .unit), laws_szEntry⟩ := known_of (tab := tyTab) (cons := laws_szEntry_s) (segs := []) (n := fuel) mixed_ok tab_ok .nil Try.func166 (by kernel_rfl) trivial (fun x => laws_szEntry_f_eq fuel x.1 x.2.1)
def laws_szEntryS_P0 : Tpl := ⟨[(0, .one (.leaf (.row false (.pair .str (.pair .str .unit))))), (1, .one (.leaf (.int .i64))), (5, .one (.leaf (.int .i64)))], [], []⟩
def laws_szEntryS_O0 : Tpl := ⟨[(1, .one (.leaf (.int .i64)))], [], []⟩
def laws_szEntryS_k0 (N : Nat) : Nat → (((Int × Unit) × (Unit × Unit)) → Option (Unit × (Int × Unit))) → (((List (ByteArray × (ByteArray × Unit))) × Int × Int × Unit) × (Unit × Unit)) → Option (Unit × (Int × Unit))
  | 0, _, _ => none
  | n + 1, k, x =>
    tb (ilt x.1.2.2.1 (((llen x.1.1) : Nat) : Int))
    (chk (0 ≤ x.1.2.2.1) (obind (at? x.1.1 (Int.toNat x.1.2.2.1)) fun v0 =>
        obind (laws_szEntry ((v0.1, v0.2.1, ()), x.1.2.1, ())) fun v1 =>
        tb (ilt v1.2.1 0)
        (some ((), (-1), ()))
        (laws_szEntryS_k0 N n k ((x.1.1, v1.2.1, (wr .i64 (x.1.2.2.1 + 1)), ()), (), ()))) (none))
    (k ((x.1.2.1, ()), (), ()))
def laws_szEntryS_k (N : Nat) (x0 : (List (ByteArray × ByteArray × Unit))) (x1 : Int) : Option (Unit × (Int × Unit)) :=
  tb (ilt (wr .i64 (x1 - (((llen x0) : Nat) : Int))) 0)
  (some ((), (-1), ()))
  (laws_szEntryS_k0 N N (fun v0 =>
      some ((), v0.1.1, ())) ((x0, (wr .i64 (x1 - (((llen x0) : Nat) : Int))), 0, ()), (), ()))
def laws_szEntryS (x : ((List (ByteArray × ByteArray × Unit)) × Int × Unit)) : Option (Unit × (Int × Unit)) := laws_szEntryS_k fuel x.1 x.2.1
def laws_szEntryS_s : List (Nat × Con) := [(166, ⟨[.val S190, .val (.int .i64)], [(.int .i64)], (.pair (.int .i64) .unit), laws_szEntry⟩)]
def laws_szEntryS_E : Env := ⟨fun j => (look tyTab j).getD .unit, fun j => look laws_szEntryS_s j⟩
theorem laws_szEntryS_r0 (N n : Nat) (k : laws_szEntryS_O0.ty.den → Option (Unit × (Int × Unit))) (x : laws_szEntryS_P0.ty.den) : roundK laws_szEntryS_E ⟨Try.f130.ntmps, N, (fun i => look [(0, ⟨laws_szEntryS_P0, laws_szEntryS_O0, [], [], laws_szEntryS_k0 N⟩)] i), retK laws_szEntryS_E Try.f130 [.val (.row false S190), .val (.int .i64)] [(.int .i64)] (.pair (.int .i64) .unit)⟩ (Try.f130.body.getD .skip) 0 ⟨laws_szEntryS_P0, laws_szEntryS_O0, [], [], laws_szEntryS_k0 N⟩ (laws_szEntryS_k0 N n k) k x = laws_szEntryS_k0 N (n + 1) k x := by kernel_rfl
theorem laws_szEntryS_f_eq (N : Nat) (x0 : (List (ByteArray × ByteArray × Unit))) (x1 : Int) : funK laws_szEntryS_E Try.f130 [.val (.row false S190), .val (.int .i64)] [(.int .i64)] (.pair (.int .i64) .unit) (fun i => look [(0, ⟨laws_szEntryS_P0, laws_szEntryS_O0, [], [], laws_szEntryS_k0 N⟩)] i) N (x0, x1, ()) = laws_szEntryS_k N x0 x1 := by kernel_rfl
theorem laws_szEntryS_o : Known Try.prog 130 ⟨[.val (.row false S190), .val (.int .i64)], [(.int .i64)], (.pair (.int .i64) .unit), laws_szEntryS⟩ := known_of (tab := tyTab) (cons := laws_szEntryS_s) (segs := [(0, ⟨laws_szEntryS_P0, laws_szEntryS_O0, [], [], laws_szEntryS_k0 fuel⟩)]) (n := fuel) mixed_ok tab_ok (.cons laws_szEntry_o .nil) Try.func130 (by kernel_rfl) ⟨⟨fun _ _ => rfl, fun n k x => laws_szEntryS_r0 fuel n k x⟩, trivial⟩ (fun x => laws_szEntryS_f_eq fuel x.1 x.2.1)
def laws_szArchive_k (N : Nat) (x0 : (Bool × ((List ByteArray) × (List (Int × ByteArray × Unit)) × Unit) × (Int × Int × Int × Unit) × (List (ByteArray × ByteArray × Unit)) × Unit)) (x1 : Int) : Option (Unit × (Int × Unit)) :=
  obind (laws_szDisk ((x0.2.1.1, x0.2.1.2.1, ()), x1, ())) fun v0 =>
  tb (ilt v0.2.1 0)
  (some ((), (-1), ()))
  (obind (laws_szEntryS (x0.2.2.2.1, v0.2.1, ())) fun v1 =>
    tb (ilt v1.2.1 0)
    (some ((), (-1), ()))
    (some ((), v1.2.1, ())))
def laws_szArchive (x : ((Bool × ((List ByteArray) × (List (Int × ByteArray × Unit)) × Unit) × (Int × Int × Int × Unit) × (List (ByteArray × ByteArray × Unit)) × Unit) × Int × Unit)) : Option (Unit × (Int × Unit)) := laws_szArchive_k fuel x.1 x.2.1
def laws_szArchive_s : List (Nat × Con) := [(36, ⟨[.val S51, .val (.int .i64)], [(.int .i64)], (.pair (.int .i64) .unit), laws_szDisk⟩), (130, ⟨[.val (.row false S190), .val (.int .i64)], [(.int .i64)], (.pair (.int .i64) .unit), laws_szEntryS⟩)]
def laws_szArchive_E : Env := ⟨fun j => (look tyTab j).getD .unit, fun j => look laws_szArchive_s j⟩
theorem laws_szArchive_f_eq (N : Nat) (x0 : (Bool × ((List ByteArray) × (List (Int × ByteArray × Unit)) × Unit) × (Int × Int × Int × Unit) × (List (ByteArray × ByteArray × Unit)) × Unit)) (x1 : Int) : funK laws_szArchive_E Try.f67 [.val S94, .val (.int .i64)] [(.int .i64)] (.pair (.int .i64) .unit) (fun i => look [] i) N (x0, x1, ()) = laws_szArchive_k N x0 x1 := by kernel_rfl
theorem laws_szArchive_o : Known Try.prog 67 ⟨[.val S94, .val (.int .i64)], [(.int .i64)], (.pair (.int .i64) .unit), laws_szArchive⟩ := known_of (tab := tyTab) (cons := laws_szArchive_s) (segs := []) (n := fuel) mixed_ok tab_ok (.cons laws_szDisk_o (.cons laws_szEntryS_o .nil)) Try.func67 (by kernel_rfl) trivial (fun x => laws_szArchive_f_eq fuel x.1 x.2.1)
def spec_UrlOk_P0 : Tpl := ⟨[(0, .one (.leaf .str)), (3, .one (.leaf (.int .i64)))], [], []⟩
def spec_UrlOk_O0 : Tpl := ⟨[], [], []⟩
def spec_UrlOk_k0 (N : Nat) : Nat → ((Unit × (Unit × Unit)) → Option (Unit × (Bool × Unit))) → ((ByteArray × Int × Unit) × (Unit × Unit)) → Option (Unit × (Bool × Unit))
  | 0, _, _ => none
  | n + 1, k, x =>
    tb (ilt x.1.2.1 (((slen x.1.1) : Nat) : Int))
    (chk ((0 ≤ x.1.2.1) ∧ (x.1.2.1 < (((slen x.1.1) : Nat) : Int))) (tb (ilt (bt x.1.1 x.1.2.1) 33)
        (some ((), false, ()))
        (chk ((0 ≤ x.1.2.1) ∧ (x.1.2.1 < (((slen x.1.1) : Nat) : Int))) (tb (ilt 126 (bt x.1.1 x.1.2.1))
            (some ((), false, ()))
            (spec_UrlOk_k0 N n k ((x.1.1, (wr .i64 (x.1.2.1 + 1)), ()), (), ()))) (none))) (none))
    (k ((), (), ()))
def spec_UrlOk_k (N : Nat) (x0 : ByteArray) : Option (Unit × (Bool × Unit)) :=
  obind (spec_l1In ((((slen x0) : Nat) : Int), 1, 60, ())) fun v0 =>
  tb (bnot v0.2.1)
  (some ((), false, ()))
  (spec_UrlOk_k0 N N (fun v1 =>
      some ((), true, ())) ((x0, 0, ()), (), ()))
def spec_UrlOk (x : (ByteArray × Unit)) : Option (Unit × (Bool × Unit)) := spec_UrlOk_k fuel x.1
def spec_UrlOk_s : List (Nat × Con) := [(96, ⟨[.val (.int .i64), .val (.int .i64), .val (.int .i64)], [.bool], (.pair .bool .unit), spec_l1In⟩)]
def spec_UrlOk_E : Env := ⟨fun j => (look tyTab j).getD .unit, fun j => look spec_UrlOk_s j⟩
theorem spec_UrlOk_r0 (N n : Nat) (k : spec_UrlOk_O0.ty.den → Option (Unit × (Bool × Unit))) (x : spec_UrlOk_P0.ty.den) : roundK spec_UrlOk_E ⟨Try.f76.ntmps, N, (fun i => look [(0, ⟨spec_UrlOk_P0, spec_UrlOk_O0, [], [], spec_UrlOk_k0 N⟩)] i), retK spec_UrlOk_E Try.f76 [.val .str] [.bool] (.pair .bool .unit)⟩ (Try.f76.body.getD .skip) 0 ⟨spec_UrlOk_P0, spec_UrlOk_O0, [], [], spec_UrlOk_k0 N⟩ (spec_UrlOk_k0 N n k) k x = spec_UrlOk_k0 N (n + 1) k x := by kernel_rfl
theorem spec_UrlOk_f_eq (N : Nat) (x0 : ByteArray) : funK spec_UrlOk_E Try.f76 [.val .str] [.bool] (.pair .bool .unit) (fun i => look [(0, ⟨spec_UrlOk_P0, spec_UrlOk_O0, [], [], spec_UrlOk_k0 N⟩)] i) N (x0, ()) = spec_UrlOk_k N x0 := by kernel_rfl
theorem spec_UrlOk_o : Known Try.prog 76 ⟨[.val .str], [.bool], (.pair .bool .unit), spec_UrlOk⟩ := known_of (tab := tyTab) (cons := spec_UrlOk_s) (segs := [(0, ⟨spec_UrlOk_P0, spec_UrlOk_O0, [], [], spec_UrlOk_k0 fuel⟩)]) (n := fuel) mixed_ok tab_ok (.cons spec_l1In_o .nil) Try.func76 (by kernel_rfl) ⟨⟨fun _ _ => rfl, fun n k x => spec_UrlOk_r0 fuel n k x⟩, trivial⟩ (fun x => spec_UrlOk_f_eq fuel x.1)
def spec_PutText_k (N : Nat) (x0 : ByteArray) : Option (Unit × ((List Int) × Unit)) :=
  obind (spec_PutNum ((((slen x0) : Nat) : Int), ())) fun v0 =>
  chk ((plus (llen v0.2.1) (llen (bytesOf x0))) ≤ 140737488355328) (some ((), (lapp v0.2.1 (bytesOf x0)), ())) (none)
def spec_PutText (x : (ByteArray × Unit)) : Option (Unit × ((List Int) × Unit)) := spec_PutText_k fuel x.1
def spec_PutText_s : List (Nat × Con) := [(77, ⟨[.val (.int .i64)], [(.row true (.int .u8))], (.pair (.row true (.int .u8)) .unit), spec_PutNum⟩)]
def spec_PutText_E : Env := ⟨fun j => (look tyTab j).getD .unit, fun j => look spec_PutText_s j⟩
theorem spec_PutText_f_eq (N : Nat) (x0 : ByteArray) : funK spec_PutText_E Try.f78 [.val .str] [(.row true (.int .u8))] (.pair (.row true (.int .u8)) .unit) (fun i => look [] i) N (x0, ()) = spec_PutText_k N x0 := by kernel_rfl
theorem spec_PutText_o : Known Try.prog 78 ⟨[.val .str], [(.row true (.int .u8))], (.pair (.row true (.int .u8)) .unit), spec_PutText⟩ := known_of (tab := tyTab) (cons := spec_PutText_s) (segs := []) (n := fuel) mixed_ok tab_ok (.cons spec_PutNum_o .nil) Try.func78 (by kernel_rfl) trivial (fun x => spec_PutText_f_eq fuel x.1)
def spec_RecordPack_k (N : Nat) (x0 : (Int × ByteArray × ByteArray × Unit)) : Option (Unit × ((List Int) × Bool × Unit)) :=
  tb (bnot (ieq x0.1 1))
  (tb (bnot (ieq x0.1 2))
    (some ((), [], false, ()))
    (obind (spec_UrlOk (x0.2.1, ())) fun v0 =>
      tb (bnot v0.2.1)
      (some ((), [], false, ()))
      (tb (ieq x0.1 2)
        (tb (bnot (seq x0.2.2.1 (⟨#[]⟩ : ByteArray)))
          (some ((), [], false, ()))
          (obind (spec_PutNum (x0.1, ())) fun v1 =>
            obind (spec_PutText (x0.2.1, ())) fun v2 =>
            chk ((plus (llen v1.2.1) (llen v2.2.1)) ≤ 140737488355328) (tb (ieq x0.1 1)
              (obind (spec_PutText (x0.2.2.1, ())) fun v3 =>
                chk ((plus (llen (lapp v1.2.1 v2.2.1)) (llen v3.2.1)) ≤ 140737488355328) (some ((), (lapp (lapp v1.2.1 v2.2.1) v3.2.1), true, ())) (none))
              (some ((), (lapp v1.2.1 v2.2.1), true, ()))) (none)))
        (obind (spec_PutNum (x0.1, ())) fun v4 =>
          obind (spec_PutText (x0.2.1, ())) fun v5 =>
          chk ((plus (llen v4.2.1) (llen v5.2.1)) ≤ 140737488355328) (tb (ieq x0.1 1)
            (obind (spec_PutText (x0.2.2.1, ())) fun v6 =>
              chk ((plus (llen (lapp v4.2.1 v5.2.1)) (llen v6.2.1)) ≤ 140737488355328) (some ((), (lapp (lapp v4.2.1 v5.2.1) v6.2.1), true, ())) (none))
            (some ((), (lapp v4.2.1 v5.2.1), true, ()))) (none)))))
  (obind (spec_UrlOk (x0.2.1, ())) fun v7 =>
    tb (bnot v7.2.1)
    (some ((), [], false, ()))
    (tb (ieq x0.1 2)
      (tb (bnot (seq x0.2.2.1 (⟨#[]⟩ : ByteArray)))
        (some ((), [], false, ()))
        (obind (spec_PutNum (x0.1, ())) fun v8 =>
          obind (spec_PutText (x0.2.1, ())) fun v9 =>
          chk ((plus (llen v8.2.1) (llen v9.2.1)) ≤ 140737488355328) (tb (ieq x0.1 1)
            (obind (spec_PutText (x0.2.2.1, ())) fun v10 =>
              chk ((plus (llen (lapp v8.2.1 v9.2.1)) (llen v10.2.1)) ≤ 140737488355328) (some ((), (lapp (lapp v8.2.1 v9.2.1) v10.2.1), true, ())) (none))
            (some ((), (lapp v8.2.1 v9.2.1), true, ()))) (none)))
      (obind (spec_PutNum (x0.1, ())) fun v11 =>
        obind (spec_PutText (x0.2.1, ())) fun v12 =>
        chk ((plus (llen v11.2.1) (llen v12.2.1)) ≤ 140737488355328) (tb (ieq x0.1 1)
          (obind (spec_PutText (x0.2.2.1, ())) fun v13 =>
            chk ((plus (llen (lapp v11.2.1 v12.2.1)) (llen v13.2.1)) ≤ 140737488355328) (some ((), (lapp (lapp v11.2.1 v12.2.1) v13.2.1), true, ())) (none))
          (some ((), (lapp v11.2.1 v12.2.1), true, ()))) (none))))
def spec_RecordPack (x : ((Int × ByteArray × ByteArray × Unit) × Unit)) : Option (Unit × ((List Int) × Bool × Unit)) := spec_RecordPack_k fuel x.1
def spec_RecordPack_s : List (Nat × Con) := [(76, ⟨[.val .str], [.bool], (.pair .bool .unit), spec_UrlOk⟩), (77, ⟨[.val (.int .i64)], [(.row true (.int .u8))], (.pair (.row true (.int .u8)) .unit), spec_PutNum⟩), (78, ⟨[.val .str], [(.row true (.int .u8))], (.pair (.row true (.int .u8)) .unit), spec_PutText⟩)]
def spec_RecordPack_E : Env := ⟨fun j => (look tyTab j).getD .unit, fun j => look spec_RecordPack_s j⟩
theorem spec_RecordPack_f_eq (N : Nat) (x0 : (Int × ByteArray × ByteArray × Unit)) : funK spec_RecordPack_E Try.f17 [.val S25] [(.row true (.int .u8)), .bool] (.pair (.row true (.int .u8)) (.pair .bool .unit)) (fun i => look [] i) N (x0, ()) = spec_RecordPack_k N x0 := by kernel_rfl
theorem spec_RecordPack_o : Known Try.prog 17 ⟨[.val S25], [(.row true (.int .u8)), .bool], (.pair (.row true (.int .u8)) (.pair .bool .unit)), spec_RecordPack⟩ := known_of (tab := tyTab) (cons := spec_RecordPack_s) (segs := []) (n := fuel) mixed_ok tab_ok (.cons spec_UrlOk_o (.cons spec_PutNum_o (.cons spec_PutText_o .nil))) Try.func17 (by kernel_rfl) trivial (fun x => spec_RecordPack_f_eq fuel x.1)
def spec_GetNum_P0 : Tpl := ⟨[(0, .one (.leaf (.row false (.int .u8)))), (1, .one (.leaf (.int .i64))), (7, .one (.leaf (.int .i64))), (8, .one (.leaf (.int .i64))), (9, .one (.leaf (.int .i64)))], [], []⟩
def spec_GetNum_O0 : Tpl := ⟨[], [], []⟩
def spec_GetNum_k0 (N : Nat) : Nat → ((Unit × (Unit × Unit)) → Option (Unit × (Int × Int × Bool × Unit))) → (((List Int) × Int × Int × Int × Int × Unit) × (Unit × Unit)) → Option (Unit × (Int × Int × Bool × Unit))
  | 0, _, _ => none
  | n + 1, k, x =>
    tb (ilt x.1.2.2.2.2.1 9)
    (tb (ilt (wr .i64 (x.1.2.1 + x.1.2.2.2.2.1)) (((llen x.1.1) : Nat) : Int))
      (chk (0 ≤ (wr .i64 (x.1.2.1 + x.1.2.2.2.2.1))) (obind (at? x.1.1 (Int.toNat (wr .i64 (x.1.2.1 + x.1.2.2.2.2.1)))) fun v0 =>
          chk ((128 : Int) = 0) (none) (tb (ilt (wr .i64 v0) 128)
            (tb (ieq (wr .i64 v0) 0)
              (tb (ilt 0 x.1.2.2.2.2.1)
                (some ((), 0, 0, false, ()))
                (some ((), (wr .i64 (x.1.2.2.1 + (wr .i64 ((Int.tmod (wr .i64 v0) 128) * x.1.2.2.2.1)))), (wr .i64 ((wr .i64 (x.1.2.1 + x.1.2.2.2.2.1)) + 1)), true, ())))
              (some ((), (wr .i64 (x.1.2.2.1 + (wr .i64 ((Int.tmod (wr .i64 v0) 128) * x.1.2.2.2.1)))), (wr .i64 ((wr .i64 (x.1.2.1 + x.1.2.2.2.2.1)) + 1)), true, ())))
            (spec_GetNum_k0 N n k ((x.1.1, x.1.2.1, (wr .i64 (x.1.2.2.1 + (wr .i64 ((Int.tmod (wr .i64 v0) 128) * x.1.2.2.2.1)))), (wr .i64 (x.1.2.2.2.1 * 128)), (wr .i64 (x.1.2.2.2.2.1 + 1)), ()), (), ())))) (none))
      (k ((), (), ())))
    (k ((), (), ()))
def spec_GetNum_k (N : Nat) (x0 : (List Int)) (x1 : Int) : Option (Unit × (Int × Int × Bool × Unit)) :=
  tb (ilt x1 0)
  (some ((), 0, 0, false, ()))
  (tb (ile (((llen x0) : Nat) : Int) x1)
    (some ((), 0, 0, false, ()))
    (spec_GetNum_k0 N N (fun v0 =>
        some ((), 0, 0, false, ())) ((x0, x1, 0, 1, 0, ()), (), ())))
def spec_GetNum (x : ((List Int) × Int × Unit)) : Option (Unit × (Int × Int × Bool × Unit)) := spec_GetNum_k fuel x.1 x.2.1
def spec_GetNum_s : List (Nat × Con) := []
def spec_GetNum_E : Env := ⟨fun j => (look tyTab j).getD .unit, fun j => look spec_GetNum_s j⟩
theorem spec_GetNum_r0 (N n : Nat) (k : spec_GetNum_O0.ty.den → Option (Unit × (Int × Int × Bool × Unit))) (x : spec_GetNum_P0.ty.den) : roundK spec_GetNum_E ⟨Try.f140.ntmps, N, (fun i => look [(0, ⟨spec_GetNum_P0, spec_GetNum_O0, [], [], spec_GetNum_k0 N⟩)] i), retK spec_GetNum_E Try.f140 [.val (.row false (.int .u8)), .val (.int .i64)] [(.int .i64), (.int .i64), .bool] (.pair (.int .i64) (.pair (.int .i64) (.pair .bool .unit)))⟩ (Try.f140.body.getD .skip) 0 ⟨spec_GetNum_P0, spec_GetNum_O0, [], [], spec_GetNum_k0 N⟩ (spec_GetNum_k0 N n k) k x = spec_GetNum_k0 N (n + 1) k x := by kernel_rfl
theorem spec_GetNum_f_eq (N : Nat) (x0 : (List Int)) (x1 : Int) : funK spec_GetNum_E Try.f140 [.val (.row false (.int .u8)), .val (.int .i64)] [(.int .i64), (.int .i64), .bool] (.pair (.int .i64) (.pair (.int .i64) (.pair .bool .unit))) (fun i => look [(0, ⟨spec_GetNum_P0, spec_GetNum_O0, [], [], spec_GetNum_k0 N⟩)] i) N (x0, x1, ()) = spec_GetNum_k N x0 x1 := by kernel_rfl
theorem spec_GetNum_o : Known Try.prog 140 ⟨[.val (.row false (.int .u8)), .val (.int .i64)], [(.int .i64), (.int .i64), .bool], (.pair (.int .i64) (.pair (.int .i64) (.pair .bool .unit))), spec_GetNum⟩ := known_of (tab := tyTab) (cons := spec_GetNum_s) (segs := [(0, ⟨spec_GetNum_P0, spec_GetNum_O0, [], [], spec_GetNum_k0 fuel⟩)]) (n := fuel) mixed_ok tab_ok .nil Try.func140 (by kernel_rfl) ⟨⟨fun _ _ => rfl, fun n k x => spec_GetNum_r0 fuel n k x⟩, trivial⟩ (fun x => spec_GetNum_f_eq fuel x.1 x.2.1)
def spec_GetText_k (N : Nat) (x0 : (List Int)) (x1 : Int) : Option (Unit × (ByteArray × Int × Bool × Unit)) :=
  obind (spec_GetNum (x0, x1, ())) fun v0 =>
  tb (bnot v0.2.2.2.1)
  (some ((), (⟨#[]⟩ : ByteArray), 0, false, ()))
  (tb (ilt (wr .i64 ((((llen x0) : Nat) : Int) - v0.2.2.1)) v0.2.1)
    (some ((), (⟨#[]⟩ : ByteArray), 0, false, ()))
    (chk ((0 ≤ v0.2.2.1) ∧ ((v0.2.2.1 ≤ (wr .i64 (v0.2.2.1 + v0.2.1))) ∧ ((wr .i64 (v0.2.2.1 + v0.2.1)) ≤ (((llen x0) : Nat) : Int)))) (some ((), (strOf (lcut x0 (Int.toNat v0.2.2.1) (Int.toNat (wr .i64 (v0.2.2.1 + v0.2.1))))), (wr .i64 (v0.2.2.1 + v0.2.1)), true, ())) (none)))
def spec_GetText (x : ((List Int) × Int × Unit)) : Option (Unit × (ByteArray × Int × Bool × Unit)) := spec_GetText_k fuel x.1 x.2.1
def spec_GetText_s : List (Nat × Con) := [(140, ⟨[.val (.row false (.int .u8)), .val (.int .i64)], [(.int .i64), (.int .i64), .bool], (.pair (.int .i64) (.pair (.int .i64) (.pair .bool .unit))), spec_GetNum⟩)]
def spec_GetText_E : Env := ⟨fun j => (look tyTab j).getD .unit, fun j => look spec_GetText_s j⟩
theorem spec_GetText_f_eq (N : Nat) (x0 : (List Int)) (x1 : Int) : funK spec_GetText_E Try.f141 [.val (.row false (.int .u8)), .val (.int .i64)] [.str, (.int .i64), .bool] (.pair .str (.pair (.int .i64) (.pair .bool .unit))) (fun i => look [] i) N (x0, x1, ()) = spec_GetText_k N x0 x1 := by kernel_rfl
theorem spec_GetText_o : Known Try.prog 141 ⟨[.val (.row false (.int .u8)), .val (.int .i64)], [.str, (.int .i64), .bool], (.pair .str (.pair (.int .i64) (.pair .bool .unit))), spec_GetText⟩ := known_of (tab := tyTab) (cons := spec_GetText_s) (segs := []) (n := fuel) mixed_ok tab_ok (.cons spec_GetNum_o .nil) Try.func141 (by kernel_rfl) trivial (fun x => spec_GetText_f_eq fuel x.1 x.2.1)
def spec_RecordRead_k (N : Nat) (x0 : (List Int)) (x1 : Int) : Option (Unit × ((Int × ByteArray × ByteArray × Unit) × Int × Bool × Unit)) :=
  obind (spec_GetNum (x0, x1, ())) fun v0 =>
  tb (bnot v0.2.2.2.1)
  (some ((), (0, (⟨#[]⟩ : ByteArray), (⟨#[]⟩ : ByteArray), ()), 0, false, ()))
  (obind (spec_GetText (x0, v0.2.2.1, ())) fun v1 =>
    tb (bnot v1.2.2.2.1)
    (some ((), (0, (⟨#[]⟩ : ByteArray), (⟨#[]⟩ : ByteArray), ()), 0, false, ()))
    (tb (ieq v0.2.1 1)
      (obind (spec_GetText (x0, v1.2.2.1, ())) fun v2 =>
        tb (bnot v2.2.2.2.1)
        (some ((), (0, (⟨#[]⟩ : ByteArray), (⟨#[]⟩ : ByteArray), ()), 0, false, ()))
        (obind (spec_RecordPack ((v0.2.1, v1.2.1, v2.2.1, ()), ())) fun v3 =>
          tb (bnot v3.2.2.1)
          (some ((), (0, (⟨#[]⟩ : ByteArray), (⟨#[]⟩ : ByteArray), ()), 0, false, ()))
          (some ((), (v0.2.1, v1.2.1, v2.2.1, ()), v2.2.2.1, true, ()))))
      (obind (spec_RecordPack ((v0.2.1, v1.2.1, (⟨#[]⟩ : ByteArray), ()), ())) fun v4 =>
        tb (bnot v4.2.2.1)
        (some ((), (0, (⟨#[]⟩ : ByteArray), (⟨#[]⟩ : ByteArray), ()), 0, false, ()))
        (some ((), (v0.2.1, v1.2.1, (⟨#[]⟩ : ByteArray), ()), v1.2.2.1, true, ())))))
def spec_RecordRead (x : ((List Int) × Int × Unit)) : Option (Unit × ((Int × ByteArray × ByteArray × Unit) × Int × Bool × Unit)) := spec_RecordRead_k fuel x.1 x.2.1
def spec_RecordRead_s : List (Nat × Con) := [(17, ⟨[.val S25], [(.row true (.int .u8)), .bool], (.pair (.row true (.int .u8)) (.pair .bool .unit)), spec_RecordPack⟩), (140, ⟨[.val (.row false (.int .u8)), .val (.int .i64)], [(.int .i64), (.int .i64), .bool], (.pair (.int .i64) (.pair (.int .i64) (.pair .bool .unit))), spec_GetNum⟩), (141, ⟨[.val (.row false (.int .u8)), .val (.int .i64)], [.str, (.int .i64), .bool], (.pair .str (.pair (.int .i64) (.pair .bool .unit))), spec_GetText⟩)]
def spec_RecordRead_E : Env := ⟨fun j => (look tyTab j).getD .unit, fun j => look spec_RecordRead_s j⟩
theorem spec_RecordRead_f_eq (N : Nat) (x0 : (List Int)) (x1 : Int) : funK spec_RecordRead_E Try.f82 [.val (.row false (.int .u8)), .val (.int .i64)] [S25, (.int .i64), .bool] (.pair S25 (.pair (.int .i64) (.pair .bool .unit))) (fun i => look [] i) N (x0, x1, ()) = spec_RecordRead_k N x0 x1 := by kernel_rfl
theorem spec_RecordRead_o : Known Try.prog 82 ⟨[.val (.row false (.int .u8)), .val (.int .i64)], [S25, (.int .i64), .bool], (.pair S25 (.pair (.int .i64) (.pair .bool .unit))), spec_RecordRead⟩ := known_of (tab := tyTab) (cons := spec_RecordRead_s) (segs := []) (n := fuel) mixed_ok tab_ok (.cons spec_RecordPack_o (.cons spec_GetNum_o (.cons spec_GetText_o .nil))) Try.func82 (by kernel_rfl) trivial (fun x => spec_RecordRead_f_eq fuel x.1 x.2.1)
def spec_Records_P0 : Tpl := ⟨[(0, .one (.leaf (.row false (.int .u8)))), (4, .one (.fix (.ref 10000 [] none))), (5, .one (.leaf (.int .i64)))], [], [(10000, (.pair (.int .i64) (.pair .str (.pair .str .unit))))]⟩
def spec_Records_O0 : Tpl := ⟨[(4, .one (.fix (.ref 10500 [] none)))], [], [(10500, (.pair (.int .i64) (.pair .str (.pair .str .unit))))]⟩
def spec_Records_k0 (N : Nat) : Nat → ((Unit × (Unit × ((List (Int × (ByteArray × (ByteArray × Unit)))) × Unit))) → Option (Unit × ((List (Int × ByteArray × ByteArray × Unit)) × Bool × Unit))) → (((List Int) × Int × Unit) × (Unit × ((List (Int × (ByteArray × (ByteArray × Unit)))) × Unit))) → Option (Unit × ((List (Int × ByteArray × ByteArray × Unit)) × Bool × Unit))
  | 0, _, _ => none
  | n + 1, k, x =>
    tb (ilt x.1.2.1 (((llen x.1.1) : Nat) : Int))
    (obind (spec_RecordRead (x.1.1, x.1.2.1, ())) fun v0 =>
      tb (bnot v0.2.2.2.1)
      (some ((), [], false, ()))
      (chk ((plus (llen x.2.2.1) (llen [(v0.2.1.1, v0.2.1.2.1, v0.2.1.2.2.1, ())])) ≤ 3518437208883) (spec_Records_k0 N n k ((x.1.1, v0.2.2.1, ()), (), (lapp x.2.2.1 [(v0.2.1.1, v0.2.1.2.1, v0.2.1.2.2.1, ())]), ())) (none)))
    (k ((), (), x.2.2.1, ()))
def spec_Records_k (N : Nat) (x0 : (List Int)) : Option (Unit × ((List (Int × ByteArray × ByteArray × Unit)) × Bool × Unit)) :=
  spec_Records_k0 N N (fun v0 =>
    some ((), v0.2.2.1, true, ())) ((x0, 0, ()), (), [], ())
def spec_Records (x : ((List Int) × Unit)) : Option (Unit × ((List (Int × ByteArray × ByteArray × Unit)) × Bool × Unit)) := spec_Records_k fuel x.1
def spec_Records_s : List (Nat × Con) := [(82, ⟨[.val (.row false (.int .u8)), .val (.int .i64)], [S25, (.int .i64), .bool], (.pair S25 (.pair (.int .i64) (.pair .bool .unit))), spec_RecordRead⟩)]
def spec_Records_E : Env := ⟨fun j => (look tyTab j).getD .unit, fun j => look spec_Records_s j⟩
theorem spec_Records_r0 (N n : Nat) (k : spec_Records_O0.ty.den → Option (Unit × ((List (Int × ByteArray × ByteArray × Unit)) × Bool × Unit))) (x : spec_Records_P0.ty.den) : roundK spec_Records_E ⟨Try.f21.ntmps, N, (fun i => look [(0, ⟨spec_Records_P0, spec_Records_O0, [.tmp 4 10000 (.pair (.int .i64) (.pair .str (.pair .str .unit)))], [.tmp 4 10500 (.pair (.int .i64) (.pair .str (.pair .str .unit)))], spec_Records_k0 N⟩)] i), retK spec_Records_E Try.f21 [.val (.row false (.int .u8))] [(.row true T25), .bool] (.pair (.row true T25) (.pair .bool .unit))⟩ (Try.f21.body.getD .skip) 0 ⟨spec_Records_P0, spec_Records_O0, [.tmp 4 10000 (.pair (.int .i64) (.pair .str (.pair .str .unit)))], [.tmp 4 10500 (.pair (.int .i64) (.pair .str (.pair .str .unit)))], spec_Records_k0 N⟩ (spec_Records_k0 N n k) k x = spec_Records_k0 N (n + 1) k x := by kernel_rfl
theorem spec_Records_f_eq (N : Nat) (x0 : (List Int)) : funK spec_Records_E Try.f21 [.val (.row false (.int .u8))] [(.row true T25), .bool] (.pair (.row true T25) (.pair .bool .unit)) (fun i => look [(0, ⟨spec_Records_P0, spec_Records_O0, [.tmp 4 10000 (.pair (.int .i64) (.pair .str (.pair .str .unit)))], [.tmp 4 10500 (.pair (.int .i64) (.pair .str (.pair .str .unit)))], spec_Records_k0 N⟩)] i) N (x0, ()) = spec_Records_k N x0 := by kernel_rfl
theorem spec_Records_o : Known Try.prog 21 ⟨[.val (.row false (.int .u8))], [(.row true T25), .bool], (.pair (.row true T25) (.pair .bool .unit)), spec_Records⟩ := known_of (tab := tyTab) (cons := spec_Records_s) (segs := [(0, ⟨spec_Records_P0, spec_Records_O0, [.tmp 4 10000 (.pair (.int .i64) (.pair .str (.pair .str .unit)))], [.tmp 4 10500 (.pair (.int .i64) (.pair .str (.pair .str .unit)))], spec_Records_k0 fuel⟩)]) (n := fuel) mixed_ok tab_ok (.cons spec_RecordRead_o .nil) Try.func21 (by kernel_rfl) ⟨⟨fun _ _ => rfl, fun n k x => spec_Records_r0 fuel n k x⟩, trivial⟩ (fun x => spec_Records_f_eq fuel x.1)
def spec_IndexOf_P2 : Tpl := ⟨[(0, .one (.leaf (.row false (.pair (.int .i64) (.pair .str (.pair .str .unit)))))), (3, .one (.fix (.ref 12000 [] none))), (4, .one (.leaf (.int .i64))), (5, .one (.fix (.ref 12001 [] none))), (6, .one (.leaf .bool)), (7, .one (.leaf (.int .i64)))], [], [(12000, (.pair .str (.pair .str .unit))), (12001, (.pair .str (.pair .str .unit)))]⟩
def spec_IndexOf_O2 : Tpl := ⟨[(0, .one (.leaf (.row false (.pair (.int .i64) (.pair .str (.pair .str .unit)))))), (4, .one (.leaf (.int .i64))), (5, .one (.fix (.ref 12500 [] none))), (6, .one (.leaf .bool))], [], [(12500, (.pair .str (.pair .str .unit)))]⟩
def spec_IndexOf_k2 (N : Nat) : Nat → ((((List (Int × (ByteArray × (ByteArray × Unit)))) × Int × Bool × Unit) × (Unit × ((List (ByteArray × (ByteArray × Unit))) × Unit))) → Option (Unit × ((List (ByteArray × ByteArray × Unit)) × Unit))) → (((List (Int × (ByteArray × (ByteArray × Unit)))) × Int × Bool × Int × Unit) × (Unit × ((List (ByteArray × (ByteArray × Unit))) × (List (ByteArray × (ByteArray × Unit))) × Unit))) → Option (Unit × ((List (ByteArray × ByteArray × Unit)) × Unit))
  | 0, _, _ => none
  | n + 1, k, x =>
    tb (ilt x.1.2.2.2.1 (((llen x.2.2.1) : Nat) : Int))
    (tb (bnot x.1.2.2.1)
      (chk ((0 ≤ x.1.2.2.2.1) ∧ (x.1.2.2.2.1 < (((llen x.2.2.1) : Nat) : Int))) (obind (at? x.2.2.1 (Int.toNat x.1.2.2.2.1)) fun v0 =>
          chk (0 ≤ x.1.2.1) (obind (at? x.1.1 (Int.toNat x.1.2.1)) fun v1 =>
            tb (bnot (slt v0.1 v1.2.1))
            (chk (0 ≤ x.1.2.1) (obind (at? x.1.1 (Int.toNat x.1.2.1)) fun v2 =>
                chk (0 ≤ x.1.2.1) (obind (at? x.1.1 (Int.toNat x.1.2.1)) fun v3 =>
                  chk ((plus (llen x.2.2.2.1) (llen [(v2.2.1, v3.2.2.1, ())])) ≤ 4398046511104) (chk ((0 ≤ x.1.2.2.2.1) ∧ (x.1.2.2.2.1 < (((llen x.2.2.1) : Nat) : Int))) (obind (at? x.2.2.1 (Int.toNat x.1.2.2.2.1)) fun v4 =>
                      chk (0 ≤ x.1.2.1) (obind (at? x.1.1 (Int.toNat x.1.2.1)) fun v5 =>
                        tb (bnot (seq v4.1 v5.2.1))
                        (chk ((0 ≤ x.1.2.2.2.1) ∧ (x.1.2.2.2.1 < (((llen x.2.2.1) : Nat) : Int))) (obind (at? x.2.2.1 (Int.toNat x.1.2.2.2.1)) fun v6 =>
                            chk ((plus (llen (lapp x.2.2.2.1 [(v2.2.1, v3.2.2.1, ())])) (llen [(v6.1, v6.2.1, ())])) ≤ 4398046511104) (spec_IndexOf_k2 N n k ((x.1.1, x.1.2.1, true, (wr .i64 (x.1.2.2.2.1 + 1)), ()), (), x.2.2.1, (lapp (lapp x.2.2.2.1 [(v2.2.1, v3.2.2.1, ())]) [(v6.1, v6.2.1, ())]), ())) (none)) (none))
                        (spec_IndexOf_k2 N n k ((x.1.1, x.1.2.1, true, (wr .i64 (x.1.2.2.2.1 + 1)), ()), (), x.2.2.1, (lapp x.2.2.2.1 [(v2.2.1, v3.2.2.1, ())]), ()))) (none)) (none)) (none)) (none)) (none))
            (chk ((0 ≤ x.1.2.2.2.1) ∧ (x.1.2.2.2.1 < (((llen x.2.2.1) : Nat) : Int))) (obind (at? x.2.2.1 (Int.toNat x.1.2.2.2.1)) fun v7 =>
                chk (0 ≤ x.1.2.1) (obind (at? x.1.1 (Int.toNat x.1.2.1)) fun v8 =>
                  tb (bnot (seq v7.1 v8.2.1))
                  (chk ((0 ≤ x.1.2.2.2.1) ∧ (x.1.2.2.2.1 < (((llen x.2.2.1) : Nat) : Int))) (obind (at? x.2.2.1 (Int.toNat x.1.2.2.2.1)) fun v9 =>
                      chk ((plus (llen x.2.2.2.1) (llen [(v9.1, v9.2.1, ())])) ≤ 4398046511104) (spec_IndexOf_k2 N n k ((x.1.1, x.1.2.1, x.1.2.2.1, (wr .i64 (x.1.2.2.2.1 + 1)), ()), (), x.2.2.1, (lapp x.2.2.2.1 [(v9.1, v9.2.1, ())]), ())) (none)) (none))
                  (spec_IndexOf_k2 N n k ((x.1.1, x.1.2.1, x.1.2.2.1, (wr .i64 (x.1.2.2.2.1 + 1)), ()), (), x.2.2.1, x.2.2.2.1, ()))) (none)) (none))) (none)) (none))
      (chk ((0 ≤ x.1.2.2.2.1) ∧ (x.1.2.2.2.1 < (((llen x.2.2.1) : Nat) : Int))) (obind (at? x.2.2.1 (Int.toNat x.1.2.2.2.1)) fun v10 =>
          chk (0 ≤ x.1.2.1) (obind (at? x.1.1 (Int.toNat x.1.2.1)) fun v11 =>
            tb (bnot (seq v10.1 v11.2.1))
            (chk ((0 ≤ x.1.2.2.2.1) ∧ (x.1.2.2.2.1 < (((llen x.2.2.1) : Nat) : Int))) (obind (at? x.2.2.1 (Int.toNat x.1.2.2.2.1)) fun v12 =>
                chk ((plus (llen x.2.2.2.1) (llen [(v12.1, v12.2.1, ())])) ≤ 4398046511104) (spec_IndexOf_k2 N n k ((x.1.1, x.1.2.1, x.1.2.2.1, (wr .i64 (x.1.2.2.2.1 + 1)), ()), (), x.2.2.1, (lapp x.2.2.2.1 [(v12.1, v12.2.1, ())]), ())) (none)) (none))
            (spec_IndexOf_k2 N n k ((x.1.1, x.1.2.1, x.1.2.2.1, (wr .i64 (x.1.2.2.2.1 + 1)), ()), (), x.2.2.1, x.2.2.2.1, ()))) (none)) (none)))
    (k ((x.1.1, x.1.2.1, x.1.2.2.1, ()), (), x.2.2.2.1, ()))
def spec_IndexOf_P0 : Tpl := ⟨[(0, .one (.leaf (.row false (.pair (.int .i64) (.pair .str (.pair .str .unit)))))), (3, .one (.fix (.ref 10000 [] none))), (4, .one (.leaf (.int .i64)))], [], [(10000, (.pair .str (.pair .str .unit)))]⟩
def spec_IndexOf_O0 : Tpl := ⟨[(3, .one (.fix (.ref 10500 [] none)))], [], [(10500, (.pair .str (.pair .str .unit)))]⟩
def spec_IndexOf_k0 (N : Nat) : Nat → ((Unit × (Unit × ((List (ByteArray × (ByteArray × Unit))) × Unit))) → Option (Unit × ((List (ByteArray × ByteArray × Unit)) × Unit))) → (((List (Int × (ByteArray × (ByteArray × Unit)))) × Int × Unit) × (Unit × ((List (ByteArray × (ByteArray × Unit))) × Unit))) → Option (Unit × ((List (ByteArray × ByteArray × Unit)) × Unit))
  | 0, _, _ => none
  | n + 1, k, x =>
    tb (ilt x.1.2.1 (((llen x.1.1) : Nat) : Int))
    (chk (0 ≤ x.1.2.1) (obind (at? x.1.1 (Int.toNat x.1.2.1)) fun v0 =>
        spec_IndexOf_k2 N N (fun v1 =>
          tb (bnot v1.1.2.2.1)
          (chk (0 ≤ v1.1.2.1) (obind (at? v1.1.1 (Int.toNat v1.1.2.1)) fun v2 =>
              chk (0 ≤ v1.1.2.1) (obind (at? v1.1.1 (Int.toNat v1.1.2.1)) fun v3 =>
                chk ((plus (llen v1.2.2.1) (llen [(v2.2.1, v3.2.2.1, ())])) ≤ 4398046511104) (spec_IndexOf_k0 N n k ((v1.1.1, (wr .i64 (v1.1.2.1 + 1)), ()), (), (lapp v1.2.2.1 [(v2.2.1, v3.2.2.1, ())]), ())) (none)) (none)) (none))
          (spec_IndexOf_k0 N n k ((v1.1.1, (wr .i64 (v1.1.2.1 + 1)), ()), (), v1.2.2.1, ()))) ((x.1.1, x.1.2.1, (bnot (ieq v0.1 1)), 0, ()), (), x.2.2.1, [], ())) (none))
    (k ((), (), x.2.2.1, ()))
def spec_IndexOf_k (N : Nat) (x0 : (List (Int × ByteArray × ByteArray × Unit))) : Option (Unit × ((List (ByteArray × ByteArray × Unit)) × Unit)) :=
  spec_IndexOf_k0 N N (fun v0 =>
    some ((), v0.2.2.1, ())) ((x0, 0, ()), (), [], ())
def spec_IndexOf (x : ((List (Int × ByteArray × ByteArray × Unit)) × Unit)) : Option (Unit × ((List (ByteArray × ByteArray × Unit)) × Unit)) := spec_IndexOf_k fuel x.1
def spec_IndexOf_s : List (Nat × Con) := []
def spec_IndexOf_E : Env := ⟨fun j => (look tyTab j).getD .unit, fun j => look spec_IndexOf_s j⟩
theorem spec_IndexOf_r2 (N n : Nat) (k : spec_IndexOf_O2.ty.den → Option (Unit × ((List (ByteArray × ByteArray × Unit)) × Unit))) (x : spec_IndexOf_P2.ty.den) : roundK spec_IndexOf_E ⟨Try.f30.ntmps, N, (fun i => look [(0, ⟨spec_IndexOf_P0, spec_IndexOf_O0, [.tmp 3 10000 (.pair .str (.pair .str .unit))], [.tmp 3 10500 (.pair .str (.pair .str .unit))], spec_IndexOf_k0 N⟩), (2, ⟨spec_IndexOf_P2, spec_IndexOf_O2, [.tmp 3 12000 (.pair .str (.pair .str .unit)), .tmp 5 12001 (.pair .str (.pair .str .unit))], [.tmp 5 12500 (.pair .str (.pair .str .unit))], spec_IndexOf_k2 N⟩)] i), retK spec_IndexOf_E Try.f30 [.val (.row false S25)] [(.row true T64)] (.pair (.row true T64) .unit)⟩ (Try.f30.body.getD .skip) 2 ⟨spec_IndexOf_P2, spec_IndexOf_O2, [.tmp 3 12000 (.pair .str (.pair .str .unit)), .tmp 5 12001 (.pair .str (.pair .str .unit))], [.tmp 5 12500 (.pair .str (.pair .str .unit))], spec_IndexOf_k2 N⟩ (spec_IndexOf_k2 N n k) k x = spec_IndexOf_k2 N (n + 1) k x := by kernel_rfl
theorem spec_IndexOf_r0 (N n : Nat) (k : spec_IndexOf_O0.ty.den → Option (Unit × ((List (ByteArray × ByteArray × Unit)) × Unit))) (x : spec_IndexOf_P0.ty.den) : roundK spec_IndexOf_E ⟨Try.f30.ntmps, N, (fun i => look [(0, ⟨spec_IndexOf_P0, spec_IndexOf_O0, [.tmp 3 10000 (.pair .str (.pair .str .unit))], [.tmp 3 10500 (.pair .str (.pair .str .unit))], spec_IndexOf_k0 N⟩), (2, ⟨spec_IndexOf_P2, spec_IndexOf_O2, [.tmp 3 12000 (.pair .str (.pair .str .unit)), .tmp 5 12001 (.pair .str (.pair .str .unit))], [.tmp 5 12500 (.pair .str (.pair .str .unit))], spec_IndexOf_k2 N⟩)] i), retK spec_IndexOf_E Try.f30 [.val (.row false S25)] [(.row true T64)] (.pair (.row true T64) .unit)⟩ (Try.f30.body.getD .skip) 0 ⟨spec_IndexOf_P0, spec_IndexOf_O0, [.tmp 3 10000 (.pair .str (.pair .str .unit))], [.tmp 3 10500 (.pair .str (.pair .str .unit))], spec_IndexOf_k0 N⟩ (spec_IndexOf_k0 N n k) k x = spec_IndexOf_k0 N (n + 1) k x := by kernel_rfl
theorem spec_IndexOf_f_eq (N : Nat) (x0 : (List (Int × ByteArray × ByteArray × Unit))) : funK spec_IndexOf_E Try.f30 [.val (.row false S25)] [(.row true T64)] (.pair (.row true T64) .unit) (fun i => look [(0, ⟨spec_IndexOf_P0, spec_IndexOf_O0, [.tmp 3 10000 (.pair .str (.pair .str .unit))], [.tmp 3 10500 (.pair .str (.pair .str .unit))], spec_IndexOf_k0 N⟩), (2, ⟨spec_IndexOf_P2, spec_IndexOf_O2, [.tmp 3 12000 (.pair .str (.pair .str .unit)), .tmp 5 12001 (.pair .str (.pair .str .unit))], [.tmp 5 12500 (.pair .str (.pair .str .unit))], spec_IndexOf_k2 N⟩)] i) N (x0, ()) = spec_IndexOf_k N x0 := by kernel_rfl
theorem spec_IndexOf_o : Known Try.prog 30 ⟨[.val (.row false S25)], [(.row true T64)], (.pair (.row true T64) .unit), spec_IndexOf⟩ := known_of (tab := tyTab) (cons := spec_IndexOf_s) (segs := [(0, ⟨spec_IndexOf_P0, spec_IndexOf_O0, [.tmp 3 10000 (.pair .str (.pair .str .unit))], [.tmp 3 10500 (.pair .str (.pair .str .unit))], spec_IndexOf_k0 fuel⟩), (2, ⟨spec_IndexOf_P2, spec_IndexOf_O2, [.tmp 3 12000 (.pair .str (.pair .str .unit)), .tmp 5 12001 (.pair .str (.pair .str .unit))], [.tmp 5 12500 (.pair .str (.pair .str .unit))], spec_IndexOf_k2 fuel⟩)]) (n := fuel) mixed_ok tab_ok .nil Try.func30 (by kernel_rfl) ⟨⟨fun _ _ => rfl, fun n k x => spec_IndexOf_r0 fuel n k x⟩, ⟨⟨fun _ _ => rfl, fun n k x => spec_IndexOf_r2 fuel n k x⟩, trivial⟩⟩ (fun x => spec_IndexOf_f_eq fuel x.1)
def spec_HeadRead_k (N : Nat) (x0 : ByteArray) : Option (Unit × ((Int × Int × Int × Unit) × Bool × Unit)) :=
  obind (spec_GetNum ((bytesOf x0), 0, ())) fun v0 =>
  obind (spec_GetNum ((bytesOf x0), v0.2.2.1, ())) fun v1 =>
  obind (spec_GetNum ((bytesOf x0), v1.2.2.1, ())) fun v2 =>
  obind (spec_HeadPack ((v0.2.1, v1.2.1, v2.2.1, ()), ())) fun v3 =>
  tb (bnot v0.2.2.2.1)
  (some ((), (0, 0, 0, ()), false, ()))
  (tb (bnot v1.2.2.2.1)
    (some ((), (0, 0, 0, ()), false, ()))
    (tb (bnot v2.2.2.2.1)
      (some ((), (0, 0, 0, ()), false, ()))
      (tb (bnot v3.2.2.1)
        (some ((), (0, 0, 0, ()), false, ()))
        (tb (bnot (seq v3.2.1 x0))
          (some ((), (0, 0, 0, ()), false, ()))
          (some ((), (v0.2.1, v1.2.1, v2.2.1, ()), true, ()))))))
def spec_HeadRead (x : (ByteArray × Unit)) : Option (Unit × ((Int × Int × Int × Unit) × Bool × Unit)) := spec_HeadRead_k fuel x.1
def spec_HeadRead_s : List (Nat × Con) := [(60, ⟨[.val S69], [.str, .bool], (.pair .str (.pair .bool .unit)), spec_HeadPack⟩), (140, ⟨[.val (.row false (.int .u8)), .val (.int .i64)], [(.int .i64), (.int .i64), .bool], (.pair (.int .i64) (.pair (.int .i64) (.pair .bool .unit))), spec_GetNum⟩)]
def spec_HeadRead_E : Env := ⟨fun j => (look tyTab j).getD .unit, fun j => look spec_HeadRead_s j⟩
theorem spec_HeadRead_f_eq (N : Nat) (x0 : ByteArray) : funK spec_HeadRead_E Try.f111 [.val .str] [T69, .bool] (.pair T69 (.pair .bool .unit)) (fun i => look [] i) N (x0, ()) = spec_HeadRead_k N x0 := by kernel_rfl
theorem spec_HeadRead_o : Known Try.prog 111 ⟨[.val .str], [T69, .bool], (.pair T69 (.pair .bool .unit)), spec_HeadRead⟩ := known_of (tab := tyTab) (cons := spec_HeadRead_s) (segs := []) (n := fuel) mixed_ok tab_ok (.cons spec_HeadPack_o (.cons spec_GetNum_o .nil)) Try.func111 (by kernel_rfl) trivial (fun x => spec_HeadRead_f_eq fuel x.1)
def spec_HeadNow_k (N : Nat) (x0 : ((List ByteArray) × (List (Int × ByteArray × Unit)) × Unit)) : Option (Unit × ((Int × Int × Int × Unit) × Unit)) :=
  obind (spec_DiskOk ((x0.1, x0.2.1, ()), ())) fun v0 =>
  tb (bnot v0.2.1)
  (some ((), (0, 0, 0, ()), ()))
  (obind (spec_l15Of ((x0.1, x0.2.1, ()), 0, ())) fun v1 =>
    obind (spec_HeadRead (v1.2.1, ())) fun v2 =>
    obind (spec_l15Of ((x0.1, x0.2.1, ()), 1, ())) fun v3 =>
    obind (spec_HeadRead (v3.2.1, ())) fun v4 =>
    tb (ilt v2.2.1.1 v4.2.1.1)
    (some ((), (v4.2.1.1, v4.2.1.2.1, v4.2.1.2.2.1, ()), ()))
    (some ((), (v2.2.1.1, v2.2.1.2.1, v2.2.1.2.2.1, ()), ())))
def spec_HeadNow (x : (((List ByteArray) × (List (Int × ByteArray × Unit)) × Unit) × Unit)) : Option (Unit × ((Int × Int × Int × Unit) × Unit)) := spec_HeadNow_k fuel x.1
def spec_HeadNow_s : List (Nat × Con) := [(93, ⟨[.val S55], [.bool], (.pair .bool .unit), spec_DiskOk⟩), (97, ⟨[.val S55, .val (.int .i64)], [.str], (.pair .str .unit), spec_l15Of⟩), (111, ⟨[.val .str], [T69, .bool], (.pair T69 (.pair .bool .unit)), spec_HeadRead⟩)]
def spec_HeadNow_E : Env := ⟨fun j => (look tyTab j).getD .unit, fun j => look spec_HeadNow_s j⟩
theorem spec_HeadNow_f_eq (N : Nat) (x0 : ((List ByteArray) × (List (Int × ByteArray × Unit)) × Unit)) : funK spec_HeadNow_E Try.f47 [.val S55] [T69] (.pair T69 .unit) (fun i => look [] i) N (x0, ()) = spec_HeadNow_k N x0 := by kernel_rfl
theorem spec_HeadNow_o : Known Try.prog 47 ⟨[.val S55], [T69], (.pair T69 .unit), spec_HeadNow⟩ := known_of (tab := tyTab) (cons := spec_HeadNow_s) (segs := []) (n := fuel) mixed_ok tab_ok (.cons spec_DiskOk_o (.cons spec_l15Of_o (.cons spec_HeadRead_o .nil))) Try.func47 (by kernel_rfl) trivial (fun x => spec_HeadNow_f_eq fuel x.1)
def spec_l16Get_P0 : Tpl := ⟨[(1, .one (.leaf (.int .i64))), (2, .one (.leaf (.int .i64))), (3, .one (.leaf (.int .i64))), (4, .one (.fix (.vptr 4 0))), (9, .one (.fix (.ref 10000 [] none))), (10, .one (.leaf (.int .i64)))], [(4, [.leaf (.row false .str), .leaf (.row false (.pair (.int .i64) (.pair .str .unit)))])], [(10000, (.int .u8))]⟩
def spec_l16Get_O0 : Tpl := ⟨[(9, .one (.fix (.ref 10500 [] none)))], [], [(10500, (.int .u8))]⟩
def spec_l16Get_k0 (N : Nat) : Nat → ((Unit × (Unit × ((List Int) × Unit))) → Option (Unit × ((List Int) × Unit))) → ((Int × Int × Int × Int × Unit) × ((((List ByteArray) × (List (Int × (ByteArray × Unit))) × Unit) × Unit) × ((List Int) × Unit))) → Option (Unit × ((List Int) × Unit))
  | 0, _, _ => none
  | n + 1, k, x =>
    tb (ilt x.1.2.2.2.1 x.1.2.2.1)
    (chk ((64 : Int) = 0) (none) (obind (spec_l15Of ((x.2.1.1.1, x.2.1.1.2.1, ()), (wr .i64 ((wr .i64 (2 + (wr .i64 (64 * x.1.1)))) + (wr .i64 (Int.tdiv (wr .i64 (x.1.2.1 + x.1.2.2.2.1)) 64)))), ())) fun v0 =>
        chk ((64 : Int) = 0) (none) (chk ((0 ≤ (Int.tmod (wr .i64 (x.1.2.1 + x.1.2.2.2.1)) 64)) ∧ ((Int.tmod (wr .i64 (x.1.2.1 + x.1.2.2.2.1)) 64) < (((slen v0.2.1) : Nat) : Int))) (chk ((plus (llen x.2.2.1) (llen [(bt v0.2.1 (Int.tmod (wr .i64 (x.1.2.1 + x.1.2.2.2.1)) 64))])) ≤ 140737488355328) (spec_l16Get_k0 N n k ((x.1.1, x.1.2.1, x.1.2.2.1, (wr .i64 (x.1.2.2.2.1 + 1)), ()), ((x.2.1.1.1, x.2.1.1.2.1, ()), ()), (lapp x.2.2.1 [(bt v0.2.1 (Int.tmod (wr .i64 (x.1.2.1 + x.1.2.2.2.1)) 64))]), ())) (none)) (none))))
    (k ((), (), x.2.2.1, ()))
def spec_l16Get_k (N : Nat) (x0 : ((List ByteArray) × (List (Int × ByteArray × Unit)) × Unit)) (x1 : Int) (x2 : Int) (x3 : Int) : Option (Unit × ((List Int) × Unit)) :=
  spec_l16Get_k0 N N (fun v0 =>
    some ((), v0.2.2.1, ())) ((x1, x2, x3, 0, ()), ((x0.1, x0.2.1, ()), ()), [], ())
def spec_l16Get (x : (((List ByteArray) × (List (Int × ByteArray × Unit)) × Unit) × Int × Int × Int × Unit)) : Option (Unit × ((List Int) × Unit)) := spec_l16Get_k fuel x.1 x.2.1 x.2.2.1 x.2.2.2.1
def spec_l16Get_s : List (Nat × Con) := [(97, ⟨[.val S55, .val (.int .i64)], [.str], (.pair .str .unit), spec_l15Of⟩)]
def spec_l16Get_E : Env := ⟨fun j => (look tyTab j).getD .unit, fun j => look spec_l16Get_s j⟩
theorem spec_l16Get_r0 (N n : Nat) (k : spec_l16Get_O0.ty.den → Option (Unit × ((List Int) × Unit))) (x : spec_l16Get_P0.ty.den) : roundK spec_l16Get_E ⟨Try.f129.ntmps, N, (fun i => look [(0, ⟨spec_l16Get_P0, spec_l16Get_O0, [.tmp 9 10000 (.int .u8)], [.tmp 9 10500 (.int .u8)], spec_l16Get_k0 N⟩)] i), retK spec_l16Get_E Try.f129 [.val S55, .val (.int .i64), .val (.int .i64), .val (.int .i64)] [(.row true (.int .u8))] (.pair (.row true (.int .u8)) .unit)⟩ (Try.f129.body.getD .skip) 0 ⟨spec_l16Get_P0, spec_l16Get_O0, [.tmp 9 10000 (.int .u8)], [.tmp 9 10500 (.int .u8)], spec_l16Get_k0 N⟩ (spec_l16Get_k0 N n k) k x = spec_l16Get_k0 N (n + 1) k x := by kernel_rfl
theorem spec_l16Get_f_eq (N : Nat) (x0 : ((List ByteArray) × (List (Int × ByteArray × Unit)) × Unit)) (x1 : Int) (x2 : Int) (x3 : Int) : funK spec_l16Get_E Try.f129 [.val S55, .val (.int .i64), .val (.int .i64), .val (.int .i64)] [(.row true (.int .u8))] (.pair (.row true (.int .u8)) .unit) (fun i => look [(0, ⟨spec_l16Get_P0, spec_l16Get_O0, [.tmp 9 10000 (.int .u8)], [.tmp 9 10500 (.int .u8)], spec_l16Get_k0 N⟩)] i) N (x0, x1, x2, x3, ()) = spec_l16Get_k N x0 x1 x2 x3 := by kernel_rfl
theorem spec_l16Get_o : Known Try.prog 129 ⟨[.val S55, .val (.int .i64), .val (.int .i64), .val (.int .i64)], [(.row true (.int .u8))], (.pair (.row true (.int .u8)) .unit), spec_l16Get⟩ := known_of (tab := tyTab) (cons := spec_l16Get_s) (segs := [(0, ⟨spec_l16Get_P0, spec_l16Get_O0, [.tmp 9 10000 (.int .u8)], [.tmp 9 10500 (.int .u8)], spec_l16Get_k0 fuel⟩)]) (n := fuel) mixed_ok tab_ok (.cons spec_l15Of_o .nil) Try.func129 (by kernel_rfl) ⟨⟨fun _ _ => rfl, fun n k x => spec_l16Get_r0 fuel n k x⟩, trivial⟩ (fun x => spec_l16Get_f_eq fuel x.1 x.2.1 x.2.2.1 x.2.2.2.1)
def spec_l18Bytes_k (N : Nat) (x0 : ((List ByteArray) × (List (Int × ByteArray × Unit)) × Unit)) (x1 : (Int × Int × Int × Unit)) : Option (Unit × ((List Int) × Unit)) :=
  obind (spec_l16Get ((x0.1, x0.2.1, ()), x1.2.1, 0, x1.2.2.1, ())) fun v0 =>
  some ((), v0.2.1, ())
def spec_l18Bytes (x : (((List ByteArray) × (List (Int × ByteArray × Unit)) × Unit) × (Int × Int × Int × Unit) × Unit)) : Option (Unit × ((List Int) × Unit)) := spec_l18Bytes_k fuel x.1 x.2.1
def spec_l18Bytes_s : List (Nat × Con) := [(129, ⟨[.val S55, .val (.int .i64), .val (.int .i64), .val (.int .i64)], [(.row true (.int .u8))], (.pair (.row true (.int .u8)) .unit), spec_l16Get⟩)]
def spec_l18Bytes_E : Env := ⟨fun j => (look tyTab j).getD .unit, fun j => look spec_l18Bytes_s j⟩
theorem spec_l18Bytes_f_eq (N : Nat) (x0 : ((List ByteArray) × (List (Int × ByteArray × Unit)) × Unit)) (x1 : (Int × Int × Int × Unit)) : funK spec_l18Bytes_E Try.f131 [.val S55, .val S69] [(.row true (.int .u8))] (.pair (.row true (.int .u8)) .unit) (fun i => look [] i) N (x0, x1, ()) = spec_l18Bytes_k N x0 x1 := by kernel_rfl
theorem spec_l18Bytes_o : Known Try.prog 131 ⟨[.val S55, .val S69], [(.row true (.int .u8))], (.pair (.row true (.int .u8)) .unit), spec_l18Bytes⟩ := known_of (tab := tyTab) (cons := spec_l18Bytes_s) (segs := []) (n := fuel) mixed_ok tab_ok (.cons spec_l16Get_o .nil) Try.func131 (by kernel_rfl) trivial (fun x => spec_l18Bytes_f_eq fuel x.1 x.2.1)
def spec_l18SameList_P0 : Tpl := ⟨[(0, .one (.leaf (.row false (.pair .str (.pair .str .unit))))), (1, .one (.leaf (.row false (.pair .str (.pair .str .unit))))), (5, .one (.leaf (.int .i64)))], [], []⟩
def spec_l18SameList_O0 : Tpl := ⟨[], [], []⟩
def spec_l18SameList_k0 (N : Nat) : Nat → ((Unit × (Unit × Unit)) → Option (Unit × (Bool × Unit))) → (((List (ByteArray × (ByteArray × Unit))) × (List (ByteArray × (ByteArray × Unit))) × Int × Unit) × (Unit × Unit)) → Option (Unit × (Bool × Unit))
  | 0, _, _ => none
  | n + 1, k, x =>
    tb (ilt x.1.2.2.1 (((llen x.1.1) : Nat) : Int))
    (chk (0 ≤ x.1.2.2.1) (obind (at? x.1.1 (Int.toNat x.1.2.2.1)) fun v0 =>
        chk (0 ≤ x.1.2.2.1) (obind (at? x.1.2.1 (Int.toNat x.1.2.2.1)) fun v1 =>
          tb (bnot (band (seq v0.1 v1.1) (band (seq v0.2.1 v1.2.1) true)))
          (some ((), false, ()))
          (spec_l18SameList_k0 N n k ((x.1.1, x.1.2.1, (wr .i64 (x.1.2.2.1 + 1)), ()), (), ()))) (none)) (none))
    (k ((), (), ()))
def spec_l18SameList_k (N : Nat) (x0 : (List (ByteArray × ByteArray × Unit))) (x1 : (List (ByteArray × ByteArray × Unit))) : Option (Unit × (Bool × Unit)) :=
  tb (bnot (ieq (((llen x0) : Nat) : Int) (((llen x1) : Nat) : Int)))
  (some ((), false, ()))
  (spec_l18SameList_k0 N N (fun v0 =>
      some ((), true, ())) ((x0, x1, 0, ()), (), ()))
def spec_l18SameList (x : ((List (ByteArray × ByteArray × Unit)) × (List (ByteArray × ByteArray × Unit)) × Unit)) : Option (Unit × (Bool × Unit)) := spec_l18SameList_k fuel x.1 x.2.1
def spec_l18SameList_s : List (Nat × Con) := []
def spec_l18SameList_E : Env := ⟨fun j => (look tyTab j).getD .unit, fun j => look spec_l18SameList_s j⟩
theorem spec_l18SameList_r0 (N n : Nat) (k : spec_l18SameList_O0.ty.den → Option (Unit × (Bool × Unit))) (x : spec_l18SameList_P0.ty.den) : roundK spec_l18SameList_E ⟨Try.f132.ntmps, N, (fun i => look [(0, ⟨spec_l18SameList_P0, spec_l18SameList_O0, [], [], spec_l18SameList_k0 N⟩)] i), retK spec_l18SameList_E Try.f132 [.val (.row false S64), .val (.row false S64)] [.bool] (.pair .bool .unit)⟩ (Try.f132.body.getD .skip) 0 ⟨spec_l18SameList_P0, spec_l18SameList_O0, [], [], spec_l18SameList_k0 N⟩ (spec_l18SameList_k0 N n k) k x = spec_l18SameList_k0 N (n + 1) k x := by kernel_rfl
theorem spec_l18SameList_f_eq (N : Nat) (x0 : (List (ByteArray × ByteArray × Unit))) (x1 : (List (ByteArray × ByteArray × Unit))) : funK spec_l18SameList_E Try.f132 [.val (.row false S64), .val (.row false S64)] [.bool] (.pair .bool .unit) (fun i => look [(0, ⟨spec_l18SameList_P0, spec_l18SameList_O0, [], [], spec_l18SameList_k0 N⟩)] i) N (x0, x1, ()) = spec_l18SameList_k N x0 x1 := by kernel_rfl
theorem spec_l18SameList_o : Known Try.prog 132 ⟨[.val (.row false S64), .val (.row false S64)], [.bool], (.pair .bool .unit), spec_l18SameList⟩ := known_of (tab := tyTab) (cons := spec_l18SameList_s) (segs := [(0, ⟨spec_l18SameList_P0, spec_l18SameList_O0, [], [], spec_l18SameList_k0 fuel⟩)]) (n := fuel) mixed_ok tab_ok .nil Try.func132 (by kernel_rfl) ⟨⟨fun _ _ => rfl, fun n k x => spec_l18SameList_r0 fuel n k x⟩, trivial⟩ (fun x => spec_l18SameList_f_eq fuel x.1 x.2.1)
def spec_ArchiveOk_k (N : Nat) (x0 : (Bool × ((List ByteArray) × (List (Int × ByteArray × Unit)) × Unit) × (Int × Int × Int × Unit) × (List (ByteArray × ByteArray × Unit)) × Unit)) : Option (Unit × (Bool × Unit)) :=
  obind (spec_DiskOk ((x0.2.1.1, x0.2.1.2.1, ()), ())) fun v0 =>
  tb (bnot v0.2.1)
  (some ((), false, ()))
  (tb (ilt 0 (((llen x0.2.1.2.1) : Nat) : Int))
    (some ((), false, ()))
    (tb (bnot x0.1)
      (tb (band (ieq x0.2.2.1.1 0) (band (ieq x0.2.2.1.2.1 0) (band (ieq x0.2.2.1.2.2.1 0) true)))
        (some ((), (ieq (((llen x0.2.2.2.1) : Nat) : Int) 0), ()))
        (some ((), false, ())))
      (obind (spec_l16Right ((x0.2.2.1.1, x0.2.2.1.2.1, x0.2.2.1.2.2.1, ()), ())) fun v1 =>
        tb (bnot v1.2.1)
        (some ((), false, ()))
        (obind (spec_HeadNow ((x0.2.1.1, x0.2.1.2.1, ()), ())) fun v2 =>
          tb (bnot (band (ieq v2.2.1.1 x0.2.2.1.1) (band (ieq v2.2.1.2.1 x0.2.2.1.2.1) (band (ieq v2.2.1.2.2.1 x0.2.2.1.2.2.1) true))))
          (some ((), false, ()))
          (obind (spec_l18Bytes ((x0.2.1.1, x0.2.1.2.1, ()), (x0.2.2.1.1, x0.2.2.1.2.1, x0.2.2.1.2.2.1, ()), ())) fun v3 =>
            obind (spec_Records (v3.2.1, ())) fun v4 =>
            tb v4.2.2.1
            (obind (spec_IndexOf (v4.2.1, ())) fun v5 =>
              obind (spec_l18SameList (v5.2.1, x0.2.2.2.1, ())) fun v6 =>
              some ((), v6.2.1, ()))
            (some ((), false, ())))))))
def spec_ArchiveOk (x : ((Bool × ((List ByteArray) × (List (Int × ByteArray × Unit)) × Unit) × (Int × Int × Int × Unit) × (List (ByteArray × ByteArray × Unit)) × Unit) × Unit)) : Option (Unit × (Bool × Unit)) := spec_ArchiveOk_k fuel x.1
def spec_ArchiveOk_s : List (Nat × Con) := [(21, ⟨[.val (.row false (.int .u8))], [(.row true T25), .bool], (.pair (.row true T25) (.pair .bool .unit)), spec_Records⟩), (30, ⟨[.val (.row false S25)], [(.row true T64)], (.pair (.row true T64) .unit), spec_IndexOf⟩), (47, ⟨[.val S55], [T69], (.pair T69 .unit), spec_HeadNow⟩), (93, ⟨[.val S55], [.bool], (.pair .bool .unit), spec_DiskOk⟩), (121, ⟨[.val S69], [.bool], (.pair .bool .unit), spec_l16Right⟩), (131, ⟨[.val S55, .val S69], [(.row true (.int .u8))], (.pair (.row true (.int .u8)) .unit), spec_l18Bytes⟩), (132, ⟨[.val (.row false S64), .val (.row false S64)], [.bool], (.pair .bool .unit), spec_l18SameList⟩)]
def spec_ArchiveOk_E : Env := ⟨fun j => (look tyTab j).getD .unit, fun j => look spec_ArchiveOk_s j⟩
theorem spec_ArchiveOk_f_eq (N : Nat) (x0 : (Bool × ((List ByteArray) × (List (Int × ByteArray × Unit)) × Unit) × (Int × Int × Int × Unit) × (List (ByteArray × ByteArray × Unit)) × Unit)) : funK spec_ArchiveOk_E Try.f68 [.val S78] [.bool] (.pair .bool .unit) (fun i => look [] i) N (x0, ()) = spec_ArchiveOk_k N x0 := by kernel_rfl
theorem spec_ArchiveOk_o : Known Try.prog 68 ⟨[.val S78], [.bool], (.pair .bool .unit), spec_ArchiveOk⟩ := known_of (tab := tyTab) (cons := spec_ArchiveOk_s) (segs := []) (n := fuel) mixed_ok tab_ok (.cons spec_Records_o (.cons spec_IndexOf_o (.cons spec_HeadNow_o (.cons spec_DiskOk_o (.cons spec_l16Right_o (.cons spec_l18Bytes_o (.cons spec_l18SameList_o .nil))))))) Try.func68 (by kernel_rfl) trivial (fun x => spec_ArchiveOk_f_eq fuel x.1)
def laws_toEntry_k (N : Nat) (x0 : (ByteArray × ByteArray × Unit)) : Option (Unit × ((ByteArray × ByteArray × Unit) × Unit)) :=
  some ((), (x0.1, x0.2.1, ()), ())
def laws_toEntry (x : ((ByteArray × ByteArray × Unit) × Unit)) : Option (Unit × ((ByteArray × ByteArray × Unit) × Unit)) := laws_toEntry_k fuel x.1
def laws_toEntry_s : List (Nat × Con) := []
def laws_toEntry_E : Env := ⟨fun j => (look tyTab j).getD .unit, fun j => look laws_toEntry_s j⟩
theorem laws_toEntry_f_eq (N : Nat) (x0 : (ByteArray × ByteArray × Unit)) : funK laws_toEntry_E Try.f167 [.val S190] [T64] (.pair T64 .unit) (fun i => look [] i) N (x0, ()) = laws_toEntry_k N x0 := by kernel_rfl
theorem laws_toEntry_o : Known Try.prog 167 ⟨[.val S190], [T64], (.pair T64 .unit), laws_toEntry⟩ := known_of (tab := tyTab) (cons := laws_toEntry_s) (segs := []) (n := fuel) mixed_ok tab_ok .nil Try.func167 (by kernel_rfl) trivial (fun x => laws_toEntry_f_eq fuel x.1)
def laws_toEntryS_P0 : Tpl := ⟨[(0, .one (.leaf (.row false (.pair .str (.pair .str .unit))))), (3, .one (.fix (.ref 10000 [] none))), (4, .one (.leaf (.int .i64)))], [], [(10000, (.pair .str (.pair .str .unit)))]⟩
def laws_toEntryS_O0 : Tpl := ⟨[(3, .one (.fix (.ref 10500 [] none)))], [], [(10500, (.pair .str (.pair .str .unit)))]⟩
def laws_toEntryS_k0 (N : Nat) : Nat → ((Unit × (Unit × ((List (ByteArray × (ByteArray × Unit))) × Unit))) → Option (Unit × ((List (ByteArray × ByteArray × Unit)) × Unit))) → (((List (ByteArray × (ByteArray × Unit))) × Int × Unit) × (Unit × ((List (ByteArray × (ByteArray × Unit))) × Unit))) → Option (Unit × ((List (ByteArray × ByteArray × Unit)) × Unit))
  | 0, _, _ => none
  | n + 1, k, x =>
    tb (ilt x.1.2.1 (((llen x.1.1) : Nat) : Int))
    (chk (0 ≤ x.1.2.1) (obind (at? x.1.1 (Int.toNat x.1.2.1)) fun v0 =>
        obind (laws_toEntry ((v0.1, v0.2.1, ()), ())) fun v1 =>
        chk ((0 ≤ x.1.2.1) ∧ (x.1.2.1 < (((llen x.2.2.1) : Nat) : Int))) (obind (at? x.2.2.1 (Int.toNat x.1.2.1)) fun v2 =>
          laws_toEntryS_k0 N n k ((x.1.1, (wr .i64 (x.1.2.1 + 1)), ()), (), (lset x.2.2.1 (Int.toNat x.1.2.1) (v1.2.1.1, v1.2.1.2.1, ())), ())) (none)) (none))
    (k ((), (), x.2.2.1, ()))
def laws_toEntryS_k (N : Nat) (x0 : (List (ByteArray × ByteArray × Unit))) : Option (Unit × ((List (ByteArray × ByteArray × Unit)) × Unit)) :=
  chk ((0 ≤ (((llen x0) : Nat) : Int)) ∧ (((((llen x0) : Nat) : Int) ≤ (((llen x0) : Nat) : Int)) ∧ ((Int.toNat (((llen x0) : Nat) : Int)) ≤ 4398046511104))) (laws_toEntryS_k0 N N (fun v0 =>
      some ((), v0.2.2.1, ())) ((x0, 0, ()), (), (lrep (Int.toNat (((llen x0) : Nat) : Int)) ((⟨#[]⟩ : ByteArray), (⟨#[]⟩ : ByteArray), PUnit.unit)), ())) (none)
def laws_toEntryS (x : ((List (ByteArray × ByteArray × Unit)) × Unit)) : Option (Unit × ((List (ByteArray × ByteArray × Unit)) × Unit)) := laws_toEntryS_k fuel x.1
def laws_toEntryS_s : List (Nat × Con) := [(167, ⟨[.val S190], [T64], (.pair T64 .unit), laws_toEntry⟩)]
def laws_toEntryS_E : Env := ⟨fun j => (look tyTab j).getD .unit, fun j => look laws_toEntryS_s j⟩
theorem laws_toEntryS_r0 (N n : Nat) (k : laws_toEntryS_O0.ty.den → Option (Unit × ((List (ByteArray × ByteArray × Unit)) × Unit))) (x : laws_toEntryS_P0.ty.den) : roundK laws_toEntryS_E ⟨Try.f133.ntmps, N, (fun i => look [(0, ⟨laws_toEntryS_P0, laws_toEntryS_O0, [.tmp 3 10000 (.pair .str (.pair .str .unit))], [.tmp 3 10500 (.pair .str (.pair .str .unit))], laws_toEntryS_k0 N⟩)] i), retK laws_toEntryS_E Try.f133 [.val (.row false S190)] [(.row true T64)] (.pair (.row true T64) .unit)⟩ (Try.f133.body.getD .skip) 0 ⟨laws_toEntryS_P0, laws_toEntryS_O0, [.tmp 3 10000 (.pair .str (.pair .str .unit))], [.tmp 3 10500 (.pair .str (.pair .str .unit))], laws_toEntryS_k0 N⟩ (laws_toEntryS_k0 N n k) k x = laws_toEntryS_k0 N (n + 1) k x := by kernel_rfl
theorem laws_toEntryS_f_eq (N : Nat) (x0 : (List (ByteArray × ByteArray × Unit))) : funK laws_toEntryS_E Try.f133 [.val (.row false S190)] [(.row true T64)] (.pair (.row true T64) .unit) (fun i => look [(0, ⟨laws_toEntryS_P0, laws_toEntryS_O0, [.tmp 3 10000 (.pair .str (.pair .str .unit))], [.tmp 3 10500 (.pair .str (.pair .str .unit))], laws_toEntryS_k0 N⟩)] i) N (x0, ()) = laws_toEntryS_k N x0 := by kernel_rfl
theorem laws_toEntryS_o : Known Try.prog 133 ⟨[.val (.row false S190)], [(.row true T64)], (.pair (.row true T64) .unit), laws_toEntryS⟩ := known_of (tab := tyTab) (cons := laws_toEntryS_s) (segs := [(0, ⟨laws_toEntryS_P0, laws_toEntryS_O0, [.tmp 3 10000 (.pair .str (.pair .str .unit))], [.tmp 3 10500 (.pair .str (.pair .str .unit))], laws_toEntryS_k0 fuel⟩)]) (n := fuel) mixed_ok tab_ok (.cons laws_toEntry_o .nil) Try.func133 (by kernel_rfl) ⟨⟨fun _ _ => rfl, fun n k x => laws_toEntryS_r0 fuel n k x⟩, trivial⟩ (fun x => laws_toEntryS_f_eq fuel x.1)
def laws_toArchive_k (N : Nat) (x0 : (Bool × ((List ByteArray) × (List (Int × ByteArray × Unit)) × Unit) × (Int × Int × Int × Unit) × (List (ByteArray × ByteArray × Unit)) × Unit)) : Option (Unit × ((Bool × ((List ByteArray) × (List (Int × ByteArray × Unit)) × Unit) × (Int × Int × Int × Unit) × (List (ByteArray × ByteArray × Unit)) × Unit) × Unit)) :=
  obind (laws_toDisk ((x0.2.1.1, x0.2.1.2.1, ()), ())) fun v0 =>
  obind (laws_toHead ((x0.2.2.1.1, x0.2.2.1.2.1, x0.2.2.1.2.2.1, ()), ())) fun v1 =>
  obind (laws_toEntryS (x0.2.2.2.1, ())) fun v2 =>
  some ((), (x0.1, (v0.2.1.1, v0.2.1.2.1, ()), (v1.2.1.1, v1.2.1.2.1, v1.2.1.2.2.1, ()), v2.2.1, ()), ())
def laws_toArchive (x : ((Bool × ((List ByteArray) × (List (Int × ByteArray × Unit)) × Unit) × (Int × Int × Int × Unit) × (List (ByteArray × ByteArray × Unit)) × Unit) × Unit)) : Option (Unit × ((Bool × ((List ByteArray) × (List (Int × ByteArray × Unit)) × Unit) × (Int × Int × Int × Unit) × (List (ByteArray × ByteArray × Unit)) × Unit) × Unit)) := laws_toArchive_k fuel x.1
def laws_toArchive_s : List (Nat × Con) := [(38, ⟨[.val S51], [T55], (.pair T55 .unit), laws_toDisk⟩), (51, ⟨[.val S73], [T69], (.pair T69 .unit), laws_toHead⟩), (133, ⟨[.val (.row false S190)], [(.row true T64)], (.pair (.row true T64) .unit), laws_toEntryS⟩)]
def laws_toArchive_E : Env := ⟨fun j => (look tyTab j).getD .unit, fun j => look laws_toArchive_s j⟩
theorem laws_toArchive_f_eq (N : Nat) (x0 : (Bool × ((List ByteArray) × (List (Int × ByteArray × Unit)) × Unit) × (Int × Int × Int × Unit) × (List (ByteArray × ByteArray × Unit)) × Unit)) : funK laws_toArchive_E Try.f69 [.val S94] [T78] (.pair T78 .unit) (fun i => look [] i) N (x0, ()) = laws_toArchive_k N x0 := by kernel_rfl
theorem laws_toArchive_o : Known Try.prog 69 ⟨[.val S94], [T78], (.pair T78 .unit), laws_toArchive⟩ := known_of (tab := tyTab) (cons := laws_toArchive_s) (segs := []) (n := fuel) mixed_ok tab_ok (.cons laws_toDisk_o (.cons laws_toHead_o (.cons laws_toEntryS_o .nil))) Try.func69 (by kernel_rfl) trivial (fun x => laws_toArchive_f_eq fuel x.1)
def impl_GetNum_P0 : Tpl := ⟨[(0, .one (.leaf (.row false (.int .u8)))), (1, .one (.leaf (.int .i64))), (7, .one (.leaf (.int .i64))), (8, .one (.leaf (.int .i64)))], [], []⟩
def impl_GetNum_O0 : Tpl := ⟨[], [], []⟩
def impl_GetNum_k0 (N : Nat) : Nat → ((Unit × (Unit × Unit)) → Option (Unit × (Int × Int × Bool × Unit))) → (((List Int) × Int × Int × Int × Unit) × (Unit × Unit)) → Option (Unit × (Int × Int × Bool × Unit))
  | 0, _, _ => none
  | n + 1, k, x =>
    tb (ilt x.1.2.2.2.1 9)
    (tb (ilt x.1.2.1 (((llen x.1.1) : Nat) : Int))
      (chk (0 ≤ x.1.2.1) (obind (at? x.1.1 (Int.toNat x.1.2.1)) fun v0 =>
          chk ((wr .u64 (wr .i64 (7 * x.1.2.2.2.1))) < 0) (none) (tb (ilt (wr .i64 v0) 128)
            (tb (ieq (wr .i64 v0) 0)
              (tb (ilt 0 x.1.2.2.2.1)
                (some ((), 0, 0, false, ()))
                (some ((), (borK .i64 x.1.2.2.1 (shlK .i64 (bandK .i64 (wr .i64 v0) 127) (wr .u64 (wr .i64 (7 * x.1.2.2.2.1))))), (wr .i64 (x.1.2.1 + 1)), true, ())))
              (some ((), (borK .i64 x.1.2.2.1 (shlK .i64 (bandK .i64 (wr .i64 v0) 127) (wr .u64 (wr .i64 (7 * x.1.2.2.2.1))))), (wr .i64 (x.1.2.1 + 1)), true, ())))
            (impl_GetNum_k0 N n k ((x.1.1, (wr .i64 (x.1.2.1 + 1)), (borK .i64 x.1.2.2.1 (shlK .i64 (bandK .i64 (wr .i64 v0) 127) (wr .u64 (wr .i64 (7 * x.1.2.2.2.1))))), (wr .i64 (x.1.2.2.2.1 + 1)), ()), (), ())))) (none))
      (k ((), (), ())))
    (k ((), (), ()))
def impl_GetNum_k (N : Nat) (x0 : (List Int)) (x1 : Int) : Option (Unit × (Int × Int × Bool × Unit)) :=
  obind (impl_inRange (x1, 0, (wr .i64 ((((llen x0) : Nat) : Int) - 1)), ())) fun v0 =>
  tb (bnot v0.2.1)
  (some ((), 0, 0, false, ()))
  (impl_GetNum_k0 N N (fun v1 =>
      some ((), 0, 0, false, ())) ((x0, x1, 0, 0, ()), (), ()))
def impl_GetNum (x : ((List Int) × Int × Unit)) : Option (Unit × (Int × Int × Bool × Unit)) := impl_GetNum_k fuel x.1 x.2.1
def impl_GetNum_s : List (Nat × Con) := [(73, ⟨[.val (.int .i64), .val (.int .i64), .val (.int .i64)], [.bool], (.pair .bool .unit), impl_inRange⟩)]
def impl_GetNum_E : Env := ⟨fun j => (look tyTab j).getD .unit, fun j => look impl_GetNum_s j⟩
theorem impl_GetNum_r0 (N n : Nat) (k : impl_GetNum_O0.ty.den → Option (Unit × (Int × Int × Bool × Unit))) (x : impl_GetNum_P0.ty.den) : roundK impl_GetNum_E ⟨Try.f137.ntmps, N, (fun i => look [(0, ⟨impl_GetNum_P0, impl_GetNum_O0, [], [], impl_GetNum_k0 N⟩)] i), retK impl_GetNum_E Try.f137 [.val (.row false (.int .u8)), .val (.int .i64)] [(.int .i64), (.int .i64), .bool] (.pair (.int .i64) (.pair (.int .i64) (.pair .bool .unit)))⟩ (Try.f137.body.getD .skip) 0 ⟨impl_GetNum_P0, impl_GetNum_O0, [], [], impl_GetNum_k0 N⟩ (impl_GetNum_k0 N n k) k x = impl_GetNum_k0 N (n + 1) k x := by kernel_rfl
theorem impl_GetNum_f_eq (N : Nat) (x0 : (List Int)) (x1 : Int) : funK impl_GetNum_E Try.f137 [.val (.row false (.int .u8)), .val (.int .i64)] [(.int .i64), (.int .i64), .bool] (.pair (.int .i64) (.pair (.int .i64) (.pair .bool .unit))) (fun i => look [(0, ⟨impl_GetNum_P0, impl_GetNum_O0, [], [], impl_GetNum_k0 N⟩)] i) N (x0, x1, ()) = impl_GetNum_k N x0 x1 := by kernel_rfl
theorem impl_GetNum_o : Known Try.prog 137 ⟨[.val (.row false (.int .u8)), .val (.int .i64)], [(.int .i64), (.int .i64), .bool], (.pair (.int .i64) (.pair (.int .i64) (.pair .bool .unit))), impl_GetNum⟩ := known_of (tab := tyTab) (cons := impl_GetNum_s) (segs := [(0, ⟨impl_GetNum_P0, impl_GetNum_O0, [], [], impl_GetNum_k0 fuel⟩)]) (n := fuel) mixed_ok tab_ok (.cons impl_inRange_o .nil) Try.func137 (by kernel_rfl) ⟨⟨fun _ _ => rfl, fun n k x => impl_GetNum_r0 fuel n k x⟩, trivial⟩ (fun x => impl_GetNum_f_eq fuel x.1 x.2.1)
def impl_getter_num_k (N : Nat) (x0 : ((List Int) × Int × Bool × Unit)) : Option ((((List Int) × Int × Bool × Unit) × Unit) × (Int × Unit)) :=
  obind (impl_GetNum (x0.1, x0.2.1, ())) fun v0 =>
  tb x0.2.2.1
  (some (((x0.1, x0.2.1, true, ()), ()), 0, ()))
  (tb (bnot v0.2.2.2.1)
    (some (((x0.1, x0.2.1, true, ()), ()), 0, ()))
    (some (((x0.1, v0.2.2.1, x0.2.2.1, ()), ()), v0.2.1, ())))
def impl_getter_num (x : (((List Int) × Int × Bool × Unit) × Unit)) : Option ((((List Int) × Int × Bool × Unit) × Unit) × (Int × Unit)) := impl_getter_num_k fuel x.1
def impl_getter_num_s : List (Nat × Con) := [(137, ⟨[.val (.row false (.int .u8)), .val (.int .i64)], [(.int .i64), (.int .i64), .bool], (.pair (.int .i64) (.pair (.int .i64) (.pair .bool .unit))), impl_GetNum⟩)]
def impl_getter_num_E : Env := ⟨fun j => (look tyTab j).getD .unit, fun j => look impl_getter_num_s j⟩
theorem impl_getter_num_f_eq (N : Nat) (x0 : ((List Int) × Int × Bool × Unit)) : funK impl_getter_num_E Try.f79 [.io S108] [(.int .i64)] (.pair (.int .i64) .unit) (fun i => look [] i) N (x0, ()) = impl_getter_num_k N x0 := by kernel_rfl
theorem impl_getter_num_o : Known Try.prog 79 ⟨[.io S108], [(.int .i64)], (.pair (.int .i64) .unit), impl_getter_num⟩ := known_of (tab := tyTab) (cons := impl_getter_num_s) (segs := []) (n := fuel) mixed_ok tab_ok (.cons impl_GetNum_o .nil) Try.func79 (by kernel_rfl) trivial (fun x => impl_getter_num_f_eq fuel x.1)
def impl_HeadRead_k (N : Nat) (x0 : ByteArray) : Option (Unit × ((Int × Int × Int × Unit) × Bool × Unit)) :=
  obind (impl_getter_num (((bytesOf x0), 0, false, ()), ())) fun v0 =>
  obind (impl_getter_num ((v0.1.1.1, v0.1.1.2.1, v0.1.1.2.2.1, ()), ())) fun v1 =>
  obind (impl_getter_num ((v1.1.1.1, v1.1.1.2.1, v1.1.1.2.2.1, ()), ())) fun v2 =>
  obind (impl_HeadPack ((v0.2.1, v1.2.1, v2.2.1, ()), ())) fun v3 =>
  tb v2.1.1.2.2.1
  (some ((), (0, 0, 0, ()), false, ()))
  (tb (bnot v3.2.2.1)
    (some ((), (0, 0, 0, ()), false, ()))
    (tb (bnot (seq v3.2.1 x0))
      (some ((), (0, 0, 0, ()), false, ()))
      (some ((), (v0.2.1, v1.2.1, v2.2.1, ()), true, ()))))
def impl_HeadRead (x : (ByteArray × Unit)) : Option (Unit × ((Int × Int × Int × Unit) × Bool × Unit)) := impl_HeadRead_k fuel x.1
def impl_HeadRead_s : List (Nat × Con) := [(59, ⟨[.val S69], [.str, .bool], (.pair .str (.pair .bool .unit)), impl_HeadPack⟩), (79, ⟨[.io S108], [(.int .i64)], (.pair (.int .i64) .unit), impl_getter_num⟩)]
def impl_HeadRead_E : Env := ⟨fun j => (look tyTab j).getD .unit, fun j => look impl_HeadRead_s j⟩
theorem impl_HeadRead_f_eq (N : Nat) (x0 : ByteArray) : funK impl_HeadRead_E Try.f61 [.val .str] [T69, .bool] (.pair T69 (.pair .bool .unit)) (fun i => look [] i) N (x0, ()) = impl_HeadRead_k N x0 := by kernel_rfl
theorem impl_HeadRead_o : Known Try.prog 61 ⟨[.val .str], [T69, .bool], (.pair T69 (.pair .bool .unit)), impl_HeadRead⟩ := known_of (tab := tyTab) (cons := impl_HeadRead_s) (segs := []) (n := fuel) mixed_ok tab_ok (.cons impl_HeadPack_o (.cons impl_getter_num_o .nil)) Try.func61 (by kernel_rfl) trivial (fun x => impl_HeadRead_f_eq fuel x.1)
def impl_HeadNow_P0 : Tpl := ⟨[(1, .one (.fix (.vptr 1 0))), (2, .one (.fix (.vptr 2 0))), (3, .one (.fix (.vptr 3 0))), (11, .one (.leaf (.int .i64)))], [(1, [.leaf (.row false .str), .leaf (.row false (.pair (.int .i64) (.pair .str .unit)))]), (2, [.leaf (.int .i64), .leaf (.int .i64), .leaf (.int .i64)]), (3, [.leaf (.int .i64), .leaf (.int .i64), .leaf (.int .i64)])], []⟩
def impl_HeadNow_O0 : Tpl := ⟨[(2, .one (.fix (.vptr 2 0))), (3, .one (.fix (.vptr 3 0)))], [(2, [.leaf (.int .i64), .leaf (.int .i64), .leaf (.int .i64)]), (3, [.leaf (.int .i64), .leaf (.int .i64), .leaf (.int .i64)])], []⟩
def impl_HeadNow_k0 (N : Nat) : Nat → ((Unit × (((Int × Int × Int × Unit) × (Int × Int × Int × Unit) × Unit) × Unit)) → Option (Unit × ((Int × Int × Int × Unit) × Unit))) → ((Int × Unit) × ((((List ByteArray) × (List (Int × (ByteArray × Unit))) × Unit) × (Int × Int × Int × Unit) × (Int × Int × Int × Unit) × Unit) × Unit)) → Option (Unit × ((Int × Int × Int × Unit) × Unit))
  | 0, _, _ => none
  | n + 1, k, x =>
    tb (ilt x.1.1 2)
    (obind (impl_Disk_sector ((x.2.1.1.1, x.2.1.1.2.1, ()), x.1.1, ())) fun v0 =>
      obind (impl_HeadRead (v0.2.1, ())) fun v1 =>
      tb v1.2.2.1
      (tb (ilt x.2.1.2.2.1.1 v1.2.1.1)
        (impl_HeadNow_k0 N n k (((wr .i64 (x.1.1 + 1)), ()), ((x.2.1.1.1, x.2.1.1.2.1, ()), (x.2.1.2.1.1, x.2.1.2.1.2.1, x.2.1.2.1.2.2.1, ()), (v1.2.1.1, v1.2.1.2.1, v1.2.1.2.2.1, ()), ()), ()))
        (impl_HeadNow_k0 N n k (((wr .i64 (x.1.1 + 1)), ()), ((x.2.1.1.1, x.2.1.1.2.1, ()), (x.2.1.2.1.1, x.2.1.2.1.2.1, x.2.1.2.1.2.2.1, ()), (x.2.1.2.2.1.1, x.2.1.2.2.1.2.1, x.2.1.2.2.1.2.2.1, ()), ()), ())))
      (impl_HeadNow_k0 N n k (((wr .i64 (x.1.1 + 1)), ()), ((x.2.1.1.1, x.2.1.1.2.1, ()), (x.2.1.2.1.1, x.2.1.2.1.2.1, x.2.1.2.1.2.2.1, ()), (x.2.1.2.2.1.1, x.2.1.2.2.1.2.1, x.2.1.2.2.1.2.2.1, ()), ()), ())))
    (k ((), ((x.2.1.2.1.1, x.2.1.2.1.2.1, x.2.1.2.1.2.2.1, ()), (x.2.1.2.2.1.1, x.2.1.2.2.1.2.1, x.2.1.2.2.1.2.2.1, ()), ()), ()))
def impl_HeadNow_k (N : Nat) (x0 : ((List ByteArray) × (List (Int × ByteArray × Unit)) × Unit)) : Option (Unit × ((Int × Int × Int × Unit) × Unit)) :=
  obind (impl_DiskOk ((x0.1, x0.2.1, ()), ())) fun v0 =>
  tb (bnot v0.2.1)
  (some ((), (0, 0, 0, ()), ()))
  (impl_HeadNow_k0 N N (fun v1 =>
      some ((), (v1.2.1.2.1.1, v1.2.1.2.1.2.1, v1.2.1.2.1.2.2.1, ()), ())) ((0, ()), ((x0.1, x0.2.1, ()), (0, 0, 0, ()), (0, 0, 0, ()), ()), ()))
def impl_HeadNow (x : (((List ByteArray) × (List (Int × ByteArray × Unit)) × Unit) × Unit)) : Option (Unit × ((Int × Int × Int × Unit) × Unit)) := impl_HeadNow_k fuel x.1
def impl_HeadNow_s : List (Nat × Con) := [(61, ⟨[.val .str], [T69, .bool], (.pair T69 (.pair .bool .unit)), impl_HeadRead⟩), (101, ⟨[.val S55], [.bool], (.pair .bool .unit), impl_DiskOk⟩), (112, ⟨[.rptr T55, .val (.int .i64)], [.str], (.pair .str .unit), impl_Disk_sector⟩)]
def impl_HeadNow_E : Env := ⟨fun j => (look tyTab j).getD .unit, fun j => look impl_HeadNow_s j⟩
theorem impl_HeadNow_r0 (N n : Nat) (k : impl_HeadNow_O0.ty.den → Option (Unit × ((Int × Int × Int × Unit) × Unit))) (x : impl_HeadNow_P0.ty.den) : roundK impl_HeadNow_E ⟨Try.f48.ntmps, N, (fun i => look [(0, ⟨impl_HeadNow_P0, impl_HeadNow_O0, [], [], impl_HeadNow_k0 N⟩)] i), retK impl_HeadNow_E Try.f48 [.val S55] [T69] (.pair T69 .unit)⟩ (Try.f48.body.getD .skip) 0 ⟨impl_HeadNow_P0, impl_HeadNow_O0, [], [], impl_HeadNow_k0 N⟩ (impl_HeadNow_k0 N n k) k x = impl_HeadNow_k0 N (n + 1) k x := by kernel_rfl
theorem impl_HeadNow_f_eq (N : Nat) (x0 : ((List ByteArray) × (List (Int × ByteArray × Unit)) × Unit)) : funK impl_HeadNow_E Try.f48 [.val S55] [T69] (.pair T69 .unit) (fun i => look [(0, ⟨impl_HeadNow_P0, impl_HeadNow_O0, [], [], impl_HeadNow_k0 N⟩)] i) N (x0, ()) = impl_HeadNow_k N x0 := by kernel_rfl
theorem impl_HeadNow_o : Known Try.prog 48 ⟨[.val S55], [T69], (.pair T69 .unit), impl_HeadNow⟩ := known_of (tab := tyTab) (cons := impl_HeadNow_s) (segs := [(0, ⟨impl_HeadNow_P0, impl_HeadNow_O0, [], [], impl_HeadNow_k0 fuel⟩)]) (n := fuel) mixed_ok tab_ok (.cons impl_HeadRead_o (.cons impl_DiskOk_o (.cons impl_Disk_sector_o .nil))) Try.func48 (by kernel_rfl) ⟨⟨fun _ _ => rfl, fun n k x => impl_HeadNow_r0 fuel n k x⟩, trivial⟩ (fun x => impl_HeadNow_f_eq fuel x.1)
def impl_UrlOk_P0 : Tpl := ⟨[(0, .one (.leaf .str)), (3, .one (.leaf (.int .i64)))], [], []⟩
def impl_UrlOk_O0 : Tpl := ⟨[(0, .one (.leaf .str))], [], []⟩
def impl_UrlOk_k0 (N : Nat) : Nat → (((ByteArray × Unit) × (Unit × Unit)) → Option (Unit × (Bool × Unit))) → ((ByteArray × Int × Unit) × (Unit × Unit)) → Option (Unit × (Bool × Unit))
  | 0, _, _ => none
  | n + 1, k, x =>
    tb (ilt x.1.2.1 (((slen x.1.1) : Nat) : Int))
    (chk ((0 ≤ x.1.2.1) ∧ (x.1.2.1 < (((slen x.1.1) : Nat) : Int))) (tb (ilt (bt x.1.1 x.1.2.1) 33)
        (some ((), false, ()))
        (chk ((0 ≤ x.1.2.1) ∧ (x.1.2.1 < (((slen x.1.1) : Nat) : Int))) (tb (ilt 126 (bt x.1.1 x.1.2.1))
            (some ((), false, ()))
            (impl_UrlOk_k0 N n k ((x.1.1, (wr .i64 (x.1.2.1 + 1)), ()), (), ()))) (none))) (none))
    (k ((x.1.1, ()), (), ()))
def impl_UrlOk_k (N : Nat) (x0 : ByteArray) : Option (Unit × (Bool × Unit)) :=
  impl_UrlOk_k0 N N (fun v0 =>
    obind (impl_inRange ((((slen v0.1.1) : Nat) : Int), 1, 60, ())) fun v1 =>
    some ((), v1.2.1, ())) ((x0, 0, ()), (), ())
def impl_UrlOk (x : (ByteArray × Unit)) : Option (Unit × (Bool × Unit)) := impl_UrlOk_k fuel x.1
def impl_UrlOk_s : List (Nat × Con) := [(73, ⟨[.val (.int .i64), .val (.int .i64), .val (.int .i64)], [.bool], (.pair .bool .unit), impl_inRange⟩)]
def impl_UrlOk_E : Env := ⟨fun j => (look tyTab j).getD .unit, fun j => look impl_UrlOk_s j⟩
theorem impl_UrlOk_r0 (N n : Nat) (k : impl_UrlOk_O0.ty.den → Option (Unit × (Bool × Unit))) (x : impl_UrlOk_P0.ty.den) : roundK impl_UrlOk_E ⟨Try.f22.ntmps, N, (fun i => look [(0, ⟨impl_UrlOk_P0, impl_UrlOk_O0, [], [], impl_UrlOk_k0 N⟩)] i), retK impl_UrlOk_E Try.f22 [.val .str] [.bool] (.pair .bool .unit)⟩ (Try.f22.body.getD .skip) 0 ⟨impl_UrlOk_P0, impl_UrlOk_O0, [], [], impl_UrlOk_k0 N⟩ (impl_UrlOk_k0 N n k) k x = impl_UrlOk_k0 N (n + 1) k x := by kernel_rfl
theorem impl_UrlOk_f_eq (N : Nat) (x0 : ByteArray) : funK impl_UrlOk_E Try.f22 [.val .str] [.bool] (.pair .bool .unit) (fun i => look [(0, ⟨impl_UrlOk_P0, impl_UrlOk_O0, [], [], impl_UrlOk_k0 N⟩)] i) N (x0, ()) = impl_UrlOk_k N x0 := by kernel_rfl
theorem impl_UrlOk_o : Known Try.prog 22 ⟨[.val .str], [.bool], (.pair .bool .unit), impl_UrlOk⟩ := known_of (tab := tyTab) (cons := impl_UrlOk_s) (segs := [(0, ⟨impl_UrlOk_P0, impl_UrlOk_O0, [], [], impl_UrlOk_k0 fuel⟩)]) (n := fuel) mixed_ok tab_ok (.cons impl_inRange_o .nil) Try.func22 (by kernel_rfl) ⟨⟨fun _ _ => rfl, fun n k x => impl_UrlOk_r0 fuel n k x⟩, trivial⟩ (fun x => impl_UrlOk_f_eq fuel x.1)
def impl_putText_k (N : Nat) (x0 : (List Int)) (x1 : ByteArray) : Option (Unit × ((List Int) × Unit)) :=
  obind (impl_putNum (x0, (((slen x1) : Nat) : Int), ())) fun v0 =>
  chk ((plus (llen v0.2.1) (llen (bytesOf x1))) ≤ 140737488355328) (some ((), (lapp v0.2.1 (bytesOf x1)), ())) (none)
def impl_putText (x : ((List Int) × ByteArray × Unit)) : Option (Unit × ((List Int) × Unit)) := impl_putText_k fuel x.1 x.2.1
def impl_putText_s : List (Nat × Con) := [(75, ⟨[.own (.row true (.int .u8)), .val (.int .i64)], [(.row true (.int .u8))], (.pair (.row true (.int .u8)) .unit), impl_putNum⟩)]
def impl_putText_E : Env := ⟨fun j => (look tyTab j).getD .unit, fun j => look impl_putText_s j⟩
theorem impl_putText_f_eq (N : Nat) (x0 : (List Int)) (x1 : ByteArray) : funK impl_putText_E Try.f74 [.own (.row true (.int .u8)), .val .str] [(.row true (.int .u8))] (.pair (.row true (.int .u8)) .unit) (fun i => look [] i) N (x0, x1, ()) = impl_putText_k N x0 x1 := by kernel_rfl
theorem impl_putText_o : Known Try.prog 74 ⟨[.own (.row true (.int .u8)), .val .str], [(.row true (.int .u8))], (.pair (.row true (.int .u8)) .unit), impl_putText⟩ := known_of (tab := tyTab) (cons := impl_putText_s) (segs := []) (n := fuel) mixed_ok tab_ok (.cons impl_putNum_o .nil) Try.func74 (by kernel_rfl) trivial (fun x => impl_putText_f_eq fuel x.1 x.2.1)
def impl_RecordPack_k (N : Nat) (x0 : (Int × ByteArray × ByteArray × Unit)) : Option (Unit × ((List Int) × Bool × Unit)) :=
  obind (impl_inRange (x0.1, 1, 2, ())) fun v0 =>
  tb (bnot v0.2.1)
  (some ((), [], false, ()))
  (obind (impl_UrlOk (x0.2.1, ())) fun v1 =>
    tb (bnot v1.2.1)
    (some ((), [], false, ()))
    (tb (ieq x0.1 2)
      (tb (bnot (seq x0.2.2.1 (⟨#[]⟩ : ByteArray)))
        (some ((), [], false, ()))
        (obind (impl_putNum ([], x0.1, ())) fun v2 =>
          obind (impl_putText (v2.2.1, x0.2.1, ())) fun v3 =>
          tb (ieq x0.1 1)
          (obind (impl_putText (v3.2.1, x0.2.2.1, ())) fun v4 =>
            some ((), v4.2.1, true, ()))
          (some ((), v3.2.1, true, ()))))
      (obind (impl_putNum ([], x0.1, ())) fun v5 =>
        obind (impl_putText (v5.2.1, x0.2.1, ())) fun v6 =>
        tb (ieq x0.1 1)
        (obind (impl_putText (v6.2.1, x0.2.2.1, ())) fun v7 =>
          some ((), v7.2.1, true, ()))
        (some ((), v6.2.1, true, ())))))
def impl_RecordPack (x : ((Int × ByteArray × ByteArray × Unit) × Unit)) : Option (Unit × ((List Int) × Bool × Unit)) := impl_RecordPack_k fuel x.1
def impl_RecordPack_s : List (Nat × Con) := [(22, ⟨[.val .str], [.bool], (.pair .bool .unit), impl_UrlOk⟩), (73, ⟨[.val (.int .i64), .val (.int .i64), .val (.int .i64)], [.bool], (.pair .bool .unit), impl_inRange⟩), (74, ⟨[.own (.row true (.int .u8)), .val .str], [(.row true (.int .u8))], (.pair (.row true (.int .u8)) .unit), impl_putText⟩), (75, ⟨[.own (.row true (.int .u8)), .val (.int .i64)], [(.row true (.int .u8))], (.pair (.row true (.int .u8)) .unit), impl_putNum⟩)]
def impl_RecordPack_E : Env := ⟨fun j => (look tyTab j).getD .unit, fun j => look impl_RecordPack_s j⟩
theorem impl_RecordPack_f_eq (N : Nat) (x0 : (Int × ByteArray × ByteArray × Unit)) : funK impl_RecordPack_E Try.f16 [.val S25] [(.row true (.int .u8)), .bool] (.pair (.row true (.int .u8)) (.pair .bool .unit)) (fun i => look [] i) N (x0, ()) = impl_RecordPack_k N x0 := by kernel_rfl
theorem impl_RecordPack_o : Known Try.prog 16 ⟨[.val S25], [(.row true (.int .u8)), .bool], (.pair (.row true (.int .u8)) (.pair .bool .unit)), impl_RecordPack⟩ := known_of (tab := tyTab) (cons := impl_RecordPack_s) (segs := []) (n := fuel) mixed_ok tab_ok (.cons impl_UrlOk_o (.cons impl_inRange_o (.cons impl_putText_o (.cons impl_putNum_o .nil)))) Try.func16 (by kernel_rfl) trivial (fun x => impl_RecordPack_f_eq fuel x.1)
def impl_GetText_k (N : Nat) (x0 : (List Int)) (x1 : Int) : Option (Unit × (ByteArray × Int × Bool × Unit)) :=
  obind (impl_GetNum (x0, x1, ())) fun v0 =>
  tb (bnot v0.2.2.2.1)
  (some ((), (⟨#[]⟩ : ByteArray), 0, false, ()))
  (tb (ilt (wr .i64 ((((llen x0) : Nat) : Int) - v0.2.2.1)) v0.2.1)
    (some ((), (⟨#[]⟩ : ByteArray), 0, false, ()))
    (chk ((0 ≤ v0.2.2.1) ∧ ((v0.2.2.1 ≤ (wr .i64 (v0.2.2.1 + v0.2.1))) ∧ ((wr .i64 (v0.2.2.1 + v0.2.1)) ≤ (((llen x0) : Nat) : Int)))) (some ((), (strOf (lcut x0 (Int.toNat v0.2.2.1) (Int.toNat (wr .i64 (v0.2.2.1 + v0.2.1))))), (wr .i64 (v0.2.2.1 + v0.2.1)), true, ())) (none)))
def impl_GetText (x : ((List Int) × Int × Unit)) : Option (Unit × (ByteArray × Int × Bool × Unit)) := impl_GetText_k fuel x.1 x.2.1
def impl_GetText_s : List (Nat × Con) := [(137, ⟨[.val (.row false (.int .u8)), .val (.int .i64)], [(.int .i64), (.int .i64), .bool], (.pair (.int .i64) (.pair (.int .i64) (.pair .bool .unit))), impl_GetNum⟩)]
def impl_GetText_E : Env := ⟨fun j => (look tyTab j).getD .unit, fun j => look impl_GetText_s j⟩
theorem impl_GetText_f_eq (N : Nat) (x0 : (List Int)) (x1 : Int) : funK impl_GetText_E Try.f138 [.val (.row false (.int .u8)), .val (.int .i64)] [.str, (.int .i64), .bool] (.pair .str (.pair (.int .i64) (.pair .bool .unit))) (fun i => look [] i) N (x0, x1, ()) = impl_GetText_k N x0 x1 := by kernel_rfl
theorem impl_GetText_o : Known Try.prog 138 ⟨[.val (.row false (.int .u8)), .val (.int .i64)], [.str, (.int .i64), .bool], (.pair .str (.pair (.int .i64) (.pair .bool .unit))), impl_GetText⟩ := known_of (tab := tyTab) (cons := impl_GetText_s) (segs := []) (n := fuel) mixed_ok tab_ok (.cons impl_GetNum_o .nil) Try.func138 (by kernel_rfl) trivial (fun x => impl_GetText_f_eq fuel x.1 x.2.1)
def impl_getter_text_k (N : Nat) (x0 : ((List Int) × Int × Bool × Unit)) : Option ((((List Int) × Int × Bool × Unit) × Unit) × (ByteArray × Unit)) :=
  obind (impl_GetText (x0.1, x0.2.1, ())) fun v0 =>
  tb x0.2.2.1
  (some (((x0.1, x0.2.1, true, ()), ()), (⟨#[]⟩ : ByteArray), ()))
  (tb (bnot v0.2.2.2.1)
    (some (((x0.1, x0.2.1, true, ()), ()), (⟨#[]⟩ : ByteArray), ()))
    (some (((x0.1, v0.2.2.1, x0.2.2.1, ()), ()), v0.2.1, ())))
def impl_getter_text (x : (((List Int) × Int × Bool × Unit) × Unit)) : Option ((((List Int) × Int × Bool × Unit) × Unit) × (ByteArray × Unit)) := impl_getter_text_k fuel x.1
def impl_getter_text_s : List (Nat × Con) := [(138, ⟨[.val (.row false (.int .u8)), .val (.int .i64)], [.str, (.int .i64), .bool], (.pair .str (.pair (.int .i64) (.pair .bool .unit))), impl_GetText⟩)]
def impl_getter_text_E : Env := ⟨fun j => (look tyTab j).getD .unit, fun j => look impl_getter_text_s j⟩
theorem impl_getter_text_f_eq (N : Nat) (x0 : ((List Int) × Int × Bool × Unit)) : funK impl_getter_text_E Try.f80 [.io S108] [.str] (.pair .str .unit) (fun i => look [] i) N (x0, ()) = impl_getter_text_k N x0 := by kernel_rfl
theorem impl_getter_text_o : Known Try.prog 80 ⟨[.io S108], [.str], (.pair .str .unit), impl_getter_text⟩ := known_of (tab := tyTab) (cons := impl_getter_text_s) (segs := []) (n := fuel) mixed_ok tab_ok (.cons impl_GetText_o .nil) Try.func80 (by kernel_rfl) trivial (fun x => impl_getter_text_f_eq fuel x.1)
def impl_RecordRead_k (N : Nat) (x0 : (List Int)) (x1 : Int) : Option (Unit × ((Int × ByteArray × ByteArray × Unit) × Int × Bool × Unit)) :=
  obind (impl_getter_num ((x0, x1, false, ()), ())) fun v0 =>
  obind (impl_getter_text ((v0.1.1.1, v0.1.1.2.1, v0.1.1.2.2.1, ()), ())) fun v1 =>
  tb (ieq v0.2.1 1)
  (obind (impl_getter_text ((v1.1.1.1, v1.1.1.2.1, v1.1.1.2.2.1, ()), ())) fun v2 =>
    obind (impl_RecordPack ((v0.2.1, v1.2.1, v2.2.1, ()), ())) fun v3 =>
    tb v2.1.1.2.2.1
    (some ((), (0, (⟨#[]⟩ : ByteArray), (⟨#[]⟩ : ByteArray), ()), 0, false, ()))
    (tb (bnot v3.2.2.1)
      (some ((), (0, (⟨#[]⟩ : ByteArray), (⟨#[]⟩ : ByteArray), ()), 0, false, ()))
      (some ((), (v0.2.1, v1.2.1, v2.2.1, ()), v2.1.1.2.1, true, ()))))
  (obind (impl_RecordPack ((v0.2.1, v1.2.1, (⟨#[]⟩ : ByteArray), ()), ())) fun v4 =>
    tb v1.1.1.2.2.1
    (some ((), (0, (⟨#[]⟩ : ByteArray), (⟨#[]⟩ : ByteArray), ()), 0, false, ()))
    (tb (bnot v4.2.2.1)
      (some ((), (0, (⟨#[]⟩ : ByteArray), (⟨#[]⟩ : ByteArray), ()), 0, false, ()))
      (some ((), (v0.2.1, v1.2.1, (⟨#[]⟩ : ByteArray), ()), v1.1.1.2.1, true, ()))))
def impl_RecordRead (x : ((List Int) × Int × Unit)) : Option (Unit × ((Int × ByteArray × ByteArray × Unit) × Int × Bool × Unit)) := impl_RecordRead_k fuel x.1 x.2.1
def impl_RecordRead_s : List (Nat × Con) := [(16, ⟨[.val S25], [(.row true (.int .u8)), .bool], (.pair (.row true (.int .u8)) (.pair .bool .unit)), impl_RecordPack⟩), (79, ⟨[.io S108], [(.int .i64)], (.pair (.int .i64) .unit), impl_getter_num⟩), (80, ⟨[.io S108], [.str], (.pair .str .unit), impl_getter_text⟩)]
def impl_RecordRead_E : Env := ⟨fun j => (look tyTab j).getD .unit, fun j => look impl_RecordRead_s j⟩
theorem impl_RecordRead_f_eq (N : Nat) (x0 : (List Int)) (x1 : Int) : funK impl_RecordRead_E Try.f18 [.val (.row false (.int .u8)), .val (.int .i64)] [T25, (.int .i64), .bool] (.pair T25 (.pair (.int .i64) (.pair .bool .unit))) (fun i => look [] i) N (x0, x1, ()) = impl_RecordRead_k N x0 x1 := by kernel_rfl
theorem impl_RecordRead_o : Known Try.prog 18 ⟨[.val (.row false (.int .u8)), .val (.int .i64)], [T25, (.int .i64), .bool], (.pair T25 (.pair (.int .i64) (.pair .bool .unit))), impl_RecordRead⟩ := known_of (tab := tyTab) (cons := impl_RecordRead_s) (segs := []) (n := fuel) mixed_ok tab_ok (.cons impl_RecordPack_o (.cons impl_getter_num_o (.cons impl_getter_text_o .nil))) Try.func18 (by kernel_rfl) trivial (fun x => impl_RecordRead_f_eq fuel x.1 x.2.1)
def impl_Records_P0 : Tpl := ⟨[(0, .one (.leaf (.row false (.int .u8)))), (4, .one (.fix (.ref 10000 [] none))), (5, .one (.leaf (.int .i64)))], [], [(10000, (.pair (.int .i64) (.pair .str (.pair .str .unit))))]⟩
def impl_Records_O0 : Tpl := ⟨[(4, .one (.fix (.ref 10500 [] none)))], [], [(10500, (.pair (.int .i64) (.pair .str (.pair .str .unit))))]⟩
def impl_Records_k0 (N : Nat) : Nat → ((Unit × (Unit × ((List (Int × (ByteArray × (ByteArray × Unit)))) × Unit))) → Option (Unit × ((List (Int × ByteArray × ByteArray × Unit)) × Bool × Unit))) → (((List Int) × Int × Unit) × (Unit × ((List (Int × (ByteArray × (ByteArray × Unit)))) × Unit))) → Option (Unit × ((List (Int × ByteArray × ByteArray × Unit)) × Bool × Unit))
  | 0, _, _ => none
  | n + 1, k, x =>
    tb (ilt x.1.2.1 (((llen x.1.1) : Nat) : Int))
    (obind (impl_RecordRead (x.1.1, x.1.2.1, ())) fun v0 =>
      tb (bnot v0.2.2.2.1)
      (some ((), [], false, ()))
      (chk ((plus (llen x.2.2.1) (llen [(v0.2.1.1, v0.2.1.2.1, v0.2.1.2.2.1, ())])) ≤ 3518437208883) (impl_Records_k0 N n k ((x.1.1, v0.2.2.1, ()), (), (lapp x.2.2.1 [(v0.2.1.1, v0.2.1.2.1, v0.2.1.2.2.1, ())]), ())) (none)))
    (k ((), (), x.2.2.1, ()))
def impl_Records_k (N : Nat) (x0 : (List Int)) : Option (Unit × ((List (Int × ByteArray × ByteArray × Unit)) × Bool × Unit)) :=
  impl_Records_k0 N N (fun v0 =>
    some ((), v0.2.2.1, true, ())) ((x0, 0, ()), (), [], ())
def impl_Records (x : ((List Int) × Unit)) : Option (Unit × ((List (Int × ByteArray × ByteArray × Unit)) × Bool × Unit)) := impl_Records_k fuel x.1
def impl_Records_s : List (Nat × Con) := [(18, ⟨[.val (.row false (.int .u8)), .val (.int .i64)], [T25, (.int .i64), .bool], (.pair T25 (.pair (.int .i64) (.pair .bool .unit))), impl_RecordRead⟩)]
def impl_Records_E : Env := ⟨fun j => (look tyTab j).getD .unit, fun j => look impl_Records_s j⟩
theorem impl_Records_r0 (N n : Nat) (k : impl_Records_O0.ty.den → Option (Unit × ((List (Int × ByteArray × ByteArray × Unit)) × Bool × Unit))) (x : impl_Records_P0.ty.den) : roundK impl_Records_E ⟨Try.f20.ntmps, N, (fun i => look [(0, ⟨impl_Records_P0, impl_Records_O0, [.tmp 4 10000 (.pair (.int .i64) (.pair .str (.pair .str .unit)))], [.tmp 4 10500 (.pair (.int .i64) (.pair .str (.pair .str .unit)))], impl_Records_k0 N⟩)] i), retK impl_Records_E Try.f20 [.val (.row false (.int .u8))] [(.row true T25), .bool] (.pair (.row true T25) (.pair .bool .unit))⟩ (Try.f20.body.getD .skip) 0 ⟨impl_Records_P0, impl_Records_O0, [.tmp 4 10000 (.pair (.int .i64) (.pair .str (.pair .str .unit)))], [.tmp 4 10500 (.pair (.int .i64) (.pair .str (.pair .str .unit)))], impl_Records_k0 N⟩ (impl_Records_k0 N n k) k x = impl_Records_k0 N (n + 1) k x := by kernel_rfl
theorem impl_Records_f_eq (N : Nat) (x0 : (List Int)) : funK impl_Records_E Try.f20 [.val (.row false (.int .u8))] [(.row true T25), .bool] (.pair (.row true T25) (.pair .bool .unit)) (fun i => look [(0, ⟨impl_Records_P0, impl_Records_O0, [.tmp 4 10000 (.pair (.int .i64) (.pair .str (.pair .str .unit)))], [.tmp 4 10500 (.pair (.int .i64) (.pair .str (.pair .str .unit)))], impl_Records_k0 N⟩)] i) N (x0, ()) = impl_Records_k N x0 := by kernel_rfl
theorem impl_Records_o : Known Try.prog 20 ⟨[.val (.row false (.int .u8))], [(.row true T25), .bool], (.pair (.row true T25) (.pair .bool .unit)), impl_Records⟩ := known_of (tab := tyTab) (cons := impl_Records_s) (segs := [(0, ⟨impl_Records_P0, impl_Records_O0, [.tmp 4 10000 (.pair (.int .i64) (.pair .str (.pair .str .unit)))], [.tmp 4 10500 (.pair (.int .i64) (.pair .str (.pair .str .unit)))], impl_Records_k0 fuel⟩)]) (n := fuel) mixed_ok tab_ok (.cons impl_RecordRead_o .nil) Try.func20 (by kernel_rfl) ⟨⟨fun _ _ => rfl, fun n k x => impl_Records_r0 fuel n k x⟩, trivial⟩ (fun x => impl_Records_f_eq fuel x.1)
def impl_entryAt_P0 : Tpl := ⟨[(0, .one (.leaf (.row false (.pair .str (.pair .str .unit))))), (1, .one (.leaf .str)), (6, .one (.leaf (.int .i64)))], [], []⟩
def impl_entryAt_O0 : Tpl := ⟨[(0, .one (.leaf (.row false (.pair .str (.pair .str .unit))))), (1, .one (.leaf .str)), (6, .one (.leaf (.int .i64)))], [], []⟩
def impl_entryAt_k0 (N : Nat) : Nat → ((((List (ByteArray × (ByteArray × Unit))) × ByteArray × Int × Unit) × (Unit × Unit)) → Option (Unit × (Int × Bool × Unit))) → (((List (ByteArray × (ByteArray × Unit))) × ByteArray × Int × Unit) × (Unit × Unit)) → Option (Unit × (Int × Bool × Unit))
  | 0, _, _ => none
  | n + 1, k, x =>
    tb (ilt x.1.2.2.1 (((llen x.1.1) : Nat) : Int))
    (chk (0 ≤ x.1.2.2.1) (obind (at? x.1.1 (Int.toNat x.1.2.2.1)) fun v0 =>
        tb (slt v0.1 x.1.2.1)
        (impl_entryAt_k0 N n k ((x.1.1, x.1.2.1, (wr .i64 (x.1.2.2.1 + 1)), ()), (), ()))
        (k ((x.1.1, x.1.2.1, x.1.2.2.1, ()), (), ()))) (none))
    (k ((x.1.1, x.1.2.1, x.1.2.2.1, ()), (), ()))
def impl_entryAt_k (N : Nat) (x0 : (List (ByteArray × ByteArray × Unit))) (x1 : ByteArray) : Option (Unit × (Int × Bool × Unit)) :=
  impl_entryAt_k0 N N (fun v0 =>
    tb (ilt v0.1.2.2.1 (((llen v0.1.1) : Nat) : Int))
    (chk (0 ≤ v0.1.2.2.1) (obind (at? v0.1.1 (Int.toNat v0.1.2.2.1)) fun v1 =>
        some ((), v0.1.2.2.1, (seq v1.1 v0.1.2.1), ())) (none))
    (some ((), v0.1.2.2.1, false, ()))) ((x0, x1, 0, ()), (), ())
def impl_entryAt (x : ((List (ByteArray × ByteArray × Unit)) × ByteArray × Unit)) : Option (Unit × (Int × Bool × Unit)) := impl_entryAt_k fuel x.1 x.2.1
def impl_entryAt_s : List (Nat × Con) := []
def impl_entryAt_E : Env := ⟨fun j => (look tyTab j).getD .unit, fun j => look impl_entryAt_s j⟩
theorem impl_entryAt_r0 (N n : Nat) (k : impl_entryAt_O0.ty.den → Option (Unit × (Int × Bool × Unit))) (x : impl_entryAt_P0.ty.den) : roundK impl_entryAt_E ⟨Try.f87.ntmps, N, (fun i => look [(0, ⟨impl_entryAt_P0, impl_entryAt_O0, [], [], impl_entryAt_k0 N⟩)] i), retK impl_entryAt_E Try.f87 [.val (.row false S64), .val .str] [(.int .i64), .bool] (.pair (.int .i64) (.pair .bool .unit))⟩ (Try.f87.body.getD .skip) 0 ⟨impl_entryAt_P0, impl_entryAt_O0, [], [], impl_entryAt_k0 N⟩ (impl_entryAt_k0 N n k) k x = impl_entryAt_k0 N (n + 1) k x := by kernel_rfl
theorem impl_entryAt_f_eq (N : Nat) (x0 : (List (ByteArray × ByteArray × Unit))) (x1 : ByteArray) : funK impl_entryAt_E Try.f87 [.val (.row false S64), .val .str] [(.int .i64), .bool] (.pair (.int .i64) (.pair .bool .unit)) (fun i => look [(0, ⟨impl_entryAt_P0, impl_entryAt_O0, [], [], impl_entryAt_k0 N⟩)] i) N (x0, x1, ()) = impl_entryAt_k N x0 x1 := by kernel_rfl
theorem impl_entryAt_o : Known Try.prog 87 ⟨[.val (.row false S64), .val .str], [(.int .i64), .bool], (.pair (.int .i64) (.pair .bool .unit)), impl_entryAt⟩ := known_of (tab := tyTab) (cons := impl_entryAt_s) (segs := [(0, ⟨impl_entryAt_P0, impl_entryAt_O0, [], [], impl_entryAt_k0 fuel⟩)]) (n := fuel) mixed_ok tab_ok .nil Try.func87 (by kernel_rfl) ⟨⟨fun _ _ => rfl, fun n k x => impl_entryAt_r0 fuel n k x⟩, trivial⟩ (fun x => impl_entryAt_f_eq fuel x.1 x.2.1)
def impl_IndexOf_P0 : Tpl := ⟨[(3, .one (.fix (.ref 10000 [] none))), (8, .one (.leaf (.row false (.pair (.int .i64) (.pair .str (.pair .str .unit)))))), (9, .one (.leaf (.int .i64))), (10, .one (.leaf (.int .i64)))], [], [(10000, (.pair .str (.pair .str .unit)))]⟩
def impl_IndexOf_O0 : Tpl := ⟨[(3, .one (.fix (.ref 10500 [] none)))], [], [(10500, (.pair .str (.pair .str .unit)))]⟩
def impl_IndexOf_k0 (N : Nat) : Nat → ((Unit × (Unit × ((List (ByteArray × (ByteArray × Unit))) × Unit))) → Option (Unit × ((List (ByteArray × ByteArray × Unit)) × Unit))) → (((List (Int × (ByteArray × (ByteArray × Unit)))) × Int × Int × Unit) × (Unit × ((List (ByteArray × (ByteArray × Unit))) × Unit))) → Option (Unit × ((List (ByteArray × ByteArray × Unit)) × Unit))
  | 0, _, _ => none
  | n + 1, k, x =>
    tb (ilt x.1.2.2.1 x.1.2.1)
    (chk (0 ≤ x.1.2.2.1) (obind (at? x.1.1 (Int.toNat x.1.2.2.1)) fun v0 =>
        obind (impl_entryAt (x.2.2.1, v0.2.1, ())) fun v1 =>
        tb v1.2.2.1
        (obind (slices_Delete_Entry (x.2.2.1, v1.2.1, (wr .i64 (v1.2.1 + 1)), ())) fun v2 =>
          tb (ieq v0.1 1)
          (obind (slices_Insert_Entry (v2.2.1, v1.2.1, [(v0.2.1, v0.2.2.1, ())], ())) fun v3 =>
            impl_IndexOf_k0 N n k ((x.1.1, x.1.2.1, (wr .i64 (x.1.2.2.1 + 1)), ()), (), v3.2.1, ()))
          (impl_IndexOf_k0 N n k ((x.1.1, x.1.2.1, (wr .i64 (x.1.2.2.1 + 1)), ()), (), v2.2.1, ())))
        (tb (ieq v0.1 1)
          (obind (slices_Insert_Entry (x.2.2.1, v1.2.1, [(v0.2.1, v0.2.2.1, ())], ())) fun v4 =>
            impl_IndexOf_k0 N n k ((x.1.1, x.1.2.1, (wr .i64 (x.1.2.2.1 + 1)), ()), (), v4.2.1, ()))
          (impl_IndexOf_k0 N n k ((x.1.1, x.1.2.1, (wr .i64 (x.1.2.2.1 + 1)), ()), (), x.2.2.1, ())))) (none))
    (k ((), (), x.2.2.1, ()))
def impl_IndexOf_k (N : Nat) (x0 : (List (Int × ByteArray × ByteArray × Unit))) : Option (Unit × ((List (ByteArray × ByteArray × Unit)) × Unit)) :=
  impl_IndexOf_k0 N N (fun v0 =>
    some ((), v0.2.2.1, ())) ((x0, (((llen x0) : Nat) : Int), 0, ()), (), [], ())
def impl_IndexOf (x : ((List (Int × ByteArray × ByteArray × Unit)) × Unit)) : Option (Unit × ((List (ByteArray × ByteArray × Unit)) × Unit)) := impl_IndexOf_k fuel x.1
def impl_IndexOf_s : List (Nat × Con) := [(87, ⟨[.val (.row false S64), .val .str], [(.int .i64), .bool], (.pair (.int .i64) (.pair .bool .unit)), impl_entryAt⟩), (88, ⟨[.own (.row true T64), .val (.int .i64), .val (.int .i64)], [(.row true T64)], (.pair (.row true T64) .unit), slices_Delete_Entry⟩), (89, ⟨[.own (.row true T64), .val (.int .i64), .own (.row true T64)], [(.row true T64)], (.pair (.row true T64) .unit), slices_Insert_Entry⟩)]
def impl_IndexOf_E : Env := ⟨fun j => (look tyTab j).getD .unit, fun j => look impl_IndexOf_s j⟩
theorem impl_IndexOf_r0 (N n : Nat) (k : impl_IndexOf_O0.ty.den → Option (Unit × ((List (ByteArray × ByteArray × Unit)) × Unit))) (x : impl_IndexOf_P0.ty.den) : roundK impl_IndexOf_E ⟨Try.f32.ntmps, N, (fun i => look [(0, ⟨impl_IndexOf_P0, impl_IndexOf_O0, [.tmp 3 10000 (.pair .str (.pair .str .unit))], [.tmp 3 10500 (.pair .str (.pair .str .unit))], impl_IndexOf_k0 N⟩)] i), retK impl_IndexOf_E Try.f32 [.val (.row false S25)] [(.row true T64)] (.pair (.row true T64) .unit)⟩ (Try.f32.body.getD .skip) 0 ⟨impl_IndexOf_P0, impl_IndexOf_O0, [.tmp 3 10000 (.pair .str (.pair .str .unit))], [.tmp 3 10500 (.pair .str (.pair .str .unit))], impl_IndexOf_k0 N⟩ (impl_IndexOf_k0 N n k) k x = impl_IndexOf_k0 N (n + 1) k x := by kernel_rfl
theorem impl_IndexOf_f_eq (N : Nat) (x0 : (List (Int × ByteArray × ByteArray × Unit))) : funK impl_IndexOf_E Try.f32 [.val (.row false S25)] [(.row true T64)] (.pair (.row true T64) .unit) (fun i => look [(0, ⟨impl_IndexOf_P0, impl_IndexOf_O0, [.tmp 3 10000 (.pair .str (.pair .str .unit))], [.tmp 3 10500 (.pair .str (.pair .str .unit))], impl_IndexOf_k0 N⟩)] i) N (x0, ()) = impl_IndexOf_k N x0 := by kernel_rfl
theorem impl_IndexOf_o : Known Try.prog 32 ⟨[.val (.row false S25)], [(.row true T64)], (.pair (.row true T64) .unit), impl_IndexOf⟩ := known_of (tab := tyTab) (cons := impl_IndexOf_s) (segs := [(0, ⟨impl_IndexOf_P0, impl_IndexOf_O0, [.tmp 3 10000 (.pair .str (.pair .str .unit))], [.tmp 3 10500 (.pair .str (.pair .str .unit))], impl_IndexOf_k0 fuel⟩)]) (n := fuel) mixed_ok tab_ok (.cons impl_entryAt_o (.cons slices_Delete_Entry_o (.cons slices_Insert_Entry_o .nil))) Try.func32 (by kernel_rfl) ⟨⟨fun _ _ => rfl, fun n k x => impl_IndexOf_r0 fuel n k x⟩, trivial⟩ (fun x => impl_IndexOf_f_eq fuel x.1)
def impl_Disk_area_P0 : Tpl := ⟨[(0, .one (.leaf (.pair (.row true .str) (.pair (.row true (.pair (.int .i64) (.pair .str .unit))) .unit)))), (1, .one (.leaf (.int .i64))), (2, .one (.leaf (.int .i64))), (3, .one (.leaf (.int .i64))), (9, .one (.fix (.ref 10000 [] none)))], [], [(10000, (.int .u8))]⟩
def impl_Disk_area_O0 : Tpl := ⟨[(9, .one (.fix (.ref 10500 [] none)))], [], [(10500, (.int .u8))]⟩
def impl_Disk_area_k0 (N : Nat) : Nat → ((Unit × (Unit × ((List Int) × Unit))) → Option (Unit × ((List Int) × Unit))) → ((((List ByteArray) × ((List (Int × (ByteArray × Unit))) × Unit)) × Int × Int × Int × Unit) × (Unit × ((List Int) × Unit))) → Option (Unit × ((List Int) × Unit))
  | 0, _, _ => none
  | n + 1, k, x =>
    tb (ilt 0 x.1.2.2.2.1)
    (chk ((64 : Int) = 0) (none) (obind (impl_first (x.1.2.1, ())) fun v0 =>
        chk ((64 : Int) = 0) (none) (obind (impl_Disk_sector (x.1.1, (wr .i64 (v0.2.1 + (wr .i64 (Int.tdiv x.1.2.2.1 64)))), ())) fun v1 =>
          chk ((0 ≤ (Int.tmod x.1.2.2.1 64)) ∧ (((Int.tmod x.1.2.2.1 64) ≤ (wr .i64 ((Int.tmod x.1.2.2.1 64) + (mn x.1.2.2.2.1 (wr .i64 (64 - (Int.tmod x.1.2.2.1 64))))))) ∧ ((wr .i64 ((Int.tmod x.1.2.2.1 64) + (mn x.1.2.2.2.1 (wr .i64 (64 - (Int.tmod x.1.2.2.1 64)))))) ≤ (((slen v1.2.1) : Nat) : Int)))) (chk ((plus (llen x.2.2.1) (llen (bytesOf (scut v1.2.1 (Int.toNat (Int.tmod x.1.2.2.1 64)) (Int.toNat (wr .i64 ((Int.tmod x.1.2.2.1 64) + (mn x.1.2.2.2.1 (wr .i64 (64 - (Int.tmod x.1.2.2.1 64))))))))))) ≤ 140737488355328) (impl_Disk_area_k0 N n k ((x.1.1, x.1.2.1, (wr .i64 (x.1.2.2.1 + (mn x.1.2.2.2.1 (wr .i64 (64 - (Int.tmod x.1.2.2.1 64)))))), (wr .i64 (x.1.2.2.2.1 - (mn x.1.2.2.2.1 (wr .i64 (64 - (Int.tmod x.1.2.2.1 64)))))), ()), (), (lapp x.2.2.1 (bytesOf (scut v1.2.1 (Int.toNat (Int.tmod x.1.2.2.1 64)) (Int.toNat (wr .i64 ((Int.tmod x.1.2.2.1 64) + (mn x.1.2.2.2.1 (wr .i64 (64 - (Int.tmod x.1.2.2.1 64)))))))))), ())) (none)) (none))))
    (k ((), (), x.2.2.1, ()))
def impl_Disk_area_k (N : Nat) (x0 : ((List ByteArray) × (List (Int × ByteArray × Unit)) × Unit)) (x1 : Int) (x2 : Int) (x3 : Int) : Option (Unit × ((List Int) × Unit)) :=
  impl_Disk_area_k0 N N (fun v0 =>
    some ((), v0.2.2.1, ())) ((x0, x1, x2, x3, ()), (), [], ())
def impl_Disk_area (x : (((List ByteArray) × (List (Int × ByteArray × Unit)) × Unit) × Int × Int × Int × Unit)) : Option (Unit × ((List Int) × Unit)) := impl_Disk_area_k fuel x.1 x.2.1 x.2.2.1 x.2.2.2.1
def impl_Disk_area_s : List (Nat × Con) := [(112, ⟨[.rptr T55, .val (.int .i64)], [.str], (.pair .str .unit), impl_Disk_sector⟩), (149, ⟨[.val (.int .i64)], [(.int .i64)], (.pair (.int .i64) .unit), impl_first⟩)]
def impl_Disk_area_E : Env := ⟨fun j => (look tyTab j).getD .unit, fun j => look impl_Disk_area_s j⟩
theorem impl_Disk_area_r0 (N n : Nat) (k : impl_Disk_area_O0.ty.den → Option (Unit × ((List Int) × Unit))) (x : impl_Disk_area_P0.ty.den) : roundK impl_Disk_area_E ⟨Try.f128.ntmps, N, (fun i => look [(0, ⟨impl_Disk_area_P0, impl_Disk_area_O0, [.tmp 9 10000 (.int .u8)], [.tmp 9 10500 (.int .u8)], impl_Disk_area_k0 N⟩)] i), retK impl_Disk_area_E Try.f128 [.rptr T55, .val (.int .i64), .val (.int .i64), .val (.int .i64)] [(.row true (.int .u8))] (.pair (.row true (.int .u8)) .unit)⟩ (Try.f128.body.getD .skip) 0 ⟨impl_Disk_area_P0, impl_Disk_area_O0, [.tmp 9 10000 (.int .u8)], [.tmp 9 10500 (.int .u8)], impl_Disk_area_k0 N⟩ (impl_Disk_area_k0 N n k) k x = impl_Disk_area_k0 N (n + 1) k x := by kernel_rfl
theorem impl_Disk_area_f_eq (N : Nat) (x0 : ((List ByteArray) × (List (Int × ByteArray × Unit)) × Unit)) (x1 : Int) (x2 : Int) (x3 : Int) : funK impl_Disk_area_E Try.f128 [.rptr T55, .val (.int .i64), .val (.int .i64), .val (.int .i64)] [(.row true (.int .u8))] (.pair (.row true (.int .u8)) .unit) (fun i => look [(0, ⟨impl_Disk_area_P0, impl_Disk_area_O0, [.tmp 9 10000 (.int .u8)], [.tmp 9 10500 (.int .u8)], impl_Disk_area_k0 N⟩)] i) N (x0, x1, x2, x3, ()) = impl_Disk_area_k N x0 x1 x2 x3 := by kernel_rfl
theorem impl_Disk_area_o : Known Try.prog 128 ⟨[.rptr T55, .val (.int .i64), .val (.int .i64), .val (.int .i64)], [(.row true (.int .u8))], (.pair (.row true (.int .u8)) .unit), impl_Disk_area⟩ := known_of (tab := tyTab) (cons := impl_Disk_area_s) (segs := [(0, ⟨impl_Disk_area_P0, impl_Disk_area_O0, [.tmp 9 10000 (.int .u8)], [.tmp 9 10500 (.int .u8)], impl_Disk_area_k0 fuel⟩)]) (n := fuel) mixed_ok tab_ok (.cons impl_Disk_sector_o (.cons impl_first_o .nil)) Try.func128 (by kernel_rfl) ⟨⟨fun _ _ => rfl, fun n k x => impl_Disk_area_r0 fuel n k x⟩, trivial⟩ (fun x => impl_Disk_area_f_eq fuel x.1 x.2.1 x.2.2.1 x.2.2.2.1)
def impl_AreaGet_k (N : Nat) (x0 : ((List ByteArray) × (List (Int × ByteArray × Unit)) × Unit)) (x1 : Int) (x2 : Int) (x3 : Int) : Option (Unit × ((List Int) × Bool × Unit)) :=
  obind (impl_fitsArea (x1, x2, x3, ())) fun v0 =>
  tb (bnot v0.2.1)
  (some ((), [], false, ()))
  (obind (impl_DiskOk ((x0.1, x0.2.1, ()), ())) fun v1 =>
    tb (bnot v1.2.1)
    (some ((), [], false, ()))
    (obind (impl_Disk_area ((x0.1, x0.2.1, ()), x1, x2, x3, ())) fun v2 =>
      some ((), v2.2.1, true, ())))
def impl_AreaGet (x : (((List ByteArray) × (List (Int × ByteArray × Unit)) × Unit) × Int × Int × Int × Unit)) : Option (Unit × ((List Int) × Bool × Unit)) := impl_AreaGet_k fuel x.1 x.2.1 x.2.2.1 x.2.2.2.1
def impl_AreaGet_s : List (Nat × Con) := [(101, ⟨[.val S55], [.bool], (.pair .bool .unit), impl_DiskOk⟩), (127, ⟨[.val (.int .i64), .val (.int .i64), .val (.int .i64)], [.bool], (.pair .bool .unit), impl_fitsArea⟩), (128, ⟨[.rptr T55, .val (.int .i64), .val (.int .i64), .val (.int .i64)], [(.row true (.int .u8))], (.pair (.row true (.int .u8)) .unit), impl_Disk_area⟩)]
def impl_AreaGet_E : Env := ⟨fun j => (look tyTab j).getD .unit, fun j => look impl_AreaGet_s j⟩
theorem impl_AreaGet_f_eq (N : Nat) (x0 : ((List ByteArray) × (List (Int × ByteArray × Unit)) × Unit)) (x1 : Int) (x2 : Int) (x3 : Int) : funK impl_AreaGet_E Try.f65 [.val S55, .val (.int .i64), .val (.int .i64), .val (.int .i64)] [(.row true (.int .u8)), .bool] (.pair (.row true (.int .u8)) (.pair .bool .unit)) (fun i => look [] i) N (x0, x1, x2, x3, ()) = impl_AreaGet_k N x0 x1 x2 x3 := by kernel_rfl
theorem impl_AreaGet_o : Known Try.prog 65 ⟨[.val S55, .val (.int .i64), .val (.int .i64), .val (.int .i64)], [(.row true (.int .u8)), .bool], (.pair (.row true (.int .u8)) (.pair .bool .unit)), impl_AreaGet⟩ := known_of (tab := tyTab) (cons := impl_AreaGet_s) (segs := []) (n := fuel) mixed_ok tab_ok (.cons impl_DiskOk_o (.cons impl_fitsArea_o (.cons impl_Disk_area_o .nil))) Try.func65 (by kernel_rfl) trivial (fun x => impl_AreaGet_f_eq fuel x.1 x.2.1 x.2.2.1 x.2.2.2.1)
def impl_listOf_k (N : Nat) (x0 : ((List ByteArray) × (List (Int × ByteArray × Unit)) × Unit)) (x1 : (Int × Int × Int × Unit)) : Option (Unit × ((List (ByteArray × ByteArray × Unit)) × Bool × Unit)) :=
  obind (impl_AreaGet ((x0.1, x0.2.1, ()), x1.2.1, 0, x1.2.2.1, ())) fun v0 =>
  tb (bnot v0.2.2.1)
  (some ((), [], false, ()))
  (obind (impl_Records (v0.2.1, ())) fun v1 =>
    obind (impl_IndexOf (v1.2.1, ())) fun v2 =>
    some ((), v2.2.1, v1.2.2.1, ()))
def impl_listOf (x : (((List ByteArray) × (List (Int × ByteArray × Unit)) × Unit) × (Int × Int × Int × Unit) × Unit)) : Option (Unit × ((List (ByteArray × ByteArray × Unit)) × Bool × Unit)) := impl_listOf_k fuel x.1 x.2.1
def impl_listOf_s : List (Nat × Con) := [(20, ⟨[.val (.row false (.int .u8))], [(.row true T25), .bool], (.pair (.row true T25) (.pair .bool .unit)), impl_Records⟩), (32, ⟨[.val (.row false S25)], [(.row true T64)], (.pair (.row true T64) .unit), impl_IndexOf⟩), (65, ⟨[.val S55, .val (.int .i64), .val (.int .i64), .val (.int .i64)], [(.row true (.int .u8)), .bool], (.pair (.row true (.int .u8)) (.pair .bool .unit)), impl_AreaGet⟩)]
def impl_listOf_E : Env := ⟨fun j => (look tyTab j).getD .unit, fun j => look impl_listOf_s j⟩
theorem impl_listOf_f_eq (N : Nat) (x0 : ((List ByteArray) × (List (Int × ByteArray × Unit)) × Unit)) (x1 : (Int × Int × Int × Unit)) : funK impl_listOf_E Try.f134 [.val S55, .val S69] [(.row true T64), .bool] (.pair (.row true T64) (.pair .bool .unit)) (fun i => look [] i) N (x0, x1, ()) = impl_listOf_k N x0 x1 := by kernel_rfl
theorem impl_listOf_o : Known Try.prog 134 ⟨[.val S55, .val S69], [(.row true T64), .bool], (.pair (.row true T64) (.pair .bool .unit)), impl_listOf⟩ := known_of (tab := tyTab) (cons := impl_listOf_s) (segs := []) (n := fuel) mixed_ok tab_ok (.cons impl_Records_o (.cons impl_IndexOf_o (.cons impl_AreaGet_o .nil))) Try.func134 (by kernel_rfl) trivial (fun x => impl_listOf_f_eq fuel x.1 x.2.1)
def slices_Equal_Entry_P0 : Tpl := ⟨[(0, .one (.leaf (.row false (.pair .str (.pair .str .unit))))), (1, .one (.leaf (.row false (.pair .str (.pair .str .unit))))), (12, .one (.leaf (.int .i64))), (13, .one (.leaf (.int .i64)))], [], []⟩
def slices_Equal_Entry_O0 : Tpl := ⟨[], [], []⟩
def slices_Equal_Entry_k0 (N : Nat) : Nat → ((Unit × (Unit × Unit)) → Option (Unit × (Bool × Unit))) → (((List (ByteArray × (ByteArray × Unit))) × (List (ByteArray × (ByteArray × Unit))) × Int × Int × Unit) × (Unit × Unit)) → Option (Unit × (Bool × Unit))
  | 0, _, _ => none
  | n + 1, k, x =>
    tb (ilt x.1.2.2.2.1 x.1.2.2.1)
    (chk (0 ≤ x.1.2.2.2.1) (obind (at? x.1.1 (Int.toNat x.1.2.2.2.1)) fun v0 =>
        chk (0 ≤ x.1.2.2.2.1) (obind (at? x.1.2.1 (Int.toNat x.1.2.2.2.1)) fun v1 =>
          tb (bnot (band (seq v0.1 v1.1) (band (seq v0.2.1 v1.2.1) true)))
          (some ((), false, ()))
          (slices_Equal_Entry_k0 N n k ((x.1.1, x.1.2.1, x.1.2.2.1, (wr .i64 (x.1.2.2.2.1 + 1)), ()), (), ()))) (none)) (none))
    (k ((), (), ()))
def slices_Equal_Entry_k (N : Nat) (x0 : (List (ByteArray × ByteArray × Unit))) (x1 : (List (ByteArray × ByteArray × Unit))) : Option (Unit × (Bool × Unit)) :=
  tb (bnot (ieq (((llen x0) : Nat) : Int) (((llen x1) : Nat) : Int)))
  (some ((), false, ()))
  (slices_Equal_Entry_k0 N N (fun v0 =>
      some ((), true, ())) ((x0, x1, (((llen x0) : Nat) : Int), 0, ()), (), ()))
def slices_Equal_Entry (x : ((List (ByteArray × ByteArray × Unit)) × (List (ByteArray × ByteArray × Unit)) × Unit)) : Option (Unit × (Bool × Unit)) := slices_Equal_Entry_k fuel x.1 x.2.1
def slices_Equal_Entry_s : List (Nat × Con) := []
def slices_Equal_Entry_E : Env := ⟨fun j => (look tyTab j).getD .unit, fun j => look slices_Equal_Entry_s j⟩
theorem slices_Equal_Entry_r0 (N n : Nat) (k : slices_Equal_Entry_O0.ty.den → Option (Unit × (Bool × Unit))) (x : slices_Equal_Entry_P0.ty.den) : roundK slices_Equal_Entry_E ⟨Try.f135.ntmps, N, (fun i => look [(0, ⟨slices_Equal_Entry_P0, slices_Equal_Entry_O0, [], [], slices_Equal_Entry_k0 N⟩)] i), retK slices_Equal_Entry_E Try.f135 [.val (.row false S64), .val (.row false S64)] [.bool] (.pair .bool .unit)⟩ (Try.f135.body.getD .skip) 0 ⟨slices_Equal_Entry_P0, slices_Equal_Entry_O0, [], [], slices_Equal_Entry_k0 N⟩ (slices_Equal_Entry_k0 N n k) k x = slices_Equal_Entry_k0 N (n + 1) k x := by kernel_rfl
theorem slices_Equal_Entry_f_eq (N : Nat) (x0 : (List (ByteArray × ByteArray × Unit))) (x1 : (List (ByteArray × ByteArray × Unit))) : funK slices_Equal_Entry_E Try.f135 [.val (.row false S64), .val (.row false S64)] [.bool] (.pair .bool .unit) (fun i => look [(0, ⟨slices_Equal_Entry_P0, slices_Equal_Entry_O0, [], [], slices_Equal_Entry_k0 N⟩)] i) N (x0, x1, ()) = slices_Equal_Entry_k N x0 x1 := by kernel_rfl
theorem slices_Equal_Entry_o : Known Try.prog 135 ⟨[.val (.row false S64), .val (.row false S64)], [.bool], (.pair .bool .unit), slices_Equal_Entry⟩ := known_of (tab := tyTab) (cons := slices_Equal_Entry_s) (segs := [(0, ⟨slices_Equal_Entry_P0, slices_Equal_Entry_O0, [], [], slices_Equal_Entry_k0 fuel⟩)]) (n := fuel) mixed_ok tab_ok .nil Try.func135 (by kernel_rfl) ⟨⟨fun _ _ => rfl, fun n k x => slices_Equal_Entry_r0 fuel n k x⟩, trivial⟩ (fun x => slices_Equal_Entry_f_eq fuel x.1 x.2.1)
def impl_ArchiveOk_k (N : Nat) (x0 : (Bool × ((List ByteArray) × (List (Int × ByteArray × Unit)) × Unit) × (Int × Int × Int × Unit) × (List (ByteArray × ByteArray × Unit)) × Unit)) : Option (Unit × (Bool × Unit)) :=
  tb (ilt 0 (((llen x0.2.1.2.1) : Nat) : Int))
  (some ((), false, ()))
  (obind (impl_DiskOk ((x0.2.1.1, x0.2.1.2.1, ()), ())) fun v0 =>
    tb (bnot v0.2.1)
    (some ((), false, ()))
    (tb (bnot x0.1)
      (tb (band (ieq x0.2.2.1.1 0) (band (ieq x0.2.2.1.2.1 0) (band (ieq x0.2.2.1.2.2.1 0) true)))
        (some ((), (ieq (((llen x0.2.2.2.1) : Nat) : Int) 0), ()))
        (some ((), false, ())))
      (obind (impl_headOk ((x0.2.2.1.1, x0.2.2.1.2.1, x0.2.2.1.2.2.1, ()), ())) fun v1 =>
        tb (bnot v1.2.1)
        (some ((), false, ()))
        (obind (impl_HeadNow ((x0.2.1.1, x0.2.1.2.1, ()), ())) fun v2 =>
          tb (bnot (band (ieq v2.2.1.1 x0.2.2.1.1) (band (ieq v2.2.1.2.1 x0.2.2.1.2.1) (band (ieq v2.2.1.2.2.1 x0.2.2.1.2.2.1) true))))
          (some ((), false, ()))
          (obind (impl_listOf ((x0.2.1.1, x0.2.1.2.1, ()), (x0.2.2.1.1, x0.2.2.1.2.1, x0.2.2.1.2.2.1, ()), ())) fun v3 =>
            tb v3.2.2.1
            (obind (slices_Equal_Entry (v3.2.1, x0.2.2.2.1, ())) fun v4 =>
              some ((), v4.2.1, ()))
            (some ((), false, ())))))))
def impl_ArchiveOk (x : ((Bool × ((List ByteArray) × (List (Int × ByteArray × Unit)) × Unit) × (Int × Int × Int × Unit) × (List (ByteArray × ByteArray × Unit)) × Unit) × Unit)) : Option (Unit × (Bool × Unit)) := impl_ArchiveOk_k fuel x.1
def impl_ArchiveOk_s : List (Nat × Con) := [(48, ⟨[.val S55], [T69], (.pair T69 .unit), impl_HeadNow⟩), (101, ⟨[.val S55], [.bool], (.pair .bool .unit), impl_DiskOk⟩), (119, ⟨[.val S69], [.bool], (.pair .bool .unit), impl_headOk⟩), (134, ⟨[.val S55, .val S69], [(.row true T64), .bool], (.pair (.row true T64) (.pair .bool .unit)), impl_listOf⟩), (135, ⟨[.val (.row false S64), .val (.row false S64)], [.bool], (.pair .bool .unit), slices_Equal_Entry⟩)]
def impl_ArchiveOk_E : Env := ⟨fun j => (look tyTab j).getD .unit, fun j => look impl_ArchiveOk_s j⟩
theorem impl_ArchiveOk_f_eq (N : Nat) (x0 : (Bool × ((List ByteArray) × (List (Int × ByteArray × Unit)) × Unit) × (Int × Int × Int × Unit) × (List (ByteArray × ByteArray × Unit)) × Unit)) : funK impl_ArchiveOk_E Try.f70 [.val S78] [.bool] (.pair .bool .unit) (fun i => look [] i) N (x0, ()) = impl_ArchiveOk_k N x0 := by kernel_rfl
theorem impl_ArchiveOk_o : Known Try.prog 70 ⟨[.val S78], [.bool], (.pair .bool .unit), impl_ArchiveOk⟩ := known_of (tab := tyTab) (cons := impl_ArchiveOk_s) (segs := []) (n := fuel) mixed_ok tab_ok (.cons impl_HeadNow_o (.cons impl_DiskOk_o (.cons impl_headOk_o (.cons impl_listOf_o (.cons slices_Equal_Entry_o .nil))))) Try.func70 (by kernel_rfl) trivial (fun x => impl_ArchiveOk_f_eq fuel x.1)
def laws_FnExactArchiveOk_k (N : Nat) (x0 : (Bool × ((List ByteArray) × (List (Int × ByteArray × Unit)) × Unit) × (Int × Int × Int × Unit) × (List (ByteArray × ByteArray × Unit)) × Unit)) : Option (Unit × (Bool × Unit)) :=
  obind (laws_szArchive ((x0.1, (x0.2.1.1, x0.2.1.2.1, ()), (x0.2.2.1.1, x0.2.2.1.2.1, x0.2.2.1.2.2.1, ()), x0.2.2.2.1, ()), 1048576, ())) fun v0 =>
  tb (ilt v0.2.1 0)
  (some ((), true, ()))
  (obind (laws_toArchive ((x0.1, (x0.2.1.1, x0.2.1.2.1, ()), (x0.2.2.1.1, x0.2.2.1.2.1, x0.2.2.1.2.2.1, ()), x0.2.2.2.1, ()), ())) fun v1 =>
    obind (spec_ArchiveOk ((v1.2.1.1, (v1.2.1.2.1.1, v1.2.1.2.1.2.1, ()), (v1.2.1.2.2.1.1, v1.2.1.2.2.1.2.1, v1.2.1.2.2.1.2.2.1, ()), v1.2.1.2.2.2.1, ()), ())) fun v2 =>
    obind (laws_toArchive ((x0.1, (x0.2.1.1, x0.2.1.2.1, ()), (x0.2.2.1.1, x0.2.2.1.2.1, x0.2.2.1.2.2.1, ()), x0.2.2.2.1, ()), ())) fun v3 =>
    obind (impl_ArchiveOk ((v3.2.1.1, (v3.2.1.2.1.1, v3.2.1.2.1.2.1, ()), (v3.2.1.2.2.1.1, v3.2.1.2.2.1.2.1, v3.2.1.2.2.1.2.2.1, ()), v3.2.1.2.2.2.1, ()), ())) fun v4 =>
    tb (bnot (beq v4.2.1 v2.2.1))
    (some ((), false, ()))
    (obind (laws_toArchive ((x0.1, (x0.2.1.1, x0.2.1.2.1, ()), (x0.2.2.1.1, x0.2.2.1.2.1, x0.2.2.1.2.2.1, ()), x0.2.2.2.1, ()), ())) fun v5 =>
      obind (laws_eqArchive ((v3.2.1.1, (v3.2.1.2.1.1, v3.2.1.2.1.2.1, ()), (v3.2.1.2.2.1.1, v3.2.1.2.2.1.2.1, v3.2.1.2.2.1.2.2.1, ()), v3.2.1.2.2.2.1, ()), (v5.2.1.1, (v5.2.1.2.1.1, v5.2.1.2.1.2.1, ()), (v5.2.1.2.2.1.1, v5.2.1.2.2.1.2.1, v5.2.1.2.2.1.2.2.1, ()), v5.2.1.2.2.2.1, ()), ())) fun v6 =>
      tb (bnot v6.2.1)
      (some ((), false, ()))
      (some ((), true, ()))))
def laws_FnExactArchiveOk (x : ((Bool × ((List ByteArray) × (List (Int × ByteArray × Unit)) × Unit) × (Int × Int × Int × Unit) × (List (ByteArray × ByteArray × Unit)) × Unit) × Unit)) : Option (Unit × (Bool × Unit)) := laws_FnExactArchiveOk_k fuel x.1
def laws_FnExactArchiveOk_s : List (Nat × Con) := [(55, ⟨[.val S78, .val S78], [.bool], (.pair .bool .unit), laws_eqArchive⟩), (67, ⟨[.val S94, .val (.int .i64)], [(.int .i64)], (.pair (.int .i64) .unit), laws_szArchive⟩), (68, ⟨[.val S78], [.bool], (.pair .bool .unit), spec_ArchiveOk⟩), (69, ⟨[.val S94], [T78], (.pair T78 .unit), laws_toArchive⟩), (70, ⟨[.val S78], [.bool], (.pair .bool .unit), impl_ArchiveOk⟩)]
def laws_FnExactArchiveOk_E : Env := ⟨fun j => (look tyTab j).getD .unit, fun j => look laws_FnExactArchiveOk_s j⟩
theorem laws_FnExactArchiveOk_f_eq (N : Nat) (x0 : (Bool × ((List ByteArray) × (List (Int × ByteArray × Unit)) × Unit) × (Int × Int × Int × Unit) × (List (ByteArray × ByteArray × Unit)) × Unit)) : funK laws_FnExactArchiveOk_E Try.f13 [.val S94] [.bool] (.pair .bool .unit) (fun i => look [] i) N (x0, ()) = laws_FnExactArchiveOk_k N x0 := by kernel_rfl
theorem laws_FnExactArchiveOk_o : Known Try.prog 13 ⟨[.val S94], [.bool], (.pair .bool .unit), laws_FnExactArchiveOk⟩ := known_of (tab := tyTab) (cons := laws_FnExactArchiveOk_s) (segs := []) (n := fuel) mixed_ok tab_ok (.cons laws_eqArchive_o (.cons laws_szArchive_o (.cons spec_ArchiveOk_o (.cons laws_toArchive_o (.cons impl_ArchiveOk_o .nil))))) Try.func13 (by kernel_rfl) trivial (fun x => laws_FnExactArchiveOk_f_eq fuel x.1)
end Go.Proofs.Ytaakhgjlekllgaa.V
namespace Go.Proofs.Ytaakhgjlekllgaa.V
open Go Go.RowKit
theorem bytes_length (s : ByteArray) : (bytesOf s).length = s.size := by simp [bytesOf]
theorem bytes_get {s : ByteArray} {i : Nat} (h : i < s.size) : (bytesOf s)[i]? = some (bt s (i : Int)) := by
  have h' : i < s.data.toList.length := by simpa using h
  simp only [bytesOf, List.getElem?_map, List.getElem?_eq_getElem h', Option.map_some, bt]
  rw [dif_pos (by simpa using h)]
  rfl
theorem strOf_size (l : List Int) : (strOf l).size = l.length := by
  show (l.map _).toArray.size = _
  simp
theorem strOf_append (a b : List Int) : strOf a ++ strOf b = strOf (a ++ b) := by
  apply ByteArray.ext
  simp [strOf]
theorem strOf_bytes (s : ByteArray) : strOf (bytesOf s) = s := by
  apply ByteArray.ext
  simp only [strOf, bytesOf, List.map_map]
  have : ((fun n : Int => UInt8.ofNat n.toNat) ∘ fun b : UInt8 => (b.toNat : Int)) = id := by
    funext b; simp
  rw [this]; simp
theorem lcut_length {α : Type} (l : List α) (a b : Nat) (h : b ≤ l.length) : (lcut l a b).length = b - a := by
  simp only [lcut, List.length_drop, List.length_take]; omega
theorem scut_strOf (l : List Int) (a b : Nat) : scut (strOf l) a b = strOf (lcut l a b) := by
  apply ByteArray.ext
  apply Array.ext'
  simp only [scut, ByteArray.data_extract, strOf, Array.toList_extract, List.extract_eq_take_drop, lcut, List.map_drop, List.map_take, List.drop_take]
theorem scut_bytes (s : ByteArray) (a b : Nat) : scut s a b = strOf (lcut (bytesOf s) a b) := by
  rw [← scut_strOf, strOf_bytes]
theorem lcut_get {α : Type} (l : List α) (a b i : Nat) : (lcut l a b)[i]? = if a + i < b then l[a + i]? else none := by
  simp only [lcut, List.getElem?_drop, List.getElem?_take]
end Go.Proofs.Ytaakhgjlekllgaa.V
namespace Go.Proofs.Ytaakhgjlekllgaa.V
open Go Go.RowKit
theorem fuel_gt : 140737488351232 < fuel := by unfold fuel; omega
theorem all_loop {α S R : Type} {k : Nat → S → Option R} (st : Nat → S) (fin bad : Option R) (p : α → Bool) (xs : List α) (hend : ∀ n, k (n + 1) (st xs.length) = fin) (hstep : ∀ n i x, xs[i]? = some x → k (n + 1) (st i) = if p x = true then k n (st (i + 1)) else bad) :
    ∀ (post pre : List α) (n : Nat), xs = pre ++ post → post.length < n → k n (st pre.length) = if post.all p = true then fin else bad
  | [], pre, n, he, hn => by
    obtain ⟨m, rfl⟩ : ∃ m, n = m + 1 := ⟨n - 1, by simp at hn; omega⟩
    rw [show pre.length = xs.length by rw [he]; simp, hend]
    simp
  | x :: post, pre, n, he, hn => by
    obtain ⟨m, rfl⟩ : ∃ m, n = m + 1 := ⟨n - 1, by simp at hn; omega⟩
    rw [hstep m pre.length x (by rw [he]; exact get_split pre x post)]
    have := all_loop st fin bad p xs hend hstep post (pre ++ [x]) m (by rw [he]; simp) (by simp at hn; omega)
    rw [show (pre ++ [x]).length = pre.length + 1 by simp] at this
    rw [this, List.all_cons]
    cases p x <;> simp
theorem lt_of_get {α : Type} {xs : List α} {i : Nat} {x : α} (h : xs[i]? = some x) : i < xs.length := (List.getElem?_eq_some_iff.1 h).1
theorem mark_loop0 {K} : ∀ (n x : Nat) (s : ByteArray) (m : Nat), x < n → s.size + x ≤ 2199023255552 → x < m → (∃ r, laws_markText_k0 fuel m K (((x : Int), s, ()), (), ()) = K ((r, ()), (), ()) ∧ r.size ≤ 2199023255552)
  | 0, x, s, m, h, _, _ => by omega
  | n + 1, x, s, m, h, hs, hm => by
    obtain ⟨m, rfl⟩ : ∃ k, m = k + 1 := ⟨m - 1, by omega⟩
    rw [laws_markText_k0]
    simp only
    by_cases hx : x = 0
    · subst hx
      rw [tb_neg (ilt_f (by omega))]
      exact ⟨s, rfl, by omega⟩
    · have e1 : wr .i64 (Int.tdiv (x : Int) 10) = ((x / 10 : Nat) : Int) := by
        rw [Int.tdiv_eq_ediv_of_nonneg (by omega), wr64 (by omega) (by omega)]; omega
      have hz : ∀ y, (strOf [y]).size = 1 := fun y => rfl
      rw [tb_pos (ilt_t (by omega)), chk_neg (by decide), chk_pos (by simp only [plus, slen, hz, slim]; omega), chk_neg (by decide), e1]
      refine mark_loop0 n (x / 10) _ m (by omega) ?_ (by omega)
      rw [show (sapp (strOf [wr .u8 (wr .i64 (48 + Int.tmod (x : Int) 10))]) s).size = 1 + s.size by simp [sapp, hz]]
      omega
def mt (m : Int) : ByteArray := match laws_markText (m, ()) with | some r => r.2.1 | none => ⟨#[]⟩
theorem markText {m : Int} (h0 : 0 ≤ m) (h1 : m ≤ 1099511627777) : laws_markText (m, ()) = some ((), mt m, ()) := by
  have key : ∃ r, laws_markText (m, ()) = some ((), r, ()) := by
    unfold laws_markText laws_markText_k
    simp only
    by_cases h : m ≤ 0
    · rw [tb_pos (ile_t h)]; exact ⟨_, rfl⟩
    · rw [tb_neg (ile_f (by omega))]
      obtain ⟨x, rfl⟩ := Int.eq_ofNat_of_zero_le h0
      obtain ⟨r, e, hr⟩ := mark_loop0 (K := fun v0 => chk ((plus (slen (⟨#[109]⟩ : ByteArray)) (slen v0.1.1)) < slim) (some ((), (sapp (⟨#[109]⟩ : ByteArray) v0.1.1), ())) none) (x + 1) x ⟨#[]⟩ fuel (by omega) (by show 0 + x ≤ _; omega) (by unfold fuel; omega)
      rw [e]
      simp only
      rw [chk_pos (by simp only [plus, slen, slim]; show 1 + _ < _; omega)]
      exact ⟨_, rfl⟩
  obtain ⟨r, e⟩ := key
  unfold mt
  rw [e]
theorem szStringS : SzOk (fun xs s => laws_szStringS (xs, s, ())) (BL (fun v => ByteArray.size v ≤ 140737488351232)) (wL (fun v => ByteArray.size v)) :=
  szS_ok fuel_gt (fun _ _ => rfl) (k := laws_szStringS_k0 fuel) (fun _ _ _ => rfl) szStr_ok
theorem toStringS : ToOk (fun xs => laws_toStringS (xs, ())) (fun xs => xs.length ≤ 1048576 ∧ ∀ x ∈ xs, True) :=
  toS_ok fuel_gt (by decide) (fun _ => rfl) (k := laws_toStringS_k0 fuel) (e := fun v => some ((), v, ())) (fun _ _ _ => rfl) (fun _ _ => rfl)
theorem eqStringS : EqOk (fun xs ys => laws_eqStringS (xs, ys, ())) (BL (fun _ => True)) :=
  eqS_ok fuel_gt (fun _ _ => rfl) (k := laws_eqStringS_k0 fuel) (e := fun v u => some ((), seq v u, ())) (fun _ _ _ => rfl) eqStr_ok
def mkStr (_ : ByteArray) (m : Int) : ByteArray × Int := (mt m, m + 1)
theorem markStringS_step : MarkStep (laws_markStringS_k0 fuel) mkStr (fun _ => True) (fun _ => 1) := by
  refine ⟨fun n K m i xs h => ?_, fun n K m i xs x hx hl hB h0 h1 => ?_⟩
  · rw [laws_markStringS_k0]
    simp only
    rw [tb_neg (ilt_f (by simp only [llen]; omega))]
  · have hi := lt_of_get hx
    rw [laws_markStringS_k0]
    simp only
    rw [tb_pos (ilt_t (by simp only [llen]; omega)), obind_eq (markText h0 (by omega)), chk_pos (by simp only [llen]; omega), obind_eq (at_some hx), wr64 (by omega) (by omega), wr_succ (by omega)]
    rfl
theorem heldStringS_step : HeldStep (laws_heldStringS_k0 fuel) mkStr (fun _ => True) (fun _ => 1) := by
  refine ⟨fun n K m i xs h => ?_, fun n K m i xs x hx hl hB h0 h1 => ?_⟩
  · rw [laws_heldStringS_k0]
    simp only
    rw [tb_neg (ilt_f (by simp only [llen]; omega))]
  · have hi := lt_of_get hx
    rw [laws_heldStringS_k0]
    simp only
    rw [tb_pos (ilt_t (by simp only [llen]; omega)), chk_pos (by omega), obind_eq (at_some hx), obind_eq (markText h0 (by omega))]
    simp only [mkStr, seq_self]
    rw [tb_nt, wr64 (by omega) (by omega), wr_succ (by omega)]
theorem mkStr_le (x : ByteArray) (m : Int) (_ : True) (_ : 0 ≤ m) (_ : m + ((1 : Nat) : Int) ≤ 1099511627776) : m ≤ (mkStr x m).2 ∧ (mkStr x m).2 ≤ m + ((1 : Nat) : Int) := by
  simp only [mkStr]; omega
abbrev Pt := Int × ByteArray × Unit
theorem szPut : SzOk (fun (v : Pt) s => laws_szPut ((v.1, v.2.1, ()), s, ())) (fun v => ByteArray.size v.2.1 ≤ 140737488351232) (fun v => ByteArray.size v.2.1) := by
  intro v s hB h0 h1
  have hw : wr .i64 (s - ((slen v.2.1 : Nat) : Int)) = s - (v.2.1.size : Int) := wr64 (by simp only [slen]; omega) (by simp only [slen]; omega)
  simp only [laws_szPut, laws_szPut_k, hw]
  by_cases h : s - (v.2.1.size : Int) < 0
  · exact ⟨-1, tb_pos (ilt_t h) _ _, .inl (by omega)⟩
  · exact ⟨_, tb_neg (ilt_f (by omega)) _ _, .inr (by omega)⟩
theorem szPutS : SzOk (fun xs s => laws_szPutS (xs, s, ())) (BL (fun v : Pt => ByteArray.size v.2.1 ≤ 140737488351232)) (wL (fun v : Pt => ByteArray.size v.2.1)) :=
  szS_ok fuel_gt (fun _ _ => rfl) (k := laws_szPutS_k0 fuel) (fun _ _ _ => rfl) szPut
theorem toPutS : ToOk (fun xs => laws_toPutS (xs, ())) (fun xs => xs.length ≤ 1048576 ∧ ∀ x ∈ xs, True) :=
  toS_ok fuel_gt (by decide) (fun _ => rfl) (k := laws_toPutS_k0 fuel) (e := fun v => laws_toPut ((v.1, v.2.1, ()), ())) (fun _ _ _ => rfl) (fun _ _ => rfl)
theorem eqPut : EqOk (fun (v u : Pt) => laws_eqPut ((v.1, v.2.1, ()), (u.1, u.2.1, ()), ())) (fun _ => True) := by
  intro v _
  simp only [laws_eqPut, laws_eqPut_k, ieq_self, seq_self, tb_nt]
theorem eqPutS : EqOk (fun xs ys => laws_eqPutS (xs, ys, ())) (BL (fun _ => True)) :=
  eqS_ok fuel_gt (fun _ _ => rfl) (k := laws_eqPutS_k0 fuel) (fun _ _ _ => rfl) eqPut
def mkPut (_ : Pt) (m : Int) : Pt × Int := ((m, mt (m + 1), ()), m + 2)
theorem mkPut_le (x : Pt) (m : Int) (_ : True) (_ : 0 ≤ m) (_ : m + ((2 : Nat) : Int) ≤ 1099511627776) : m ≤ (mkPut x m).2 ∧ (mkPut x m).2 ≤ m + ((2 : Nat) : Int) := by
  simp only [mkPut]; omega
theorem markPutS_step : MarkStep (laws_markPutS_k0 fuel) mkPut (fun _ => True) (fun _ => 2) := by
  refine ⟨fun n K m i xs h => ?_, fun n K m i xs x hx hl hB h0 h1 => ?_⟩
  · rw [laws_markPutS_k0]
    simp only
    rw [tb_neg (ilt_f (by simp only [llen]; omega))]
  · have hi := lt_of_get hx
    rw [laws_markPutS_k0]
    simp only
    rw [tb_pos (ilt_t (by simp only [llen]; omega)), chk_pos (by simp only [llen]; omega), obind_eq (at_some hx), wr64 (n := m + 1) (by omega) (by omega), obind_eq (markText (by omega) (by omega)), chk_pos (by simp only [llen, lset, List.length_set]; omega),
      obind_eq (at_some (x := (m, x.2)) (by simp [lset, hi])), wr64 (by omega) (by omega), wr_succ (by omega)]
    simp [lset, mkPut, Int.add_assoc]
theorem heldPutS_step : HeldStep (laws_heldPutS_k0 fuel) mkPut (fun _ => True) (fun _ => 2) := by
  refine ⟨fun n K m i xs h => ?_, fun n K m i xs x hx hl hB h0 h1 => ?_⟩
  · rw [laws_heldPutS_k0]
    simp only
    rw [tb_neg (ilt_f (by simp only [llen]; omega))]
  · have hi := lt_of_get hx
    rw [laws_heldPutS_k0]
    simp only
    rw [tb_pos (ilt_t (by simp only [llen]; omega)), chk_pos (by omega), obind_eq (at_some hx)]
    simp only [mkPut, ieq_self]
    rw [tb_nt, chk_pos (by omega), obind_eq (at_some hx), wr64 (n := m + 1) (by omega) (by omega), obind_eq (markText (by omega) (by omega))]
    simp only [mkPut, seq_self]
    rw [tb_nt, wr64 (by omega) (by omega), wr_succ (by omega)]
    simp [Int.add_assoc]
abbrev Dk := List ByteArray × List Pt × Unit
def DkB (d : Dk) : Prop := BL (fun v => ByteArray.size v ≤ 140737488351232) d.1 ∧ BL (fun v : Pt => ByteArray.size v.2.1 ≤ 140737488351232) d.2.1
def dkW (d : Dk) : Nat := wL (fun v => ByteArray.size v) d.1 + wL (fun v : Pt => ByteArray.size v.2.1) d.2.1
theorem szDisk : SzOk (fun (d : Dk) s => laws_szDisk ((d.1, d.2.1, ()), s, ())) DkB dkW := by
  intro d s hB h0 h1
  obtain ⟨r, e1, e2⟩ := szStringS d.1 s hB.1 h0 h1
  simp only at e1
  simp only [laws_szDisk, laws_szDisk_k, obind_eq e1]
  rcases e2 with e2 | ⟨e2, e3⟩
  · exact ⟨-1, tb_pos (ilt_t e2) _ _, .inl (by omega)⟩
  · rw [tb_neg (ilt_f e2)]
    obtain ⟨r', g1, g2⟩ := szPutS d.2.1 r hB.2 e2 (by omega)
    simp only at g1
    rw [obind_eq g1]
    simp only
    rcases g2 with g2 | ⟨g2, g3⟩
    · exact ⟨-1, tb_pos (ilt_t g2) _ _, .inl (by omega)⟩
    · exact ⟨r', tb_neg (ilt_f g2) _ _, .inr ⟨g2, by simp only [dkW]; omega⟩⟩
theorem toDisk {d : Dk} (h : dkW d ≤ 1048576) : laws_toDisk ((d.1, d.2.1, ()), ()) = some ((), d, ()) := by
  simp only [dkW, wL] at h
  have e1 := toStringS d.1 ⟨by omega, fun _ _ => trivial⟩
  have e2 := toPutS d.2.1 ⟨by omega, fun _ _ => trivial⟩
  simp only at e1 e2
  simp only [laws_toDisk, laws_toDisk_k, obind_eq e1, obind_eq e2]
theorem eqDisk {d : Dk} (h1 : d.1.length ≤ 140737488351232) (h2 : d.2.1.length ≤ 140737488351232) : laws_eqDisk ((d.1, d.2.1, ()), (d.1, d.2.1, ()), ()) = some ((), true, ()) := by
  have e1 := eqStringS d.1 ⟨h1, fun _ _ => trivial⟩
  have e2 := eqPutS d.2.1 ⟨h2, fun _ _ => trivial⟩
  simp only at e1 e2
  simp only [laws_eqDisk, laws_eqDisk_k, obind_eq e1, obind_eq e2, tb_nt]
theorem sumL_const {α : Type} (c : Nat) : ∀ l : List α, sumL (fun _ => c) l = c * l.length
  | [] => rfl
  | x :: l => by simp only [sumL, sumL_const c l, List.length_cons, Nat.mul_succ]; omega
def mkDk (d : Dk) (m : Int) : Dk × Int := (((marksL mkStr d.1 m).1, (marksL mkPut d.2.1 (marksL mkStr d.1 m).2).1, ()), (marksL mkPut d.2.1 (marksL mkStr d.1 m).2).2)
theorem mkStr_row {l : List ByteArray} {m : Int} (h0 : 0 ≤ m) (h1 : m + l.length ≤ 1099511627776) : m ≤ (marksL mkStr l m).2 ∧ (marksL mkStr l m).2 ≤ m + l.length := by
  have := marksL_le (B := fun _ => True) (w := fun _ => 1) mkStr_le l m (fun _ _ => trivial) h0 (by rw [sumL_const]; omega)
  rw [sumL_const] at this
  omega
theorem mkPut_row {l : List Pt} {m : Int} (h0 : 0 ≤ m) (h1 : m + 2 * l.length ≤ 1099511627776) : m ≤ (marksL mkPut l m).2 ∧ (marksL mkPut l m).2 ≤ m + 2 * l.length := by
  have := marksL_le (B := fun _ => True) (w := fun _ => 2) mkPut_le l m (fun _ _ => trivial) h0 (by rw [sumL_const]; omega)
  rw [sumL_const] at this
  omega
theorem markStringS {l : List ByteArray} {m : Int} (h0 : 0 ≤ m) (hl : l.length ≤ 140737488351232) (h1 : m + l.length ≤ 1099511627776) : laws_markStringS (l, m, ()) = some (((marksL mkStr l m).1, ()), (marksL mkStr l m).2, ()) := by
  have := mark_loop markStringS_step (B := fun _ => True) (w := fun _ => 1) mkStr_le (fun v0 => some ((v0.2.2.1, ()), v0.1.1, ())) l [] m fuel (fun _ _ => trivial) h0 (by rw [sumL_const]; omega) (by simpa using hl) (by have := fuel_gt; omega)
  simpa [laws_markStringS, laws_markStringS_k] using this
theorem markPutS {l : List Pt} {m : Int} (h0 : 0 ≤ m) (hl : l.length ≤ 140737488351232) (h1 : m + 2 * l.length ≤ 1099511627776) : laws_markPutS (l, m, ()) = some (((marksL mkPut l m).1, ()), (marksL mkPut l m).2, ()) := by
  have := mark_loop markPutS_step (B := fun _ => True) (w := fun _ => 2) mkPut_le (fun v0 => some ((v0.2.2.1, ()), v0.1.1, ())) l [] m fuel (fun _ _ => trivial) h0 (by rw [sumL_const]; omega) (by simpa using hl) (by have := fuel_gt; omega)
  simpa [laws_markPutS, laws_markPutS_k] using this
theorem heldStringS {l : List ByteArray} {m : Int} (h0 : 0 ≤ m) (hl : l.length ≤ 140737488351232) (h1 : m + l.length ≤ 1099511627776) : laws_heldStringS ((marksL mkStr l m).1, m, ()) = some ((), (marksL mkStr l m).2, ()) := by
  have := held_loop heldStringS_step (B := fun _ => True) (w := fun _ => 1) mkStr_le (fun v0 => some ((), v0.1.1, ())) l [] m fuel (fun _ _ => trivial) h0 (by rw [sumL_const]; omega) (by simpa using hl) (by have := fuel_gt; omega)
  simpa [laws_heldStringS, laws_heldStringS_k] using this
theorem heldPutS {l : List Pt} {m : Int} (h0 : 0 ≤ m) (hl : l.length ≤ 140737488351232) (h1 : m + 2 * l.length ≤ 1099511627776) : laws_heldPutS ((marksL mkPut l m).1, m, ()) = some ((), (marksL mkPut l m).2, ()) := by
  have := held_loop heldPutS_step (B := fun _ => True) (w := fun _ => 2) mkPut_le (fun v0 => some ((), v0.1.1, ())) l [] m fuel (fun _ _ => trivial) h0 (by rw [sumL_const]; omega) (by simpa using hl) (by have := fuel_gt; omega)
  simpa [laws_heldPutS, laws_heldPutS_k] using this
theorem mkDk_le {d : Dk} {m : Int} (h0 : 0 ≤ m) (h1 : m + d.1.length + 2 * d.2.1.length ≤ 1099511627776) : m ≤ (mkDk d m).2 ∧ (mkDk d m).2 ≤ m + d.1.length + 2 * d.2.1.length := by
  have a := mkStr_row (l := d.1) h0 (by omega)
  have b := mkPut_row (l := d.2.1) (m := (marksL mkStr d.1 m).2) (by omega) (by omega)
  simp only [mkDk]; omega
theorem markDisk {d : Dk} {m : Int} (h0 : 0 ≤ m) (hl : d.1.length ≤ 140737488351232) (hl' : d.2.1.length ≤ 140737488351232) (h1 : m + d.1.length + 2 * d.2.1.length ≤ 1099511627776) : laws_markDisk ((d.1, d.2.1, ()), m, ()) = some (((mkDk d m).1, ()), (mkDk d m).2, ()) := by
  have a := mkStr_row (l := d.1) h0 (by omega)
  simp only [laws_markDisk, laws_markDisk_k, obind_eq (markStringS (l := d.1) h0 hl (by omega)), obind_eq (markPutS (l := d.2.1) (m := (marksL mkStr d.1 m).2) (by omega) hl' (by omega))]
  rfl
theorem heldDisk {d : Dk} {m : Int} (h0 : 0 ≤ m) (hl : d.1.length ≤ 140737488351232) (hl' : d.2.1.length ≤ 140737488351232) (h1 : m + d.1.length + 2 * d.2.1.length ≤ 1099511627776) : laws_heldDisk (((mkDk d m).1.1, (mkDk d m).1.2.1, ()), m, ()) = some ((), (mkDk d m).2, ()) := by
  have a := mkStr_row (l := d.1) h0 (by omega)
  have b := mkPut_row (l := d.2.1) (m := (marksL mkStr d.1 m).2) (by omega) (by omega)
  simp only [laws_heldDisk, laws_heldDisk_k, mkDk]
  rw [obind_eq (heldStringS (l := d.1) h0 hl (by omega))]
  simp only
  rw [tb_neg (ilt_f (by omega)), obind_eq (heldPutS (l := d.2.1) (m := (marksL mkStr d.1 m).2) (by omega) hl' (by omega))]
  simp only
  rw [tb_neg (ilt_f (by omega))]
end Go.Proofs.Ytaakhgjlekllgaa.V
namespace Go.Proofs.Ytaakhgjlekllgaa.V
open Go Go.RowKit
def numF : Nat → Nat → List Int
  | 0, _ => []
  | n + 1, x => if 127 < x then ((x % 128 + 128 : Nat) : Int) :: numF n (x / 128) else [(x : Int)]
def numForm (x : Nat) : List Int := numF 10 x
theorem numF_length : ∀ n x, (numF n x).length ≤ n
  | 0, _ => by simp [numF]
  | n + 1, x => by
    unfold numF
    split
    · have := numF_length n (x / 128); simp; omega
    · simp
theorem numF_pos : ∀ n x, 1 ≤ (numF (n + 1) x).length := by
  intro n x
  unfold numF
  split <;> simp
theorem numF_range : ∀ n x, ∀ y ∈ numF n x, 0 ≤ y ∧ y ≤ 255
  | 0, _ => by simp [numF]
  | n + 1, x => by
    unfold numF
    intro y hy
    split at hy
    · rcases List.mem_cons.1 hy with h | h
      · omega
      · exact numF_range n _ y h
    · have : y = x := by simpa using hy
      omega
theorem numForm_length (x : Nat) : (numForm x).length ≤ 10 := numF_length 10 x
theorem numForm_range (x : Nat) : ∀ y ∈ numForm x, 0 ≤ y ∧ y ≤ 255 := numF_range 10 x
theorem and127 {x : Nat} (h : x ≤ 9223372036854775807) : bandK .i64 (x : Int) 127 = ((x % 128 : Nat) : Int) := by
  have := Go.bits_mask .i64 63 (by decide) (fun n a b => by rw [IntKind.wrap_i64]; omega) 7 (by decide) (x : Int) (by omega) (by omega)
  have e : Go.bits .and .i64 (x : Int) 127 = bandK .i64 (x : Int) 127 := rfl
  rw [← e]
  simpa using this
theorem or128 : ∀ m : Fin 128, borK .i64 128 (m.val : Int) = ((m.val + 128 : Nat) : Int) := by
  have : ∀ m : Fin 128, Go.bits .or .i64 128 (m.val : Int) = ((m.val + 128 : Nat) : Int) := by decide +kernel
  exact this
theorem shr7 (x : Nat) : shrK .i64 (x : Int) 7 = ((x / 128 : Nat) : Int) := by
  show Int.fdiv (x : Int) (2 ^ 7) = _
  rw [Int.fdiv_eq_ediv_of_nonneg _ (by decide)]
  omega
theorem num_loops : ∀ (n x : Nat) (acc : List Int) (m : Nat), 1 ≤ n → x < 128 ^ n → n ≤ 10 → x ≤ 9223372036854775807 → acc.length + n < 140737488355328 → n ≤ m →
    (∀ K : (Int × Unit) × Unit × List Int × Unit → Option (Unit × List Int × Unit), (∀ y zs, K ((y, ()), (), zs, ()) = chk ((plus (llen zs) (llen [wr .u8 y])) ≤ 140737488355328) (some ((), lapp zs [wr .u8 y], ())) none) →
      spec_PutNum_k0 fuel m K (((x : Int), ()), (), acc, ()) = some ((), acc ++ numF n x, ()) ∧ impl_putNum_k0 fuel m K (((x : Int), ()), (), acc, ()) = some ((), acc ++ numF n x, ())) := by
  intro n
  induction n with
  | zero =>
    intro x acc m h0
    omega
  | succ n ih =>
    intro x acc m _ h h10 hx hl hm K hK
    obtain ⟨m, rfl⟩ : ∃ k, m = k + 1 := ⟨m - 1, by omega⟩
    rw [spec_PutNum_k0, impl_putNum_k0]
    simp only
    by_cases h127 : 127 < x
    · have hd : x / 128 < 128 ^ n := by
        rw [Nat.div_lt_iff_lt_mul (by decide)]
        rwa [Nat.pow_succ] at h
      have hn1 : 1 ≤ n := by
        rcases Nat.eq_zero_or_pos n with h0 | h0
        · subst h0
          have : x < 128 := by simpa using h
          omega
        · exact h0
      obtain ⟨i1, i2⟩ := ih (x / 128) (acc ++ [((x % 128 + 128 : Nat) : Int)]) m hn1 hd (by omega) (by omega) (by simp; omega) (by omega) K hK
      have e : numF (n + 1) x = ((x % 128 + 128 : Nat) : Int) :: numF n (x / 128) := by rw [numF, if_pos h127]
      rw [e]
      rw [List.append_assoc, List.singleton_append] at i1 i2
      have e1 : wr .i64 (Int.tdiv (x : Int) 128) = ((x / 128 : Nat) : Int) := by
        rw [Int.tdiv_eq_ediv_of_nonneg (by omega), wr64 (by omega) (by omega)]; omega
      have e2 : wr .u8 (wr .i64 ((Int.tmod (x : Int) 128) + 128)) = ((x % 128 + 128 : Nat) : Int) := by
        rw [Int.tmod_eq_emod_of_nonneg (by omega), wr64 (by omega) (by omega), wr8 (by omega) (by omega)]; omega
      have e3 : wr .u8 (borK .i64 128 (bandK .i64 (x : Int) 127)) = ((x % 128 + 128 : Nat) : Int) := by
        rw [and127 hx, or128 ⟨x % 128, Nat.mod_lt _ (by decide)⟩, wr8 (by omega) (by simp only; omega)]
      rw [tb_pos (ilt_t (by omega)), tb_pos (ilt_t (by omega)), e1, e2, e3, shr7]
      refine ⟨?_, ?_⟩
      · rw [chk_neg (by decide), chk_pos (by simp [plus, llen]; omega), chk_neg (by decide)]; exact i1
      · rw [chk_pos (by simp [plus, llen]; omega), chk_neg (by decide)]; exact i2
    · have e : numF (n + 1) x = [(x : Int)] := by rw [numF, if_neg h127]
      rw [e, tb_neg (ilt_f (by omega)), tb_neg (ilt_f (by omega)), hK, wr8 (by omega) (by omega), chk_pos (by simp [plus, llen]; omega)]
      exact ⟨rfl, rfl⟩
theorem spec_num {x : Nat} (hx : x ≤ 9223372036854775807) : spec_PutNum ((x : Int), ()) = some ((), numForm x, ()) := by
  simp only [spec_PutNum, spec_PutNum_k]
  rw [tb_neg (ilt_f (by omega))]
  exact (num_loops 10 x [] fuel (by omega) (by simp; omega) (by omega) hx (by simp) (by unfold fuel; omega) _ (fun _ _ => rfl)).1
theorem impl_num {x : Nat} (acc : List Int) (hx : x ≤ 9223372036854775807) (hl : acc.length ≤ 140737488355000) : impl_putNum (acc, (x : Int), ()) = some ((), acc ++ numForm x, ()) := by
  simp only [impl_putNum, impl_putNum_k]
  exact (num_loops 10 x acc fuel (by omega) (by simp; omega) (by omega) hx (by omega) (by unfold fuel; omega) _ (fun _ _ => rfl)).2
theorem in_eq (a b c : Int) : (tb (ile b a) (some ((), ile a c, ())) (some ((), false, ()))) = some ((), decide (b ≤ a ∧ a ≤ c), ()) := by
  by_cases h : b ≤ a
  · rw [tb_pos (ile_t h)]; simp [ile, h]
  · rw [tb_neg (ile_f (by omega))]; simp [h]
theorem spec_in (a b c : Int) : spec_l1In (a, b, c, ()) = some ((), decide (b ≤ a ∧ a ≤ c), ()) := in_eq a b c
theorem impl_in (a b c : Int) : impl_inRange (a, b, c, ()) = some ((), decide (b ≤ a ∧ a ≤ c), ()) := in_eq a b c
end Go.Proofs.Ytaakhgjlekllgaa.V
namespace Go.Proofs.Ytaakhgjlekllgaa.V
open Go Go.RowKit
abbrev Hd := Int × Int × Int × Unit
def headRight (a b c : Int) : Bool := decide ((1 ≤ a ∧ a ≤ 1000000000) ∧ (0 ≤ b ∧ b ≤ 1) ∧ (0 ≤ c ∧ c ≤ 4096))
theorem spec_right (a b c : Int) : spec_l16Right ((a, b, c, ()), ()) = some ((), headRight a b c, ()) := by
  simp only [spec_l16Right, spec_l16Right_k, spec_in, obind_some]
  by_cases h1 : 1 ≤ a ∧ a ≤ 1000000000
  · rw [tb_pos (by simpa using h1)]
    by_cases h2 : 0 ≤ b ∧ b ≤ 1
    · rw [tb_pos (by simpa using h2)]; simp [headRight, h1, h2]
    · rw [tb_neg (by simpa using h2)]; simp [headRight, h2]
  · rw [tb_neg (by simpa using h1)]; simp [headRight, h1]
theorem impl_right (a b c : Int) : impl_headOk ((a, b, c, ()), ()) = some ((), headRight a b c, ()) := by
  simp only [impl_headOk, impl_headOk_k, impl_isArea, impl_isArea_k, impl_in, obind_some]
  by_cases h1 : 1 ≤ a ∧ a ≤ 1000000000
  · rw [tb_pos (by simpa using h1)]
    by_cases hb : b = 0
    · rw [tb_pos (ieq_t hb), obind_some, tb_t]; simp [headRight, h1, hb]
    · rw [tb_neg (ieq_f hb), obind_some]
      by_cases hb1 : b = 1
      · rw [ieq_t hb1, tb_t]; simp [headRight, h1, hb1]
      · rw [ieq_f hb1, tb_f]
        have : ¬ (0 ≤ b ∧ b ≤ 1) := by omega
        simp [headRight, this]
  · rw [tb_neg (by simpa using h1)]; simp [headRight, h1]
def headBytes (a b c : Int) : List Int := numForm a.toNat ++ numForm b.toNat ++ numForm c.toNat
theorem headBytes_length (a b c : Int) : (headBytes a b c).length ≤ 30 := by
  have h1 := numForm_length a.toNat
  have h2 := numForm_length b.toNat
  have h3 := numForm_length c.toNat
  simp [headBytes]; omega
def headText (a b c : Int) : ByteArray := strOf (headBytes a b c ++ List.replicate (64 - (headBytes a b c).length) 0)
theorem headText_size (a b c : Int) : (headText a b c).size = 64 := by
  have := headBytes_length a b c
  simp only [headText, strOf_size, List.length_append, List.length_replicate]; omega
theorem pad {K : Unit × Unit × List Int × Unit → Option (Unit × ByteArray × Bool × Unit)} : ∀ (d : Nat) (acc : List Int) (m : Nat), acc.length + d = 64 → d < m → spec_HeadPack_k0 fuel m K ((), (), acc, ()) = K ((), (), acc ++ List.replicate d 0, ()) := by
  intro d
  induction d with
  | zero =>
    intro acc m h hm
    obtain ⟨m, rfl⟩ : ∃ k, m = k + 1 := ⟨m - 1, by omega⟩
    rw [spec_HeadPack_k0]
    simp only
    rw [tb_neg (ilt_f (by simp only [llen]; omega))]
    simp
  | succ d ih =>
    intro acc m h hm
    obtain ⟨m, rfl⟩ : ∃ k, m = k + 1 := ⟨m - 1, by omega⟩
    rw [spec_HeadPack_k0]
    simp only
    rw [tb_pos (ilt_t (by simp only [llen]; omega)), chk_pos (by simp [plus, llen]; omega)]
    have := ih (acc ++ [0]) m (by simp; omega) (by omega)
    rw [List.append_assoc, List.singleton_append, ← List.replicate_succ] at this
    exact this
theorem spec_head {a b c : Int} (h : headRight a b c = true) : spec_HeadPack ((a, b, c, ()), ()) = some ((), headText a b c, true, ()) := by
  have hr : (1 ≤ a ∧ a ≤ 1000000000) ∧ (0 ≤ b ∧ b ≤ 1) ∧ (0 ≤ c ∧ c ≤ 4096) := by simpa [headRight] using h
  have ha := spec_num (x := a.toNat) (by omega)
  have hb := spec_num (x := b.toNat) (by omega)
  have hc := spec_num (x := c.toNat) (by omega)
  rw [Int.toNat_of_nonneg (by omega)] at ha hb hc
  have h1 := numForm_length a.toNat
  have h2 := numForm_length b.toNat
  have h3 := numForm_length c.toNat
  have hl := headBytes_length a b c
  simp only [spec_HeadPack, spec_HeadPack_k, spec_right, obind_some, h, tb_nt, ha, hb, hc]
  rw [chk_pos (by simp only [plus, llen]; omega), chk_pos (by simp only [plus, llen, lapp, List.length_append]; omega)]
  exact pad (64 - (headBytes a b c).length) (headBytes a b c) fuel (by omega) (by unfold fuel; omega)
theorem spec_head_bad {a b c : Int} (h : headRight a b c = false) : spec_HeadPack ((a, b, c, ()), ()) = some ((), ⟨#[]⟩, false, ()) := by
  simp only [spec_HeadPack, spec_HeadPack_k, spec_right, obind_some, h, tb_nf]
theorem zeros (n : Nat) : (⟨(Lib.repeatL [0] n).toArray⟩ : ByteArray) = strOf (List.replicate n 0) := by
  apply ByteArray.ext
  show (Lib.repeatL [0] n).toArray = ((List.replicate n (0 : Int)).map fun n => UInt8.ofNat n.toNat).toArray
  congr 1
  induction n with
  | zero => rfl
  | succ n ih => simp only [Lib.repeatL, ih, List.replicate_succ, List.map_cons]; rfl
theorem repeat0 {n : Nat} (h : n ≤ 140737488355328) : strings_Repeat ((⟨#[0]⟩ : ByteArray), (n : Int), ()) = some ((), strOf (List.replicate n 0), ()) := by
  show repeatF _ = _
  unfold repeatF
  rw [if_pos ⟨by show (0 : Int) ≤ (n : Int); omega, by show (n : Int) ≤ 9223372036854775807; omega, by show ((1 : Nat) : Int) * (n : Int) ≤ _; omega⟩]
  rw [show (((⟨#[0]⟩ : ByteArray), (n : Int), ()) : ByteArray × Int × Unit).2.1.toNat = n by simp]
  exact congrArg (fun x => some ((), x, ())) (zeros n)
theorem impl_head {a b c : Int} (h : headRight a b c = true) : impl_HeadPack ((a, b, c, ()), ()) = some ((), headText a b c, true, ()) := by
  have hr : (1 ≤ a ∧ a ≤ 1000000000) ∧ (0 ≤ b ∧ b ≤ 1) ∧ (0 ≤ c ∧ c ≤ 4096) := by simpa [headRight] using h
  have h1 := numForm_length a.toNat
  have h2 := numForm_length b.toNat
  have h3 := numForm_length c.toNat
  have hl := headBytes_length a b c
  have ha := impl_num (x := a.toNat) [] (by omega) (by simp)
  have hb := impl_num (x := b.toNat) ([] ++ numForm a.toNat) (by omega) (by simp; omega)
  have hc := impl_num (x := c.toNat) ([] ++ numForm a.toNat ++ numForm b.toNat) (by omega) (by simp; omega)
  rw [Int.toNat_of_nonneg (by omega)] at ha hb hc
  rw [show ([] ++ numForm a.toNat ++ numForm b.toNat ++ numForm c.toNat) = headBytes a b c by simp [headBytes]] at hc
  have hw : wr .i64 (64 - ((headBytes a b c).length : Int)) = ((64 - (headBytes a b c).length : Nat) : Int) := by
    rw [wr64 (by omega) (by omega)]; omega
  simp only [impl_HeadPack, impl_HeadPack_k, impl_right, obind_some, h, tb_nt, ha, hb, hc]
  simp only [llen, hw]
  rw [obind_eq (repeat0 (by omega))]
  simp only
  rw [chk_pos (by simp only [plus, slen, slim, strOf_size, List.length_replicate]; omega)]
  simp only [sapp, strOf_append]
  rfl
theorem impl_head_bad {a b c : Int} (h : headRight a b c = false) : impl_HeadPack ((a, b, c, ()), ()) = some ((), ⟨#[]⟩, false, ()) := by
  simp only [impl_HeadPack, impl_HeadPack_k, impl_right, obind_some, h, tb_nf]
def secOk (v : ByteArray) : Bool := ieq ((slen v : Nat) : Int) 64
def putOk (v : Pt) : Bool := decide (0 ≤ v.1 ∧ v.1 ≤ 129) && ieq ((slen v.2.1 : Nat) : Int) 64
def diskOk (d : Dk) : Bool := ieq ((llen d.1 : Nat) : Int) 130 && (ile ((llen d.2.1 : Nat) : Int) 200 && (d.1.all secOk && d.2.1.all putOk))
theorem spec_sector (x : Int) : spec_l15Sector (x, ()) = some ((), decide (0 ≤ x ∧ x ≤ 129), ()) := by
  simp only [spec_l15Sector, spec_l15Sector_k, spec_in, obind_some]
theorem impl_sector (x : Int) : impl_isSector (x, ()) = some ((), decide (0 ≤ x ∧ x ≤ 129), ()) := by
  simp only [impl_isSector, impl_isSector_k, impl_in, obind_some]
theorem spec_ok0 {K} (d : Dk) (hl : d.1.length ≤ 140737488351232) : spec_DiskOk_k0 fuel fuel K ((0, ()), ((d.1, d.2.1, ()), ()), ()) = if d.1.all secOk = true then K ((), ((d.1, d.2.1, ()), ()), ()) else some ((), false, ()) := by
  refine all_loop (k := fun n s => spec_DiskOk_k0 fuel n K s) (fun i => (((i : Int), ()), ((d.1, d.2.1, ()), ()), ())) _ _ secOk d.1 (fun n => ?_) (fun n i x hx => ?_) d.1 [] fuel rfl (by have := fuel_gt; omega)
  · rw [spec_DiskOk_k0]
    simp only
    rw [tb_neg (ilt_f (by simp only [llen]; omega))]
  · have hi := lt_of_get hx
    rw [spec_DiskOk_k0]
    simp only
    rw [tb_pos (ilt_t (by simp only [llen]; omega)), chk_pos (by omega), obind_eq (at_some hx), wr_succ (by omega)]
    show tb (bnot (secOk x)) _ _ = _
    cases secOk x <;> rfl
theorem spec_ok2 {K} (d : Dk) (hl : d.2.1.length ≤ 140737488351232) : spec_DiskOk_k2 fuel fuel K ((0, ()), ((d.1, d.2.1, ()), ()), ()) = if d.2.1.all putOk = true then K ((), (), ()) else some ((), false, ()) := by
  refine all_loop (k := fun n s => spec_DiskOk_k2 fuel n K s) (fun i => (((i : Int), ()), ((d.1, d.2.1, ()), ()), ())) _ _ putOk d.2.1 (fun n => ?_) (fun n i x hx => ?_) d.2.1 [] fuel rfl (by have := fuel_gt; omega)
  · rw [spec_DiskOk_k2]
    simp only
    rw [tb_neg (ilt_f (by simp only [llen]; omega))]
  · have hi := lt_of_get hx
    rw [spec_DiskOk_k2]
    simp only
    rw [tb_pos (ilt_t (by simp only [llen]; omega)), chk_pos (by omega), obind_eq (at_some hx), obind_eq (spec_sector _), chk_pos (by omega), obind_eq (at_some hx), wr_succ (by omega)]
    rw [show putOk x = (decide (0 ≤ x.1 ∧ x.1 ≤ 129) && ieq ((slen x.2.1 : Nat) : Int) 64) from rfl]
    simp only
    cases decide (0 ≤ x.1 ∧ x.1 ≤ 129)
    · rfl
    · rw [tb_nt]
      cases ieq ((slen x.2.1 : Nat) : Int) 64 <;> rfl
theorem spec_ok (d : Dk) (hl : d.1.length ≤ 140737488351232) (hl' : d.2.1.length ≤ 140737488351232) : spec_DiskOk ((d.1, d.2.1, ()), ()) = some ((), diskOk d, ()) := by
  simp only [spec_DiskOk, spec_DiskOk_k, diskOk]
  cases ieq ((llen d.1 : Nat) : Int) 130
  · rfl
  rw [tb_nt]
  by_cases h2 : (d.2.1.length : Int) ≤ 200
  rotate_left
  · rw [tb_pos (ilt_t (by simp only [llen]; omega)), ile_f (by simp only [llen]; omega)]; rfl
  rw [tb_neg (ilt_f (by simp only [llen]; omega)), ile_t (by simp only [llen]; omega), spec_ok0 d hl]
  cases d.1.all secOk
  · rfl
  rw [if_pos rfl, spec_ok2 d hl']
  cases d.2.1.all putOk <;> rfl
theorem impl_ok0 {K} (d : Dk) (hl : d.1.length ≤ 140737488351232) : impl_DiskOk_k0 fuel fuel K ((d.1, ((llen d.1 : Nat) : Int), 0, ()), ((d.1, d.2.1, ()), ()), ()) = if d.1.all secOk = true then K ((), ((d.1, d.2.1, ()), ()), ()) else some ((), false, ()) := by
  refine all_loop (k := fun n s => impl_DiskOk_k0 fuel n K s) (fun i => ((d.1, ((llen d.1 : Nat) : Int), (i : Int), ()), ((d.1, d.2.1, ()), ()), ())) _ _ secOk d.1 (fun n => ?_) (fun n i x hx => ?_) d.1 [] fuel rfl (by have := fuel_gt; omega)
  · rw [impl_DiskOk_k0]
    simp only
    rw [tb_neg (ilt_f (by simp only [llen]; omega))]
  · have hi := lt_of_get hx
    rw [impl_DiskOk_k0]
    simp only
    rw [tb_pos (ilt_t (by simp only [llen]; omega)), chk_pos (by omega), obind_eq (at_some hx), wr_succ (by omega)]
    show tb (bnot (secOk x)) _ _ = _
    cases secOk x <;> rfl
theorem impl_ok2 {K} (d : Dk) (hl : d.2.1.length ≤ 140737488351232) : impl_DiskOk_k2 fuel fuel K ((d.2.1, ((llen d.2.1 : Nat) : Int), 0, ()), ((d.1, d.2.1, ()), ()), ()) = if d.2.1.all putOk = true then K ((), ((d.1, d.2.1, ()), ()), ()) else some ((), false, ()) := by
  refine all_loop (k := fun n s => impl_DiskOk_k2 fuel n K s) (fun i => ((d.2.1, ((llen d.2.1 : Nat) : Int), (i : Int), ()), ((d.1, d.2.1, ()), ()), ())) _ _ putOk d.2.1 (fun n => ?_) (fun n i x hx => ?_) d.2.1 [] fuel rfl (by have := fuel_gt; omega)
  · rw [impl_DiskOk_k2]
    simp only
    rw [tb_neg (ilt_f (by simp only [llen]; omega))]
  · have hi := lt_of_get hx
    rw [impl_DiskOk_k2]
    simp only
    rw [tb_pos (ilt_t (by simp only [llen]; omega)), chk_pos (by omega), obind_eq (at_some hx), obind_eq (impl_sector _), wr_succ (by omega)]
    rw [show putOk x = (decide (0 ≤ x.1 ∧ x.1 ≤ 129) && ieq ((slen x.2.1 : Nat) : Int) 64) from rfl]
    simp only
    cases decide (0 ≤ x.1 ∧ x.1 ≤ 129)
    · rfl
    · rw [tb_nt]
      cases ieq ((slen x.2.1 : Nat) : Int) 64 <;> rfl
theorem impl_ok (d : Dk) (hl : d.1.length ≤ 140737488351232) (hl' : d.2.1.length ≤ 140737488351232) : impl_DiskOk ((d.1, d.2.1, ()), ()) = some ((), diskOk d, ()) := by
  simp only [impl_DiskOk, impl_DiskOk_k, diskOk]
  rw [impl_ok0 d hl]
  cases d.1.all secOk
  · simp
  rw [if_pos rfl]
  simp only
  rw [impl_ok2 d hl']
  cases d.2.1.all putOk
  · simp
  rw [if_pos rfl]
  cases ieq ((llen d.1 : Nat) : Int) 130
  · rfl
  · rw [tb_t]; simp
end Go.Proofs.Ytaakhgjlekllgaa.V
namespace Go.Proofs.Ytaakhgjlekllgaa.V
open Go Go.RowKit
def dkSmall (d : Dk) : Prop := d.1.length ≤ 1048576 ∧ d.2.1.length ≤ 1048576
theorem dkSmall_of {d : Dk} (h : dkW d ≤ 1048576) : dkSmall d := by simp only [dkW, wL] at h; exact ⟨by omega, by omega⟩
theorem spec_copy {d : Dk} (h : dkSmall d) : spec_l15Copy ((d.1, d.2.1, ()), ()) = some ((), d, ()) := by
  simp only [spec_l15Copy, spec_l15Copy_k]
  rw [chk_pos (by simp only [plus, llen]; have := h.1; omega), chk_pos (by simp only [plus, llen]; have := h.2; omega)]
  rfl
theorem clone_str {l : List ByteArray} (h : l.length ≤ 1048576) : slices_Clone_string (l, ()) = some ((), l, ()) := by
  simp only [slices_Clone_string, slices_Clone_string_k]
  rw [chk_pos (by simp only [plus, llen]; omega)]
  cases l with
  | nil => exact agree_same _ _
  | cons x l => rfl
theorem clone_put {l : List Pt} (h : l.length ≤ 1048576) : slices_Clone_Put (l, ()) = some ((), l, ()) := by
  simp only [slices_Clone_Put, slices_Clone_Put_k]
  rw [chk_pos (by simp only [plus, llen]; omega)]
  cases l with
  | nil => exact agree_same _ _
  | cons x l => rfl
theorem impl_copy {d : Dk} (h : dkSmall d) : impl_copyDisk ((d.1, d.2.1, ()), ()) = some ((), d, ()) := by
  simp only [impl_copyDisk, impl_copyDisk_k, clone_str h.1, clone_put h.2, obind_some]
def putF (d : Dk) (at' : Int) (t : ByteArray) : Dk × Bool :=
  if 0 ≤ at' ∧ at' ≤ 129 ∧ t.size = 64 ∧ d.2.1.length < 200 then ((d.1, d.2.1 ++ [(at', t, ())], ()), true) else (d, false)
theorem spec_put {d : Dk} {at' : Int} {t : ByteArray} (hs : dkSmall d) (hd : diskOk d = true) : spec_DiskPut ((d.1, d.2.1, ()), at', t, ()) = some ((), (putF d at' t).1, (putF d at' t).2, ()) := by
  have hn : d.2.1.length ≤ 200 := by
    simp only [diskOk, Bool.and_eq_true] at hd
    have : ((d.2.1.length : Nat) : Int) ≤ 200 := of_decide_eq_true hd.2.1
    omega
  simp only [spec_DiskPut, spec_DiskPut_k, spec_ok d (by have := hs.1; omega) (by have := hs.2; omega), obind_some, hd, tb_nt, spec_copy hs, spec_sector]
  unfold putF
  by_cases h1 : 0 ≤ at' ∧ at' ≤ 129
  rotate_left
  · rw [tb_pos (by simp [bnot, h1]), if_neg (fun q => h1 ⟨q.1, q.2.1⟩)]
  rw [tb_neg (by simp [bnot, h1])]
  by_cases h2 : t.size = 64
  rotate_left
  · rw [ieq_f (by simp only [slen]; omega), tb_nf, if_neg (fun q => h2 q.2.2.1)]
  rw [ieq_t (by simp only [slen]; omega), tb_nt]
  by_cases h3 : d.2.1.length < 200
  rotate_left
  · rw [tb_pos (ieq_t (by simp only [llen]; omega)), if_neg (fun q => h3 q.2.2.2)]
  rw [tb_neg (ieq_f (by simp only [llen]; omega)), chk_pos (by simp [plus, llen]; omega), if_pos ⟨h1.1, h1.2, h2, h3⟩]
  rfl
theorem impl_put {d : Dk} {at' : Int} {t : ByteArray} (hs : dkSmall d) : impl_Disk_put ((d.1, d.2.1, ()), at', t, ()) = some (((putF d at' t).1, ()), (putF d at' t).2, ()) := by
  simp only [impl_Disk_put, impl_Disk_put_k, obind_some, impl_sector]
  unfold putF
  by_cases h1 : 0 ≤ at' ∧ at' ≤ 129
  rotate_left
  · rw [tb_pos (by simp [bnot, h1]), if_neg (fun q => h1 ⟨q.1, q.2.1⟩)]
  rw [tb_neg (by simp [bnot, h1])]
  by_cases h2 : t.size = 64
  rotate_left
  · rw [ieq_f (by simp only [slen]; omega), tb_nf, if_neg (fun q => h2 q.2.2.1)]
  rw [ieq_t (by simp only [slen]; omega), tb_nt]
  by_cases h3 : d.2.1.length < 200
  rotate_left
  · rw [tb_pos (ile_t (by simp only [llen]; omega)), if_neg (fun q => h3 q.2.2.2)]
  rw [tb_neg (ile_f (by simp only [llen]; omega)), chk_pos (by have := hs.2; simp [plus, llen]; omega), if_pos ⟨h1.1, h1.2, h2, h3⟩]
  rfl
theorem putF_small {d : Dk} {at' : Int} {t : ByteArray} (hs : dkSmall d) : (putF d at' t).1.1.length ≤ 1048577 ∧ (putF d at' t).1.2.1.length ≤ 1048577 := by
  unfold putF
  have h1 := hs.1
  have h2 := hs.2
  split
  · simp; omega
  · constructor <;> simp only <;> omega
def headPutF (d : Dk) (h : Hd) : Dk × Bool :=
  if diskOk d = true then (if headRight h.1 h.2.1 h.2.2.1 = true then putF d (Int.tmod h.1 2) (headText h.1 h.2.1 h.2.2.1) else (d, false)) else (([], [], ()), false)
theorem spec_headPut {d : Dk} {h : Hd} (hs : dkSmall d) : spec_HeadPut ((d.1, d.2.1, ()), (h.1, h.2.1, h.2.2.1, ()), ()) = some ((), (headPutF d h).1, (headPutF d h).2, ()) := by
  simp only [spec_HeadPut, spec_HeadPut_k, spec_ok d (by have := hs.1; omega) (by have := hs.2; omega), obind_some]
  unfold headPutF
  cases hd : diskOk d
  · rfl
  rw [tb_nt, if_pos rfl]
  cases hr : headRight h.1 h.2.1 h.2.2.1
  · rw [spec_head_bad hr, obind_some]
    simp only [tb_nf, spec_copy hs, obind_some]
    rfl
  · rw [spec_head hr, obind_some]
    simp only [tb_nt]
    rw [chk_neg (by decide), spec_put hs hd, obind_some]
    rfl
theorem impl_headPut {d : Dk} {h : Hd} (hs : dkSmall d) : impl_HeadPut ((d.1, d.2.1, ()), (h.1, h.2.1, h.2.2.1, ()), ()) = some ((), (headPutF d h).1, (headPutF d h).2, ()) := by
  simp only [impl_HeadPut, impl_HeadPut_k, impl_ok d (by have := hs.1; omega) (by have := hs.2; omega), obind_some]
  unfold headPutF
  cases hd : diskOk d
  · rfl
  rw [tb_nt, if_pos rfl, impl_copy hs, obind_some]
  simp only [impl_Disk_putHead, impl_Disk_putHead_k]
  cases hr : headRight h.1 h.2.1 h.2.2.1
  · rw [impl_head_bad hr, obind_some]
    simp only [tb_f, obind_some]
    rfl
  · rw [impl_head hr, obind_some]
    simp only [tb_t]
    rw [chk_neg (by decide), impl_put hs, obind_some, obind_some]
    rfl
theorem headPutF_small {d : Dk} {h : Hd} (hs : dkSmall d) : (headPutF d h).1.1.length ≤ 1048577 ∧ (headPutF d h).1.2.1.length ≤ 1048577 := by
  have h1 := hs.1
  have h2 := hs.2
  unfold headPutF
  split
  · split
    · exact putF_small hs
    · constructor <;> simp only <;> omega
  · constructor <;> simp
theorem bnd_dk {d : Dk} (h : Bnd S51 d) : DkB d := ⟨⟨h.1.1, h.1.2⟩, ⟨h.2.1.1, fun x hx => (h.2.1.2 x hx).2.1⟩⟩
theorem FnExactHeadPut_pure (x0 : ((List ByteArray) × (List (Int × ByteArray × Unit)) × Unit)) (x1 : (Int × Int × Int × Unit)) (h0 : Bnd S51 x0) (h1 : Bnd S73 x1) : laws_FnExactHeadPut (x0, x1, ()) = some ((), true, ()) := by
  obtain ⟨r, e1, e2⟩ := szDisk x0 1048576 (bnd_dk h0) (by omega) (by omega)
  simp only at e1
  simp only [laws_FnExactHeadPut, laws_FnExactHeadPut_k, obind_eq e1]
  rcases e2 with e2 | ⟨e2, e3⟩
  · exact tb_pos (ilt_t e2) _ _
  have hw : dkW x0 ≤ 1048576 := by omega
  have hs := dkSmall_of hw
  have hr := headPutF_small (h := x1) hs
  have hm := mkDk_le (d := x0) (m := 1) (by omega) (by have := hs.1; have := hs.2; omega)
  have hm' := mkDk_le (d := (headPutF x0 x1).1) (m := 1) (by omega) (by have := hr.1; have := hr.2; omega)
  have t1 : laws_toDisk ((x0.1, x0.2.1, ()), ()) = some ((), x0, ()) := toDisk hw
  have t2 : laws_toHead ((x1.1, x1.2.1, x1.2.2.1, ()), ()) = some ((), x1, ()) := rfl
  have t3 := eqDisk (d := x0) (by have := hs.1; omega) (by have := hs.2; omega)
  have t4 := eqDisk (d := (headPutF x0 x1).1) (by have := hr.1; omega) (by have := hr.2; omega)
  have t5 := markDisk (d := x0) (m := 1) (by omega) (by have := hs.1; omega) (by have := hs.2; omega) (by have := hs.1; have := hs.2; omega)
  have t6 := markDisk (d := (headPutF x0 x1).1) (m := 1) (by omega) (by have := hr.1; omega) (by have := hr.2; omega) (by have := hr.1; have := hr.2; omega)
  have t7 := heldDisk (d := (headPutF x0 x1).1) (m := 1) (by omega) (by have := hr.1; omega) (by have := hr.2; omega) (by have := hr.1; have := hr.2; omega)
  rw [tb_neg (ilt_f e2)]
  simp only [t1, t2, obind_some, spec_headPut (h := x1) hs, impl_headPut (h := x1) hs, t3, t4, t5, t6, t7, tb_nt, beq_self, ieq_self, ilt_f (show (0 : Int) ≤ (mkDk x0 1).2 by omega), ilt_f (show (0 : Int) ≤ (mkDk (headPutF x0 x1).1 1).2 by omega), tb_f]
end Go.Proofs.Ytaakhgjlekllgaa.V
namespace Go.Proofs.Ytaakhgjlekllgaa.V
open Go Go.RowKit
attribute [local irreducible] wr
def secF (d : Dk) (at' : Int) : ByteArray := match d.2.1.reverse.find? (fun p => ieq p.1 at') with | some p => p.2.1 | none => (d.1[at'.toNat]?).getD ⟨#[]⟩
theorem find_step {d : Dk} {at' : Int} {n : Nat} {x : Pt} (h : d.2.1[n]? = some x) : (d.2.1.take (n + 1)).reverse.find? (fun p => ieq p.1 at') = if ieq x.1 at' = true then some x else (d.2.1.take n).reverse.find? (fun p => ieq p.1 at') := by
  have : d.2.1.take (n + 1) = d.2.1.take n ++ [x] := by
    rw [List.take_add_one, h]; rfl
  rw [this, List.reverse_append]
  simp only [List.reverse_singleton, List.cons_append, List.nil_append, List.find?_cons]
  cases ieq x.1 at' <;> rfl
theorem spec_sec0 {K} {d : Dk} {at' : Int} (hl : d.2.1.length ≤ 140737488351232) : ∀ (n m : Nat), n ≤ d.2.1.length → n < m → spec_l15Of_k0 fuel m K ((at', (n : Int) - 1, ()), ((d.1, d.2.1, ()), ()), ()) = match (d.2.1.take n).reverse.find? (fun p => ieq p.1 at') with | some p => some ((), p.2.1, ()) | none => K ((at', ()), ((d.1, d.2.1, ()), ()), ())
  | 0, m, h, hm => by
    obtain ⟨m, rfl⟩ : ∃ k, m = k + 1 := ⟨m - 1, by omega⟩
    rw [spec_l15Of_k0]
    rw [tb_neg (ile_f (by simp))]
    rfl
  | n + 1, m, h, hm => by
    obtain ⟨m, rfl⟩ : ∃ k, m = k + 1 := ⟨m - 1, by omega⟩
    have e : ((n + 1 : Nat) : Int) - 1 = (n : Int) := by omega
    have hx : d.2.1[n]? = some d.2.1[n] := List.getElem?_eq_getElem (by omega)
    rw [spec_l15Of_k0, e, find_step hx]
    simp only
    rw [tb_pos (ile_t (by omega)), chk_pos (by omega), obind_eq (at_some hx), chk_pos (by omega), obind_eq (at_some hx), wr64 (by omega) (by omega)]
    cases hq : ieq d.2.1[n].1 at'
    · rw [tb_f, spec_sec0 hl n m (by omega) (by omega)]; simp
    · rw [tb_t]; rfl
theorem impl_sec0 {K} {d : Dk} {at' : Int} (hl : d.2.1.length ≤ 140737488351232) : ∀ (n m : Nat), n ≤ d.2.1.length → n < m → impl_Disk_sector_k0 fuel m K ((d, at', (n : Int) - 1, ()), (), ()) = match (d.2.1.take n).reverse.find? (fun p => ieq p.1 at') with | some p => some ((), p.2.1, ()) | none => K ((d, at', ()), (), ())
  | 0, m, h, hm => by
    obtain ⟨m, rfl⟩ : ∃ k, m = k + 1 := ⟨m - 1, by omega⟩
    rw [impl_Disk_sector_k0]
    rw [tb_neg (ile_f (by simp))]
    rfl
  | n + 1, m, h, hm => by
    obtain ⟨m, rfl⟩ : ∃ k, m = k + 1 := ⟨m - 1, by omega⟩
    have e : ((n + 1 : Nat) : Int) - 1 = (n : Int) := by omega
    have hx : d.2.1[n]? = some d.2.1[n] := List.getElem?_eq_getElem (by omega)
    rw [impl_Disk_sector_k0, e, find_step hx]
    simp only
    rw [tb_pos (ile_t (by omega)), chk_pos (by omega), obind_eq (at_some hx), chk_pos (by omega), obind_eq (at_some hx), wr64 (by omega) (by omega)]
    cases hq : ieq d.2.1[n].1 at'
    · rw [tb_f, impl_sec0 hl n m (by omega) (by omega)]; simp
    · rw [tb_t]; rfl
theorem get_nat {d : Dk} {at' : Int} (h0 : 0 ≤ at') (h1 : at' < d.1.length) : at? d.1 at'.toNat = some ((d.1[at'.toNat]?).getD ⟨#[]⟩) := by
  have : d.1[at'.toNat]? = some d.1[at'.toNat] := List.getElem?_eq_getElem (by omega)
  simp only [at?, this, Option.getD_some]
theorem spec_sec {d : Dk} {at' : Int} (hl : d.2.1.length ≤ 140737488351232) (h0 : 0 ≤ at') (h1 : at' < d.1.length) : spec_l15Of ((d.1, d.2.1, ()), at', ()) = some ((), secF d at', ()) := by
  simp only [spec_l15Of, spec_l15Of_k]
  rw [wr64 (by simp only [llen]; omega) (by simp only [llen]; omega), show ((llen d.2.1 : Nat) : Int) = ((d.2.1.length : Nat) : Int) from rfl, spec_sec0 hl d.2.1.length fuel (Nat.le_refl _) (by have := fuel_gt; omega), List.take_length]
  unfold secF
  cases d.2.1.reverse.find? (fun p => ieq p.1 at') with
  | some p => rfl
  | none =>
    simp only
    rw [chk_pos h0, obind_eq (get_nat h0 h1)]
theorem impl_sec {d : Dk} {at' : Int} (hl : d.2.1.length ≤ 140737488351232) (h0 : 0 ≤ at') (h1 : at' < d.1.length) : impl_Disk_sector ((d.1, d.2.1, ()), at', ()) = some ((), secF d at', ()) := by
  simp only [impl_Disk_sector, impl_Disk_sector_k]
  rw [wr64 (by simp only [llen]; omega) (by simp only [llen]; omega), show ((llen d.2.1 : Nat) : Int) = ((d.2.1.length : Nat) : Int) from rfl]
  have := impl_sec0 (K := fun v0 => chk (0 ≤ v0.1.2.1) (obind (at? v0.1.1.1 (Int.toNat v0.1.2.1)) fun v1 => some ((), v1, ())) (none)) (d := d) (at' := at') hl d.2.1.length fuel (Nat.le_refl _) (by have := fuel_gt; omega)
  rw [List.take_length] at this
  refine Eq.trans this ?_
  unfold secF
  cases d.2.1.reverse.find? (fun p => ieq p.1 at') with
  | some p => rfl
  | none =>
    simp only
    rw [chk_pos h0, obind_eq (get_nat h0 h1)]
theorem diskOk_len {d : Dk} (h : diskOk d = true) : d.1.length = 130 ∧ d.2.1.length ≤ 200 := by
  simp only [diskOk, Bool.and_eq_true] at h
  have h1 : ((d.1.length : Nat) : Int) = 130 := by simpa [ieq, llen] using h.1
  have h2 : ((d.2.1.length : Nat) : Int) ≤ 200 := of_decide_eq_true h.2.1
  omega
theorem diskOk_small {d : Dk} (h : diskOk d = true) : dkSmall d := by
  have := diskOk_len h
  exact ⟨by omega, by omega⟩
theorem secF_size {d : Dk} {at' : Int} (h : diskOk d = true) (h0 : 0 ≤ at') (h1 : at' ≤ 129) : (secF d at').size = 64 := by
  have hl := diskOk_len h
  simp only [diskOk, Bool.and_eq_true, List.all_eq_true] at h
  unfold secF
  split
  · rename_i p hp
    have hm := List.mem_of_find?_eq_some hp
    have := h.2.2.2 p (List.mem_reverse.1 hm)
    simp only [putOk, Bool.and_eq_true] at this
    have h2 : ((p.2.1.size : Nat) : Int) = 64 := by simpa [ieq, slen] using this.2
    omega
  · have hx : d.1[at'.toNat]? = some d.1[at'.toNat] := List.getElem?_eq_getElem (by omega)
    rw [hx, Option.getD_some]
    have := h.2.2.1 _ (List.getElem_mem (l := d.1) (n := at'.toNat) (by omega))
    have h2 : ((d.1[at'.toNat].size : Nat) : Int) = 64 := by simpa [ieq, slen, secOk] using this
    omega
theorem putF_ok {d : Dk} {at' : Int} {t : ByteArray} (h : diskOk d = true) : diskOk (putF d at' t).1 = true := by
  unfold putF
  split
  · rename_i hc
    simp only [diskOk, Bool.and_eq_true] at h ⊢
    refine ⟨h.1, ile_t (by simp only [llen, List.length_append, List.length_cons, List.length_nil]; omega), h.2.2.1, ?_⟩
    rw [List.all_append, h.2.2.2]
    simp only [List.all_cons, List.all_nil, Bool.and_true, Bool.true_and, putOk, Bool.and_eq_true, decide_eq_true_eq]
    exact ⟨⟨hc.1, hc.2.1⟩, ieq_t (by simp only [slen]; omega)⟩
  · exact h
def secText (old : ByteArray) (k a : Nat) (b : List Int) : List Int := (List.range 64).map fun i => if a ≤ 64 * k + i ∧ 64 * k + i < a + b.length then b.getD (64 * k + i - a) 0 else bt old (i : Int)
theorem secText_length (old : ByteArray) (k a : Nat) (b : List Int) : (secText old k a b).length = 64 := by simp [secText]
def skipB (k a : Nat) (b : List Int) : Bool := decide (64 * k + 64 ≤ a) || (decide (a + b.length ≤ 64 * k) || decide (b.length = 0))
def areaF (area a : Nat) (b : List Int) : Nat → Dk → Option Dk
  | 0, d => some d
  | r + 1, d => if skipB (63 - r) a b = true then areaF area a b r d else
    if (putF d ((2 + 64 * area + (63 - r) : Nat) : Int) (strOf (secText (secF d ((2 + 64 * area + (63 - r) : Nat) : Int)) (63 - r) a b))).2 = true then areaF area a b r (putF d ((2 + 64 * area + (63 - r) : Nat) : Int) (strOf (secText (secF d ((2 + 64 * area + (63 - r) : Nat) : Int)) (63 - r) a b))).1 else none
theorem areaF_done {area a : Nat} {b : List Int} : ∀ {r : Nat} {d : Dk}, r ≤ 64 → b.length = 0 ∨ a + b.length ≤ 64 * (64 - r) → areaF area a b r d = some d
  | 0, d, _, _ => rfl
  | r + 1, d, hr, h => by
    have hs : skipB (63 - r) a b = true := by
      rcases h with h | h
      · unfold skipB; rw [decide_eq_true h]; simp
      · unfold skipB; rw [decide_eq_true (show a + b.length ≤ 64 * (63 - r) by omega)]; simp
    rw [areaF, if_pos hs]
    exact areaF_done (by omega) (by omega)
theorem areaF_ok {area a : Nat} {b : List Int} : ∀ {r : Nat} {d e : Dk}, diskOk d = true → areaF area a b r d = some e → diskOk e = true
  | 0, d, e, hd, h => by cases h; exact hd
  | r + 1, d, e, hd, h => by
    rw [areaF] at h
    split at h
    · exact areaF_ok hd h
    · split at h
      · exact areaF_ok (putF_ok hd) h
      · cases h
def secPart (old : ByteArray) (k a : Nat) (b : List Int) (j : Nat) : List Int := (List.range 64).map fun i => if i < j ∧ a ≤ 64 * k + i ∧ 64 * k + i < a + b.length then b.getD (64 * k + i - a) 0 else bt old (i : Int)
theorem secPart_length (old : ByteArray) (k a : Nat) (b : List Int) (j : Nat) : (secPart old k a b j).length = 64 := by simp [secPart]
theorem secPart_get {old : ByteArray} {k a : Nat} {b : List Int} {j i : Nat} (h : i < 64) : (secPart old k a b j)[i]? = some (if i < j ∧ a ≤ 64 * k + i ∧ 64 * k + i < a + b.length then b.getD (64 * k + i - a) 0 else bt old (i : Int)) := by
  simp [secPart, h]
theorem secPart_step_in {old : ByteArray} {k a : Nat} {b : List Int} {j : Nat} (h : j < 64) (h1 : a ≤ 64 * k + j) (h2 : 64 * k + j < a + b.length) : lset (secPart old k a b j) j (b.getD (64 * k + j - a) 0) = secPart old k a b (j + 1) := by
  apply List.ext_getElem?
  intro i
  by_cases hi : i < 64
  · simp only [lset, List.getElem?_set, secPart_length, secPart_get hi]
    by_cases e : j = i
    · subst e
      rw [if_pos rfl, if_pos h, if_pos ⟨by omega, h1, h2⟩]
    · rw [if_neg e]
      by_cases c : i < j ∧ a ≤ 64 * k + i ∧ 64 * k + i < a + b.length
      · rw [if_pos c, if_pos ⟨by omega, c.2⟩]
      · rw [if_neg c, if_neg (by omega)]
  · rw [List.getElem?_eq_none (by simp [lset, secPart_length]; omega), List.getElem?_eq_none (by simp [secPart_length]; omega)]
theorem secPart_step_out {old : ByteArray} {k a : Nat} {b : List Int} {j : Nat} (h : ¬ (a ≤ 64 * k + j ∧ 64 * k + j < a + b.length)) : secPart old k a b j = secPart old k a b (j + 1) := by
  unfold secPart
  apply List.map_congr_left
  intro i hi
  by_cases e : j = i
  · subst e
    rw [if_neg (fun q => h q.2), if_neg (fun q => h q.2)]
  · by_cases c : i < j ∧ a ≤ 64 * k + i ∧ 64 * k + i < a + b.length
    · rw [if_pos c, if_pos ⟨by omega, c.2⟩]
    · rw [if_neg c, if_neg (by omega)]
theorem secPart_zero {old : ByteArray} (h : old.size = 64) (k a : Nat) (b : List Int) : secPart old k a b 0 = bytesOf old := by
  apply List.ext_getElem?
  intro i
  by_cases hi : i < 64
  · rw [secPart_get hi, bytes_get (by omega), if_neg (by omega)]
  · rw [List.getElem?_eq_none (by simp [secPart_length]; omega), List.getElem?_eq_none (by rw [bytes_length]; omega)]
theorem secPart_all (old : ByteArray) (k a : Nat) (b : List Int) : secPart old k a b 64 = secText old k a b := by
  unfold secPart secText
  apply List.map_congr_left
  intro i hi
  have hi : i < 64 := by simpa using hi
  by_cases c : a ≤ 64 * k + i ∧ 64 * k + i < a + b.length
  · rw [if_pos ⟨hi, c⟩, if_pos c]
  · rw [if_neg (fun q => c q.2), if_neg c]
theorem spec_lay {K} {old : ByteArray} {k a area : Nat} {b : List Int} {z1 z2 z3 z4 z5 z6 z7 z8 z9 x0} {p q p' q'} (hk : k ≤ 64) (hab : a + b.length ≤ 4096) : ∀ (d j m : Nat), j + d = 64 → d < m →
      spec_AreaPut_k2 fuel m K (((area : Int), (a : Int), b, (k : Int), ((64 * k : Nat) : Int), z1, (j : Int), z2, z3, z4, z5, z6, z7, z8, z9, x0, ()), ((), (), (), ()), secPart old k a b j, p, q, p', q', ())
      = K (((area : Int), (a : Int), b, (k : Int), z1, z2, z3, z4, z5, z6, z7, z8, z9, x0, ()), ((), (), (), ()), secText old k a b, p, q, p', q', ())
  | 0, j, m, h, hm => by
    obtain ⟨m, rfl⟩ : ∃ k, m = k + 1 := ⟨m - 1, by omega⟩
    obtain rfl : j = 64 := by omega
    rw [spec_AreaPut_k2, secPart_all]
    simp only
    rw [tb_neg (ilt_f (by omega))]
  | d + 1, j, m, h, hm => by
    obtain ⟨m, rfl⟩ : ∃ k, m = k + 1 := ⟨m - 1, by omega⟩
    have hw : Hid (wr .i64 (((64 * k : Nat) : Int) + (j : Int)) = ((64 * k + j : Nat) : Int)) := ⟨wrn (by omega) (by omega)⟩
    have hw2 : Hid (wr .i64 ((a : Int) + ((llen b : Nat) : Int)) = ((a + b.length : Nat) : Int)) := ⟨wrn (by simp only [llen]; omega) (by omega)⟩
    have hw3 : Hid (wr .i64 ((j : Int) + 1) = ((j + 1 : Nat) : Int)) := ⟨wrn (by omega) (by omega)⟩
    rw [spec_AreaPut_k2]
    simp only [hw.out, hw2.out, hw3.out]
    rw [tb_pos (ilt_t (by omega))]
    have ih := spec_lay (K := K) (old := old) (area := area) (z1 := z1) (z2 := z2) (z3 := z3) (z4 := z4) (z5 := z5) (z6 := z6) (z7 := z7) (z8 := z8) (z9 := z9) (x0 := x0) (p := p) (q := q) (p' := p') (q' := q') hk hab d (j + 1) m (by omega) (by omega)
    by_cases h1 : a ≤ 64 * k + j
    · rw [tb_pos (ile_t (by omega))]
      by_cases h2 : 64 * k + j < a + b.length
      · have e : Hid (wr .i64 (((64 * k + j : Nat) : Int) - (a : Int)) = ((64 * k + j - a : Nat) : Int)) := ⟨wrn (by omega) (by omega)⟩
        have hx : b[64 * k + j - a]? = some (b.getD (64 * k + j - a) 0) := by rw [List.getD_eq_getElem?_getD, List.getElem?_eq_getElem (by omega)]; rfl
        have hy : (secPart old k a b j)[j]? = some _ := secPart_get (by omega)
        rw [tb_pos (ilt_t (by omega)), e.out, chk_pos (by omega), obind_eq (at_some hx), chk_pos ⟨by omega, by simp only [llen, secPart_length]; omega⟩, obind_eq (at_some hy), Int.toNat_natCast, secPart_step_in (by omega) h1 h2]
        exact ih
      · rw [tb_neg (ilt_f (by omega)), secPart_step_out (by omega)]
        exact ih
    · rw [tb_neg (ile_f (by omega)), secPart_step_out (by omega)]
      exact ih
theorem spec_area0 {K} {area a : Nat} {b : List Int} {p q} (ha : area ≤ 1) (hab : a + b.length ≤ 4096) : ∀ (r m : Nat) (d : Dk), r ≤ 64 → r < m → diskOk d = true →
      spec_AreaPut_k0 fuel m K (((area : Int), (a : Int), b, ((64 - r : Nat) : Int), ()), ((), (), (), ()), p, q, d.1, d.2.1, ()) = match areaF area a b r d with | some e => K ((), ((), (), ()), e.1, e.2.1, ()) | none => some ((), (p, q, ()), false, ())
  | 0, m, d, hr, hm, hd => by
    obtain ⟨m, rfl⟩ : ∃ k, m = k + 1 := ⟨m - 1, by omega⟩
    rw [spec_AreaPut_k0]
    simp only
    rw [tb_neg (ilt_f (by omega))]
    rfl
  | r + 1, m, d, hr, hm, hd => by
    obtain ⟨m, rfl⟩ : ∃ k, m = k + 1 := ⟨m - 1, by omega⟩
    have hk : 64 - (r + 1) = 63 - r := by omega
    have hk1 : 64 - r = 63 - r + 1 := by omega
    obtain ⟨k, hkk⟩ : ∃ k, k = 63 - r := ⟨_, rfl⟩
    have hl := diskOk_len hd
    have hw1 : Hid (wr .i64 ((k : Int) * 64) = ((64 * k : Nat) : Int)) := ⟨wrn (by omega) (by omega)⟩
    have hw2 : Hid (wr .i64 (((64 * k : Nat) : Int) + 64) = ((64 * k + 64 : Nat) : Int)) := ⟨wrn (by omega) (by omega)⟩
    have hw3 : Hid (wr .i64 ((a : Int) + ((llen b : Nat) : Int)) = ((a + b.length : Nat) : Int)) := ⟨wrn (by simp only [llen]; omega) (by omega)⟩
    have hw4 : Hid (wr .i64 ((k : Int) + 1) = ((k + 1 : Nat) : Int)) := ⟨wrn (by omega) (by omega)⟩
    have hw5 : Hid (wr .i64 (64 * (area : Int)) = ((64 * area : Nat) : Int)) := ⟨wrn (by omega) (by omega)⟩
    have hw6 : Hid (wr .i64 (2 + ((64 * area : Nat) : Int)) = ((2 + 64 * area : Nat) : Int)) := ⟨wrn (by omega) (by omega)⟩
    have hw7 : Hid (wr .i64 (((2 + 64 * area : Nat) : Int) + (k : Int)) = ((2 + 64 * area + k : Nat) : Int)) := ⟨wrn (by omega) (by omega)⟩
    rw [spec_AreaPut_k0, areaF, hk, ← hkk]
    simp only [hw1.out, hw2.out, hw3.out, hw4.out, hw5.out, hw6.out, hw7.out]
    have ih := fun d hd => spec_area0 (K := K) (p := p) (q := q) ha hab r m d (by omega) (by omega) hd
    rw [hk1, ← hkk] at ih
    rw [tb_pos (ilt_t (by omega))]
    by_cases h1 : 64 * k + 64 ≤ a
    · rw [tb_pos (ile_t (by omega)), if_pos (by simp [skipB, h1])]
      exact ih d hd
    rw [tb_neg (ile_f (by omega))]
    by_cases h2 : a + b.length ≤ 64 * k
    · rw [tb_pos (ile_t (by omega)), if_pos (by simp [skipB, h2])]
      exact ih d hd
    rw [tb_neg (ile_f (by omega))]
    by_cases h3 : b.length = 0
    · rw [tb_pos (ieq_t (by simp only [llen]; omega)), if_pos (by simp [skipB, h3])]
      exact ih d hd
    have h3' : b ≠ [] := fun e => h3 (by rw [e]; rfl)
    rw [tb_neg (ieq_f (by simp only [llen]; omega)), if_neg (by simp [skipB, h1, h2, h3']), obind_eq (spec_sec (by omega) (by omega) (by omega))]
    have hsz := secF_size (at' := ((2 + 64 * area + k : Nat) : Int)) hd (by omega) (by omega)
    rw [← secPart_zero hsz k a b]
    refine (spec_lay (z1 := _) (z2 := _) (by omega) hab 64 0 fuel (by omega) (by unfold fuel; omega)).trans ?_
    simp only
    rw [obind_eq (spec_put (diskOk_small hd) hd)]
    simp only
    have hok := putF_ok (at' := ((2 + 64 * area + k : Nat) : Int)) (t := strOf (secText (secF d ((2 + 64 * area + k : Nat) : Int)) k a b)) hd
    cases hp : (putF d ((2 + 64 * area + k : Nat) : Int) (strOf (secText (secF d ((2 + 64 * area + k : Nat) : Int)) k a b))).2
    · rw [tb_nf]; rfl
    · rw [tb_nt, hw4.out, if_pos rfl]
      exact ih _ hok
theorem lcut_len {α : Type} (l : List α) (a b : Nat) : (lcut l a b).length = min b l.length - a := by simp only [lcut, List.length_drop, List.length_take]
theorem scut_size (s : ByteArray) (a b : Nat) : (scut s a b).size = min b s.size - a := by rw [scut_bytes, strOf_size, lcut_len, bytes_length]
theorem secText_get {old : ByteArray} {k a : Nat} {b : List Int} {i : Nat} (h : i < 64) : (secText old k a b)[i]? = some (if a ≤ 64 * k + i ∧ 64 * k + i < a + b.length then b.getD (64 * k + i - a) 0 else bt old (i : Int)) := by
  simp [secText, h]
theorem impl_secText {old : ByteArray} (hs : old.size = 64) {k a x n : Nat} {b c : List Int} (h1 : 64 * k ≤ x) (h2 : x < 64 * k + 64) (h3 : x = max a (64 * k)) (hc : c = b.drop (x - a)) (hn : n = min c.length (64 - (x - 64 * k))) (hp : 0 < n) :
    sapp (sapp (scut old 0 (x - 64 * k)) (strOf (lcut c 0 n))) (scut old (x - 64 * k + n) 64) = strOf (secText old k a b) := by
  have hcl : c.length = b.length - (x - a) := by rw [hc, List.length_drop]
  simp only [sapp, scut_bytes, strOf_append]
  congr 1
  have l1 : (lcut (bytesOf old) 0 (x - 64 * k)).length = x - 64 * k := by rw [lcut_len, bytes_length]; omega
  have l2 : (lcut c 0 n).length = n := by rw [lcut_len]; omega
  have l3 : (lcut (bytesOf old) (x - 64 * k + n) 64).length = 64 - (x - 64 * k + n) := by rw [lcut_len, bytes_length]; omega
  apply List.ext_getElem?
  intro i
  by_cases hi : i < 64
  · rw [secText_get hi]
    by_cases c1 : i < x - 64 * k
    · rw [List.getElem?_append_left (by rw [List.length_append, l1]; omega), List.getElem?_append_left (by rw [l1]; omega), lcut_get, if_pos (by omega), Nat.zero_add, bytes_get (by omega), if_neg (by omega)]
    by_cases c2 : i < x - 64 * k + n
    · rw [List.getElem?_append_left (by rw [List.length_append, l1, l2]; omega), List.getElem?_append_right (by rw [l1]; omega), l1, lcut_get, if_pos (by omega), if_pos (by omega), hc, List.getElem?_drop, List.getD_eq_getElem?_getD, Nat.zero_add, show x - a + (i - (x - 64 * k)) = 64 * k + i - a by omega, List.getElem?_eq_getElem (by omega)]
      rfl
    · rw [List.getElem?_append_right (by rw [List.length_append, l1, l2]; omega), List.length_append, l1, l2, lcut_get, if_pos (by omega), show x - 64 * k + n + (i - (x - 64 * k + n)) = i by omega, bytes_get (by omega), if_neg (by omega)]
  · rw [List.getElem?_eq_none (by rw [List.length_append, List.length_append, l1, l2, l3]; omega), List.getElem?_eq_none (by rw [secText_length]; omega)]
theorem impl_area_end {K} {area x : Int} {d : Dk} {m : Nat} (hm : 0 < m) : impl_Disk_putArea_k0 fuel m K ((area, x, [], ()), ((), ()), d.1, d.2.1, ()) = K ((), ((), ()), d.1, d.2.1, ()) := by
  obtain ⟨m, rfl⟩ : ∃ k, m = k + 1 := ⟨m - 1, by omega⟩
  rw [impl_Disk_putArea_k0]
  simp only
  rw [tb_neg (ilt_f (by simp [llen]))]
theorem impl_area0 {K} {area a : Nat} {b : List Int} (ha : area ≤ 1) (hab : a + b.length ≤ 4096) : ∀ (r m : Nat) (d : Dk) (x : Nat) (c : List Int), r ≤ 64 → r + 1 < m → diskOk d = true → x ≤ 4096 → ((c = [] ∧ (b.length = 0 ∨ a + b.length ≤ 64 * (64 - r))) ∨ (x = max a (64 * (64 - r)) ∧ c = b.drop (x - a))) →
      match areaF area a b r d with
      | some e => impl_Disk_putArea_k0 fuel m K (((area : Int), (x : Int), c, ()), ((), ()), d.1, d.2.1, ()) = K ((), ((), ()), e.1, e.2.1, ())
      | none => ∃ e : Dk, impl_Disk_putArea_k0 fuel m K (((area : Int), (x : Int), c, ()), ((), ()), d.1, d.2.1, ()) = some (((e.1, e.2.1, ()), ()), false, ())
  | 0, m, d, x, c, hr, hm, hd, hx, hc => by
    have : c = [] := by
      rcases hc with h | ⟨h, rfl⟩
      · exact h.1
      · rw [List.drop_eq_nil_of_le (by omega)]
    subst this
    exact impl_area_end (by omega)
  | r + 1, m, d, x, c, hr, hm, hd, hx, hc => by
    obtain ⟨k, hkk⟩ : ∃ k, k = 63 - r := ⟨_, rfl⟩
    have hk : 64 - (r + 1) = k := by omega
    have hk1 : 64 - r = k + 1 := by omega
    rw [hk] at hc
    have ih := fun d x c => impl_area0 (K := K) ha hab r (m - 1) d x c (by omega) (by omega)
    rw [hk1] at ih
    have hdone : c = [] → (b.length = 0 ∨ a + b.length ≤ 64 * k) → (match areaF area a b (r + 1) d with
      | some e => impl_Disk_putArea_k0 fuel m K (((area : Int), (x : Int), c, ()), ((), ()), d.1, d.2.1, ()) = K ((), ((), ()), e.1, e.2.1, ())
      | none => ∃ e : Dk, impl_Disk_putArea_k0 fuel m K (((area : Int), (x : Int), c, ()), ((), ()), d.1, d.2.1, ()) = some (((e.1, e.2.1, ()), ()), false, ())) := by
      intro h1 h2
      rw [areaF_done (by omega) (by rw [hk]; exact h2), h1]
      exact impl_area_end (by omega)
    rcases hc with ⟨h1, h2⟩ | ⟨hx1, hc⟩
    · exact hdone h1 h2
    by_cases c2 : a + b.length ≤ 64 * k
    · exact hdone (by rw [hc, List.drop_eq_nil_of_le (by omega)]) (.inr c2)
    by_cases c3 : b.length = 0
    · exact hdone (by rw [hc, List.eq_nil_of_length_eq_zero c3, List.drop_nil]) (.inl c3)
    have c3' : b ≠ [] := fun e => c3 (by rw [e]; rfl)
    by_cases c1 : 64 * k + 64 ≤ a
    · rw [areaF, ← hkk, if_pos (by simp [skipB, c1])]
      have := impl_area0 (K := K) ha hab r m d x c (by omega) (by omega) hd hx (.inr ⟨by rw [hk1]; omega, hc⟩)
      exact this
    rw [areaF, ← hkk, if_neg (by simp [skipB, c1, c2, c3'])]
    obtain ⟨m, rfl⟩ : ∃ k, m = k + 1 := ⟨m - 1, by omega⟩
    have hl := diskOk_len hd
    have hcl : c.length = b.length - (x - a) := by rw [hc, List.length_drop]
    obtain ⟨n, hn⟩ : ∃ n, n = min c.length (64 - (x - 64 * k)) := ⟨_, rfl⟩
    have q1 : Hid (Int.tmod (x : Int) 64 = ((x - 64 * k : Nat) : Int)) := ⟨by rw [Int.tmod_eq_emod_of_nonneg (by omega)]; omega⟩
    have q2 : Hid (Int.tdiv (x : Int) 64 = (k : Int)) := ⟨by rw [Int.tdiv_eq_ediv_of_nonneg (by omega)]; omega⟩
    have q3 : Hid (wr .i64 (k : Int) = (k : Int)) := ⟨wrn rfl (by omega)⟩
    have q4 : Hid (wr .i64 (64 * (area : Int)) = ((64 * area : Nat) : Int)) := ⟨wrn (by omega) (by omega)⟩
    have q5 : Hid (wr .i64 (2 + ((64 * area : Nat) : Int)) = ((2 + 64 * area : Nat) : Int)) := ⟨wrn (by omega) (by omega)⟩
    have q6 : Hid (wr .i64 (((2 + 64 * area : Nat) : Int) + (k : Int)) = ((2 + 64 * area + k : Nat) : Int)) := ⟨wrn (by omega) (by omega)⟩
    have q7 : Hid (wr .i64 (64 - ((x - 64 * k : Nat) : Int)) = ((64 - (x - 64 * k) : Nat) : Int)) := ⟨wrn (by omega) (by omega)⟩
    have q8 : Hid (mn ((llen c : Nat) : Int) ((64 - (x - 64 * k) : Nat) : Int) = (n : Int)) := ⟨by rw [mn_nat, hn]; rfl⟩
    have q9 : Hid (wr .i64 (((x - 64 * k : Nat) : Int) + (n : Int)) = ((x - 64 * k + n : Nat) : Int)) := ⟨wrn (by omega) (by omega)⟩
    have q10 : Hid (wr .i64 ((x : Int) + (n : Int)) = ((x + n : Nat) : Int)) := ⟨wrn (by omega) (by omega)⟩
    have hsz := secF_size (at' := ((2 + 64 * area + k : Nat) : Int)) hd (by omega) (by omega)
    have ht := impl_secText hsz (k := k) (by omega) (by omega) hx1 hc hn (by omega)
    have e64 : ((slen (secF d ((2 + 64 * area + k : Nat) : Int)) : Nat) : Int) = 64 := by simp only [slen, hsz]; rfl
    rw [impl_Disk_putArea_k0]
    simp only [impl_first, impl_first_k, obind_some, q1.out, q2.out, q3.out, q4.out, q5.out, q6.out, q7.out, q8.out, q9.out, q10.out]
    rw [tb_pos (ilt_t (by simp only [llen]; omega)), chk_neg (by decide), obind_eq (impl_sec (by omega) (by omega) (by omega))]
    simp only [e64, Int.toNat_natCast]
    rw [chk_neg (by decide), chk_pos (by omega), chk_pos (by simp only [llen]; omega), chk_pos (by simp only [plus, slen, scut_size, strOf_size, lcut_len, slim]; omega), chk_pos (by omega), chk_pos (by simp only [plus, slen, sapp, ByteArray.size_append, scut_size, strOf_size, lcut_len, slim]; omega), show (0 : Int).toNat = 0 from rfl, show (64 : Int).toNat = 64 from rfl, ht, obind_eq (impl_put (diskOk_small hd))]
    simp only
    have hok := putF_ok (at' := ((2 + 64 * area + k : Nat) : Int)) (t := strOf (secText (secF d ((2 + 64 * area + k : Nat) : Int)) k a b)) hd
    cases hp : (putF d ((2 + 64 * area + k : Nat) : Int) (strOf (secText (secF d ((2 + 64 * area + k : Nat) : Int)) k a b))).2
    · rw [tb_nf]
      simp only [Bool.false_eq_true, if_false]
      exact ⟨_, rfl⟩
    · rw [tb_nt, if_pos rfl, chk_pos (by simp only [llen]; omega)]
      rw [show lcut c n (llen c) = c.drop n by simp only [lcut, llen, List.take_length]]
      refine ih _ (x + n) (c.drop n) hok (by omega) ?_
      by_cases hq : n = c.length
      · exact .inl ⟨by rw [hq, List.drop_length], by omega⟩
      · exact .inr ⟨by omega, by rw [hc, List.drop_drop]; congr 1; omega⟩
end Go.Proofs.Ytaakhgjlekllgaa.V
namespace Go.Proofs.Ytaakhgjlekllgaa.V
open Go Go.RowKit
attribute [local irreducible] wr
def fitsA' (area at' n : Int) : Bool := decide ((0 ≤ area ∧ area ≤ 1) ∧ (0 ≤ at' ∧ at' ≤ 4096) ∧ (0 ≤ n ∧ n ≤ 4096 - at'))
theorem isArea_eq (x : Int) : (tb (ieq x 0) (some ((), true, ())) (some ((), ieq x 1, ())) : Option (Unit × (Bool × Unit))) = some ((), decide (0 ≤ x ∧ x ≤ 1), ()) := by
  by_cases h : x = 0
  · rw [tb_pos (ieq_t h), decide_eq_true (by omega)]
  · rw [tb_neg (ieq_f h)]
    by_cases h1 : x = 1
    · rw [ieq_t h1, decide_eq_true (by omega)]
    · rw [ieq_f h1, decide_eq_false (by omega)]
theorem spec_isArea (x : Int) : spec_l16Area (x, ()) = some ((), decide (0 ≤ x ∧ x ≤ 1), ()) := isArea_eq x
theorem impl_isArea' (x : Int) : impl_isArea (x, ()) = some ((), decide (0 ≤ x ∧ x ≤ 1), ()) := isArea_eq x
theorem impl_fits (area at' n : Int) : impl_fitsArea (area, at', n, ()) = some ((), fitsA' area at' n, ()) := by
  simp only [impl_fitsArea, impl_fitsArea_k, impl_isArea', obind_some, impl_in]
  unfold fitsA'
  by_cases h1 : 0 ≤ area ∧ area ≤ 1
  rotate_left
  · rw [tb_neg (decide_eq_false h1), decide_eq_false (fun q => h1 q.1)]
  rw [tb_pos (decide_eq_true h1)]
  by_cases h2 : 0 ≤ at' ∧ at' ≤ 4096
  rotate_left
  · rw [tb_neg (decide_eq_false h2), decide_eq_false (fun q => h2 q.2.1)]
  rw [tb_pos (decide_eq_true h2), wr64 (by omega) (by omega)]
  congr 3
  simp [h1, h2]
def areaPutF (d : Dk) (area at' : Int) (b : List Int) : Dk × Bool :=
  if diskOk d = true then (if fitsA' area at' (b.length : Int) = true then (match areaF area.toNat at'.toNat b 64 d with | some e => (e, true) | none => (d, false)) else (d, false)) else (([], [], ()), false)
theorem spec_areaPut {d : Dk} {area at' : Int} {b : List Int} (hs : dkSmall d) : spec_AreaPut ((d.1, d.2.1, ()), area, at', b, ()) = some ((), (areaPutF d area at' b).1, (areaPutF d area at' b).2, ()) := by
  unfold spec_AreaPut spec_AreaPut_k
  rw [obind_eq (spec_ok d (by have := hs.1; omega) (by have := hs.2; omega)), obind_eq (spec_copy hs), obind_eq (spec_isArea _)]
  simp only
  unfold areaPutF
  cases hd : diskOk d
  · rfl
  rw [tb_nt, if_pos rfl]
  unfold fitsA'
  by_cases h1 : 0 ≤ area ∧ area ≤ 1
  rotate_left
  · rw [show decide (0 ≤ area ∧ area ≤ 1) = false from decide_eq_false h1, tb_nf, if_neg (by rw [decide_eq_false (fun q => h1 q.1)]; decide)]
  rw [show decide (0 ≤ area ∧ area ≤ 1) = true from decide_eq_true h1, tb_nt, obind_eq (spec_in _ _ _)]
  simp only
  by_cases h2 : 0 ≤ at' ∧ at' ≤ 4096
  rotate_left
  · rw [show decide (0 ≤ at' ∧ at' ≤ 4096) = false from decide_eq_false h2, tb_nf, if_neg (by rw [decide_eq_false (fun q => h2 q.2.1)]; decide)]
  rw [show decide (0 ≤ at' ∧ at' ≤ 4096) = true from decide_eq_true h2, tb_nt, wr64 (by omega) (by omega)]
  by_cases h3 : (b.length : Int) ≤ 4096 - at'
  rotate_left
  · rw [tb_pos (ilt_t (by simp only [llen]; omega)), if_neg (by rw [decide_eq_false (fun q => h3 q.2.2.2)]; decide)]
  rw [tb_neg (ilt_f (by simp only [llen]; omega)), if_pos (decide_eq_true ⟨h1, h2, by omega, h3⟩), obind_eq (spec_copy hs)]
  obtain ⟨area, rfl⟩ := Int.eq_ofNat_of_zero_le h1.1
  obtain ⟨a, rfl⟩ := Int.eq_ofNat_of_zero_le h2.1
  have := spec_area0 (K := fun v5 => some ((), (v5.2.2.1, v5.2.2.2.1, ()), true, ())) (area := area) (a := a) (b := b) (p := d.1) (q := d.2.1) (by omega) (by omega) 64 fuel d (Nat.le_refl _) (by have := fuel_gt; omega) hd
  rw [show ((64 - 64 : Nat) : Int) = 0 from rfl] at this
  rw [this, Int.toNat_natCast, Int.toNat_natCast]
  cases areaF area a b 64 d <;> rfl
theorem impl_areaPut {d : Dk} {area at' : Int} {b : List Int} (hs : dkSmall d) : impl_AreaPut ((d.1, d.2.1, ()), area, at', b, ()) = some ((), (areaPutF d area at' b).1, (areaPutF d area at' b).2, ()) := by
  simp only [impl_AreaPut, impl_AreaPut_k, impl_ok d (by have := hs.1; omega) (by have := hs.2; omega), obind_some, impl_copy hs]
  unfold areaPutF
  cases hd : diskOk d
  · rfl
  rw [tb_nt, if_pos rfl]
  simp only [impl_Disk_putArea, impl_Disk_putArea_k, impl_fits, obind_some]
  rw [show ((llen b : Nat) : Int) = (b.length : Int) from rfl]
  by_cases hf : fitsA' area at' (b.length : Int) = true
  rotate_left
  · rw [if_neg hf, Bool.eq_false_iff.2 hf, tb_nf, obind_some]
    rfl
  rw [if_pos hf, hf, tb_nt]
  have hf := of_decide_eq_true hf
  obtain ⟨area, rfl⟩ := Int.eq_ofNat_of_zero_le hf.1.1
  obtain ⟨a, rfl⟩ := Int.eq_ofNat_of_zero_le hf.2.1.1
  have := impl_area0 (K := fun v1 => some (((v1.2.2.1, v1.2.2.2.1, ()), ()), true, ())) (area := area) (a := a) (b := b) (by omega) (by omega) 64 fuel d a b (Nat.le_refl _) (by have := fuel_gt; omega) hd (by omega) (.inr ⟨by omega, by simp⟩)
  rw [Int.toNat_natCast, Int.toNat_natCast]
  cases hx : areaF area a b 64 d with
  | some e =>
    rw [hx] at this
    rw [obind_eq this]
    rfl
  | none =>
    rw [hx] at this
    obtain ⟨e, he⟩ := this
    rw [obind_eq he]
    rfl
theorem areaPutF_small {d : Dk} {area at' : Int} {b : List Int} (hs : dkSmall d) : dkSmall (areaPutF d area at' b).1 := by
  unfold areaPutF
  split
  · rename_i hd
    split
    · split
      · rename_i e he
        exact diskOk_small (areaF_ok hd he)
      · exact hs
    · exact hs
  · exact ⟨by simp, by simp⟩
theorem toByteS : ToOk (fun xs => laws_toByteS (xs, ())) (fun xs => xs.length ≤ 1048576 ∧ ∀ x ∈ xs, True) :=
  toS_ok fuel_gt (by decide) (fun _ => rfl) (k := laws_toByteS_k0 fuel) (e := fun v => some ((), v, ())) (fun _ _ _ => rfl) (fun _ _ => rfl)
theorem eqByteS : EqOk (fun xs ys => laws_eqByteS (xs, ys, ())) (BL (fun _ => True)) :=
  eqS_ok fuel_gt (fun _ _ => rfl) (k := laws_eqByteS_k0 fuel) (e := fun v u => some ((), ieq v u, ())) (fun _ _ _ => rfl) (fun v _ => by simp only [ieq_self])
def mkByte (_ : Int) (m : Int) : Int × Int := (wr .u8 m, m + 1)
theorem mkByte_le (x : Int) (m : Int) (_ : True) (_ : 0 ≤ m) (_ : m + ((1 : Nat) : Int) ≤ 1099511627776) : m ≤ (mkByte x m).2 ∧ (mkByte x m).2 ≤ m + ((1 : Nat) : Int) := by
  simp only [mkByte]; omega
theorem markByteS_step : MarkStep (laws_markByteS_k0 fuel) mkByte (fun _ => True) (fun _ => 1) := by
  refine ⟨fun n K m i xs h => ?_, fun n K m i xs x hx hl hB h0 h1 => ?_⟩
  · rw [laws_markByteS_k0]
    simp only
    rw [tb_neg (ilt_f (by simp only [llen]; omega))]
  · have hi := lt_of_get hx
    rw [laws_markByteS_k0]
    simp only
    rw [tb_pos (ilt_t (by simp only [llen]; omega)), chk_pos (by simp only [llen]; omega), obind_eq (at_some hx), wr_succ (by omega), wr64 (n := m + 1) (by omega) (by omega)]
    rfl
theorem markByteS {l : List Int} {m : Int} (h0 : 0 ≤ m) (hl : l.length ≤ 140737488351232) (h1 : m + l.length ≤ 1099511627776) : laws_markByteS (l, m, ()) = some (((marksL mkByte l m).1, ()), (marksL mkByte l m).2, ()) := by
  simp only [laws_markByteS, laws_markByteS_k]
  have := mark_loop markByteS_step mkByte_le (fun v0 => some ((v0.2.2.1, ()), v0.1.1, ())) l [] m fuel (fun _ _ => trivial) h0 (by rw [sumL_const]; omega) (by simpa using hl) (by have := fuel_gt; omega)
  simpa using this
theorem mkByte_row {l : List Int} {m : Int} (h0 : 0 ≤ m) (h1 : m + l.length ≤ 1099511627776) : m ≤ (marksL mkByte l m).2 ∧ (marksL mkByte l m).2 ≤ m + l.length := by
  have := marksL_le (B := fun _ => True) (w := fun _ => 1) mkByte_le l m (fun _ _ => trivial) h0 (by rw [sumL_const]; omega)
  rw [sumL_const] at this
  omega
theorem FnExactAreaPut_pure (x0 : Dk) (x1 x2 : Int) (x3 : List Int) (h0 : Bnd S51 x0) (_ : Bnd (.int .i64) x1) (_ : Bnd (.int .i64) x2) (_ : Bnd (.row false (.int .u8)) x3) : laws_FnExactAreaPut (x0, x1, x2, x3, ()) = some ((), true, ()) := by
  simp only [laws_FnExactAreaPut, laws_FnExactAreaPut_k]
  by_cases hl : x3.length ≤ 1048576
  rotate_left
  · exact tb_pos (ilt_t (by simp only [llen]; omega)) _ _
  rw [tb_neg (ilt_f (by simp only [llen]; omega))]
  obtain ⟨r, e1, e2⟩ := szDisk x0 1048576 (bnd_dk h0) (by omega) (by omega)
  simp only at e1
  simp only [obind_eq e1]
  rcases e2 with e2 | ⟨e2, e3⟩
  · exact tb_pos (ilt_t e2) _ _
  have hw : dkW x0 ≤ 1048576 := by omega
  have hs := dkSmall_of hw
  have hr := areaPutF_small (area := x1) (at' := x2) (b := x3) hs
  have hm := mkDk_le (d := x0) (m := 1) (by omega) (by have := hs.1; have := hs.2; omega)
  have hm' := mkDk_le (d := (areaPutF x0 x1 x2 x3).1) (m := 1) (by omega) (by have := hr.1; have := hr.2; omega)
  have t1 : laws_toDisk ((x0.1, x0.2.1, ()), ()) = some ((), x0, ()) := toDisk hw
  have t2 : laws_toByteS (x3, ()) = some ((), x3, ()) := toByteS x3 ⟨hl, fun _ _ => trivial⟩
  have t3 := eqDisk (d := x0) (by have := hs.1; omega) (by have := hs.2; omega)
  have t4 := eqDisk (d := (areaPutF x0 x1 x2 x3).1) (by have := hr.1; omega) (by have := hr.2; omega)
  have t5 := markDisk (d := x0) (m := 1) (by omega) (by have := hs.1; omega) (by have := hs.2; omega) (by have := hs.1; have := hs.2; omega)
  have t6 := markDisk (d := (areaPutF x0 x1 x2 x3).1) (m := 1) (by omega) (by have := hr.1; omega) (by have := hr.2; omega) (by have := hr.1; have := hr.2; omega)
  have t7 := heldDisk (d := (areaPutF x0 x1 x2 x3).1) (m := 1) (by omega) (by have := hr.1; omega) (by have := hr.2; omega) (by have := hr.1; have := hr.2; omega)
  have t8 : laws_eqByteS (x3, x3, ()) = some ((), true, ()) := eqByteS x3 ⟨by omega, fun _ _ => trivial⟩
  have t9 := markByteS (l := x3) (m := (mkDk x0 1).2) (by omega) (by omega) (by have := hs.1; have := hs.2; omega)
  have hb := mkByte_row (l := x3) (m := (mkDk x0 1).2) (by omega) (by have := hs.1; have := hs.2; omega)
  rw [tb_neg (ilt_f e2)]
  simp only [t1, t2, obind_some, spec_areaPut (d := x0) (area := x1) (at' := x2) (b := x3) hs, impl_areaPut (d := x0) (area := x1) (at' := x2) (b := x3) hs, t3, t4, t5, t6, t7, t8, t9, tb_nt, beq_self, ieq_self, ilt_f (show (0 : Int) ≤ (marksL mkByte x3 (mkDk x0 1).2).2 by omega), ilt_f (show (0 : Int) ≤ (mkDk (areaPutF x0 x1 x2 x3).1 1).2 by omega), tb_f]
end Go.Proofs.Ytaakhgjlekllgaa.V
namespace Go.Proofs.Ytaakhgjlekllgaa.V
open Go Go.RowKit
attribute [local irreducible] wr
def doneL : List Pt → List ByteArray → List ByteArray
  | [], s => s
  | p :: l, s => doneL l (s.set p.1.toNat p.2.1)
theorem doneL_length : ∀ (l : List Pt) (s : List ByteArray), (doneL l s).length = s.length
  | [], _ => rfl
  | p :: l, s => by rw [doneL, doneL_length l]; simp
theorem doneL_all {q : ByteArray → Bool} : ∀ (l : List Pt) (s : List ByteArray), s.all q = true → (∀ p ∈ l, q p.2.1 = true) → (doneL l s).all q = true
  | [], _, h, _ => h
  | p :: l, s, h, hp => by
    rw [doneL]
    refine doneL_all l _ ?_ (fun x hx => hp x (List.mem_cons_of_mem _ hx))
    rw [List.all_eq_true] at h ⊢
    intro x hx
    rcases List.mem_or_eq_of_mem_set hx with hx | rfl
    · exact h x hx
    · exact hp p (List.mem_cons_self ..)
def syncF (d : Dk) : Dk := (doneL d.2.1 d.1, [], ())
theorem putOk_out {p : Pt} (h : putOk p = true) : (0 ≤ p.1 ∧ p.1 ≤ 129) ∧ secOk p.2.1 = true := by
  simp only [putOk, Bool.and_eq_true] at h
  exact ⟨of_decide_eq_true h.1, h.2⟩
theorem diskOk_puts {d : Dk} (h : diskOk d = true) : ∀ p ∈ d.2.1, (0 ≤ p.1 ∧ p.1 ≤ 129) ∧ secOk p.2.1 = true := by
  simp only [diskOk, Bool.and_eq_true, List.all_eq_true] at h
  exact fun p hp => putOk_out (h.2.2.2 p hp)
theorem syncF_ok {d : Dk} (h : diskOk d = true) : diskOk (syncF d) = true := by
  have hl := diskOk_len h
  have hp := diskOk_puts h
  simp only [diskOk, Bool.and_eq_true] at h ⊢
  refine ⟨ieq_t (by simp only [syncF, llen, doneL_length]; omega), ile_t (by simp [syncF, llen]), ?_, rfl⟩
  exact doneL_all d.2.1 d.1 h.2.2.1 (fun p q => (hp p q).2)
theorem get_lt {α : Type} {l : List α} {i : Nat} (h : i < l.length) : ∃ x, l[i]? = some x := ⟨l[i], List.getElem?_eq_getElem h⟩
theorem at_int {α : Type} {l : List α} {i : Int} (h0 : 0 ≤ i) (h1 : i < l.length) : ∃ x, at? l i.toNat = some x := get_lt (l := l) (i := i.toNat) (by omega)
theorem impl_settled0 {K} {late : List Pt} (hl : late.length ≤ 140737488351232) : ∀ (post pre : List Pt) (s : List ByteArray) (m : Nat), late = pre ++ post → (∀ p ∈ post, 0 ≤ p.1 ∧ p.1 ≤ 129) → s.length = 130 → post.length < m →
      impl_settled_of156_k0 fuel m K ((late, (late.length : Int), (pre.length : Int), ()), ((), (), ()), s, ()) = K ((), ((), (), ()), doneL post s, ())
  | [], pre, s, m, e, hp, hs, hm => by
    obtain ⟨m, rfl⟩ : ∃ k, m = k + 1 := ⟨m - 1, by simp at hm; omega⟩
    rw [impl_settled_of156_k0]
    simp only
    rw [tb_neg (ilt_f (by rw [e]; simp))]
    rfl
  | p :: post, pre, s, m, e, hp, hs, hm => by
    obtain ⟨m, rfl⟩ : ∃ k, m = k + 1 := ⟨m - 1, by simp at hm; omega⟩
    have hx : late[pre.length]? = some p := by rw [e]; exact get_split pre p post
    have hlt := lt_of_get hx
    have hq := hp p (List.mem_cons_self ..)
    obtain ⟨y, hy⟩ := at_int (l := s) hq.1 (by omega)
    rw [impl_settled_of156_k0]
    simp only
    rw [tb_pos (ilt_t (by omega)), chk_pos (by omega), obind_eq (at_some hx)]
    simp only [impl_DiskSync_1, impl_DiskSync_1_k, obind_some]
    rw [tb_t, chk_pos (by simp only [llen]; omega), obind_eq hy, wr_succ (by omega)]
    have := impl_settled0 (K := K) hl post (pre ++ [p]) (s.set p.1.toNat p.2.1) m (by rw [e]; simp) (fun q hq => hp q (List.mem_cons_of_mem _ hq)) (by simpa using hs) (by simp at hm; omega)
    rw [List.length_append, List.length_singleton] at this
    exact this
theorem keepAll (i : Nat) : ieq (bandK .i64 (shrK .i64 2147483647 (Int.tmod (i : Int) 31)) 1) 1 = true := by
  have e : Int.tmod (i : Int) 31 = ((i % 31 : Nat) : Int) := by rw [Int.tmod_eq_emod_of_nonneg (by omega)]; omega
  rw [e]
  have key : ∀ j : Fin 31, ieq (bandK .i64 (shrK .i64 2147483647 (j.val : Int)) 1) 1 = true := by decide +kernel
  exact key ⟨i % 31, Nat.mod_lt _ (by decide)⟩
theorem spec_done0 {K} {d : Dk} (hl : d.2.1.length ≤ 140737488351232) : ∀ (post pre : List Pt) (s : List ByteArray) (m : Nat), d.2.1 = pre ++ post → (∀ p ∈ post, 0 ≤ p.1 ∧ p.1 ≤ 129) → s.length = 130 → post.length < m →
      spec_l15Done_k0 fuel m K ((2147483647, (pre.length : Int), ()), ((d.1, d.2.1, ()), (), (), ()), s, ()) = K ((), ((), (), ()), doneL post s, ())
  | [], pre, s, m, e, hp, hs, hm => by
    obtain ⟨m, rfl⟩ : ∃ k, m = k + 1 := ⟨m - 1, by simp at hm; omega⟩
    rw [spec_l15Done_k0]
    simp only
    rw [tb_neg (ilt_f (by rw [e]; simp [llen]))]
    rfl
  | p :: post, pre, s, m, e, hp, hs, hm => by
    obtain ⟨m, rfl⟩ : ∃ k, m = k + 1 := ⟨m - 1, by simp at hm; omega⟩
    have hx : d.2.1[pre.length]? = some p := by rw [e]; exact get_split pre p post
    have hlt := lt_of_get hx
    have hq := hp p (List.mem_cons_self ..)
    obtain ⟨y, hy⟩ := at_int (l := s) hq.1 (by omega)
    have hm0 : 0 ≤ Int.tmod (pre.length : Int) 31 := by rw [Int.tmod_eq_emod_of_nonneg (by omega)]; omega
    rw [spec_l15Done_k0]
    simp only
    rw [tb_pos (ilt_t (by simp only [llen]; omega)), chk_neg (by decide), chk_neg (by omega), tb_pos (keepAll _), chk_pos (by omega), obind_eq (at_some hx), chk_pos (by omega), obind_eq (at_some hx), chk_pos (by simp only [llen]; omega), obind_eq hy, wr_succ (by omega)]
    have := spec_done0 (K := K) hl post (pre ++ [p]) (s.set p.1.toNat p.2.1) m (by rw [e]; simp) (fun q hq => hp q (List.mem_cons_of_mem _ hq)) (by simpa using hs) (by simp at hm; omega)
    rw [List.length_append, List.length_singleton] at this
    exact this
theorem impl_sync {d : Dk} (hd : diskOk d = true) : impl_DiskSync ((d.1, d.2.1, ()), ()) = some ((), syncF d, true, ()) := by
  have hl := diskOk_len hd
  have hs := diskOk_small hd
  unfold impl_DiskSync impl_DiskSync_k
  rw [obind_eq (impl_ok d (by omega) (by omega)), hd, tb_nt]
  unfold impl_settled_of156 impl_settled_of156_k
  rw [obind_eq (clone_str hs.1)]
  have := impl_settled0 (K := fun v1 => some ((), (v1.2.2.1, [], ()), ())) (late := d.2.1) (by omega) d.2.1 [] d.1 fuel rfl (fun p hp => (diskOk_puts hd p hp).1) hl.1 (by have := fuel_gt; omega)
  exact (congrArg (fun z => obind z fun v1 => some ((), (v1.2.1.1, v1.2.1.2.1, ()), true, ())) this).trans rfl
theorem spec_sync {d : Dk} (hd : diskOk d = true) : spec_DiskSync ((d.1, d.2.1, ()), ()) = some ((), syncF d, true, ()) := by
  have hl := diskOk_len hd
  unfold spec_DiskSync spec_DiskSync_k
  rw [obind_eq (spec_ok d (by omega) (by omega)), hd, tb_nt]
  unfold spec_l15Done spec_l15Done_k
  simp only
  rw [chk_pos (by simp only [plus, llen]; omega)]
  have := spec_done0 (K := fun v0 => some ((), (v0.2.2.1, [], ()), ())) (d := d) (by omega) d.2.1 [] d.1 fuel rfl (fun p hp => (diskOk_puts hd p hp).1) hl.1 (by have := fuel_gt; omega)
  exact (congrArg (fun z => obind z fun v1 => some ((), (v1.2.1.1, v1.2.1.2.1, ()), true, ())) this).trans rfl
def zs : ByteArray := strOf (List.replicate 64 0)
def disk0 : Dk := (List.replicate 130 zs, [], ())
theorem disk0_ok : diskOk disk0 = true := by
  have h : secOk zs = true := ieq_t (by simp only [slen, zs, strOf_size, List.length_replicate]; rfl)
  simp only [diskOk, Bool.and_eq_true]
  refine ⟨ieq_t (by simp only [disk0, llen, List.length_replicate]; rfl), ile_t (by simp [disk0, llen]), ?_, rfl⟩
  rw [List.all_eq_true]
  intro x hx
  rw [List.eq_of_mem_replicate hx]
  exact h
theorem rep_loop {K} {z : ByteArray} {c : Nat} (hc : c ≤ 1048576) : ∀ (d n m : Nat), c ≤ n + d → 1 ≤ n → n ≤ c → d < m →
      slices_Repeat_string_k0 fuel m K (((n : Int), ()), (), List.replicate n z ++ List.replicate (c - n) (⟨#[]⟩ : ByteArray), ()) = K ((), (), List.replicate c z, ())
  | d, n, m, h1, h2, h3, hm => by
    obtain ⟨m, rfl⟩ : ∃ k, m = k + 1 := ⟨m - 1, by omega⟩
    have hlen : llen (List.replicate n z ++ List.replicate (c - n) (⟨#[]⟩ : ByteArray)) = c := by simp only [llen, List.length_append, List.length_replicate]; omega
    rw [slices_Repeat_string_k0]
    simp only [hlen]
    by_cases hn : n = c
    · subst hn
      rw [tb_neg (ilt_f (by omega))]
      simp
    · rw [tb_pos (ilt_t (by omega)), chk_pos (by omega), chk_pos (by omega), chk_pos (by omega)]
      simp only [Int.toNat_natCast, loOf, hiOf, show (0 : Int).toNat = 0 from rfl]
      have e1 : lcut (List.replicate n z ++ List.replicate (c - n) (⟨#[]⟩ : ByteArray)) 0 n = List.replicate n z := by
        simp only [lcut, List.drop_zero]
        rw [List.take_append_of_le_length (by simp), List.take_of_length_le (by simp)]
      rw [e1]
      obtain ⟨q, hq⟩ : ∃ q, q = min (c - n) n := ⟨_, rfl⟩
      have e2 : nmin (lgap n c) (llen (List.replicate n z)) = q := by rw [hq]; simp [nmin, lgap, llen]
      have e3 : lput (List.replicate n z ++ List.replicate (c - n) (⟨#[]⟩ : ByteArray)) n q (List.replicate n z) = List.replicate (n + q) z ++ List.replicate (c - (n + q)) (⟨#[]⟩ : ByteArray) := by
        have l1 : (List.replicate n z ++ List.replicate (c - n) (⟨#[]⟩ : ByteArray)).take n = List.replicate n z := by rw [List.take_append_of_le_length (by simp), List.take_of_length_le (by simp)]
        have l2 : (List.replicate n z).take q = List.replicate q z := by rw [List.take_replicate]; congr 1; omega
        have l3 : (List.replicate n z ++ List.replicate (c - n) (⟨#[]⟩ : ByteArray)).drop (n + q) = List.replicate (c - (n + q)) (⟨#[]⟩ : ByteArray) := by
          rw [List.drop_append, List.drop_of_length_le (by simp), List.nil_append, List.length_replicate, List.drop_replicate]; congr 1; omega
        simp only [lput, l1, l2, l3]
        rw [List.replicate_append_replicate]
      rw [e2, e3, wr64 (by omega) (by omega), show (n : Int) + (q : Int) = ((n + q : Nat) : Int) from rfl]
      exact rep_loop hc (d - 1) (n + q) m (by omega) (by omega) (by omega) (by omega)
theorem repeat1 {z : ByteArray} {c : Nat} (h0 : 1 ≤ c) (hc : c ≤ 1048576) : slices_Repeat_string ([z], (c : Int), ()) = some ((), List.replicate c z, ()) := by
  have hw : ∀ n : Nat, n ≤ 1048576 → wr .u64 (n : Int) = (n : Int) := fun n hn => by
    unfold wr
    show IntKind.u64.wrap (n : Int) = n
    simp only [IntKind.wrap, IntKind.signed, IntKind.bits]
    first | omega | (simp; omega)
  have hm : math_bits_Mul (((1 : Nat) : Int), (c : Int), ()) = some ((), 0, (c : Int), ()) := by
    unfold math_bits_Mul
    rw [mulG_eq]
    unfold mulF
    simp only
    rw [if_pos (by omega), Int.toNat_natCast, Int.toNat_natCast]
    have e1 : 1 * c / 18446744073709551616 = 0 := by omega
    have e2 : 1 * c % 18446744073709551616 = c := by omega
    rw [e1, e2]; rfl
  unfold slices_Repeat_string slices_Repeat_string_k
  simp only
  rw [tb_neg (ilt_f (by omega)), show ((llen [z] : Nat) : Int) = ((1 : Nat) : Int) from rfl, hw 1 (by omega), hw c hc, obind_eq hm]
  simp only
  rw [tb_neg (ilt_f (by omega)), tb_neg (ilt_f (by omega)), wr64 (by omega) (by omega), Int.toNat_natCast, chk_pos (by omega), chk_pos (by simp only [llen, lrep, List.length_replicate]; omega)]
  have e1 : nmin (lgap (loOf none) (hiOf (llen (lrep c (⟨#[]⟩ : ByteArray))) none)) (llen [z]) = 1 := by
    simp only [nmin, lgap, loOf, hiOf, llen, lrep, List.length_replicate, List.length_singleton]; omega
  have e2 : lput (lrep c (⟨#[]⟩ : ByteArray)) (loOf none) 1 [z] = List.replicate 1 z ++ List.replicate (c - 1) (⟨#[]⟩ : ByteArray) := by
    simp only [lput, loOf, lrep, List.take_zero, List.nil_append, List.drop_replicate, Nat.zero_add]; rfl
  rw [e1, e2]
  exact rep_loop hc c 1 fuel (by omega) (by omega) (by omega) (by have := fuel_gt; omega)
theorem impl_new : impl_DiskNew () = some ((), disk0, ()) := by
  unfold impl_DiskNew impl_DiskNew_k
  have h1 : strings_Repeat ((⟨#[0]⟩ : ByteArray), 64, ()) = some ((), strOf (List.replicate 64 0), ()) := repeat0 (n := 64) (by omega)
  have h2 : slices_Repeat_string ([zs], 130, ()) = some ((), List.replicate 130 zs, ()) := repeat1 (c := 130) (by omega) (by omega)
  rw [obind_eq h1]
  exact (congrArg (fun z => obind z fun v1 => some ((), (v1.2.1, [], ()), ())) h2).trans rfl
theorem spec_zeros : spec_l15Zeros () = some ((), zs, ()) := by
  unfold spec_l15Zeros spec_l15Zeros_k
  rw [chk_pos (by decide)]
  rfl
theorem spec_new0 {K} : ∀ (d i m : Nat), i + d = 130 → d < m → spec_DiskNew_k0 fuel m K (((i : Int), ()), ((), (), ()), List.replicate i zs, ()) = K ((), ((), (), ()), List.replicate 130 zs, ())
  | 0, i, m, h, hm => by
    obtain ⟨m, rfl⟩ : ∃ k, m = k + 1 := ⟨m - 1, by omega⟩
    obtain rfl : i = 130 := by omega
    rw [spec_DiskNew_k0]
    rw [tb_neg (ilt_f (by simp))]
  | d + 1, i, m, h, hm => by
    obtain ⟨m, rfl⟩ : ∃ k, m = k + 1 := ⟨m - 1, by omega⟩
    rw [spec_DiskNew_k0]
    simp only
    rw [tb_pos (ilt_t (by omega)), obind_eq spec_zeros, chk_pos (by simp only [plus, llen, List.length_replicate, List.length_singleton]; omega), wr_succ (by omega)]
    have e : lapp (List.replicate i zs) [zs] = List.replicate (i + 1) zs := by simp only [lapp]; rw [List.replicate_succ']
    simp only
    rw [e]
    exact spec_new0 d (i + 1) m (by omega) (by omega)
theorem spec_new : spec_DiskNew () = some ((), disk0, ()) := by
  unfold spec_DiskNew spec_DiskNew_k
  exact spec_new0 (K := fun v0 => some ((), (v0.2.2.1, [], ()), ())) 130 0 fuel rfl (by have := fuel_gt; omega)
end Go.Proofs.Ytaakhgjlekllgaa.V
namespace Go.Proofs.Ytaakhgjlekllgaa.V
open Go Go.RowKit
attribute [local irreducible] wr
abbrev En : Type := ByteArray × ByteArray × Unit
abbrev Ar : Type := Bool × Dk × Hd × List En × Unit
theorem fuel_succ : ∃ n, fuel = n + 1 := ⟨fuel - 1, by have := fuel_gt; omega⟩
def putHeadF (d : Dk) (h : Hd) : Dk × Bool := if headRight h.1 h.2.1 h.2.2.1 = true then putF d (Int.tmod h.1 2) (headText h.1 h.2.1 h.2.2.1) else (d, false)
theorem impl_putHead {d : Dk} {h : Hd} (hs : dkSmall d) : impl_Disk_putHead ((d.1, d.2.1, ()), (h.1, h.2.1, h.2.2.1, ()), ()) = some (((putHeadF d h).1, ()), (putHeadF d h).2, ()) := by
  unfold putHeadF
  simp only [impl_Disk_putHead, impl_Disk_putHead_k]
  cases hr : headRight h.1 h.2.1 h.2.2.1
  · rw [impl_head_bad hr, obind_some]
    simp only [tb_f]
    rfl
  · rw [impl_head hr, obind_some]
    simp only [tb_t]
    rw [chk_neg (by decide), impl_put hs, obind_some]
    rfl
theorem headPutF_eq {d : Dk} {h : Hd} (hd : diskOk d = true) : headPutF d h = putHeadF d h := by
  unfold headPutF putHeadF
  rw [if_pos hd]
theorem putHeadF_ok {d : Dk} {h : Hd} (hd : diskOk d = true) : diskOk (putHeadF d h).1 = true := by
  unfold putHeadF
  split
  · exact putF_ok hd
  · exact hd
def arch0 : Ar := (true, syncF (putHeadF disk0 (1, 0, 0, ())).1, (1, 0, 0, ()), [], ())
theorem impl_archNew : impl_ArchiveNew () = some ((), arch0, ()) := by
  unfold impl_ArchiveNew impl_ArchiveNew_k
  rw [obind_eq impl_new]
  have h1 := impl_putHead (d := disk0) (h := (1, 0, 0, ())) (diskOk_small disk0_ok)
  have h2 := impl_sync (putHeadF_ok (h := (1, 0, 0, ())) disk0_ok)
  rw [obind_eq h1]
  rw [obind_eq h2]
  rfl
theorem spec_archNew : spec_ArchiveNew () = some ((), arch0, ()) := by
  unfold spec_ArchiveNew spec_ArchiveNew_k
  rw [obind_eq spec_new]
  have h1 := spec_headPut (d := disk0) (h := (1, 0, 0, ())) (diskOk_small disk0_ok)
  rw [headPutF_eq disk0_ok] at h1
  have h2 := spec_sync (putHeadF_ok (h := (1, 0, 0, ())) disk0_ok)
  rw [obind_eq h1]
  rw [obind_eq h2]
  rfl
theorem eqEntry : EqOk (fun (v u : En) => laws_eqEntry ((v.1, v.2.1, ()), (u.1, u.2.1, ()), ())) (fun _ => True) := by
  intro v _
  simp only [laws_eqEntry, laws_eqEntry_k, seq_self, tb_nt]
theorem eqEntryS : EqOk (fun xs ys => laws_eqEntryS (xs, ys, ())) (BL (fun _ => True)) :=
  eqS_ok fuel_gt (fun _ _ => rfl) (k := laws_eqEntryS_k0 fuel) (fun _ _ _ => rfl) eqEntry
theorem eqHead (h : Hd) : laws_eqHead ((h.1, h.2.1, h.2.2.1, ()), (h.1, h.2.1, h.2.2.1, ()), ()) = some ((), true, ()) := by
  simp only [laws_eqHead, laws_eqHead_k, ieq_self, tb_nt]
theorem eqArchive {a : Ar} (h1 : a.2.1.1.length ≤ 140737488351232) (h2 : a.2.1.2.1.length ≤ 140737488351232) (h3 : a.2.2.2.1.length ≤ 140737488351232) :
    laws_eqArchive ((a.1, (a.2.1.1, a.2.1.2.1, ()), (a.2.2.1.1, a.2.2.1.2.1, a.2.2.1.2.2.1, ()), a.2.2.2.1, ()), (a.1, (a.2.1.1, a.2.1.2.1, ()), (a.2.2.1.1, a.2.2.1.2.1, a.2.2.1.2.2.1, ()), a.2.2.2.1, ()), ()) = some ((), true, ()) := by
  have e1 := eqDisk (d := a.2.1) h1 h2
  have e2 : laws_eqEntryS (a.2.2.2.1, a.2.2.2.1, ()) = some ((), true, ()) := eqEntryS a.2.2.2.1 ⟨h3, fun _ _ => trivial⟩
  have e3 := eqHead a.2.2.1
  unfold laws_eqArchive laws_eqArchive_k
  simp only
  rw [beq_self, tb_nt, obind_eq e1]
  simp only
  rw [tb_nt, obind_eq e3]
  simp only
  rw [tb_nt, obind_eq e2]
  rfl
theorem markEntry0 (m : Int) : laws_markEntryS ([], m, ()) = some (([], ()), m, ()) := by
  obtain ⟨n, hn⟩ := fuel_succ
  unfold laws_markEntryS laws_markEntryS_k
  rw [hn, laws_markEntryS_k0]
  simp only
  rw [tb_neg (ilt_f (by simp [llen]))]
theorem heldEntry0 (m : Int) : laws_heldEntryS ([], m, ()) = some ((), m, ()) := by
  obtain ⟨n, hn⟩ := fuel_succ
  unfold laws_heldEntryS laws_heldEntryS_k
  rw [hn, laws_heldEntryS_k0]
  simp only
  rw [tb_neg (ilt_f (by simp [llen]))]
theorem FnExactArchiveNew_pure : laws_FnExactArchiveNew () = some ((), true, ()) := by
  have hd : diskOk arch0.2.1 = true := syncF_ok (putHeadF_ok disk0_ok)
  have hl := diskOk_len hd
  have t1 := eqArchive (a := arch0) (by omega) (by omega) (by simp [arch0])
  have t2 := markDisk (d := arch0.2.1) (m := 1) (by omega) (by omega) (by omega) (by omega)
  have t3 := heldDisk (d := arch0.2.1) (m := 1) (by omega) (by omega) (by omega) (by omega)
  have hm := mkDk_le (d := arch0.2.1) (m := 1) (by omega) (by omega)
  have t4 : laws_markArchive ((arch0.1, (arch0.2.1.1, arch0.2.1.2.1, ()), (arch0.2.2.1.1, arch0.2.2.1.2.1, arch0.2.2.1.2.2.1, ()), arch0.2.2.2.1, ()), 1, ()) = some ((((), (mkDk arch0.2.1 1).1, ((), (), (), ()), [], ()), ()), (mkDk arch0.2.1 1).2, ()) := by
    unfold laws_markArchive laws_markArchive_k
    rw [obind_eq t2]
    have := markEntry0 (mkDk arch0.2.1 1).2
    exact (congrArg (fun z => obind z fun v1 => some ((((), ((mkDk arch0.2.1 1).1.1, (mkDk arch0.2.1 1).1.2.1, ()), ((), (), (), ()), v1.1.1, ()), ()), v1.2.1, ())) this).trans rfl
  have t5 : laws_heldArchive ((arch0.1, ((mkDk arch0.2.1 1).1.1, (mkDk arch0.2.1 1).1.2.1, ()), (arch0.2.2.1.1, arch0.2.2.1.2.1, arch0.2.2.1.2.2.1, ()), [], ()), 1, ()) = some ((), (mkDk arch0.2.1 1).2, ()) := by
    unfold laws_heldArchive laws_heldArchive_k
    rw [obind_eq t3]
    simp only
    rw [tb_neg (ilt_f (by omega)), obind_eq (heldEntry0 _)]
    simp only
    rw [tb_neg (ilt_f (by omega))]
  unfold laws_FnExactArchiveNew laws_FnExactArchiveNew_k
  rw [obind_eq spec_archNew, obind_eq impl_archNew, obind_eq t1]
  simp only
  rw [tb_nt, obind_eq t4]
  simp only
  rw [obind_eq t5]
  simp only
  rw [tb_neg (ilt_f (by omega)), ieq_self, tb_nt, obind_eq impl_archNew, obind_eq t1]
  simp only
  rw [tb_nt, obind_eq t5]
  simp only
  rw [tb_neg (ilt_f (by omega)), ieq_self, tb_nt]
end Go.Proofs.Ytaakhgjlekllgaa.V
namespace Go.Proofs.Ytaakhgjlekllgaa.V
open Go Go.RowKit
theorem bor_comm (k : IntKind) (a b : Int) : borK k a b = borK k b a := by
  unfold borK
  simp only [BitVec.or_comm]
def p128 : Nat → Nat
  | 0 => 1
  | k + 1 => 128 * p128 k
theorem pow_table : ∀ k : Fin 9, wr .u64 (wr .i64 (7 * (k.val : Int))) = ((7 * k.val : Nat) : Int) ∧ min (7 * k.val) IntKind.i64.bits = 7 * k.val ∧ (2 : Int) ^ (7 * k.val) = ((p128 k.val : Nat) : Int) ∧ p128 k.val ≤ 72057594037927936 ∧ 0 < p128 k.val ∧ 7 * k.val ≤ 63 := by decide +kernel
theorem small63 {p : Nat} (h : p ≤ 9151314442816847872) : (p : Int) < 2 ^ 63 := by omega
theorem join_step (i M x q : Nat) (hM : (2 : Int) ^ i = (M : Int)) (hM1 : M ≤ 72057594037927936) (hx : x < M) (hq : q ≤ 127) : borK .i64 ((q * M : Nat) : Int) (x : Int) = ((q * M + x : Nat) : Int) := by
  have hp : q * M ≤ 9151314442816847872 := Nat.le_trans (Nat.mul_le_mul hq hM1) (by decide)
  have hdiv : ((q * M : Nat) : Int) % 2 ^ i = 0 := by rw [hM, Int.natCast_mul]; exact Int.mul_emod_left ..
  have hx2 : (x : Int) < 2 ^ i := by rw [hM]; exact Int.ofNat_lt.2 hx
  have e : borK .i64 ((q * M : Nat) : Int) (x : Int) = Go.bits .or .i64 ((q * M : Nat) : Int) (x : Int) := rfl
  rw [e, Go.bits_join .i64 63 (by decide) (fun n a b => by rw [IntKind.wrap_i64]; omega) i _ _ (Int.natCast_nonneg _) hdiv (small63 hp) (Int.natCast_nonneg _) hx2 (small63 (Nat.le_trans (Nat.le_of_lt hx) (Nat.le_trans hM1 (by decide))))]
  exact (Int.natCast_add _ _).symm
theorem shl_step (i M q : Nat) (y : Int) (hy : y = (i : Int)) (hi : min i IntKind.i64.bits = i) (hM : (2 : Int) ^ i = (M : Int)) (hM1 : M ≤ 72057594037927936) (hq : q ≤ 127) : shlK .i64 (q : Int) y = ((q * M : Nat) : Int) := by
  have hp : q * M ≤ 9151314442816847872 := Nat.le_trans (Nat.mul_le_mul hq hM1) (by decide)
  unfold shlK
  rw [hy, Int.toNat_natCast, hi, hM, ← Int.natCast_mul]
  clear hM hi hy
  generalize q * M = p at hp
  exact wr64 (by omega) (by omega)
theorem unit_step (M x q : Nat) (hM1 : M ≤ 72057594037927936) (hx : x < M) (hq : q ≤ 127) : wr .i64 ((x : Int) + wr .i64 ((q : Int) * (M : Int))) = ((x + q * M : Nat) : Int) ∧ x + q * M < 128 * M := by
  have hp : q * M ≤ 127 * M := Nat.mul_le_mul_right _ hq
  rw [← Int.natCast_mul]
  generalize q * M = p at hp
  rw [wr64 (n := (p : Int)) (by omega) (by omega)]
  constructor
  · exact wrn (by omega) (by omega)
  · omega
theorem get_step {k x d : Nat} (hk : k ≤ 8) (hx : x < p128 k) (hd : d ≤ 255) :
    borK .i64 (x : Int) (shlK .i64 (bandK .i64 (d : Int) 127) (wr .u64 (wr .i64 (7 * (k : Int))))) = ((x + d % 128 * p128 k : Nat) : Int) ∧
    wr .i64 ((x : Int) + wr .i64 (Int.tmod (d : Int) 128 * ((p128 k : Nat) : Int))) = ((x + d % 128 * p128 k : Nat) : Int) ∧ x + d % 128 * p128 k < p128 (k + 1) ∧ p128 (k + 1) ≤ 9223372036854775808 := by
  obtain ⟨t1, t2, t3, t4, t5, t6⟩ := pow_table ⟨k, by omega⟩
  simp only at t1 t2 t3 t4 t5 t6
  have hdm : d % 128 ≤ 127 := Nat.le_of_lt_succ (Nat.mod_lt _ (by decide))
  obtain ⟨u1, u2⟩ := unit_step (p128 k) x (d % 128) t4 hx hdm
  refine ⟨?_, ?_, ?_, ?_⟩
  · rw [and127 (Nat.le_trans hd (by decide)), bor_comm, shl_step (7 * k) (p128 k) (d % 128) _ t1 t2 t3 t4 hdm, join_step (7 * k) (p128 k) x (d % 128) t3 t4 hx hdm, Nat.add_comm]
  · rw [Int.tmod_eq_emod_of_nonneg (Int.natCast_nonneg _)]
    exact u1
  · exact u2
  · exact Nat.le_trans (Nat.mul_le_mul_left 128 t4) (by decide)
theorem sh_nonneg {k : Nat} (hk : k ≤ 8) : ¬ wr .u64 (wr .i64 (7 * (k : Int))) < 0 := by
  have := (pow_table ⟨k, Nat.lt_succ_of_le hk⟩).1
  exact Int.not_lt.2 (Int.le_trans (Int.natCast_nonneg (7 * k)) (Int.le_of_eq this.symm))
def GetOk (l : List Int) (a : Int) (r : Int × Int × Bool) : Prop := (r.2.2 = false → r = (0, 0, false)) ∧ (r.2.2 = true → 0 ≤ r.1 ∧ r.1 ≤ 9223372036854775807 ∧ 0 ≤ a ∧ a < r.2.1 ∧ r.2.1 ≤ (l.length : Int))
abbrev numOut (r : Int × Int × Bool) : Option (Unit × (Int × Int × Bool × Unit)) := some ((), r.1, r.2.1, r.2.2, ())
theorem get_loops (P : Nat → Nat) (hP : P = p128) (l : List Int) (hl : l.length ≤ 140737488355328) (hb : ∀ y ∈ l, 0 ≤ y ∧ y ≤ 255) (a : Nat) (ha : a ≤ l.length) : ∀ (d k x m m' : Nat) (u : Int), k + d = 9 → d < m → d < m' → x < P k → (k ≤ 8 → u = ((P k : Nat) : Int)) →
    ∃ r : Int × Int × Bool, spec_GetNum_k0 fuel m (fun _ => some ((), 0, 0, false, ())) ((l, (a : Int), (x : Int), u, (k : Int), ()), (), ()) = numOut r ∧ impl_GetNum_k0 fuel m' (fun _ => some ((), 0, 0, false, ())) ((l, ((a + k : Nat) : Int), (x : Int), (k : Int), ()), (), ()) = numOut r ∧ GetOk l a r := by
  intro d
  induction d with
  | zero =>
    intro k x m m' u hk hm hm' hx hu
    obtain ⟨m, rfl⟩ : ∃ q, m = q + 1 := ⟨m - 1, by omega⟩
    obtain ⟨m', rfl⟩ : ∃ q, m' = q + 1 := ⟨m' - 1, by omega⟩
    refine ⟨(0, 0, false), ?_, ?_, fun _ => rfl, fun h => by cases h⟩
    · rw [spec_GetNum_k0]; simp only; rw [tb_neg (ilt_f (by omega))]
    · rw [impl_GetNum_k0]; simp only; rw [tb_neg (ilt_f (by omega))]
  | succ d ih =>
    intro k x m m' u hk hm hm' hx hu
    obtain ⟨m, rfl⟩ : ∃ q, m = q + 1 := ⟨m - 1, by omega⟩
    obtain ⟨m', rfl⟩ : ∃ q, m' = q + 1 := ⟨m' - 1, by omega⟩
    have hu := hu (by omega)
    have hw : Hid (wr .i64 ((a : Int) + (k : Int)) = ((a + k : Nat) : Int)) := ⟨wrn (by omega) (by omega)⟩
    by_cases hin : a + k < l.length
    rotate_left
    · refine ⟨(0, 0, false), ?_, ?_, fun _ => rfl, fun h => by cases h⟩
      · rw [spec_GetNum_k0]; simp only [hw.out]; rw [tb_pos (ilt_t (by omega)), tb_neg (ilt_f (by simp only [llen]; omega))]
      · rw [impl_GetNum_k0]; simp only; rw [tb_pos (ilt_t (by omega)), tb_neg (ilt_f (by simp only [llen]; omega))]
    obtain ⟨y, hy⟩ : ∃ y, l[a + k]? = some y := ⟨l[a + k], List.getElem?_eq_getElem hin⟩
    have hyb := hb y (List.mem_of_getElem? hy)
    obtain ⟨v, rfl⟩ := Int.eq_ofNat_of_zero_le hyb.1
    have hv2 : v ≤ 255 := by have := hyb.2; omega
    have hwv : Hid (wr .i64 (v : Int) = (v : Int)) := ⟨wrn rfl (by omega)⟩
    obtain ⟨s1, s2, s3, s4⟩ := get_step (k := k) (x := x) (d := v) (by omega) (by rw [← hP]; exact hx) hv2
    rw [← hP] at s1 s2 s3 s4
    obtain ⟨X, hX⟩ : ∃ X : Nat, X = x + v % 128 * P k := ⟨_, rfl⟩
    rw [← hX] at s1 s2 s3
    have hX := Hid.mk hX
    have S1 := Hid.mk s1
    have S2 := Hid.mk s2
    clear s1 s2
    have hn : Hid (wr .i64 (((a + k : Nat) : Int) + 1) = ((a + (k + 1) : Nat) : Int)) := ⟨wrn (by omega) (by omega)⟩
    have hk1 : Hid (wr .i64 ((k : Int) + 1) = ((k + 1 : Nat) : Int)) := ⟨wrn (by omega) (by omega)⟩
    have S : ∀ r, tb (ilt (v : Int) 128) (tb (ieq (v : Int) 0) (tb (ilt 0 (k : Int)) (some ((), 0, 0, false, ())) (some ((), (X : Int), ((a + (k + 1) : Nat) : Int), true, ()))) (some ((), (X : Int), ((a + (k + 1) : Nat) : Int), true, ()))) (spec_GetNum_k0 fuel m (fun _ => some ((), 0, 0, false, ())) ((l, (a : Int), (X : Int), wr .i64 (u * 128), ((k + 1 : Nat) : Int), ()), (), ())) = numOut r →
        spec_GetNum_k0 fuel (m + 1) (fun _ => some ((), 0, 0, false, ())) ((l, (a : Int), (x : Int), u, (k : Int), ()), (), ()) = numOut r := fun r h => by
      rw [spec_GetNum_k0]
      simp only [hw.out]
      rw [tb_pos (ilt_t (by omega)), tb_pos (ilt_t (by simp only [llen]; omega)), chk_pos (by omega), obind_eq (at_some hy), chk_neg (by decide), hwv.out, hn.out, hk1.out, hu, S2.out, ← hu]
      exact h
    have I : ∀ r, tb (ilt (v : Int) 128) (tb (ieq (v : Int) 0) (tb (ilt 0 (k : Int)) (some ((), 0, 0, false, ())) (some ((), (X : Int), ((a + (k + 1) : Nat) : Int), true, ()))) (some ((), (X : Int), ((a + (k + 1) : Nat) : Int), true, ()))) (impl_GetNum_k0 fuel m' (fun _ => some ((), 0, 0, false, ())) ((l, ((a + (k + 1) : Nat) : Int), (X : Int), ((k + 1 : Nat) : Int), ()), (), ())) = numOut r →
        impl_GetNum_k0 fuel (m' + 1) (fun _ => some ((), 0, 0, false, ())) ((l, ((a + k : Nat) : Int), (x : Int), (k : Int), ()), (), ()) = numOut r := fun r h => by
      rw [impl_GetNum_k0]
      simp only
      rw [tb_pos (ilt_t (by omega)), tb_pos (ilt_t (by simp only [llen]; omega)), chk_pos (by omega), obind_eq (at_some hy), chk_neg (sh_nonneg (by omega)), hwv.out, hn.out, hk1.out, S1.out]
      exact h
    by_cases c1 : v < 128
    · by_cases c2 : v = 0 ∧ 0 < k
      · refine ⟨(0, 0, false), S _ ?_, I _ ?_, fun _ => rfl, fun h => by cases h⟩
        · rw [tb_pos (ilt_t (by omega)), tb_pos (ieq_t (by omega)), tb_pos (ilt_t (by omega))]
        · rw [tb_pos (ilt_t (by omega)), tb_pos (ieq_t (by omega)), tb_pos (ilt_t (by omega))]
      · have hq : ∀ z, tb (ilt (v : Int) 128) (tb (ieq (v : Int) 0) (tb (ilt 0 (k : Int)) (some ((), 0, 0, false, ())) (some ((), (X : Int), ((a + (k + 1) : Nat) : Int), true, ()))) (some ((), (X : Int), ((a + (k + 1) : Nat) : Int), true, ()))) z = numOut ((X : Int), ((a + (k + 1) : Nat) : Int), true) := fun z => by
          rw [tb_pos (ilt_t (by omega))]
          by_cases c3 : v = 0
          · rw [tb_pos (ieq_t (by omega)), tb_neg (ilt_f (by omega))]
          · rw [tb_neg (ieq_f (by omega))]
        refine ⟨_, S _ (hq _), I _ (hq _), fun h => (by cases h), fun _ => ⟨?_, ?_, ?_, ?_, ?_⟩⟩
        · simp only; omega
        · simp only; omega
        · omega
        · simp only; omega
        · simp only; omega
    · obtain ⟨r, r1, r2, r3⟩ := ih (k + 1) X m m' (wr .i64 (u * 128)) (by omega) (by omega) (by omega) s3 (fun h8 => by
        have t4 := (pow_table ⟨k + 1, by omega⟩).2.2.2.1
        simp only at t4
        rw [← hP] at t4
        have e2 : u * 128 = ((P (k + 1) : Nat) : Int) := by
          rw [hu, show P (k + 1) = 128 * P k by rw [hP]; rfl]
          rw [Int.natCast_mul, Int.mul_comm]; rfl
        rw [e2]
        exact wrn rfl (by omega))
      refine ⟨r, S r ?_, I r ?_, r3⟩
      · rw [tb_neg (ilt_f (by omega))]; exact r1
      · rw [tb_neg (ilt_f (by omega))]; exact r2
theorem getNum (l : List Int) (hl : l.length ≤ 140737488355328) (hb : ∀ y ∈ l, 0 ≤ y ∧ y ≤ 255) (a : Int) : ∃ r, spec_GetNum (l, a, ()) = numOut r ∧ impl_GetNum (l, a, ()) = numOut r ∧ GetOk l a r := by
  unfold spec_GetNum impl_GetNum spec_GetNum_k impl_GetNum_k
  simp only
  have hw : wr .i64 (((llen l : Nat) : Int) - 1) = (l.length : Int) - 1 := by simp only [llen]; exact wr64 (by omega) (by omega)
  rw [hw, obind_eq (impl_in ..)]
  simp only
  by_cases h1 : a < 0
  · refine ⟨(0, 0, false), ?_, ?_, fun _ => rfl, fun h => by cases h⟩
    · rw [tb_pos (ilt_t h1)]
    · rw [decide_eq_false (by omega), tb_nf]
  rw [tb_neg (ilt_f (by omega))]
  by_cases h2 : (l.length : Int) ≤ a
  · refine ⟨(0, 0, false), ?_, ?_, fun _ => rfl, fun h => by cases h⟩
    · rw [tb_pos (ile_t (by simp only [llen]; omega))]
    · rw [decide_eq_false (by omega), tb_nf]
  · obtain ⟨n, rfl⟩ := Int.eq_ofNat_of_zero_le (show 0 ≤ a by omega)
    rw [tb_neg (ile_f (by simp only [llen]; omega)), decide_eq_true (by omega), tb_nt]
    exact get_loops p128 rfl l hl hb n (by omega) 9 0 0 fuel fuel 1 (by omega) (by have := fuel_gt; omega) (by have := fuel_gt; omega) (by decide) (fun _ => rfl)
theorem bytes_range (s : ByteArray) : ∀ y ∈ bytesOf s, 0 ≤ y ∧ y ≤ 255 := by
  intro y hy
  simp only [bytesOf, List.mem_map] at hy
  obtain ⟨b, _, rfl⟩ := hy
  have := b.toNat_lt
  omega
end Go.Proofs.Ytaakhgjlekllgaa.V
namespace Go.Proofs.Ytaakhgjlekllgaa.V
open Go Go.RowKit
attribute [local irreducible] wr
theorem headPack_any (a b c : Int) : ∃ t ok, spec_HeadPack ((a, b, c, ()), ()) = some ((), t, ok, ()) ∧ impl_HeadPack ((a, b, c, ()), ()) = some ((), t, ok, ()) := by
  cases h : headRight a b c
  · exact ⟨_, _, spec_head_bad h, impl_head_bad h⟩
  · exact ⟨_, _, spec_head h, impl_head h⟩
theorem getter_bad {l : List Int} (hl : l.length ≤ 140737488355328) (hb : ∀ y ∈ l, 0 ≤ y ∧ y ≤ 255) (a : Int) : impl_getter_num ((l, a, true, ()), ()) = some (((l, a, true, ()), ()), 0, ()) := by
  obtain ⟨r, r1, r2, r3⟩ := getNum l hl hb a
  unfold impl_getter_num impl_getter_num_k
  rw [obind_eq r2]
  rfl
theorem getter_ok {l : List Int} {a : Int} {r : Int × Int × Bool} (h : impl_GetNum (l, a, ()) = numOut r) : impl_getter_num ((l, a, false, ()), ()) = some (((l, if r.2.2 = true then r.2.1 else a, !r.2.2, ()), ()), if r.2.2 = true then r.1 else 0, ()) := by
  unfold impl_getter_num impl_getter_num_k
  rw [obind_eq h]
  cases hr : r.2.2
  · simp only [hr]; rfl
  · simp only [hr]; rfl
theorem headRead (s : ByteArray) (hs : s.size ≤ 140737488355328) : ∃ (h : Hd) (ok : Bool), spec_HeadRead (s, ()) = some ((), (h.1, h.2.1, h.2.2.1, ()), ok, ()) ∧ impl_HeadRead (s, ()) = some ((), (h.1, h.2.1, h.2.2.1, ()), ok, ()) ∧ (ok = true → headRight h.1 h.2.1 h.2.2.1 = true) ∧ (ok = false → h = (0, 0, 0, ())) := by
  have hl : (bytesOf s).length ≤ 140737488355328 := by rw [bytes_length]; exact hs
  have hb := bytes_range s
  obtain ⟨r0, s0, i0, g0⟩ := getNum (bytesOf s) hl hb 0
  obtain ⟨r1, s1, i1, g1⟩ := getNum (bytesOf s) hl hb r0.2.1
  obtain ⟨r2, s2, i2, g2⟩ := getNum (bytesOf s) hl hb r1.2.1
  obtain ⟨t3, ok3, s3, i3⟩ := headPack_any r0.1 r1.1 r2.1
  obtain ⟨t4, ok4, s4, i4⟩ := headPack_any 0 0 0
  have spec_eq : spec_HeadRead (s, ()) = tb (bnot r0.2.2) (some ((), (0, 0, 0, ()), false, ())) (tb (bnot r1.2.2) (some ((), (0, 0, 0, ()), false, ())) (tb (bnot r2.2.2) (some ((), (0, 0, 0, ()), false, ())) (tb (bnot ok3) (some ((), (0, 0, 0, ()), false, ())) (tb (bnot (seq t3 s)) (some ((), (0, 0, 0, ()), false, ())) (some ((), (r0.1, r1.1, r2.1, ()), true, ())))))) := by
    unfold spec_HeadRead spec_HeadRead_k
    simp only
    rw [obind_eq s0]
    simp only
    rw [obind_eq s1]
    simp only
    rw [obind_eq s2]
    simp only
    rw [obind_eq s3]
  rw [spec_eq]
  unfold impl_HeadRead impl_HeadRead_k
  simp only
  rw [obind_eq (getter_ok i0)]
  cases h0 : r0.2.2
  · refine ⟨(0, 0, 0, ()), false, by rw [tb_nf], ?_, (fun h => by cases h), fun _ => rfl⟩
    simp only [Bool.not_false, Bool.false_eq_true, if_false]
    rw [obind_eq (getter_bad hl hb _)]
    simp only
    rw [obind_eq (getter_bad hl hb _)]
    simp only
    rw [obind_eq i4]
    simp only [tb_t]
  simp only [Bool.not_true, if_true]
  rw [obind_eq (getter_ok i1)]
  cases h1 : r1.2.2
  · refine ⟨(0, 0, 0, ()), false, by rw [tb_nt, tb_nf], ?_, (fun h => by cases h), fun _ => rfl⟩
    simp only [Bool.not_false, Bool.false_eq_true, if_false]
    rw [obind_eq (getter_bad hl hb _)]
    simp only
    obtain ⟨t5, ok5, s5, i5⟩ := headPack_any r0.1 0 0
    rw [obind_eq i5]
    simp only [tb_t]
  simp only [Bool.not_true, if_true]
  rw [obind_eq (getter_ok i2)]
  cases h2 : r2.2.2
  · refine ⟨(0, 0, 0, ()), false, by rw [tb_nt, tb_nt, tb_nf], ?_, (fun h => by cases h), fun _ => rfl⟩
    simp only [Bool.not_false, Bool.false_eq_true, if_false]
    obtain ⟨t5, ok5, s5, i5⟩ := headPack_any r0.1 r1.1 0
    rw [obind_eq i5]
    simp only [tb_t]
  simp only [Bool.not_true, if_true]
  rw [obind_eq i3]
  simp only [tb_f, tb_nt]
  cases hok : ok3
  · exact ⟨(0, 0, 0, ()), false, by rw [tb_nf], by rw [tb_nf], (fun h => by cases h), fun _ => rfl⟩
  rw [tb_nt]
  cases hq : seq t3 s
  · exact ⟨(0, 0, 0, ()), false, by rw [tb_nf], by rw [tb_nf], (fun h => by cases h), fun _ => rfl⟩
  rw [tb_nt]
  refine ⟨(r0.1, r1.1, r2.1, ()), true, rfl, rfl, fun _ => ?_, (fun h => by cases h)⟩
  cases hr : headRight r0.1 r1.1 r2.1
  · rw [spec_head_bad hr] at s3
    subst hok
    simp at s3
  · rfl
theorem headNow {d : Dk} (hs : dkSmall d) : ∃ h : Hd, spec_HeadNow ((d.1, d.2.1, ()), ()) = some ((), (h.1, h.2.1, h.2.2.1, ()), ()) ∧ impl_HeadNow ((d.1, d.2.1, ()), ()) = some ((), (h.1, h.2.1, h.2.2.1, ()), ()) ∧ (headRight h.1 h.2.1 h.2.2.1 = true ∨ h = (0, 0, 0, ())) := by
  have l1 := hs.1
  have l2 := hs.2
  unfold spec_HeadNow spec_HeadNow_k impl_HeadNow impl_HeadNow_k
  simp only
  rw [obind_eq (spec_ok d (by omega) (by omega)), obind_eq (impl_ok d (by omega) (by omega))]
  simp only
  cases hd : diskOk d
  · exact ⟨(0, 0, 0, ()), by rw [tb_nf], by rw [tb_nf], .inr rfl⟩
  rw [tb_nt, tb_nt]
  have hl := diskOk_len hd
  have z0 := secF_size (at' := 0) hd (by omega) (by omega)
  have z1 := secF_size (at' := 1) hd (by omega) (by omega)
  obtain ⟨a, ok0, a1, a2, a3, a4⟩ := headRead (secF d 0) (by omega)
  obtain ⟨b, ok1, b1, b2, b3, b4⟩ := headRead (secF d 1) (by omega)
  have ha : ok0 = true → 1 ≤ a.1 := fun h => by have := a3 h; simp only [headRight, decide_eq_true_eq] at this; omega
  have hbb : ok1 = true → 1 ≤ b.1 := fun h => by have := b3 h; simp only [headRight, decide_eq_true_eq] at this; omega
  rw [obind_eq (spec_sec (by omega) (by omega) (by omega))]
  simp only
  rw [obind_eq a1]
  simp only
  rw [obind_eq (spec_sec (by omega) (by omega) (by omega))]
  simp only
  rw [obind_eq b1]
  simp only
  have step : ∀ (n : Nat) (at' : Nat) (best z : Hd) (K : Unit × (((Int × Int × Int × Unit) × (Int × Int × Int × Unit) × Unit) × Unit) → Option (Unit × ((Int × Int × Int × Unit) × Unit))) (c : Hd) (ok : Bool), at' < 2 → impl_HeadRead (secF d (at' : Int), ()) = some ((), (c.1, c.2.1, c.2.2.1, ()), ok, ()) →
      impl_HeadNow_k0 fuel (n + 1) K (((at' : Int), ()), (((d.1, d.2.1, ()), (z.1, z.2.1, z.2.2.1, ()), (best.1, best.2.1, best.2.2.1, ()), ()), ())) = impl_HeadNow_k0 fuel n K ((((at' + 1 : Nat) : Int), ()), (((d.1, d.2.1, ()), (z.1, z.2.1, z.2.2.1, ()), (if ok = true ∧ best.1 < c.1 then (c.1, c.2.1, c.2.2.1, ()) else (best.1, best.2.1, best.2.2.1, ())), ()), ())) := by
    intro n at' best z K c ok h2 hr
    rw [impl_HeadNow_k0]
    simp only
    rw [tb_pos (ilt_t (by omega)), obind_eq (impl_sec (by omega) (by omega) (by omega))]
    simp only
    rw [obind_eq hr, wr_succ (by omega)]
    simp only
    cases ok
    · rw [tb_f]; simp
    · rw [tb_t]
      by_cases hc : best.1 < c.1
      · rw [tb_pos (ilt_t hc), if_pos ⟨rfl, hc⟩]
      · rw [tb_neg (ilt_f (by omega)), if_neg (fun q => hc q.2)]
  obtain ⟨n, hn⟩ : ∃ n, fuel = n + 3 := ⟨fuel - 3, by have := fuel_gt; omega⟩
  have fin : ∀ (K : Unit × (((Int × Int × Int × Unit) × (Int × Int × Int × Unit) × Unit) × Unit) → Option (Unit × ((Int × Int × Int × Unit) × Unit))), impl_HeadNow_k0 fuel fuel K ((((0 : Nat) : Int), ()), (((d.1, d.2.1, ()), (0, 0, 0, ()), (0, 0, 0, ()), ()), ())) = K ((), (((0, 0, 0, ()), (if ok1 = true ∧ a.1 < b.1 then (b.1, b.2.1, b.2.2.1, ()) else (a.1, a.2.1, a.2.2.1, ())), ()), ())) := by
    intro K
    have e : ∀ s, impl_HeadNow_k0 fuel fuel K s = impl_HeadNow_k0 fuel (n + 3) K s := fun s => by rw [← hn]
    have h1 := step (n + 2) 0 (0, 0, 0, ()) (0, 0, 0, ()) K a ok0 (by omega) a2
    have e1 : (if ok0 = true ∧ (0 : Int) < a.1 then (a.1, a.2.1, a.2.2.1, ()) else ((0 : Int), (0 : Int), (0 : Int), ())) = (a.1, a.2.1, a.2.2.1, ()) := by
      cases hq : ok0
      · rw [a4 hq]; simp
      · have := ha hq; rw [if_pos ⟨rfl, by omega⟩]
    have h2 := step (n + 1) 1 a (0, 0, 0, ()) K b ok1 (by omega) b2
    rw [e, h1]
    simp only
    rw [e1, h2, impl_HeadNow_k0]
    simp only
    rw [tb_neg (ilt_f (by omega))]
  have ra : headRight a.1 a.2.1 a.2.2.1 = true ∨ a = (0, 0, 0, ()) := by
    cases hq : ok0
    · exact .inr (a4 hq)
    · exact .inl (a3 hq)
  have rb : headRight b.1 b.2.1 b.2.2.1 = true ∨ b = (0, 0, 0, ()) := by
    cases hq : ok1
    · exact .inr (b4 hq)
    · exact .inl (b3 hq)
  by_cases c : a.1 < b.1
  · refine ⟨b, by rw [tb_pos (ilt_t c)], (fin _).trans ?_, rb⟩
    cases hq : ok1
    · have h0 : 0 ≤ a.1 := by
        cases hp : ok0
        · rw [a4 hp]; simp
        · have := ha hp; omega
      have := b4 hq
      rw [this] at c
      simp at c
      omega
    · rw [if_pos ⟨rfl, c⟩]
  · refine ⟨a, by rw [tb_neg (ilt_f (by omega))], (fin _).trans ?_, ra⟩
    rw [if_neg (fun q => c q.2)]
end Go.Proofs.Ytaakhgjlekllgaa.V
namespace Go.Proofs.Ytaakhgjlekllgaa.V
open Go Go.RowKit
attribute [local irreducible] wr
def urlFrom (s : ByteArray) : Nat → Nat → Bool
  | 0, _ => true
  | d + 1, i => if bt s (i : Int) < 33 then false else if 126 < bt s (i : Int) then false else urlFrom s d (i + 1)
def urlGood (s : ByteArray) : Bool := decide (1 ≤ (s.size : Int) ∧ (s.size : Int) ≤ 60) && urlFrom s s.size 0
theorem url_spec0 {K} (s : ByteArray) (hn : s.size ≤ 140737488355328) : ∀ (d i m : Nat), i + d = s.size → d < m → spec_UrlOk_k0 fuel m K ((s, (i : Int), ()), (), ()) = if urlFrom s d i = true then K ((), (), ()) else some ((), false, ())
  | 0, i, m, h, hm => by
    obtain ⟨m, rfl⟩ : ∃ q, m = q + 1 := ⟨m - 1, by omega⟩
    rw [spec_UrlOk_k0]
    simp only
    rw [tb_neg (ilt_f (by simp only [slen]; omega)), urlFrom, if_pos rfl]
  | d + 1, i, m, h, hm => by
    obtain ⟨m, rfl⟩ : ∃ q, m = q + 1 := ⟨m - 1, by omega⟩
    rw [spec_UrlOk_k0, urlFrom]
    simp only
    rw [tb_pos (ilt_t (by simp only [slen]; omega)), chk_pos (by simp only [slen]; omega)]
    by_cases h1 : bt s (i : Int) < 33
    · rw [tb_pos (ilt_t h1), if_pos h1, if_neg (by decide)]
    · rw [tb_neg (ilt_f (by omega)), if_neg h1, chk_pos (by simp only [slen]; omega)]
      by_cases h2 : 126 < bt s (i : Int)
      · rw [tb_pos (ilt_t h2), if_pos h2, if_neg (by decide)]
      · rw [tb_neg (ilt_f (by omega)), if_neg h2, wr_succ (by omega)]
        exact url_spec0 s hn d (i + 1) m (by omega) (by omega)
theorem url_impl0 {K} (s : ByteArray) (hn : s.size ≤ 140737488355328) : ∀ (d i m : Nat), i + d = s.size → d < m → impl_UrlOk_k0 fuel m K ((s, (i : Int), ()), (), ()) = if urlFrom s d i = true then K ((s, ()), (), ()) else some ((), false, ())
  | 0, i, m, h, hm => by
    obtain ⟨m, rfl⟩ : ∃ q, m = q + 1 := ⟨m - 1, by omega⟩
    rw [impl_UrlOk_k0]
    simp only
    rw [tb_neg (ilt_f (by simp only [slen]; omega)), urlFrom, if_pos rfl]
  | d + 1, i, m, h, hm => by
    obtain ⟨m, rfl⟩ : ∃ q, m = q + 1 := ⟨m - 1, by omega⟩
    rw [impl_UrlOk_k0, urlFrom]
    simp only
    rw [tb_pos (ilt_t (by simp only [slen]; omega)), chk_pos (by simp only [slen]; omega)]
    by_cases h1 : bt s (i : Int) < 33
    · rw [tb_pos (ilt_t h1), if_pos h1, if_neg (by decide)]
    · rw [tb_neg (ilt_f (by omega)), if_neg h1, chk_pos (by simp only [slen]; omega)]
      by_cases h2 : 126 < bt s (i : Int)
      · rw [tb_pos (ilt_t h2), if_pos h2, if_neg (by decide)]
      · rw [tb_neg (ilt_f (by omega)), if_neg h2, wr_succ (by omega)]
        exact url_impl0 s hn d (i + 1) m (by omega) (by omega)
theorem spec_url (s : ByteArray) (hn : s.size ≤ 140737488351232) : spec_UrlOk (s, ()) = some ((), urlGood s, ()) := by
  unfold spec_UrlOk spec_UrlOk_k urlGood
  simp only
  rw [show ((slen s : Nat) : Int) = (s.size : Int) from rfl, obind_eq (spec_in ..)]
  simp only
  by_cases h : 1 ≤ (s.size : Int) ∧ (s.size : Int) ≤ 60
  · rw [decide_eq_true h, tb_nt]
    refine (url_spec0 s (by omega) s.size 0 fuel (by omega) (by have := fuel_gt; omega)).trans ?_
    cases urlFrom s s.size 0 <;> rfl
  · rw [decide_eq_false h, tb_nf]; rfl
theorem impl_url (s : ByteArray) (hn : s.size ≤ 140737488351232) : impl_UrlOk (s, ()) = some ((), urlGood s, ()) := by
  unfold impl_UrlOk impl_UrlOk_k urlGood
  refine (url_impl0 s (by omega) s.size 0 fuel (by omega) (by have := fuel_gt; omega)).trans ?_
  simp only
  cases urlFrom s s.size 0
  · simp
  · rw [if_pos rfl, obind_eq (impl_in ..), Bool.and_true]
    rfl
theorem urlGood_size {s : ByteArray} (h : urlGood s = true) : 1 ≤ s.size ∧ s.size ≤ 60 := by
  unfold urlGood at h
  simp at h
  omega
def textForm (s : ByteArray) : List Int := numForm s.size ++ bytesOf s
theorem textForm_length (s : ByteArray) : (textForm s).length ≤ s.size + 10 := by
  have := numForm_length s.size
  simp [textForm, bytes_length]; omega
theorem spec_text {s : ByteArray} (hn : s.size ≤ 140737488355000) : spec_PutText (s, ()) = some ((), textForm s, ()) := by
  have := numForm_length s.size
  have h : spec_PutNum (((slen s : Nat) : Int), ()) = some ((), numForm s.size, ()) := spec_num (x := s.size) (by omega)
  unfold spec_PutText spec_PutText_k
  simp only
  rw [obind_eq h]
  simp only
  rw [chk_pos (by simp only [plus, llen, bytes_length]; omega)]
  rfl
theorem impl_text {s : ByteArray} (acc : List Int) (hn : s.size + acc.length ≤ 140737488355000) : impl_putText (acc, s, ()) = some ((), acc ++ textForm s, ()) := by
  have := numForm_length s.size
  have h : impl_putNum (acc, ((slen s : Nat) : Int), ()) = some ((), acc ++ numForm s.size, ()) := impl_num (x := s.size) acc (by omega) (by omega)
  unfold impl_putText impl_putText_k
  simp only
  rw [obind_eq h]
  simp only
  rw [chk_pos (by simp only [plus, llen, List.length_append, bytes_length]; omega)]
  simp only [textForm, lapp, List.append_assoc]
def recForm (kind : Nat) (url body : ByteArray) : List Int := numForm kind ++ textForm url ++ (if kind = 1 then textForm body else [])
def recRight (kind : Int) (url body : ByteArray) : Bool := decide (kind = 1 ∨ kind = 2) && (urlGood url && !(decide (kind = 2) && !(seq body ⟨#[]⟩)))
def recPacked (kind : Int) (url body : ByteArray) : List Int × Bool := if recRight kind url body = true then (recForm kind.toNat url body, true) else ([], false)
theorem spec_rec (kind : Int) (url body : ByteArray) (hn : url.size + body.size ≤ 140737488350000) : spec_RecordPack ((kind, url, body, ()), ()) = some ((), (recPacked kind url body).1, (recPacked kind url body).2, ()) := by
  have hu := spec_url url (by omega)
  have t1 := spec_text (s := url) (by omega)
  have t2 := spec_text (s := body) (by omega)
  have l1 := numForm_length 1
  have l2 := numForm_length 2
  have l3 := textForm_length url
  have l4 := textForm_length body
  have n1 : spec_PutNum (1, ()) = some ((), numForm 1, ()) := spec_num (x := 1) (by omega)
  have n2 : spec_PutNum (2, ()) = some ((), numForm 2, ()) := spec_num (x := 2) (by omega)
  unfold spec_RecordPack spec_RecordPack_k recPacked recRight
  simp only
  by_cases h1 : kind = 1
  · subst h1
    rw [ieq_self, tb_nt, obind_eq hu]
    simp only
    cases hg : urlGood url
    · rw [tb_nf]; simp
    · rw [tb_nt, ieq_f (by decide), tb_f, obind_eq n1]
      simp only
      rw [obind_eq t1]
      simp only
      rw [chk_pos (by simp only [plus, llen]; omega), tb_t, obind_eq t2]
      simp only
      rw [chk_pos (by simp only [plus, llen, lapp, List.length_append]; omega)]
      simp [recForm, lapp]
  · rw [ieq_f h1, tb_nf]
    by_cases h2 : kind = 2
    · subst h2
      rw [ieq_self, tb_nt, obind_eq hu]
      simp only
      cases hg : urlGood url
      · rw [tb_nf]; simp
      · rw [tb_nt, tb_t]
        cases hq : seq body ⟨#[]⟩
        · rw [tb_nf]; simp
        · rw [tb_nt, obind_eq n2]
          simp only
          rw [obind_eq t1]
          simp only
          rw [chk_pos (by simp only [plus, llen]; omega), tb_f]
          simp [recForm, lapp]
    · rw [ieq_f h2, tb_nf]; simp [h1, h2]
theorem impl_rec (kind : Int) (url body : ByteArray) (hn : url.size + body.size ≤ 140737488350000) : impl_RecordPack ((kind, url, body, ()), ()) = some ((), (recPacked kind url body).1, (recPacked kind url body).2, ()) := by
  have hu := impl_url url (by omega)
  have l1 := numForm_length 1
  have l2 := numForm_length 2
  have l3 := textForm_length url
  have l4 := textForm_length body
  have n1 : impl_putNum ([], 1, ()) = some ((), [] ++ numForm 1, ()) := impl_num (x := 1) [] (by omega) (by simp)
  have n2 : impl_putNum ([], 2, ()) = some ((), [] ++ numForm 2, ()) := impl_num (x := 2) [] (by omega) (by simp)
  unfold impl_RecordPack impl_RecordPack_k recPacked recRight
  simp only
  rw [obind_eq (impl_in ..)]
  simp only
  by_cases h1 : kind = 1
  · subst h1
    rw [decide_eq_true (by omega), tb_nt, obind_eq hu]
    simp only
    cases hg : urlGood url
    · rw [tb_nf]; simp
    · rw [tb_nt, ieq_f (by decide), tb_f, obind_eq n1]
      simp only
      rw [obind_eq (impl_text _ (by simp; omega))]
      simp only
      rw [ieq_self, tb_t, obind_eq (impl_text _ (by simp; omega))]
      simp [recForm]
  · by_cases h2 : kind = 2
    · subst h2
      rw [decide_eq_true (by omega), tb_nt, obind_eq hu]
      simp only
      cases hg : urlGood url
      · rw [tb_nf]; simp
      · rw [tb_nt, ieq_self, tb_t]
        cases hq : seq body ⟨#[]⟩
        · rw [tb_nf]; simp
        · rw [tb_nt, obind_eq n2]
          simp only
          rw [obind_eq (impl_text _ (by simp; omega))]
          simp only
          rw [ieq_f (by decide), tb_f]
          simp [recForm]
    · rw [decide_eq_false (by omega), tb_nf]; simp [h1, h2]
end Go.Proofs.Ytaakhgjlekllgaa.V
namespace Go.Proofs.Ytaakhgjlekllgaa.V
open Go Go.RowKit
attribute [local irreducible] wr
def TextOk (l : List Int) (a : Int) (r : ByteArray × Int × Bool) : Prop := (r.2.2 = false → r = (⟨#[]⟩, 0, false)) ∧ (r.2.2 = true → 0 ≤ a ∧ a < r.2.1 ∧ r.2.1 ≤ (l.length : Int) ∧ r.1.size ≤ l.length)
abbrev textOut (r : ByteArray × Int × Bool) : Option (Unit × (ByteArray × Int × Bool × Unit)) := some ((), r.1, r.2.1, r.2.2, ())
theorem getText (l : List Int) (hl : l.length ≤ 140737488355328) (hb : ∀ y ∈ l, 0 ≤ y ∧ y ≤ 255) (a : Int) : ∃ r, spec_GetText (l, a, ()) = textOut r ∧ impl_GetText (l, a, ()) = textOut r ∧ TextOk l a r := by
  obtain ⟨⟨n, next, ok⟩, r1, r2, r3, r4⟩ := getNum l hl hb a
  unfold spec_GetText spec_GetText_k impl_GetText impl_GetText_k
  simp only
  rw [obind_eq r1, obind_eq r2]
  simp only
  cases ok with
  | false => exact ⟨(⟨#[]⟩, 0, false), by rw [tb_nf], by rw [tb_nf], fun _ => rfl, fun h => by cases h⟩
  | true =>
    obtain ⟨q1, q2, q3, q4, q5⟩ := r4 rfl
    simp only at q1 q2 q4 q5
    have hw : wr .i64 (((llen l : Nat) : Int) - next) = (l.length : Int) - next := by simp only [llen]; exact wr64 (by omega) (by omega)
    rw [tb_nt, hw]
    by_cases c : (l.length : Int) - next < n
    · exact ⟨(⟨#[]⟩, 0, false), by rw [tb_pos (ilt_t c)], by rw [tb_pos (ilt_t c)], fun _ => rfl, fun h => by cases h⟩
    · have hw2 : wr .i64 (next + n) = next + n := wr64 (by omega) (by omega)
      have hx : tb (ilt ((l.length : Int) - next) n) (some ((), (⟨#[]⟩ : ByteArray), (0 : Int), false, ())) (chk ((0 ≤ next) ∧ ((next ≤ wr .i64 (next + n)) ∧ (wr .i64 (next + n) ≤ (((llen l) : Nat) : Int)))) (some ((), (strOf (lcut l (Int.toNat next) (Int.toNat (wr .i64 (next + n))))), wr .i64 (next + n), true, ())) none) = textOut (strOf (lcut l next.toNat (next + n).toNat), next + n, true) := by
        rw [tb_neg (ilt_f (by omega)), hw2, chk_pos (by simp only [llen]; omega)]
      refine ⟨_, hx, hx, (fun h => by cases h), fun _ => ⟨q3, ?_, ?_, ?_⟩⟩
      · simp only; omega
      · simp only; omega
      · simp only [strOf_size]
        rw [lcut_length _ _ _ (by omega)]; omega
theorem tgetter_bad {l : List Int} (hl : l.length ≤ 140737488355328) (hb : ∀ y ∈ l, 0 ≤ y ∧ y ≤ 255) (a : Int) : impl_getter_text ((l, a, true, ()), ()) = some (((l, a, true, ()), ()), ⟨#[]⟩, ()) := by
  obtain ⟨r, r1, r2, r3⟩ := getText l hl hb a
  unfold impl_getter_text impl_getter_text_k
  rw [obind_eq r2]
  rfl
theorem tgetter_ok {l : List Int} {a : Int} {r : ByteArray × Int × Bool} (h : impl_GetText (l, a, ()) = textOut r) : impl_getter_text ((l, a, false, ()), ()) = some (((l, if r.2.2 = true then r.2.1 else a, !r.2.2, ()), ()), if r.2.2 = true then r.1 else ⟨#[]⟩, ()) := by
  unfold impl_getter_text impl_getter_text_k
  rw [obind_eq h]
  cases hr : r.2.2
  · simp only; rfl
  · simp only; rfl
abbrev Rc : Type := Int × ByteArray × ByteArray × Unit
abbrev rc0 : Rc := (0, ⟨#[]⟩, ⟨#[]⟩, ())
theorem recordRead (l : List Int) (hl : l.length ≤ 70368744170000) (hb : ∀ y ∈ l, 0 ≤ y ∧ y ≤ 255) (a : Int) : ∃ (r : Rc) (nx : Int) (ok : Bool), spec_RecordRead (l, a, ()) = some ((), (r.1, r.2.1, r.2.2.1, ()), nx, ok, ()) ∧ impl_RecordRead (l, a, ()) = some ((), (r.1, r.2.1, r.2.2.1, ()), nx, ok, ()) ∧ (ok = true → 0 ≤ a ∧ a < nx ∧ nx ≤ (l.length : Int)) := by
  have hl' : l.length ≤ 140737488355328 := by omega
  have e0 : (⟨#[]⟩ : ByteArray).size = 0 := rfl
  obtain ⟨⟨n, p0, ok0⟩, s0, i0, -, g0⟩ := getNum l hl' hb a
  have hi0 := getter_ok i0
  unfold spec_RecordRead spec_RecordRead_k impl_RecordRead impl_RecordRead_k
  simp only
  rw [obind_eq s0, obind_eq hi0]
  simp only
  cases ok0 with
  | false =>
    refine ⟨rc0, 0, false, by rw [tb_nf], ?_, fun h => by cases h⟩
    simp only [Bool.not_false, Bool.false_eq_true, if_false]
    rw [obind_eq (tgetter_bad hl' hb _)]
    simp only
    rw [ieq_f (by decide), tb_f, obind_eq (impl_rec _ _ _ (by rw [e0]; omega))]
    simp only
    rw [tb_t]
  | true =>
    obtain ⟨q1, q2, q3, q4, q5⟩ := g0 rfl
    simp only at q1 q2 q4 q5
    obtain ⟨⟨u, p1, ok1⟩, s1, i1, -, g1⟩ := getText l hl' hb p0
    have hi1 := tgetter_ok i1
    simp only [Bool.not_true, if_true]
    rw [tb_nt, obind_eq s1, obind_eq hi1]
    simp only
    cases ok1 with
    | false =>
      refine ⟨rc0, 0, false, by rw [tb_nf], ?_, fun h => by cases h⟩
      simp only [Bool.not_false, Bool.false_eq_true, if_false]
      by_cases hn : n = 1
      · rw [ieq_t hn, tb_t, obind_eq (tgetter_bad hl' hb _)]
        simp only
        rw [obind_eq (impl_rec _ _ _ (by rw [e0]; omega))]
        simp only
        rw [tb_t]
      · rw [ieq_f hn, tb_f, obind_eq (impl_rec _ _ _ (by rw [e0]; omega))]
        simp only
        rw [tb_t]
    | true =>
      obtain ⟨t1, t2, t3, t4⟩ := g1 rfl
      simp only at t2 t3 t4
      simp only [Bool.not_true, if_true]
      rw [tb_nt]
      by_cases hn : n = 1
      · rw [ieq_t hn, tb_t, tb_t]
        obtain ⟨⟨b, p2, ok2⟩, s2, i2, -, g2⟩ := getText l hl' hb p1
        have hi2 := tgetter_ok i2
        rw [obind_eq s2, obind_eq hi2]
        simp only
        cases ok2 with
        | false =>
          refine ⟨rc0, 0, false, by rw [tb_nf], ?_, fun h => by cases h⟩
          simp only [Bool.not_false, Bool.false_eq_true, if_false]
          rw [obind_eq (impl_rec _ _ _ (by rw [e0]; omega))]
          simp only
          rw [tb_t]
        | true =>
          obtain ⟨v1, v2, v3, v4⟩ := g2 rfl
          simp only at v2 v3 v4
          simp only [Bool.not_true, if_true]
          rw [tb_nt, obind_eq (spec_rec _ _ _ (by omega)), obind_eq (impl_rec _ _ _ (by omega))]
          simp only
          rw [tb_f]
          cases hq : (recPacked n u b).2
          · exact ⟨rc0, 0, false, by rw [tb_nf], by rw [tb_nf], fun h => by cases h⟩
          · exact ⟨(n, u, b, ()), p2, true, by rw [tb_nt], by rw [tb_nt], fun _ => ⟨q3, by omega, v3⟩⟩
      · rw [ieq_f hn, tb_f, tb_f, obind_eq (spec_rec _ _ _ (by rw [e0]; omega)), obind_eq (impl_rec _ _ _ (by rw [e0]; omega))]
        simp only
        rw [tb_f]
        cases hq : (recPacked n u ⟨#[]⟩).2
        · exact ⟨rc0, 0, false, by rw [tb_nf], by rw [tb_nf], fun h => by cases h⟩
        · exact ⟨(n, u, ⟨#[]⟩, ()), p1, true, by rw [tb_nt], by rw [tb_nt], fun _ => ⟨q3, by omega, t3⟩⟩
theorem records0 {l : List Int} (hl : l.length ≤ 1000000000) (hb : ∀ y ∈ l, 0 ≤ y ∧ y ≤ 255) : ∀ (d a m m' : Nat) (acc : List Rc), l.length ≤ a + d → a ≤ l.length → acc.length ≤ a → d < m → d < m' →
      ∃ (rs : List Rc) (ok : Bool), spec_Records_k0 fuel m (fun v0 => some ((), v0.2.2.1, true, ())) ((l, (a : Int), ()), (), acc, ()) = some ((), rs, ok, ()) ∧ impl_Records_k0 fuel m' (fun v0 => some ((), v0.2.2.1, true, ())) ((l, (a : Int), ()), (), acc, ()) = some ((), rs, ok, ()) ∧ rs.length ≤ l.length := by
  intro d
  induction d with
  | zero =>
    intro a m m' acc h ha hacc hm hm'
    obtain ⟨m, rfl⟩ : ∃ q, m = q + 1 := ⟨m - 1, by omega⟩
    obtain ⟨m', rfl⟩ : ∃ q, m' = q + 1 := ⟨m' - 1, by omega⟩
    refine ⟨acc, true, ?_, ?_, by omega⟩
    · rw [spec_Records_k0]; simp only; rw [tb_neg (ilt_f (by simp only [llen]; omega))]
    · rw [impl_Records_k0]; simp only; rw [tb_neg (ilt_f (by simp only [llen]; omega))]
  | succ d ih =>
    intro a m m' acc h ha hacc hm hm'
    obtain ⟨m, rfl⟩ : ∃ q, m = q + 1 := ⟨m - 1, by omega⟩
    obtain ⟨m', rfl⟩ : ∃ q, m' = q + 1 := ⟨m' - 1, by omega⟩
    by_cases hal : a = l.length
    · refine ⟨acc, true, ?_, ?_, by omega⟩
      · rw [spec_Records_k0]; simp only; rw [tb_neg (ilt_f (by simp only [llen]; omega))]
      · rw [impl_Records_k0]; simp only; rw [tb_neg (ilt_f (by simp only [llen]; omega))]
    obtain ⟨r, nx, ok, s1, i1, g⟩ := recordRead l (by omega) hb (a : Int)
    have S : ∀ z, tb (bnot ok) (some ((), [], false, ())) (spec_Records_k0 fuel m (fun v0 => some ((), v0.2.2.1, true, ())) ((l, nx, ()), (), acc ++ [(r.1, r.2.1, r.2.2.1, ())], ())) = z → spec_Records_k0 fuel (m + 1) (fun v0 => some ((), v0.2.2.1, true, ())) ((l, (a : Int), ()), (), acc, ()) = z := fun z hz => by
      rw [spec_Records_k0]
      simp only
      rw [tb_pos (ilt_t (by simp only [llen]; omega)), obind_eq s1]
      simp only
      rw [chk_pos (by simp only [plus, llen, List.length_singleton]; omega)]
      exact hz
    have I : ∀ z, tb (bnot ok) (some ((), [], false, ())) (impl_Records_k0 fuel m' (fun v0 => some ((), v0.2.2.1, true, ())) ((l, nx, ()), (), acc ++ [(r.1, r.2.1, r.2.2.1, ())], ())) = z → impl_Records_k0 fuel (m' + 1) (fun v0 => some ((), v0.2.2.1, true, ())) ((l, (a : Int), ()), (), acc, ()) = z := fun z hz => by
      rw [impl_Records_k0]
      simp only
      rw [tb_pos (ilt_t (by simp only [llen]; omega)), obind_eq i1]
      simp only
      rw [chk_pos (by simp only [plus, llen, List.length_singleton]; omega)]
      exact hz
    cases ok with
    | false => exact ⟨[], false, S _ (by rw [tb_nf]), I _ (by rw [tb_nf]), by simp⟩
    | true =>
      obtain ⟨g1, g2, g3⟩ := g rfl
      obtain ⟨b, rfl⟩ := Int.eq_ofNat_of_zero_le (show 0 ≤ nx by omega)
      obtain ⟨rs, ok, h1, h2, h3⟩ := ih b m m' (acc ++ [(r.1, r.2.1, r.2.2.1, ())]) (by omega) (by omega) (by simp; omega) (by omega) (by omega)
      exact ⟨rs, ok, S _ (by rw [tb_nt]; exact h1), I _ (by rw [tb_nt]; exact h2), h3⟩
theorem records {l : List Int} (hl : l.length ≤ 1000000000) (hb : ∀ y ∈ l, 0 ≤ y ∧ y ≤ 255) : ∃ (rs : List Rc) (ok : Bool), spec_Records (l, ()) = some ((), rs, ok, ()) ∧ impl_Records (l, ()) = some ((), rs, ok, ()) ∧ rs.length ≤ l.length := by
  unfold spec_Records spec_Records_k impl_Records impl_Records_k
  exact records0 hl hb l.length 0 fuel fuel [] (by omega) (by omega) (by simp) (by have := fuel_gt; omega) (by have := fuel_gt; omega)
end Go.Proofs.Ytaakhgjlekllgaa.V
