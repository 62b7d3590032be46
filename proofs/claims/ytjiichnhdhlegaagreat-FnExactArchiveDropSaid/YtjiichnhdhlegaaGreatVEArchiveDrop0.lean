/- The functions that FnExactArchiveDrop reaches, each as a plain function, and the plain law about them: the statement answers true at every input. No condition beyond those that stand in each theorem. -/
import Derived.Test.YtjiichnhdhlegaaGreatVK
import Derived.KernelRfl
import Derived.Test.YtjiichnhdhlegaaGreatChecked
import Derived.Test.YtjiichnhdhlegaaGreatXShelf
import Derived.Laws.BitsLemmas
set_option linter.unusedVariables false
set_option linter.unusedSimpArgs false
noncomputable section
set_option maxRecDepth 100000
namespace Go.Proofs.YtjiichnhdhlegaaGreat.V
open Go Go.Proofs
@[irreducible] def fuel : Nat := 18446744073709551616
theorem known_none {P : Program} {f : Nat} {ms : List Mode} {res : List Ty} {rt : Ty} (hE : Entered P f) : Known P f ⟨ms, res, rt, fun _ => none⟩ := ⟨hE, fun _ _ _ _ _ _ _ _ _ _ _ h => nomatch h⟩
abbrev T102 : Ty := .pair (.int .i64) (.pair .str .unit)
abbrev S102 : Ty := .pair (.int .i64) (.pair .str .unit)
abbrev L102 : Type := (Int × ByteArray × Unit)
abbrev T25 : Ty := .pair (.row true .str) (.pair (.row true T102) .unit)
abbrev S25 : Ty := .pair (.row false .str) (.pair (.row false S102) .unit)
abbrev L25 : Type := ((List ByteArray) × (List L102) × Unit)
abbrev T27 : Ty := .pair (.int .i64) (.pair (.int .i64) (.pair (.int .i64) .unit))
abbrev S27 : Ty := .pair (.int .i64) (.pair (.int .i64) (.pair (.int .i64) .unit))
abbrev L27 : Type := (Int × Int × Int × Unit)
abbrev T71 : Ty := .pair .str (.pair .str .unit)
abbrev S71 : Ty := .pair .str (.pair .str .unit)
abbrev L71 : Type := (ByteArray × ByteArray × Unit)
abbrev T30 : Ty := .pair .bool (.pair T25 (.pair T27 (.pair (.row true T71) .unit)))
abbrev S30 : Ty := .pair .bool (.pair S25 (.pair S27 (.pair (.row false S71) .unit)))
abbrev L30 : Type := (Bool × L25 × L27 × (List L71) × Unit)
abbrev T121 : Ty := .pair (.int .i64) (.pair .str .unit)
abbrev S121 : Ty := .pair (.int .i64) (.pair .str .unit)
abbrev L121 : Type := (Int × ByteArray × Unit)
abbrev T34 : Ty := .pair (.row true .str) (.pair (.row true T121) .unit)
abbrev S34 : Ty := .pair (.row false .str) (.pair (.row false S121) .unit)
abbrev L34 : Type := ((List ByteArray) × (List L121) × Unit)
abbrev T35 : Ty := .pair (.int .i64) (.pair (.int .i64) (.pair (.int .i64) .unit))
abbrev S35 : Ty := .pair (.int .i64) (.pair (.int .i64) (.pair (.int .i64) .unit))
abbrev L35 : Type := (Int × Int × Int × Unit)
abbrev T80 : Ty := .pair .str (.pair .str .unit)
abbrev S80 : Ty := .pair .str (.pair .str .unit)
abbrev L80 : Type := (ByteArray × ByteArray × Unit)
abbrev T38 : Ty := .pair .bool (.pair T34 (.pair T35 (.pair (.row true T80) .unit)))
abbrev S38 : Ty := .pair .bool (.pair S34 (.pair S35 (.pair (.row false S80) .unit)))
abbrev L38 : Type := (Bool × L34 × L35 × (List L80) × Unit)
abbrev T57 : Ty := .pair (.int .i64) (.pair (.int .i64) (.pair (.row true (.int .u8)) (.pair T35 .unit)))
abbrev S57 : Ty := .pair (.int .i64) (.pair (.int .i64) (.pair (.row false (.int .u8)) (.pair S35 .unit)))
abbrev L57 : Type := (Int × Int × (List Int) × L35 × Unit)
abbrev T99 : Ty := .pair (.int .i64) (.pair .str (.pair .str .unit))
abbrev S99 : Ty := .pair (.int .i64) (.pair .str (.pair .str .unit))
abbrev L99 : Type := (Int × ByteArray × ByteArray × Unit)
abbrev T152 : Ty := .pair .str (.pair .str .unit)
abbrev S152 : Ty := .pair .str (.pair .str .unit)
abbrev L152 : Type := (ByteArray × ByteArray × Unit)
abbrev T149 : Ty := .pair (.int .i64) (.pair .str (.pair (.row true T152) (.pair .str (.pair (.int .i64) (.pair (.row true (.int .i64)) .unit)))))
abbrev S149 : Ty := .pair (.int .i64) (.pair .str (.pair (.row false S152) (.pair .str (.pair (.int .i64) (.pair (.row false (.int .i64)) .unit)))))
abbrev L149 : Type := (Int × ByteArray × (List L152) × ByteArray × Int × (List Int) × Unit)
abbrev T115 : Ty := .pair (.row true T149) .unit
abbrev S115 : Ty := .pair (.row false S149) .unit
abbrev L115 : Type := ((List L149) × Unit)
abbrev T185 : Ty := .pair (.row true (.int .u8)) (.pair (.int .i64) (.pair .bool .unit))
abbrev S185 : Ty := .pair (.row false (.int .u8)) (.pair (.int .i64) (.pair .bool .unit))
abbrev L185 : Type := ((List Int) × Int × Bool × Unit)
def tyTab : List (Nat × Ty) := [(3, (.int .i64)), (4, .bool), (5, (.int .u8)), (9, .str), (22, (.row true .str)), (23, (.row true T102)), (25, T25), (27, T27), (28, (.row true T71)), (30, T30), (32, (.row true T121)), (34, T34), (35, T35), (36, (.row true T80)), (38, T38), (55, (.row true (.int .u8))), (57, T57), (71, T71), (73, (.row true T34)), (80, T80), (82, .any), (99, T99), (102, T102), (106, (.row true T99)), (115, T115), (121, T121), (124, .any), (131, .any), (185, T185), (187, .any), (188, (.int .u64)), (204, .any)]
def tyE (i : Nat) : Ty := (look tyTab i).getD .unit
theorem mixed_ok : Tryz.prog.follows .mixedOrders = true := by kernel_rfl
theorem tab_ok : tabOk Tryz.prog tyTab = true := by kernel_rfl
abbrev Rof (c : Con) : Type := (outsTy c.ms).den × c.rt.den
def envS (s : List (Nat × Con)) : Env := ⟨fun j => (look tyTab j).getD .unit, fun j => look s j⟩
def RndOk (s : List (Nat × Con)) (fn : Func) (c : Con) (g : Nat → List (Nat × Seg (Rof c))) (id : Nat) (S : Nat → Seg (Rof c)) : Prop := ∀ N n k x, roundK (envS s) ⟨fn.ntmps, N, fun i => look (g N) i, retK (envS s) fn c.ms c.res c.rt⟩ (fn.body.getD .skip) id (S N) ((S N).f n k) k x = (S N).f (n + 1) k x
def FunOk (s : List (Nat × Con)) (fn : Func) (c : Con) (g : Nat → List (Nat × Seg (Rof c))) (f : Nat → (argsTy c.ms).den → Option (Rof c)) : Prop := ∀ N x, funK (envS s) fn c.ms c.res c.rt (fun i => look (g N) i) N x = f N x
theorem known_v {s : List (Nat × Con)} {i : Nat} {fn : Func} {c : Con} {g : Nat → List (Nat × Seg (Rof c))} {f : Nat → (argsTy c.ms).den → Option (Rof c)} (hK : ConsL Tryz.prog s) (hf : Tryz.prog.funcs[i]? = some fn)
    (h1 : (fn.body.isSome && !(fn.name == "runtime.NumGoroutine") && once (blocksOf (fn.body.getD .skip))) = true)
    (hs : SegsOk (envS s) ⟨fn.ntmps, fuel, fun i => look (g fuel) i, retK (envS s) fn c.ms c.res c.rt⟩ (fn.body.getD .skip) (g fuel)) (he : FunOk s fn c g f) (hc : ∀ x, f fuel x = c.f x) : Known Tryz.prog i c :=
  known_of (tab := tyTab) (cons := s) (segs := g fuel) (n := fuel) mixed_ok tab_ok hK hf h1 hs (fun x => (he fuel x).trans (hc x))
def spec_ParsePage : ((List Int) × Unit) → Option (Unit × (L115 × Int × Unit)) := fun _ => none
def spec_ParsePage_m : Con := ⟨[.val (.row false (.int .u8))], [T115, (.int .i64)], (.pair T115 (.pair (.int .i64) .unit)), spec_ParsePage⟩
theorem spec_ParsePage_o : Known Tryz.prog 69 spec_ParsePage_m := known_none (entered_of Tryz.func69 (by kernel_rfl))
def spec_TreePack : (L115 × Unit) → Option (Unit × ((List Int) × Bool × Unit)) := fun _ => none
def spec_TreePack_m : Con := ⟨[.val S115], [(.row true (.int .u8)), .bool], (.pair (.row true (.int .u8)) (.pair .bool .unit)), spec_TreePack⟩
theorem spec_TreePack_o : Known Tryz.prog 70 spec_TreePack_m := known_none (entered_of Tryz.func70 (by kernel_rfl))
def slices_Clone_Entry : ((List L80) × Unit) → Option (Unit × ((List L80) × Unit)) := cloneF (.pair .str (.pair .str .unit)) 32
def slices_Clone_Entry_m : Con := ⟨[.val (.row false S80)], [(.row true T80)], (.pair (.row true T80) .unit), slices_Clone_Entry⟩
theorem slices_Clone_Entry_o : Known Tryz.prog 80 slices_Clone_Entry_m := known_clone80
def slices_Clone_string : ((List ByteArray) × Unit) → Option (Unit × ((List ByteArray) × Unit)) := cloneF .str 16
def slices_Clone_string_m : Con := ⟨[.val (.row false .str)], [(.row true .str)], (.pair (.row true .str) .unit), slices_Clone_string⟩
theorem slices_Clone_string_o : Known Tryz.prog 112 slices_Clone_string_m := known_clone112
def slices_Clone_Put : ((List L121) × Unit) → Option (Unit × ((List L121) × Unit)) := cloneF (.pair (.int .i64) (.pair .str .unit)) 24
def slices_Clone_Put_m : Con := ⟨[.val (.row false S121)], [(.row true T121)], (.pair (.row true T121) .unit), slices_Clone_Put⟩
theorem slices_Clone_Put_o : Known Tryz.prog 113 slices_Clone_Put_m := known_clone113
def slices_Delete_Entry : ((List L80) × Int × Int × Unit) → Option (Unit × ((List L80) × Unit)) := deleteF
def slices_Delete_Entry_m : Con := ⟨[.own (.row true T80), .val (.int .i64), .val (.int .i64)], [(.row true T80)], (.pair (.row true T80) .unit), slices_Delete_Entry⟩
theorem slices_Delete_Entry_o : Known Tryz.prog 124 slices_Delete_Entry_m := known_delete (entered_of Tryz.func124 (by kernel_rfl))
def slices_Insert_Entry : ((List L80) × Int × (List L80) × Unit) → Option (Unit × ((List L80) × Unit)) := insertF
def slices_Insert_Entry_m : Con := ⟨[.own (.row true T80), .val (.int .i64), .own (.row true T80)], [(.row true T80)], (.pair (.row true T80) .unit), slices_Insert_Entry⟩
theorem slices_Insert_Entry_o : Known Tryz.prog 125 slices_Insert_Entry_m := known_insert (entered_of Tryz.func125 (by kernel_rfl))
def strings_Repeat : (ByteArray × Int × Unit) → Option (Unit × (ByteArray × Unit)) := repeatF
def strings_Repeat_m : Con := ⟨[.val .str, .val (.int .i64)], [.str], (.pair .str .unit), strings_Repeat⟩
theorem strings_Repeat_o : Known Tryz.prog 165 strings_Repeat_m := known_repeat (entered_of Tryz.func165 (by kernel_rfl)) (fun s c w h1 h2 => Tryz.strings_Repeat s c w h1 h2)
def laws_szStringS_P0 : Tpl := ⟨[(0, .one (.leaf (.row false .str))), (1, .one (.leaf (.int .i64))), (5, .one (.leaf (.int .i64)))], [], []⟩
def laws_szStringS_O0 : Tpl := ⟨[(1, .one (.leaf (.int .i64)))], [], []⟩
def laws_szStringS_k0 (N : Nat) : Nat → (((Int × Unit) × (Unit × Unit)) → Option (Unit × (Int × Unit))) → (((List ByteArray) × Int × Int × Unit) × (Unit × Unit)) → Option (Unit × (Int × Unit))
  | 0, _, _ => none
  | n + 1, k, x =>
    tb (ilt x.1.2.2.1 (((llen x.1.1) : Nat) : Int))
    (chk (0 ≤ x.1.2.2.1) (obind (at? x.1.1 (Int.toNat x.1.2.2.1)) fun v0 =>
        tb (ilt (wr .i64 (x.1.2.1 - (((slen v0) : Nat) : Int))) 0)
        (some ((), (-1), ()))
        (laws_szStringS_k0 N n k ((x.1.1, (wr .i64 (x.1.2.1 - (((slen v0) : Nat) : Int))), (wr .i64 (x.1.2.2.1 + 1)), ()), (), ()))) (none))
    (k ((x.1.2.1, ()), (), ()))
def laws_szStringS_k (N : Nat) (x0 : (List ByteArray)) (x1 : Int) : Option (Unit × (Int × Unit)) :=
  tb (ilt (wr .i64 (x1 - (((llen x0) : Nat) : Int))) 0)
  (some ((), (-1), ()))
  (laws_szStringS_k0 N N (fun v0 =>
      some ((), v0.1.1, ())) ((x0, (wr .i64 (x1 - (((llen x0) : Nat) : Int))), 0, ()), (), ()))
def laws_szStringS (x : ((List ByteArray) × Int × Unit)) : Option (Unit × (Int × Unit)) := laws_szStringS_k fuel x.1 x.2.1
def laws_szStringS_m : Con := ⟨[.val (.row false .str), .val (.int .i64)], [(.int .i64)], (.pair (.int .i64) .unit), laws_szStringS⟩
def laws_szStringS_s : List (Nat × Con) := []
def laws_szStringS_S0 (N : Nat) : Seg (Rof laws_szStringS_m) := ⟨laws_szStringS_P0, laws_szStringS_O0, [], [], laws_szStringS_k0 N⟩
def laws_szStringS_g (N : Nat) : List (Nat × Seg (Rof laws_szStringS_m)) := [(0, laws_szStringS_S0 N)]
theorem laws_szStringS_r0 : RndOk laws_szStringS_s Tryz.f32 laws_szStringS_m laws_szStringS_g 0 laws_szStringS_S0 := fun _ _ _ _ => by kernel_rfl
theorem laws_szStringS_e : FunOk laws_szStringS_s Tryz.f32 laws_szStringS_m laws_szStringS_g (fun N x => laws_szStringS_k N x.1 x.2.1) := fun _ _ => by kernel_rfl
theorem laws_szStringS_o : Known Tryz.prog 32 laws_szStringS_m := known_v (g := laws_szStringS_g) .nil Tryz.func32 (by kernel_rfl) ⟨⟨fun _ _ => rfl, laws_szStringS_r0 fuel⟩, trivial⟩ laws_szStringS_e (fun _ => rfl)
def laws_szPut_k (N : Nat) (x0 : L102) (x1 : Int) : Option (Unit × (Int × Unit)) :=
  tb (ilt (wr .i64 (x1 - (((slen x0.2.1) : Nat) : Int))) 0)
  (some ((), (-1), ()))
  (some ((), (wr .i64 (x1 - (((slen x0.2.1) : Nat) : Int))), ()))
def laws_szPut (x : (L102 × Int × Unit)) : Option (Unit × (Int × Unit)) := laws_szPut_k fuel x.1 x.2.1
def laws_szPut_m : Con := ⟨[.val S102, .val (.int .i64)], [(.int .i64)], (.pair (.int .i64) .unit), laws_szPut⟩
def laws_szPut_s : List (Nat × Con) := []
def laws_szPut_g (N : Nat) : List (Nat × Seg (Rof laws_szPut_m)) := []
theorem laws_szPut_e : FunOk laws_szPut_s Tryz.f58 laws_szPut_m laws_szPut_g (fun N x => laws_szPut_k N x.1 x.2.1) := fun _ _ => by kernel_rfl
theorem laws_szPut_o : Known Tryz.prog 58 laws_szPut_m := known_v (g := laws_szPut_g) .nil Tryz.func58 (by kernel_rfl) trivial laws_szPut_e (fun _ => rfl)
def laws_szPutS_P0 : Tpl := ⟨[(0, .one (.leaf (.row false (.pair (.int .i64) (.pair .str .unit))))), (1, .one (.leaf (.int .i64))), (5, .one (.leaf (.int .i64)))], [], []⟩
def laws_szPutS_O0 : Tpl := ⟨[(1, .one (.leaf (.int .i64)))], [], []⟩
def laws_szPutS_k0 (N : Nat) : Nat → (((Int × Unit) × (Unit × Unit)) → Option (Unit × (Int × Unit))) → (((List (Int × (ByteArray × Unit))) × Int × Int × Unit) × (Unit × Unit)) → Option (Unit × (Int × Unit))
  | 0, _, _ => none
  | n + 1, k, x =>
    tb (ilt x.1.2.2.1 (((llen x.1.1) : Nat) : Int))
    (chk (0 ≤ x.1.2.2.1) (obind (at? x.1.1 (Int.toNat x.1.2.2.1)) fun v0 =>
        obind (laws_szPut ((v0.1, v0.2.1, ()), x.1.2.1, ())) fun v1 =>
        tb (ilt v1.2.1 0)
        (some ((), (-1), ()))
        (laws_szPutS_k0 N n k ((x.1.1, v1.2.1, (wr .i64 (x.1.2.2.1 + 1)), ()), (), ()))) (none))
    (k ((x.1.2.1, ()), (), ()))
def laws_szPutS_k (N : Nat) (x0 : (List L102)) (x1 : Int) : Option (Unit × (Int × Unit)) :=
  tb (ilt (wr .i64 (x1 - (((llen x0) : Nat) : Int))) 0)
  (some ((), (-1), ()))
  (laws_szPutS_k0 N N (fun v0 =>
      some ((), v0.1.1, ())) ((x0, (wr .i64 (x1 - (((llen x0) : Nat) : Int))), 0, ()), (), ()))
def laws_szPutS (x : ((List L102) × Int × Unit)) : Option (Unit × (Int × Unit)) := laws_szPutS_k fuel x.1 x.2.1
def laws_szPutS_m : Con := ⟨[.val (.row false S102), .val (.int .i64)], [(.int .i64)], (.pair (.int .i64) .unit), laws_szPutS⟩
def laws_szPutS_s : List (Nat × Con) := [(58, laws_szPut_m)]
def laws_szPutS_S0 (N : Nat) : Seg (Rof laws_szPutS_m) := ⟨laws_szPutS_P0, laws_szPutS_O0, [], [], laws_szPutS_k0 N⟩
def laws_szPutS_g (N : Nat) : List (Nat × Seg (Rof laws_szPutS_m)) := [(0, laws_szPutS_S0 N)]
theorem laws_szPutS_r0 : RndOk laws_szPutS_s Tryz.f33 laws_szPutS_m laws_szPutS_g 0 laws_szPutS_S0 := fun _ _ _ _ => by kernel_rfl
theorem laws_szPutS_e : FunOk laws_szPutS_s Tryz.f33 laws_szPutS_m laws_szPutS_g (fun N x => laws_szPutS_k N x.1 x.2.1) := fun _ _ => by kernel_rfl
theorem laws_szPutS_o : Known Tryz.prog 33 laws_szPutS_m := known_v (g := laws_szPutS_g) (.cons laws_szPut_o .nil) Tryz.func33 (by kernel_rfl) ⟨⟨fun _ _ => rfl, laws_szPutS_r0 fuel⟩, trivial⟩ laws_szPutS_e (fun _ => rfl)
def laws_szDisk_k (N : Nat) (x0 : L25) (x1 : Int) : Option (Unit × (Int × Unit)) :=
  obind (laws_szStringS (x0.1, x1, ())) fun v0 =>
  tb (ilt v0.2.1 0)
  (some ((), (-1), ()))
  (obind (laws_szPutS (x0.2.1, v0.2.1, ())) fun v1 =>
    tb (ilt v1.2.1 0)
    (some ((), (-1), ()))
    (some ((), v1.2.1, ())))
def laws_szDisk (x : (L25 × Int × Unit)) : Option (Unit × (Int × Unit)) := laws_szDisk_k fuel x.1 x.2.1
def laws_szDisk_m : Con := ⟨[.val S25, .val (.int .i64)], [(.int .i64)], (.pair (.int .i64) .unit), laws_szDisk⟩
def laws_szDisk_s : List (Nat × Con) := [(32, laws_szStringS_m), (33, laws_szPutS_m)]
def laws_szDisk_g (N : Nat) : List (Nat × Seg (Rof laws_szDisk_m)) := []
theorem laws_szDisk_e : FunOk laws_szDisk_s Tryz.f14 laws_szDisk_m laws_szDisk_g (fun N x => laws_szDisk_k N x.1 x.2.1) := fun _ _ => by kernel_rfl
theorem laws_szDisk_o : Known Tryz.prog 14 laws_szDisk_m := known_v (g := laws_szDisk_g) (.cons laws_szStringS_o (.cons laws_szPutS_o .nil)) Tryz.func14 (by kernel_rfl) trivial laws_szDisk_e (fun _ => rfl)
def laws_szEntry_k (N : Nat) (x0 : L71) (x1 : Int) : Option (Unit × (Int × Unit)) :=
  tb (ilt (wr .i64 (x1 - (((slen x0.1) : Nat) : Int))) 0)
  (some ((), (-1), ()))
  (tb (ilt (wr .i64 ((wr .i64 (x1 - (((slen x0.1) : Nat) : Int))) - (((slen x0.2.1) : Nat) : Int))) 0)
    (some ((), (-1), ()))
    (some ((), (wr .i64 ((wr .i64 (x1 - (((slen x0.1) : Nat) : Int))) - (((slen x0.2.1) : Nat) : Int))), ())))
def laws_szEntry (x : (L71 × Int × Unit)) : Option (Unit × (Int × Unit)) := laws_szEntry_k fuel x.1 x.2.1
def laws_szEntry_m : Con := ⟨[.val S71, .val (.int .i64)], [(.int .i64)], (.pair (.int .i64) .unit), laws_szEntry⟩
def laws_szEntry_s : List (Nat × Con) := []
def laws_szEntry_g (N : Nat) : List (Nat × Seg (Rof laws_szEntry_m)) := []
theorem laws_szEntry_e : FunOk laws_szEntry_s Tryz.f34 laws_szEntry_m laws_szEntry_g (fun N x => laws_szEntry_k N x.1 x.2.1) := fun _ _ => by kernel_rfl
theorem laws_szEntry_o : Known Tryz.prog 34 laws_szEntry_m := known_v (g := laws_szEntry_g) .nil Tryz.func34 (by kernel_rfl) trivial laws_szEntry_e (fun _ => rfl)
def laws_szEntryS_P0 : Tpl := ⟨[(0, .one (.leaf (.row false (.pair .str (.pair .str .unit))))), (1, .one (.leaf (.int .i64))), (5, .one (.leaf (.int .i64)))], [], []⟩
def laws_szEntryS_O0 : Tpl := ⟨[(1, .one (.leaf (.int .i64)))], [], []⟩
def laws_szEntryS_k0 (N : Nat) : Nat → (((Int × Unit) × (Unit × Unit)) → Option (Unit × (Int × Unit))) → (((List (ByteArray × (ByteArray × Unit))) × Int × Int × Unit) × (Unit × Unit)) → Option (Unit × (Int × Unit))
  | 0, _, _ => none
  | n + 1, k, x =>
    tb (ilt x.1.2.2.1 (((llen x.1.1) : Nat) : Int))
    (chk (0 ≤ x.1.2.2.1) (obind (at? x.1.1 (Int.toNat x.1.2.2.1)) fun v0 =>
        obind (laws_szEntry ((v0.1, v0.2.1, ()), x.1.2.1, ())) fun v1 =>
        tb (ilt v1.2.1 0)
        (some ((), (-1), ()))
        (laws_szEntryS_k0 N n k ((x.1.1, v1.2.1, (wr .i64 (x.1.2.2.1 + 1)), ()), (), ()))) (none))
    (k ((x.1.2.1, ()), (), ()))
def laws_szEntryS_k (N : Nat) (x0 : (List L71)) (x1 : Int) : Option (Unit × (Int × Unit)) :=
  tb (ilt (wr .i64 (x1 - (((llen x0) : Nat) : Int))) 0)
  (some ((), (-1), ()))
  (laws_szEntryS_k0 N N (fun v0 =>
      some ((), v0.1.1, ())) ((x0, (wr .i64 (x1 - (((llen x0) : Nat) : Int))), 0, ()), (), ()))
def laws_szEntryS (x : ((List L71) × Int × Unit)) : Option (Unit × (Int × Unit)) := laws_szEntryS_k fuel x.1 x.2.1
def laws_szEntryS_m : Con := ⟨[.val (.row false S71), .val (.int .i64)], [(.int .i64)], (.pair (.int .i64) .unit), laws_szEntryS⟩
def laws_szEntryS_s : List (Nat × Con) := [(34, laws_szEntry_m)]
def laws_szEntryS_S0 (N : Nat) : Seg (Rof laws_szEntryS_m) := ⟨laws_szEntryS_P0, laws_szEntryS_O0, [], [], laws_szEntryS_k0 N⟩
def laws_szEntryS_g (N : Nat) : List (Nat × Seg (Rof laws_szEntryS_m)) := [(0, laws_szEntryS_S0 N)]
theorem laws_szEntryS_r0 : RndOk laws_szEntryS_s Tryz.f15 laws_szEntryS_m laws_szEntryS_g 0 laws_szEntryS_S0 := fun _ _ _ _ => by kernel_rfl
theorem laws_szEntryS_e : FunOk laws_szEntryS_s Tryz.f15 laws_szEntryS_m laws_szEntryS_g (fun N x => laws_szEntryS_k N x.1 x.2.1) := fun _ _ => by kernel_rfl
theorem laws_szEntryS_o : Known Tryz.prog 15 laws_szEntryS_m := known_v (g := laws_szEntryS_g) (.cons laws_szEntry_o .nil) Tryz.func15 (by kernel_rfl) ⟨⟨fun _ _ => rfl, laws_szEntryS_r0 fuel⟩, trivial⟩ laws_szEntryS_e (fun _ => rfl)
def laws_szArchive_k (N : Nat) (x0 : L30) (x1 : Int) : Option (Unit × (Int × Unit)) :=
  obind (laws_szDisk ((x0.2.1.1, x0.2.1.2.1, ()), x1, ())) fun v0 =>
  tb (ilt v0.2.1 0)
  (some ((), (-1), ()))
  (obind (laws_szEntryS (x0.2.2.2.1, v0.2.1, ())) fun v1 =>
    tb (ilt v1.2.1 0)
    (some ((), (-1), ()))
    (some ((), v1.2.1, ())))
def laws_szArchive (x : (L30 × Int × Unit)) : Option (Unit × (Int × Unit)) := laws_szArchive_k fuel x.1 x.2.1
def laws_szArchive_m : Con := ⟨[.val S30, .val (.int .i64)], [(.int .i64)], (.pair (.int .i64) .unit), laws_szArchive⟩
def laws_szArchive_s : List (Nat × Con) := [(14, laws_szDisk_m), (15, laws_szEntryS_m)]
def laws_szArchive_g (N : Nat) : List (Nat × Seg (Rof laws_szArchive_m)) := []
theorem laws_szArchive_e : FunOk laws_szArchive_s Tryz.f5 laws_szArchive_m laws_szArchive_g (fun N x => laws_szArchive_k N x.1 x.2.1) := fun _ _ => by kernel_rfl
theorem laws_szArchive_o : Known Tryz.prog 5 laws_szArchive_m := known_v (g := laws_szArchive_g) (.cons laws_szDisk_o (.cons laws_szEntryS_o .nil)) Tryz.func5 (by kernel_rfl) trivial laws_szArchive_e (fun _ => rfl)
def spec_l1In_k (N : Nat) (x0 : Int) (x1 : Int) (x2 : Int) : Option (Unit × (Bool × Unit)) :=
  tb (ile x1 x0)
  (some ((), (ile x0 x2), ()))
  (some ((), false, ()))
def spec_l1In (x : (Int × Int × Int × Unit)) : Option (Unit × (Bool × Unit)) := spec_l1In_k fuel x.1 x.2.1 x.2.2.1
def spec_l1In_m : Con := ⟨[.val (.int .i64), .val (.int .i64), .val (.int .i64)], [.bool], (.pair .bool .unit), spec_l1In⟩
def spec_l1In_s : List (Nat × Con) := []
def spec_l1In_g (N : Nat) : List (Nat × Seg (Rof spec_l1In_m)) := []
theorem spec_l1In_e : FunOk spec_l1In_s Tryz.f91 spec_l1In_m spec_l1In_g (fun N x => spec_l1In_k N x.1 x.2.1 x.2.2.1) := fun _ _ => by kernel_rfl
theorem spec_l1In_o : Known Tryz.prog 91 spec_l1In_m := known_v (g := spec_l1In_g) .nil Tryz.func91 (by kernel_rfl) trivial spec_l1In_e (fun _ => rfl)
def spec_l15Sector_k (N : Nat) (x0 : Int) : Option (Unit × (Bool × Unit)) :=
  obind (spec_l1In (x0, 0, 129, ())) fun v0 =>
  some ((), v0.2.1, ())
def spec_l15Sector (x : (Int × Unit)) : Option (Unit × (Bool × Unit)) := spec_l15Sector_k fuel x.1
def spec_l15Sector_m : Con := ⟨[.val (.int .i64)], [.bool], (.pair .bool .unit), spec_l15Sector⟩
def spec_l15Sector_s : List (Nat × Con) := [(91, spec_l1In_m)]
def spec_l15Sector_g (N : Nat) : List (Nat × Seg (Rof spec_l15Sector_m)) := []
theorem spec_l15Sector_e : FunOk spec_l15Sector_s Tryz.f90 spec_l15Sector_m spec_l15Sector_g (fun N x => spec_l15Sector_k N x.1) := fun _ _ => by kernel_rfl
theorem spec_l15Sector_o : Known Tryz.prog 90 spec_l15Sector_m := known_v (g := spec_l15Sector_g) (.cons spec_l1In_o .nil) Tryz.func90 (by kernel_rfl) trivial spec_l15Sector_e (fun _ => rfl)
def spec_DiskOk_P0 : Tpl := ⟨[(1, .one (.fix (.vptr 1 0))), (3, .one (.leaf (.int .i64)))], [(1, [.leaf (.row false .str), .leaf (.row false (.pair (.int .i64) (.pair .str .unit)))])], []⟩
def spec_DiskOk_O0 : Tpl := ⟨[(1, .one (.fix (.vptr 1 0)))], [(1, [.leaf (.row false .str), .leaf (.row false (.pair (.int .i64) (.pair .str .unit)))])], []⟩
def spec_DiskOk_k0 (N : Nat) : Nat → ((Unit × ((((List ByteArray) × (List (Int × (ByteArray × Unit))) × Unit) × Unit) × Unit)) → Option (Unit × (Bool × Unit))) → ((Int × Unit) × ((((List ByteArray) × (List (Int × (ByteArray × Unit))) × Unit) × Unit) × Unit)) → Option (Unit × (Bool × Unit))
  | 0, _, _ => none
  | n + 1, k, x =>
    tb (ilt x.1.1 (((llen x.2.1.1.1) : Nat) : Int))
    (chk (0 ≤ x.1.1) (obind (at? x.2.1.1.1 (Int.toNat x.1.1)) fun v0 =>
        tb (bnot (ieq (((slen v0) : Nat) : Int) 64))
        (some ((), false, ()))
        (spec_DiskOk_k0 N n k (((wr .i64 (x.1.1 + 1)), ()), ((x.2.1.1.1, x.2.1.1.2.1, ()), ()), ()))) (none))
    (k ((), ((x.2.1.1.1, x.2.1.1.2.1, ()), ()), ()))
def spec_DiskOk_P2 : Tpl := ⟨[(1, .one (.fix (.vptr 1 0))), (4, .one (.leaf (.int .i64)))], [(1, [.leaf (.row false .str), .leaf (.row false (.pair (.int .i64) (.pair .str .unit)))])], []⟩
def spec_DiskOk_O2 : Tpl := ⟨[], [], []⟩
def spec_DiskOk_k2 (N : Nat) : Nat → ((Unit × (Unit × Unit)) → Option (Unit × (Bool × Unit))) → ((Int × Unit) × ((((List ByteArray) × (List (Int × (ByteArray × Unit))) × Unit) × Unit) × Unit)) → Option (Unit × (Bool × Unit))
  | 0, _, _ => none
  | n + 1, k, x =>
    tb (ilt x.1.1 (((llen x.2.1.1.2.1) : Nat) : Int))
    (chk (0 ≤ x.1.1) (obind (at? x.2.1.1.2.1 (Int.toNat x.1.1)) fun v0 =>
        obind (spec_l15Sector (v0.1, ())) fun v1 =>
        tb (bnot v1.2.1)
        (some ((), false, ()))
        (chk (0 ≤ x.1.1) (obind (at? x.2.1.1.2.1 (Int.toNat x.1.1)) fun v2 =>
            tb (bnot (ieq (((slen v2.2.1) : Nat) : Int) 64))
            (some ((), false, ()))
            (spec_DiskOk_k2 N n k (((wr .i64 (x.1.1 + 1)), ()), ((x.2.1.1.1, x.2.1.1.2.1, ()), ()), ()))) (none))) (none))
    (k ((), (), ()))
def spec_DiskOk_k (N : Nat) (x0 : L34) : Option (Unit × (Bool × Unit)) :=
  tb (bnot (ieq (((llen x0.1) : Nat) : Int) 130))
  (some ((), false, ()))
  (tb (ilt 200 (((llen x0.2.1) : Nat) : Int))
    (some ((), false, ()))
    (spec_DiskOk_k0 N N (fun v0 =>
        spec_DiskOk_k2 N N (fun v1 =>
          some ((), true, ())) ((0, ()), ((v0.2.1.1.1, v0.2.1.1.2.1, ()), ()), ())) ((0, ()), ((x0.1, x0.2.1, ()), ()), ())))
def spec_DiskOk (x : (L34 × Unit)) : Option (Unit × (Bool × Unit)) := spec_DiskOk_k fuel x.1
def spec_DiskOk_m : Con := ⟨[.val S34], [.bool], (.pair .bool .unit), spec_DiskOk⟩
def spec_DiskOk_s : List (Nat × Con) := [(90, spec_l15Sector_m)]
def spec_DiskOk_S0 (N : Nat) : Seg (Rof spec_DiskOk_m) := ⟨spec_DiskOk_P0, spec_DiskOk_O0, [], [], spec_DiskOk_k0 N⟩
def spec_DiskOk_S2 (N : Nat) : Seg (Rof spec_DiskOk_m) := ⟨spec_DiskOk_P2, spec_DiskOk_O2, [], [], spec_DiskOk_k2 N⟩
def spec_DiskOk_g (N : Nat) : List (Nat × Seg (Rof spec_DiskOk_m)) := [(0, spec_DiskOk_S0 N), (2, spec_DiskOk_S2 N)]
theorem spec_DiskOk_r0 : RndOk spec_DiskOk_s Tryz.f59 spec_DiskOk_m spec_DiskOk_g 0 spec_DiskOk_S0 := fun _ _ _ _ => by kernel_rfl
theorem spec_DiskOk_r2 : RndOk spec_DiskOk_s Tryz.f59 spec_DiskOk_m spec_DiskOk_g 2 spec_DiskOk_S2 := fun _ _ _ _ => by kernel_rfl
theorem spec_DiskOk_e : FunOk spec_DiskOk_s Tryz.f59 spec_DiskOk_m spec_DiskOk_g (fun N x => spec_DiskOk_k N x.1) := fun _ _ => by kernel_rfl
theorem spec_DiskOk_o : Known Tryz.prog 59 spec_DiskOk_m := known_v (g := spec_DiskOk_g) (.cons spec_l15Sector_o .nil) Tryz.func59 (by kernel_rfl) ⟨⟨fun _ _ => rfl, spec_DiskOk_r0 fuel⟩, ⟨⟨fun _ _ => rfl, spec_DiskOk_r2 fuel⟩, trivial⟩⟩ spec_DiskOk_e (fun _ => rfl)
def spec_l16Right_k (N : Nat) (x0 : L35) : Option (Unit × (Bool × Unit)) :=
  obind (spec_l1In (x0.1, 1, 1000000000, ())) fun v0 =>
  tb v0.2.1
  (obind (spec_l1In (x0.2.1, 0, 1, ())) fun v1 =>
    tb v1.2.1
    (obind (spec_l1In (x0.2.2.1, 0, 4096, ())) fun v2 =>
      some ((), v2.2.1, ()))
    (some ((), false, ())))
  (some ((), false, ()))
def spec_l16Right (x : (L35 × Unit)) : Option (Unit × (Bool × Unit)) := spec_l16Right_k fuel x.1
def spec_l16Right_m : Con := ⟨[.val S35], [.bool], (.pair .bool .unit), spec_l16Right⟩
def spec_l16Right_s : List (Nat × Con) := [(91, spec_l1In_m)]
def spec_l16Right_g (N : Nat) : List (Nat × Seg (Rof spec_l16Right_m)) := []
theorem spec_l16Right_e : FunOk spec_l16Right_s Tryz.f60 spec_l16Right_m spec_l16Right_g (fun N x => spec_l16Right_k N x.1) := fun _ _ => by kernel_rfl
theorem spec_l16Right_o : Known Tryz.prog 60 spec_l16Right_m := known_v (g := spec_l16Right_g) (.cons spec_l1In_o .nil) Tryz.func60 (by kernel_rfl) trivial spec_l16Right_e (fun _ => rfl)
def spec_GetNum_P0 : Tpl := ⟨[(0, .one (.leaf (.row false (.int .u8)))), (1, .one (.leaf (.int .i64))), (7, .one (.leaf (.int .i64))), (8, .one (.leaf (.int .i64))), (9, .one (.leaf (.int .i64)))], [], []⟩
def spec_GetNum_O0 : Tpl := ⟨[], [], []⟩
def spec_GetNum_k0 (N : Nat) : Nat → ((Unit × (Unit × Unit)) → Option (Unit × (Int × Int × Bool × Unit))) → (((List Int) × Int × Int × Int × Int × Unit) × (Unit × Unit)) → Option (Unit × (Int × Int × Bool × Unit))
  | 0, _, _ => none
  | n + 1, k, x =>
    tb (ilt x.1.2.2.2.2.1 9)
    (tb (ilt (wr .i64 (x.1.2.1 + x.1.2.2.2.2.1)) (((llen x.1.1) : Nat) : Int))
      (chk (0 ≤ (wr .i64 (x.1.2.1 + x.1.2.2.2.2.1))) (obind (at? x.1.1 (Int.toNat (wr .i64 (x.1.2.1 + x.1.2.2.2.2.1)))) fun v0 =>
          chk ((128 : Int) = 0) (none) (tb (ilt (wr .i64 v0) 128)
            (tb (ieq (wr .i64 v0) 0)
              (tb (ilt 0 x.1.2.2.2.2.1)
                (some ((), 0, 0, false, ()))
                (some ((), (wr .i64 (x.1.2.2.1 + (wr .i64 ((Int.tmod (wr .i64 v0) 128) * x.1.2.2.2.1)))), (wr .i64 ((wr .i64 (x.1.2.1 + x.1.2.2.2.2.1)) + 1)), true, ())))
              (some ((), (wr .i64 (x.1.2.2.1 + (wr .i64 ((Int.tmod (wr .i64 v0) 128) * x.1.2.2.2.1)))), (wr .i64 ((wr .i64 (x.1.2.1 + x.1.2.2.2.2.1)) + 1)), true, ())))
            (spec_GetNum_k0 N n k ((x.1.1, x.1.2.1, (wr .i64 (x.1.2.2.1 + (wr .i64 ((Int.tmod (wr .i64 v0) 128) * x.1.2.2.2.1)))), (wr .i64 (x.1.2.2.2.1 * 128)), (wr .i64 (x.1.2.2.2.2.1 + 1)), ()), (), ())))) (none))
      (k ((), (), ())))
    (k ((), (), ()))
def spec_GetNum_k (N : Nat) (x0 : (List Int)) (x1 : Int) : Option (Unit × (Int × Int × Bool × Unit)) :=
  tb (ilt x1 0)
  (some ((), 0, 0, false, ()))
  (tb (ile (((llen x0) : Nat) : Int) x1)
    (some ((), 0, 0, false, ()))
    (spec_GetNum_k0 N N (fun v0 =>
        some ((), 0, 0, false, ())) ((x0, x1, 0, 1, 0, ()), (), ())))
def spec_GetNum (x : ((List Int) × Int × Unit)) : Option (Unit × (Int × Int × Bool × Unit)) := spec_GetNum_k fuel x.1 x.2.1
def spec_GetNum_m : Con := ⟨[.val (.row false (.int .u8)), .val (.int .i64)], [(.int .i64), (.int .i64), .bool], (.pair (.int .i64) (.pair (.int .i64) (.pair .bool .unit))), spec_GetNum⟩
def spec_GetNum_s : List (Nat × Con) := []
def spec_GetNum_S0 (N : Nat) : Seg (Rof spec_GetNum_m) := ⟨spec_GetNum_P0, spec_GetNum_O0, [], [], spec_GetNum_k0 N⟩
def spec_GetNum_g (N : Nat) : List (Nat × Seg (Rof spec_GetNum_m)) := [(0, spec_GetNum_S0 N)]
theorem spec_GetNum_r0 : RndOk spec_GetNum_s Tryz.f126 spec_GetNum_m spec_GetNum_g 0 spec_GetNum_S0 := fun _ _ _ _ => by kernel_rfl
theorem spec_GetNum_e : FunOk spec_GetNum_s Tryz.f126 spec_GetNum_m spec_GetNum_g (fun N x => spec_GetNum_k N x.1 x.2.1) := fun _ _ => by kernel_rfl
theorem spec_GetNum_o : Known Tryz.prog 126 spec_GetNum_m := known_v (g := spec_GetNum_g) .nil Tryz.func126 (by kernel_rfl) ⟨⟨fun _ _ => rfl, spec_GetNum_r0 fuel⟩, trivial⟩ spec_GetNum_e (fun _ => rfl)
def spec_PutNum_P0 : Tpl := ⟨[(0, .one (.leaf (.int .i64))), (3, .one (.fix (.ref 10000 [] none)))], [], [(10000, (.int .u8))]⟩
def spec_PutNum_O0 : Tpl := ⟨[(0, .one (.leaf (.int .i64))), (3, .one (.fix (.ref 10500 [] none)))], [], [(10500, (.int .u8))]⟩
def spec_PutNum_k0 (N : Nat) : Nat → (((Int × Unit) × (Unit × ((List Int) × Unit))) → Option (Unit × ((List Int) × Unit))) → ((Int × Unit) × (Unit × ((List Int) × Unit))) → Option (Unit × ((List Int) × Unit))
  | 0, _, _ => none
  | n + 1, k, x =>
    tb (ilt 127 x.1.1)
    (chk ((128 : Int) = 0) (none) (chk ((plus (llen x.2.2.1) (llen [(wr .u8 (wr .i64 ((Int.tmod x.1.1 128) + 128)))])) ≤ 140737488355328) (chk ((128 : Int) = 0) (none) (spec_PutNum_k0 N n k (((wr .i64 (Int.tdiv x.1.1 128)), ()), (), (lapp x.2.2.1 [(wr .u8 (wr .i64 ((Int.tmod x.1.1 128) + 128)))]), ()))) (none)))
    (k ((x.1.1, ()), (), x.2.2.1, ()))
def spec_PutNum_k (N : Nat) (x0 : Int) : Option (Unit × ((List Int) × Unit)) :=
  tb (ilt x0 0)
  (some ((), [], ()))
  (spec_PutNum_k0 N N (fun v0 =>
      chk ((plus (llen v0.2.2.1) (llen [(wr .u8 v0.1.1)])) ≤ 140737488355328) (some ((), (lapp v0.2.2.1 [(wr .u8 v0.1.1)]), ())) (none)) ((x0, ()), (), [], ()))
def spec_PutNum (x : (Int × Unit)) : Option (Unit × ((List Int) × Unit)) := spec_PutNum_k fuel x.1
def spec_PutNum_m : Con := ⟨[.val (.int .i64)], [(.row true (.int .u8))], (.pair (.row true (.int .u8)) .unit), spec_PutNum⟩
def spec_PutNum_s : List (Nat × Con) := []
def spec_PutNum_S0 (N : Nat) : Seg (Rof spec_PutNum_m) := ⟨spec_PutNum_P0, spec_PutNum_O0, [.tmp 3 10000 (.int .u8)], [.tmp 3 10500 (.int .u8)], spec_PutNum_k0 N⟩
def spec_PutNum_g (N : Nat) : List (Nat × Seg (Rof spec_PutNum_m)) := [(0, spec_PutNum_S0 N)]
theorem spec_PutNum_r0 : RndOk spec_PutNum_s Tryz.f105 spec_PutNum_m spec_PutNum_g 0 spec_PutNum_S0 := fun _ _ _ _ => by kernel_rfl
theorem spec_PutNum_e : FunOk spec_PutNum_s Tryz.f105 spec_PutNum_m spec_PutNum_g (fun N x => spec_PutNum_k N x.1) := fun _ _ => by kernel_rfl
theorem spec_PutNum_o : Known Tryz.prog 105 spec_PutNum_m := known_v (g := spec_PutNum_g) .nil Tryz.func105 (by kernel_rfl) ⟨⟨fun _ _ => rfl, spec_PutNum_r0 fuel⟩, trivial⟩ spec_PutNum_e (fun _ => rfl)
def spec_HeadPack_P0 : Tpl := ⟨[(4, .one (.fix (.ref 10000 [] none)))], [], [(10000, (.int .u8))]⟩
def spec_HeadPack_O0 : Tpl := ⟨[(4, .one (.fix (.ref 10500 [] none)))], [], [(10500, (.int .u8))]⟩
def spec_HeadPack_k0 (N : Nat) : Nat → ((Unit × (Unit × ((List Int) × Unit))) → Option (Unit × (ByteArray × Bool × Unit))) → (Unit × (Unit × ((List Int) × Unit))) → Option (Unit × (ByteArray × Bool × Unit))
  | 0, _, _ => none
  | n + 1, k, x =>
    tb (ilt (((llen x.2.2.1) : Nat) : Int) 64)
    (chk ((plus (llen x.2.2.1) (llen [0])) ≤ 140737488355328) (spec_HeadPack_k0 N n k ((), (), (lapp x.2.2.1 [0]), ())) (none))
    (k ((), (), x.2.2.1, ()))
def spec_HeadPack_k (N : Nat) (x0 : L35) : Option (Unit × (ByteArray × Bool × Unit)) :=
  obind (spec_l16Right ((x0.1, x0.2.1, x0.2.2.1, ()), ())) fun v0 =>
  tb (bnot v0.2.1)
  (some ((), (⟨#[]⟩ : ByteArray), false, ()))
  (obind (spec_PutNum (x0.1, ())) fun v1 =>
    obind (spec_PutNum (x0.2.1, ())) fun v2 =>
    chk ((plus (llen v1.2.1) (llen v2.2.1)) ≤ 140737488355328) (obind (spec_PutNum (x0.2.2.1, ())) fun v3 =>
      chk ((plus (llen (lapp v1.2.1 v2.2.1)) (llen v3.2.1)) ≤ 140737488355328) (spec_HeadPack_k0 N N (fun v4 =>
          some ((), (strOf v4.2.2.1), true, ())) ((), (), (lapp (lapp v1.2.1 v2.2.1) v3.2.1), ())) (none)) (none))
def spec_HeadPack (x : (L35 × Unit)) : Option (Unit × (ByteArray × Bool × Unit)) := spec_HeadPack_k fuel x.1
def spec_HeadPack_m : Con := ⟨[.val S35], [.str, .bool], (.pair .str (.pair .bool .unit)), spec_HeadPack⟩
def spec_HeadPack_s : List (Nat × Con) := [(60, spec_l16Right_m), (105, spec_PutNum_m)]
def spec_HeadPack_S0 (N : Nat) : Seg (Rof spec_HeadPack_m) := ⟨spec_HeadPack_P0, spec_HeadPack_O0, [.tmp 4 10000 (.int .u8)], [.tmp 4 10500 (.int .u8)], spec_HeadPack_k0 N⟩
def spec_HeadPack_g (N : Nat) : List (Nat × Seg (Rof spec_HeadPack_m)) := [(0, spec_HeadPack_S0 N)]
theorem spec_HeadPack_r0 : RndOk spec_HeadPack_s Tryz.f127 spec_HeadPack_m spec_HeadPack_g 0 spec_HeadPack_S0 := fun _ _ _ _ => by kernel_rfl
theorem spec_HeadPack_e : FunOk spec_HeadPack_s Tryz.f127 spec_HeadPack_m spec_HeadPack_g (fun N x => spec_HeadPack_k N x.1) := fun _ _ => by kernel_rfl
theorem spec_HeadPack_o : Known Tryz.prog 127 spec_HeadPack_m := known_v (g := spec_HeadPack_g) (.cons spec_l16Right_o (.cons spec_PutNum_o .nil)) Tryz.func127 (by kernel_rfl) ⟨⟨fun _ _ => rfl, spec_HeadPack_r0 fuel⟩, trivial⟩ spec_HeadPack_e (fun _ => rfl)
def spec_HeadRead_k (N : Nat) (x0 : ByteArray) : Option (Unit × (L35 × Bool × Unit)) :=
  obind (spec_GetNum ((bytesOf x0), 0, ())) fun v0 =>
  obind (spec_GetNum ((bytesOf x0), v0.2.2.1, ())) fun v1 =>
  obind (spec_GetNum ((bytesOf x0), v1.2.2.1, ())) fun v2 =>
  obind (spec_HeadPack ((v0.2.1, v1.2.1, v2.2.1, ()), ())) fun v3 =>
  tb (bnot v0.2.2.2.1)
  (some ((), (0, 0, 0, ()), false, ()))
  (tb (bnot v1.2.2.2.1)
    (some ((), (0, 0, 0, ()), false, ()))
    (tb (bnot v2.2.2.2.1)
      (some ((), (0, 0, 0, ()), false, ()))
      (tb (bnot v3.2.2.1)
        (some ((), (0, 0, 0, ()), false, ()))
        (tb (bnot (seq v3.2.1 x0))
          (some ((), (0, 0, 0, ()), false, ()))
          (some ((), (v0.2.1, v1.2.1, v2.2.1, ()), true, ()))))))
def spec_HeadRead (x : (ByteArray × Unit)) : Option (Unit × (L35 × Bool × Unit)) := spec_HeadRead_k fuel x.1
def spec_HeadRead_m : Con := ⟨[.val .str], [T35, .bool], (.pair T35 (.pair .bool .unit)), spec_HeadRead⟩
def spec_HeadRead_s : List (Nat × Con) := [(126, spec_GetNum_m), (127, spec_HeadPack_m)]
def spec_HeadRead_g (N : Nat) : List (Nat × Seg (Rof spec_HeadRead_m)) := []
theorem spec_HeadRead_e : FunOk spec_HeadRead_s Tryz.f92 spec_HeadRead_m spec_HeadRead_g (fun N x => spec_HeadRead_k N x.1) := fun _ _ => by kernel_rfl
theorem spec_HeadRead_o : Known Tryz.prog 92 spec_HeadRead_m := known_v (g := spec_HeadRead_g) (.cons spec_GetNum_o (.cons spec_HeadPack_o .nil)) Tryz.func92 (by kernel_rfl) trivial spec_HeadRead_e (fun _ => rfl)
def spec_l15Of_P0 : Tpl := ⟨[(1, .one (.leaf (.int .i64))), (2, .one (.fix (.vptr 2 0))), (5, .one (.leaf (.int .i64)))], [(2, [.leaf (.row false .str), .leaf (.row false (.pair (.int .i64) (.pair .str .unit)))])], []⟩
def spec_l15Of_O0 : Tpl := ⟨[(1, .one (.leaf (.int .i64))), (2, .one (.fix (.vptr 2 0)))], [(2, [.leaf (.row false .str), .leaf (.row false (.pair (.int .i64) (.pair .str .unit)))])], []⟩
def spec_l15Of_k0 (N : Nat) : Nat → (((Int × Unit) × ((((List ByteArray) × (List (Int × (ByteArray × Unit))) × Unit) × Unit) × Unit)) → Option (Unit × (ByteArray × Unit))) → ((Int × Int × Unit) × ((((List ByteArray) × (List (Int × (ByteArray × Unit))) × Unit) × Unit) × Unit)) → Option (Unit × (ByteArray × Unit))
  | 0, _, _ => none
  | n + 1, k, x =>
    tb (ile 0 x.1.2.1)
    (chk (0 ≤ x.1.2.1) (obind (at? x.2.1.1.2.1 (Int.toNat x.1.2.1)) fun v0 =>
        tb (ieq v0.1 x.1.1)
        (chk (0 ≤ x.1.2.1) (obind (at? x.2.1.1.2.1 (Int.toNat x.1.2.1)) fun v1 =>
            some ((), v1.2.1, ())) (none))
        (spec_l15Of_k0 N n k ((x.1.1, (wr .i64 (x.1.2.1 - 1)), ()), ((x.2.1.1.1, x.2.1.1.2.1, ()), ()), ()))) (none))
    (k ((x.1.1, ()), ((x.2.1.1.1, x.2.1.1.2.1, ()), ()), ()))
def spec_l15Of_k (N : Nat) (x0 : L34) (x1 : Int) : Option (Unit × (ByteArray × Unit)) :=
  spec_l15Of_k0 N N (fun v0 =>
    chk (0 ≤ v0.1.1) (obind (at? v0.2.1.1.1 (Int.toNat v0.1.1)) fun v1 =>
      some ((), v1, ())) (none)) ((x1, (wr .i64 ((((llen x0.2.1) : Nat) : Int) - 1)), ()), ((x0.1, x0.2.1, ()), ()), ())
def spec_l15Of (x : (L34 × Int × Unit)) : Option (Unit × (ByteArray × Unit)) := spec_l15Of_k fuel x.1 x.2.1
def spec_l15Of_m : Con := ⟨[.val S34, .val (.int .i64)], [.str], (.pair .str .unit), spec_l15Of⟩
def spec_l15Of_s : List (Nat × Con) := []
def spec_l15Of_S0 (N : Nat) : Seg (Rof spec_l15Of_m) := ⟨spec_l15Of_P0, spec_l15Of_O0, [], [], spec_l15Of_k0 N⟩
def spec_l15Of_g (N : Nat) : List (Nat × Seg (Rof spec_l15Of_m)) := [(0, spec_l15Of_S0 N)]
theorem spec_l15Of_r0 : RndOk spec_l15Of_s Tryz.f93 spec_l15Of_m spec_l15Of_g 0 spec_l15Of_S0 := fun _ _ _ _ => by kernel_rfl
theorem spec_l15Of_e : FunOk spec_l15Of_s Tryz.f93 spec_l15Of_m spec_l15Of_g (fun N x => spec_l15Of_k N x.1 x.2.1) := fun _ _ => by kernel_rfl
theorem spec_l15Of_o : Known Tryz.prog 93 spec_l15Of_m := known_v (g := spec_l15Of_g) .nil Tryz.func93 (by kernel_rfl) ⟨⟨fun _ _ => rfl, spec_l15Of_r0 fuel⟩, trivial⟩ spec_l15Of_e (fun _ => rfl)
def spec_HeadNow_k (N : Nat) (x0 : L34) : Option (Unit × (L35 × Unit)) :=
  obind (spec_DiskOk ((x0.1, x0.2.1, ()), ())) fun v0 =>
  tb (bnot v0.2.1)
  (some ((), (0, 0, 0, ()), ()))
  (obind (spec_l15Of ((x0.1, x0.2.1, ()), 0, ())) fun v1 =>
    obind (spec_HeadRead (v1.2.1, ())) fun v2 =>
    obind (spec_l15Of ((x0.1, x0.2.1, ()), 1, ())) fun v3 =>
    obind (spec_HeadRead (v3.2.1, ())) fun v4 =>
    tb (ilt v2.2.1.1 v4.2.1.1)
    (some ((), (v4.2.1.1, v4.2.1.2.1, v4.2.1.2.2.1, ()), ()))
    (some ((), (v2.2.1.1, v2.2.1.2.1, v2.2.1.2.2.1, ()), ())))
def spec_HeadNow (x : (L34 × Unit)) : Option (Unit × (L35 × Unit)) := spec_HeadNow_k fuel x.1
def spec_HeadNow_m : Con := ⟨[.val S34], [T35], (.pair T35 .unit), spec_HeadNow⟩
def spec_HeadNow_s : List (Nat × Con) := [(59, spec_DiskOk_m), (92, spec_HeadRead_m), (93, spec_l15Of_m)]
def spec_HeadNow_g (N : Nat) : List (Nat × Seg (Rof spec_HeadNow_m)) := []
theorem spec_HeadNow_e : FunOk spec_HeadNow_s Tryz.f61 spec_HeadNow_m spec_HeadNow_g (fun N x => spec_HeadNow_k N x.1) := fun _ _ => by kernel_rfl
theorem spec_HeadNow_o : Known Tryz.prog 61 spec_HeadNow_m := known_v (g := spec_HeadNow_g) (.cons spec_DiskOk_o (.cons spec_HeadRead_o (.cons spec_l15Of_o .nil))) Tryz.func61 (by kernel_rfl) trivial spec_HeadNow_e (fun _ => rfl)
def spec_UrlOk_P0 : Tpl := ⟨[(0, .one (.leaf .str)), (3, .one (.leaf (.int .i64)))], [], []⟩
def spec_UrlOk_O0 : Tpl := ⟨[], [], []⟩
def spec_UrlOk_k0 (N : Nat) : Nat → ((Unit × (Unit × Unit)) → Option (Unit × (Bool × Unit))) → ((ByteArray × Int × Unit) × (Unit × Unit)) → Option (Unit × (Bool × Unit))
  | 0, _, _ => none
  | n + 1, k, x =>
    tb (ilt x.1.2.1 (((slen x.1.1) : Nat) : Int))
    (chk ((0 ≤ x.1.2.1) ∧ (x.1.2.1 < (((slen x.1.1) : Nat) : Int))) (tb (ilt (bt x.1.1 x.1.2.1) 33)
        (some ((), false, ()))
        (chk ((0 ≤ x.1.2.1) ∧ (x.1.2.1 < (((slen x.1.1) : Nat) : Int))) (tb (ilt 126 (bt x.1.1 x.1.2.1))
            (some ((), false, ()))
            (spec_UrlOk_k0 N n k ((x.1.1, (wr .i64 (x.1.2.1 + 1)), ()), (), ()))) (none))) (none))
    (k ((), (), ()))
def spec_UrlOk_k (N : Nat) (x0 : ByteArray) : Option (Unit × (Bool × Unit)) :=
  obind (spec_l1In ((((slen x0) : Nat) : Int), 1, 60, ())) fun v0 =>
  tb (bnot v0.2.1)
  (some ((), false, ()))
  (spec_UrlOk_k0 N N (fun v1 =>
      some ((), true, ())) ((x0, 0, ()), (), ()))
def spec_UrlOk (x : (ByteArray × Unit)) : Option (Unit × (Bool × Unit)) := spec_UrlOk_k fuel x.1
def spec_UrlOk_m : Con := ⟨[.val .str], [.bool], (.pair .bool .unit), spec_UrlOk⟩
def spec_UrlOk_s : List (Nat × Con) := [(91, spec_l1In_m)]
def spec_UrlOk_S0 (N : Nat) : Seg (Rof spec_UrlOk_m) := ⟨spec_UrlOk_P0, spec_UrlOk_O0, [], [], spec_UrlOk_k0 N⟩
def spec_UrlOk_g (N : Nat) : List (Nat × Seg (Rof spec_UrlOk_m)) := [(0, spec_UrlOk_S0 N)]
theorem spec_UrlOk_r0 : RndOk spec_UrlOk_s Tryz.f68 spec_UrlOk_m spec_UrlOk_g 0 spec_UrlOk_S0 := fun _ _ _ _ => by kernel_rfl
theorem spec_UrlOk_e : FunOk spec_UrlOk_s Tryz.f68 spec_UrlOk_m spec_UrlOk_g (fun N x => spec_UrlOk_k N x.1) := fun _ _ => by kernel_rfl
theorem spec_UrlOk_o : Known Tryz.prog 68 spec_UrlOk_m := known_v (g := spec_UrlOk_g) (.cons spec_l1In_o .nil) Tryz.func68 (by kernel_rfl) ⟨⟨fun _ _ => rfl, spec_UrlOk_r0 fuel⟩, trivial⟩ spec_UrlOk_e (fun _ => rfl)
def spec_PutText_k (N : Nat) (x0 : ByteArray) : Option (Unit × ((List Int) × Unit)) :=
  obind (spec_PutNum ((((slen x0) : Nat) : Int), ())) fun v0 =>
  chk ((plus (llen v0.2.1) (llen (bytesOf x0))) ≤ 140737488355328) (some ((), (lapp v0.2.1 (bytesOf x0)), ())) (none)
def spec_PutText (x : (ByteArray × Unit)) : Option (Unit × ((List Int) × Unit)) := spec_PutText_k fuel x.1
def spec_PutText_m : Con := ⟨[.val .str], [(.row true (.int .u8))], (.pair (.row true (.int .u8)) .unit), spec_PutText⟩
def spec_PutText_s : List (Nat × Con) := [(105, spec_PutNum_m)]
def spec_PutText_g (N : Nat) : List (Nat × Seg (Rof spec_PutText_m)) := []
theorem spec_PutText_e : FunOk spec_PutText_s Tryz.f106 spec_PutText_m spec_PutText_g (fun N x => spec_PutText_k N x.1) := fun _ _ => by kernel_rfl
theorem spec_PutText_o : Known Tryz.prog 106 spec_PutText_m := known_v (g := spec_PutText_g) (.cons spec_PutNum_o .nil) Tryz.func106 (by kernel_rfl) trivial spec_PutText_e (fun _ => rfl)
def spec_RecordPack_k (N : Nat) (x0 : L99) : Option (Unit × ((List Int) × Bool × Unit)) :=
  tb (bnot (ieq x0.1 1))
  (tb (bnot (ieq x0.1 2))
    (some ((), [], false, ()))
    (obind (spec_UrlOk (x0.2.1, ())) fun v0 =>
      tb (bnot v0.2.1)
      (some ((), [], false, ()))
      (tb (ieq x0.1 2)
        (tb (bnot (seq x0.2.2.1 (⟨#[]⟩ : ByteArray)))
          (some ((), [], false, ()))
          (obind (spec_PutNum (x0.1, ())) fun v1 =>
            obind (spec_PutText (x0.2.1, ())) fun v2 =>
            chk ((plus (llen v1.2.1) (llen v2.2.1)) ≤ 140737488355328) (tb (ieq x0.1 1)
              (obind (spec_PutText (x0.2.2.1, ())) fun v3 =>
                chk ((plus (llen (lapp v1.2.1 v2.2.1)) (llen v3.2.1)) ≤ 140737488355328) (some ((), (lapp (lapp v1.2.1 v2.2.1) v3.2.1), true, ())) (none))
              (some ((), (lapp v1.2.1 v2.2.1), true, ()))) (none)))
        (obind (spec_PutNum (x0.1, ())) fun v4 =>
          obind (spec_PutText (x0.2.1, ())) fun v5 =>
          chk ((plus (llen v4.2.1) (llen v5.2.1)) ≤ 140737488355328) (tb (ieq x0.1 1)
            (obind (spec_PutText (x0.2.2.1, ())) fun v6 =>
              chk ((plus (llen (lapp v4.2.1 v5.2.1)) (llen v6.2.1)) ≤ 140737488355328) (some ((), (lapp (lapp v4.2.1 v5.2.1) v6.2.1), true, ())) (none))
            (some ((), (lapp v4.2.1 v5.2.1), true, ()))) (none)))))
  (obind (spec_UrlOk (x0.2.1, ())) fun v7 =>
    tb (bnot v7.2.1)
    (some ((), [], false, ()))
    (tb (ieq x0.1 2)
      (tb (bnot (seq x0.2.2.1 (⟨#[]⟩ : ByteArray)))
        (some ((), [], false, ()))
        (obind (spec_PutNum (x0.1, ())) fun v8 =>
          obind (spec_PutText (x0.2.1, ())) fun v9 =>
          chk ((plus (llen v8.2.1) (llen v9.2.1)) ≤ 140737488355328) (tb (ieq x0.1 1)
            (obind (spec_PutText (x0.2.2.1, ())) fun v10 =>
              chk ((plus (llen (lapp v8.2.1 v9.2.1)) (llen v10.2.1)) ≤ 140737488355328) (some ((), (lapp (lapp v8.2.1 v9.2.1) v10.2.1), true, ())) (none))
            (some ((), (lapp v8.2.1 v9.2.1), true, ()))) (none)))
      (obind (spec_PutNum (x0.1, ())) fun v11 =>
        obind (spec_PutText (x0.2.1, ())) fun v12 =>
        chk ((plus (llen v11.2.1) (llen v12.2.1)) ≤ 140737488355328) (tb (ieq x0.1 1)
          (obind (spec_PutText (x0.2.2.1, ())) fun v13 =>
            chk ((plus (llen (lapp v11.2.1 v12.2.1)) (llen v13.2.1)) ≤ 140737488355328) (some ((), (lapp (lapp v11.2.1 v12.2.1) v13.2.1), true, ())) (none))
          (some ((), (lapp v11.2.1 v12.2.1), true, ()))) (none))))
def spec_RecordPack (x : (L99 × Unit)) : Option (Unit × ((List Int) × Bool × Unit)) := spec_RecordPack_k fuel x.1
def spec_RecordPack_m : Con := ⟨[.val S99], [(.row true (.int .u8)), .bool], (.pair (.row true (.int .u8)) (.pair .bool .unit)), spec_RecordPack⟩
def spec_RecordPack_s : List (Nat × Con) := [(68, spec_UrlOk_m), (105, spec_PutNum_m), (106, spec_PutText_m)]
def spec_RecordPack_g (N : Nat) : List (Nat × Seg (Rof spec_RecordPack_m)) := []
theorem spec_RecordPack_e : FunOk spec_RecordPack_s Tryz.f72 spec_RecordPack_m spec_RecordPack_g (fun N x => spec_RecordPack_k N x.1) := fun _ _ => by kernel_rfl
theorem spec_RecordPack_o : Known Tryz.prog 72 spec_RecordPack_m := known_v (g := spec_RecordPack_g) (.cons spec_UrlOk_o (.cons spec_PutNum_o (.cons spec_PutText_o .nil))) Tryz.func72 (by kernel_rfl) trivial spec_RecordPack_e (fun _ => rfl)
def spec_GetText_k (N : Nat) (x0 : (List Int)) (x1 : Int) : Option (Unit × (ByteArray × Int × Bool × Unit)) :=
  obind (spec_GetNum (x0, x1, ())) fun v0 =>
  tb (bnot v0.2.2.2.1)
  (some ((), (⟨#[]⟩ : ByteArray), 0, false, ()))
  (tb (ilt (wr .i64 ((((llen x0) : Nat) : Int) - v0.2.2.1)) v0.2.1)
    (some ((), (⟨#[]⟩ : ByteArray), 0, false, ()))
    (chk ((0 ≤ v0.2.2.1) ∧ ((v0.2.2.1 ≤ (wr .i64 (v0.2.2.1 + v0.2.1))) ∧ ((wr .i64 (v0.2.2.1 + v0.2.1)) ≤ (((llen x0) : Nat) : Int)))) (some ((), (strOf (lcut x0 (Int.toNat v0.2.2.1) (Int.toNat (wr .i64 (v0.2.2.1 + v0.2.1))))), (wr .i64 (v0.2.2.1 + v0.2.1)), true, ())) (none)))
def spec_GetText (x : ((List Int) × Int × Unit)) : Option (Unit × (ByteArray × Int × Bool × Unit)) := spec_GetText_k fuel x.1 x.2.1
def spec_GetText_m : Con := ⟨[.val (.row false (.int .u8)), .val (.int .i64)], [.str, (.int .i64), .bool], (.pair .str (.pair (.int .i64) (.pair .bool .unit))), spec_GetText⟩
def spec_GetText_s : List (Nat × Con) := [(126, spec_GetNum_m)]
def spec_GetText_g (N : Nat) : List (Nat × Seg (Rof spec_GetText_m)) := []
theorem spec_GetText_e : FunOk spec_GetText_s Tryz.f128 spec_GetText_m spec_GetText_g (fun N x => spec_GetText_k N x.1 x.2.1) := fun _ _ => by kernel_rfl
theorem spec_GetText_o : Known Tryz.prog 128 spec_GetText_m := known_v (g := spec_GetText_g) (.cons spec_GetNum_o .nil) Tryz.func128 (by kernel_rfl) trivial spec_GetText_e (fun _ => rfl)
def spec_RecordRead_k (N : Nat) (x0 : (List Int)) (x1 : Int) : Option (Unit × (L99 × Int × Bool × Unit)) :=
  obind (spec_GetNum (x0, x1, ())) fun v0 =>
  tb (bnot v0.2.2.2.1)
  (some ((), (0, (⟨#[]⟩ : ByteArray), (⟨#[]⟩ : ByteArray), ()), 0, false, ()))
  (obind (spec_GetText (x0, v0.2.2.1, ())) fun v1 =>
    tb (bnot v1.2.2.2.1)
    (some ((), (0, (⟨#[]⟩ : ByteArray), (⟨#[]⟩ : ByteArray), ()), 0, false, ()))
    (tb (ieq v0.2.1 1)
      (obind (spec_GetText (x0, v1.2.2.1, ())) fun v2 =>
        tb (bnot v2.2.2.2.1)
        (some ((), (0, (⟨#[]⟩ : ByteArray), (⟨#[]⟩ : ByteArray), ()), 0, false, ()))
        (obind (spec_RecordPack ((v0.2.1, v1.2.1, v2.2.1, ()), ())) fun v3 =>
          tb (bnot v3.2.2.1)
          (some ((), (0, (⟨#[]⟩ : ByteArray), (⟨#[]⟩ : ByteArray), ()), 0, false, ()))
          (some ((), (v0.2.1, v1.2.1, v2.2.1, ()), v2.2.2.1, true, ()))))
      (obind (spec_RecordPack ((v0.2.1, v1.2.1, (⟨#[]⟩ : ByteArray), ()), ())) fun v4 =>
        tb (bnot v4.2.2.1)
        (some ((), (0, (⟨#[]⟩ : ByteArray), (⟨#[]⟩ : ByteArray), ()), 0, false, ()))
        (some ((), (v0.2.1, v1.2.1, (⟨#[]⟩ : ByteArray), ()), v1.2.2.1, true, ())))))
def spec_RecordRead (x : ((List Int) × Int × Unit)) : Option (Unit × (L99 × Int × Bool × Unit)) := spec_RecordRead_k fuel x.1 x.2.1
def spec_RecordRead_m : Con := ⟨[.val (.row false (.int .u8)), .val (.int .i64)], [T99, (.int .i64), .bool], (.pair T99 (.pair (.int .i64) (.pair .bool .unit))), spec_RecordRead⟩
def spec_RecordRead_s : List (Nat × Con) := [(72, spec_RecordPack_m), (126, spec_GetNum_m), (128, spec_GetText_m)]
def spec_RecordRead_g (N : Nat) : List (Nat × Seg (Rof spec_RecordRead_m)) := []
theorem spec_RecordRead_e : FunOk spec_RecordRead_s Tryz.f94 spec_RecordRead_m spec_RecordRead_g (fun N x => spec_RecordRead_k N x.1 x.2.1) := fun _ _ => by kernel_rfl
theorem spec_RecordRead_o : Known Tryz.prog 94 spec_RecordRead_m := known_v (g := spec_RecordRead_g) (.cons spec_RecordPack_o (.cons spec_GetNum_o (.cons spec_GetText_o .nil))) Tryz.func94 (by kernel_rfl) trivial spec_RecordRead_e (fun _ => rfl)
def spec_Records_P0 : Tpl := ⟨[(0, .one (.leaf (.row false (.int .u8)))), (4, .one (.fix (.ref 10000 [] none))), (5, .one (.leaf (.int .i64)))], [], [(10000, (.pair (.int .i64) (.pair .str (.pair .str .unit))))]⟩
def spec_Records_O0 : Tpl := ⟨[(4, .one (.fix (.ref 10500 [] none)))], [], [(10500, (.pair (.int .i64) (.pair .str (.pair .str .unit))))]⟩
def spec_Records_k0 (N : Nat) : Nat → ((Unit × (Unit × ((List (Int × (ByteArray × (ByteArray × Unit)))) × Unit))) → Option (Unit × ((List L99) × Bool × Unit))) → (((List Int) × Int × Unit) × (Unit × ((List (Int × (ByteArray × (ByteArray × Unit)))) × Unit))) → Option (Unit × ((List L99) × Bool × Unit))
  | 0, _, _ => none
  | n + 1, k, x =>
    tb (ilt x.1.2.1 (((llen x.1.1) : Nat) : Int))
    (obind (spec_RecordRead (x.1.1, x.1.2.1, ())) fun v0 =>
      tb (bnot v0.2.2.2.1)
      (some ((), [], false, ()))
      (chk ((plus (llen x.2.2.1) (llen [(v0.2.1.1, v0.2.1.2.1, v0.2.1.2.2.1, ())])) ≤ 3518437208883) (spec_Records_k0 N n k ((x.1.1, v0.2.2.1, ()), (), (lapp x.2.2.1 [(v0.2.1.1, v0.2.1.2.1, v0.2.1.2.2.1, ())]), ())) (none)))
    (k ((), (), x.2.2.1, ()))
def spec_Records_k (N : Nat) (x0 : (List Int)) : Option (Unit × ((List L99) × Bool × Unit)) :=
  spec_Records_k0 N N (fun v0 =>
    some ((), v0.2.2.1, true, ())) ((x0, 0, ()), (), [], ())
def spec_Records (x : ((List Int) × Unit)) : Option (Unit × ((List L99) × Bool × Unit)) := spec_Records_k fuel x.1
def spec_Records_m : Con := ⟨[.val (.row false (.int .u8))], [(.row true T99), .bool], (.pair (.row true T99) (.pair .bool .unit)), spec_Records⟩
def spec_Records_s : List (Nat × Con) := [(94, spec_RecordRead_m)]
def spec_Records_S0 (N : Nat) : Seg (Rof spec_Records_m) := ⟨spec_Records_P0, spec_Records_O0, [.tmp 4 10000 (.pair (.int .i64) (.pair .str (.pair .str .unit)))], [.tmp 4 10500 (.pair (.int .i64) (.pair .str (.pair .str .unit)))], spec_Records_k0 N⟩
def spec_Records_g (N : Nat) : List (Nat × Seg (Rof spec_Records_m)) := [(0, spec_Records_S0 N)]
theorem spec_Records_r0 : RndOk spec_Records_s Tryz.f62 spec_Records_m spec_Records_g 0 spec_Records_S0 := fun _ _ _ _ => by kernel_rfl
theorem spec_Records_e : FunOk spec_Records_s Tryz.f62 spec_Records_m spec_Records_g (fun N x => spec_Records_k N x.1) := fun _ _ => by kernel_rfl
theorem spec_Records_o : Known Tryz.prog 62 spec_Records_m := known_v (g := spec_Records_g) (.cons spec_RecordRead_o .nil) Tryz.func62 (by kernel_rfl) ⟨⟨fun _ _ => rfl, spec_Records_r0 fuel⟩, trivial⟩ spec_Records_e (fun _ => rfl)
def spec_l16Get_P0 : Tpl := ⟨[(1, .one (.leaf (.int .i64))), (2, .one (.leaf (.int .i64))), (3, .one (.leaf (.int .i64))), (4, .one (.fix (.vptr 4 0))), (9, .one (.fix (.ref 10000 [] none))), (10, .one (.leaf (.int .i64)))], [(4, [.leaf (.row false .str), .leaf (.row false (.pair (.int .i64) (.pair .str .unit)))])], [(10000, (.int .u8))]⟩
def spec_l16Get_O0 : Tpl := ⟨[(9, .one (.fix (.ref 10500 [] none)))], [], [(10500, (.int .u8))]⟩
def spec_l16Get_k0 (N : Nat) : Nat → ((Unit × (Unit × ((List Int) × Unit))) → Option (Unit × ((List Int) × Unit))) → ((Int × Int × Int × Int × Unit) × ((((List ByteArray) × (List (Int × (ByteArray × Unit))) × Unit) × Unit) × ((List Int) × Unit))) → Option (Unit × ((List Int) × Unit))
  | 0, _, _ => none
  | n + 1, k, x =>
    tb (ilt x.1.2.2.2.1 x.1.2.2.1)
    (chk ((64 : Int) = 0) (none) (obind (spec_l15Of ((x.2.1.1.1, x.2.1.1.2.1, ()), (wr .i64 ((wr .i64 (2 + (wr .i64 (64 * x.1.1)))) + (wr .i64 (Int.tdiv (wr .i64 (x.1.2.1 + x.1.2.2.2.1)) 64)))), ())) fun v0 =>
        chk ((64 : Int) = 0) (none) (chk ((0 ≤ (Int.tmod (wr .i64 (x.1.2.1 + x.1.2.2.2.1)) 64)) ∧ ((Int.tmod (wr .i64 (x.1.2.1 + x.1.2.2.2.1)) 64) < (((slen v0.2.1) : Nat) : Int))) (chk ((plus (llen x.2.2.1) (llen [(bt v0.2.1 (Int.tmod (wr .i64 (x.1.2.1 + x.1.2.2.2.1)) 64))])) ≤ 140737488355328) (spec_l16Get_k0 N n k ((x.1.1, x.1.2.1, x.1.2.2.1, (wr .i64 (x.1.2.2.2.1 + 1)), ()), ((x.2.1.1.1, x.2.1.1.2.1, ()), ()), (lapp x.2.2.1 [(bt v0.2.1 (Int.tmod (wr .i64 (x.1.2.1 + x.1.2.2.2.1)) 64))]), ())) (none)) (none))))
    (k ((), (), x.2.2.1, ()))
def spec_l16Get_k (N : Nat) (x0 : L34) (x1 : Int) (x2 : Int) (x3 : Int) : Option (Unit × ((List Int) × Unit)) :=
  spec_l16Get_k0 N N (fun v0 =>
    some ((), v0.2.2.1, ())) ((x1, x2, x3, 0, ()), ((x0.1, x0.2.1, ()), ()), [], ())
def spec_l16Get (x : (L34 × Int × Int × Int × Unit)) : Option (Unit × ((List Int) × Unit)) := spec_l16Get_k fuel x.1 x.2.1 x.2.2.1 x.2.2.2.1
def spec_l16Get_m : Con := ⟨[.val S34, .val (.int .i64), .val (.int .i64), .val (.int .i64)], [(.row true (.int .u8))], (.pair (.row true (.int .u8)) .unit), spec_l16Get⟩
def spec_l16Get_s : List (Nat × Con) := [(93, spec_l15Of_m)]
def spec_l16Get_S0 (N : Nat) : Seg (Rof spec_l16Get_m) := ⟨spec_l16Get_P0, spec_l16Get_O0, [.tmp 9 10000 (.int .u8)], [.tmp 9 10500 (.int .u8)], spec_l16Get_k0 N⟩
def spec_l16Get_g (N : Nat) : List (Nat × Seg (Rof spec_l16Get_m)) := [(0, spec_l16Get_S0 N)]
theorem spec_l16Get_r0 : RndOk spec_l16Get_s Tryz.f95 spec_l16Get_m spec_l16Get_g 0 spec_l16Get_S0 := fun _ _ _ _ => by kernel_rfl
theorem spec_l16Get_e : FunOk spec_l16Get_s Tryz.f95 spec_l16Get_m spec_l16Get_g (fun N x => spec_l16Get_k N x.1 x.2.1 x.2.2.1 x.2.2.2.1) := fun _ _ => by kernel_rfl
theorem spec_l16Get_o : Known Tryz.prog 95 spec_l16Get_m := known_v (g := spec_l16Get_g) (.cons spec_l15Of_o .nil) Tryz.func95 (by kernel_rfl) ⟨⟨fun _ _ => rfl, spec_l16Get_r0 fuel⟩, trivial⟩ spec_l16Get_e (fun _ => rfl)
def spec_l18Bytes_k (N : Nat) (x0 : L34) (x1 : L35) : Option (Unit × ((List Int) × Unit)) :=
  obind (spec_l16Get ((x0.1, x0.2.1, ()), x1.2.1, 0, x1.2.2.1, ())) fun v0 =>
  some ((), v0.2.1, ())
def spec_l18Bytes (x : (L34 × L35 × Unit)) : Option (Unit × ((List Int) × Unit)) := spec_l18Bytes_k fuel x.1 x.2.1
def spec_l18Bytes_m : Con := ⟨[.val S34, .val S35], [(.row true (.int .u8))], (.pair (.row true (.int .u8)) .unit), spec_l18Bytes⟩
def spec_l18Bytes_s : List (Nat × Con) := [(95, spec_l16Get_m)]
def spec_l18Bytes_g (N : Nat) : List (Nat × Seg (Rof spec_l18Bytes_m)) := []
theorem spec_l18Bytes_e : FunOk spec_l18Bytes_s Tryz.f63 spec_l18Bytes_m spec_l18Bytes_g (fun N x => spec_l18Bytes_k N x.1 x.2.1) := fun _ _ => by kernel_rfl
theorem spec_l18Bytes_o : Known Tryz.prog 63 spec_l18Bytes_m := known_v (g := spec_l18Bytes_g) (.cons spec_l16Get_o .nil) Tryz.func63 (by kernel_rfl) trivial spec_l18Bytes_e (fun _ => rfl)
def spec_l18SameList_P0 : Tpl := ⟨[(0, .one (.leaf (.row false (.pair .str (.pair .str .unit))))), (1, .one (.leaf (.row false (.pair .str (.pair .str .unit))))), (5, .one (.leaf (.int .i64)))], [], []⟩
def spec_l18SameList_O0 : Tpl := ⟨[], [], []⟩
def spec_l18SameList_k0 (N : Nat) : Nat → ((Unit × (Unit × Unit)) → Option (Unit × (Bool × Unit))) → (((List (ByteArray × (ByteArray × Unit))) × (List (ByteArray × (ByteArray × Unit))) × Int × Unit) × (Unit × Unit)) → Option (Unit × (Bool × Unit))
  | 0, _, _ => none
  | n + 1, k, x =>
    tb (ilt x.1.2.2.1 (((llen x.1.1) : Nat) : Int))
    (chk (0 ≤ x.1.2.2.1) (obind (at? x.1.1 (Int.toNat x.1.2.2.1)) fun v0 =>
        chk (0 ≤ x.1.2.2.1) (obind (at? x.1.2.1 (Int.toNat x.1.2.2.1)) fun v1 =>
          tb (bnot (band (seq v0.1 v1.1) (band (seq v0.2.1 v1.2.1) true)))
          (some ((), false, ()))
          (spec_l18SameList_k0 N n k ((x.1.1, x.1.2.1, (wr .i64 (x.1.2.2.1 + 1)), ()), (), ()))) (none)) (none))
    (k ((), (), ()))
def spec_l18SameList_k (N : Nat) (x0 : (List L80)) (x1 : (List L80)) : Option (Unit × (Bool × Unit)) :=
  tb (bnot (ieq (((llen x0) : Nat) : Int) (((llen x1) : Nat) : Int)))
  (some ((), false, ()))
  (spec_l18SameList_k0 N N (fun v0 =>
      some ((), true, ())) ((x0, x1, 0, ()), (), ()))
def spec_l18SameList (x : ((List L80) × (List L80) × Unit)) : Option (Unit × (Bool × Unit)) := spec_l18SameList_k fuel x.1 x.2.1
def spec_l18SameList_m : Con := ⟨[.val (.row false S80), .val (.row false S80)], [.bool], (.pair .bool .unit), spec_l18SameList⟩
def spec_l18SameList_s : List (Nat × Con) := []
def spec_l18SameList_S0 (N : Nat) : Seg (Rof spec_l18SameList_m) := ⟨spec_l18SameList_P0, spec_l18SameList_O0, [], [], spec_l18SameList_k0 N⟩
def spec_l18SameList_g (N : Nat) : List (Nat × Seg (Rof spec_l18SameList_m)) := [(0, spec_l18SameList_S0 N)]
theorem spec_l18SameList_r0 : RndOk spec_l18SameList_s Tryz.f64 spec_l18SameList_m spec_l18SameList_g 0 spec_l18SameList_S0 := fun _ _ _ _ => by kernel_rfl
theorem spec_l18SameList_e : FunOk spec_l18SameList_s Tryz.f64 spec_l18SameList_m spec_l18SameList_g (fun N x => spec_l18SameList_k N x.1 x.2.1) := fun _ _ => by kernel_rfl
theorem spec_l18SameList_o : Known Tryz.prog 64 spec_l18SameList_m := known_v (g := spec_l18SameList_g) .nil Tryz.func64 (by kernel_rfl) ⟨⟨fun _ _ => rfl, spec_l18SameList_r0 fuel⟩, trivial⟩ spec_l18SameList_e (fun _ => rfl)
def spec_IndexOf_P2 : Tpl := ⟨[(0, .one (.leaf (.row false (.pair (.int .i64) (.pair .str (.pair .str .unit)))))), (3, .one (.fix (.ref 12000 [] none))), (4, .one (.leaf (.int .i64))), (5, .one (.fix (.ref 12001 [] none))), (6, .one (.leaf .bool)), (7, .one (.leaf (.int .i64)))], [], [(12000, (.pair .str (.pair .str .unit))), (12001, (.pair .str (.pair .str .unit)))]⟩
def spec_IndexOf_O2 : Tpl := ⟨[(0, .one (.leaf (.row false (.pair (.int .i64) (.pair .str (.pair .str .unit)))))), (4, .one (.leaf (.int .i64))), (5, .one (.fix (.ref 12500 [] none))), (6, .one (.leaf .bool))], [], [(12500, (.pair .str (.pair .str .unit)))]⟩
def spec_IndexOf_k2 (N : Nat) : Nat → ((((List (Int × (ByteArray × (ByteArray × Unit)))) × Int × Bool × Unit) × (Unit × ((List (ByteArray × (ByteArray × Unit))) × Unit))) → Option (Unit × ((List L80) × Unit))) → (((List (Int × (ByteArray × (ByteArray × Unit)))) × Int × Bool × Int × Unit) × (Unit × ((List (ByteArray × (ByteArray × Unit))) × (List (ByteArray × (ByteArray × Unit))) × Unit))) → Option (Unit × ((List L80) × Unit))
  | 0, _, _ => none
  | n + 1, k, x =>
    tb (ilt x.1.2.2.2.1 (((llen x.2.2.1) : Nat) : Int))
    (tb (bnot x.1.2.2.1)
      (chk ((0 ≤ x.1.2.2.2.1) ∧ (x.1.2.2.2.1 < (((llen x.2.2.1) : Nat) : Int))) (obind (at? x.2.2.1 (Int.toNat x.1.2.2.2.1)) fun v0 =>
          chk (0 ≤ x.1.2.1) (obind (at? x.1.1 (Int.toNat x.1.2.1)) fun v1 =>
            tb (bnot (slt v0.1 v1.2.1))
            (chk (0 ≤ x.1.2.1) (obind (at? x.1.1 (Int.toNat x.1.2.1)) fun v2 =>
                chk (0 ≤ x.1.2.1) (obind (at? x.1.1 (Int.toNat x.1.2.1)) fun v3 =>
                  chk ((plus (llen x.2.2.2.1) (llen [(v2.2.1, v3.2.2.1, ())])) ≤ 4398046511104) (chk ((0 ≤ x.1.2.2.2.1) ∧ (x.1.2.2.2.1 < (((llen x.2.2.1) : Nat) : Int))) (obind (at? x.2.2.1 (Int.toNat x.1.2.2.2.1)) fun v4 =>
                      chk (0 ≤ x.1.2.1) (obind (at? x.1.1 (Int.toNat x.1.2.1)) fun v5 =>
                        tb (bnot (seq v4.1 v5.2.1))
                        (chk ((0 ≤ x.1.2.2.2.1) ∧ (x.1.2.2.2.1 < (((llen x.2.2.1) : Nat) : Int))) (obind (at? x.2.2.1 (Int.toNat x.1.2.2.2.1)) fun v6 =>
                            chk ((plus (llen (lapp x.2.2.2.1 [(v2.2.1, v3.2.2.1, ())])) (llen [(v6.1, v6.2.1, ())])) ≤ 4398046511104) (spec_IndexOf_k2 N n k ((x.1.1, x.1.2.1, true, (wr .i64 (x.1.2.2.2.1 + 1)), ()), (), x.2.2.1, (lapp (lapp x.2.2.2.1 [(v2.2.1, v3.2.2.1, ())]) [(v6.1, v6.2.1, ())]), ())) (none)) (none))
                        (spec_IndexOf_k2 N n k ((x.1.1, x.1.2.1, true, (wr .i64 (x.1.2.2.2.1 + 1)), ()), (), x.2.2.1, (lapp x.2.2.2.1 [(v2.2.1, v3.2.2.1, ())]), ()))) (none)) (none)) (none)) (none)) (none))
            (chk ((0 ≤ x.1.2.2.2.1) ∧ (x.1.2.2.2.1 < (((llen x.2.2.1) : Nat) : Int))) (obind (at? x.2.2.1 (Int.toNat x.1.2.2.2.1)) fun v7 =>
                chk (0 ≤ x.1.2.1) (obind (at? x.1.1 (Int.toNat x.1.2.1)) fun v8 =>
                  tb (bnot (seq v7.1 v8.2.1))
                  (chk ((0 ≤ x.1.2.2.2.1) ∧ (x.1.2.2.2.1 < (((llen x.2.2.1) : Nat) : Int))) (obind (at? x.2.2.1 (Int.toNat x.1.2.2.2.1)) fun v9 =>
                      chk ((plus (llen x.2.2.2.1) (llen [(v9.1, v9.2.1, ())])) ≤ 4398046511104) (spec_IndexOf_k2 N n k ((x.1.1, x.1.2.1, x.1.2.2.1, (wr .i64 (x.1.2.2.2.1 + 1)), ()), (), x.2.2.1, (lapp x.2.2.2.1 [(v9.1, v9.2.1, ())]), ())) (none)) (none))
                  (spec_IndexOf_k2 N n k ((x.1.1, x.1.2.1, x.1.2.2.1, (wr .i64 (x.1.2.2.2.1 + 1)), ()), (), x.2.2.1, x.2.2.2.1, ()))) (none)) (none))) (none)) (none))
      (chk ((0 ≤ x.1.2.2.2.1) ∧ (x.1.2.2.2.1 < (((llen x.2.2.1) : Nat) : Int))) (obind (at? x.2.2.1 (Int.toNat x.1.2.2.2.1)) fun v10 =>
          chk (0 ≤ x.1.2.1) (obind (at? x.1.1 (Int.toNat x.1.2.1)) fun v11 =>
            tb (bnot (seq v10.1 v11.2.1))
            (chk ((0 ≤ x.1.2.2.2.1) ∧ (x.1.2.2.2.1 < (((llen x.2.2.1) : Nat) : Int))) (obind (at? x.2.2.1 (Int.toNat x.1.2.2.2.1)) fun v12 =>
                chk ((plus (llen x.2.2.2.1) (llen [(v12.1, v12.2.1, ())])) ≤ 4398046511104) (spec_IndexOf_k2 N n k ((x.1.1, x.1.2.1, x.1.2.2.1, (wr .i64 (x.1.2.2.2.1 + 1)), ()), (), x.2.2.1, (lapp x.2.2.2.1 [(v12.1, v12.2.1, ())]), ())) (none)) (none))
            (spec_IndexOf_k2 N n k ((x.1.1, x.1.2.1, x.1.2.2.1, (wr .i64 (x.1.2.2.2.1 + 1)), ()), (), x.2.2.1, x.2.2.2.1, ()))) (none)) (none)))
    (k ((x.1.1, x.1.2.1, x.1.2.2.1, ()), (), x.2.2.2.1, ()))
def spec_IndexOf_P0 : Tpl := ⟨[(0, .one (.leaf (.row false (.pair (.int .i64) (.pair .str (.pair .str .unit)))))), (3, .one (.fix (.ref 10000 [] none))), (4, .one (.leaf (.int .i64)))], [], [(10000, (.pair .str (.pair .str .unit)))]⟩
def spec_IndexOf_O0 : Tpl := ⟨[(3, .one (.fix (.ref 10500 [] none)))], [], [(10500, (.pair .str (.pair .str .unit)))]⟩
def spec_IndexOf_k0 (N : Nat) : Nat → ((Unit × (Unit × ((List (ByteArray × (ByteArray × Unit))) × Unit))) → Option (Unit × ((List L80) × Unit))) → (((List (Int × (ByteArray × (ByteArray × Unit)))) × Int × Unit) × (Unit × ((List (ByteArray × (ByteArray × Unit))) × Unit))) → Option (Unit × ((List L80) × Unit))
  | 0, _, _ => none
  | n + 1, k, x =>
    tb (ilt x.1.2.1 (((llen x.1.1) : Nat) : Int))
    (chk (0 ≤ x.1.2.1) (obind (at? x.1.1 (Int.toNat x.1.2.1)) fun v0 =>
        spec_IndexOf_k2 N N (fun v1 =>
          tb (bnot v1.1.2.2.1)
          (chk (0 ≤ v1.1.2.1) (obind (at? v1.1.1 (Int.toNat v1.1.2.1)) fun v2 =>
              chk (0 ≤ v1.1.2.1) (obind (at? v1.1.1 (Int.toNat v1.1.2.1)) fun v3 =>
                chk ((plus (llen v1.2.2.1) (llen [(v2.2.1, v3.2.2.1, ())])) ≤ 4398046511104) (spec_IndexOf_k0 N n k ((v1.1.1, (wr .i64 (v1.1.2.1 + 1)), ()), (), (lapp v1.2.2.1 [(v2.2.1, v3.2.2.1, ())]), ())) (none)) (none)) (none))
          (spec_IndexOf_k0 N n k ((v1.1.1, (wr .i64 (v1.1.2.1 + 1)), ()), (), v1.2.2.1, ()))) ((x.1.1, x.1.2.1, (bnot (ieq v0.1 1)), 0, ()), (), x.2.2.1, [], ())) (none))
    (k ((), (), x.2.2.1, ()))
def spec_IndexOf_k (N : Nat) (x0 : (List L99)) : Option (Unit × ((List L80) × Unit)) :=
  spec_IndexOf_k0 N N (fun v0 =>
    some ((), v0.2.2.1, ())) ((x0, 0, ()), (), [], ())
def spec_IndexOf (x : ((List L99) × Unit)) : Option (Unit × ((List L80) × Unit)) := spec_IndexOf_k fuel x.1
def spec_IndexOf_m : Con := ⟨[.val (.row false S99)], [(.row true T80)], (.pair (.row true T80) .unit), spec_IndexOf⟩
def spec_IndexOf_s : List (Nat × Con) := []
def spec_IndexOf_S0 (N : Nat) : Seg (Rof spec_IndexOf_m) := ⟨spec_IndexOf_P0, spec_IndexOf_O0, [.tmp 3 10000 (.pair .str (.pair .str .unit))], [.tmp 3 10500 (.pair .str (.pair .str .unit))], spec_IndexOf_k0 N⟩
def spec_IndexOf_S2 (N : Nat) : Seg (Rof spec_IndexOf_m) := ⟨spec_IndexOf_P2, spec_IndexOf_O2, [.tmp 3 12000 (.pair .str (.pair .str .unit)), .tmp 5 12001 (.pair .str (.pair .str .unit))], [.tmp 5 12500 (.pair .str (.pair .str .unit))], spec_IndexOf_k2 N⟩
def spec_IndexOf_g (N : Nat) : List (Nat × Seg (Rof spec_IndexOf_m)) := [(0, spec_IndexOf_S0 N), (2, spec_IndexOf_S2 N)]
theorem spec_IndexOf_r2 : RndOk spec_IndexOf_s Tryz.f65 spec_IndexOf_m spec_IndexOf_g 2 spec_IndexOf_S2 := fun _ _ _ _ => by kernel_rfl
theorem spec_IndexOf_r0 : RndOk spec_IndexOf_s Tryz.f65 spec_IndexOf_m spec_IndexOf_g 0 spec_IndexOf_S0 := fun _ _ _ _ => by kernel_rfl
theorem spec_IndexOf_e : FunOk spec_IndexOf_s Tryz.f65 spec_IndexOf_m spec_IndexOf_g (fun N x => spec_IndexOf_k N x.1) := fun _ _ => by kernel_rfl
theorem spec_IndexOf_o : Known Tryz.prog 65 spec_IndexOf_m := known_v (g := spec_IndexOf_g) .nil Tryz.func65 (by kernel_rfl) ⟨⟨fun _ _ => rfl, spec_IndexOf_r0 fuel⟩, ⟨⟨fun _ _ => rfl, spec_IndexOf_r2 fuel⟩, trivial⟩⟩ spec_IndexOf_e (fun _ => rfl)
def spec_ArchiveOk_k (N : Nat) (x0 : L38) : Option (Unit × (Bool × Unit)) :=
  obind (spec_DiskOk ((x0.2.1.1, x0.2.1.2.1, ()), ())) fun v0 =>
  tb (bnot v0.2.1)
  (some ((), false, ()))
  (tb (ilt 0 (((llen x0.2.1.2.1) : Nat) : Int))
    (some ((), false, ()))
    (tb (bnot x0.1)
      (tb (band (ieq x0.2.2.1.1 0) (band (ieq x0.2.2.1.2.1 0) (band (ieq x0.2.2.1.2.2.1 0) true)))
        (some ((), (ieq (((llen x0.2.2.2.1) : Nat) : Int) 0), ()))
        (some ((), false, ())))
      (obind (spec_l16Right ((x0.2.2.1.1, x0.2.2.1.2.1, x0.2.2.1.2.2.1, ()), ())) fun v1 =>
        tb (bnot v1.2.1)
        (some ((), false, ()))
        (obind (spec_HeadNow ((x0.2.1.1, x0.2.1.2.1, ()), ())) fun v2 =>
          tb (bnot (band (ieq v2.2.1.1 x0.2.2.1.1) (band (ieq v2.2.1.2.1 x0.2.2.1.2.1) (band (ieq v2.2.1.2.2.1 x0.2.2.1.2.2.1) true))))
          (some ((), false, ()))
          (obind (spec_l18Bytes ((x0.2.1.1, x0.2.1.2.1, ()), (x0.2.2.1.1, x0.2.2.1.2.1, x0.2.2.1.2.2.1, ()), ())) fun v3 =>
            obind (spec_Records (v3.2.1, ())) fun v4 =>
            tb v4.2.2.1
            (obind (spec_IndexOf (v4.2.1, ())) fun v5 =>
              obind (spec_l18SameList (v5.2.1, x0.2.2.2.1, ())) fun v6 =>
              some ((), v6.2.1, ()))
            (some ((), false, ())))))))
def spec_ArchiveOk (x : (L38 × Unit)) : Option (Unit × (Bool × Unit)) := spec_ArchiveOk_k fuel x.1
def spec_ArchiveOk_m : Con := ⟨[.val S38], [.bool], (.pair .bool .unit), spec_ArchiveOk⟩
def spec_ArchiveOk_s : List (Nat × Con) := [(59, spec_DiskOk_m), (60, spec_l16Right_m), (61, spec_HeadNow_m), (62, spec_Records_m), (63, spec_l18Bytes_m), (64, spec_l18SameList_m), (65, spec_IndexOf_m)]
def spec_ArchiveOk_g (N : Nat) : List (Nat × Seg (Rof spec_ArchiveOk_m)) := []
theorem spec_ArchiveOk_e : FunOk spec_ArchiveOk_s Tryz.f35 spec_ArchiveOk_m spec_ArchiveOk_g (fun N x => spec_ArchiveOk_k N x.1) := fun _ _ => by kernel_rfl
theorem spec_ArchiveOk_o : Known Tryz.prog 35 spec_ArchiveOk_m := known_v (g := spec_ArchiveOk_g) (.cons spec_DiskOk_o (.cons spec_l16Right_o (.cons spec_HeadNow_o (.cons spec_Records_o (.cons spec_l18Bytes_o (.cons spec_l18SameList_o (.cons spec_IndexOf_o .nil))))))) Tryz.func35 (by kernel_rfl) trivial spec_ArchiveOk_e (fun _ => rfl)
def spec_IndexPack_P0 : Tpl := ⟨[(0, .one (.leaf (.row false (.pair .str (.pair .str .unit))))), (4, .one (.fix (.ref 10000 [] none))), (5, .one (.leaf (.int .i64)))], [], [(10000, (.int .u8))]⟩
def spec_IndexPack_O0 : Tpl := ⟨[(4, .one (.fix (.ref 10500 [] none)))], [], [(10500, (.int .u8))]⟩
def spec_IndexPack_k0 (N : Nat) : Nat → ((Unit × (Unit × ((List Int) × Unit))) → Option (Unit × ((List Int) × Bool × Unit))) → (((List (ByteArray × (ByteArray × Unit))) × Int × Unit) × (Unit × ((List Int) × Unit))) → Option (Unit × ((List Int) × Bool × Unit))
  | 0, _, _ => none
  | n + 1, k, x =>
    tb (ilt x.1.2.1 (((llen x.1.1) : Nat) : Int))
    (chk (0 ≤ x.1.2.1) (obind (at? x.1.1 (Int.toNat x.1.2.1)) fun v0 =>
        chk (0 ≤ x.1.2.1) (obind (at? x.1.1 (Int.toNat x.1.2.1)) fun v1 =>
          obind (spec_RecordPack ((1, v0.1, v1.2.1, ()), ())) fun v2 =>
          tb (bnot v2.2.2.1)
          (some ((), [], false, ()))
          (chk ((plus (llen x.2.2.1) (llen v2.2.1)) ≤ 140737488355328) (spec_IndexPack_k0 N n k ((x.1.1, (wr .i64 (x.1.2.1 + 1)), ()), (), (lapp x.2.2.1 v2.2.1), ())) (none))) (none)) (none))
    (k ((), (), x.2.2.1, ()))
def spec_IndexPack_k (N : Nat) (x0 : (List L80)) : Option (Unit × ((List Int) × Bool × Unit)) :=
  spec_IndexPack_k0 N N (fun v0 =>
    some ((), v0.2.2.1, true, ())) ((x0, 0, ()), (), [], ())
def spec_IndexPack (x : ((List L80) × Unit)) : Option (Unit × ((List Int) × Bool × Unit)) := spec_IndexPack_k fuel x.1
def spec_IndexPack_m : Con := ⟨[.val (.row false S80)], [(.row true (.int .u8)), .bool], (.pair (.row true (.int .u8)) (.pair .bool .unit)), spec_IndexPack⟩
def spec_IndexPack_s : List (Nat × Con) := [(72, spec_RecordPack_m)]
def spec_IndexPack_S0 (N : Nat) : Seg (Rof spec_IndexPack_m) := ⟨spec_IndexPack_P0, spec_IndexPack_O0, [.tmp 4 10000 (.int .u8)], [.tmp 4 10500 (.int .u8)], spec_IndexPack_k0 N⟩
def spec_IndexPack_g (N : Nat) : List (Nat × Seg (Rof spec_IndexPack_m)) := [(0, spec_IndexPack_S0 N)]
theorem spec_IndexPack_r0 : RndOk spec_IndexPack_s Tryz.f66 spec_IndexPack_m spec_IndexPack_g 0 spec_IndexPack_S0 := fun _ _ _ _ => by kernel_rfl
theorem spec_IndexPack_e : FunOk spec_IndexPack_s Tryz.f66 spec_IndexPack_m spec_IndexPack_g (fun N x => spec_IndexPack_k N x.1) := fun _ _ => by kernel_rfl
theorem spec_IndexPack_o : Known Tryz.prog 66 spec_IndexPack_m := known_v (g := spec_IndexPack_g) (.cons spec_RecordPack_o .nil) Tryz.func66 (by kernel_rfl) ⟨⟨fun _ _ => rfl, spec_IndexPack_r0 fuel⟩, trivial⟩ spec_IndexPack_e (fun _ => rfl)
def spec_l15Copy_k (N : Nat) (x0 : L34) : Option (Unit × (L34 × Unit)) :=
  chk ((plus 0 (llen x0.1)) ≤ 8796093022208) (chk ((plus 0 (llen x0.2.1)) ≤ 5864062014805) (some ((), ((lapp [] x0.1), (lapp [] x0.2.1), ()), ())) (none)) (none)
def spec_l15Copy (x : (L34 × Unit)) : Option (Unit × (L34 × Unit)) := spec_l15Copy_k fuel x.1
def spec_l15Copy_m : Con := ⟨[.val S34], [T34], (.pair T34 .unit), spec_l15Copy⟩
def spec_l15Copy_s : List (Nat × Con) := []
def spec_l15Copy_g (N : Nat) : List (Nat × Seg (Rof spec_l15Copy_m)) := []
theorem spec_l15Copy_e : FunOk spec_l15Copy_s Tryz.f73 spec_l15Copy_m spec_l15Copy_g (fun N x => spec_l15Copy_k N x.1) := fun _ _ => by kernel_rfl
theorem spec_l15Copy_o : Known Tryz.prog 73 spec_l15Copy_m := known_v (g := spec_l15Copy_g) .nil Tryz.func73 (by kernel_rfl) trivial spec_l15Copy_e (fun _ => rfl)
def spec_l16Area_k (N : Nat) (x0 : Int) : Option (Unit × (Bool × Unit)) :=
  tb (ieq x0 0)
  (some ((), true, ()))
  (some ((), (ieq x0 1), ()))
def spec_l16Area (x : (Int × Unit)) : Option (Unit × (Bool × Unit)) := spec_l16Area_k fuel x.1
def spec_l16Area_m : Con := ⟨[.val (.int .i64)], [.bool], (.pair .bool .unit), spec_l16Area⟩
def spec_l16Area_s : List (Nat × Con) := []
def spec_l16Area_g (N : Nat) : List (Nat × Seg (Rof spec_l16Area_m)) := []
theorem spec_l16Area_e : FunOk spec_l16Area_s Tryz.f129 spec_l16Area_m spec_l16Area_g (fun N x => spec_l16Area_k N x.1) := fun _ _ => by kernel_rfl
theorem spec_l16Area_o : Known Tryz.prog 129 spec_l16Area_m := known_v (g := spec_l16Area_g) .nil Tryz.func129 (by kernel_rfl) trivial spec_l16Area_e (fun _ => rfl)
def spec_DiskPut_k (N : Nat) (x0 : L34) (x1 : Int) (x2 : ByteArray) : Option (Unit × (L34 × Bool × Unit)) :=
  obind (spec_DiskOk ((x0.1, x0.2.1, ()), ())) fun v0 =>
  tb (bnot v0.2.1)
  (some ((), ([], [], ()), false, ()))
  (obind (spec_l15Copy ((x0.1, x0.2.1, ()), ())) fun v1 =>
    obind (spec_l15Sector (x1, ())) fun v2 =>
    tb (bnot v2.2.1)
    (some ((), (v1.2.1.1, v1.2.1.2.1, ()), false, ()))
    (tb (bnot (ieq (((slen x2) : Nat) : Int) 64))
      (some ((), (v1.2.1.1, v1.2.1.2.1, ()), false, ()))
      (tb (ieq (((llen x0.2.1) : Nat) : Int) 200)
        (some ((), (v1.2.1.1, v1.2.1.2.1, ()), false, ()))
        (chk ((plus (llen v1.2.1.2.1) (llen [(x1, x2, ())])) ≤ 5864062014805) (some ((), (v1.2.1.1, (lapp v1.2.1.2.1 [(x1, x2, ())]), ()), true, ())) (none)))))
def spec_DiskPut (x : (L34 × Int × ByteArray × Unit)) : Option (Unit × (L34 × Bool × Unit)) := spec_DiskPut_k fuel x.1 x.2.1 x.2.2.1
def spec_DiskPut_m : Con := ⟨[.val S34, .val (.int .i64), .val .str], [T34, .bool], (.pair T34 (.pair .bool .unit)), spec_DiskPut⟩
def spec_DiskPut_s : List (Nat × Con) := [(59, spec_DiskOk_m), (73, spec_l15Copy_m), (90, spec_l15Sector_m)]
def spec_DiskPut_g (N : Nat) : List (Nat × Seg (Rof spec_DiskPut_m)) := []
theorem spec_DiskPut_e : FunOk spec_DiskPut_s Tryz.f130 spec_DiskPut_m spec_DiskPut_g (fun N x => spec_DiskPut_k N x.1 x.2.1 x.2.2.1) := fun _ _ => by kernel_rfl
theorem spec_DiskPut_o : Known Tryz.prog 130 spec_DiskPut_m := known_v (g := spec_DiskPut_g) (.cons spec_DiskOk_o (.cons spec_l15Copy_o (.cons spec_l15Sector_o .nil))) Tryz.func130 (by kernel_rfl) trivial spec_DiskPut_e (fun _ => rfl)
def spec_AreaPut_P2 : Tpl := ⟨[(1, .one (.leaf (.int .i64))), (2, .one (.leaf (.int .i64))), (3, .one (.leaf (.row false (.int .u8)))), (8, .one (.fix (.vptr 8 0))), (10, .one (.fix (.vptr 10 0))), (11, .one (.fix (.vptr 11 0))), (12, .one (.leaf (.int .i64))), (13, .one (.leaf (.int .i64))), (14, .one (.leaf (.int .i64))), (15, .one (.fix (.ref 12000 [] none))), (16, .one (.leaf (.int .i64))), (54, .one (.leaf (.int .i64))), (55, .one (.leaf (.row false (.int .u8)))), (56, .one (.leaf (.int .i64))), (57, .one (.leaf (.int .i64))), (58, .one (.leaf (.int .i64))), (59, .one (.leaf .bool)), (62, .one (.leaf (.row false (.int .u8)))), (63, .one (.leaf (.int .i64))), (64, .one (.leaf .bool))], [(8, [.fix .nil, .fix .nil]), (10, [.fix (.ref 12001 [] none), .fix (.ref 12002 [] none)]), (11, [.fix (.ref 12003 [] none), .fix (.ref 12004 [] none)])], [(12000, (.int .u8)), (12001, .str), (12002, (.pair (.int .i64) (.pair .str .unit))), (12003, .str), (12004, (.pair (.int .i64) (.pair .str .unit)))]⟩
def spec_AreaPut_O2 : Tpl := ⟨[(1, .one (.leaf (.int .i64))), (2, .one (.leaf (.int .i64))), (3, .one (.leaf (.row false (.int .u8)))), (8, .one (.fix (.vptr 8 0))), (10, .one (.fix (.vptr 10 0))), (11, .one (.fix (.vptr 11 0))), (12, .one (.leaf (.int .i64))), (14, .one (.leaf (.int .i64))), (15, .one (.fix (.ref 12500 [] none))), (54, .one (.leaf (.int .i64))), (55, .one (.leaf (.row false (.int .u8)))), (56, .one (.leaf (.int .i64))), (57, .one (.leaf (.int .i64))), (58, .one (.leaf (.int .i64))), (59, .one (.leaf .bool)), (62, .one (.leaf (.row false (.int .u8)))), (63, .one (.leaf (.int .i64))), (64, .one (.leaf .bool))], [(8, [.fix .nil, .fix .nil]), (10, [.fix (.ref 12501 [] none), .fix (.ref 12502 [] none)]), (11, [.fix (.ref 12503 [] none), .fix (.ref 12504 [] none)])], [(12500, (.int .u8)), (12501, .str), (12502, (.pair (.int .i64) (.pair .str .unit))), (12503, .str), (12504, (.pair (.int .i64) (.pair .str .unit)))]⟩
def spec_AreaPut_k2 (N : Nat) : Nat → (((Int × Int × (List Int) × Int × Int × Int × (List Int) × Int × Int × Int × Bool × (List Int) × Int × Bool × Unit) × ((Unit × Unit × Unit × Unit) × ((List Int) × (List ByteArray) × (List (Int × (ByteArray × Unit))) × (List ByteArray) × (List (Int × (ByteArray × Unit))) × Unit))) → Option (Unit × (L34 × Bool × Unit))) → ((Int × Int × (List Int) × Int × Int × Int × Int × Int × (List Int) × Int × Int × Int × Bool × (List Int) × Int × Bool × Unit) × ((Unit × Unit × Unit × Unit) × ((List Int) × (List ByteArray) × (List (Int × (ByteArray × Unit))) × (List ByteArray) × (List (Int × (ByteArray × Unit))) × Unit))) → Option (Unit × (L34 × Bool × Unit))
  | 0, _, _ => none
  | n + 1, k, x =>
    tb (ilt x.1.2.2.2.2.2.2.1 64)
    (tb (ile x.1.2.1 (wr .i64 (x.1.2.2.2.2.1 + x.1.2.2.2.2.2.2.1)))
      (tb (ilt (wr .i64 (x.1.2.2.2.2.1 + x.1.2.2.2.2.2.2.1)) (wr .i64 (x.1.2.1 + (((llen x.1.2.2.1) : Nat) : Int))))
        (chk (0 ≤ (wr .i64 ((wr .i64 (x.1.2.2.2.2.1 + x.1.2.2.2.2.2.2.1)) - x.1.2.1))) (obind (at? x.1.2.2.1 (Int.toNat (wr .i64 ((wr .i64 (x.1.2.2.2.2.1 + x.1.2.2.2.2.2.2.1)) - x.1.2.1)))) fun v0 =>
            chk ((0 ≤ x.1.2.2.2.2.2.2.1) ∧ (x.1.2.2.2.2.2.2.1 < (((llen x.2.2.1) : Nat) : Int))) (obind (at? x.2.2.1 (Int.toNat x.1.2.2.2.2.2.2.1)) fun v1 =>
              spec_AreaPut_k2 N n k ((x.1.1, x.1.2.1, x.1.2.2.1, x.1.2.2.2.1, x.1.2.2.2.2.1, x.1.2.2.2.2.2.1, (wr .i64 (x.1.2.2.2.2.2.2.1 + 1)), x.1.2.2.2.2.2.2.2.1, x.1.2.2.2.2.2.2.2.2.1, x.1.2.2.2.2.2.2.2.2.2.1, x.1.2.2.2.2.2.2.2.2.2.2.1, x.1.2.2.2.2.2.2.2.2.2.2.2.1, x.1.2.2.2.2.2.2.2.2.2.2.2.2.1, x.1.2.2.2.2.2.2.2.2.2.2.2.2.2.1, x.1.2.2.2.2.2.2.2.2.2.2.2.2.2.2.1, x.1.2.2.2.2.2.2.2.2.2.2.2.2.2.2.2.1, ()), ((), (), (), ()), (lset x.2.2.1 (Int.toNat x.1.2.2.2.2.2.2.1) v0), x.2.2.2.1, x.2.2.2.2.1, x.2.2.2.2.2.1, x.2.2.2.2.2.2.1, ())) (none)) (none))
        (spec_AreaPut_k2 N n k ((x.1.1, x.1.2.1, x.1.2.2.1, x.1.2.2.2.1, x.1.2.2.2.2.1, x.1.2.2.2.2.2.1, (wr .i64 (x.1.2.2.2.2.2.2.1 + 1)), x.1.2.2.2.2.2.2.2.1, x.1.2.2.2.2.2.2.2.2.1, x.1.2.2.2.2.2.2.2.2.2.1, x.1.2.2.2.2.2.2.2.2.2.2.1, x.1.2.2.2.2.2.2.2.2.2.2.2.1, x.1.2.2.2.2.2.2.2.2.2.2.2.2.1, x.1.2.2.2.2.2.2.2.2.2.2.2.2.2.1, x.1.2.2.2.2.2.2.2.2.2.2.2.2.2.2.1, x.1.2.2.2.2.2.2.2.2.2.2.2.2.2.2.2.1, ()), ((), (), (), ()), x.2.2.1, x.2.2.2.1, x.2.2.2.2.1, x.2.2.2.2.2.1, x.2.2.2.2.2.2.1, ())))
      (spec_AreaPut_k2 N n k ((x.1.1, x.1.2.1, x.1.2.2.1, x.1.2.2.2.1, x.1.2.2.2.2.1, x.1.2.2.2.2.2.1, (wr .i64 (x.1.2.2.2.2.2.2.1 + 1)), x.1.2.2.2.2.2.2.2.1, x.1.2.2.2.2.2.2.2.2.1, x.1.2.2.2.2.2.2.2.2.2.1, x.1.2.2.2.2.2.2.2.2.2.2.1, x.1.2.2.2.2.2.2.2.2.2.2.2.1, x.1.2.2.2.2.2.2.2.2.2.2.2.2.1, x.1.2.2.2.2.2.2.2.2.2.2.2.2.2.1, x.1.2.2.2.2.2.2.2.2.2.2.2.2.2.2.1, x.1.2.2.2.2.2.2.2.2.2.2.2.2.2.2.2.1, ()), ((), (), (), ()), x.2.2.1, x.2.2.2.1, x.2.2.2.2.1, x.2.2.2.2.2.1, x.2.2.2.2.2.2.1, ())))
    (k ((x.1.1, x.1.2.1, x.1.2.2.1, x.1.2.2.2.1, x.1.2.2.2.2.2.1, x.1.2.2.2.2.2.2.2.1, x.1.2.2.2.2.2.2.2.2.1, x.1.2.2.2.2.2.2.2.2.2.1, x.1.2.2.2.2.2.2.2.2.2.2.1, x.1.2.2.2.2.2.2.2.2.2.2.2.1, x.1.2.2.2.2.2.2.2.2.2.2.2.2.1, x.1.2.2.2.2.2.2.2.2.2.2.2.2.2.1, x.1.2.2.2.2.2.2.2.2.2.2.2.2.2.2.1, x.1.2.2.2.2.2.2.2.2.2.2.2.2.2.2.2.1, ()), ((), (), (), ()), x.2.2.1, x.2.2.2.1, x.2.2.2.2.1, x.2.2.2.2.2.1, x.2.2.2.2.2.2.1, ()))
def spec_AreaPut_P0 : Tpl := ⟨[(1, .one (.leaf (.int .i64))), (2, .one (.leaf (.int .i64))), (3, .one (.leaf (.row false (.int .u8)))), (8, .one (.fix (.vptr 8 0))), (10, .one (.fix (.vptr 10 0))), (11, .one (.fix (.vptr 11 0))), (12, .one (.leaf (.int .i64)))], [(8, [.fix .nil, .fix .nil]), (10, [.fix (.ref 10000 [] none), .fix (.ref 10001 [] none)]), (11, [.fix (.ref 10002 [] none), .fix (.ref 10003 [] none)])], [(10000, .str), (10001, (.pair (.int .i64) (.pair .str .unit))), (10002, .str), (10003, (.pair (.int .i64) (.pair .str .unit)))]⟩
def spec_AreaPut_O0 : Tpl := ⟨[(8, .one (.fix (.vptr 8 0))), (11, .one (.fix (.vptr 11 0)))], [(8, [.fix .nil, .fix .nil]), (11, [.fix (.ref 10500 [] none), .fix (.ref 10501 [] none)])], [(10500, .str), (10501, (.pair (.int .i64) (.pair .str .unit)))]⟩
def spec_AreaPut_k0 (N : Nat) : Nat → ((Unit × ((Unit × Unit × Unit) × ((List ByteArray) × (List (Int × (ByteArray × Unit))) × Unit))) → Option (Unit × (L34 × Bool × Unit))) → ((Int × Int × (List Int) × Int × Unit) × ((Unit × Unit × Unit × Unit) × ((List ByteArray) × (List (Int × (ByteArray × Unit))) × (List ByteArray) × (List (Int × (ByteArray × Unit))) × Unit))) → Option (Unit × (L34 × Bool × Unit))
  | 0, _, _ => none
  | n + 1, k, x =>
    tb (ilt x.1.2.2.2.1 64)
    (tb (ile (wr .i64 ((wr .i64 (x.1.2.2.2.1 * 64)) + 64)) x.1.2.1)
      (spec_AreaPut_k0 N n k ((x.1.1, x.1.2.1, x.1.2.2.1, (wr .i64 (x.1.2.2.2.1 + 1)), ()), ((), (), (), ()), x.2.2.1, x.2.2.2.1, x.2.2.2.2.1, x.2.2.2.2.2.1, ()))
      (tb (ile (wr .i64 (x.1.2.1 + (((llen x.1.2.2.1) : Nat) : Int))) (wr .i64 (x.1.2.2.2.1 * 64)))
        (spec_AreaPut_k0 N n k ((x.1.1, x.1.2.1, x.1.2.2.1, (wr .i64 (x.1.2.2.2.1 + 1)), ()), ((), (), (), ()), x.2.2.1, x.2.2.2.1, x.2.2.2.2.1, x.2.2.2.2.2.1, ()))
        (tb (ieq (((llen x.1.2.2.1) : Nat) : Int) 0)
          (spec_AreaPut_k0 N n k ((x.1.1, x.1.2.1, x.1.2.2.1, (wr .i64 (x.1.2.2.2.1 + 1)), ()), ((), (), (), ()), x.2.2.1, x.2.2.2.1, x.2.2.2.2.1, x.2.2.2.2.2.1, ()))
          (obind (spec_l15Of ((x.2.2.2.2.1, x.2.2.2.2.2.1, ()), (wr .i64 ((wr .i64 (2 + (wr .i64 (64 * x.1.1)))) + x.1.2.2.2.1)), ())) fun v0 =>
            spec_AreaPut_k2 N N (fun v1 =>
              obind (spec_DiskPut ((v1.2.2.2.2.2.1, v1.2.2.2.2.2.2.1, ()), v1.1.2.2.2.2.1, (strOf v1.2.2.1), ())) fun v2 =>
              tb (bnot v2.2.2.1)
              (some ((), (v1.2.2.2.1, v1.2.2.2.2.1, ()), false, ()))
              (spec_AreaPut_k0 N n k ((v1.1.1, v1.1.2.1, v1.1.2.2.1, (wr .i64 (v1.1.2.2.2.1 + 1)), ()), ((), (), (), ()), v1.2.2.2.1, v1.2.2.2.2.1, v2.2.1.1, v2.2.1.2.1, ()))) ((x.1.1, x.1.2.1, x.1.2.2.1, x.1.2.2.2.1, (wr .i64 (x.1.2.2.2.1 * 64)), (wr .i64 ((wr .i64 (2 + (wr .i64 (64 * x.1.1)))) + x.1.2.2.2.1)), 0, x.1.2.1, x.1.2.2.1, (((llen x.1.2.2.1) : Nat) : Int), (wr .i64 (x.1.2.1 + (((llen x.1.2.2.1) : Nat) : Int))), (wr .i64 (x.1.2.2.2.1 * 64)), (ile (wr .i64 (x.1.2.1 + (((llen x.1.2.2.1) : Nat) : Int))) (wr .i64 (x.1.2.2.2.1 * 64))), x.1.2.2.1, (((llen x.1.2.2.1) : Nat) : Int), (ieq (((llen x.1.2.2.1) : Nat) : Int) 0), ()), ((), (), (), ()), (bytesOf v0.2.1), x.2.2.1, x.2.2.2.1, x.2.2.2.2.1, x.2.2.2.2.2.1, ())))))
    (k ((), ((), (), ()), x.2.2.2.2.1, x.2.2.2.2.2.1, ()))
def spec_AreaPut_k (N : Nat) (x0 : L34) (x1 : Int) (x2 : Int) (x3 : (List Int)) : Option (Unit × (L34 × Bool × Unit)) :=
  obind (spec_DiskOk ((x0.1, x0.2.1, ()), ())) fun v0 =>
  tb (bnot v0.2.1)
  (some ((), ([], [], ()), false, ()))
  (obind (spec_l15Copy ((x0.1, x0.2.1, ()), ())) fun v1 =>
    obind (spec_l16Area (x1, ())) fun v2 =>
    tb (bnot v2.2.1)
    (some ((), (v1.2.1.1, v1.2.1.2.1, ()), false, ()))
    (obind (spec_l1In (x2, 0, 4096, ())) fun v3 =>
      tb (bnot v3.2.1)
      (some ((), (v1.2.1.1, v1.2.1.2.1, ()), false, ()))
      (tb (ilt (wr .i64 (4096 - x2)) (((llen x3) : Nat) : Int))
        (some ((), (v1.2.1.1, v1.2.1.2.1, ()), false, ()))
        (obind (spec_l15Copy ((x0.1, x0.2.1, ()), ())) fun v4 =>
          spec_AreaPut_k0 N N (fun v5 =>
            some ((), (v5.2.2.1, v5.2.2.2.1, ()), true, ())) ((x1, x2, x3, 0, ()), ((), (), (), ()), v1.2.1.1, v1.2.1.2.1, v4.2.1.1, v4.2.1.2.1, ())))))
def spec_AreaPut (x : (L34 × Int × Int × (List Int) × Unit)) : Option (Unit × (L34 × Bool × Unit)) := spec_AreaPut_k fuel x.1 x.2.1 x.2.2.1 x.2.2.2.1
def spec_AreaPut_m : Con := ⟨[.val S34, .val (.int .i64), .val (.int .i64), .val (.row false (.int .u8))], [T34, .bool], (.pair T34 (.pair .bool .unit)), spec_AreaPut⟩
def spec_AreaPut_s : List (Nat × Con) := [(59, spec_DiskOk_m), (73, spec_l15Copy_m), (91, spec_l1In_m), (93, spec_l15Of_m), (129, spec_l16Area_m), (130, spec_DiskPut_m)]
def spec_AreaPut_S0 (N : Nat) : Seg (Rof spec_AreaPut_m) := ⟨spec_AreaPut_P0, spec_AreaPut_O0, [.cell 10 0 10000 .str, .cell 10 1 10001 (.pair (.int .i64) (.pair .str .unit)), .cell 11 0 10002 .str, .cell 11 1 10003 (.pair (.int .i64) (.pair .str .unit))], [.cell 11 0 10500 .str, .cell 11 1 10501 (.pair (.int .i64) (.pair .str .unit))], spec_AreaPut_k0 N⟩
def spec_AreaPut_S2 (N : Nat) : Seg (Rof spec_AreaPut_m) := ⟨spec_AreaPut_P2, spec_AreaPut_O2, [.tmp 15 12000 (.int .u8), .cell 10 0 12001 .str, .cell 10 1 12002 (.pair (.int .i64) (.pair .str .unit)), .cell 11 0 12003 .str, .cell 11 1 12004 (.pair (.int .i64) (.pair .str .unit))], [.tmp 15 12500 (.int .u8), .cell 10 0 12501 .str, .cell 10 1 12502 (.pair (.int .i64) (.pair .str .unit)), .cell 11 0 12503 .str, .cell 11 1 12504 (.pair (.int .i64) (.pair .str .unit))], spec_AreaPut_k2 N⟩
def spec_AreaPut_g (N : Nat) : List (Nat × Seg (Rof spec_AreaPut_m)) := [(0, spec_AreaPut_S0 N), (2, spec_AreaPut_S2 N)]
theorem spec_AreaPut_r2 : RndOk spec_AreaPut_s Tryz.f96 spec_AreaPut_m spec_AreaPut_g 2 spec_AreaPut_S2 := fun _ _ _ _ => by kernel_rfl
theorem spec_AreaPut_r0 : RndOk spec_AreaPut_s Tryz.f96 spec_AreaPut_m spec_AreaPut_g 0 spec_AreaPut_S0 := fun _ _ _ _ => by kernel_rfl
theorem spec_AreaPut_e : FunOk spec_AreaPut_s Tryz.f96 spec_AreaPut_m spec_AreaPut_g (fun N x => spec_AreaPut_k N x.1 x.2.1 x.2.2.1 x.2.2.2.1) := fun _ _ => by kernel_rfl
theorem spec_AreaPut_o : Known Tryz.prog 96 spec_AreaPut_m := known_v (g := spec_AreaPut_g) (.cons spec_DiskOk_o (.cons spec_l15Copy_o (.cons spec_l1In_o (.cons spec_l15Of_o (.cons spec_l16Area_o (.cons spec_DiskPut_o .nil)))))) Tryz.func96 (by kernel_rfl) ⟨⟨fun _ _ => rfl, spec_AreaPut_r0 fuel⟩, ⟨⟨fun _ _ => rfl, spec_AreaPut_r2 fuel⟩, trivial⟩⟩ spec_AreaPut_e (fun _ => rfl)
def spec_l15Done_P0 : Tpl := ⟨[(1, .one (.leaf (.int .i64))), (2, .one (.fix (.vptr 2 0))), (4, .one (.fix (.vptr 4 0))), (5, .one (.fix (.vptr 5 0))), (6, .one (.leaf (.int .i64)))], [(2, [.leaf (.row false .str), .leaf (.row false (.pair (.int .i64) (.pair .str .unit)))]), (4, [.fix .nil, .fix .nil]), (5, [.fix (.ref 10000 [] none), .fix .nil])], [(10000, .str)]⟩
def spec_l15Done_O0 : Tpl := ⟨[(4, .one (.fix (.vptr 4 0))), (5, .one (.fix (.vptr 5 0)))], [(4, [.fix .nil, .fix .nil]), (5, [.fix (.ref 10500 [] none), .fix .nil])], [(10500, .str)]⟩
def spec_l15Done_k0 (N : Nat) : Nat → ((Unit × ((Unit × Unit × Unit) × ((List ByteArray) × Unit))) → Option (Unit × (L34 × Unit))) → ((Int × Int × Unit) × ((((List ByteArray) × (List (Int × (ByteArray × Unit))) × Unit) × Unit × Unit × Unit) × ((List ByteArray) × Unit))) → Option (Unit × (L34 × Unit))
  | 0, _, _ => none
  | n + 1, k, x =>
    tb (ilt x.1.2.1 (((llen x.2.1.1.2.1) : Nat) : Int))
    (chk ((31 : Int) = 0) (none) (chk ((Int.tmod x.1.2.1 31) < 0) (none) (tb (ieq (bandK .i64 (shrK .i64 x.1.1 (Int.tmod x.1.2.1 31)) 1) 1)
          (chk (0 ≤ x.1.2.1) (obind (at? x.2.1.1.2.1 (Int.toNat x.1.2.1)) fun v0 =>
              chk (0 ≤ x.1.2.1) (obind (at? x.2.1.1.2.1 (Int.toNat x.1.2.1)) fun v1 =>
                chk ((0 ≤ v0.1) ∧ (v0.1 < (((llen x.2.2.1) : Nat) : Int))) (obind (at? x.2.2.1 (Int.toNat v0.1)) fun v2 =>
                  spec_l15Done_k0 N n k ((x.1.1, (wr .i64 (x.1.2.1 + 1)), ()), ((x.2.1.1.1, x.2.1.1.2.1, ()), (), (), ()), (lset x.2.2.1 (Int.toNat v0.1) v1.2.1), ())) (none)) (none)) (none))
          (spec_l15Done_k0 N n k ((x.1.1, (wr .i64 (x.1.2.1 + 1)), ()), ((x.2.1.1.1, x.2.1.1.2.1, ()), (), (), ()), x.2.2.1, ())))))
    (k ((), ((), (), ()), x.2.2.1, ()))
def spec_l15Done_k (N : Nat) (x0 : L34) (x1 : Int) : Option (Unit × (L34 × Unit)) :=
  chk ((plus 0 (llen x0.1)) ≤ 8796093022208) (spec_l15Done_k0 N N (fun v0 =>
      some ((), (v0.2.2.1, [], ()), ())) ((x1, 0, ()), ((x0.1, x0.2.1, ()), (), (), ()), (lapp [] x0.1), ())) (none)
def spec_l15Done (x : (L34 × Int × Unit)) : Option (Unit × (L34 × Unit)) := spec_l15Done_k fuel x.1 x.2.1
def spec_l15Done_m : Con := ⟨[.val S34, .val (.int .i64)], [T34], (.pair T34 .unit), spec_l15Done⟩
def spec_l15Done_s : List (Nat × Con) := []
def spec_l15Done_S0 (N : Nat) : Seg (Rof spec_l15Done_m) := ⟨spec_l15Done_P0, spec_l15Done_O0, [.cell 5 0 10000 .str], [.cell 5 0 10500 .str], spec_l15Done_k0 N⟩
def spec_l15Done_g (N : Nat) : List (Nat × Seg (Rof spec_l15Done_m)) := [(0, spec_l15Done_S0 N)]
theorem spec_l15Done_r0 : RndOk spec_l15Done_s Tryz.f131 spec_l15Done_m spec_l15Done_g 0 spec_l15Done_S0 := fun _ _ _ _ => by kernel_rfl
theorem spec_l15Done_e : FunOk spec_l15Done_s Tryz.f131 spec_l15Done_m spec_l15Done_g (fun N x => spec_l15Done_k N x.1 x.2.1) := fun _ _ => by kernel_rfl
theorem spec_l15Done_o : Known Tryz.prog 131 spec_l15Done_m := known_v (g := spec_l15Done_g) .nil Tryz.func131 (by kernel_rfl) ⟨⟨fun _ _ => rfl, spec_l15Done_r0 fuel⟩, trivial⟩ spec_l15Done_e (fun _ => rfl)
def spec_DiskSync_k (N : Nat) (x0 : L34) : Option (Unit × (L34 × Bool × Unit)) :=
  obind (spec_DiskOk ((x0.1, x0.2.1, ()), ())) fun v0 =>
  tb (bnot v0.2.1)
  (some ((), ([], [], ()), false, ()))
  (obind (spec_l15Done ((x0.1, x0.2.1, ()), 2147483647, ())) fun v1 =>
    some ((), (v1.2.1.1, v1.2.1.2.1, ()), true, ()))
def spec_DiskSync (x : (L34 × Unit)) : Option (Unit × (L34 × Bool × Unit)) := spec_DiskSync_k fuel x.1
def spec_DiskSync_m : Con := ⟨[.val S34], [T34, .bool], (.pair T34 (.pair .bool .unit)), spec_DiskSync⟩
def spec_DiskSync_s : List (Nat × Con) := [(59, spec_DiskOk_m), (131, spec_l15Done_m)]
def spec_DiskSync_g (N : Nat) : List (Nat × Seg (Rof spec_DiskSync_m)) := []
theorem spec_DiskSync_e : FunOk spec_DiskSync_s Tryz.f97 spec_DiskSync_m spec_DiskSync_g (fun N x => spec_DiskSync_k N x.1) := fun _ _ => by kernel_rfl
theorem spec_DiskSync_o : Known Tryz.prog 97 spec_DiskSync_m := known_v (g := spec_DiskSync_g) (.cons spec_DiskOk_o (.cons spec_l15Done_o .nil)) Tryz.func97 (by kernel_rfl) trivial spec_DiskSync_e (fun _ => rfl)
def spec_HeadPut_k (N : Nat) (x0 : L34) (x1 : L35) : Option (Unit × (L34 × Bool × Unit)) :=
  obind (spec_DiskOk ((x0.1, x0.2.1, ()), ())) fun v0 =>
  tb (bnot v0.2.1)
  (some ((), ([], [], ()), false, ()))
  (obind (spec_HeadPack ((x1.1, x1.2.1, x1.2.2.1, ()), ())) fun v1 =>
    tb (bnot v1.2.2.1)
    (obind (spec_l15Copy ((x0.1, x0.2.1, ()), ())) fun v2 =>
      some ((), (v2.2.1.1, v2.2.1.2.1, ()), false, ()))
    (chk ((2 : Int) = 0) (none) (obind (spec_DiskPut ((x0.1, x0.2.1, ()), (Int.tmod x1.1 2), v1.2.1, ())) fun v3 =>
        some ((), (v3.2.1.1, v3.2.1.2.1, ()), v3.2.2.1, ()))))
def spec_HeadPut (x : (L34 × L35 × Unit)) : Option (Unit × (L34 × Bool × Unit)) := spec_HeadPut_k fuel x.1 x.2.1
def spec_HeadPut_m : Con := ⟨[.val S34, .val S35], [T34, .bool], (.pair T34 (.pair .bool .unit)), spec_HeadPut⟩
def spec_HeadPut_s : List (Nat × Con) := [(59, spec_DiskOk_m), (73, spec_l15Copy_m), (127, spec_HeadPack_m), (130, spec_DiskPut_m)]
def spec_HeadPut_g (N : Nat) : List (Nat × Seg (Rof spec_HeadPut_m)) := []
theorem spec_HeadPut_e : FunOk spec_HeadPut_s Tryz.f98 spec_HeadPut_m spec_HeadPut_g (fun N x => spec_HeadPut_k N x.1 x.2.1) := fun _ _ => by kernel_rfl
theorem spec_HeadPut_o : Known Tryz.prog 98 spec_HeadPut_m := known_v (g := spec_HeadPut_g) (.cons spec_DiskOk_o (.cons spec_l15Copy_o (.cons spec_HeadPack_o (.cons spec_DiskPut_o .nil)))) Tryz.func98 (by kernel_rfl) trivial spec_HeadPut_e (fun _ => rfl)
def spec_l18Steps_k (N : Nat) (x0 : L34) (x1 : Int) (x2 : Int) (x3 : (List Int)) (x4 : L35) : Option (Unit × ((List L34) × Bool × Unit)) :=
  obind (spec_AreaPut ((x0.1, x0.2.1, ()), x1, x2, x3, ())) fun v0 =>
  tb (bnot v0.2.2.1)
  (some ((), [], false, ()))
  (obind (spec_DiskSync ((v0.2.1.1, v0.2.1.2.1, ()), ())) fun v1 =>
    obind (spec_HeadPut ((v1.2.1.1, v1.2.1.2.1, ()), (x4.1, x4.2.1, x4.2.2.1, ()), ())) fun v2 =>
    tb (bnot v2.2.2.1)
    (some ((), [], false, ()))
    (obind (spec_DiskSync ((v2.2.1.1, v2.2.1.2.1, ()), ())) fun v3 =>
      chk ((plus 0 (llen [(v0.2.1.1, v0.2.1.2.1, ()), (v1.2.1.1, v1.2.1.2.1, ()), (v2.2.1.1, v2.2.1.2.1, ()), (v3.2.1.1, v3.2.1.2.1, ())])) ≤ 2932031007402) (some ((), (lapp [] [(v0.2.1.1, v0.2.1.2.1, ()), (v1.2.1.1, v1.2.1.2.1, ()), (v2.2.1.1, v2.2.1.2.1, ()), (v3.2.1.1, v3.2.1.2.1, ())]), true, ())) (none)))
def spec_l18Steps (x : (L34 × Int × Int × (List Int) × L35 × Unit)) : Option (Unit × ((List L34) × Bool × Unit)) := spec_l18Steps_k fuel x.1 x.2.1 x.2.2.1 x.2.2.2.1 x.2.2.2.2.1
def spec_l18Steps_m : Con := ⟨[.val S34, .val (.int .i64), .val (.int .i64), .val (.row false (.int .u8)), .val S35], [(.row true T34), .bool], (.pair (.row true T34) (.pair .bool .unit)), spec_l18Steps⟩
def spec_l18Steps_s : List (Nat × Con) := [(96, spec_AreaPut_m), (97, spec_DiskSync_m), (98, spec_HeadPut_m)]
def spec_l18Steps_g (N : Nat) : List (Nat × Seg (Rof spec_l18Steps_m)) := []
theorem spec_l18Steps_e : FunOk spec_l18Steps_s Tryz.f67 spec_l18Steps_m spec_l18Steps_g (fun N x => spec_l18Steps_k N x.1 x.2.1 x.2.2.1 x.2.2.2.1 x.2.2.2.2.1) := fun _ _ => by kernel_rfl
theorem spec_l18Steps_o : Known Tryz.prog 67 spec_l18Steps_m := known_v (g := spec_l18Steps_g) (.cons spec_AreaPut_o (.cons spec_DiskSync_o (.cons spec_HeadPut_o .nil))) Tryz.func67 (by kernel_rfl) trivial spec_l18Steps_e (fun _ => rfl)
def spec_IndexFind_P0 : Tpl := ⟨[(0, .one (.leaf (.row false (.pair .str (.pair .str .unit))))), (1, .one (.leaf .str)), (6, .one (.leaf (.int .i64)))], [], []⟩
def spec_IndexFind_O0 : Tpl := ⟨[], [], []⟩
def spec_IndexFind_k0 (N : Nat) : Nat → ((Unit × (Unit × Unit)) → Option (Unit × (ByteArray × Bool × Unit))) → (((List (ByteArray × (ByteArray × Unit))) × ByteArray × Int × Unit) × (Unit × Unit)) → Option (Unit × (ByteArray × Bool × Unit))
  | 0, _, _ => none
  | n + 1, k, x =>
    tb (ilt x.1.2.2.1 (((llen x.1.1) : Nat) : Int))
    (chk (0 ≤ x.1.2.2.1) (obind (at? x.1.1 (Int.toNat x.1.2.2.1)) fun v0 =>
        tb (seq v0.1 x.1.2.1)
        (chk (0 ≤ x.1.2.2.1) (obind (at? x.1.1 (Int.toNat x.1.2.2.1)) fun v1 =>
            some ((), v1.2.1, true, ())) (none))
        (spec_IndexFind_k0 N n k ((x.1.1, x.1.2.1, (wr .i64 (x.1.2.2.1 + 1)), ()), (), ()))) (none))
    (k ((), (), ()))
def spec_IndexFind_k (N : Nat) (x0 : (List L80)) (x1 : ByteArray) : Option (Unit × (ByteArray × Bool × Unit)) :=
  spec_IndexFind_k0 N N (fun v0 =>
    some ((), (⟨#[]⟩ : ByteArray), false, ())) ((x0, x1, 0, ()), (), ())
def spec_IndexFind (x : ((List L80) × ByteArray × Unit)) : Option (Unit × (ByteArray × Bool × Unit)) := spec_IndexFind_k fuel x.1 x.2.1
def spec_IndexFind_m : Con := ⟨[.val (.row false S80), .val .str], [.str, .bool], (.pair .str (.pair .bool .unit)), spec_IndexFind⟩
def spec_IndexFind_s : List (Nat × Con) := []
def spec_IndexFind_S0 (N : Nat) : Seg (Rof spec_IndexFind_m) := ⟨spec_IndexFind_P0, spec_IndexFind_O0, [], [], spec_IndexFind_k0 N⟩
def spec_IndexFind_g (N : Nat) : List (Nat × Seg (Rof spec_IndexFind_m)) := [(0, spec_IndexFind_S0 N)]
theorem spec_IndexFind_r0 : RndOk spec_IndexFind_s Tryz.f71 spec_IndexFind_m spec_IndexFind_g 0 spec_IndexFind_S0 := fun _ _ _ _ => by kernel_rfl
theorem spec_IndexFind_e : FunOk spec_IndexFind_s Tryz.f71 spec_IndexFind_m spec_IndexFind_g (fun N x => spec_IndexFind_k N x.1 x.2.1) := fun _ _ => by kernel_rfl
theorem spec_IndexFind_o : Known Tryz.prog 71 spec_IndexFind_m := known_v (g := spec_IndexFind_g) .nil Tryz.func71 (by kernel_rfl) ⟨⟨fun _ _ => rfl, spec_IndexFind_r0 fuel⟩, trivial⟩ spec_IndexFind_e (fun _ => rfl)
def spec_l18Work_k (N : Nat) (x0 : L38) (x1 : Int) (x2 : ByteArray) (x3 : (List Int)) : Option (Unit × ((List L34) × L35 × Int × Unit)) :=
  tb (bnot x0.1)
  (some ((), [], (x0.2.2.1.1, x0.2.2.1.2.1, x0.2.2.1.2.2.1, ()), 2, ()))
  (tb (ieq x1 3)
    (obind (spec_IndexPack (x0.2.2.2.1, ())) fun v0 =>
      obind (spec_l18Steps ((x0.2.1.1, x0.2.1.2.1, ()), (wr .i64 (1 - x0.2.2.1.2.1)), 0, v0.2.1, ((wr .i64 (x0.2.2.1.1 + 1)), (wr .i64 (1 - x0.2.2.1.2.1)), (((llen v0.2.1) : Nat) : Int), ()), ())) fun v1 =>
      tb (bnot v0.2.2.1)
      (some ((), [], ((wr .i64 (x0.2.2.1.1 + 1)), (wr .i64 (1 - x0.2.2.1.2.1)), (((llen v0.2.1) : Nat) : Int), ()), 5, ()))
      (tb (bnot v1.2.2.1)
        (some ((), [], ((wr .i64 (x0.2.2.1.1 + 1)), (wr .i64 (1 - x0.2.2.1.2.1)), (((llen v0.2.1) : Nat) : Int), ()), 5, ()))
        (some ((), v1.2.1, ((wr .i64 (x0.2.2.1.1 + 1)), (wr .i64 (1 - x0.2.2.1.2.1)), (((llen v0.2.1) : Nat) : Int), ()), 0, ()))))
    (tb (ieq x1 1)
      (obind (spec_UrlOk (x2, ())) fun v2 =>
        tb (bnot v2.2.1)
        (some ((), [], ((wr .i64 (x0.2.2.1.1 + 1)), x0.2.2.1.2.1, x0.2.2.1.2.2.1, ()), 3, ()))
        (obind (spec_ParsePage (x3, ())) fun v3 =>
          obind (spec_TreePack ((v3.2.1.1, ()), ())) fun v4 =>
          tb (bnot (ieq v3.2.2.1 0))
          (some ((), [], ((wr .i64 (x0.2.2.1.1 + 1)), x0.2.2.1.2.1, x0.2.2.1.2.2.1, ()), 4, ()))
          (tb (bnot v4.2.2.1)
            (some ((), [], ((wr .i64 (x0.2.2.1.1 + 1)), x0.2.2.1.2.1, x0.2.2.1.2.2.1, ()), 4, ()))
            (obind (spec_RecordPack ((1, x2, (strOf v4.2.1), ()), ())) fun v5 =>
              obind (spec_l18Steps ((x0.2.1.1, x0.2.1.2.1, ()), x0.2.2.1.2.1, x0.2.2.1.2.2.1, v5.2.1, ((wr .i64 (x0.2.2.1.1 + 1)), x0.2.2.1.2.1, (wr .i64 (x0.2.2.1.2.2.1 + (((llen v5.2.1) : Nat) : Int))), ()), ())) fun v6 =>
              tb (bnot v6.2.2.1)
              (some ((), [], ((wr .i64 (x0.2.2.1.1 + 1)), x0.2.2.1.2.1, (wr .i64 (x0.2.2.1.2.2.1 + (((llen v5.2.1) : Nat) : Int))), ()), 5, ()))
              (some ((), v6.2.1, ((wr .i64 (x0.2.2.1.1 + 1)), x0.2.2.1.2.1, (wr .i64 (x0.2.2.1.2.2.1 + (((llen v5.2.1) : Nat) : Int))), ()), 0, ()))))))
      (obind (spec_UrlOk (x2, ())) fun v7 =>
        tb (bnot v7.2.1)
        (some ((), [], ((wr .i64 (x0.2.2.1.1 + 1)), x0.2.2.1.2.1, x0.2.2.1.2.2.1, ()), 3, ()))
        (obind (spec_IndexFind (x0.2.2.2.1, x2, ())) fun v8 =>
          tb (bnot v8.2.2.1)
          (some ((), [], ((wr .i64 (x0.2.2.1.1 + 1)), x0.2.2.1.2.1, x0.2.2.1.2.2.1, ()), 6, ()))
          (obind (spec_RecordPack ((2, x2, (⟨#[]⟩ : ByteArray), ()), ())) fun v9 =>
            obind (spec_l18Steps ((x0.2.1.1, x0.2.1.2.1, ()), x0.2.2.1.2.1, x0.2.2.1.2.2.1, v9.2.1, ((wr .i64 (x0.2.2.1.1 + 1)), x0.2.2.1.2.1, (wr .i64 (x0.2.2.1.2.2.1 + (((llen v9.2.1) : Nat) : Int))), ()), ())) fun v10 =>
            tb (bnot v10.2.2.1)
            (some ((), [], ((wr .i64 (x0.2.2.1.1 + 1)), x0.2.2.1.2.1, (wr .i64 (x0.2.2.1.2.2.1 + (((llen v9.2.1) : Nat) : Int))), ()), 5, ()))
            (some ((), v10.2.1, ((wr .i64 (x0.2.2.1.1 + 1)), x0.2.2.1.2.1, (wr .i64 (x0.2.2.1.2.2.1 + (((llen v9.2.1) : Nat) : Int))), ()), 0, ())))))))
def spec_l18Work (x : (L38 × Int × ByteArray × (List Int) × Unit)) : Option (Unit × ((List L34) × L35 × Int × Unit)) := spec_l18Work_k fuel x.1 x.2.1 x.2.2.1 x.2.2.2.1
def spec_l18Work_m : Con := ⟨[.val S38, .val (.int .i64), .val .str, .val (.row false (.int .u8))], [(.row false S34), T35, (.int .i64)], (.pair (.row false S34) (.pair T35 (.pair (.int .i64) .unit))), spec_l18Work⟩
def spec_l18Work_s : List (Nat × Con) := [(66, spec_IndexPack_m), (67, spec_l18Steps_m), (68, spec_UrlOk_m), (69, spec_ParsePage_m), (70, spec_TreePack_m), (71, spec_IndexFind_m), (72, spec_RecordPack_m)]
def spec_l18Work_g (N : Nat) : List (Nat × Seg (Rof spec_l18Work_m)) := []
theorem spec_l18Work_e : FunOk spec_l18Work_s Tryz.f36 spec_l18Work_m spec_l18Work_g (fun N x => spec_l18Work_k N x.1 x.2.1 x.2.2.1 x.2.2.2.1) := fun _ _ => by kernel_rfl
theorem spec_l18Work_o : Known Tryz.prog 36 spec_l18Work_m := known_v (g := spec_l18Work_g) (.cons spec_IndexPack_o (.cons spec_l18Steps_o (.cons spec_UrlOk_o (.cons spec_ParsePage_o (.cons spec_TreePack_o (.cons spec_IndexFind_o (.cons spec_RecordPack_o .nil))))))) Tryz.func36 (by kernel_rfl) trivial spec_l18Work_e (fun _ => rfl)
def spec_l18Copy_k (N : Nat) (x0 : L38) : Option (Unit × (L38 × Unit)) :=
  obind (spec_l15Copy ((x0.2.1.1, x0.2.1.2.1, ()), ())) fun v0 =>
  chk ((plus 0 (llen x0.2.2.2.1)) ≤ 4398046511104) (some ((), (x0.1, (v0.2.1.1, v0.2.1.2.1, ()), (x0.2.2.1.1, x0.2.2.1.2.1, x0.2.2.1.2.2.1, ()), (lapp [] x0.2.2.2.1), ()), ())) (none)
def spec_l18Copy (x : (L38 × Unit)) : Option (Unit × (L38 × Unit)) := spec_l18Copy_k fuel x.1
def spec_l18Copy_m : Con := ⟨[.val S38], [T38], (.pair T38 .unit), spec_l18Copy⟩
def spec_l18Copy_s : List (Nat × Con) := [(73, spec_l15Copy_m)]
def spec_l18Copy_g (N : Nat) : List (Nat × Seg (Rof spec_l18Copy_m)) := []
theorem spec_l18Copy_e : FunOk spec_l18Copy_s Tryz.f37 spec_l18Copy_m spec_l18Copy_g (fun N x => spec_l18Copy_k N x.1) := fun _ _ => by kernel_rfl
theorem spec_l18Copy_o : Known Tryz.prog 37 spec_l18Copy_m := known_v (g := spec_l18Copy_g) (.cons spec_l15Copy_o .nil) Tryz.func37 (by kernel_rfl) trivial spec_l18Copy_e (fun _ => rfl)
def spec_l18Up_k (N : Nat) (x0 : L34) (x1 : L35) : Option (Unit × (L38 × Unit)) :=
  obind (spec_l18Bytes ((x0.1, x0.2.1, ()), (x1.1, x1.2.1, x1.2.2.1, ()), ())) fun v0 =>
  obind (spec_Records (v0.2.1, ())) fun v1 =>
  obind (spec_IndexOf (v1.2.1, ())) fun v2 =>
  some ((), (true, (x0.1, x0.2.1, ()), (x1.1, x1.2.1, x1.2.2.1, ()), v2.2.1, ()), ())
def spec_l18Up (x : (L34 × L35 × Unit)) : Option (Unit × (L38 × Unit)) := spec_l18Up_k fuel x.1 x.2.1
def spec_l18Up_m : Con := ⟨[.val S34, .val S35], [S38], (.pair S38 .unit), spec_l18Up⟩
def spec_l18Up_s : List (Nat × Con) := [(62, spec_Records_m), (63, spec_l18Bytes_m), (65, spec_IndexOf_m)]
def spec_l18Up_g (N : Nat) : List (Nat × Seg (Rof spec_l18Up_m)) := []
theorem spec_l18Up_e : FunOk spec_l18Up_s Tryz.f38 spec_l18Up_m spec_l18Up_g (fun N x => spec_l18Up_k N x.1 x.2.1) := fun _ _ => by kernel_rfl
theorem spec_l18Up_o : Known Tryz.prog 38 spec_l18Up_m := known_v (g := spec_l18Up_g) (.cons spec_Records_o (.cons spec_l18Bytes_o (.cons spec_IndexOf_o .nil))) Tryz.func38 (by kernel_rfl) trivial spec_l18Up_e (fun _ => rfl)
def spec_l18Done_k (N : Nat) (x0 : L38) (x1 : Int) (x2 : ByteArray) (x3 : (List Int)) : Option (Unit × (L38 × Int × Unit)) :=
  obind (spec_ArchiveOk ((x0.1, (x0.2.1.1, x0.2.1.2.1, ()), (x0.2.2.1.1, x0.2.2.1.2.1, x0.2.2.1.2.2.1, ()), x0.2.2.2.1, ()), ())) fun v0 =>
  tb (bnot v0.2.1)
  (some ((), (false, ([], [], ()), (0, 0, 0, ()), [], ()), 1, ()))
  (obind (spec_l18Work ((x0.1, (x0.2.1.1, x0.2.1.2.1, ()), (x0.2.2.1.1, x0.2.2.1.2.1, x0.2.2.1.2.2.1, ()), x0.2.2.2.1, ()), x1, x2, x3, ())) fun v1 =>
    tb (bnot (ieq v1.2.2.2.1 0))
    (obind (spec_l18Copy ((x0.1, (x0.2.1.1, x0.2.1.2.1, ()), (x0.2.2.1.1, x0.2.2.1.2.1, x0.2.2.1.2.2.1, ()), x0.2.2.2.1, ()), ())) fun v2 =>
      some ((), (v2.2.1.1, (v2.2.1.2.1.1, v2.2.1.2.1.2.1, ()), (v2.2.1.2.2.1.1, v2.2.1.2.2.1.2.1, v2.2.1.2.2.1.2.2.1, ()), v2.2.1.2.2.2.1, ()), v1.2.2.2.1, ()))
    (chk ((0 : Int) ≤ 3) (obind (at? v1.2.1 (Int.toNat 3)) fun v3 =>
        obind (spec_l18Up ((v3.1, v3.2.1, ()), (v1.2.2.1.1, v1.2.2.1.2.1, v1.2.2.1.2.2.1, ()), ())) fun v4 =>
        some ((), (v4.2.1.1, (v4.2.1.2.1.1, v4.2.1.2.1.2.1, ()), (v4.2.1.2.2.1.1, v4.2.1.2.2.1.2.1, v4.2.1.2.2.1.2.2.1, ()), v4.2.1.2.2.2.1, ()), v1.2.2.2.1, ())) (none)))
def spec_l18Done (x : (L38 × Int × ByteArray × (List Int) × Unit)) : Option (Unit × (L38 × Int × Unit)) := spec_l18Done_k fuel x.1 x.2.1 x.2.2.1 x.2.2.2.1
def spec_l18Done_m : Con := ⟨[.val S38, .val (.int .i64), .val .str, .val (.row false (.int .u8))], [S38, (.int .i64)], (.pair S38 (.pair (.int .i64) .unit)), spec_l18Done⟩
def spec_l18Done_s : List (Nat × Con) := [(35, spec_ArchiveOk_m), (36, spec_l18Work_m), (37, spec_l18Copy_m), (38, spec_l18Up_m)]
def spec_l18Done_g (N : Nat) : List (Nat × Seg (Rof spec_l18Done_m)) := []
theorem spec_l18Done_e : FunOk spec_l18Done_s Tryz.f16 spec_l18Done_m spec_l18Done_g (fun N x => spec_l18Done_k N x.1 x.2.1 x.2.2.1 x.2.2.2.1) := fun _ _ => by kernel_rfl
theorem spec_l18Done_o : Known Tryz.prog 16 spec_l18Done_m := known_v (g := spec_l18Done_g) (.cons spec_ArchiveOk_o (.cons spec_l18Work_o (.cons spec_l18Copy_o (.cons spec_l18Up_o .nil)))) Tryz.func16 (by kernel_rfl) trivial spec_l18Done_e (fun _ => rfl)
def laws_toStringS_P0 : Tpl := ⟨[(0, .one (.leaf (.row false .str))), (3, .one (.fix (.ref 10000 [] none))), (4, .one (.leaf (.int .i64)))], [], [(10000, .str)]⟩
def laws_toStringS_O0 : Tpl := ⟨[(3, .one (.fix (.ref 10500 [] none)))], [], [(10500, .str)]⟩
def laws_toStringS_k0 (N : Nat) : Nat → ((Unit × (Unit × ((List ByteArray) × Unit))) → Option (Unit × ((List ByteArray) × Unit))) → (((List ByteArray) × Int × Unit) × (Unit × ((List ByteArray) × Unit))) → Option (Unit × ((List ByteArray) × Unit))
  | 0, _, _ => none
  | n + 1, k, x =>
    tb (ilt x.1.2.1 (((llen x.1.1) : Nat) : Int))
    (chk (0 ≤ x.1.2.1) (obind (at? x.1.1 (Int.toNat x.1.2.1)) fun v0 =>
        chk ((0 ≤ x.1.2.1) ∧ (x.1.2.1 < (((llen x.2.2.1) : Nat) : Int))) (obind (at? x.2.2.1 (Int.toNat x.1.2.1)) fun v1 =>
          laws_toStringS_k0 N n k ((x.1.1, (wr .i64 (x.1.2.1 + 1)), ()), (), (lset x.2.2.1 (Int.toNat x.1.2.1) v0), ())) (none)) (none))
    (k ((), (), x.2.2.1, ()))
def laws_toStringS_k (N : Nat) (x0 : (List ByteArray)) : Option (Unit × ((List ByteArray) × Unit)) :=
  chk ((0 ≤ (((llen x0) : Nat) : Int)) ∧ (((((llen x0) : Nat) : Int) ≤ (((llen x0) : Nat) : Int)) ∧ ((Int.toNat (((llen x0) : Nat) : Int)) ≤ 8796093022208))) (laws_toStringS_k0 N N (fun v0 =>
      some ((), v0.2.2.1, ())) ((x0, 0, ()), (), (lrep (Int.toNat (((llen x0) : Nat) : Int)) (⟨#[]⟩ : ByteArray)), ())) (none)
def laws_toStringS (x : ((List ByteArray) × Unit)) : Option (Unit × ((List ByteArray) × Unit)) := laws_toStringS_k fuel x.1
def laws_toStringS_m : Con := ⟨[.val (.row false .str)], [(.row true .str)], (.pair (.row true .str) .unit), laws_toStringS⟩
def laws_toStringS_s : List (Nat × Con) := []
def laws_toStringS_S0 (N : Nat) : Seg (Rof laws_toStringS_m) := ⟨laws_toStringS_P0, laws_toStringS_O0, [.tmp 3 10000 .str], [.tmp 3 10500 .str], laws_toStringS_k0 N⟩
def laws_toStringS_g (N : Nat) : List (Nat × Seg (Rof laws_toStringS_m)) := [(0, laws_toStringS_S0 N)]
theorem laws_toStringS_r0 : RndOk laws_toStringS_s Tryz.f39 laws_toStringS_m laws_toStringS_g 0 laws_toStringS_S0 := fun _ _ _ _ => by kernel_rfl
theorem laws_toStringS_e : FunOk laws_toStringS_s Tryz.f39 laws_toStringS_m laws_toStringS_g (fun N x => laws_toStringS_k N x.1) := fun _ _ => by kernel_rfl
theorem laws_toStringS_o : Known Tryz.prog 39 laws_toStringS_m := known_v (g := laws_toStringS_g) .nil Tryz.func39 (by kernel_rfl) ⟨⟨fun _ _ => rfl, laws_toStringS_r0 fuel⟩, trivial⟩ laws_toStringS_e (fun _ => rfl)
def laws_toPut_k (N : Nat) (x0 : L102) : Option (Unit × (L121 × Unit)) :=
  some ((), (x0.1, x0.2.1, ()), ())
def laws_toPut (x : (L102 × Unit)) : Option (Unit × (L121 × Unit)) := laws_toPut_k fuel x.1
def laws_toPut_m : Con := ⟨[.val S102], [T121], (.pair T121 .unit), laws_toPut⟩
def laws_toPut_s : List (Nat × Con) := []
def laws_toPut_g (N : Nat) : List (Nat × Seg (Rof laws_toPut_m)) := []
theorem laws_toPut_e : FunOk laws_toPut_s Tryz.f74 laws_toPut_m laws_toPut_g (fun N x => laws_toPut_k N x.1) := fun _ _ => by kernel_rfl
theorem laws_toPut_o : Known Tryz.prog 74 laws_toPut_m := known_v (g := laws_toPut_g) .nil Tryz.func74 (by kernel_rfl) trivial laws_toPut_e (fun _ => rfl)
def laws_toPutS_P0 : Tpl := ⟨[(0, .one (.leaf (.row false (.pair (.int .i64) (.pair .str .unit))))), (3, .one (.fix (.ref 10000 [] none))), (4, .one (.leaf (.int .i64)))], [], [(10000, (.pair (.int .i64) (.pair .str .unit)))]⟩
def laws_toPutS_O0 : Tpl := ⟨[(3, .one (.fix (.ref 10500 [] none)))], [], [(10500, (.pair (.int .i64) (.pair .str .unit)))]⟩
def laws_toPutS_k0 (N : Nat) : Nat → ((Unit × (Unit × ((List (Int × (ByteArray × Unit))) × Unit))) → Option (Unit × ((List L121) × Unit))) → (((List (Int × (ByteArray × Unit))) × Int × Unit) × (Unit × ((List (Int × (ByteArray × Unit))) × Unit))) → Option (Unit × ((List L121) × Unit))
  | 0, _, _ => none
  | n + 1, k, x =>
    tb (ilt x.1.2.1 (((llen x.1.1) : Nat) : Int))
    (chk (0 ≤ x.1.2.1) (obind (at? x.1.1 (Int.toNat x.1.2.1)) fun v0 =>
        obind (laws_toPut ((v0.1, v0.2.1, ()), ())) fun v1 =>
        chk ((0 ≤ x.1.2.1) ∧ (x.1.2.1 < (((llen x.2.2.1) : Nat) : Int))) (obind (at? x.2.2.1 (Int.toNat x.1.2.1)) fun v2 =>
          laws_toPutS_k0 N n k ((x.1.1, (wr .i64 (x.1.2.1 + 1)), ()), (), (lset x.2.2.1 (Int.toNat x.1.2.1) (v1.2.1.1, v1.2.1.2.1, ())), ())) (none)) (none))
    (k ((), (), x.2.2.1, ()))
def laws_toPutS_k (N : Nat) (x0 : (List L102)) : Option (Unit × ((List L121) × Unit)) :=
  chk ((0 ≤ (((llen x0) : Nat) : Int)) ∧ (((((llen x0) : Nat) : Int) ≤ (((llen x0) : Nat) : Int)) ∧ ((Int.toNat (((llen x0) : Nat) : Int)) ≤ 5864062014805))) (laws_toPutS_k0 N N (fun v0 =>
      some ((), v0.2.2.1, ())) ((x0, 0, ()), (), (lrep (Int.toNat (((llen x0) : Nat) : Int)) ((0 : Int), (⟨#[]⟩ : ByteArray), PUnit.unit)), ())) (none)
def laws_toPutS (x : ((List L102) × Unit)) : Option (Unit × ((List L121) × Unit)) := laws_toPutS_k fuel x.1
def laws_toPutS_m : Con := ⟨[.val (.row false S102)], [(.row true T121)], (.pair (.row true T121) .unit), laws_toPutS⟩
def laws_toPutS_s : List (Nat × Con) := [(74, laws_toPut_m)]
def laws_toPutS_S0 (N : Nat) : Seg (Rof laws_toPutS_m) := ⟨laws_toPutS_P0, laws_toPutS_O0, [.tmp 3 10000 (.pair (.int .i64) (.pair .str .unit))], [.tmp 3 10500 (.pair (.int .i64) (.pair .str .unit))], laws_toPutS_k0 N⟩
def laws_toPutS_g (N : Nat) : List (Nat × Seg (Rof laws_toPutS_m)) := [(0, laws_toPutS_S0 N)]
theorem laws_toPutS_r0 : RndOk laws_toPutS_s Tryz.f40 laws_toPutS_m laws_toPutS_g 0 laws_toPutS_S0 := fun _ _ _ _ => by kernel_rfl
theorem laws_toPutS_e : FunOk laws_toPutS_s Tryz.f40 laws_toPutS_m laws_toPutS_g (fun N x => laws_toPutS_k N x.1) := fun _ _ => by kernel_rfl
theorem laws_toPutS_o : Known Tryz.prog 40 laws_toPutS_m := known_v (g := laws_toPutS_g) (.cons laws_toPut_o .nil) Tryz.func40 (by kernel_rfl) ⟨⟨fun _ _ => rfl, laws_toPutS_r0 fuel⟩, trivial⟩ laws_toPutS_e (fun _ => rfl)
def laws_toDisk_k (N : Nat) (x0 : L25) : Option (Unit × (L34 × Unit)) :=
  obind (laws_toStringS (x0.1, ())) fun v0 =>
  obind (laws_toPutS (x0.2.1, ())) fun v1 =>
  some ((), (v0.2.1, v1.2.1, ()), ())
def laws_toDisk (x : (L25 × Unit)) : Option (Unit × (L34 × Unit)) := laws_toDisk_k fuel x.1
def laws_toDisk_m : Con := ⟨[.val S25], [T34], (.pair T34 .unit), laws_toDisk⟩
def laws_toDisk_s : List (Nat × Con) := [(39, laws_toStringS_m), (40, laws_toPutS_m)]
def laws_toDisk_g (N : Nat) : List (Nat × Seg (Rof laws_toDisk_m)) := []
theorem laws_toDisk_e : FunOk laws_toDisk_s Tryz.f17 laws_toDisk_m laws_toDisk_g (fun N x => laws_toDisk_k N x.1) := fun _ _ => by kernel_rfl
theorem laws_toDisk_o : Known Tryz.prog 17 laws_toDisk_m := known_v (g := laws_toDisk_g) (.cons laws_toStringS_o (.cons laws_toPutS_o .nil)) Tryz.func17 (by kernel_rfl) trivial laws_toDisk_e (fun _ => rfl)
def laws_toHead_k (N : Nat) (x0 : L27) : Option (Unit × (L35 × Unit)) :=
  some ((), (x0.1, x0.2.1, x0.2.2.1, ()), ())
def laws_toHead (x : (L27 × Unit)) : Option (Unit × (L35 × Unit)) := laws_toHead_k fuel x.1
def laws_toHead_m : Con := ⟨[.val S27], [T35], (.pair T35 .unit), laws_toHead⟩
def laws_toHead_s : List (Nat × Con) := []
def laws_toHead_g (N : Nat) : List (Nat × Seg (Rof laws_toHead_m)) := []
theorem laws_toHead_e : FunOk laws_toHead_s Tryz.f18 laws_toHead_m laws_toHead_g (fun N x => laws_toHead_k N x.1) := fun _ _ => by kernel_rfl
theorem laws_toHead_o : Known Tryz.prog 18 laws_toHead_m := known_v (g := laws_toHead_g) .nil Tryz.func18 (by kernel_rfl) trivial laws_toHead_e (fun _ => rfl)
def laws_toEntry_k (N : Nat) (x0 : L71) : Option (Unit × (L80 × Unit)) :=
  some ((), (x0.1, x0.2.1, ()), ())
def laws_toEntry (x : (L71 × Unit)) : Option (Unit × (L80 × Unit)) := laws_toEntry_k fuel x.1
def laws_toEntry_m : Con := ⟨[.val S71], [T80], (.pair T80 .unit), laws_toEntry⟩
def laws_toEntry_s : List (Nat × Con) := []
def laws_toEntry_g (N : Nat) : List (Nat × Seg (Rof laws_toEntry_m)) := []
theorem laws_toEntry_e : FunOk laws_toEntry_s Tryz.f41 laws_toEntry_m laws_toEntry_g (fun N x => laws_toEntry_k N x.1) := fun _ _ => by kernel_rfl
theorem laws_toEntry_o : Known Tryz.prog 41 laws_toEntry_m := known_v (g := laws_toEntry_g) .nil Tryz.func41 (by kernel_rfl) trivial laws_toEntry_e (fun _ => rfl)
def laws_toEntryS_P0 : Tpl := ⟨[(0, .one (.leaf (.row false (.pair .str (.pair .str .unit))))), (3, .one (.fix (.ref 10000 [] none))), (4, .one (.leaf (.int .i64)))], [], [(10000, (.pair .str (.pair .str .unit)))]⟩
def laws_toEntryS_O0 : Tpl := ⟨[(3, .one (.fix (.ref 10500 [] none)))], [], [(10500, (.pair .str (.pair .str .unit)))]⟩
def laws_toEntryS_k0 (N : Nat) : Nat → ((Unit × (Unit × ((List (ByteArray × (ByteArray × Unit))) × Unit))) → Option (Unit × ((List L80) × Unit))) → (((List (ByteArray × (ByteArray × Unit))) × Int × Unit) × (Unit × ((List (ByteArray × (ByteArray × Unit))) × Unit))) → Option (Unit × ((List L80) × Unit))
  | 0, _, _ => none
  | n + 1, k, x =>
    tb (ilt x.1.2.1 (((llen x.1.1) : Nat) : Int))
    (chk (0 ≤ x.1.2.1) (obind (at? x.1.1 (Int.toNat x.1.2.1)) fun v0 =>
        obind (laws_toEntry ((v0.1, v0.2.1, ()), ())) fun v1 =>
        chk ((0 ≤ x.1.2.1) ∧ (x.1.2.1 < (((llen x.2.2.1) : Nat) : Int))) (obind (at? x.2.2.1 (Int.toNat x.1.2.1)) fun v2 =>
          laws_toEntryS_k0 N n k ((x.1.1, (wr .i64 (x.1.2.1 + 1)), ()), (), (lset x.2.2.1 (Int.toNat x.1.2.1) (v1.2.1.1, v1.2.1.2.1, ())), ())) (none)) (none))
    (k ((), (), x.2.2.1, ()))
def laws_toEntryS_k (N : Nat) (x0 : (List L71)) : Option (Unit × ((List L80) × Unit)) :=
  chk ((0 ≤ (((llen x0) : Nat) : Int)) ∧ (((((llen x0) : Nat) : Int) ≤ (((llen x0) : Nat) : Int)) ∧ ((Int.toNat (((llen x0) : Nat) : Int)) ≤ 4398046511104))) (laws_toEntryS_k0 N N (fun v0 =>
      some ((), v0.2.2.1, ())) ((x0, 0, ()), (), (lrep (Int.toNat (((llen x0) : Nat) : Int)) ((⟨#[]⟩ : ByteArray), (⟨#[]⟩ : ByteArray), PUnit.unit)), ())) (none)
def laws_toEntryS (x : ((List L71) × Unit)) : Option (Unit × ((List L80) × Unit)) := laws_toEntryS_k fuel x.1
def laws_toEntryS_m : Con := ⟨[.val (.row false S71)], [(.row true T80)], (.pair (.row true T80) .unit), laws_toEntryS⟩
def laws_toEntryS_s : List (Nat × Con) := [(41, laws_toEntry_m)]
def laws_toEntryS_S0 (N : Nat) : Seg (Rof laws_toEntryS_m) := ⟨laws_toEntryS_P0, laws_toEntryS_O0, [.tmp 3 10000 (.pair .str (.pair .str .unit))], [.tmp 3 10500 (.pair .str (.pair .str .unit))], laws_toEntryS_k0 N⟩
def laws_toEntryS_g (N : Nat) : List (Nat × Seg (Rof laws_toEntryS_m)) := [(0, laws_toEntryS_S0 N)]
theorem laws_toEntryS_r0 : RndOk laws_toEntryS_s Tryz.f19 laws_toEntryS_m laws_toEntryS_g 0 laws_toEntryS_S0 := fun _ _ _ _ => by kernel_rfl
theorem laws_toEntryS_e : FunOk laws_toEntryS_s Tryz.f19 laws_toEntryS_m laws_toEntryS_g (fun N x => laws_toEntryS_k N x.1) := fun _ _ => by kernel_rfl
theorem laws_toEntryS_o : Known Tryz.prog 19 laws_toEntryS_m := known_v (g := laws_toEntryS_g) (.cons laws_toEntry_o .nil) Tryz.func19 (by kernel_rfl) ⟨⟨fun _ _ => rfl, laws_toEntryS_r0 fuel⟩, trivial⟩ laws_toEntryS_e (fun _ => rfl)
def laws_toArchive_k (N : Nat) (x0 : L30) : Option (Unit × (L38 × Unit)) :=
  obind (laws_toDisk ((x0.2.1.1, x0.2.1.2.1, ()), ())) fun v0 =>
  obind (laws_toHead ((x0.2.2.1.1, x0.2.2.1.2.1, x0.2.2.1.2.2.1, ()), ())) fun v1 =>
  obind (laws_toEntryS (x0.2.2.2.1, ())) fun v2 =>
  some ((), (x0.1, (v0.2.1.1, v0.2.1.2.1, ()), (v1.2.1.1, v1.2.1.2.1, v1.2.1.2.2.1, ()), v2.2.1, ()), ())
def laws_toArchive (x : (L30 × Unit)) : Option (Unit × (L38 × Unit)) := laws_toArchive_k fuel x.1
def laws_toArchive_m : Con := ⟨[.val S30], [T38], (.pair T38 .unit), laws_toArchive⟩
def laws_toArchive_s : List (Nat × Con) := [(17, laws_toDisk_m), (18, laws_toHead_m), (19, laws_toEntryS_m)]
def laws_toArchive_g (N : Nat) : List (Nat × Seg (Rof laws_toArchive_m)) := []
theorem laws_toArchive_e : FunOk laws_toArchive_s Tryz.f7 laws_toArchive_m laws_toArchive_g (fun N x => laws_toArchive_k N x.1) := fun _ _ => by kernel_rfl
theorem laws_toArchive_o : Known Tryz.prog 7 laws_toArchive_m := known_v (g := laws_toArchive_g) (.cons laws_toDisk_o (.cons laws_toHead_o (.cons laws_toEntryS_o .nil))) Tryz.func7 (by kernel_rfl) trivial laws_toArchive_e (fun _ => rfl)
def impl_inRange_k (N : Nat) (x0 : Int) (x1 : Int) (x2 : Int) : Option (Unit × (Bool × Unit)) :=
  tb (ile x1 x0)
  (some ((), (ile x0 x2), ()))
  (some ((), false, ()))
def impl_inRange (x : (Int × Int × Int × Unit)) : Option (Unit × (Bool × Unit)) := impl_inRange_k fuel x.1 x.2.1 x.2.2.1
def impl_inRange_m : Con := ⟨[.val (.int .i64), .val (.int .i64), .val (.int .i64)], [.bool], (.pair .bool .unit), impl_inRange⟩
def impl_inRange_s : List (Nat × Con) := []
def impl_inRange_g (N : Nat) : List (Nat × Seg (Rof impl_inRange_m)) := []
theorem impl_inRange_e : FunOk impl_inRange_s Tryz.f89 impl_inRange_m impl_inRange_g (fun N x => impl_inRange_k N x.1 x.2.1 x.2.2.1) := fun _ _ => by kernel_rfl
theorem impl_inRange_o : Known Tryz.prog 89 impl_inRange_m := known_v (g := impl_inRange_g) .nil Tryz.func89 (by kernel_rfl) trivial impl_inRange_e (fun _ => rfl)
def impl_isSector_k (N : Nat) (x0 : Int) : Option (Unit × (Bool × Unit)) :=
  obind (impl_inRange (x0, 0, 129, ())) fun v0 =>
  some ((), v0.2.1, ())
def impl_isSector (x : (Int × Unit)) : Option (Unit × (Bool × Unit)) := impl_isSector_k fuel x.1
def impl_isSector_m : Con := ⟨[.val (.int .i64)], [.bool], (.pair .bool .unit), impl_isSector⟩
def impl_isSector_s : List (Nat × Con) := [(89, impl_inRange_m)]
def impl_isSector_g (N : Nat) : List (Nat × Seg (Rof impl_isSector_m)) := []
theorem impl_isSector_e : FunOk impl_isSector_s Tryz.f108 impl_isSector_m impl_isSector_g (fun N x => impl_isSector_k N x.1) := fun _ _ => by kernel_rfl
theorem impl_isSector_o : Known Tryz.prog 108 impl_isSector_m := known_v (g := impl_isSector_g) (.cons impl_inRange_o .nil) Tryz.func108 (by kernel_rfl) trivial impl_isSector_e (fun _ => rfl)
def impl_DiskOk_P0 : Tpl := ⟨[(1, .one (.fix (.vptr 1 0))), (8, .one (.leaf (.row false .str))), (9, .one (.leaf (.int .i64))), (10, .one (.leaf (.int .i64)))], [(1, [.leaf (.row false .str), .leaf (.row false (.pair (.int .i64) (.pair .str .unit)))])], []⟩
def impl_DiskOk_O0 : Tpl := ⟨[(1, .one (.fix (.vptr 1 0)))], [(1, [.leaf (.row false .str), .leaf (.row false (.pair (.int .i64) (.pair .str .unit)))])], []⟩
def impl_DiskOk_k0 (N : Nat) : Nat → ((Unit × ((((List ByteArray) × (List (Int × (ByteArray × Unit))) × Unit) × Unit) × Unit)) → Option (Unit × (Bool × Unit))) → (((List ByteArray) × Int × Int × Unit) × ((((List ByteArray) × (List (Int × (ByteArray × Unit))) × Unit) × Unit) × Unit)) → Option (Unit × (Bool × Unit))
  | 0, _, _ => none
  | n + 1, k, x =>
    tb (ilt x.1.2.2.1 x.1.2.1)
    (chk (0 ≤ x.1.2.2.1) (obind (at? x.1.1 (Int.toNat x.1.2.2.1)) fun v0 =>
        tb (bnot (ieq (((slen v0) : Nat) : Int) 64))
        (some ((), false, ()))
        (impl_DiskOk_k0 N n k ((x.1.1, x.1.2.1, (wr .i64 (x.1.2.2.1 + 1)), ()), ((x.2.1.1.1, x.2.1.1.2.1, ()), ()), ()))) (none))
    (k ((), ((x.2.1.1.1, x.2.1.1.2.1, ()), ()), ()))
def impl_DiskOk_P2 : Tpl := ⟨[(1, .one (.fix (.vptr 1 0))), (19, .one (.leaf (.row false (.pair (.int .i64) (.pair .str .unit))))), (20, .one (.leaf (.int .i64))), (21, .one (.leaf (.int .i64)))], [(1, [.leaf (.row false .str), .leaf (.row false (.pair (.int .i64) (.pair .str .unit)))])], []⟩
def impl_DiskOk_O2 : Tpl := ⟨[(1, .one (.fix (.vptr 1 0)))], [(1, [.leaf (.row false .str), .leaf (.row false (.pair (.int .i64) (.pair .str .unit)))])], []⟩
def impl_DiskOk_k2 (N : Nat) : Nat → ((Unit × ((((List ByteArray) × (List (Int × (ByteArray × Unit))) × Unit) × Unit) × Unit)) → Option (Unit × (Bool × Unit))) → (((List (Int × (ByteArray × Unit))) × Int × Int × Unit) × ((((List ByteArray) × (List (Int × (ByteArray × Unit))) × Unit) × Unit) × Unit)) → Option (Unit × (Bool × Unit))
  | 0, _, _ => none
  | n + 1, k, x =>
    tb (ilt x.1.2.2.1 x.1.2.1)
    (chk (0 ≤ x.1.2.2.1) (obind (at? x.1.1 (Int.toNat x.1.2.2.1)) fun v0 =>
        obind (impl_isSector (v0.1, ())) fun v1 =>
        tb (bnot v1.2.1)
        (some ((), false, ()))
        (tb (bnot (ieq (((slen v0.2.1) : Nat) : Int) 64))
          (some ((), false, ()))
          (impl_DiskOk_k2 N n k ((x.1.1, x.1.2.1, (wr .i64 (x.1.2.2.1 + 1)), ()), ((x.2.1.1.1, x.2.1.1.2.1, ()), ()), ())))) (none))
    (k ((), ((x.2.1.1.1, x.2.1.1.2.1, ()), ()), ()))
def impl_DiskOk_k (N : Nat) (x0 : L34) : Option (Unit × (Bool × Unit)) :=
  impl_DiskOk_k0 N N (fun v0 =>
    impl_DiskOk_k2 N N (fun v1 =>
      tb (ieq (((llen v1.2.1.1.1) : Nat) : Int) 130)
      (some ((), (ile (((llen v1.2.1.1.2.1) : Nat) : Int) 200), ()))
      (some ((), false, ()))) ((v0.2.1.1.2.1, (((llen v0.2.1.1.2.1) : Nat) : Int), 0, ()), ((v0.2.1.1.1, v0.2.1.1.2.1, ()), ()), ())) ((x0.1, (((llen x0.1) : Nat) : Int), 0, ()), ((x0.1, x0.2.1, ()), ()), ())
def impl_DiskOk (x : (L34 × Unit)) : Option (Unit × (Bool × Unit)) := impl_DiskOk_k fuel x.1
def impl_DiskOk_m : Con := ⟨[.val S34], [.bool], (.pair .bool .unit), impl_DiskOk⟩
def impl_DiskOk_s : List (Nat × Con) := [(108, impl_isSector_m)]
def impl_DiskOk_S0 (N : Nat) : Seg (Rof impl_DiskOk_m) := ⟨impl_DiskOk_P0, impl_DiskOk_O0, [], [], impl_DiskOk_k0 N⟩
def impl_DiskOk_S2 (N : Nat) : Seg (Rof impl_DiskOk_m) := ⟨impl_DiskOk_P2, impl_DiskOk_O2, [], [], impl_DiskOk_k2 N⟩
def impl_DiskOk_g (N : Nat) : List (Nat × Seg (Rof impl_DiskOk_m)) := [(0, impl_DiskOk_S0 N), (2, impl_DiskOk_S2 N)]
theorem impl_DiskOk_r0 : RndOk impl_DiskOk_s Tryz.f75 impl_DiskOk_m impl_DiskOk_g 0 impl_DiskOk_S0 := fun _ _ _ _ => by kernel_rfl
theorem impl_DiskOk_r2 : RndOk impl_DiskOk_s Tryz.f75 impl_DiskOk_m impl_DiskOk_g 2 impl_DiskOk_S2 := fun _ _ _ _ => by kernel_rfl
theorem impl_DiskOk_e : FunOk impl_DiskOk_s Tryz.f75 impl_DiskOk_m impl_DiskOk_g (fun N x => impl_DiskOk_k N x.1) := fun _ _ => by kernel_rfl
theorem impl_DiskOk_o : Known Tryz.prog 75 impl_DiskOk_m := known_v (g := impl_DiskOk_g) (.cons impl_isSector_o .nil) Tryz.func75 (by kernel_rfl) ⟨⟨fun _ _ => rfl, impl_DiskOk_r0 fuel⟩, ⟨⟨fun _ _ => rfl, impl_DiskOk_r2 fuel⟩, trivial⟩⟩ impl_DiskOk_e (fun _ => rfl)
def impl_isArea_k (N : Nat) (x0 : Int) : Option (Unit × (Bool × Unit)) :=
  tb (ieq x0 0)
  (some ((), true, ()))
  (some ((), (ieq x0 1), ()))
def impl_isArea (x : (Int × Unit)) : Option (Unit × (Bool × Unit)) := impl_isArea_k fuel x.1
def impl_isArea_m : Con := ⟨[.val (.int .i64)], [.bool], (.pair .bool .unit), impl_isArea⟩
def impl_isArea_s : List (Nat × Con) := []
def impl_isArea_g (N : Nat) : List (Nat × Seg (Rof impl_isArea_m)) := []
theorem impl_isArea_e : FunOk impl_isArea_s Tryz.f109 impl_isArea_m impl_isArea_g (fun N x => impl_isArea_k N x.1) := fun _ _ => by kernel_rfl
theorem impl_isArea_o : Known Tryz.prog 109 impl_isArea_m := known_v (g := impl_isArea_g) .nil Tryz.func109 (by kernel_rfl) trivial impl_isArea_e (fun _ => rfl)
def impl_fitsArea_k (N : Nat) (x0 : Int) (x1 : Int) (x2 : Int) : Option (Unit × (Bool × Unit)) :=
  obind (impl_isArea (x0, ())) fun v0 =>
  tb v0.2.1
  (obind (impl_inRange (x1, 0, 4096, ())) fun v1 =>
    tb v1.2.1
    (obind (impl_inRange (x2, 0, (wr .i64 (4096 - x1)), ())) fun v2 =>
      some ((), v2.2.1, ()))
    (some ((), false, ())))
  (some ((), false, ()))
def impl_fitsArea (x : (Int × Int × Int × Unit)) : Option (Unit × (Bool × Unit)) := impl_fitsArea_k fuel x.1 x.2.1 x.2.2.1
def impl_fitsArea_m : Con := ⟨[.val (.int .i64), .val (.int .i64), .val (.int .i64)], [.bool], (.pair .bool .unit), impl_fitsArea⟩
def impl_fitsArea_s : List (Nat × Con) := [(89, impl_inRange_m), (109, impl_isArea_m)]
def impl_fitsArea_g (N : Nat) : List (Nat × Seg (Rof impl_fitsArea_m)) := []
theorem impl_fitsArea_e : FunOk impl_fitsArea_s Tryz.f120 impl_fitsArea_m impl_fitsArea_g (fun N x => impl_fitsArea_k N x.1 x.2.1 x.2.2.1) := fun _ _ => by kernel_rfl
theorem impl_fitsArea_o : Known Tryz.prog 120 impl_fitsArea_m := known_v (g := impl_fitsArea_g) (.cons impl_inRange_o (.cons impl_isArea_o .nil)) Tryz.func120 (by kernel_rfl) trivial impl_fitsArea_e (fun _ => rfl)
def impl_Disk_sector_P0 : Tpl := ⟨[(0, .one (.leaf (.pair (.row true .str) (.pair (.row true (.pair (.int .i64) (.pair .str .unit))) .unit)))), (1, .one (.leaf (.int .i64))), (5, .one (.leaf (.int .i64)))], [], []⟩
def impl_Disk_sector_O0 : Tpl := ⟨[(0, .one (.leaf (.pair (.row true .str) (.pair (.row true (.pair (.int .i64) (.pair .str .unit))) .unit)))), (1, .one (.leaf (.int .i64)))], [], []⟩
def impl_Disk_sector_k0 (N : Nat) : Nat → (((((List ByteArray) × ((List (Int × (ByteArray × Unit))) × Unit)) × Int × Unit) × (Unit × Unit)) → Option (Unit × (ByteArray × Unit))) → ((((List ByteArray) × ((List (Int × (ByteArray × Unit))) × Unit)) × Int × Int × Unit) × (Unit × Unit)) → Option (Unit × (ByteArray × Unit))
  | 0, _, _ => none
  | n + 1, k, x =>
    tb (ile 0 x.1.2.2.1)
    (chk (0 ≤ x.1.2.2.1) (obind (at? x.1.1.2.1 (Int.toNat x.1.2.2.1)) fun v0 =>
        tb (ieq v0.1 x.1.2.1)
        (chk (0 ≤ x.1.2.2.1) (obind (at? x.1.1.2.1 (Int.toNat x.1.2.2.1)) fun v1 =>
            some ((), v1.2.1, ())) (none))
        (impl_Disk_sector_k0 N n k ((x.1.1, x.1.2.1, (wr .i64 (x.1.2.2.1 - 1)), ()), (), ()))) (none))
    (k ((x.1.1, x.1.2.1, ()), (), ()))
def impl_Disk_sector_k (N : Nat) (x0 : L34) (x1 : Int) : Option (Unit × (ByteArray × Unit)) :=
  impl_Disk_sector_k0 N N (fun v0 =>
    chk (0 ≤ v0.1.2.1) (obind (at? v0.1.1.1 (Int.toNat v0.1.2.1)) fun v1 =>
      some ((), v1, ())) (none)) ((x0, x1, (wr .i64 ((((llen x0.2.1) : Nat) : Int) - 1)), ()), (), ())
def impl_Disk_sector (x : (L34 × Int × Unit)) : Option (Unit × (ByteArray × Unit)) := impl_Disk_sector_k fuel x.1 x.2.1
def impl_Disk_sector_m : Con := ⟨[.rptr T34, .val (.int .i64)], [.str], (.pair .str .unit), impl_Disk_sector⟩
def impl_Disk_sector_s : List (Nat × Con) := []
def impl_Disk_sector_S0 (N : Nat) : Seg (Rof impl_Disk_sector_m) := ⟨impl_Disk_sector_P0, impl_Disk_sector_O0, [], [], impl_Disk_sector_k0 N⟩
def impl_Disk_sector_g (N : Nat) : List (Nat × Seg (Rof impl_Disk_sector_m)) := [(0, impl_Disk_sector_S0 N)]
theorem impl_Disk_sector_r0 : RndOk impl_Disk_sector_s Tryz.f111 impl_Disk_sector_m impl_Disk_sector_g 0 impl_Disk_sector_S0 := fun _ _ _ _ => by kernel_rfl
theorem impl_Disk_sector_e : FunOk impl_Disk_sector_s Tryz.f111 impl_Disk_sector_m impl_Disk_sector_g (fun N x => impl_Disk_sector_k N x.1 x.2.1) := fun _ _ => by kernel_rfl
theorem impl_Disk_sector_o : Known Tryz.prog 111 impl_Disk_sector_m := known_v (g := impl_Disk_sector_g) .nil Tryz.func111 (by kernel_rfl) ⟨⟨fun _ _ => rfl, impl_Disk_sector_r0 fuel⟩, trivial⟩ impl_Disk_sector_e (fun _ => rfl)
def impl_first_k (N : Nat) (x0 : Int) : Option (Unit × (Int × Unit)) :=
  some ((), (wr .i64 (2 + (wr .i64 (64 * x0)))), ())
def impl_first (x : (Int × Unit)) : Option (Unit × (Int × Unit)) := impl_first_k fuel x.1
def impl_first_m : Con := ⟨[.val (.int .i64)], [(.int .i64)], (.pair (.int .i64) .unit), impl_first⟩
def impl_first_s : List (Nat × Con) := []
def impl_first_g (N : Nat) : List (Nat × Seg (Rof impl_first_m)) := []
theorem impl_first_e : FunOk impl_first_s Tryz.f143 impl_first_m impl_first_g (fun N x => impl_first_k N x.1) := fun _ _ => by kernel_rfl
theorem impl_first_o : Known Tryz.prog 143 impl_first_m := known_v (g := impl_first_g) .nil Tryz.func143 (by kernel_rfl) trivial impl_first_e (fun _ => rfl)
def impl_Disk_area_P0 : Tpl := ⟨[(0, .one (.leaf (.pair (.row true .str) (.pair (.row true (.pair (.int .i64) (.pair .str .unit))) .unit)))), (1, .one (.leaf (.int .i64))), (2, .one (.leaf (.int .i64))), (3, .one (.leaf (.int .i64))), (9, .one (.fix (.ref 10000 [] none)))], [], [(10000, (.int .u8))]⟩
def impl_Disk_area_O0 : Tpl := ⟨[(9, .one (.fix (.ref 10500 [] none)))], [], [(10500, (.int .u8))]⟩
def impl_Disk_area_k0 (N : Nat) : Nat → ((Unit × (Unit × ((List Int) × Unit))) → Option (Unit × ((List Int) × Unit))) → ((((List ByteArray) × ((List (Int × (ByteArray × Unit))) × Unit)) × Int × Int × Int × Unit) × (Unit × ((List Int) × Unit))) → Option (Unit × ((List Int) × Unit))
  | 0, _, _ => none
  | n + 1, k, x =>
    tb (ilt 0 x.1.2.2.2.1)
    (chk ((64 : Int) = 0) (none) (obind (impl_first (x.1.2.1, ())) fun v0 =>
        chk ((64 : Int) = 0) (none) (obind (impl_Disk_sector (x.1.1, (wr .i64 (v0.2.1 + (wr .i64 (Int.tdiv x.1.2.2.1 64)))), ())) fun v1 =>
          chk ((0 ≤ (Int.tmod x.1.2.2.1 64)) ∧ (((Int.tmod x.1.2.2.1 64) ≤ (wr .i64 ((Int.tmod x.1.2.2.1 64) + (mn x.1.2.2.2.1 (wr .i64 (64 - (Int.tmod x.1.2.2.1 64))))))) ∧ ((wr .i64 ((Int.tmod x.1.2.2.1 64) + (mn x.1.2.2.2.1 (wr .i64 (64 - (Int.tmod x.1.2.2.1 64)))))) ≤ (((slen v1.2.1) : Nat) : Int)))) (chk ((plus (llen x.2.2.1) (llen (bytesOf (scut v1.2.1 (Int.toNat (Int.tmod x.1.2.2.1 64)) (Int.toNat (wr .i64 ((Int.tmod x.1.2.2.1 64) + (mn x.1.2.2.2.1 (wr .i64 (64 - (Int.tmod x.1.2.2.1 64))))))))))) ≤ 140737488355328) (impl_Disk_area_k0 N n k ((x.1.1, x.1.2.1, (wr .i64 (x.1.2.2.1 + (mn x.1.2.2.2.1 (wr .i64 (64 - (Int.tmod x.1.2.2.1 64)))))), (wr .i64 (x.1.2.2.2.1 - (mn x.1.2.2.2.1 (wr .i64 (64 - (Int.tmod x.1.2.2.1 64)))))), ()), (), (lapp x.2.2.1 (bytesOf (scut v1.2.1 (Int.toNat (Int.tmod x.1.2.2.1 64)) (Int.toNat (wr .i64 ((Int.tmod x.1.2.2.1 64) + (mn x.1.2.2.2.1 (wr .i64 (64 - (Int.tmod x.1.2.2.1 64)))))))))), ())) (none)) (none))))
    (k ((), (), x.2.2.1, ()))
def impl_Disk_area_k (N : Nat) (x0 : L34) (x1 : Int) (x2 : Int) (x3 : Int) : Option (Unit × ((List Int) × Unit)) :=
  impl_Disk_area_k0 N N (fun v0 =>
    some ((), v0.2.2.1, ())) ((x0, x1, x2, x3, ()), (), [], ())
def impl_Disk_area (x : (L34 × Int × Int × Int × Unit)) : Option (Unit × ((List Int) × Unit)) := impl_Disk_area_k fuel x.1 x.2.1 x.2.2.1 x.2.2.2.1
def impl_Disk_area_m : Con := ⟨[.rptr T34, .val (.int .i64), .val (.int .i64), .val (.int .i64)], [(.row true (.int .u8))], (.pair (.row true (.int .u8)) .unit), impl_Disk_area⟩
def impl_Disk_area_s : List (Nat × Con) := [(111, impl_Disk_sector_m), (143, impl_first_m)]
def impl_Disk_area_S0 (N : Nat) : Seg (Rof impl_Disk_area_m) := ⟨impl_Disk_area_P0, impl_Disk_area_O0, [.tmp 9 10000 (.int .u8)], [.tmp 9 10500 (.int .u8)], impl_Disk_area_k0 N⟩
def impl_Disk_area_g (N : Nat) : List (Nat × Seg (Rof impl_Disk_area_m)) := [(0, impl_Disk_area_S0 N)]
theorem impl_Disk_area_r0 : RndOk impl_Disk_area_s Tryz.f121 impl_Disk_area_m impl_Disk_area_g 0 impl_Disk_area_S0 := fun _ _ _ _ => by kernel_rfl
theorem impl_Disk_area_e : FunOk impl_Disk_area_s Tryz.f121 impl_Disk_area_m impl_Disk_area_g (fun N x => impl_Disk_area_k N x.1 x.2.1 x.2.2.1 x.2.2.2.1) := fun _ _ => by kernel_rfl
theorem impl_Disk_area_o : Known Tryz.prog 121 impl_Disk_area_m := known_v (g := impl_Disk_area_g) (.cons impl_Disk_sector_o (.cons impl_first_o .nil)) Tryz.func121 (by kernel_rfl) ⟨⟨fun _ _ => rfl, impl_Disk_area_r0 fuel⟩, trivial⟩ impl_Disk_area_e (fun _ => rfl)
def impl_AreaGet_k (N : Nat) (x0 : L34) (x1 : Int) (x2 : Int) (x3 : Int) : Option (Unit × ((List Int) × Bool × Unit)) :=
  obind (impl_fitsArea (x1, x2, x3, ())) fun v0 =>
  tb (bnot v0.2.1)
  (some ((), [], false, ()))
  (obind (impl_DiskOk ((x0.1, x0.2.1, ()), ())) fun v1 =>
    tb (bnot v1.2.1)
    (some ((), [], false, ()))
    (obind (impl_Disk_area ((x0.1, x0.2.1, ()), x1, x2, x3, ())) fun v2 =>
      some ((), v2.2.1, true, ())))
def impl_AreaGet (x : (L34 × Int × Int × Int × Unit)) : Option (Unit × ((List Int) × Bool × Unit)) := impl_AreaGet_k fuel x.1 x.2.1 x.2.2.1 x.2.2.2.1
def impl_AreaGet_m : Con := ⟨[.val S34, .val (.int .i64), .val (.int .i64), .val (.int .i64)], [(.row true (.int .u8)), .bool], (.pair (.row true (.int .u8)) (.pair .bool .unit)), impl_AreaGet⟩
def impl_AreaGet_s : List (Nat × Con) := [(75, impl_DiskOk_m), (120, impl_fitsArea_m), (121, impl_Disk_area_m)]
def impl_AreaGet_g (N : Nat) : List (Nat × Seg (Rof impl_AreaGet_m)) := []
theorem impl_AreaGet_e : FunOk impl_AreaGet_s Tryz.f85 impl_AreaGet_m impl_AreaGet_g (fun N x => impl_AreaGet_k N x.1 x.2.1 x.2.2.1 x.2.2.2.1) := fun _ _ => by kernel_rfl
theorem impl_AreaGet_o : Known Tryz.prog 85 impl_AreaGet_m := known_v (g := impl_AreaGet_g) (.cons impl_DiskOk_o (.cons impl_fitsArea_o (.cons impl_Disk_area_o .nil))) Tryz.func85 (by kernel_rfl) trivial impl_AreaGet_e (fun _ => rfl)
def impl_UrlOk_P0 : Tpl := ⟨[(0, .one (.leaf .str)), (3, .one (.leaf (.int .i64)))], [], []⟩
def impl_UrlOk_O0 : Tpl := ⟨[(0, .one (.leaf .str))], [], []⟩
def impl_UrlOk_k0 (N : Nat) : Nat → (((ByteArray × Unit) × (Unit × Unit)) → Option (Unit × (Bool × Unit))) → ((ByteArray × Int × Unit) × (Unit × Unit)) → Option (Unit × (Bool × Unit))
  | 0, _, _ => none
  | n + 1, k, x =>
    tb (ilt x.1.2.1 (((slen x.1.1) : Nat) : Int))
    (chk ((0 ≤ x.1.2.1) ∧ (x.1.2.1 < (((slen x.1.1) : Nat) : Int))) (tb (ilt (bt x.1.1 x.1.2.1) 33)
        (some ((), false, ()))
        (chk ((0 ≤ x.1.2.1) ∧ (x.1.2.1 < (((slen x.1.1) : Nat) : Int))) (tb (ilt 126 (bt x.1.1 x.1.2.1))
            (some ((), false, ()))
            (impl_UrlOk_k0 N n k ((x.1.1, (wr .i64 (x.1.2.1 + 1)), ()), (), ()))) (none))) (none))
    (k ((x.1.1, ()), (), ()))
def impl_UrlOk_k (N : Nat) (x0 : ByteArray) : Option (Unit × (Bool × Unit)) :=
  impl_UrlOk_k0 N N (fun v0 =>
    obind (impl_inRange ((((slen v0.1.1) : Nat) : Int), 1, 60, ())) fun v1 =>
    some ((), v1.2.1, ())) ((x0, 0, ()), (), ())
def impl_UrlOk (x : (ByteArray × Unit)) : Option (Unit × (Bool × Unit)) := impl_UrlOk_k fuel x.1
def impl_UrlOk_m : Con := ⟨[.val .str], [.bool], (.pair .bool .unit), impl_UrlOk⟩
def impl_UrlOk_s : List (Nat × Con) := [(89, impl_inRange_m)]
def impl_UrlOk_S0 (N : Nat) : Seg (Rof impl_UrlOk_m) := ⟨impl_UrlOk_P0, impl_UrlOk_O0, [], [], impl_UrlOk_k0 N⟩
def impl_UrlOk_g (N : Nat) : List (Nat × Seg (Rof impl_UrlOk_m)) := [(0, impl_UrlOk_S0 N)]
theorem impl_UrlOk_r0 : RndOk impl_UrlOk_s Tryz.f55 impl_UrlOk_m impl_UrlOk_g 0 impl_UrlOk_S0 := fun _ _ _ _ => by kernel_rfl
theorem impl_UrlOk_e : FunOk impl_UrlOk_s Tryz.f55 impl_UrlOk_m impl_UrlOk_g (fun N x => impl_UrlOk_k N x.1) := fun _ _ => by kernel_rfl
theorem impl_UrlOk_o : Known Tryz.prog 55 impl_UrlOk_m := known_v (g := impl_UrlOk_g) (.cons impl_inRange_o .nil) Tryz.func55 (by kernel_rfl) ⟨⟨fun _ _ => rfl, impl_UrlOk_r0 fuel⟩, trivial⟩ impl_UrlOk_e (fun _ => rfl)
def impl_putNum_P0 : Tpl := ⟨[(0, .one (.fix (.ref 10000 [] none))), (1, .one (.leaf (.int .i64)))], [], [(10000, (.int .u8))]⟩
def impl_putNum_O0 : Tpl := ⟨[(0, .one (.fix (.ref 10500 [] none))), (1, .one (.leaf (.int .i64)))], [], [(10500, (.int .u8))]⟩
def impl_putNum_k0 (N : Nat) : Nat → (((Int × Unit) × (Unit × ((List Int) × Unit))) → Option (Unit × ((List Int) × Unit))) → ((Int × Unit) × (Unit × ((List Int) × Unit))) → Option (Unit × ((List Int) × Unit))
  | 0, _, _ => none
  | n + 1, k, x =>
    tb (ilt 127 x.1.1)
    (chk ((plus (llen x.2.2.1) (llen [(wr .u8 (borK .i64 128 (bandK .i64 x.1.1 127)))])) ≤ 140737488355328) (chk ((7 : Int) < 0) (none) (impl_putNum_k0 N n k (((shrK .i64 x.1.1 7), ()), (), (lapp x.2.2.1 [(wr .u8 (borK .i64 128 (bandK .i64 x.1.1 127)))]), ()))) (none))
    (k ((x.1.1, ()), (), x.2.2.1, ()))
def impl_putNum_k (N : Nat) (x0 : (List Int)) (x1 : Int) : Option (Unit × ((List Int) × Unit)) :=
  impl_putNum_k0 N N (fun v0 =>
    chk ((plus (llen v0.2.2.1) (llen [(wr .u8 v0.1.1)])) ≤ 140737488355328) (some ((), (lapp v0.2.2.1 [(wr .u8 v0.1.1)]), ())) (none)) ((x1, ()), (), x0, ())
def impl_putNum (x : ((List Int) × Int × Unit)) : Option (Unit × ((List Int) × Unit)) := impl_putNum_k fuel x.1 x.2.1
def impl_putNum_m : Con := ⟨[.own (.row true (.int .u8)), .val (.int .i64)], [(.row true (.int .u8))], (.pair (.row true (.int .u8)) .unit), impl_putNum⟩
def impl_putNum_s : List (Nat × Con) := []
def impl_putNum_S0 (N : Nat) : Seg (Rof impl_putNum_m) := ⟨impl_putNum_P0, impl_putNum_O0, [.tmp 0 10000 (.int .u8)], [.tmp 0 10500 (.int .u8)], impl_putNum_k0 N⟩
def impl_putNum_g (N : Nat) : List (Nat × Seg (Rof impl_putNum_m)) := [(0, impl_putNum_S0 N)]
theorem impl_putNum_r0 : RndOk impl_putNum_s Tryz.f115 impl_putNum_m impl_putNum_g 0 impl_putNum_S0 := fun _ _ _ _ => by kernel_rfl
theorem impl_putNum_e : FunOk impl_putNum_s Tryz.f115 impl_putNum_m impl_putNum_g (fun N x => impl_putNum_k N x.1 x.2.1) := fun _ _ => by kernel_rfl
theorem impl_putNum_o : Known Tryz.prog 115 impl_putNum_m := known_v (g := impl_putNum_g) .nil Tryz.func115 (by kernel_rfl) ⟨⟨fun _ _ => rfl, impl_putNum_r0 fuel⟩, trivial⟩ impl_putNum_e (fun _ => rfl)
def impl_putText_k (N : Nat) (x0 : (List Int)) (x1 : ByteArray) : Option (Unit × ((List Int) × Unit)) :=
  obind (impl_putNum (x0, (((slen x1) : Nat) : Int), ())) fun v0 =>
  chk ((plus (llen v0.2.1) (llen (bytesOf x1))) ≤ 140737488355328) (some ((), (lapp v0.2.1 (bytesOf x1)), ())) (none)
def impl_putText (x : ((List Int) × ByteArray × Unit)) : Option (Unit × ((List Int) × Unit)) := impl_putText_k fuel x.1 x.2.1
def impl_putText_m : Con := ⟨[.own (.row true (.int .u8)), .val .str], [(.row true (.int .u8))], (.pair (.row true (.int .u8)) .unit), impl_putText⟩
def impl_putText_s : List (Nat × Con) := [(115, impl_putNum_m)]
def impl_putText_g (N : Nat) : List (Nat × Seg (Rof impl_putText_m)) := []
theorem impl_putText_e : FunOk impl_putText_s Tryz.f114 impl_putText_m impl_putText_g (fun N x => impl_putText_k N x.1 x.2.1) := fun _ _ => by kernel_rfl
theorem impl_putText_o : Known Tryz.prog 114 impl_putText_m := known_v (g := impl_putText_g) (.cons impl_putNum_o .nil) Tryz.func114 (by kernel_rfl) trivial impl_putText_e (fun _ => rfl)
def impl_RecordPack_k (N : Nat) (x0 : L99) : Option (Unit × ((List Int) × Bool × Unit)) :=
  obind (impl_inRange (x0.1, 1, 2, ())) fun v0 =>
  tb (bnot v0.2.1)
  (some ((), [], false, ()))
  (obind (impl_UrlOk (x0.2.1, ())) fun v1 =>
    tb (bnot v1.2.1)
    (some ((), [], false, ()))
    (tb (ieq x0.1 2)
      (tb (bnot (seq x0.2.2.1 (⟨#[]⟩ : ByteArray)))
        (some ((), [], false, ()))
        (obind (impl_putNum ([], x0.1, ())) fun v2 =>
          obind (impl_putText (v2.2.1, x0.2.1, ())) fun v3 =>
          tb (ieq x0.1 1)
          (obind (impl_putText (v3.2.1, x0.2.2.1, ())) fun v4 =>
            some ((), v4.2.1, true, ()))
          (some ((), v3.2.1, true, ()))))
      (obind (impl_putNum ([], x0.1, ())) fun v5 =>
        obind (impl_putText (v5.2.1, x0.2.1, ())) fun v6 =>
        tb (ieq x0.1 1)
        (obind (impl_putText (v6.2.1, x0.2.2.1, ())) fun v7 =>
          some ((), v7.2.1, true, ()))
        (some ((), v6.2.1, true, ())))))
def impl_RecordPack (x : (L99 × Unit)) : Option (Unit × ((List Int) × Bool × Unit)) := impl_RecordPack_k fuel x.1
def impl_RecordPack_m : Con := ⟨[.val S99], [(.row true (.int .u8)), .bool], (.pair (.row true (.int .u8)) (.pair .bool .unit)), impl_RecordPack⟩
def impl_RecordPack_s : List (Nat × Con) := [(55, impl_UrlOk_m), (89, impl_inRange_m), (114, impl_putText_m), (115, impl_putNum_m)]
def impl_RecordPack_g (N : Nat) : List (Nat × Seg (Rof impl_RecordPack_m)) := []
theorem impl_RecordPack_e : FunOk impl_RecordPack_s Tryz.f81 impl_RecordPack_m impl_RecordPack_g (fun N x => impl_RecordPack_k N x.1) := fun _ _ => by kernel_rfl
theorem impl_RecordPack_o : Known Tryz.prog 81 impl_RecordPack_m := known_v (g := impl_RecordPack_g) (.cons impl_UrlOk_o (.cons impl_inRange_o (.cons impl_putText_o (.cons impl_putNum_o .nil)))) Tryz.func81 (by kernel_rfl) trivial impl_RecordPack_e (fun _ => rfl)
def impl_GetNum_P0 : Tpl := ⟨[(0, .one (.leaf (.row false (.int .u8)))), (1, .one (.leaf (.int .i64))), (7, .one (.leaf (.int .i64))), (8, .one (.leaf (.int .i64)))], [], []⟩
def impl_GetNum_O0 : Tpl := ⟨[], [], []⟩
def impl_GetNum_k0 (N : Nat) : Nat → ((Unit × (Unit × Unit)) → Option (Unit × (Int × Int × Bool × Unit))) → (((List Int) × Int × Int × Int × Unit) × (Unit × Unit)) → Option (Unit × (Int × Int × Bool × Unit))
  | 0, _, _ => none
  | n + 1, k, x =>
    tb (ilt x.1.2.2.2.1 9)
    (tb (ilt x.1.2.1 (((llen x.1.1) : Nat) : Int))
      (chk (0 ≤ x.1.2.1) (obind (at? x.1.1 (Int.toNat x.1.2.1)) fun v0 =>
          chk ((wr .u64 (wr .i64 (7 * x.1.2.2.2.1))) < 0) (none) (tb (ilt (wr .i64 v0) 128)
            (tb (ieq (wr .i64 v0) 0)
              (tb (ilt 0 x.1.2.2.2.1)
                (some ((), 0, 0, false, ()))
                (some ((), (borK .i64 x.1.2.2.1 (shlK .i64 (bandK .i64 (wr .i64 v0) 127) (wr .u64 (wr .i64 (7 * x.1.2.2.2.1))))), (wr .i64 (x.1.2.1 + 1)), true, ())))
              (some ((), (borK .i64 x.1.2.2.1 (shlK .i64 (bandK .i64 (wr .i64 v0) 127) (wr .u64 (wr .i64 (7 * x.1.2.2.2.1))))), (wr .i64 (x.1.2.1 + 1)), true, ())))
            (impl_GetNum_k0 N n k ((x.1.1, (wr .i64 (x.1.2.1 + 1)), (borK .i64 x.1.2.2.1 (shlK .i64 (bandK .i64 (wr .i64 v0) 127) (wr .u64 (wr .i64 (7 * x.1.2.2.2.1))))), (wr .i64 (x.1.2.2.2.1 + 1)), ()), (), ())))) (none))
      (k ((), (), ())))
    (k ((), (), ()))
def impl_GetNum_k (N : Nat) (x0 : (List Int)) (x1 : Int) : Option (Unit × (Int × Int × Bool × Unit)) :=
  obind (impl_inRange (x1, 0, (wr .i64 ((((llen x0) : Nat) : Int) - 1)), ())) fun v0 =>
  tb (bnot v0.2.1)
  (some ((), 0, 0, false, ()))
  (impl_GetNum_k0 N N (fun v1 =>
      some ((), 0, 0, false, ())) ((x0, x1, 0, 0, ()), (), ()))
def impl_GetNum (x : ((List Int) × Int × Unit)) : Option (Unit × (Int × Int × Bool × Unit)) := impl_GetNum_k fuel x.1 x.2.1
def impl_GetNum_m : Con := ⟨[.val (.row false (.int .u8)), .val (.int .i64)], [(.int .i64), (.int .i64), .bool], (.pair (.int .i64) (.pair (.int .i64) (.pair .bool .unit))), impl_GetNum⟩
def impl_GetNum_s : List (Nat × Con) := [(89, impl_inRange_m)]
def impl_GetNum_S0 (N : Nat) : Seg (Rof impl_GetNum_m) := ⟨impl_GetNum_P0, impl_GetNum_O0, [], [], impl_GetNum_k0 N⟩
def impl_GetNum_g (N : Nat) : List (Nat × Seg (Rof impl_GetNum_m)) := [(0, impl_GetNum_S0 N)]
theorem impl_GetNum_r0 : RndOk impl_GetNum_s Tryz.f164 impl_GetNum_m impl_GetNum_g 0 impl_GetNum_S0 := fun _ _ _ _ => by kernel_rfl
theorem impl_GetNum_e : FunOk impl_GetNum_s Tryz.f164 impl_GetNum_m impl_GetNum_g (fun N x => impl_GetNum_k N x.1 x.2.1) := fun _ _ => by kernel_rfl
theorem impl_GetNum_o : Known Tryz.prog 164 impl_GetNum_m := known_v (g := impl_GetNum_g) (.cons impl_inRange_o .nil) Tryz.func164 (by kernel_rfl) ⟨⟨fun _ _ => rfl, impl_GetNum_r0 fuel⟩, trivial⟩ impl_GetNum_e (fun _ => rfl)
def impl_getter_num_k (N : Nat) (x0 : L185) : Option ((L185 × Unit) × (Int × Unit)) :=
  obind (impl_GetNum (x0.1, x0.2.1, ())) fun v0 =>
  tb x0.2.2.1
  (some (((x0.1, x0.2.1, true, ()), ()), 0, ()))
  (tb (bnot v0.2.2.2.1)
    (some (((x0.1, x0.2.1, true, ()), ()), 0, ()))
    (some (((x0.1, v0.2.2.1, x0.2.2.1, ()), ()), v0.2.1, ())))
def impl_getter_num (x : (L185 × Unit)) : Option ((L185 × Unit) × (Int × Unit)) := impl_getter_num_k fuel x.1
def impl_getter_num_m : Con := ⟨[.io S185], [(.int .i64)], (.pair (.int .i64) .unit), impl_getter_num⟩
def impl_getter_num_s : List (Nat × Con) := [(164, impl_GetNum_m)]
def impl_getter_num_g (N : Nat) : List (Nat × Seg (Rof impl_getter_num_m)) := []
theorem impl_getter_num_e : FunOk impl_getter_num_s Tryz.f141 impl_getter_num_m impl_getter_num_g (fun N x => impl_getter_num_k N x.1) := fun _ _ => by kernel_rfl
theorem impl_getter_num_o : Known Tryz.prog 141 impl_getter_num_m := known_v (g := impl_getter_num_g) (.cons impl_GetNum_o .nil) Tryz.func141 (by kernel_rfl) trivial impl_getter_num_e (fun _ => rfl)
def impl_GetText_k (N : Nat) (x0 : (List Int)) (x1 : Int) : Option (Unit × (ByteArray × Int × Bool × Unit)) :=
  obind (impl_GetNum (x0, x1, ())) fun v0 =>
  tb (bnot v0.2.2.2.1)
  (some ((), (⟨#[]⟩ : ByteArray), 0, false, ()))
  (tb (ilt (wr .i64 ((((llen x0) : Nat) : Int) - v0.2.2.1)) v0.2.1)
    (some ((), (⟨#[]⟩ : ByteArray), 0, false, ()))
    (chk ((0 ≤ v0.2.2.1) ∧ ((v0.2.2.1 ≤ (wr .i64 (v0.2.2.1 + v0.2.1))) ∧ ((wr .i64 (v0.2.2.1 + v0.2.1)) ≤ (((llen x0) : Nat) : Int)))) (some ((), (strOf (lcut x0 (Int.toNat v0.2.2.1) (Int.toNat (wr .i64 (v0.2.2.1 + v0.2.1))))), (wr .i64 (v0.2.2.1 + v0.2.1)), true, ())) (none)))
def impl_GetText (x : ((List Int) × Int × Unit)) : Option (Unit × (ByteArray × Int × Bool × Unit)) := impl_GetText_k fuel x.1 x.2.1
def impl_GetText_m : Con := ⟨[.val (.row false (.int .u8)), .val (.int .i64)], [.str, (.int .i64), .bool], (.pair .str (.pair (.int .i64) (.pair .bool .unit))), impl_GetText⟩
def impl_GetText_s : List (Nat × Con) := [(164, impl_GetNum_m)]
def impl_GetText_g (N : Nat) : List (Nat × Seg (Rof impl_GetText_m)) := []
theorem impl_GetText_e : FunOk impl_GetText_s Tryz.f166 impl_GetText_m impl_GetText_g (fun N x => impl_GetText_k N x.1 x.2.1) := fun _ _ => by kernel_rfl
theorem impl_GetText_o : Known Tryz.prog 166 impl_GetText_m := known_v (g := impl_GetText_g) (.cons impl_GetNum_o .nil) Tryz.func166 (by kernel_rfl) trivial impl_GetText_e (fun _ => rfl)
def impl_getter_text_k (N : Nat) (x0 : L185) : Option ((L185 × Unit) × (ByteArray × Unit)) :=
  obind (impl_GetText (x0.1, x0.2.1, ())) fun v0 =>
  tb x0.2.2.1
  (some (((x0.1, x0.2.1, true, ()), ()), (⟨#[]⟩ : ByteArray), ()))
  (tb (bnot v0.2.2.2.1)
    (some (((x0.1, x0.2.1, true, ()), ()), (⟨#[]⟩ : ByteArray), ()))
    (some (((x0.1, v0.2.2.1, x0.2.2.1, ()), ()), v0.2.1, ())))
def impl_getter_text (x : (L185 × Unit)) : Option ((L185 × Unit) × (ByteArray × Unit)) := impl_getter_text_k fuel x.1
def impl_getter_text_m : Con := ⟨[.io S185], [.str], (.pair .str .unit), impl_getter_text⟩
def impl_getter_text_s : List (Nat × Con) := [(166, impl_GetText_m)]
def impl_getter_text_g (N : Nat) : List (Nat × Seg (Rof impl_getter_text_m)) := []
theorem impl_getter_text_e : FunOk impl_getter_text_s Tryz.f145 impl_getter_text_m impl_getter_text_g (fun N x => impl_getter_text_k N x.1) := fun _ _ => by kernel_rfl
theorem impl_getter_text_o : Known Tryz.prog 145 impl_getter_text_m := known_v (g := impl_getter_text_g) (.cons impl_GetText_o .nil) Tryz.func145 (by kernel_rfl) trivial impl_getter_text_e (fun _ => rfl)
def impl_RecordRead_k (N : Nat) (x0 : (List Int)) (x1 : Int) : Option (Unit × (L99 × Int × Bool × Unit)) :=
  obind (impl_getter_num ((x0, x1, false, ()), ())) fun v0 =>
  obind (impl_getter_text ((v0.1.1.1, v0.1.1.2.1, v0.1.1.2.2.1, ()), ())) fun v1 =>
  tb (ieq v0.2.1 1)
  (obind (impl_getter_text ((v1.1.1.1, v1.1.1.2.1, v1.1.1.2.2.1, ()), ())) fun v2 =>
    obind (impl_RecordPack ((v0.2.1, v1.2.1, v2.2.1, ()), ())) fun v3 =>
    tb v2.1.1.2.2.1
    (some ((), (0, (⟨#[]⟩ : ByteArray), (⟨#[]⟩ : ByteArray), ()), 0, false, ()))
    (tb (bnot v3.2.2.1)
      (some ((), (0, (⟨#[]⟩ : ByteArray), (⟨#[]⟩ : ByteArray), ()), 0, false, ()))
      (some ((), (v0.2.1, v1.2.1, v2.2.1, ()), v2.1.1.2.1, true, ()))))
  (obind (impl_RecordPack ((v0.2.1, v1.2.1, (⟨#[]⟩ : ByteArray), ()), ())) fun v4 =>
    tb v1.1.1.2.2.1
    (some ((), (0, (⟨#[]⟩ : ByteArray), (⟨#[]⟩ : ByteArray), ()), 0, false, ()))
    (tb (bnot v4.2.2.1)
      (some ((), (0, (⟨#[]⟩ : ByteArray), (⟨#[]⟩ : ByteArray), ()), 0, false, ()))
      (some ((), (v0.2.1, v1.2.1, (⟨#[]⟩ : ByteArray), ()), v1.1.1.2.1, true, ()))))
def impl_RecordRead (x : ((List Int) × Int × Unit)) : Option (Unit × (L99 × Int × Bool × Unit)) := impl_RecordRead_k fuel x.1 x.2.1
def impl_RecordRead_m : Con := ⟨[.val (.row false (.int .u8)), .val (.int .i64)], [T99, (.int .i64), .bool], (.pair T99 (.pair (.int .i64) (.pair .bool .unit))), impl_RecordRead⟩
def impl_RecordRead_s : List (Nat × Con) := [(81, impl_RecordPack_m), (141, impl_getter_num_m), (145, impl_getter_text_m)]
def impl_RecordRead_g (N : Nat) : List (Nat × Seg (Rof impl_RecordRead_m)) := []
theorem impl_RecordRead_e : FunOk impl_RecordRead_s Tryz.f122 impl_RecordRead_m impl_RecordRead_g (fun N x => impl_RecordRead_k N x.1 x.2.1) := fun _ _ => by kernel_rfl
theorem impl_RecordRead_o : Known Tryz.prog 122 impl_RecordRead_m := known_v (g := impl_RecordRead_g) (.cons impl_RecordPack_o (.cons impl_getter_num_o (.cons impl_getter_text_o .nil))) Tryz.func122 (by kernel_rfl) trivial impl_RecordRead_e (fun _ => rfl)
def impl_Records_P0 : Tpl := ⟨[(0, .one (.leaf (.row false (.int .u8)))), (4, .one (.fix (.ref 10000 [] none))), (5, .one (.leaf (.int .i64)))], [], [(10000, (.pair (.int .i64) (.pair .str (.pair .str .unit))))]⟩
def impl_Records_O0 : Tpl := ⟨[(4, .one (.fix (.ref 10500 [] none)))], [], [(10500, (.pair (.int .i64) (.pair .str (.pair .str .unit))))]⟩
def impl_Records_k0 (N : Nat) : Nat → ((Unit × (Unit × ((List (Int × (ByteArray × (ByteArray × Unit)))) × Unit))) → Option (Unit × ((List L99) × Bool × Unit))) → (((List Int) × Int × Unit) × (Unit × ((List (Int × (ByteArray × (ByteArray × Unit)))) × Unit))) → Option (Unit × ((List L99) × Bool × Unit))
  | 0, _, _ => none
  | n + 1, k, x =>
    tb (ilt x.1.2.1 (((llen x.1.1) : Nat) : Int))
    (obind (impl_RecordRead (x.1.1, x.1.2.1, ())) fun v0 =>
      tb (bnot v0.2.2.2.1)
      (some ((), [], false, ()))
      (chk ((plus (llen x.2.2.1) (llen [(v0.2.1.1, v0.2.1.2.1, v0.2.1.2.2.1, ())])) ≤ 3518437208883) (impl_Records_k0 N n k ((x.1.1, v0.2.2.1, ()), (), (lapp x.2.2.1 [(v0.2.1.1, v0.2.1.2.1, v0.2.1.2.2.1, ())]), ())) (none)))
    (k ((), (), x.2.2.1, ()))
def impl_Records_k (N : Nat) (x0 : (List Int)) : Option (Unit × ((List L99) × Bool × Unit)) :=
  impl_Records_k0 N N (fun v0 =>
    some ((), v0.2.2.1, true, ())) ((x0, 0, ()), (), [], ())
def impl_Records (x : ((List Int) × Unit)) : Option (Unit × ((List L99) × Bool × Unit)) := impl_Records_k fuel x.1
def impl_Records_m : Con := ⟨[.val (.row false (.int .u8))], [(.row true T99), .bool], (.pair (.row true T99) (.pair .bool .unit)), impl_Records⟩
def impl_Records_s : List (Nat × Con) := [(122, impl_RecordRead_m)]
def impl_Records_S0 (N : Nat) : Seg (Rof impl_Records_m) := ⟨impl_Records_P0, impl_Records_O0, [.tmp 4 10000 (.pair (.int .i64) (.pair .str (.pair .str .unit)))], [.tmp 4 10500 (.pair (.int .i64) (.pair .str (.pair .str .unit)))], impl_Records_k0 N⟩
def impl_Records_g (N : Nat) : List (Nat × Seg (Rof impl_Records_m)) := [(0, impl_Records_S0 N)]
theorem impl_Records_r0 : RndOk impl_Records_s Tryz.f86 impl_Records_m impl_Records_g 0 impl_Records_S0 := fun _ _ _ _ => by kernel_rfl
theorem impl_Records_e : FunOk impl_Records_s Tryz.f86 impl_Records_m impl_Records_g (fun N x => impl_Records_k N x.1) := fun _ _ => by kernel_rfl
theorem impl_Records_o : Known Tryz.prog 86 impl_Records_m := known_v (g := impl_Records_g) (.cons impl_RecordRead_o .nil) Tryz.func86 (by kernel_rfl) ⟨⟨fun _ _ => rfl, impl_Records_r0 fuel⟩, trivial⟩ impl_Records_e (fun _ => rfl)
def impl_entryAt_P0 : Tpl := ⟨[(0, .one (.leaf (.row false (.pair .str (.pair .str .unit))))), (1, .one (.leaf .str)), (6, .one (.leaf (.int .i64)))], [], []⟩
def impl_entryAt_O0 : Tpl := ⟨[(0, .one (.leaf (.row false (.pair .str (.pair .str .unit))))), (1, .one (.leaf .str)), (6, .one (.leaf (.int .i64)))], [], []⟩
def impl_entryAt_k0 (N : Nat) : Nat → ((((List (ByteArray × (ByteArray × Unit))) × ByteArray × Int × Unit) × (Unit × Unit)) → Option (Unit × (Int × Bool × Unit))) → (((List (ByteArray × (ByteArray × Unit))) × ByteArray × Int × Unit) × (Unit × Unit)) → Option (Unit × (Int × Bool × Unit))
  | 0, _, _ => none
  | n + 1, k, x =>
    tb (ilt x.1.2.2.1 (((llen x.1.1) : Nat) : Int))
    (chk (0 ≤ x.1.2.2.1) (obind (at? x.1.1 (Int.toNat x.1.2.2.1)) fun v0 =>
        tb (slt v0.1 x.1.2.1)
        (impl_entryAt_k0 N n k ((x.1.1, x.1.2.1, (wr .i64 (x.1.2.2.1 + 1)), ()), (), ()))
        (k ((x.1.1, x.1.2.1, x.1.2.2.1, ()), (), ()))) (none))
    (k ((x.1.1, x.1.2.1, x.1.2.2.1, ()), (), ()))
def impl_entryAt_k (N : Nat) (x0 : (List L80)) (x1 : ByteArray) : Option (Unit × (Int × Bool × Unit)) :=
  impl_entryAt_k0 N N (fun v0 =>
    tb (ilt v0.1.2.2.1 (((llen v0.1.1) : Nat) : Int))
    (chk (0 ≤ v0.1.2.2.1) (obind (at? v0.1.1 (Int.toNat v0.1.2.2.1)) fun v1 =>
        some ((), v0.1.2.2.1, (seq v1.1 v0.1.2.1), ())) (none))
    (some ((), v0.1.2.2.1, false, ()))) ((x0, x1, 0, ()), (), ())
def impl_entryAt (x : ((List L80) × ByteArray × Unit)) : Option (Unit × (Int × Bool × Unit)) := impl_entryAt_k fuel x.1 x.2.1
def impl_entryAt_m : Con := ⟨[.val (.row false S80), .val .str], [(.int .i64), .bool], (.pair (.int .i64) (.pair .bool .unit)), impl_entryAt⟩
def impl_entryAt_s : List (Nat × Con) := []
def impl_entryAt_S0 (N : Nat) : Seg (Rof impl_entryAt_m) := ⟨impl_entryAt_P0, impl_entryAt_O0, [], [], impl_entryAt_k0 N⟩
def impl_entryAt_g (N : Nat) : List (Nat × Seg (Rof impl_entryAt_m)) := [(0, impl_entryAt_S0 N)]
theorem impl_entryAt_r0 : RndOk impl_entryAt_s Tryz.f123 impl_entryAt_m impl_entryAt_g 0 impl_entryAt_S0 := fun _ _ _ _ => by kernel_rfl
theorem impl_entryAt_e : FunOk impl_entryAt_s Tryz.f123 impl_entryAt_m impl_entryAt_g (fun N x => impl_entryAt_k N x.1 x.2.1) := fun _ _ => by kernel_rfl
theorem impl_entryAt_o : Known Tryz.prog 123 impl_entryAt_m := known_v (g := impl_entryAt_g) .nil Tryz.func123 (by kernel_rfl) ⟨⟨fun _ _ => rfl, impl_entryAt_r0 fuel⟩, trivial⟩ impl_entryAt_e (fun _ => rfl)
def impl_IndexOf_P0 : Tpl := ⟨[(3, .one (.fix (.ref 10000 [] none))), (8, .one (.leaf (.row false (.pair (.int .i64) (.pair .str (.pair .str .unit)))))), (9, .one (.leaf (.int .i64))), (10, .one (.leaf (.int .i64)))], [], [(10000, (.pair .str (.pair .str .unit)))]⟩
def impl_IndexOf_O0 : Tpl := ⟨[(3, .one (.fix (.ref 10500 [] none)))], [], [(10500, (.pair .str (.pair .str .unit)))]⟩
def impl_IndexOf_k0 (N : Nat) : Nat → ((Unit × (Unit × ((List (ByteArray × (ByteArray × Unit))) × Unit))) → Option (Unit × ((List L80) × Unit))) → (((List (Int × (ByteArray × (ByteArray × Unit)))) × Int × Int × Unit) × (Unit × ((List (ByteArray × (ByteArray × Unit))) × Unit))) → Option (Unit × ((List L80) × Unit))
  | 0, _, _ => none
  | n + 1, k, x =>
    tb (ilt x.1.2.2.1 x.1.2.1)
    (chk (0 ≤ x.1.2.2.1) (obind (at? x.1.1 (Int.toNat x.1.2.2.1)) fun v0 =>
        obind (impl_entryAt (x.2.2.1, v0.2.1, ())) fun v1 =>
        tb v1.2.2.1
        (obind (slices_Delete_Entry (x.2.2.1, v1.2.1, (wr .i64 (v1.2.1 + 1)), ())) fun v2 =>
          tb (ieq v0.1 1)
          (obind (slices_Insert_Entry (v2.2.1, v1.2.1, [(v0.2.1, v0.2.2.1, ())], ())) fun v3 =>
            impl_IndexOf_k0 N n k ((x.1.1, x.1.2.1, (wr .i64 (x.1.2.2.1 + 1)), ()), (), v3.2.1, ()))
          (impl_IndexOf_k0 N n k ((x.1.1, x.1.2.1, (wr .i64 (x.1.2.2.1 + 1)), ()), (), v2.2.1, ())))
        (tb (ieq v0.1 1)
          (obind (slices_Insert_Entry (x.2.2.1, v1.2.1, [(v0.2.1, v0.2.2.1, ())], ())) fun v4 =>
            impl_IndexOf_k0 N n k ((x.1.1, x.1.2.1, (wr .i64 (x.1.2.2.1 + 1)), ()), (), v4.2.1, ()))
          (impl_IndexOf_k0 N n k ((x.1.1, x.1.2.1, (wr .i64 (x.1.2.2.1 + 1)), ()), (), x.2.2.1, ())))) (none))
    (k ((), (), x.2.2.1, ()))
def impl_IndexOf_k (N : Nat) (x0 : (List L99)) : Option (Unit × ((List L80) × Unit)) :=
  impl_IndexOf_k0 N N (fun v0 =>
    some ((), v0.2.2.1, ())) ((x0, (((llen x0) : Nat) : Int), 0, ()), (), [], ())
def impl_IndexOf (x : ((List L99) × Unit)) : Option (Unit × ((List L80) × Unit)) := impl_IndexOf_k fuel x.1
def impl_IndexOf_m : Con := ⟨[.val (.row false S99)], [(.row true T80)], (.pair (.row true T80) .unit), impl_IndexOf⟩
def impl_IndexOf_s : List (Nat × Con) := [(123, impl_entryAt_m), (124, slices_Delete_Entry_m), (125, slices_Insert_Entry_m)]
def impl_IndexOf_S0 (N : Nat) : Seg (Rof impl_IndexOf_m) := ⟨impl_IndexOf_P0, impl_IndexOf_O0, [.tmp 3 10000 (.pair .str (.pair .str .unit))], [.tmp 3 10500 (.pair .str (.pair .str .unit))], impl_IndexOf_k0 N⟩
def impl_IndexOf_g (N : Nat) : List (Nat × Seg (Rof impl_IndexOf_m)) := [(0, impl_IndexOf_S0 N)]
theorem impl_IndexOf_r0 : RndOk impl_IndexOf_s Tryz.f87 impl_IndexOf_m impl_IndexOf_g 0 impl_IndexOf_S0 := fun _ _ _ _ => by kernel_rfl
theorem impl_IndexOf_e : FunOk impl_IndexOf_s Tryz.f87 impl_IndexOf_m impl_IndexOf_g (fun N x => impl_IndexOf_k N x.1) := fun _ _ => by kernel_rfl
theorem impl_IndexOf_o : Known Tryz.prog 87 impl_IndexOf_m := known_v (g := impl_IndexOf_g) (.cons impl_entryAt_o (.cons slices_Delete_Entry_o (.cons slices_Insert_Entry_o .nil))) Tryz.func87 (by kernel_rfl) ⟨⟨fun _ _ => rfl, impl_IndexOf_r0 fuel⟩, trivial⟩ impl_IndexOf_e (fun _ => rfl)
def impl_listOf_k (N : Nat) (x0 : L34) (x1 : L35) : Option (Unit × ((List L80) × Bool × Unit)) :=
  obind (impl_AreaGet ((x0.1, x0.2.1, ()), x1.2.1, 0, x1.2.2.1, ())) fun v0 =>
  tb (bnot v0.2.2.1)
  (some ((), [], false, ()))
  (obind (impl_Records (v0.2.1, ())) fun v1 =>
    obind (impl_IndexOf (v1.2.1, ())) fun v2 =>
    some ((), v2.2.1, v1.2.2.1, ()))
def impl_listOf (x : (L34 × L35 × Unit)) : Option (Unit × ((List L80) × Bool × Unit)) := impl_listOf_k fuel x.1 x.2.1
def impl_listOf_m : Con := ⟨[.val S34, .val S35], [(.row true T80), .bool], (.pair (.row true T80) (.pair .bool .unit)), impl_listOf⟩
def impl_listOf_s : List (Nat × Con) := [(85, impl_AreaGet_m), (86, impl_Records_m), (87, impl_IndexOf_m)]
def impl_listOf_g (N : Nat) : List (Nat × Seg (Rof impl_listOf_m)) := []
theorem impl_listOf_e : FunOk impl_listOf_s Tryz.f46 impl_listOf_m impl_listOf_g (fun N x => impl_listOf_k N x.1 x.2.1) := fun _ _ => by kernel_rfl
theorem impl_listOf_o : Known Tryz.prog 46 impl_listOf_m := known_v (g := impl_listOf_g) (.cons impl_AreaGet_o (.cons impl_Records_o (.cons impl_IndexOf_o .nil))) Tryz.func46 (by kernel_rfl) trivial impl_listOf_e (fun _ => rfl)
def impl_headOk_k (N : Nat) (x0 : L35) : Option (Unit × (Bool × Unit)) :=
  obind (impl_inRange (x0.1, 1, 1000000000, ())) fun v0 =>
  tb v0.2.1
  (obind (impl_isArea (x0.2.1, ())) fun v1 =>
    tb v1.2.1
    (obind (impl_inRange (x0.2.2.1, 0, 4096, ())) fun v2 =>
      some ((), v2.2.1, ()))
    (some ((), false, ())))
  (some ((), false, ()))
def impl_headOk (x : (L35 × Unit)) : Option (Unit × (Bool × Unit)) := impl_headOk_k fuel x.1
def impl_headOk_m : Con := ⟨[.val S35], [.bool], (.pair .bool .unit), impl_headOk⟩
def impl_headOk_s : List (Nat × Con) := [(89, impl_inRange_m), (109, impl_isArea_m)]
def impl_headOk_g (N : Nat) : List (Nat × Seg (Rof impl_headOk_m)) := []
theorem impl_headOk_e : FunOk impl_headOk_s Tryz.f76 impl_headOk_m impl_headOk_g (fun N x => impl_headOk_k N x.1) := fun _ _ => by kernel_rfl
theorem impl_headOk_o : Known Tryz.prog 76 impl_headOk_m := known_v (g := impl_headOk_g) (.cons impl_inRange_o (.cons impl_isArea_o .nil)) Tryz.func76 (by kernel_rfl) trivial impl_headOk_e (fun _ => rfl)
def impl_HeadPack_k (N : Nat) (x0 : L35) : Option (Unit × (ByteArray × Bool × Unit)) :=
  obind (impl_headOk ((x0.1, x0.2.1, x0.2.2.1, ()), ())) fun v0 =>
  tb (bnot v0.2.1)
  (some ((), (⟨#[]⟩ : ByteArray), false, ()))
  (obind (impl_putNum ([], x0.1, ())) fun v1 =>
    obind (impl_putNum (v1.2.1, x0.2.1, ())) fun v2 =>
    obind (impl_putNum (v2.2.1, x0.2.2.1, ())) fun v3 =>
    obind (strings_Repeat ((⟨#[0]⟩ : ByteArray), (wr .i64 (64 - (((llen v3.2.1) : Nat) : Int))), ())) fun v4 =>
    chk ((plus (slen (strOf v3.2.1)) (slen v4.2.1)) < slim) (some ((), (sapp (strOf v3.2.1) v4.2.1), true, ())) (none))
def impl_HeadPack (x : (L35 × Unit)) : Option (Unit × (ByteArray × Bool × Unit)) := impl_HeadPack_k fuel x.1
def impl_HeadPack_m : Con := ⟨[.val S35], [.str, .bool], (.pair .str (.pair .bool .unit)), impl_HeadPack⟩
def impl_HeadPack_s : List (Nat × Con) := [(76, impl_headOk_m), (115, impl_putNum_m), (165, strings_Repeat_m)]
def impl_HeadPack_g (N : Nat) : List (Nat × Seg (Rof impl_HeadPack_m)) := []
theorem impl_HeadPack_e : FunOk impl_HeadPack_s Tryz.f142 impl_HeadPack_m impl_HeadPack_g (fun N x => impl_HeadPack_k N x.1) := fun _ _ => by kernel_rfl
theorem impl_HeadPack_o : Known Tryz.prog 142 impl_HeadPack_m := known_v (g := impl_HeadPack_g) (.cons impl_headOk_o (.cons impl_putNum_o (.cons strings_Repeat_o .nil))) Tryz.func142 (by kernel_rfl) trivial impl_HeadPack_e (fun _ => rfl)
def impl_HeadRead_k (N : Nat) (x0 : ByteArray) : Option (Unit × (L35 × Bool × Unit)) :=
  obind (impl_getter_num (((bytesOf x0), 0, false, ()), ())) fun v0 =>
  obind (impl_getter_num ((v0.1.1.1, v0.1.1.2.1, v0.1.1.2.2.1, ()), ())) fun v1 =>
  obind (impl_getter_num ((v1.1.1.1, v1.1.1.2.1, v1.1.1.2.2.1, ()), ())) fun v2 =>
  obind (impl_HeadPack ((v0.2.1, v1.2.1, v2.2.1, ()), ())) fun v3 =>
  tb v2.1.1.2.2.1
  (some ((), (0, 0, 0, ()), false, ()))
  (tb (bnot v3.2.2.1)
    (some ((), (0, 0, 0, ()), false, ()))
    (tb (bnot (seq v3.2.1 x0))
      (some ((), (0, 0, 0, ()), false, ()))
      (some ((), (v0.2.1, v1.2.1, v2.2.1, ()), true, ()))))
def impl_HeadRead (x : (ByteArray × Unit)) : Option (Unit × (L35 × Bool × Unit)) := impl_HeadRead_k fuel x.1
def impl_HeadRead_m : Con := ⟨[.val .str], [T35, .bool], (.pair T35 (.pair .bool .unit)), impl_HeadRead⟩
def impl_HeadRead_s : List (Nat × Con) := [(141, impl_getter_num_m), (142, impl_HeadPack_m)]
def impl_HeadRead_g (N : Nat) : List (Nat × Seg (Rof impl_HeadRead_m)) := []
theorem impl_HeadRead_e : FunOk impl_HeadRead_s Tryz.f110 impl_HeadRead_m impl_HeadRead_g (fun N x => impl_HeadRead_k N x.1) := fun _ _ => by kernel_rfl
theorem impl_HeadRead_o : Known Tryz.prog 110 impl_HeadRead_m := known_v (g := impl_HeadRead_g) (.cons impl_getter_num_o (.cons impl_HeadPack_o .nil)) Tryz.func110 (by kernel_rfl) trivial impl_HeadRead_e (fun _ => rfl)
def impl_HeadNow_P0 : Tpl := ⟨[(1, .one (.fix (.vptr 1 0))), (2, .one (.fix (.vptr 2 0))), (3, .one (.fix (.vptr 3 0))), (11, .one (.leaf (.int .i64)))], [(1, [.leaf (.row false .str), .leaf (.row false (.pair (.int .i64) (.pair .str .unit)))]), (2, [.leaf (.int .i64), .leaf (.int .i64), .leaf (.int .i64)]), (3, [.leaf (.int .i64), .leaf (.int .i64), .leaf (.int .i64)])], []⟩
def impl_HeadNow_O0 : Tpl := ⟨[(2, .one (.fix (.vptr 2 0))), (3, .one (.fix (.vptr 3 0)))], [(2, [.leaf (.int .i64), .leaf (.int .i64), .leaf (.int .i64)]), (3, [.leaf (.int .i64), .leaf (.int .i64), .leaf (.int .i64)])], []⟩
def impl_HeadNow_k0 (N : Nat) : Nat → ((Unit × (((Int × Int × Int × Unit) × (Int × Int × Int × Unit) × Unit) × Unit)) → Option (Unit × (L35 × Unit))) → ((Int × Unit) × ((((List ByteArray) × (List (Int × (ByteArray × Unit))) × Unit) × (Int × Int × Int × Unit) × (Int × Int × Int × Unit) × Unit) × Unit)) → Option (Unit × (L35 × Unit))
  | 0, _, _ => none
  | n + 1, k, x =>
    tb (ilt x.1.1 2)
    (obind (impl_Disk_sector ((x.2.1.1.1, x.2.1.1.2.1, ()), x.1.1, ())) fun v0 =>
      obind (impl_HeadRead (v0.2.1, ())) fun v1 =>
      tb v1.2.2.1
      (tb (ilt x.2.1.2.2.1.1 v1.2.1.1)
        (impl_HeadNow_k0 N n k (((wr .i64 (x.1.1 + 1)), ()), ((x.2.1.1.1, x.2.1.1.2.1, ()), (x.2.1.2.1.1, x.2.1.2.1.2.1, x.2.1.2.1.2.2.1, ()), (v1.2.1.1, v1.2.1.2.1, v1.2.1.2.2.1, ()), ()), ()))
        (impl_HeadNow_k0 N n k (((wr .i64 (x.1.1 + 1)), ()), ((x.2.1.1.1, x.2.1.1.2.1, ()), (x.2.1.2.1.1, x.2.1.2.1.2.1, x.2.1.2.1.2.2.1, ()), (x.2.1.2.2.1.1, x.2.1.2.2.1.2.1, x.2.1.2.2.1.2.2.1, ()), ()), ())))
      (impl_HeadNow_k0 N n k (((wr .i64 (x.1.1 + 1)), ()), ((x.2.1.1.1, x.2.1.1.2.1, ()), (x.2.1.2.1.1, x.2.1.2.1.2.1, x.2.1.2.1.2.2.1, ()), (x.2.1.2.2.1.1, x.2.1.2.2.1.2.1, x.2.1.2.2.1.2.2.1, ()), ()), ())))
    (k ((), ((x.2.1.2.1.1, x.2.1.2.1.2.1, x.2.1.2.1.2.2.1, ()), (x.2.1.2.2.1.1, x.2.1.2.2.1.2.1, x.2.1.2.2.1.2.2.1, ()), ()), ()))
def impl_HeadNow_k (N : Nat) (x0 : L34) : Option (Unit × (L35 × Unit)) :=
  obind (impl_DiskOk ((x0.1, x0.2.1, ()), ())) fun v0 =>
  tb (bnot v0.2.1)
  (some ((), (0, 0, 0, ()), ()))
  (impl_HeadNow_k0 N N (fun v1 =>
      some ((), (v1.2.1.2.1.1, v1.2.1.2.1.2.1, v1.2.1.2.1.2.2.1, ()), ())) ((0, ()), ((x0.1, x0.2.1, ()), (0, 0, 0, ()), (0, 0, 0, ()), ()), ()))
def impl_HeadNow (x : (L34 × Unit)) : Option (Unit × (L35 × Unit)) := impl_HeadNow_k fuel x.1
def impl_HeadNow_m : Con := ⟨[.val S34], [T35], (.pair T35 .unit), impl_HeadNow⟩
def impl_HeadNow_s : List (Nat × Con) := [(75, impl_DiskOk_m), (110, impl_HeadRead_m), (111, impl_Disk_sector_m)]
def impl_HeadNow_S0 (N : Nat) : Seg (Rof impl_HeadNow_m) := ⟨impl_HeadNow_P0, impl_HeadNow_O0, [], [], impl_HeadNow_k0 N⟩
def impl_HeadNow_g (N : Nat) : List (Nat × Seg (Rof impl_HeadNow_m)) := [(0, impl_HeadNow_S0 N)]
theorem impl_HeadNow_r0 : RndOk impl_HeadNow_s Tryz.f77 impl_HeadNow_m impl_HeadNow_g 0 impl_HeadNow_S0 := fun _ _ _ _ => by kernel_rfl
theorem impl_HeadNow_e : FunOk impl_HeadNow_s Tryz.f77 impl_HeadNow_m impl_HeadNow_g (fun N x => impl_HeadNow_k N x.1) := fun _ _ => by kernel_rfl
theorem impl_HeadNow_o : Known Tryz.prog 77 impl_HeadNow_m := known_v (g := impl_HeadNow_g) (.cons impl_DiskOk_o (.cons impl_HeadRead_o (.cons impl_Disk_sector_o .nil))) Tryz.func77 (by kernel_rfl) ⟨⟨fun _ _ => rfl, impl_HeadNow_r0 fuel⟩, trivial⟩ impl_HeadNow_e (fun _ => rfl)
def slices_Equal_Entry_P0 : Tpl := ⟨[(0, .one (.leaf (.row false (.pair .str (.pair .str .unit))))), (1, .one (.leaf (.row false (.pair .str (.pair .str .unit))))), (12, .one (.leaf (.int .i64))), (13, .one (.leaf (.int .i64)))], [], []⟩
def slices_Equal_Entry_O0 : Tpl := ⟨[], [], []⟩
def slices_Equal_Entry_k0 (N : Nat) : Nat → ((Unit × (Unit × Unit)) → Option (Unit × (Bool × Unit))) → (((List (ByteArray × (ByteArray × Unit))) × (List (ByteArray × (ByteArray × Unit))) × Int × Int × Unit) × (Unit × Unit)) → Option (Unit × (Bool × Unit))
  | 0, _, _ => none
  | n + 1, k, x =>
    tb (ilt x.1.2.2.2.1 x.1.2.2.1)
    (chk (0 ≤ x.1.2.2.2.1) (obind (at? x.1.1 (Int.toNat x.1.2.2.2.1)) fun v0 =>
        chk (0 ≤ x.1.2.2.2.1) (obind (at? x.1.2.1 (Int.toNat x.1.2.2.2.1)) fun v1 =>
          tb (bnot (band (seq v0.1 v1.1) (band (seq v0.2.1 v1.2.1) true)))
          (some ((), false, ()))
          (slices_Equal_Entry_k0 N n k ((x.1.1, x.1.2.1, x.1.2.2.1, (wr .i64 (x.1.2.2.2.1 + 1)), ()), (), ()))) (none)) (none))
    (k ((), (), ()))
def slices_Equal_Entry_k (N : Nat) (x0 : (List L80)) (x1 : (List L80)) : Option (Unit × (Bool × Unit)) :=
  tb (bnot (ieq (((llen x0) : Nat) : Int) (((llen x1) : Nat) : Int)))
  (some ((), false, ()))
  (slices_Equal_Entry_k0 N N (fun v0 =>
      some ((), true, ())) ((x0, x1, (((llen x0) : Nat) : Int), 0, ()), (), ()))
def slices_Equal_Entry (x : ((List L80) × (List L80) × Unit)) : Option (Unit × (Bool × Unit)) := slices_Equal_Entry_k fuel x.1 x.2.1
def slices_Equal_Entry_m : Con := ⟨[.val (.row false S80), .val (.row false S80)], [.bool], (.pair .bool .unit), slices_Equal_Entry⟩
def slices_Equal_Entry_s : List (Nat × Con) := []
def slices_Equal_Entry_S0 (N : Nat) : Seg (Rof slices_Equal_Entry_m) := ⟨slices_Equal_Entry_P0, slices_Equal_Entry_O0, [], [], slices_Equal_Entry_k0 N⟩
def slices_Equal_Entry_g (N : Nat) : List (Nat × Seg (Rof slices_Equal_Entry_m)) := [(0, slices_Equal_Entry_S0 N)]
theorem slices_Equal_Entry_r0 : RndOk slices_Equal_Entry_s Tryz.f78 slices_Equal_Entry_m slices_Equal_Entry_g 0 slices_Equal_Entry_S0 := fun _ _ _ _ => by kernel_rfl
theorem slices_Equal_Entry_e : FunOk slices_Equal_Entry_s Tryz.f78 slices_Equal_Entry_m slices_Equal_Entry_g (fun N x => slices_Equal_Entry_k N x.1 x.2.1) := fun _ _ => by kernel_rfl
theorem slices_Equal_Entry_o : Known Tryz.prog 78 slices_Equal_Entry_m := known_v (g := slices_Equal_Entry_g) .nil Tryz.func78 (by kernel_rfl) ⟨⟨fun _ _ => rfl, slices_Equal_Entry_r0 fuel⟩, trivial⟩ slices_Equal_Entry_e (fun _ => rfl)
def impl_ArchiveOk_k (N : Nat) (x0 : L38) : Option (Unit × (Bool × Unit)) :=
  tb (ilt 0 (((llen x0.2.1.2.1) : Nat) : Int))
  (some ((), false, ()))
  (obind (impl_DiskOk ((x0.2.1.1, x0.2.1.2.1, ()), ())) fun v0 =>
    tb (bnot v0.2.1)
    (some ((), false, ()))
    (tb (bnot x0.1)
      (tb (band (ieq x0.2.2.1.1 0) (band (ieq x0.2.2.1.2.1 0) (band (ieq x0.2.2.1.2.2.1 0) true)))
        (some ((), (ieq (((llen x0.2.2.2.1) : Nat) : Int) 0), ()))
        (some ((), false, ())))
      (obind (impl_headOk ((x0.2.2.1.1, x0.2.2.1.2.1, x0.2.2.1.2.2.1, ()), ())) fun v1 =>
        tb (bnot v1.2.1)
        (some ((), false, ()))
        (obind (impl_HeadNow ((x0.2.1.1, x0.2.1.2.1, ()), ())) fun v2 =>
          tb (bnot (band (ieq v2.2.1.1 x0.2.2.1.1) (band (ieq v2.2.1.2.1 x0.2.2.1.2.1) (band (ieq v2.2.1.2.2.1 x0.2.2.1.2.2.1) true))))
          (some ((), false, ()))
          (obind (impl_listOf ((x0.2.1.1, x0.2.1.2.1, ()), (x0.2.2.1.1, x0.2.2.1.2.1, x0.2.2.1.2.2.1, ()), ())) fun v3 =>
            tb v3.2.2.1
            (obind (slices_Equal_Entry (v3.2.1, x0.2.2.2.1, ())) fun v4 =>
              some ((), v4.2.1, ()))
            (some ((), false, ())))))))
def impl_ArchiveOk (x : (L38 × Unit)) : Option (Unit × (Bool × Unit)) := impl_ArchiveOk_k fuel x.1
def impl_ArchiveOk_m : Con := ⟨[.val S38], [.bool], (.pair .bool .unit), impl_ArchiveOk⟩
def impl_ArchiveOk_s : List (Nat × Con) := [(46, impl_listOf_m), (75, impl_DiskOk_m), (76, impl_headOk_m), (77, impl_HeadNow_m), (78, slices_Equal_Entry_m)]
def impl_ArchiveOk_g (N : Nat) : List (Nat × Seg (Rof impl_ArchiveOk_m)) := []
theorem impl_ArchiveOk_e : FunOk impl_ArchiveOk_s Tryz.f42 impl_ArchiveOk_m impl_ArchiveOk_g (fun N x => impl_ArchiveOk_k N x.1) := fun _ _ => by kernel_rfl
theorem impl_ArchiveOk_o : Known Tryz.prog 42 impl_ArchiveOk_m := known_v (g := impl_ArchiveOk_g) (.cons impl_listOf_o (.cons impl_DiskOk_o (.cons impl_headOk_o (.cons impl_HeadNow_o (.cons slices_Equal_Entry_o .nil))))) Tryz.func42 (by kernel_rfl) trivial impl_ArchiveOk_e (fun _ => rfl)
def impl_upCode_k (N : Nat) (x0 : L38) : Option (Unit × (Int × Unit)) :=
  obind (impl_ArchiveOk ((x0.1, (x0.2.1.1, x0.2.1.2.1, ()), (x0.2.2.1.1, x0.2.2.1.2.1, x0.2.2.1.2.2.1, ()), x0.2.2.2.1, ()), ())) fun v0 =>
  tb (bnot v0.2.1)
  (some ((), 1, ()))
  (tb (bnot x0.1)
    (some ((), 2, ()))
    (some ((), 0, ())))
def impl_upCode (x : (L38 × Unit)) : Option (Unit × (Int × Unit)) := impl_upCode_k fuel x.1
def impl_upCode_m : Con := ⟨[.val S38], [(.int .i64)], (.pair (.int .i64) .unit), impl_upCode⟩
def impl_upCode_s : List (Nat × Con) := [(42, impl_ArchiveOk_m)]
def impl_upCode_g (N : Nat) : List (Nat × Seg (Rof impl_upCode_m)) := []
theorem impl_upCode_e : FunOk impl_upCode_s Tryz.f20 impl_upCode_m impl_upCode_g (fun N x => impl_upCode_k N x.1) := fun _ _ => by kernel_rfl
theorem impl_upCode_o : Known Tryz.prog 20 impl_upCode_m := known_v (g := impl_upCode_g) (.cons impl_ArchiveOk_o .nil) Tryz.func20 (by kernel_rfl) trivial impl_upCode_e (fun _ => rfl)
end Go.Proofs.YtjiichnhdhlegaaGreat.V
set_option maxRecDepth 100000
namespace Go.Proofs.YtjiichnhdhlegaaGreat.V
open Go Go.Proofs
def impl_copyDisk_k (N : Nat) (x0 : L34) : Option (Unit × (L34 × Unit)) :=
  obind (slices_Clone_string (x0.1, ())) fun v0 =>
  obind (slices_Clone_Put (x0.2.1, ())) fun v1 =>
  some ((), (v0.2.1, v1.2.1, ()), ())
def impl_copyDisk (x : (L34 × Unit)) : Option (Unit × (L34 × Unit)) := impl_copyDisk_k fuel x.1
def impl_copyDisk_m : Con := ⟨[.val S34], [T34], (.pair T34 .unit), impl_copyDisk⟩
def impl_copyDisk_s : List (Nat × Con) := [(112, slices_Clone_string_m), (113, slices_Clone_Put_m)]
def impl_copyDisk_g (N : Nat) : List (Nat × Seg (Rof impl_copyDisk_m)) := []
theorem impl_copyDisk_e : FunOk impl_copyDisk_s Tryz.f79 impl_copyDisk_m impl_copyDisk_g (fun N x => impl_copyDisk_k N x.1) := fun _ _ => by kernel_rfl
theorem impl_copyDisk_o : Known Tryz.prog 79 impl_copyDisk_m := known_v (g := impl_copyDisk_g) (.cons slices_Clone_string_o (.cons slices_Clone_Put_o .nil)) Tryz.func79 (by kernel_rfl) trivial impl_copyDisk_e (fun _ => rfl)
def impl_copyArchive_k (N : Nat) (x0 : L38) : Option (Unit × (L38 × Unit)) :=
  obind (impl_copyDisk ((x0.2.1.1, x0.2.1.2.1, ()), ())) fun v0 =>
  obind (slices_Clone_Entry (x0.2.2.2.1, ())) fun v1 =>
  some ((), (x0.1, (v0.2.1.1, v0.2.1.2.1, ()), (x0.2.2.1.1, x0.2.2.1.2.1, x0.2.2.1.2.2.1, ()), v1.2.1, ()), ())
def impl_copyArchive (x : (L38 × Unit)) : Option (Unit × (L38 × Unit)) := impl_copyArchive_k fuel x.1
def impl_copyArchive_m : Con := ⟨[.val S38], [T38], (.pair T38 .unit), impl_copyArchive⟩
def impl_copyArchive_s : List (Nat × Con) := [(79, impl_copyDisk_m), (80, slices_Clone_Entry_m)]
def impl_copyArchive_g (N : Nat) : List (Nat × Seg (Rof impl_copyArchive_m)) := []
theorem impl_copyArchive_e : FunOk impl_copyArchive_s Tryz.f43 impl_copyArchive_m impl_copyArchive_g (fun N x => impl_copyArchive_k N x.1) := fun _ _ => by kernel_rfl
theorem impl_copyArchive_o : Known Tryz.prog 43 impl_copyArchive_m := known_v (g := impl_copyArchive_g) (.cons impl_copyDisk_o (.cons slices_Clone_Entry_o .nil)) Tryz.func43 (by kernel_rfl) trivial impl_copyArchive_e (fun _ => rfl)
def impl_refused_k (N : Nat) (x0 : L38) (x1 : Int) : Option (Unit × (L38 × Int × Unit)) :=
  tb (ieq x1 1)
  (some ((), (false, ([], [], ()), (0, 0, 0, ()), [], ()), x1, ()))
  (obind (impl_copyArchive ((x0.1, (x0.2.1.1, x0.2.1.2.1, ()), (x0.2.2.1.1, x0.2.2.1.2.1, x0.2.2.1.2.2.1, ()), x0.2.2.2.1, ()), ())) fun v0 =>
    some ((), (v0.2.1.1, (v0.2.1.2.1.1, v0.2.1.2.1.2.1, ()), (v0.2.1.2.2.1.1, v0.2.1.2.2.1.2.1, v0.2.1.2.2.1.2.2.1, ()), v0.2.1.2.2.2.1, ()), x1, ()))
def impl_refused (x : (L38 × Int × Unit)) : Option (Unit × (L38 × Int × Unit)) := impl_refused_k fuel x.1 x.2.1
def impl_refused_m : Con := ⟨[.val S38, .val (.int .i64)], [T38, (.int .i64)], (.pair T38 (.pair (.int .i64) .unit)), impl_refused⟩
def impl_refused_s : List (Nat × Con) := [(43, impl_copyArchive_m)]
def impl_refused_g (N : Nat) : List (Nat × Seg (Rof impl_refused_m)) := []
theorem impl_refused_e : FunOk impl_refused_s Tryz.f21 impl_refused_m impl_refused_g (fun N x => impl_refused_k N x.1 x.2.1) := fun _ _ => by kernel_rfl
theorem impl_refused_o : Known Tryz.prog 21 impl_refused_m := known_v (g := impl_refused_g) (.cons impl_copyArchive_o .nil) Tryz.func21 (by kernel_rfl) trivial impl_refused_e (fun _ => rfl)
def impl_Disk_put_k (N : Nat) (x0 : L34) (x1 : Int) (x2 : ByteArray) : Option ((L34 × Unit) × (Bool × Unit)) :=
  obind (impl_isSector (x1, ())) fun v0 =>
  tb (bnot v0.2.1)
  (some (((x0.1, x0.2.1, ()), ()), false, ()))
  (tb (bnot (ieq (((slen x2) : Nat) : Int) 64))
    (some (((x0.1, x0.2.1, ()), ()), false, ()))
    (tb (ile 200 (((llen x0.2.1) : Nat) : Int))
      (some (((x0.1, x0.2.1, ()), ()), false, ()))
      (chk ((plus (llen x0.2.1) (llen [(x1, x2, ())])) ≤ 5864062014805) (some (((x0.1, (lapp x0.2.1 [(x1, x2, ())]), ()), ()), true, ())) (none))))
def impl_Disk_put (x : (L34 × Int × ByteArray × Unit)) : Option ((L34 × Unit) × (Bool × Unit)) := impl_Disk_put_k fuel x.1 x.2.1 x.2.2.1
def impl_Disk_put_m : Con := ⟨[.io T34, .val (.int .i64), .val .str], [.bool], (.pair .bool .unit), impl_Disk_put⟩
def impl_Disk_put_s : List (Nat × Con) := [(108, impl_isSector_m)]
def impl_Disk_put_g (N : Nat) : List (Nat × Seg (Rof impl_Disk_put_m)) := []
theorem impl_Disk_put_e : FunOk impl_Disk_put_s Tryz.f144 impl_Disk_put_m impl_Disk_put_g (fun N x => impl_Disk_put_k N x.1 x.2.1 x.2.2.1) := fun _ _ => by kernel_rfl
theorem impl_Disk_put_o : Known Tryz.prog 144 impl_Disk_put_m := known_v (g := impl_Disk_put_g) (.cons impl_isSector_o .nil) Tryz.func144 (by kernel_rfl) trivial impl_Disk_put_e (fun _ => rfl)
def impl_Disk_putArea_P0 : Tpl := ⟨[(0, .one (.fix (.vptr 900 0))), (1, .one (.leaf (.int .i64))), (2, .one (.leaf (.int .i64))), (3, .one (.leaf (.row false (.int .u8))))], [(900, [.fix (.ref 10000 [] none), .fix (.ref 10001 [] none)])], [(10000, .str), (10001, (.pair (.int .i64) (.pair .str .unit)))]⟩
def impl_Disk_putArea_O0 : Tpl := ⟨[], [(900, [.fix (.ref 10500 [] none), .fix (.ref 10501 [] none)])], [(10500, .str), (10501, (.pair (.int .i64) (.pair .str .unit)))]⟩
def impl_Disk_putArea_k0 (N : Nat) : Nat → ((Unit × ((Unit × Unit) × ((List ByteArray) × (List (Int × (ByteArray × Unit))) × Unit))) → Option ((L34 × Unit) × (Bool × Unit))) → ((Int × Int × (List Int) × Unit) × ((Unit × Unit) × ((List ByteArray) × (List (Int × (ByteArray × Unit))) × Unit))) → Option ((L34 × Unit) × (Bool × Unit))
  | 0, _, _ => none
  | n + 1, k, x =>
    tb (ilt 0 (((llen x.1.2.2.1) : Nat) : Int))
    (obind (impl_first (x.1.1, ())) fun v0 =>
      chk ((64 : Int) = 0) (none) (obind (impl_Disk_sector ((x.2.2.1, x.2.2.2.1, ()), (wr .i64 (v0.2.1 + (wr .i64 (Int.tdiv x.1.2.1 64)))), ())) fun v1 =>
        chk ((64 : Int) = 0) (none) (chk (((0 : Int) ≤ 0) ∧ ((0 ≤ (Int.tmod x.1.2.1 64)) ∧ ((Int.tmod x.1.2.1 64) ≤ (((slen v1.2.1) : Nat) : Int)))) (chk (((0 : Int) ≤ 0) ∧ ((0 ≤ (mn (((llen x.1.2.2.1) : Nat) : Int) (wr .i64 (64 - (Int.tmod x.1.2.1 64))))) ∧ ((mn (((llen x.1.2.2.1) : Nat) : Int) (wr .i64 (64 - (Int.tmod x.1.2.1 64)))) ≤ (((llen x.1.2.2.1) : Nat) : Int)))) (chk ((plus (slen (scut v1.2.1 (Int.toNat 0) (Int.toNat (Int.tmod x.1.2.1 64)))) (slen (strOf (lcut x.1.2.2.1 (Int.toNat 0) (Int.toNat (mn (((llen x.1.2.2.1) : Nat) : Int) (wr .i64 (64 - (Int.tmod x.1.2.1 64))))))))) < slim) (chk ((0 ≤ (wr .i64 ((Int.tmod x.1.2.1 64) + (mn (((llen x.1.2.2.1) : Nat) : Int) (wr .i64 (64 - (Int.tmod x.1.2.1 64))))))) ∧ (((wr .i64 ((Int.tmod x.1.2.1 64) + (mn (((llen x.1.2.2.1) : Nat) : Int) (wr .i64 (64 - (Int.tmod x.1.2.1 64)))))) ≤ (((slen v1.2.1) : Nat) : Int)) ∧ ((((slen v1.2.1) : Nat) : Int) ≤ (((slen v1.2.1) : Nat) : Int)))) (chk ((plus (slen (sapp (scut v1.2.1 (Int.toNat 0) (Int.toNat (Int.tmod x.1.2.1 64))) (strOf (lcut x.1.2.2.1 (Int.toNat 0) (Int.toNat (mn (((llen x.1.2.2.1) : Nat) : Int) (wr .i64 (64 - (Int.tmod x.1.2.1 64))))))))) (slen (scut v1.2.1 (Int.toNat (wr .i64 ((Int.tmod x.1.2.1 64) + (mn (((llen x.1.2.2.1) : Nat) : Int) (wr .i64 (64 - (Int.tmod x.1.2.1 64))))))) (Int.toNat (((slen v1.2.1) : Nat) : Int))))) < slim) (obind (impl_Disk_put ((x.2.2.1, x.2.2.2.1, ()), (wr .i64 (v0.2.1 + (wr .i64 (Int.tdiv x.1.2.1 64)))), (sapp (sapp (scut v1.2.1 (Int.toNat 0) (Int.toNat (Int.tmod x.1.2.1 64))) (strOf (lcut x.1.2.2.1 (Int.toNat 0) (Int.toNat (mn (((llen x.1.2.2.1) : Nat) : Int) (wr .i64 (64 - (Int.tmod x.1.2.1 64)))))))) (scut v1.2.1 (Int.toNat (wr .i64 ((Int.tmod x.1.2.1 64) + (mn (((llen x.1.2.2.1) : Nat) : Int) (wr .i64 (64 - (Int.tmod x.1.2.1 64))))))) (Int.toNat (((slen v1.2.1) : Nat) : Int)))), ())) fun v2 =>
                    tb (bnot v2.2.1)
                    (some (((v2.1.1.1, v2.1.1.2.1, ()), ()), false, ()))
                    (chk ((0 ≤ (mn (((llen x.1.2.2.1) : Nat) : Int) (wr .i64 (64 - (Int.tmod x.1.2.1 64))))) ∧ (((mn (((llen x.1.2.2.1) : Nat) : Int) (wr .i64 (64 - (Int.tmod x.1.2.1 64)))) ≤ (((llen x.1.2.2.1) : Nat) : Int)) ∧ ((((llen x.1.2.2.1) : Nat) : Int) ≤ (((llen x.1.2.2.1) : Nat) : Int)))) (impl_Disk_putArea_k0 N n k ((x.1.1, (wr .i64 (x.1.2.1 + (mn (((llen x.1.2.2.1) : Nat) : Int) (wr .i64 (64 - (Int.tmod x.1.2.1 64)))))), (lcut x.1.2.2.1 (Int.toNat (mn (((llen x.1.2.2.1) : Nat) : Int) (wr .i64 (64 - (Int.tmod x.1.2.1 64))))) (Int.toNat (((llen x.1.2.2.1) : Nat) : Int))), ()), ((), ()), v2.1.1.1, v2.1.1.2.1, ())) (none))) (none)) (none)) (none)) (none)) (none))))
    (k ((), ((), ()), x.2.2.1, x.2.2.2.1, ()))
def impl_Disk_putArea_k (N : Nat) (x0 : L34) (x1 : Int) (x2 : Int) (x3 : (List Int)) : Option ((L34 × Unit) × (Bool × Unit)) :=
  obind (impl_fitsArea (x1, x2, (((llen x3) : Nat) : Int), ())) fun v0 =>
  tb (bnot v0.2.1)
  (some (((x0.1, x0.2.1, ()), ()), false, ()))
  (impl_Disk_putArea_k0 N N (fun v1 =>
      some (((v1.2.2.1, v1.2.2.2.1, ()), ()), true, ())) ((x1, x2, x3, ()), ((), ()), x0.1, x0.2.1, ()))
def impl_Disk_putArea (x : (L34 × Int × Int × (List Int) × Unit)) : Option ((L34 × Unit) × (Bool × Unit)) := impl_Disk_putArea_k fuel x.1 x.2.1 x.2.2.1 x.2.2.2.1
def impl_Disk_putArea_m : Con := ⟨[.io T34, .val (.int .i64), .val (.int .i64), .val (.row false (.int .u8))], [.bool], (.pair .bool .unit), impl_Disk_putArea⟩
def impl_Disk_putArea_s : List (Nat × Con) := [(111, impl_Disk_sector_m), (120, impl_fitsArea_m), (143, impl_first_m), (144, impl_Disk_put_m)]
def impl_Disk_putArea_S0 (N : Nat) : Seg (Rof impl_Disk_putArea_m) := ⟨impl_Disk_putArea_P0, impl_Disk_putArea_O0, [.cell 900 0 10000 .str, .cell 900 1 10001 (.pair (.int .i64) (.pair .str .unit))], [.cell 900 0 10500 .str, .cell 900 1 10501 (.pair (.int .i64) (.pair .str .unit))], impl_Disk_putArea_k0 N⟩
def impl_Disk_putArea_g (N : Nat) : List (Nat × Seg (Rof impl_Disk_putArea_m)) := [(0, impl_Disk_putArea_S0 N)]
theorem impl_Disk_putArea_r0 : RndOk impl_Disk_putArea_s Tryz.f116 impl_Disk_putArea_m impl_Disk_putArea_g 0 impl_Disk_putArea_S0 := fun _ _ _ _ => by kernel_rfl
theorem impl_Disk_putArea_e : FunOk impl_Disk_putArea_s Tryz.f116 impl_Disk_putArea_m impl_Disk_putArea_g (fun N x => impl_Disk_putArea_k N x.1 x.2.1 x.2.2.1 x.2.2.2.1) := fun _ _ => by kernel_rfl
theorem impl_Disk_putArea_o : Known Tryz.prog 116 impl_Disk_putArea_m := known_v (g := impl_Disk_putArea_g) (.cons impl_Disk_sector_o (.cons impl_fitsArea_o (.cons impl_first_o (.cons impl_Disk_put_o .nil)))) Tryz.func116 (by kernel_rfl) ⟨⟨fun _ _ => rfl, impl_Disk_putArea_r0 fuel⟩, trivial⟩ impl_Disk_putArea_e (fun _ => rfl)
def impl_AreaPut_k (N : Nat) (x0 : L34) (x1 : Int) (x2 : Int) (x3 : (List Int)) : Option (Unit × (L34 × Bool × Unit)) :=
  obind (impl_DiskOk ((x0.1, x0.2.1, ()), ())) fun v0 =>
  tb (bnot v0.2.1)
  (some ((), ([], [], ()), false, ()))
  (obind (impl_copyDisk ((x0.1, x0.2.1, ()), ())) fun v1 =>
    obind (impl_Disk_putArea ((v1.2.1.1, v1.2.1.2.1, ()), x1, x2, x3, ())) fun v2 =>
    tb (bnot v2.2.1)
    (obind (impl_copyDisk ((x0.1, x0.2.1, ()), ())) fun v3 =>
      some ((), (v3.2.1.1, v3.2.1.2.1, ()), false, ()))
    (some ((), (v2.1.1.1, v2.1.1.2.1, ()), true, ())))
def impl_AreaPut (x : (L34 × Int × Int × (List Int) × Unit)) : Option (Unit × (L34 × Bool × Unit)) := impl_AreaPut_k fuel x.1 x.2.1 x.2.2.1 x.2.2.2.1
def impl_AreaPut_m : Con := ⟨[.val S34, .val (.int .i64), .val (.int .i64), .val (.row false (.int .u8))], [T34, .bool], (.pair T34 (.pair .bool .unit)), impl_AreaPut⟩
def impl_AreaPut_s : List (Nat × Con) := [(75, impl_DiskOk_m), (79, impl_copyDisk_m), (116, impl_Disk_putArea_m)]
def impl_AreaPut_g (N : Nat) : List (Nat × Seg (Rof impl_AreaPut_m)) := []
theorem impl_AreaPut_e : FunOk impl_AreaPut_s Tryz.f82 impl_AreaPut_m impl_AreaPut_g (fun N x => impl_AreaPut_k N x.1 x.2.1 x.2.2.1 x.2.2.2.1) := fun _ _ => by kernel_rfl
theorem impl_AreaPut_o : Known Tryz.prog 82 impl_AreaPut_m := known_v (g := impl_AreaPut_g) (.cons impl_DiskOk_o (.cons impl_copyDisk_o (.cons impl_Disk_putArea_o .nil))) Tryz.func82 (by kernel_rfl) trivial impl_AreaPut_e (fun _ => rfl)
def impl_Disk_putHead_k (N : Nat) (x0 : L34) (x1 : L35) : Option ((L34 × Unit) × (Bool × Unit)) :=
  obind (impl_HeadPack ((x1.1, x1.2.1, x1.2.2.1, ()), ())) fun v0 =>
  tb v0.2.2.1
  (chk ((2 : Int) = 0) (none) (obind (impl_Disk_put ((x0.1, x0.2.1, ()), (Int.tmod x1.1 2), v0.2.1, ())) fun v1 =>
      some (((v1.1.1.1, v1.1.1.2.1, ()), ()), v1.2.1, ())))
  (some (((x0.1, x0.2.1, ()), ()), false, ()))
def impl_Disk_putHead (x : (L34 × L35 × Unit)) : Option ((L34 × Unit) × (Bool × Unit)) := impl_Disk_putHead_k fuel x.1 x.2.1
def impl_Disk_putHead_m : Con := ⟨[.io T34, .val S35], [.bool], (.pair .bool .unit), impl_Disk_putHead⟩
def impl_Disk_putHead_s : List (Nat × Con) := [(142, impl_HeadPack_m), (144, impl_Disk_put_m)]
def impl_Disk_putHead_g (N : Nat) : List (Nat × Seg (Rof impl_Disk_putHead_m)) := []
theorem impl_Disk_putHead_e : FunOk impl_Disk_putHead_s Tryz.f117 impl_Disk_putHead_m impl_Disk_putHead_g (fun N x => impl_Disk_putHead_k N x.1 x.2.1) := fun _ _ => by kernel_rfl
theorem impl_Disk_putHead_o : Known Tryz.prog 117 impl_Disk_putHead_m := known_v (g := impl_Disk_putHead_g) (.cons impl_HeadPack_o (.cons impl_Disk_put_o .nil)) Tryz.func117 (by kernel_rfl) trivial impl_Disk_putHead_e (fun _ => rfl)
def impl_HeadPut_k (N : Nat) (x0 : L34) (x1 : L35) : Option (Unit × (L34 × Bool × Unit)) :=
  obind (impl_DiskOk ((x0.1, x0.2.1, ()), ())) fun v0 =>
  tb (bnot v0.2.1)
  (some ((), ([], [], ()), false, ()))
  (obind (impl_copyDisk ((x0.1, x0.2.1, ()), ())) fun v1 =>
    obind (impl_Disk_putHead ((v1.2.1.1, v1.2.1.2.1, ()), (x1.1, x1.2.1, x1.2.2.1, ()), ())) fun v2 =>
    some ((), (v2.1.1.1, v2.1.1.2.1, ()), v2.2.1, ()))
def impl_HeadPut (x : (L34 × L35 × Unit)) : Option (Unit × (L34 × Bool × Unit)) := impl_HeadPut_k fuel x.1 x.2.1
def impl_HeadPut_m : Con := ⟨[.val S34, .val S35], [T34, .bool], (.pair T34 (.pair .bool .unit)), impl_HeadPut⟩
def impl_HeadPut_s : List (Nat × Con) := [(75, impl_DiskOk_m), (79, impl_copyDisk_m), (117, impl_Disk_putHead_m)]
def impl_HeadPut_g (N : Nat) : List (Nat × Seg (Rof impl_HeadPut_m)) := []
theorem impl_HeadPut_e : FunOk impl_HeadPut_s Tryz.f83 impl_HeadPut_m impl_HeadPut_g (fun N x => impl_HeadPut_k N x.1 x.2.1) := fun _ _ => by kernel_rfl
theorem impl_HeadPut_o : Known Tryz.prog 83 impl_HeadPut_m := known_v (g := impl_HeadPut_g) (.cons impl_DiskOk_o (.cons impl_copyDisk_o (.cons impl_Disk_putHead_o .nil))) Tryz.func83 (by kernel_rfl) trivial impl_HeadPut_e (fun _ => rfl)
def impl_DiskSync_1_k (N : Nat) (x0 : Int) : Option (Unit × (Bool × Unit)) :=
  some ((), true, ())
def impl_DiskSync_1 (x : (Int × Unit)) : Option (Unit × (Bool × Unit)) := impl_DiskSync_1_k fuel x.1
def impl_DiskSync_1_m : Con := ⟨[.val (.int .i64)], [.bool], (.pair .bool .unit), impl_DiskSync_1⟩
def impl_DiskSync_1_s : List (Nat × Con) := []
def impl_DiskSync_1_g (N : Nat) : List (Nat × Seg (Rof impl_DiskSync_1_m)) := []
theorem impl_DiskSync_1_e : FunOk impl_DiskSync_1_s Tryz.f119 impl_DiskSync_1_m impl_DiskSync_1_g (fun N x => impl_DiskSync_1_k N x.1) := fun _ _ => by kernel_rfl
theorem impl_DiskSync_1_o : Known Tryz.prog 119 impl_DiskSync_1_m := known_v (g := impl_DiskSync_1_g) .nil Tryz.func119 (by kernel_rfl) trivial impl_DiskSync_1_e (fun _ => rfl)
def impl_settled_of_impl_DiskSync_1_P0 : Tpl := ⟨[(1, .one (.fix (.fn 119 []))), (4, .one (.fix (.vptr 4 0))), (5, .one (.fix (.vptr 5 0))), (13, .one (.leaf (.row false (.pair (.int .i64) (.pair .str .unit))))), (14, .one (.leaf (.int .i64))), (15, .one (.leaf (.int .i64)))], [(4, [.fix .nil, .fix .nil]), (5, [.fix (.ref 10000 [] none), .fix .nil])], [(10000, .str)]⟩
def impl_settled_of_impl_DiskSync_1_O0 : Tpl := ⟨[(4, .one (.fix (.vptr 4 0))), (5, .one (.fix (.vptr 5 0)))], [(4, [.fix .nil, .fix .nil]), (5, [.fix (.ref 10500 [] none), .fix .nil])], [(10500, .str)]⟩
def impl_settled_of_impl_DiskSync_1_k0 (N : Nat) : Nat → ((Unit × ((Unit × Unit × Unit) × ((List ByteArray) × Unit))) → Option (Unit × (L34 × Unit))) → (((List (Int × (ByteArray × Unit))) × Int × Int × Unit) × ((Unit × Unit × Unit) × ((List ByteArray) × Unit))) → Option (Unit × (L34 × Unit))
  | 0, _, _ => none
  | n + 1, k, x =>
    tb (ilt x.1.2.2.1 x.1.2.1)
    (chk (0 ≤ x.1.2.2.1) (obind (at? x.1.1 (Int.toNat x.1.2.2.1)) fun v0 =>
        obind (impl_DiskSync_1 (x.1.2.2.1, ())) fun v1 =>
        tb v1.2.1
        (chk ((0 ≤ v0.1) ∧ (v0.1 < (((llen x.2.2.1) : Nat) : Int))) (obind (at? x.2.2.1 (Int.toNat v0.1)) fun v2 =>
            impl_settled_of_impl_DiskSync_1_k0 N n k ((x.1.1, x.1.2.1, (wr .i64 (x.1.2.2.1 + 1)), ()), ((), (), ()), (lset x.2.2.1 (Int.toNat v0.1) v0.2.1), ())) (none))
        (impl_settled_of_impl_DiskSync_1_k0 N n k ((x.1.1, x.1.2.1, (wr .i64 (x.1.2.2.1 + 1)), ()), ((), (), ()), x.2.2.1, ()))) (none))
    (k ((), ((), (), ()), x.2.2.1, ()))
def impl_settled_of_impl_DiskSync_1_k (N : Nat) (x0 : L34) (x1 : Unit) : Option (Unit × (L34 × Unit)) :=
  obind (slices_Clone_string (x0.1, ())) fun v0 =>
  impl_settled_of_impl_DiskSync_1_k0 N N (fun v1 =>
    some ((), (v1.2.2.1, [], ()), ())) ((x0.2.1, (((llen x0.2.1) : Nat) : Int), 0, ()), ((), (), ()), v0.2.1, ())
def impl_settled_of_impl_DiskSync_1 (x : (L34 × Unit × Unit)) : Option (Unit × (L34 × Unit)) := impl_settled_of_impl_DiskSync_1_k fuel x.1 x.2.1
def impl_settled_of_impl_DiskSync_1_m : Con := ⟨[.val S34, .fn 119], [T34], (.pair T34 .unit), impl_settled_of_impl_DiskSync_1⟩
def impl_settled_of_impl_DiskSync_1_s : List (Nat × Con) := [(112, slices_Clone_string_m), (119, impl_DiskSync_1_m)]
def impl_settled_of_impl_DiskSync_1_S0 (N : Nat) : Seg (Rof impl_settled_of_impl_DiskSync_1_m) := ⟨impl_settled_of_impl_DiskSync_1_P0, impl_settled_of_impl_DiskSync_1_O0, [.cell 5 0 10000 .str], [.cell 5 0 10500 .str], impl_settled_of_impl_DiskSync_1_k0 N⟩
def impl_settled_of_impl_DiskSync_1_g (N : Nat) : List (Nat × Seg (Rof impl_settled_of_impl_DiskSync_1_m)) := [(0, impl_settled_of_impl_DiskSync_1_S0 N)]
theorem impl_settled_of_impl_DiskSync_1_r0 : RndOk impl_settled_of_impl_DiskSync_1_s Tryz.f118 impl_settled_of_impl_DiskSync_1_m impl_settled_of_impl_DiskSync_1_g 0 impl_settled_of_impl_DiskSync_1_S0 := fun _ _ _ _ => by kernel_rfl
theorem impl_settled_of_impl_DiskSync_1_e : FunOk impl_settled_of_impl_DiskSync_1_s Tryz.f118 impl_settled_of_impl_DiskSync_1_m impl_settled_of_impl_DiskSync_1_g (fun N x => impl_settled_of_impl_DiskSync_1_k N x.1 x.2.1) := fun _ _ => by kernel_rfl
theorem impl_settled_of_impl_DiskSync_1_o : Known Tryz.prog 118 impl_settled_of_impl_DiskSync_1_m := known_v (g := impl_settled_of_impl_DiskSync_1_g) (.cons slices_Clone_string_o (.cons impl_DiskSync_1_o .nil)) Tryz.func118 (by kernel_rfl) ⟨⟨fun _ _ => rfl, impl_settled_of_impl_DiskSync_1_r0 fuel⟩, trivial⟩ impl_settled_of_impl_DiskSync_1_e (fun _ => rfl)
def impl_DiskSync_k (N : Nat) (x0 : L34) : Option (Unit × (L34 × Bool × Unit)) :=
  obind (impl_DiskOk ((x0.1, x0.2.1, ()), ())) fun v0 =>
  tb (bnot v0.2.1)
  (some ((), ([], [], ()), false, ()))
  (obind (impl_settled_of_impl_DiskSync_1 ((x0.1, x0.2.1, ()), (), ())) fun v1 =>
    some ((), (v1.2.1.1, v1.2.1.2.1, ()), true, ()))
def impl_DiskSync (x : (L34 × Unit)) : Option (Unit × (L34 × Bool × Unit)) := impl_DiskSync_k fuel x.1
def impl_DiskSync_m : Con := ⟨[.val S34], [T34, .bool], (.pair T34 (.pair .bool .unit)), impl_DiskSync⟩
def impl_DiskSync_s : List (Nat × Con) := [(75, impl_DiskOk_m), (119, impl_DiskSync_1_m), (118, impl_settled_of_impl_DiskSync_1_m)]
def impl_DiskSync_g (N : Nat) : List (Nat × Seg (Rof impl_DiskSync_m)) := []
theorem impl_DiskSync_e : FunOk impl_DiskSync_s Tryz.f84 impl_DiskSync_m impl_DiskSync_g (fun N x => impl_DiskSync_k N x.1) := fun _ _ => by kernel_rfl
theorem impl_DiskSync_o : Known Tryz.prog 84 impl_DiskSync_m := known_v (g := impl_DiskSync_g) (.cons impl_DiskOk_o (.cons impl_DiskSync_1_o (.cons impl_settled_of_impl_DiskSync_1_o .nil))) Tryz.func84 (by kernel_rfl) trivial impl_DiskSync_e (fun _ => rfl)
def impl_job_do_P0 : Tpl := ⟨[(0, .one (.leaf (.pair (.int .i64) (.pair (.int .i64) (.pair (.row true (.int .u8)) (.pair (.pair (.int .i64) (.pair (.int .i64) (.pair (.int .i64) .unit))) .unit)))))), (2, .one (.leaf (.int .i64))), (6, .one (.fix (.vptr 6 0))), (8, .one (.fix (.vptr 8 0))), (9, .one (.leaf .bool)), (10, .one (.leaf (.int .i64))), (16, .one (.leaf .bool))], [(6, [.fix .nil, .fix .nil]), (8, [.fix (.ref 10000 [] none), .fix (.ref 10001 [] none)])], [(10000, .str), (10001, (.pair (.int .i64) (.pair .str .unit)))]⟩
def impl_job_do_O0 : Tpl := ⟨[(6, .one (.fix (.vptr 6 0))), (8, .one (.fix (.vptr 8 0))), (9, .one (.leaf .bool))], [(6, [.fix .nil, .fix .nil]), (8, [.fix (.ref 10500 [] none), .fix (.ref 10501 [] none)])], [(10500, .str), (10501, (.pair (.int .i64) (.pair .str .unit)))]⟩
def impl_job_do_k0 (N : Nat) : Nat → (((Bool × Unit) × ((Unit × Unit × Unit) × ((List ByteArray) × (List (Int × (ByteArray × Unit))) × Unit))) → Option (Unit × (L34 × Bool × Unit))) → (((Int × (Int × ((List Int) × ((Int × (Int × (Int × Unit))) × Unit)))) × Int × Bool × Int × Bool × Unit) × ((Unit × Unit × Unit) × ((List ByteArray) × (List (Int × (ByteArray × Unit))) × Unit))) → Option (Unit × (L34 × Bool × Unit))
  | 0, _, _ => none
  | n + 1, k, x =>
    tb (ile x.1.2.2.2.1 x.1.2.1)
    (tb x.1.2.2.1
      (tb (ieq x.1.2.2.2.1 1)
        (obind (impl_AreaPut ((x.2.2.1, x.2.2.2.1, ()), x.1.1.1, x.1.1.2.1, x.1.1.2.2.1, ())) fun v0 =>
          impl_job_do_k0 N n k ((x.1.1, x.1.2.1, v0.2.2.1, (wr .i64 (x.1.2.2.2.1 + 1)), x.1.2.2.1, ()), ((), (), ()), v0.2.1.1, v0.2.1.2.1, ()))
        (tb (ieq x.1.2.2.2.1 3)
          (obind (impl_HeadPut ((x.2.2.1, x.2.2.2.1, ()), (x.1.1.2.2.2.1.1, x.1.1.2.2.2.1.2.1, x.1.1.2.2.2.1.2.2.1, ()), ())) fun v1 =>
            impl_job_do_k0 N n k ((x.1.1, x.1.2.1, v1.2.2.1, (wr .i64 (x.1.2.2.2.1 + 1)), x.1.2.2.1, ()), ((), (), ()), v1.2.1.1, v1.2.1.2.1, ()))
          (obind (impl_DiskSync ((x.2.2.1, x.2.2.2.1, ()), ())) fun v2 =>
            impl_job_do_k0 N n k ((x.1.1, x.1.2.1, v2.2.2.1, (wr .i64 (x.1.2.2.2.1 + 1)), x.1.2.2.1, ()), ((), (), ()), v2.2.1.1, v2.2.1.2.1, ()))))
      (k ((x.1.2.2.1, ()), ((), (), ()), x.2.2.1, x.2.2.2.1, ())))
    (k ((x.1.2.2.1, ()), ((), (), ()), x.2.2.1, x.2.2.2.1, ()))
def impl_job_do_k (N : Nat) (x0 : L57) (x1 : L34) (x2 : Int) : Option (Unit × (L34 × Bool × Unit)) :=
  tb (ile 1 x2)
  (tb (ieq 1 1)
    (obind (impl_AreaPut ((x1.1, x1.2.1, ()), x0.1, x0.2.1, x0.2.2.1, ())) fun v0 =>
      impl_job_do_k0 N N (fun v1 =>
        some ((), (v1.2.2.1, v1.2.2.2.1, ()), v1.1.1, ())) ((x0, x2, v0.2.2.1, (wr .i64 (1 + 1)), true, ()), ((), (), ()), v0.2.1.1, v0.2.1.2.1, ()))
    (tb (ieq 1 3)
      (obind (impl_HeadPut ((x1.1, x1.2.1, ()), (x0.2.2.2.1.1, x0.2.2.2.1.2.1, x0.2.2.2.1.2.2.1, ()), ())) fun v2 =>
        impl_job_do_k0 N N (fun v3 =>
          some ((), (v3.2.2.1, v3.2.2.2.1, ()), v3.1.1, ())) ((x0, x2, v2.2.2.1, (wr .i64 (1 + 1)), true, ()), ((), (), ()), v2.2.1.1, v2.2.1.2.1, ()))
      (obind (impl_DiskSync ((x1.1, x1.2.1, ()), ())) fun v4 =>
        impl_job_do_k0 N N (fun v5 =>
          some ((), (v5.2.2.1, v5.2.2.2.1, ()), v5.1.1, ())) ((x0, x2, v4.2.2.1, (wr .i64 (1 + 1)), true, ()), ((), (), ()), v4.2.1.1, v4.2.1.2.1, ()))))
  (none)
def impl_job_do (x : (L57 × L34 × Int × Unit)) : Option (Unit × (L34 × Bool × Unit)) := impl_job_do_k fuel x.1 x.2.1 x.2.2.1
def impl_job_do_m : Con := ⟨[.rptr T57, .val S34, .val (.int .i64)], [T34, .bool], (.pair T34 (.pair .bool .unit)), impl_job_do⟩
def impl_job_do_s : List (Nat × Con) := [(82, impl_AreaPut_m), (83, impl_HeadPut_m), (84, impl_DiskSync_m)]
def impl_job_do_S0 (N : Nat) : Seg (Rof impl_job_do_m) := ⟨impl_job_do_P0, impl_job_do_O0, [.peel, .cell 8 0 10000 .str, .cell 8 1 10001 (.pair (.int .i64) (.pair .str .unit))], [.cell 8 0 10500 .str, .cell 8 1 10501 (.pair (.int .i64) (.pair .str .unit))], impl_job_do_k0 N⟩
def impl_job_do_g (N : Nat) : List (Nat × Seg (Rof impl_job_do_m)) := [(0, impl_job_do_S0 N)]
theorem impl_job_do_r0 : RndOk impl_job_do_s Tryz.f45 impl_job_do_m impl_job_do_g 0 impl_job_do_S0 := fun _ _ _ _ => by kernel_rfl
theorem impl_job_do_e : FunOk impl_job_do_s Tryz.f45 impl_job_do_m impl_job_do_g (fun N x => impl_job_do_k N x.1 x.2.1 x.2.2.1) := fun _ _ => by kernel_rfl
theorem impl_job_do_o : Known Tryz.prog 45 impl_job_do_m := known_v (g := impl_job_do_g) (.cons impl_AreaPut_o (.cons impl_HeadPut_o (.cons impl_DiskSync_o .nil))) Tryz.func45 (by kernel_rfl) ⟨⟨fun _ _ => rfl, impl_job_do_r0 fuel⟩, trivial⟩ impl_job_do_e (fun _ => rfl)
def impl_Archive_done_k (N : Nat) (x0 : L38) (x1 : L57) (x2 : Int) : Option (Unit × (L38 × Int × Unit)) :=
  tb (bnot (ieq x2 0))
  (obind (impl_refused ((x0.1, (x0.2.1.1, x0.2.1.2.1, ()), (x0.2.2.1.1, x0.2.2.1.2.1, x0.2.2.1.2.2.1, ()), x0.2.2.2.1, ()), x2, ())) fun v0 =>
    some ((), (v0.2.1.1, (v0.2.1.2.1.1, v0.2.1.2.1.2.1, ()), (v0.2.1.2.2.1.1, v0.2.1.2.2.1.2.1, v0.2.1.2.2.1.2.2.1, ()), v0.2.1.2.2.2.1, ()), v0.2.2.1, ()))
  (obind (impl_job_do ((x1.1, x1.2.1, x1.2.2.1, (x1.2.2.2.1.1, x1.2.2.2.1.2.1, x1.2.2.2.1.2.2.1, ()), ()), (x0.2.1.1, x0.2.1.2.1, ()), 4, ())) fun v1 =>
    tb (bnot v1.2.2.1)
    (obind (impl_refused ((x0.1, (x0.2.1.1, x0.2.1.2.1, ()), (x0.2.2.1.1, x0.2.2.1.2.1, x0.2.2.1.2.2.1, ()), x0.2.2.2.1, ()), 5, ())) fun v2 =>
      some ((), (v2.2.1.1, (v2.2.1.2.1.1, v2.2.1.2.1.2.1, ()), (v2.2.1.2.2.1.1, v2.2.1.2.2.1.2.1, v2.2.1.2.2.1.2.2.1, ()), v2.2.1.2.2.2.1, ()), v2.2.2.1, ()))
    (obind (impl_listOf ((v1.2.1.1, v1.2.1.2.1, ()), (x1.2.2.2.1.1, x1.2.2.2.1.2.1, x1.2.2.2.1.2.2.1, ()), ())) fun v3 =>
      some ((), (true, (v1.2.1.1, v1.2.1.2.1, ()), (x1.2.2.2.1.1, x1.2.2.2.1.2.1, x1.2.2.2.1.2.2.1, ()), v3.2.1, ()), 0, ())))
def impl_Archive_done (x : (L38 × L57 × Int × Unit)) : Option (Unit × (L38 × Int × Unit)) := impl_Archive_done_k fuel x.1 x.2.1 x.2.2.1
def impl_Archive_done_m : Con := ⟨[.rptr T38, .val S57, .val (.int .i64)], [T38, (.int .i64)], (.pair T38 (.pair (.int .i64) .unit)), impl_Archive_done⟩
def impl_Archive_done_s : List (Nat × Con) := [(21, impl_refused_m), (45, impl_job_do_m), (46, impl_listOf_m)]
def impl_Archive_done_g (N : Nat) : List (Nat × Seg (Rof impl_Archive_done_m)) := []
theorem impl_Archive_done_e : FunOk impl_Archive_done_s Tryz.f23 impl_Archive_done_m impl_Archive_done_g (fun N x => impl_Archive_done_k N x.1 x.2.1 x.2.2.1) := fun _ _ => by kernel_rfl
theorem impl_Archive_done_o : Known Tryz.prog 23 impl_Archive_done_m := known_v (g := impl_Archive_done_g) (.cons impl_refused_o (.cons impl_job_do_o (.cons impl_listOf_o .nil))) Tryz.func23 (by kernel_rfl) trivial impl_Archive_done_e (fun _ => rfl)
def laws_eqStringS_P0 : Tpl := ⟨[(0, .one (.leaf (.row false .str))), (1, .one (.leaf (.row false .str))), (5, .one (.leaf (.int .i64)))], [], []⟩
def laws_eqStringS_O0 : Tpl := ⟨[], [], []⟩
def laws_eqStringS_k0 (N : Nat) : Nat → ((Unit × (Unit × Unit)) → Option (Unit × (Bool × Unit))) → (((List ByteArray) × (List ByteArray) × Int × Unit) × (Unit × Unit)) → Option (Unit × (Bool × Unit))
  | 0, _, _ => none
  | n + 1, k, x =>
    tb (ilt x.1.2.2.1 (((llen x.1.1) : Nat) : Int))
    (chk (0 ≤ x.1.2.2.1) (obind (at? x.1.1 (Int.toNat x.1.2.2.1)) fun v0 =>
        chk (0 ≤ x.1.2.2.1) (obind (at? x.1.2.1 (Int.toNat x.1.2.2.1)) fun v1 =>
          tb (bnot (seq v0 v1))
          (some ((), false, ()))
          (laws_eqStringS_k0 N n k ((x.1.1, x.1.2.1, (wr .i64 (x.1.2.2.1 + 1)), ()), (), ()))) (none)) (none))
    (k ((), (), ()))
def laws_eqStringS_k (N : Nat) (x0 : (List ByteArray)) (x1 : (List ByteArray)) : Option (Unit × (Bool × Unit)) :=
  tb (bnot (ieq (((llen x0) : Nat) : Int) (((llen x1) : Nat) : Int)))
  (some ((), false, ()))
  (laws_eqStringS_k0 N N (fun v0 =>
      some ((), true, ())) ((x0, x1, 0, ()), (), ()))
def laws_eqStringS (x : ((List ByteArray) × (List ByteArray) × Unit)) : Option (Unit × (Bool × Unit)) := laws_eqStringS_k fuel x.1 x.2.1
def laws_eqStringS_m : Con := ⟨[.val (.row false .str), .val (.row false .str)], [.bool], (.pair .bool .unit), laws_eqStringS⟩
def laws_eqStringS_s : List (Nat × Con) := []
def laws_eqStringS_S0 (N : Nat) : Seg (Rof laws_eqStringS_m) := ⟨laws_eqStringS_P0, laws_eqStringS_O0, [], [], laws_eqStringS_k0 N⟩
def laws_eqStringS_g (N : Nat) : List (Nat × Seg (Rof laws_eqStringS_m)) := [(0, laws_eqStringS_S0 N)]
theorem laws_eqStringS_r0 : RndOk laws_eqStringS_s Tryz.f47 laws_eqStringS_m laws_eqStringS_g 0 laws_eqStringS_S0 := fun _ _ _ _ => by kernel_rfl
theorem laws_eqStringS_e : FunOk laws_eqStringS_s Tryz.f47 laws_eqStringS_m laws_eqStringS_g (fun N x => laws_eqStringS_k N x.1 x.2.1) := fun _ _ => by kernel_rfl
theorem laws_eqStringS_o : Known Tryz.prog 47 laws_eqStringS_m := known_v (g := laws_eqStringS_g) .nil Tryz.func47 (by kernel_rfl) ⟨⟨fun _ _ => rfl, laws_eqStringS_r0 fuel⟩, trivial⟩ laws_eqStringS_e (fun _ => rfl)
def laws_eqPut_k (N : Nat) (x0 : L121) (x1 : L121) : Option (Unit × (Bool × Unit)) :=
  tb (bnot (ieq x0.1 x1.1))
  (some ((), false, ()))
  (tb (bnot (seq x0.2.1 x1.2.1))
    (some ((), false, ()))
    (some ((), true, ())))
def laws_eqPut (x : (L121 × L121 × Unit)) : Option (Unit × (Bool × Unit)) := laws_eqPut_k fuel x.1 x.2.1
def laws_eqPut_m : Con := ⟨[.val S121, .val S121], [.bool], (.pair .bool .unit), laws_eqPut⟩
def laws_eqPut_s : List (Nat × Con) := []
def laws_eqPut_g (N : Nat) : List (Nat × Seg (Rof laws_eqPut_m)) := []
theorem laws_eqPut_e : FunOk laws_eqPut_s Tryz.f88 laws_eqPut_m laws_eqPut_g (fun N x => laws_eqPut_k N x.1 x.2.1) := fun _ _ => by kernel_rfl
theorem laws_eqPut_o : Known Tryz.prog 88 laws_eqPut_m := known_v (g := laws_eqPut_g) .nil Tryz.func88 (by kernel_rfl) trivial laws_eqPut_e (fun _ => rfl)
def laws_eqPutS_P0 : Tpl := ⟨[(0, .one (.leaf (.row false (.pair (.int .i64) (.pair .str .unit))))), (1, .one (.leaf (.row false (.pair (.int .i64) (.pair .str .unit))))), (5, .one (.leaf (.int .i64)))], [], []⟩
def laws_eqPutS_O0 : Tpl := ⟨[], [], []⟩
def laws_eqPutS_k0 (N : Nat) : Nat → ((Unit × (Unit × Unit)) → Option (Unit × (Bool × Unit))) → (((List (Int × (ByteArray × Unit))) × (List (Int × (ByteArray × Unit))) × Int × Unit) × (Unit × Unit)) → Option (Unit × (Bool × Unit))
  | 0, _, _ => none
  | n + 1, k, x =>
    tb (ilt x.1.2.2.1 (((llen x.1.1) : Nat) : Int))
    (chk (0 ≤ x.1.2.2.1) (obind (at? x.1.1 (Int.toNat x.1.2.2.1)) fun v0 =>
        chk (0 ≤ x.1.2.2.1) (obind (at? x.1.2.1 (Int.toNat x.1.2.2.1)) fun v1 =>
          obind (laws_eqPut ((v0.1, v0.2.1, ()), (v1.1, v1.2.1, ()), ())) fun v2 =>
          tb (bnot v2.2.1)
          (some ((), false, ()))
          (laws_eqPutS_k0 N n k ((x.1.1, x.1.2.1, (wr .i64 (x.1.2.2.1 + 1)), ()), (), ()))) (none)) (none))
    (k ((), (), ()))
def laws_eqPutS_k (N : Nat) (x0 : (List L121)) (x1 : (List L121)) : Option (Unit × (Bool × Unit)) :=
  tb (bnot (ieq (((llen x0) : Nat) : Int) (((llen x1) : Nat) : Int)))
  (some ((), false, ()))
  (laws_eqPutS_k0 N N (fun v0 =>
      some ((), true, ())) ((x0, x1, 0, ()), (), ()))
def laws_eqPutS (x : ((List L121) × (List L121) × Unit)) : Option (Unit × (Bool × Unit)) := laws_eqPutS_k fuel x.1 x.2.1
def laws_eqPutS_m : Con := ⟨[.val (.row false S121), .val (.row false S121)], [.bool], (.pair .bool .unit), laws_eqPutS⟩
def laws_eqPutS_s : List (Nat × Con) := [(88, laws_eqPut_m)]
def laws_eqPutS_S0 (N : Nat) : Seg (Rof laws_eqPutS_m) := ⟨laws_eqPutS_P0, laws_eqPutS_O0, [], [], laws_eqPutS_k0 N⟩
def laws_eqPutS_g (N : Nat) : List (Nat × Seg (Rof laws_eqPutS_m)) := [(0, laws_eqPutS_S0 N)]
theorem laws_eqPutS_r0 : RndOk laws_eqPutS_s Tryz.f48 laws_eqPutS_m laws_eqPutS_g 0 laws_eqPutS_S0 := fun _ _ _ _ => by kernel_rfl
theorem laws_eqPutS_e : FunOk laws_eqPutS_s Tryz.f48 laws_eqPutS_m laws_eqPutS_g (fun N x => laws_eqPutS_k N x.1 x.2.1) := fun _ _ => by kernel_rfl
theorem laws_eqPutS_o : Known Tryz.prog 48 laws_eqPutS_m := known_v (g := laws_eqPutS_g) (.cons laws_eqPut_o .nil) Tryz.func48 (by kernel_rfl) ⟨⟨fun _ _ => rfl, laws_eqPutS_r0 fuel⟩, trivial⟩ laws_eqPutS_e (fun _ => rfl)
def laws_eqDisk_k (N : Nat) (x0 : L34) (x1 : L34) : Option (Unit × (Bool × Unit)) :=
  obind (laws_eqStringS (x0.1, x1.1, ())) fun v0 =>
  tb (bnot v0.2.1)
  (some ((), false, ()))
  (obind (laws_eqPutS (x0.2.1, x1.2.1, ())) fun v1 =>
    tb (bnot v1.2.1)
    (some ((), false, ()))
    (some ((), true, ())))
def laws_eqDisk (x : (L34 × L34 × Unit)) : Option (Unit × (Bool × Unit)) := laws_eqDisk_k fuel x.1 x.2.1
def laws_eqDisk_m : Con := ⟨[.val S34, .val S34], [.bool], (.pair .bool .unit), laws_eqDisk⟩
def laws_eqDisk_s : List (Nat × Con) := [(47, laws_eqStringS_m), (48, laws_eqPutS_m)]
def laws_eqDisk_g (N : Nat) : List (Nat × Seg (Rof laws_eqDisk_m)) := []
theorem laws_eqDisk_e : FunOk laws_eqDisk_s Tryz.f24 laws_eqDisk_m laws_eqDisk_g (fun N x => laws_eqDisk_k N x.1 x.2.1) := fun _ _ => by kernel_rfl
theorem laws_eqDisk_o : Known Tryz.prog 24 laws_eqDisk_m := known_v (g := laws_eqDisk_g) (.cons laws_eqStringS_o (.cons laws_eqPutS_o .nil)) Tryz.func24 (by kernel_rfl) trivial laws_eqDisk_e (fun _ => rfl)
def laws_eqHead_k (N : Nat) (x0 : L35) (x1 : L35) : Option (Unit × (Bool × Unit)) :=
  tb (bnot (ieq x0.1 x1.1))
  (some ((), false, ()))
  (tb (bnot (ieq x0.2.1 x1.2.1))
    (some ((), false, ()))
    (tb (bnot (ieq x0.2.2.1 x1.2.2.1))
      (some ((), false, ()))
      (some ((), true, ()))))
def laws_eqHead (x : (L35 × L35 × Unit)) : Option (Unit × (Bool × Unit)) := laws_eqHead_k fuel x.1 x.2.1
def laws_eqHead_m : Con := ⟨[.val S35, .val S35], [.bool], (.pair .bool .unit), laws_eqHead⟩
def laws_eqHead_s : List (Nat × Con) := []
def laws_eqHead_g (N : Nat) : List (Nat × Seg (Rof laws_eqHead_m)) := []
theorem laws_eqHead_e : FunOk laws_eqHead_s Tryz.f25 laws_eqHead_m laws_eqHead_g (fun N x => laws_eqHead_k N x.1 x.2.1) := fun _ _ => by kernel_rfl
theorem laws_eqHead_o : Known Tryz.prog 25 laws_eqHead_m := known_v (g := laws_eqHead_g) .nil Tryz.func25 (by kernel_rfl) trivial laws_eqHead_e (fun _ => rfl)
def laws_eqEntry_k (N : Nat) (x0 : L80) (x1 : L80) : Option (Unit × (Bool × Unit)) :=
  tb (bnot (seq x0.1 x1.1))
  (some ((), false, ()))
  (tb (bnot (seq x0.2.1 x1.2.1))
    (some ((), false, ()))
    (some ((), true, ())))
def laws_eqEntry (x : (L80 × L80 × Unit)) : Option (Unit × (Bool × Unit)) := laws_eqEntry_k fuel x.1 x.2.1
def laws_eqEntry_m : Con := ⟨[.val S80, .val S80], [.bool], (.pair .bool .unit), laws_eqEntry⟩
def laws_eqEntry_s : List (Nat × Con) := []
def laws_eqEntry_g (N : Nat) : List (Nat × Seg (Rof laws_eqEntry_m)) := []
theorem laws_eqEntry_e : FunOk laws_eqEntry_s Tryz.f49 laws_eqEntry_m laws_eqEntry_g (fun N x => laws_eqEntry_k N x.1 x.2.1) := fun _ _ => by kernel_rfl
theorem laws_eqEntry_o : Known Tryz.prog 49 laws_eqEntry_m := known_v (g := laws_eqEntry_g) .nil Tryz.func49 (by kernel_rfl) trivial laws_eqEntry_e (fun _ => rfl)
def laws_eqEntryS_P0 : Tpl := ⟨[(0, .one (.leaf (.row false (.pair .str (.pair .str .unit))))), (1, .one (.leaf (.row false (.pair .str (.pair .str .unit))))), (5, .one (.leaf (.int .i64)))], [], []⟩
def laws_eqEntryS_O0 : Tpl := ⟨[], [], []⟩
def laws_eqEntryS_k0 (N : Nat) : Nat → ((Unit × (Unit × Unit)) → Option (Unit × (Bool × Unit))) → (((List (ByteArray × (ByteArray × Unit))) × (List (ByteArray × (ByteArray × Unit))) × Int × Unit) × (Unit × Unit)) → Option (Unit × (Bool × Unit))
  | 0, _, _ => none
  | n + 1, k, x =>
    tb (ilt x.1.2.2.1 (((llen x.1.1) : Nat) : Int))
    (chk (0 ≤ x.1.2.2.1) (obind (at? x.1.1 (Int.toNat x.1.2.2.1)) fun v0 =>
        chk (0 ≤ x.1.2.2.1) (obind (at? x.1.2.1 (Int.toNat x.1.2.2.1)) fun v1 =>
          obind (laws_eqEntry ((v0.1, v0.2.1, ()), (v1.1, v1.2.1, ()), ())) fun v2 =>
          tb (bnot v2.2.1)
          (some ((), false, ()))
          (laws_eqEntryS_k0 N n k ((x.1.1, x.1.2.1, (wr .i64 (x.1.2.2.1 + 1)), ()), (), ()))) (none)) (none))
    (k ((), (), ()))
def laws_eqEntryS_k (N : Nat) (x0 : (List L80)) (x1 : (List L80)) : Option (Unit × (Bool × Unit)) :=
  tb (bnot (ieq (((llen x0) : Nat) : Int) (((llen x1) : Nat) : Int)))
  (some ((), false, ()))
  (laws_eqEntryS_k0 N N (fun v0 =>
      some ((), true, ())) ((x0, x1, 0, ()), (), ()))
def laws_eqEntryS (x : ((List L80) × (List L80) × Unit)) : Option (Unit × (Bool × Unit)) := laws_eqEntryS_k fuel x.1 x.2.1
def laws_eqEntryS_m : Con := ⟨[.val (.row false S80), .val (.row false S80)], [.bool], (.pair .bool .unit), laws_eqEntryS⟩
def laws_eqEntryS_s : List (Nat × Con) := [(49, laws_eqEntry_m)]
def laws_eqEntryS_S0 (N : Nat) : Seg (Rof laws_eqEntryS_m) := ⟨laws_eqEntryS_P0, laws_eqEntryS_O0, [], [], laws_eqEntryS_k0 N⟩
def laws_eqEntryS_g (N : Nat) : List (Nat × Seg (Rof laws_eqEntryS_m)) := [(0, laws_eqEntryS_S0 N)]
theorem laws_eqEntryS_r0 : RndOk laws_eqEntryS_s Tryz.f26 laws_eqEntryS_m laws_eqEntryS_g 0 laws_eqEntryS_S0 := fun _ _ _ _ => by kernel_rfl
theorem laws_eqEntryS_e : FunOk laws_eqEntryS_s Tryz.f26 laws_eqEntryS_m laws_eqEntryS_g (fun N x => laws_eqEntryS_k N x.1 x.2.1) := fun _ _ => by kernel_rfl
theorem laws_eqEntryS_o : Known Tryz.prog 26 laws_eqEntryS_m := known_v (g := laws_eqEntryS_g) (.cons laws_eqEntry_o .nil) Tryz.func26 (by kernel_rfl) ⟨⟨fun _ _ => rfl, laws_eqEntryS_r0 fuel⟩, trivial⟩ laws_eqEntryS_e (fun _ => rfl)
def laws_eqArchive_k (N : Nat) (x0 : L38) (x1 : L38) : Option (Unit × (Bool × Unit)) :=
  tb (bnot (beq x0.1 x1.1))
  (some ((), false, ()))
  (obind (laws_eqDisk ((x0.2.1.1, x0.2.1.2.1, ()), (x1.2.1.1, x1.2.1.2.1, ()), ())) fun v0 =>
    tb (bnot v0.2.1)
    (some ((), false, ()))
    (obind (laws_eqHead ((x0.2.2.1.1, x0.2.2.1.2.1, x0.2.2.1.2.2.1, ()), (x1.2.2.1.1, x1.2.2.1.2.1, x1.2.2.1.2.2.1, ()), ())) fun v1 =>
      tb (bnot v1.2.1)
      (some ((), false, ()))
      (obind (laws_eqEntryS (x0.2.2.2.1, x1.2.2.2.1, ())) fun v2 =>
        tb (bnot v2.2.1)
        (some ((), false, ()))
        (some ((), true, ())))))
def laws_eqArchive (x : (L38 × L38 × Unit)) : Option (Unit × (Bool × Unit)) := laws_eqArchive_k fuel x.1 x.2.1
def laws_eqArchive_m : Con := ⟨[.val S38, .val S38], [.bool], (.pair .bool .unit), laws_eqArchive⟩
def laws_eqArchive_s : List (Nat × Con) := [(24, laws_eqDisk_m), (25, laws_eqHead_m), (26, laws_eqEntryS_m)]
def laws_eqArchive_g (N : Nat) : List (Nat × Seg (Rof laws_eqArchive_m)) := []
theorem laws_eqArchive_e : FunOk laws_eqArchive_s Tryz.f9 laws_eqArchive_m laws_eqArchive_g (fun N x => laws_eqArchive_k N x.1 x.2.1) := fun _ _ => by kernel_rfl
theorem laws_eqArchive_o : Known Tryz.prog 9 laws_eqArchive_m := known_v (g := laws_eqArchive_g) (.cons laws_eqDisk_o (.cons laws_eqHead_o (.cons laws_eqEntryS_o .nil))) Tryz.func9 (by kernel_rfl) trivial laws_eqArchive_e (fun _ => rfl)
def laws_markText_P0 : Tpl := ⟨[(0, .one (.leaf (.int .i64))), (3, .one (.leaf .str))], [], []⟩
def laws_markText_O0 : Tpl := ⟨[(3, .one (.leaf .str))], [], []⟩
def laws_markText_k0 (N : Nat) : Nat → (((ByteArray × Unit) × (Unit × Unit)) → Option (Unit × (ByteArray × Unit))) → ((Int × ByteArray × Unit) × (Unit × Unit)) → Option (Unit × (ByteArray × Unit))
  | 0, _, _ => none
  | n + 1, k, x =>
    tb (ilt 0 x.1.1)
    (chk ((10 : Int) = 0) (none) (chk ((plus (slen (strOf [(wr .u8 (wr .i64 (48 + (Int.tmod x.1.1 10))))])) (slen x.1.2.1)) < slim) (chk ((10 : Int) = 0) (none) (laws_markText_k0 N n k (((wr .i64 (Int.tdiv x.1.1 10)), (sapp (strOf [(wr .u8 (wr .i64 (48 + (Int.tmod x.1.1 10))))]) x.1.2.1), ()), (), ()))) (none)))
    (k ((x.1.2.1, ()), (), ()))
def laws_markText_k (N : Nat) (x0 : Int) : Option (Unit × (ByteArray × Unit)) :=
  tb (ile x0 0)
  (some ((), (⟨#[109, 48]⟩ : ByteArray), ()))
  (laws_markText_k0 N N (fun v0 =>
      chk ((plus (slen (⟨#[109]⟩ : ByteArray)) (slen v0.1.1)) < slim) (some ((), (sapp (⟨#[109]⟩ : ByteArray) v0.1.1), ())) (none)) ((x0, (⟨#[]⟩ : ByteArray), ()), (), ()))
def laws_markText (x : (Int × Unit)) : Option (Unit × (ByteArray × Unit)) := laws_markText_k fuel x.1
def laws_markText_m : Con := ⟨[.val (.int .i64)], [.str], (.pair .str .unit), laws_markText⟩
def laws_markText_s : List (Nat × Con) := []
def laws_markText_S0 (N : Nat) : Seg (Rof laws_markText_m) := ⟨laws_markText_P0, laws_markText_O0, [], [], laws_markText_k0 N⟩
def laws_markText_g (N : Nat) : List (Nat × Seg (Rof laws_markText_m)) := [(0, laws_markText_S0 N)]
theorem laws_markText_r0 : RndOk laws_markText_s Tryz.f52 laws_markText_m laws_markText_g 0 laws_markText_S0 := fun _ _ _ _ => by kernel_rfl
theorem laws_markText_e : FunOk laws_markText_s Tryz.f52 laws_markText_m laws_markText_g (fun N x => laws_markText_k N x.1) := fun _ _ => by kernel_rfl
theorem laws_markText_o : Known Tryz.prog 52 laws_markText_m := known_v (g := laws_markText_g) .nil Tryz.func52 (by kernel_rfl) ⟨⟨fun _ _ => rfl, laws_markText_r0 fuel⟩, trivial⟩ laws_markText_e (fun _ => rfl)
def laws_markStringS_P0 : Tpl := ⟨[(0, .one (.fix (.ref 500 [] none))), (1, .one (.leaf (.int .i64))), (5, .one (.leaf (.int .i64)))], [], [(500, .str)]⟩
def laws_markStringS_O0 : Tpl := ⟨[(1, .one (.leaf (.int .i64)))], [], [(500, .str)]⟩
def laws_markStringS_k0 (N : Nat) : Nat → (((Int × Unit) × (Unit × ((List ByteArray) × Unit))) → Option (((List ByteArray) × Unit) × (Int × Unit))) → ((Int × Int × Unit) × (Unit × ((List ByteArray) × Unit))) → Option (((List ByteArray) × Unit) × (Int × Unit))
  | 0, _, _ => none
  | n + 1, k, x =>
    tb (ilt x.1.2.1 (((llen x.2.2.1) : Nat) : Int))
    (obind (laws_markText (x.1.1, ())) fun v0 =>
      chk ((0 ≤ x.1.2.1) ∧ (x.1.2.1 < (((llen x.2.2.1) : Nat) : Int))) (obind (at? x.2.2.1 (Int.toNat x.1.2.1)) fun v1 =>
        laws_markStringS_k0 N n k (((wr .i64 (x.1.1 + 1)), (wr .i64 (x.1.2.1 + 1)), ()), (), (lset x.2.2.1 (Int.toNat x.1.2.1) v0.2.1), ())) (none))
    (k ((x.1.1, ()), (), x.2.2.1, ()))
def laws_markStringS_k (N : Nat) (x0 : (List ByteArray)) (x1 : Int) : Option (((List ByteArray) × Unit) × (Int × Unit)) :=
  laws_markStringS_k0 N N (fun v0 =>
    some ((v0.2.2.1, ()), v0.1.1, ())) ((x1, 0, ()), (), x0, ())
def laws_markStringS (x : ((List ByteArray) × Int × Unit)) : Option (((List ByteArray) × Unit) × (Int × Unit)) := laws_markStringS_k fuel x.1 x.2.1
def laws_markStringS_m : Con := ⟨[.bor (.row true .str), .val (.int .i64)], [(.int .i64)], (.pair (.int .i64) .unit), laws_markStringS⟩
def laws_markStringS_s : List (Nat × Con) := [(52, laws_markText_m)]
def laws_markStringS_S0 (N : Nat) : Seg (Rof laws_markStringS_m) := ⟨laws_markStringS_P0, laws_markStringS_O0, [], [], laws_markStringS_k0 N⟩
def laws_markStringS_g (N : Nat) : List (Nat × Seg (Rof laws_markStringS_m)) := [(0, laws_markStringS_S0 N)]
theorem laws_markStringS_r0 : RndOk laws_markStringS_s Tryz.f50 laws_markStringS_m laws_markStringS_g 0 laws_markStringS_S0 := fun _ _ _ _ => by kernel_rfl
theorem laws_markStringS_e : FunOk laws_markStringS_s Tryz.f50 laws_markStringS_m laws_markStringS_g (fun N x => laws_markStringS_k N x.1 x.2.1) := fun _ _ => by kernel_rfl
theorem laws_markStringS_o : Known Tryz.prog 50 laws_markStringS_m := known_v (g := laws_markStringS_g) (.cons laws_markText_o .nil) Tryz.func50 (by kernel_rfl) ⟨⟨fun _ _ => rfl, laws_markStringS_r0 fuel⟩, trivial⟩ laws_markStringS_e (fun _ => rfl)
def laws_markPutS_P0 : Tpl := ⟨[(0, .one (.fix (.ref 500 [] none))), (1, .one (.leaf (.int .i64))), (5, .one (.leaf (.int .i64)))], [], [(500, (.pair (.int .i64) (.pair .str .unit)))]⟩
def laws_markPutS_O0 : Tpl := ⟨[(1, .one (.leaf (.int .i64)))], [], [(500, (.pair (.int .i64) (.pair .str .unit)))]⟩
def laws_markPutS_k0 (N : Nat) : Nat → (((Int × Unit) × (Unit × ((List (Int × (ByteArray × Unit))) × Unit))) → Option (((List L121) × Unit) × (Int × Unit))) → ((Int × Int × Unit) × (Unit × ((List (Int × (ByteArray × Unit))) × Unit))) → Option (((List L121) × Unit) × (Int × Unit))
  | 0, _, _ => none
  | n + 1, k, x =>
    tb (ilt x.1.2.1 (((llen x.2.2.1) : Nat) : Int))
    (chk ((0 ≤ x.1.2.1) ∧ (x.1.2.1 < (((llen x.2.2.1) : Nat) : Int))) (obind (at? x.2.2.1 (Int.toNat x.1.2.1)) fun v0 =>
        obind (laws_markText ((wr .i64 (x.1.1 + 1)), ())) fun v1 =>
        chk ((0 ≤ x.1.2.1) ∧ (x.1.2.1 < (((llen (lset x.2.2.1 (Int.toNat x.1.2.1) (x.1.1, v0.2))) : Nat) : Int))) (obind (at? (lset x.2.2.1 (Int.toNat x.1.2.1) (x.1.1, v0.2)) (Int.toNat x.1.2.1)) fun v2 =>
          laws_markPutS_k0 N n k (((wr .i64 ((wr .i64 (x.1.1 + 1)) + 1)), (wr .i64 (x.1.2.1 + 1)), ()), (), (lset (lset x.2.2.1 (Int.toNat x.1.2.1) (x.1.1, v0.2)) (Int.toNat x.1.2.1) (v2.1, v1.2.1, v2.2.2)), ())) (none)) (none))
    (k ((x.1.1, ()), (), x.2.2.1, ()))
def laws_markPutS_k (N : Nat) (x0 : (List L121)) (x1 : Int) : Option (((List L121) × Unit) × (Int × Unit)) :=
  laws_markPutS_k0 N N (fun v0 =>
    some ((v0.2.2.1, ()), v0.1.1, ())) ((x1, 0, ()), (), x0, ())
def laws_markPutS (x : ((List L121) × Int × Unit)) : Option (((List L121) × Unit) × (Int × Unit)) := laws_markPutS_k fuel x.1 x.2.1
def laws_markPutS_m : Con := ⟨[.bor (.row true T121), .val (.int .i64)], [(.int .i64)], (.pair (.int .i64) .unit), laws_markPutS⟩
def laws_markPutS_s : List (Nat × Con) := [(52, laws_markText_m)]
def laws_markPutS_S0 (N : Nat) : Seg (Rof laws_markPutS_m) := ⟨laws_markPutS_P0, laws_markPutS_O0, [], [], laws_markPutS_k0 N⟩
def laws_markPutS_g (N : Nat) : List (Nat × Seg (Rof laws_markPutS_m)) := [(0, laws_markPutS_S0 N)]
theorem laws_markPutS_r0 : RndOk laws_markPutS_s Tryz.f51 laws_markPutS_m laws_markPutS_g 0 laws_markPutS_S0 := fun _ _ _ _ => by kernel_rfl
theorem laws_markPutS_e : FunOk laws_markPutS_s Tryz.f51 laws_markPutS_m laws_markPutS_g (fun N x => laws_markPutS_k N x.1 x.2.1) := fun _ _ => by kernel_rfl
theorem laws_markPutS_o : Known Tryz.prog 51 laws_markPutS_m := known_v (g := laws_markPutS_g) (.cons laws_markText_o .nil) Tryz.func51 (by kernel_rfl) ⟨⟨fun _ _ => rfl, laws_markPutS_r0 fuel⟩, trivial⟩ laws_markPutS_e (fun _ => rfl)
def laws_markDisk_k (N : Nat) (x0 : L34) (x1 : Int) : Option ((((List ByteArray) × (List L121) × Unit) × Unit) × (Int × Unit)) :=
  obind (laws_markStringS (x0.1, x1, ())) fun v0 =>
  obind (laws_markPutS (x0.2.1, v0.2.1, ())) fun v1 =>
  some (((v0.1.1, v1.1.1, ()), ()), v1.2.1, ())
def laws_markDisk (x : (L34 × Int × Unit)) : Option ((((List ByteArray) × (List L121) × Unit) × Unit) × (Int × Unit)) := laws_markDisk_k fuel x.1 x.2.1
def laws_markDisk_m : Con := ⟨[.bor T34, .val (.int .i64)], [(.int .i64)], (.pair (.int .i64) .unit), laws_markDisk⟩
def laws_markDisk_s : List (Nat × Con) := [(50, laws_markStringS_m), (51, laws_markPutS_m)]
def laws_markDisk_g (N : Nat) : List (Nat × Seg (Rof laws_markDisk_m)) := []
theorem laws_markDisk_e : FunOk laws_markDisk_s Tryz.f27 laws_markDisk_m laws_markDisk_g (fun N x => laws_markDisk_k N x.1 x.2.1) := fun _ _ => by kernel_rfl
theorem laws_markDisk_o : Known Tryz.prog 27 laws_markDisk_m := known_v (g := laws_markDisk_g) (.cons laws_markStringS_o (.cons laws_markPutS_o .nil)) Tryz.func27 (by kernel_rfl) trivial laws_markDisk_e (fun _ => rfl)
def laws_markEntryS_P0 : Tpl := ⟨[(0, .one (.fix (.ref 500 [] none))), (1, .one (.leaf (.int .i64))), (5, .one (.leaf (.int .i64)))], [], [(500, (.pair .str (.pair .str .unit)))]⟩
def laws_markEntryS_O0 : Tpl := ⟨[(1, .one (.leaf (.int .i64)))], [], [(500, (.pair .str (.pair .str .unit)))]⟩
def laws_markEntryS_k0 (N : Nat) : Nat → (((Int × Unit) × (Unit × ((List (ByteArray × (ByteArray × Unit))) × Unit))) → Option (((List L80) × Unit) × (Int × Unit))) → ((Int × Int × Unit) × (Unit × ((List (ByteArray × (ByteArray × Unit))) × Unit))) → Option (((List L80) × Unit) × (Int × Unit))
  | 0, _, _ => none
  | n + 1, k, x =>
    tb (ilt x.1.2.1 (((llen x.2.2.1) : Nat) : Int))
    (obind (laws_markText (x.1.1, ())) fun v0 =>
      chk ((0 ≤ x.1.2.1) ∧ (x.1.2.1 < (((llen x.2.2.1) : Nat) : Int))) (obind (at? x.2.2.1 (Int.toNat x.1.2.1)) fun v1 =>
        obind (laws_markText ((wr .i64 (x.1.1 + 1)), ())) fun v2 =>
        chk ((0 ≤ x.1.2.1) ∧ (x.1.2.1 < (((llen (lset x.2.2.1 (Int.toNat x.1.2.1) (v0.2.1, v1.2))) : Nat) : Int))) (obind (at? (lset x.2.2.1 (Int.toNat x.1.2.1) (v0.2.1, v1.2)) (Int.toNat x.1.2.1)) fun v3 =>
          laws_markEntryS_k0 N n k (((wr .i64 ((wr .i64 (x.1.1 + 1)) + 1)), (wr .i64 (x.1.2.1 + 1)), ()), (), (lset (lset x.2.2.1 (Int.toNat x.1.2.1) (v0.2.1, v1.2)) (Int.toNat x.1.2.1) (v3.1, v2.2.1, v3.2.2)), ())) (none)) (none))
    (k ((x.1.1, ()), (), x.2.2.1, ()))
def laws_markEntryS_k (N : Nat) (x0 : (List L80)) (x1 : Int) : Option (((List L80) × Unit) × (Int × Unit)) :=
  laws_markEntryS_k0 N N (fun v0 =>
    some ((v0.2.2.1, ()), v0.1.1, ())) ((x1, 0, ()), (), x0, ())
def laws_markEntryS (x : ((List L80) × Int × Unit)) : Option (((List L80) × Unit) × (Int × Unit)) := laws_markEntryS_k fuel x.1 x.2.1
def laws_markEntryS_m : Con := ⟨[.bor (.row true T80), .val (.int .i64)], [(.int .i64)], (.pair (.int .i64) .unit), laws_markEntryS⟩
def laws_markEntryS_s : List (Nat × Con) := [(52, laws_markText_m)]
def laws_markEntryS_S0 (N : Nat) : Seg (Rof laws_markEntryS_m) := ⟨laws_markEntryS_P0, laws_markEntryS_O0, [], [], laws_markEntryS_k0 N⟩
def laws_markEntryS_g (N : Nat) : List (Nat × Seg (Rof laws_markEntryS_m)) := [(0, laws_markEntryS_S0 N)]
theorem laws_markEntryS_r0 : RndOk laws_markEntryS_s Tryz.f28 laws_markEntryS_m laws_markEntryS_g 0 laws_markEntryS_S0 := fun _ _ _ _ => by kernel_rfl
theorem laws_markEntryS_e : FunOk laws_markEntryS_s Tryz.f28 laws_markEntryS_m laws_markEntryS_g (fun N x => laws_markEntryS_k N x.1 x.2.1) := fun _ _ => by kernel_rfl
theorem laws_markEntryS_o : Known Tryz.prog 28 laws_markEntryS_m := known_v (g := laws_markEntryS_g) (.cons laws_markText_o .nil) Tryz.func28 (by kernel_rfl) ⟨⟨fun _ _ => rfl, laws_markEntryS_r0 fuel⟩, trivial⟩ laws_markEntryS_e (fun _ => rfl)
def laws_markArchive_k (N : Nat) (x0 : L38) (x1 : Int) : Option (((Unit × ((List ByteArray) × (List L121) × Unit) × (Unit × Unit × Unit × Unit) × (List L80) × Unit) × Unit) × (Int × Unit)) :=
  obind (laws_markDisk ((x0.2.1.1, x0.2.1.2.1, ()), x1, ())) fun v0 =>
  obind (laws_markEntryS (x0.2.2.2.1, v0.2.1, ())) fun v1 =>
  some ((((), (v0.1.1.1, v0.1.1.2.1, ()), ((), (), (), ()), v1.1.1, ()), ()), v1.2.1, ())
def laws_markArchive (x : (L38 × Int × Unit)) : Option (((Unit × ((List ByteArray) × (List L121) × Unit) × (Unit × Unit × Unit × Unit) × (List L80) × Unit) × Unit) × (Int × Unit)) := laws_markArchive_k fuel x.1 x.2.1
def laws_markArchive_m : Con := ⟨[.bor T38, .val (.int .i64)], [(.int .i64)], (.pair (.int .i64) .unit), laws_markArchive⟩
def laws_markArchive_s : List (Nat × Con) := [(27, laws_markDisk_m), (28, laws_markEntryS_m)]
def laws_markArchive_g (N : Nat) : List (Nat × Seg (Rof laws_markArchive_m)) := []
theorem laws_markArchive_e : FunOk laws_markArchive_s Tryz.f10 laws_markArchive_m laws_markArchive_g (fun N x => laws_markArchive_k N x.1 x.2.1) := fun _ _ => by kernel_rfl
theorem laws_markArchive_o : Known Tryz.prog 10 laws_markArchive_m := known_v (g := laws_markArchive_g) (.cons laws_markDisk_o (.cons laws_markEntryS_o .nil)) Tryz.func10 (by kernel_rfl) trivial laws_markArchive_e (fun _ => rfl)
def laws_heldStringS_P0 : Tpl := ⟨[(0, .one (.leaf (.row false .str))), (1, .one (.leaf (.int .i64))), (5, .one (.leaf (.int .i64)))], [], []⟩
def laws_heldStringS_O0 : Tpl := ⟨[(1, .one (.leaf (.int .i64)))], [], []⟩
def laws_heldStringS_k0 (N : Nat) : Nat → (((Int × Unit) × (Unit × Unit)) → Option (Unit × (Int × Unit))) → (((List ByteArray) × Int × Int × Unit) × (Unit × Unit)) → Option (Unit × (Int × Unit))
  | 0, _, _ => none
  | n + 1, k, x =>
    tb (ilt x.1.2.2.1 (((llen x.1.1) : Nat) : Int))
    (chk (0 ≤ x.1.2.2.1) (obind (at? x.1.1 (Int.toNat x.1.2.2.1)) fun v0 =>
        obind (laws_markText (x.1.2.1, ())) fun v1 =>
        tb (bnot (seq v0 v1.2.1))
        (some ((), (-1), ()))
        (laws_heldStringS_k0 N n k ((x.1.1, (wr .i64 (x.1.2.1 + 1)), (wr .i64 (x.1.2.2.1 + 1)), ()), (), ()))) (none))
    (k ((x.1.2.1, ()), (), ()))
def laws_heldStringS_k (N : Nat) (x0 : (List ByteArray)) (x1 : Int) : Option (Unit × (Int × Unit)) :=
  laws_heldStringS_k0 N N (fun v0 =>
    some ((), v0.1.1, ())) ((x0, x1, 0, ()), (), ())
def laws_heldStringS (x : ((List ByteArray) × Int × Unit)) : Option (Unit × (Int × Unit)) := laws_heldStringS_k fuel x.1 x.2.1
def laws_heldStringS_m : Con := ⟨[.val (.row false .str), .val (.int .i64)], [(.int .i64)], (.pair (.int .i64) .unit), laws_heldStringS⟩
def laws_heldStringS_s : List (Nat × Con) := [(52, laws_markText_m)]
def laws_heldStringS_S0 (N : Nat) : Seg (Rof laws_heldStringS_m) := ⟨laws_heldStringS_P0, laws_heldStringS_O0, [], [], laws_heldStringS_k0 N⟩
def laws_heldStringS_g (N : Nat) : List (Nat × Seg (Rof laws_heldStringS_m)) := [(0, laws_heldStringS_S0 N)]
theorem laws_heldStringS_r0 : RndOk laws_heldStringS_s Tryz.f53 laws_heldStringS_m laws_heldStringS_g 0 laws_heldStringS_S0 := fun _ _ _ _ => by kernel_rfl
theorem laws_heldStringS_e : FunOk laws_heldStringS_s Tryz.f53 laws_heldStringS_m laws_heldStringS_g (fun N x => laws_heldStringS_k N x.1 x.2.1) := fun _ _ => by kernel_rfl
theorem laws_heldStringS_o : Known Tryz.prog 53 laws_heldStringS_m := known_v (g := laws_heldStringS_g) (.cons laws_markText_o .nil) Tryz.func53 (by kernel_rfl) ⟨⟨fun _ _ => rfl, laws_heldStringS_r0 fuel⟩, trivial⟩ laws_heldStringS_e (fun _ => rfl)
def laws_heldPutS_P0 : Tpl := ⟨[(0, .one (.leaf (.row false (.pair (.int .i64) (.pair .str .unit))))), (1, .one (.leaf (.int .i64))), (5, .one (.leaf (.int .i64)))], [], []⟩
def laws_heldPutS_O0 : Tpl := ⟨[(1, .one (.leaf (.int .i64)))], [], []⟩
def laws_heldPutS_k0 (N : Nat) : Nat → (((Int × Unit) × (Unit × Unit)) → Option (Unit × (Int × Unit))) → (((List (Int × (ByteArray × Unit))) × Int × Int × Unit) × (Unit × Unit)) → Option (Unit × (Int × Unit))
  | 0, _, _ => none
  | n + 1, k, x =>
    tb (ilt x.1.2.2.1 (((llen x.1.1) : Nat) : Int))
    (chk (0 ≤ x.1.2.2.1) (obind (at? x.1.1 (Int.toNat x.1.2.2.1)) fun v0 =>
        tb (bnot (ieq v0.1 x.1.2.1))
        (some ((), (-1), ()))
        (chk (0 ≤ x.1.2.2.1) (obind (at? x.1.1 (Int.toNat x.1.2.2.1)) fun v1 =>
            obind (laws_markText ((wr .i64 (x.1.2.1 + 1)), ())) fun v2 =>
            tb (bnot (seq v1.2.1 v2.2.1))
            (some ((), (-1), ()))
            (laws_heldPutS_k0 N n k ((x.1.1, (wr .i64 ((wr .i64 (x.1.2.1 + 1)) + 1)), (wr .i64 (x.1.2.2.1 + 1)), ()), (), ()))) (none))) (none))
    (k ((x.1.2.1, ()), (), ()))
def laws_heldPutS_k (N : Nat) (x0 : (List L121)) (x1 : Int) : Option (Unit × (Int × Unit)) :=
  laws_heldPutS_k0 N N (fun v0 =>
    some ((), v0.1.1, ())) ((x0, x1, 0, ()), (), ())
def laws_heldPutS (x : ((List L121) × Int × Unit)) : Option (Unit × (Int × Unit)) := laws_heldPutS_k fuel x.1 x.2.1
def laws_heldPutS_m : Con := ⟨[.val (.row false S121), .val (.int .i64)], [(.int .i64)], (.pair (.int .i64) .unit), laws_heldPutS⟩
def laws_heldPutS_s : List (Nat × Con) := [(52, laws_markText_m)]
def laws_heldPutS_S0 (N : Nat) : Seg (Rof laws_heldPutS_m) := ⟨laws_heldPutS_P0, laws_heldPutS_O0, [], [], laws_heldPutS_k0 N⟩
def laws_heldPutS_g (N : Nat) : List (Nat × Seg (Rof laws_heldPutS_m)) := [(0, laws_heldPutS_S0 N)]
theorem laws_heldPutS_r0 : RndOk laws_heldPutS_s Tryz.f54 laws_heldPutS_m laws_heldPutS_g 0 laws_heldPutS_S0 := fun _ _ _ _ => by kernel_rfl
theorem laws_heldPutS_e : FunOk laws_heldPutS_s Tryz.f54 laws_heldPutS_m laws_heldPutS_g (fun N x => laws_heldPutS_k N x.1 x.2.1) := fun _ _ => by kernel_rfl
theorem laws_heldPutS_o : Known Tryz.prog 54 laws_heldPutS_m := known_v (g := laws_heldPutS_g) (.cons laws_markText_o .nil) Tryz.func54 (by kernel_rfl) ⟨⟨fun _ _ => rfl, laws_heldPutS_r0 fuel⟩, trivial⟩ laws_heldPutS_e (fun _ => rfl)
def laws_heldDisk_k (N : Nat) (x0 : L34) (x1 : Int) : Option (Unit × (Int × Unit)) :=
  obind (laws_heldStringS (x0.1, x1, ())) fun v0 =>
  tb (ilt v0.2.1 0)
  (some ((), (-1), ()))
  (obind (laws_heldPutS (x0.2.1, v0.2.1, ())) fun v1 =>
    tb (ilt v1.2.1 0)
    (some ((), (-1), ()))
    (some ((), v1.2.1, ())))
def laws_heldDisk (x : (L34 × Int × Unit)) : Option (Unit × (Int × Unit)) := laws_heldDisk_k fuel x.1 x.2.1
def laws_heldDisk_m : Con := ⟨[.val S34, .val (.int .i64)], [(.int .i64)], (.pair (.int .i64) .unit), laws_heldDisk⟩
def laws_heldDisk_s : List (Nat × Con) := [(53, laws_heldStringS_m), (54, laws_heldPutS_m)]
def laws_heldDisk_g (N : Nat) : List (Nat × Seg (Rof laws_heldDisk_m)) := []
theorem laws_heldDisk_e : FunOk laws_heldDisk_s Tryz.f29 laws_heldDisk_m laws_heldDisk_g (fun N x => laws_heldDisk_k N x.1 x.2.1) := fun _ _ => by kernel_rfl
theorem laws_heldDisk_o : Known Tryz.prog 29 laws_heldDisk_m := known_v (g := laws_heldDisk_g) (.cons laws_heldStringS_o (.cons laws_heldPutS_o .nil)) Tryz.func29 (by kernel_rfl) trivial laws_heldDisk_e (fun _ => rfl)
def laws_heldEntryS_P0 : Tpl := ⟨[(0, .one (.leaf (.row false (.pair .str (.pair .str .unit))))), (1, .one (.leaf (.int .i64))), (5, .one (.leaf (.int .i64)))], [], []⟩
def laws_heldEntryS_O0 : Tpl := ⟨[(1, .one (.leaf (.int .i64)))], [], []⟩
def laws_heldEntryS_k0 (N : Nat) : Nat → (((Int × Unit) × (Unit × Unit)) → Option (Unit × (Int × Unit))) → (((List (ByteArray × (ByteArray × Unit))) × Int × Int × Unit) × (Unit × Unit)) → Option (Unit × (Int × Unit))
  | 0, _, _ => none
  | n + 1, k, x =>
    tb (ilt x.1.2.2.1 (((llen x.1.1) : Nat) : Int))
    (chk (0 ≤ x.1.2.2.1) (obind (at? x.1.1 (Int.toNat x.1.2.2.1)) fun v0 =>
        obind (laws_markText (x.1.2.1, ())) fun v1 =>
        tb (bnot (seq v0.1 v1.2.1))
        (some ((), (-1), ()))
        (chk (0 ≤ x.1.2.2.1) (obind (at? x.1.1 (Int.toNat x.1.2.2.1)) fun v2 =>
            obind (laws_markText ((wr .i64 (x.1.2.1 + 1)), ())) fun v3 =>
            tb (bnot (seq v2.2.1 v3.2.1))
            (some ((), (-1), ()))
            (laws_heldEntryS_k0 N n k ((x.1.1, (wr .i64 ((wr .i64 (x.1.2.1 + 1)) + 1)), (wr .i64 (x.1.2.2.1 + 1)), ()), (), ()))) (none))) (none))
    (k ((x.1.2.1, ()), (), ()))
def laws_heldEntryS_k (N : Nat) (x0 : (List L80)) (x1 : Int) : Option (Unit × (Int × Unit)) :=
  laws_heldEntryS_k0 N N (fun v0 =>
    some ((), v0.1.1, ())) ((x0, x1, 0, ()), (), ())
def laws_heldEntryS (x : ((List L80) × Int × Unit)) : Option (Unit × (Int × Unit)) := laws_heldEntryS_k fuel x.1 x.2.1
def laws_heldEntryS_m : Con := ⟨[.val (.row false S80), .val (.int .i64)], [(.int .i64)], (.pair (.int .i64) .unit), laws_heldEntryS⟩
def laws_heldEntryS_s : List (Nat × Con) := [(52, laws_markText_m)]
def laws_heldEntryS_S0 (N : Nat) : Seg (Rof laws_heldEntryS_m) := ⟨laws_heldEntryS_P0, laws_heldEntryS_O0, [], [], laws_heldEntryS_k0 N⟩
def laws_heldEntryS_g (N : Nat) : List (Nat × Seg (Rof laws_heldEntryS_m)) := [(0, laws_heldEntryS_S0 N)]
theorem laws_heldEntryS_r0 : RndOk laws_heldEntryS_s Tryz.f30 laws_heldEntryS_m laws_heldEntryS_g 0 laws_heldEntryS_S0 := fun _ _ _ _ => by kernel_rfl
theorem laws_heldEntryS_e : FunOk laws_heldEntryS_s Tryz.f30 laws_heldEntryS_m laws_heldEntryS_g (fun N x => laws_heldEntryS_k N x.1 x.2.1) := fun _ _ => by kernel_rfl
theorem laws_heldEntryS_o : Known Tryz.prog 30 laws_heldEntryS_m := known_v (g := laws_heldEntryS_g) (.cons laws_markText_o .nil) Tryz.func30 (by kernel_rfl) ⟨⟨fun _ _ => rfl, laws_heldEntryS_r0 fuel⟩, trivial⟩ laws_heldEntryS_e (fun _ => rfl)
def laws_heldArchive_k (N : Nat) (x0 : L38) (x1 : Int) : Option (Unit × (Int × Unit)) :=
  obind (laws_heldDisk ((x0.2.1.1, x0.2.1.2.1, ()), x1, ())) fun v0 =>
  tb (ilt v0.2.1 0)
  (some ((), (-1), ()))
  (obind (laws_heldEntryS (x0.2.2.2.1, v0.2.1, ())) fun v1 =>
    tb (ilt v1.2.1 0)
    (some ((), (-1), ()))
    (some ((), v1.2.1, ())))
def laws_heldArchive (x : (L38 × Int × Unit)) : Option (Unit × (Int × Unit)) := laws_heldArchive_k fuel x.1 x.2.1
def laws_heldArchive_m : Con := ⟨[.val S38, .val (.int .i64)], [(.int .i64)], (.pair (.int .i64) .unit), laws_heldArchive⟩
def laws_heldArchive_s : List (Nat × Con) := [(29, laws_heldDisk_m), (30, laws_heldEntryS_m)]
def laws_heldArchive_g (N : Nat) : List (Nat × Seg (Rof laws_heldArchive_m)) := []
theorem laws_heldArchive_e : FunOk laws_heldArchive_s Tryz.f11 laws_heldArchive_m laws_heldArchive_g (fun N x => laws_heldArchive_k N x.1 x.2.1) := fun _ _ => by kernel_rfl
theorem laws_heldArchive_o : Known Tryz.prog 11 laws_heldArchive_m := known_v (g := laws_heldArchive_g) (.cons laws_heldDisk_o (.cons laws_heldEntryS_o .nil)) Tryz.func11 (by kernel_rfl) trivial laws_heldArchive_e (fun _ => rfl)
def spec_ArchiveDrop_k (N : Nat) (x0 : L38) (x1 : ByteArray) : Option (Unit × (L38 × Int × Unit)) :=
  obind (spec_l18Done ((x0.1, (x0.2.1.1, x0.2.1.2.1, ()), (x0.2.2.1.1, x0.2.2.1.2.1, x0.2.2.1.2.2.1, ()), x0.2.2.2.1, ()), 2, x1, [], ())) fun v0 =>
  some ((), (v0.2.1.1, (v0.2.1.2.1.1, v0.2.1.2.1.2.1, ()), (v0.2.1.2.2.1.1, v0.2.1.2.2.1.2.1, v0.2.1.2.2.1.2.2.1, ()), v0.2.1.2.2.2.1, ()), v0.2.2.1, ())
def spec_ArchiveDrop (x : (L38 × ByteArray × Unit)) : Option (Unit × (L38 × Int × Unit)) := spec_ArchiveDrop_k fuel x.1 x.2.1
def spec_ArchiveDrop_m : Con := ⟨[.val S38, .val .str], [S38, (.int .i64)], (.pair S38 (.pair (.int .i64) .unit)), spec_ArchiveDrop⟩
def spec_ArchiveDrop_s : List (Nat × Con) := [(16, spec_l18Done_m)]
def spec_ArchiveDrop_g (N : Nat) : List (Nat × Seg (Rof spec_ArchiveDrop_m)) := []
theorem spec_ArchiveDrop_e : FunOk spec_ArchiveDrop_s Tryz.f12 spec_ArchiveDrop_m spec_ArchiveDrop_g (fun N x => spec_ArchiveDrop_k N x.1 x.2.1) := fun _ _ => by kernel_rfl
theorem spec_ArchiveDrop_o : Known Tryz.prog 12 spec_ArchiveDrop_m := known_v (g := spec_ArchiveDrop_g) (.cons spec_l18Done_o .nil) Tryz.func12 (by kernel_rfl) trivial spec_ArchiveDrop_e (fun _ => rfl)
def impl_IndexFind_P0 : Tpl := ⟨[(1, .one (.leaf .str)), (8, .one (.leaf (.row false (.pair .str (.pair .str .unit))))), (9, .one (.leaf (.int .i64))), (10, .one (.leaf (.int .i64)))], [], []⟩
def impl_IndexFind_O0 : Tpl := ⟨[], [], []⟩
def impl_IndexFind_k0 (N : Nat) : Nat → ((Unit × (Unit × Unit)) → Option (Unit × (ByteArray × Bool × Unit))) → ((ByteArray × (List (ByteArray × (ByteArray × Unit))) × Int × Int × Unit) × (Unit × Unit)) → Option (Unit × (ByteArray × Bool × Unit))
  | 0, _, _ => none
  | n + 1, k, x =>
    tb (ilt x.1.2.2.2.1 x.1.2.2.1)
    (chk (0 ≤ x.1.2.2.2.1) (obind (at? x.1.2.1 (Int.toNat x.1.2.2.2.1)) fun v0 =>
        tb (seq v0.1 x.1.1)
        (some ((), v0.2.1, true, ()))
        (impl_IndexFind_k0 N n k ((x.1.1, x.1.2.1, x.1.2.2.1, (wr .i64 (x.1.2.2.2.1 + 1)), ()), (), ()))) (none))
    (k ((), (), ()))
def impl_IndexFind_k (N : Nat) (x0 : (List L80)) (x1 : ByteArray) : Option (Unit × (ByteArray × Bool × Unit)) :=
  impl_IndexFind_k0 N N (fun v0 =>
    some ((), (⟨#[]⟩ : ByteArray), false, ())) ((x1, x0, (((llen x0) : Nat) : Int), 0, ()), (), ())
def impl_IndexFind (x : ((List L80) × ByteArray × Unit)) : Option (Unit × (ByteArray × Bool × Unit)) := impl_IndexFind_k fuel x.1 x.2.1
def impl_IndexFind_m : Con := ⟨[.val (.row false S80), .val .str], [.str, .bool], (.pair .str (.pair .bool .unit)), impl_IndexFind⟩
def impl_IndexFind_s : List (Nat × Con) := []
def impl_IndexFind_S0 (N : Nat) : Seg (Rof impl_IndexFind_m) := ⟨impl_IndexFind_P0, impl_IndexFind_O0, [], [], impl_IndexFind_k0 N⟩
def impl_IndexFind_g (N : Nat) : List (Nat × Seg (Rof impl_IndexFind_m)) := [(0, impl_IndexFind_S0 N)]
theorem impl_IndexFind_r0 : RndOk impl_IndexFind_s Tryz.f56 impl_IndexFind_m impl_IndexFind_g 0 impl_IndexFind_S0 := fun _ _ _ _ => by kernel_rfl
theorem impl_IndexFind_e : FunOk impl_IndexFind_s Tryz.f56 impl_IndexFind_m impl_IndexFind_g (fun N x => impl_IndexFind_k N x.1 x.2.1) := fun _ _ => by kernel_rfl
theorem impl_IndexFind_o : Known Tryz.prog 56 impl_IndexFind_m := known_v (g := impl_IndexFind_g) .nil Tryz.func56 (by kernel_rfl) ⟨⟨fun _ _ => rfl, impl_IndexFind_r0 fuel⟩, trivial⟩ impl_IndexFind_e (fun _ => rfl)
def impl_Archive_adding_k (N : Nat) (x0 : L38) (x1 : L99) : Option (Unit × (L57 × Unit)) :=
  obind (impl_RecordPack ((x1.1, x1.2.1, x1.2.2.1, ()), ())) fun v0 =>
  some ((), (x0.2.2.1.2.1, x0.2.2.1.2.2.1, v0.2.1, ((wr .i64 (x0.2.2.1.1 + 1)), x0.2.2.1.2.1, (wr .i64 (x0.2.2.1.2.2.1 + (((llen v0.2.1) : Nat) : Int))), ()), ()), ())
def impl_Archive_adding (x : (L38 × L99 × Unit)) : Option (Unit × (L57 × Unit)) := impl_Archive_adding_k fuel x.1 x.2.1
def impl_Archive_adding_m : Con := ⟨[.rptr T38, .val S99], [T57], (.pair T57 .unit), impl_Archive_adding⟩
def impl_Archive_adding_s : List (Nat × Con) := [(81, impl_RecordPack_m)]
def impl_Archive_adding_g (N : Nat) : List (Nat × Seg (Rof impl_Archive_adding_m)) := []
theorem impl_Archive_adding_e : FunOk impl_Archive_adding_s Tryz.f57 impl_Archive_adding_m impl_Archive_adding_g (fun N x => impl_Archive_adding_k N x.1 x.2.1) := fun _ _ => by kernel_rfl
theorem impl_Archive_adding_o : Known Tryz.prog 57 impl_Archive_adding_m := known_v (g := impl_Archive_adding_g) (.cons impl_RecordPack_o .nil) Tryz.func57 (by kernel_rfl) trivial impl_Archive_adding_e (fun _ => rfl)
def impl_Archive_dropping_k (N : Nat) (x0 : L38) (x1 : ByteArray) : Option (Unit × (L57 × Int × Unit)) :=
  obind (impl_UrlOk (x1, ())) fun v0 =>
  tb (bnot v0.2.1)
  (some ((), (0, 0, [], (0, 0, 0, ()), ()), 3, ()))
  (obind (impl_IndexFind (x0.2.2.2.1, x1, ())) fun v1 =>
    tb (bnot v1.2.2.1)
    (some ((), (0, 0, [], (0, 0, 0, ()), ()), 6, ()))
    (obind (impl_Archive_adding (x0, (2, x1, (⟨#[]⟩ : ByteArray), ()), ())) fun v2 =>
      some ((), (v2.2.1.1, v2.2.1.2.1, v2.2.1.2.2.1, (v2.2.1.2.2.2.1.1, v2.2.1.2.2.2.1.2.1, v2.2.1.2.2.2.1.2.2.1, ()), ()), 0, ())))
def impl_Archive_dropping (x : (L38 × ByteArray × Unit)) : Option (Unit × (L57 × Int × Unit)) := impl_Archive_dropping_k fuel x.1 x.2.1
def impl_Archive_dropping_m : Con := ⟨[.rptr T38, .val .str], [T57, (.int .i64)], (.pair T57 (.pair (.int .i64) .unit)), impl_Archive_dropping⟩
def impl_Archive_dropping_s : List (Nat × Con) := [(55, impl_UrlOk_m), (56, impl_IndexFind_m), (57, impl_Archive_adding_m)]
def impl_Archive_dropping_g (N : Nat) : List (Nat × Seg (Rof impl_Archive_dropping_m)) := []
theorem impl_Archive_dropping_e : FunOk impl_Archive_dropping_s Tryz.f31 impl_Archive_dropping_m impl_Archive_dropping_g (fun N x => impl_Archive_dropping_k N x.1 x.2.1) := fun _ _ => by kernel_rfl
theorem impl_Archive_dropping_o : Known Tryz.prog 31 impl_Archive_dropping_m := known_v (g := impl_Archive_dropping_g) (.cons impl_UrlOk_o (.cons impl_IndexFind_o (.cons impl_Archive_adding_o .nil))) Tryz.func31 (by kernel_rfl) trivial impl_Archive_dropping_e (fun _ => rfl)
def impl_ArchiveDrop_k (N : Nat) (x0 : L38) (x1 : ByteArray) : Option (Unit × (L38 × Int × Unit)) :=
  obind (impl_upCode ((x0.1, (x0.2.1.1, x0.2.1.2.1, ()), (x0.2.2.1.1, x0.2.2.1.2.1, x0.2.2.1.2.2.1, ()), x0.2.2.2.1, ()), ())) fun v0 =>
  tb (bnot (ieq v0.2.1 0))
  (obind (impl_refused ((x0.1, (x0.2.1.1, x0.2.1.2.1, ()), (x0.2.2.1.1, x0.2.2.1.2.1, x0.2.2.1.2.2.1, ()), x0.2.2.2.1, ()), v0.2.1, ())) fun v1 =>
    some ((), (v1.2.1.1, (v1.2.1.2.1.1, v1.2.1.2.1.2.1, ()), (v1.2.1.2.2.1.1, v1.2.1.2.2.1.2.1, v1.2.1.2.2.1.2.2.1, ()), v1.2.1.2.2.2.1, ()), v1.2.2.1, ()))
  (obind (impl_Archive_dropping ((x0.1, (x0.2.1.1, x0.2.1.2.1, ()), (x0.2.2.1.1, x0.2.2.1.2.1, x0.2.2.1.2.2.1, ()), x0.2.2.2.1, ()), x1, ())) fun v2 =>
    obind (impl_Archive_done ((x0.1, (x0.2.1.1, x0.2.1.2.1, ()), (x0.2.2.1.1, x0.2.2.1.2.1, x0.2.2.1.2.2.1, ()), x0.2.2.2.1, ()), (v2.2.1.1, v2.2.1.2.1, v2.2.1.2.2.1, (v2.2.1.2.2.2.1.1, v2.2.1.2.2.2.1.2.1, v2.2.1.2.2.2.1.2.2.1, ()), ()), v2.2.2.1, ())) fun v3 =>
    some ((), (v3.2.1.1, (v3.2.1.2.1.1, v3.2.1.2.1.2.1, ()), (v3.2.1.2.2.1.1, v3.2.1.2.2.1.2.1, v3.2.1.2.2.1.2.2.1, ()), v3.2.1.2.2.2.1, ()), v3.2.2.1, ()))
def impl_ArchiveDrop (x : (L38 × ByteArray × Unit)) : Option (Unit × (L38 × Int × Unit)) := impl_ArchiveDrop_k fuel x.1 x.2.1
def impl_ArchiveDrop_m : Con := ⟨[.val S38, .val .str], [T38, (.int .i64)], (.pair T38 (.pair (.int .i64) .unit)), impl_ArchiveDrop⟩
def impl_ArchiveDrop_s : List (Nat × Con) := [(20, impl_upCode_m), (21, impl_refused_m), (23, impl_Archive_done_m), (31, impl_Archive_dropping_m)]
def impl_ArchiveDrop_g (N : Nat) : List (Nat × Seg (Rof impl_ArchiveDrop_m)) := []
theorem impl_ArchiveDrop_e : FunOk impl_ArchiveDrop_s Tryz.f13 impl_ArchiveDrop_m impl_ArchiveDrop_g (fun N x => impl_ArchiveDrop_k N x.1 x.2.1) := fun _ _ => by kernel_rfl
theorem impl_ArchiveDrop_o : Known Tryz.prog 13 impl_ArchiveDrop_m := known_v (g := impl_ArchiveDrop_g) (.cons impl_upCode_o (.cons impl_refused_o (.cons impl_Archive_done_o (.cons impl_Archive_dropping_o .nil)))) Tryz.func13 (by kernel_rfl) trivial impl_ArchiveDrop_e (fun _ => rfl)
def laws_FnExactArchiveDrop_k (N : Nat) (x0 : L30) (x1 : ByteArray) : Option (Unit × (Bool × Unit)) :=
  tb (ilt 1048576 (((slen x1) : Nat) : Int))
  (some ((), true, ()))
  (obind (laws_szArchive ((x0.1, (x0.2.1.1, x0.2.1.2.1, ()), (x0.2.2.1.1, x0.2.2.1.2.1, x0.2.2.1.2.2.1, ()), x0.2.2.2.1, ()), 1048576, ())) fun v0 =>
    tb (ilt v0.2.1 0)
    (some ((), true, ()))
    (obind (laws_toArchive ((x0.1, (x0.2.1.1, x0.2.1.2.1, ()), (x0.2.2.1.1, x0.2.2.1.2.1, x0.2.2.1.2.2.1, ()), x0.2.2.2.1, ()), ())) fun v1 =>
      obind (spec_ArchiveDrop ((v1.2.1.1, (v1.2.1.2.1.1, v1.2.1.2.1.2.1, ()), (v1.2.1.2.2.1.1, v1.2.1.2.2.1.2.1, v1.2.1.2.2.1.2.2.1, ()), v1.2.1.2.2.2.1, ()), x1, ())) fun v2 =>
      obind (laws_toArchive ((x0.1, (x0.2.1.1, x0.2.1.2.1, ()), (x0.2.2.1.1, x0.2.2.1.2.1, x0.2.2.1.2.2.1, ()), x0.2.2.2.1, ()), ())) fun v3 =>
      obind (impl_ArchiveDrop ((v3.2.1.1, (v3.2.1.2.1.1, v3.2.1.2.1.2.1, ()), (v3.2.1.2.2.1.1, v3.2.1.2.2.1.2.1, v3.2.1.2.2.1.2.2.1, ()), v3.2.1.2.2.2.1, ()), x1, ())) fun v4 =>
      obind (laws_eqArchive ((v4.2.1.1, (v4.2.1.2.1.1, v4.2.1.2.1.2.1, ()), (v4.2.1.2.2.1.1, v4.2.1.2.2.1.2.1, v4.2.1.2.2.1.2.2.1, ()), v4.2.1.2.2.2.1, ()), (v2.2.1.1, (v2.2.1.2.1.1, v2.2.1.2.1.2.1, ()), (v2.2.1.2.2.1.1, v2.2.1.2.2.1.2.1, v2.2.1.2.2.1.2.2.1, ()), v2.2.1.2.2.2.1, ()), ())) fun v5 =>
      tb (bnot v5.2.1)
      (some ((), false, ()))
      (tb (bnot (ieq v4.2.2.1 v2.2.2.1))
        (some ((), false, ()))
        (obind (laws_toArchive ((x0.1, (x0.2.1.1, x0.2.1.2.1, ()), (x0.2.2.1.1, x0.2.2.1.2.1, x0.2.2.1.2.2.1, ()), x0.2.2.2.1, ()), ())) fun v6 =>
          obind (laws_eqArchive ((v3.2.1.1, (v3.2.1.2.1.1, v3.2.1.2.1.2.1, ()), (v3.2.1.2.2.1.1, v3.2.1.2.2.1.2.1, v3.2.1.2.2.1.2.2.1, ()), v3.2.1.2.2.2.1, ()), (v6.2.1.1, (v6.2.1.2.1.1, v6.2.1.2.1.2.1, ()), (v6.2.1.2.2.1.1, v6.2.1.2.2.1.2.1, v6.2.1.2.2.1.2.2.1, ()), v6.2.1.2.2.2.1, ()), ())) fun v7 =>
          tb (bnot v7.2.1)
          (some ((), false, ()))
          (obind (laws_markArchive ((v3.2.1.1, (v3.2.1.2.1.1, v3.2.1.2.1.2.1, ()), (v3.2.1.2.2.1.1, v3.2.1.2.2.1.2.1, v3.2.1.2.2.1.2.2.1, ()), v3.2.1.2.2.2.1, ()), 1, ())) fun v8 =>
            tb (ilt v8.2.1 0)
            (some ((), false, ()))
            (obind (laws_eqArchive ((v4.2.1.1, (v4.2.1.2.1.1, v4.2.1.2.1.2.1, ()), (v4.2.1.2.2.1.1, v4.2.1.2.2.1.2.1, v4.2.1.2.2.1.2.2.1, ()), v4.2.1.2.2.2.1, ()), (v2.2.1.1, (v2.2.1.2.1.1, v2.2.1.2.1.2.1, ()), (v2.2.1.2.2.1.1, v2.2.1.2.2.1.2.1, v2.2.1.2.2.1.2.2.1, ()), v2.2.1.2.2.2.1, ()), ())) fun v9 =>
              tb (bnot v9.2.1)
              (some ((), false, ()))
              (tb (bnot (ieq v4.2.2.1 v2.2.2.1))
                (some ((), false, ()))
                (obind (laws_markArchive ((v4.2.1.1, (v4.2.1.2.1.1, v4.2.1.2.1.2.1, ()), (v4.2.1.2.2.1.1, v4.2.1.2.2.1.2.1, v4.2.1.2.2.1.2.2.1, ()), v4.2.1.2.2.2.1, ()), 1, ())) fun v10 =>
                  obind (laws_heldArchive ((v4.2.1.1, (v10.1.1.2.1.1, v10.1.1.2.1.2.1, ()), (v4.2.1.2.2.1.1, v4.2.1.2.2.1.2.1, v4.2.1.2.2.1.2.2.1, ()), v10.1.1.2.2.2.1, ()), 1, ())) fun v11 =>
                  tb (ilt v11.2.1 0)
                  (some ((), false, ()))
                  (tb (bnot (ieq v11.2.1 v10.2.1))
                    (some ((), false, ()))
                    (obind (laws_toArchive ((x0.1, (x0.2.1.1, x0.2.1.2.1, ()), (x0.2.2.1.1, x0.2.2.1.2.1, x0.2.2.1.2.2.1, ()), x0.2.2.2.1, ()), ())) fun v12 =>
                      obind (impl_ArchiveDrop ((v12.2.1.1, (v12.2.1.2.1.1, v12.2.1.2.1.2.1, ()), (v12.2.1.2.2.1.1, v12.2.1.2.2.1.2.1, v12.2.1.2.2.1.2.2.1, ()), v12.2.1.2.2.2.1, ()), x1, ())) fun v13 =>
                      obind (laws_eqArchive ((v13.2.1.1, (v13.2.1.2.1.1, v13.2.1.2.1.2.1, ()), (v13.2.1.2.2.1.1, v13.2.1.2.2.1.2.1, v13.2.1.2.2.1.2.2.1, ()), v13.2.1.2.2.2.1, ()), (v2.2.1.1, (v2.2.1.2.1.1, v2.2.1.2.1.2.1, ()), (v2.2.1.2.2.1.1, v2.2.1.2.2.1.2.1, v2.2.1.2.2.1.2.2.1, ()), v2.2.1.2.2.2.1, ()), ())) fun v14 =>
                      tb (bnot v14.2.1)
                      (some ((), false, ()))
                      (tb (bnot (ieq v13.2.2.1 v2.2.2.1))
                        (some ((), false, ()))
                        (obind (laws_heldArchive ((v4.2.1.1, (v10.1.1.2.1.1, v10.1.1.2.1.2.1, ()), (v4.2.1.2.2.1.1, v4.2.1.2.2.1.2.1, v4.2.1.2.2.1.2.2.1, ()), v10.1.1.2.2.2.1, ()), 1, ())) fun v15 =>
                          tb (ilt v15.2.1 0)
                          (some ((), false, ()))
                          (tb (bnot (ieq v15.2.1 v10.2.1))
                            (some ((), false, ()))
                            (some ((), true, ())))))))))))))))
def laws_FnExactArchiveDrop (x : (L30 × ByteArray × Unit)) : Option (Unit × (Bool × Unit)) := laws_FnExactArchiveDrop_k fuel x.1 x.2.1
def laws_FnExactArchiveDrop_m : Con := ⟨[.val S30, .val .str], [.bool], (.pair .bool .unit), laws_FnExactArchiveDrop⟩
def laws_FnExactArchiveDrop_s : List (Nat × Con) := [(5, laws_szArchive_m), (7, laws_toArchive_m), (9, laws_eqArchive_m), (10, laws_markArchive_m), (11, laws_heldArchive_m), (12, spec_ArchiveDrop_m), (13, impl_ArchiveDrop_m)]
def laws_FnExactArchiveDrop_g (N : Nat) : List (Nat × Seg (Rof laws_FnExactArchiveDrop_m)) := []
theorem laws_FnExactArchiveDrop_e : FunOk laws_FnExactArchiveDrop_s Tryz.f4 laws_FnExactArchiveDrop_m laws_FnExactArchiveDrop_g (fun N x => laws_FnExactArchiveDrop_k N x.1 x.2.1) := fun _ _ => by kernel_rfl
theorem laws_FnExactArchiveDrop_o : Known Tryz.prog 4 laws_FnExactArchiveDrop_m := known_v (g := laws_FnExactArchiveDrop_g) (.cons laws_szArchive_o (.cons laws_toArchive_o (.cons laws_eqArchive_o (.cons laws_markArchive_o (.cons laws_heldArchive_o (.cons spec_ArchiveDrop_o (.cons impl_ArchiveDrop_o .nil))))))) Tryz.func4 (by kernel_rfl) trivial laws_FnExactArchiveDrop_e (fun _ => rfl)
end Go.Proofs.YtjiichnhdhlegaaGreat.V
namespace Go.Proofs.YtjiichnhdhlegaaGreat.V
open Go Go.RowKit
theorem fuel_gt : 140737488351232 < fuel := by unfold fuel; omega
theorem all_loop {α S R : Type} {k : Nat → S → Option R} (st : Nat → S) (fin bad : Option R) (p : α → Bool) (xs : List α) (hend : ∀ n, k (n + 1) (st xs.length) = fin) (hstep : ∀ n i x, xs[i]? = some x → k (n + 1) (st i) = if p x = true then k n (st (i + 1)) else bad) :
    ∀ (post pre : List α) (n : Nat), xs = pre ++ post → post.length < n → k n (st pre.length) = if post.all p = true then fin else bad
  | [], pre, n, he, hn => by
    obtain ⟨m, rfl⟩ : ∃ m, n = m + 1 := ⟨n - 1, by simp at hn; omega⟩
    rw [show pre.length = xs.length by rw [he]; simp, hend]
    simp
  | x :: post, pre, n, he, hn => by
    obtain ⟨m, rfl⟩ : ∃ m, n = m + 1 := ⟨n - 1, by simp at hn; omega⟩
    rw [hstep m pre.length x (by rw [he]; exact get_split pre x post)]
    have := all_loop st fin bad p xs hend hstep post (pre ++ [x]) m (by rw [he]; simp) (by simp at hn; omega)
    rw [show (pre ++ [x]).length = pre.length + 1 by simp] at this
    rw [this, List.all_cons]
    cases p x <;> simp
theorem lt_of_get {α : Type} {xs : List α} {i : Nat} {x : α} (h : xs[i]? = some x) : i < xs.length := (List.getElem?_eq_some_iff.1 h).1
theorem mark_loop0 {K} : ∀ (n x : Nat) (s : ByteArray) (m : Nat), x < n → s.size + x ≤ 2199023255552 → x < m → (∃ r, laws_markText_k0 fuel m K (((x : Int), s, ()), (), ()) = K ((r, ()), (), ()) ∧ r.size ≤ 2199023255552)
  | 0, x, s, m, h, _, _ => by omega
  | n + 1, x, s, m, h, hs, hm => by
    obtain ⟨m, rfl⟩ : ∃ k, m = k + 1 := ⟨m - 1, by omega⟩
    rw [laws_markText_k0]
    simp only
    by_cases hx : x = 0
    · subst hx
      rw [tb_neg (ilt_f (by omega))]
      exact ⟨s, rfl, by omega⟩
    · have e1 : wr .i64 (Int.tdiv (x : Int) 10) = ((x / 10 : Nat) : Int) := by
        rw [Int.tdiv_eq_ediv_of_nonneg (by omega), wr64 (by omega) (by omega)]; omega
      have hz : ∀ y, (strOf [y]).size = 1 := fun y => rfl
      rw [tb_pos (ilt_t (by omega)), chk_neg (by decide), chk_pos (by simp only [plus, slen, hz, slim]; omega), chk_neg (by decide), e1]
      refine mark_loop0 n (x / 10) _ m (by omega) ?_ (by omega)
      rw [show (sapp (strOf [wr .u8 (wr .i64 (48 + Int.tmod (x : Int) 10))]) s).size = 1 + s.size by simp [sapp, hz]]
      omega
def mt (m : Int) : ByteArray := match laws_markText (m, ()) with | some r => r.2.1 | none => ⟨#[]⟩
theorem markText {m : Int} (h0 : 0 ≤ m) (h1 : m ≤ 1099511627777) : laws_markText (m, ()) = some ((), mt m, ()) := by
  have key : ∃ r, laws_markText (m, ()) = some ((), r, ()) := by
    unfold laws_markText laws_markText_k
    simp only
    by_cases h : m ≤ 0
    · rw [tb_pos (ile_t h)]; exact ⟨_, rfl⟩
    · rw [tb_neg (ile_f (by omega))]
      obtain ⟨x, rfl⟩ := Int.eq_ofNat_of_zero_le h0
      obtain ⟨r, e, hr⟩ := mark_loop0 (K := fun v0 => chk ((plus (slen (⟨#[109]⟩ : ByteArray)) (slen v0.1.1)) < slim) (some ((), (sapp (⟨#[109]⟩ : ByteArray) v0.1.1), ())) none) (x + 1) x ⟨#[]⟩ fuel (by omega) (by show 0 + x ≤ _; omega) (by unfold fuel; omega)
      rw [e]
      simp only
      rw [chk_pos (by simp only [plus, slen, slim]; show 1 + _ < _; omega)]
      exact ⟨_, rfl⟩
  obtain ⟨r, e⟩ := key
  unfold mt
  rw [e]
theorem szStringS : SzOk (fun xs s => laws_szStringS (xs, s, ())) (BL (fun v => ByteArray.size v ≤ 140737488351232)) (wL (fun v => ByteArray.size v)) :=
  szS_ok fuel_gt (fun _ _ => rfl) (k := laws_szStringS_k0 fuel) (fun _ _ _ => rfl) szStr_ok
theorem toStringS : ToOk (fun xs => laws_toStringS (xs, ())) (fun xs => xs.length ≤ 1048576 ∧ ∀ x ∈ xs, True) :=
  toS_ok fuel_gt (by decide) (fun _ => rfl) (k := laws_toStringS_k0 fuel) (e := fun v => some ((), v, ())) (fun _ _ _ => rfl) (fun _ _ => rfl)
theorem eqStringS : EqOk (fun xs ys => laws_eqStringS (xs, ys, ())) (BL (fun _ => True)) :=
  eqS_ok fuel_gt (fun _ _ => rfl) (k := laws_eqStringS_k0 fuel) (e := fun v u => some ((), seq v u, ())) (fun _ _ _ => rfl) eqStr_ok
def mkStr (_ : ByteArray) (m : Int) : ByteArray × Int := (mt m, m + 1)
theorem markStringS_step : MarkStep (laws_markStringS_k0 fuel) mkStr (fun _ => True) (fun _ => 1) := by
  refine ⟨fun n K m i xs h => ?_, fun n K m i xs x hx hl hB h0 h1 => ?_⟩
  · rw [laws_markStringS_k0]
    simp only
    rw [tb_neg (ilt_f (by simp only [llen]; omega))]
  · have hi := lt_of_get hx
    rw [laws_markStringS_k0]
    simp only
    rw [tb_pos (ilt_t (by simp only [llen]; omega)), obind_eq (markText h0 (by omega)), chk_pos (by simp only [llen]; omega), obind_eq (at_some hx), wr64 (by omega) (by omega), wr_succ (by omega)]
    rfl
theorem heldStringS_step : HeldStep (laws_heldStringS_k0 fuel) mkStr (fun _ => True) (fun _ => 1) := by
  refine ⟨fun n K m i xs h => ?_, fun n K m i xs x hx hl hB h0 h1 => ?_⟩
  · rw [laws_heldStringS_k0]
    simp only
    rw [tb_neg (ilt_f (by simp only [llen]; omega))]
  · have hi := lt_of_get hx
    rw [laws_heldStringS_k0]
    simp only
    rw [tb_pos (ilt_t (by simp only [llen]; omega)), chk_pos (by omega), obind_eq (at_some hx), obind_eq (markText h0 (by omega))]
    simp only [mkStr, seq_self]
    rw [tb_nt, wr64 (by omega) (by omega), wr_succ (by omega)]
theorem mkStr_le (x : ByteArray) (m : Int) (_ : True) (_ : 0 ≤ m) (_ : m + ((1 : Nat) : Int) ≤ 1099511627776) : m ≤ (mkStr x m).2 ∧ (mkStr x m).2 ≤ m + ((1 : Nat) : Int) := by
  simp only [mkStr]; omega
abbrev Pt := Int × ByteArray × Unit
theorem szPut : SzOk (fun (v : Pt) s => laws_szPut ((v.1, v.2.1, ()), s, ())) (fun v => ByteArray.size v.2.1 ≤ 140737488351232) (fun v => ByteArray.size v.2.1) := by
  intro v s hB h0 h1
  have hw : wr .i64 (s - ((slen v.2.1 : Nat) : Int)) = s - (v.2.1.size : Int) := wr64 (by simp only [slen]; omega) (by simp only [slen]; omega)
  simp only [laws_szPut, laws_szPut_k, hw]
  by_cases h : s - (v.2.1.size : Int) < 0
  · exact ⟨-1, tb_pos (ilt_t h) _ _, .inl (by omega)⟩
  · exact ⟨_, tb_neg (ilt_f (by omega)) _ _, .inr (by omega)⟩
theorem szPutS : SzOk (fun xs s => laws_szPutS (xs, s, ())) (BL (fun v : Pt => ByteArray.size v.2.1 ≤ 140737488351232)) (wL (fun v : Pt => ByteArray.size v.2.1)) :=
  szS_ok fuel_gt (fun _ _ => rfl) (k := laws_szPutS_k0 fuel) (fun _ _ _ => rfl) szPut
theorem toPutS : ToOk (fun xs => laws_toPutS (xs, ())) (fun xs => xs.length ≤ 1048576 ∧ ∀ x ∈ xs, True) :=
  toS_ok fuel_gt (by decide) (fun _ => rfl) (k := laws_toPutS_k0 fuel) (e := fun v => laws_toPut ((v.1, v.2.1, ()), ())) (fun _ _ _ => rfl) (fun _ _ => rfl)
theorem eqPut : EqOk (fun (v u : Pt) => laws_eqPut ((v.1, v.2.1, ()), (u.1, u.2.1, ()), ())) (fun _ => True) := by
  intro v _
  simp only [laws_eqPut, laws_eqPut_k, ieq_self, seq_self, tb_nt]
theorem eqPutS : EqOk (fun xs ys => laws_eqPutS (xs, ys, ())) (BL (fun _ => True)) :=
  eqS_ok fuel_gt (fun _ _ => rfl) (k := laws_eqPutS_k0 fuel) (fun _ _ _ => rfl) eqPut
def mkPut (_ : Pt) (m : Int) : Pt × Int := ((m, mt (m + 1), ()), m + 2)
theorem mkPut_le (x : Pt) (m : Int) (_ : True) (_ : 0 ≤ m) (_ : m + ((2 : Nat) : Int) ≤ 1099511627776) : m ≤ (mkPut x m).2 ∧ (mkPut x m).2 ≤ m + ((2 : Nat) : Int) := by
  simp only [mkPut]; omega
theorem markPutS_step : MarkStep (laws_markPutS_k0 fuel) mkPut (fun _ => True) (fun _ => 2) := by
  refine ⟨fun n K m i xs h => ?_, fun n K m i xs x hx hl hB h0 h1 => ?_⟩
  · rw [laws_markPutS_k0]
    simp only
    rw [tb_neg (ilt_f (by simp only [llen]; omega))]
  · have hi := lt_of_get hx
    rw [laws_markPutS_k0]
    simp only
    rw [tb_pos (ilt_t (by simp only [llen]; omega)), chk_pos (by simp only [llen]; omega), obind_eq (at_some hx), wr64 (n := m + 1) (by omega) (by omega), obind_eq (markText (by omega) (by omega)), chk_pos (by simp only [llen, lset, List.length_set]; omega),
      obind_eq (at_some (x := (m, x.2)) (by simp [lset, hi])), wr64 (by omega) (by omega), wr_succ (by omega)]
    simp [lset, mkPut, Int.add_assoc]
theorem heldPutS_step : HeldStep (laws_heldPutS_k0 fuel) mkPut (fun _ => True) (fun _ => 2) := by
  refine ⟨fun n K m i xs h => ?_, fun n K m i xs x hx hl hB h0 h1 => ?_⟩
  · rw [laws_heldPutS_k0]
    simp only
    rw [tb_neg (ilt_f (by simp only [llen]; omega))]
  · have hi := lt_of_get hx
    rw [laws_heldPutS_k0]
    simp only
    rw [tb_pos (ilt_t (by simp only [llen]; omega)), chk_pos (by omega), obind_eq (at_some hx)]
    simp only [mkPut, ieq_self]
    rw [tb_nt, chk_pos (by omega), obind_eq (at_some hx), wr64 (n := m + 1) (by omega) (by omega), obind_eq (markText (by omega) (by omega))]
    simp only [mkPut, seq_self]
    rw [tb_nt, wr64 (by omega) (by omega), wr_succ (by omega)]
    simp [Int.add_assoc]
abbrev Dk := List ByteArray × List Pt × Unit
def DkB (d : Dk) : Prop := BL (fun v => ByteArray.size v ≤ 140737488351232) d.1 ∧ BL (fun v : Pt => ByteArray.size v.2.1 ≤ 140737488351232) d.2.1
def dkW (d : Dk) : Nat := wL (fun v => ByteArray.size v) d.1 + wL (fun v : Pt => ByteArray.size v.2.1) d.2.1
theorem szDisk : SzOk (fun (d : Dk) s => laws_szDisk ((d.1, d.2.1, ()), s, ())) DkB dkW := by
  intro d s hB h0 h1
  obtain ⟨r, e1, e2⟩ := szStringS d.1 s hB.1 h0 h1
  simp only at e1
  simp only [laws_szDisk, laws_szDisk_k, obind_eq e1]
  rcases e2 with e2 | ⟨e2, e3⟩
  · exact ⟨-1, tb_pos (ilt_t e2) _ _, .inl (by omega)⟩
  · rw [tb_neg (ilt_f e2)]
    obtain ⟨r', g1, g2⟩ := szPutS d.2.1 r hB.2 e2 (by omega)
    simp only at g1
    rw [obind_eq g1]
    simp only
    rcases g2 with g2 | ⟨g2, g3⟩
    · exact ⟨-1, tb_pos (ilt_t g2) _ _, .inl (by omega)⟩
    · exact ⟨r', tb_neg (ilt_f g2) _ _, .inr ⟨g2, by simp only [dkW]; omega⟩⟩
theorem toDisk {d : Dk} (h : dkW d ≤ 1048576) : laws_toDisk ((d.1, d.2.1, ()), ()) = some ((), d, ()) := by
  simp only [dkW, wL] at h
  have e1 := toStringS d.1 ⟨by omega, fun _ _ => trivial⟩
  have e2 := toPutS d.2.1 ⟨by omega, fun _ _ => trivial⟩
  simp only at e1 e2
  simp only [laws_toDisk, laws_toDisk_k, obind_eq e1, obind_eq e2]
theorem eqDisk {d : Dk} (h1 : d.1.length ≤ 140737488351232) (h2 : d.2.1.length ≤ 140737488351232) : laws_eqDisk ((d.1, d.2.1, ()), (d.1, d.2.1, ()), ()) = some ((), true, ()) := by
  have e1 := eqStringS d.1 ⟨h1, fun _ _ => trivial⟩
  have e2 := eqPutS d.2.1 ⟨h2, fun _ _ => trivial⟩
  simp only at e1 e2
  simp only [laws_eqDisk, laws_eqDisk_k, obind_eq e1, obind_eq e2, tb_nt]
theorem sumL_const {α : Type} (c : Nat) : ∀ l : List α, sumL (fun _ => c) l = c * l.length
  | [] => rfl
  | x :: l => by simp only [sumL, sumL_const c l, List.length_cons, Nat.mul_succ]; omega
def mkDk (d : Dk) (m : Int) : Dk × Int := (((marksL mkStr d.1 m).1, (marksL mkPut d.2.1 (marksL mkStr d.1 m).2).1, ()), (marksL mkPut d.2.1 (marksL mkStr d.1 m).2).2)
theorem mkStr_row {l : List ByteArray} {m : Int} (h0 : 0 ≤ m) (h1 : m + l.length ≤ 1099511627776) : m ≤ (marksL mkStr l m).2 ∧ (marksL mkStr l m).2 ≤ m + l.length := by
  have := marksL_le (B := fun _ => True) (w := fun _ => 1) mkStr_le l m (fun _ _ => trivial) h0 (by rw [sumL_const]; omega)
  rw [sumL_const] at this
  omega
theorem mkPut_row {l : List Pt} {m : Int} (h0 : 0 ≤ m) (h1 : m + 2 * l.length ≤ 1099511627776) : m ≤ (marksL mkPut l m).2 ∧ (marksL mkPut l m).2 ≤ m + 2 * l.length := by
  have := marksL_le (B := fun _ => True) (w := fun _ => 2) mkPut_le l m (fun _ _ => trivial) h0 (by rw [sumL_const]; omega)
  rw [sumL_const] at this
  omega
theorem markStringS {l : List ByteArray} {m : Int} (h0 : 0 ≤ m) (hl : l.length ≤ 140737488351232) (h1 : m + l.length ≤ 1099511627776) : laws_markStringS (l, m, ()) = some (((marksL mkStr l m).1, ()), (marksL mkStr l m).2, ()) := by
  have := mark_loop markStringS_step (B := fun _ => True) (w := fun _ => 1) mkStr_le (fun v0 => some ((v0.2.2.1, ()), v0.1.1, ())) l [] m fuel (fun _ _ => trivial) h0 (by rw [sumL_const]; omega) (by simpa using hl) (by have := fuel_gt; omega)
  simpa [laws_markStringS, laws_markStringS_k] using this
theorem markPutS {l : List Pt} {m : Int} (h0 : 0 ≤ m) (hl : l.length ≤ 140737488351232) (h1 : m + 2 * l.length ≤ 1099511627776) : laws_markPutS (l, m, ()) = some (((marksL mkPut l m).1, ()), (marksL mkPut l m).2, ()) := by
  have := mark_loop markPutS_step (B := fun _ => True) (w := fun _ => 2) mkPut_le (fun v0 => some ((v0.2.2.1, ()), v0.1.1, ())) l [] m fuel (fun _ _ => trivial) h0 (by rw [sumL_const]; omega) (by simpa using hl) (by have := fuel_gt; omega)
  simpa [laws_markPutS, laws_markPutS_k] using this
theorem heldStringS {l : List ByteArray} {m : Int} (h0 : 0 ≤ m) (hl : l.length ≤ 140737488351232) (h1 : m + l.length ≤ 1099511627776) : laws_heldStringS ((marksL mkStr l m).1, m, ()) = some ((), (marksL mkStr l m).2, ()) := by
  have := held_loop heldStringS_step (B := fun _ => True) (w := fun _ => 1) mkStr_le (fun v0 => some ((), v0.1.1, ())) l [] m fuel (fun _ _ => trivial) h0 (by rw [sumL_const]; omega) (by simpa using hl) (by have := fuel_gt; omega)
  simpa [laws_heldStringS, laws_heldStringS_k] using this
theorem heldPutS {l : List Pt} {m : Int} (h0 : 0 ≤ m) (hl : l.length ≤ 140737488351232) (h1 : m + 2 * l.length ≤ 1099511627776) : laws_heldPutS ((marksL mkPut l m).1, m, ()) = some ((), (marksL mkPut l m).2, ()) := by
  have := held_loop heldPutS_step (B := fun _ => True) (w := fun _ => 2) mkPut_le (fun v0 => some ((), v0.1.1, ())) l [] m fuel (fun _ _ => trivial) h0 (by rw [sumL_const]; omega) (by simpa using hl) (by have := fuel_gt; omega)
  simpa [laws_heldPutS, laws_heldPutS_k] using this
theorem mkDk_le {d : Dk} {m : Int} (h0 : 0 ≤ m) (h1 : m + d.1.length + 2 * d.2.1.length ≤ 1099511627776) : m ≤ (mkDk d m).2 ∧ (mkDk d m).2 ≤ m + d.1.length + 2 * d.2.1.length := by
  have a := mkStr_row (l := d.1) h0 (by omega)
  have b := mkPut_row (l := d.2.1) (m := (marksL mkStr d.1 m).2) (by omega) (by omega)
  simp only [mkDk]; omega
theorem markDisk {d : Dk} {m : Int} (h0 : 0 ≤ m) (hl : d.1.length ≤ 140737488351232) (hl' : d.2.1.length ≤ 140737488351232) (h1 : m + d.1.length + 2 * d.2.1.length ≤ 1099511627776) : laws_markDisk ((d.1, d.2.1, ()), m, ()) = some (((mkDk d m).1, ()), (mkDk d m).2, ()) := by
  have a := mkStr_row (l := d.1) h0 (by omega)
  simp only [laws_markDisk, laws_markDisk_k, obind_eq (markStringS (l := d.1) h0 hl (by omega)), obind_eq (markPutS (l := d.2.1) (m := (marksL mkStr d.1 m).2) (by omega) hl' (by omega))]
  rfl
theorem heldDisk {d : Dk} {m : Int} (h0 : 0 ≤ m) (hl : d.1.length ≤ 140737488351232) (hl' : d.2.1.length ≤ 140737488351232) (h1 : m + d.1.length + 2 * d.2.1.length ≤ 1099511627776) : laws_heldDisk (((mkDk d m).1.1, (mkDk d m).1.2.1, ()), m, ()) = some ((), (mkDk d m).2, ()) := by
  have a := mkStr_row (l := d.1) h0 (by omega)
  have b := mkPut_row (l := d.2.1) (m := (marksL mkStr d.1 m).2) (by omega) (by omega)
  simp only [laws_heldDisk, laws_heldDisk_k, mkDk]
  rw [obind_eq (heldStringS (l := d.1) h0 hl (by omega))]
  simp only
  rw [tb_neg (ilt_f (by omega)), obind_eq (heldPutS (l := d.2.1) (m := (marksL mkStr d.1 m).2) (by omega) hl' (by omega))]
  simp only
  rw [tb_neg (ilt_f (by omega))]
end Go.Proofs.YtjiichnhdhlegaaGreat.V
namespace Go.Proofs.YtjiichnhdhlegaaGreat.V
open Go Go.RowKit
def numF : Nat → Nat → List Int
  | 0, _ => []
  | n + 1, x => if 127 < x then ((x % 128 + 128 : Nat) : Int) :: numF n (x / 128) else [(x : Int)]
def numForm (x : Nat) : List Int := numF 10 x
theorem numF_length : ∀ n x, (numF n x).length ≤ n
  | 0, _ => by simp [numF]
  | n + 1, x => by
    unfold numF
    split
    · have := numF_length n (x / 128); simp; omega
    · simp
theorem numForm_length (x : Nat) : (numForm x).length ≤ 10 := numF_length 10 x
theorem and127 {x : Nat} (h : x ≤ 9223372036854775807) : bandK .i64 (x : Int) 127 = ((x % 128 : Nat) : Int) := by
  have := Go.bits_mask .i64 63 (by decide) (fun n a b => by rw [IntKind.wrap_i64]; omega) 7 (by decide) (x : Int) (by omega) (by omega)
  have e : Go.bits .and .i64 (x : Int) 127 = bandK .i64 (x : Int) 127 := rfl
  rw [← e]
  simpa using this
theorem or128 : ∀ m : Fin 128, borK .i64 128 (m.val : Int) = ((m.val + 128 : Nat) : Int) := by
  have : ∀ m : Fin 128, Go.bits .or .i64 128 (m.val : Int) = ((m.val + 128 : Nat) : Int) := by decide +kernel
  exact this
theorem shr7 (x : Nat) : shrK .i64 (x : Int) 7 = ((x / 128 : Nat) : Int) := by
  show Int.fdiv (x : Int) (2 ^ 7) = _
  rw [Int.fdiv_eq_ediv_of_nonneg _ (by decide)]
  omega
theorem num_loops : ∀ (n x : Nat) (acc : List Int) (m : Nat), 1 ≤ n → x < 128 ^ n → n ≤ 10 → x ≤ 9223372036854775807 → acc.length + n < 140737488355328 → n ≤ m →
    (∀ K : (Int × Unit) × Unit × List Int × Unit → Option (Unit × List Int × Unit), (∀ y zs, K ((y, ()), (), zs, ()) = chk ((plus (llen zs) (llen [wr .u8 y])) ≤ 140737488355328) (some ((), lapp zs [wr .u8 y], ())) none) →
      spec_PutNum_k0 fuel m K (((x : Int), ()), (), acc, ()) = some ((), acc ++ numF n x, ()) ∧ impl_putNum_k0 fuel m K (((x : Int), ()), (), acc, ()) = some ((), acc ++ numF n x, ())) := by
  intro n
  induction n with
  | zero =>
    intro x acc m h0
    omega
  | succ n ih =>
    intro x acc m _ h h10 hx hl hm K hK
    obtain ⟨m, rfl⟩ : ∃ k, m = k + 1 := ⟨m - 1, by omega⟩
    rw [spec_PutNum_k0, impl_putNum_k0]
    simp only
    by_cases h127 : 127 < x
    · have hd : x / 128 < 128 ^ n := by
        rw [Nat.div_lt_iff_lt_mul (by decide)]
        rwa [Nat.pow_succ] at h
      have hn1 : 1 ≤ n := by
        rcases Nat.eq_zero_or_pos n with h0 | h0
        · subst h0
          have : x < 128 := by simpa using h
          omega
        · exact h0
      obtain ⟨i1, i2⟩ := ih (x / 128) (acc ++ [((x % 128 + 128 : Nat) : Int)]) m hn1 hd (by omega) (by omega) (by simp; omega) (by omega) K hK
      have e : numF (n + 1) x = ((x % 128 + 128 : Nat) : Int) :: numF n (x / 128) := by rw [numF, if_pos h127]
      rw [e]
      rw [List.append_assoc, List.singleton_append] at i1 i2
      have e1 : wr .i64 (Int.tdiv (x : Int) 128) = ((x / 128 : Nat) : Int) := by
        rw [Int.tdiv_eq_ediv_of_nonneg (by omega), wr64 (by omega) (by omega)]; omega
      have e2 : wr .u8 (wr .i64 ((Int.tmod (x : Int) 128) + 128)) = ((x % 128 + 128 : Nat) : Int) := by
        rw [Int.tmod_eq_emod_of_nonneg (by omega), wr64 (by omega) (by omega), wr8 (by omega) (by omega)]; omega
      have e3 : wr .u8 (borK .i64 128 (bandK .i64 (x : Int) 127)) = ((x % 128 + 128 : Nat) : Int) := by
        rw [and127 hx, or128 ⟨x % 128, Nat.mod_lt _ (by decide)⟩, wr8 (by omega) (by simp only; omega)]
      rw [tb_pos (ilt_t (by omega)), tb_pos (ilt_t (by omega)), e1, e2, e3, shr7]
      refine ⟨?_, ?_⟩
      · rw [chk_neg (by decide), chk_pos (by simp [plus, llen]; omega), chk_neg (by decide)]; exact i1
      · rw [chk_pos (by simp [plus, llen]; omega), chk_neg (by decide)]; exact i2
    · have e : numF (n + 1) x = [(x : Int)] := by rw [numF, if_neg h127]
      rw [e, tb_neg (ilt_f (by omega)), tb_neg (ilt_f (by omega)), hK, wr8 (by omega) (by omega), chk_pos (by simp [plus, llen]; omega)]
      exact ⟨rfl, rfl⟩
theorem spec_num {x : Nat} (hx : x ≤ 9223372036854775807) : spec_PutNum ((x : Int), ()) = some ((), numForm x, ()) := by
  simp only [spec_PutNum, spec_PutNum_k]
  rw [tb_neg (ilt_f (by omega))]
  exact (num_loops 10 x [] fuel (by omega) (by simp; omega) (by omega) hx (by simp) (by unfold fuel; omega) _ (fun _ _ => rfl)).1
theorem impl_num {x : Nat} (acc : List Int) (hx : x ≤ 9223372036854775807) (hl : acc.length ≤ 140737488355000) : impl_putNum (acc, (x : Int), ()) = some ((), acc ++ numForm x, ()) := by
  simp only [impl_putNum, impl_putNum_k]
  exact (num_loops 10 x acc fuel (by omega) (by simp; omega) (by omega) hx (by omega) (by unfold fuel; omega) _ (fun _ _ => rfl)).2
theorem in_eq (a b c : Int) : (tb (ile b a) (some ((), ile a c, ())) (some ((), false, ()))) = some ((), decide (b ≤ a ∧ a ≤ c), ()) := by
  by_cases h : b ≤ a
  · rw [tb_pos (ile_t h)]; simp [ile, h]
  · rw [tb_neg (ile_f (by omega))]; simp [h]
theorem spec_in (a b c : Int) : spec_l1In (a, b, c, ()) = some ((), decide (b ≤ a ∧ a ≤ c), ()) := in_eq a b c
theorem impl_in (a b c : Int) : impl_inRange (a, b, c, ()) = some ((), decide (b ≤ a ∧ a ≤ c), ()) := in_eq a b c
end Go.Proofs.YtjiichnhdhlegaaGreat.V
namespace Go.Proofs.YtjiichnhdhlegaaGreat.V
open Go Go.RowKit
theorem bor_comm (k : IntKind) (a b : Int) : borK k a b = borK k b a := by
  unfold borK
  simp only [BitVec.or_comm]
def p128 : Nat → Nat
  | 0 => 1
  | k + 1 => 128 * p128 k
theorem pow_table : ∀ k : Fin 9, wr .u64 (wr .i64 (7 * (k.val : Int))) = ((7 * k.val : Nat) : Int) ∧ min (7 * k.val) IntKind.i64.bits = 7 * k.val ∧ (2 : Int) ^ (7 * k.val) = ((p128 k.val : Nat) : Int) ∧ p128 k.val ≤ 72057594037927936 ∧ 0 < p128 k.val ∧ 7 * k.val ≤ 63 := by decide +kernel
theorem small63 {p : Nat} (h : p ≤ 9151314442816847872) : (p : Int) < 2 ^ 63 := by omega
theorem join_step (i M x q : Nat) (hM : (2 : Int) ^ i = (M : Int)) (hM1 : M ≤ 72057594037927936) (hx : x < M) (hq : q ≤ 127) : borK .i64 ((q * M : Nat) : Int) (x : Int) = ((q * M + x : Nat) : Int) := by
  have hp : q * M ≤ 9151314442816847872 := Nat.le_trans (Nat.mul_le_mul hq hM1) (by decide)
  have hdiv : ((q * M : Nat) : Int) % 2 ^ i = 0 := by rw [hM, Int.natCast_mul]; exact Int.mul_emod_left ..
  have hx2 : (x : Int) < 2 ^ i := by rw [hM]; exact Int.ofNat_lt.2 hx
  have e : borK .i64 ((q * M : Nat) : Int) (x : Int) = Go.bits .or .i64 ((q * M : Nat) : Int) (x : Int) := rfl
  rw [e, Go.bits_join .i64 63 (by decide) (fun n a b => by rw [IntKind.wrap_i64]; omega) i _ _ (Int.natCast_nonneg _) hdiv (small63 hp) (Int.natCast_nonneg _) hx2 (small63 (Nat.le_trans (Nat.le_of_lt hx) (Nat.le_trans hM1 (by decide))))]
  exact (Int.natCast_add _ _).symm
theorem shl_step (i M q : Nat) (y : Int) (hy : y = (i : Int)) (hi : min i IntKind.i64.bits = i) (hM : (2 : Int) ^ i = (M : Int)) (hM1 : M ≤ 72057594037927936) (hq : q ≤ 127) : shlK .i64 (q : Int) y = ((q * M : Nat) : Int) := by
  have hp : q * M ≤ 9151314442816847872 := Nat.le_trans (Nat.mul_le_mul hq hM1) (by decide)
  unfold shlK
  rw [hy, Int.toNat_natCast, hi, hM, ← Int.natCast_mul]
  clear hM hi hy
  generalize q * M = p at hp
  exact wr64 (by omega) (by omega)
theorem unit_step (M x q : Nat) (hM1 : M ≤ 72057594037927936) (hx : x < M) (hq : q ≤ 127) : wr .i64 ((x : Int) + wr .i64 ((q : Int) * (M : Int))) = ((x + q * M : Nat) : Int) ∧ x + q * M < 128 * M := by
  have hp : q * M ≤ 127 * M := Nat.mul_le_mul_right _ hq
  rw [← Int.natCast_mul]
  generalize q * M = p at hp
  rw [wr64 (n := (p : Int)) (by omega) (by omega)]
  constructor
  · exact wrn (by omega) (by omega)
  · omega
theorem get_step {k x d : Nat} (hk : k ≤ 8) (hx : x < p128 k) (hd : d ≤ 255) :
    borK .i64 (x : Int) (shlK .i64 (bandK .i64 (d : Int) 127) (wr .u64 (wr .i64 (7 * (k : Int))))) = ((x + d % 128 * p128 k : Nat) : Int) ∧
    wr .i64 ((x : Int) + wr .i64 (Int.tmod (d : Int) 128 * ((p128 k : Nat) : Int))) = ((x + d % 128 * p128 k : Nat) : Int) ∧ x + d % 128 * p128 k < p128 (k + 1) ∧ p128 (k + 1) ≤ 9223372036854775808 := by
  obtain ⟨t1, t2, t3, t4, t5, t6⟩ := pow_table ⟨k, by omega⟩
  simp only at t1 t2 t3 t4 t5 t6
  have hdm : d % 128 ≤ 127 := Nat.le_of_lt_succ (Nat.mod_lt _ (by decide))
  obtain ⟨u1, u2⟩ := unit_step (p128 k) x (d % 128) t4 hx hdm
  refine ⟨?_, ?_, ?_, ?_⟩
  · rw [and127 (Nat.le_trans hd (by decide)), bor_comm, shl_step (7 * k) (p128 k) (d % 128) _ t1 t2 t3 t4 hdm, join_step (7 * k) (p128 k) x (d % 128) t3 t4 hx hdm, Nat.add_comm]
  · rw [Int.tmod_eq_emod_of_nonneg (Int.natCast_nonneg _)]
    exact u1
  · exact u2
  · exact Nat.le_trans (Nat.mul_le_mul_left 128 t4) (by decide)
theorem sh_nonneg {k : Nat} (hk : k ≤ 8) : ¬ wr .u64 (wr .i64 (7 * (k : Int))) < 0 := by
  have := (pow_table ⟨k, Nat.lt_succ_of_le hk⟩).1
  exact Int.not_lt.2 (Int.le_trans (Int.natCast_nonneg (7 * k)) (Int.le_of_eq this.symm))
def GetOk (l : List Int) (a : Int) (r : Int × Int × Bool) : Prop := (r.2.2 = false → r = (0, 0, false)) ∧ (r.2.2 = true → 0 ≤ r.1 ∧ r.1 ≤ 9223372036854775807 ∧ 0 ≤ a ∧ a < r.2.1 ∧ r.2.1 ≤ (l.length : Int))
abbrev numOut (r : Int × Int × Bool) : Option (Unit × (Int × Int × Bool × Unit)) := some ((), r.1, r.2.1, r.2.2, ())
theorem get_loops (P : Nat → Nat) (hP : P = p128) (l : List Int) (hl : l.length ≤ 140737488355328) (hb : ∀ y ∈ l, 0 ≤ y ∧ y ≤ 255) (a : Nat) (ha : a ≤ l.length) : ∀ (d k x m m' : Nat) (u : Int), k + d = 9 → d < m → d < m' → x < P k → (k ≤ 8 → u = ((P k : Nat) : Int)) →
    ∃ r : Int × Int × Bool, spec_GetNum_k0 fuel m (fun _ => some ((), 0, 0, false, ())) ((l, (a : Int), (x : Int), u, (k : Int), ()), (), ()) = numOut r ∧ impl_GetNum_k0 fuel m' (fun _ => some ((), 0, 0, false, ())) ((l, ((a + k : Nat) : Int), (x : Int), (k : Int), ()), (), ()) = numOut r ∧ GetOk l a r := by
  intro d
  induction d with
  | zero =>
    intro k x m m' u hk hm hm' hx hu
    obtain ⟨m, rfl⟩ : ∃ q, m = q + 1 := ⟨m - 1, by omega⟩
    obtain ⟨m', rfl⟩ : ∃ q, m' = q + 1 := ⟨m' - 1, by omega⟩
    refine ⟨(0, 0, false), ?_, ?_, fun _ => rfl, fun h => by cases h⟩
    · rw [spec_GetNum_k0]; simp only; rw [tb_neg (ilt_f (by omega))]
    · rw [impl_GetNum_k0]; simp only; rw [tb_neg (ilt_f (by omega))]
  | succ d ih =>
    intro k x m m' u hk hm hm' hx hu
    obtain ⟨m, rfl⟩ : ∃ q, m = q + 1 := ⟨m - 1, by omega⟩
    obtain ⟨m', rfl⟩ : ∃ q, m' = q + 1 := ⟨m' - 1, by omega⟩
    have hu := hu (by omega)
    have hw : Hid (wr .i64 ((a : Int) + (k : Int)) = ((a + k : Nat) : Int)) := ⟨wrn (by omega) (by omega)⟩
    by_cases hin : a + k < l.length
    rotate_left
    · refine ⟨(0, 0, false), ?_, ?_, fun _ => rfl, fun h => by cases h⟩
      · rw [spec_GetNum_k0]; simp only [hw.out]; rw [tb_pos (ilt_t (by omega)), tb_neg (ilt_f (by simp only [llen]; omega))]
      · rw [impl_GetNum_k0]; simp only; rw [tb_pos (ilt_t (by omega)), tb_neg (ilt_f (by simp only [llen]; omega))]
    obtain ⟨y, hy⟩ : ∃ y, l[a + k]? = some y := ⟨l[a + k], List.getElem?_eq_getElem hin⟩
    have hyb := hb y (List.mem_of_getElem? hy)
    obtain ⟨v, rfl⟩ := Int.eq_ofNat_of_zero_le hyb.1
    have hv2 : v ≤ 255 := by have := hyb.2; omega
    have hwv : Hid (wr .i64 (v : Int) = (v : Int)) := ⟨wrn rfl (by omega)⟩
    obtain ⟨s1, s2, s3, s4⟩ := get_step (k := k) (x := x) (d := v) (by omega) (by rw [← hP]; exact hx) hv2
    rw [← hP] at s1 s2 s3 s4
    obtain ⟨X, hX⟩ : ∃ X : Nat, X = x + v % 128 * P k := ⟨_, rfl⟩
    rw [← hX] at s1 s2 s3
    have hX := Hid.mk hX
    have S1 := Hid.mk s1
    have S2 := Hid.mk s2
    clear s1 s2
    have hn : Hid (wr .i64 (((a + k : Nat) : Int) + 1) = ((a + (k + 1) : Nat) : Int)) := ⟨wrn (by omega) (by omega)⟩
    have hk1 : Hid (wr .i64 ((k : Int) + 1) = ((k + 1 : Nat) : Int)) := ⟨wrn (by omega) (by omega)⟩
    have S : ∀ r, tb (ilt (v : Int) 128) (tb (ieq (v : Int) 0) (tb (ilt 0 (k : Int)) (some ((), 0, 0, false, ())) (some ((), (X : Int), ((a + (k + 1) : Nat) : Int), true, ()))) (some ((), (X : Int), ((a + (k + 1) : Nat) : Int), true, ()))) (spec_GetNum_k0 fuel m (fun _ => some ((), 0, 0, false, ())) ((l, (a : Int), (X : Int), wr .i64 (u * 128), ((k + 1 : Nat) : Int), ()), (), ())) = numOut r →
        spec_GetNum_k0 fuel (m + 1) (fun _ => some ((), 0, 0, false, ())) ((l, (a : Int), (x : Int), u, (k : Int), ()), (), ()) = numOut r := fun r h => by
      rw [spec_GetNum_k0]
      simp only [hw.out]
      rw [tb_pos (ilt_t (by omega)), tb_pos (ilt_t (by simp only [llen]; omega)), chk_pos (by omega), obind_eq (at_some hy), chk_neg (by decide), hwv.out, hn.out, hk1.out, hu, S2.out, ← hu]
      exact h
    have I : ∀ r, tb (ilt (v : Int) 128) (tb (ieq (v : Int) 0) (tb (ilt 0 (k : Int)) (some ((), 0, 0, false, ())) (some ((), (X : Int), ((a + (k + 1) : Nat) : Int), true, ()))) (some ((), (X : Int), ((a + (k + 1) : Nat) : Int), true, ()))) (impl_GetNum_k0 fuel m' (fun _ => some ((), 0, 0, false, ())) ((l, ((a + (k + 1) : Nat) : Int), (X : Int), ((k + 1 : Nat) : Int), ()), (), ())) = numOut r →
        impl_GetNum_k0 fuel (m' + 1) (fun _ => some ((), 0, 0, false, ())) ((l, ((a + k : Nat) : Int), (x : Int), (k : Int), ()), (), ()) = numOut r := fun r h => by
      rw [impl_GetNum_k0]
      simp only
      rw [tb_pos (ilt_t (by omega)), tb_pos (ilt_t (by simp only [llen]; omega)), chk_pos (by omega), obind_eq (at_some hy), chk_neg (sh_nonneg (by omega)), hwv.out, hn.out, hk1.out, S1.out]
      exact h
    by_cases c1 : v < 128
    · by_cases c2 : v = 0 ∧ 0 < k
      · refine ⟨(0, 0, false), S _ ?_, I _ ?_, fun _ => rfl, fun h => by cases h⟩
        · rw [tb_pos (ilt_t (by omega)), tb_pos (ieq_t (by omega)), tb_pos (ilt_t (by omega))]
        · rw [tb_pos (ilt_t (by omega)), tb_pos (ieq_t (by omega)), tb_pos (ilt_t (by omega))]
      · have hq : ∀ z, tb (ilt (v : Int) 128) (tb (ieq (v : Int) 0) (tb (ilt 0 (k : Int)) (some ((), 0, 0, false, ())) (some ((), (X : Int), ((a + (k + 1) : Nat) : Int), true, ()))) (some ((), (X : Int), ((a + (k + 1) : Nat) : Int), true, ()))) z = numOut ((X : Int), ((a + (k + 1) : Nat) : Int), true) := fun z => by
          rw [tb_pos (ilt_t (by omega))]
          by_cases c3 : v = 0
          · rw [tb_pos (ieq_t (by omega)), tb_neg (ilt_f (by omega))]
          · rw [tb_neg (ieq_f (by omega))]
        refine ⟨_, S _ (hq _), I _ (hq _), fun h => (by cases h), fun _ => ⟨?_, ?_, ?_, ?_, ?_⟩⟩
        · simp only; omega
        · simp only; omega
        · omega
        · simp only; omega
        · simp only; omega
    · obtain ⟨r, r1, r2, r3⟩ := ih (k + 1) X m m' (wr .i64 (u * 128)) (by omega) (by omega) (by omega) s3 (fun h8 => by
        have t4 := (pow_table ⟨k + 1, by omega⟩).2.2.2.1
        simp only at t4
        rw [← hP] at t4
        have e2 : u * 128 = ((P (k + 1) : Nat) : Int) := by
          rw [hu, show P (k + 1) = 128 * P k by rw [hP]; rfl]
          rw [Int.natCast_mul, Int.mul_comm]; rfl
        rw [e2]
        exact wrn rfl (by omega))
      refine ⟨r, S r ?_, I r ?_, r3⟩
      · rw [tb_neg (ilt_f (by omega))]; exact r1
      · rw [tb_neg (ilt_f (by omega))]; exact r2
theorem getNum (l : List Int) (hl : l.length ≤ 140737488355328) (hb : ∀ y ∈ l, 0 ≤ y ∧ y ≤ 255) (a : Int) : ∃ r, spec_GetNum (l, a, ()) = numOut r ∧ impl_GetNum (l, a, ()) = numOut r ∧ GetOk l a r := by
  unfold spec_GetNum impl_GetNum spec_GetNum_k impl_GetNum_k
  simp only
  have hw : wr .i64 (((llen l : Nat) : Int) - 1) = (l.length : Int) - 1 := by simp only [llen]; exact wr64 (by omega) (by omega)
  rw [hw, obind_eq (impl_in ..)]
  simp only
  by_cases h1 : a < 0
  · refine ⟨(0, 0, false), ?_, ?_, fun _ => rfl, fun h => by cases h⟩
    · rw [tb_pos (ilt_t h1)]
    · rw [decide_eq_false (by omega), tb_nf]
  rw [tb_neg (ilt_f (by omega))]
  by_cases h2 : (l.length : Int) ≤ a
  · refine ⟨(0, 0, false), ?_, ?_, fun _ => rfl, fun h => by cases h⟩
    · rw [tb_pos (ile_t (by simp only [llen]; omega))]
    · rw [decide_eq_false (by omega), tb_nf]
  · obtain ⟨n, rfl⟩ := Int.eq_ofNat_of_zero_le (show 0 ≤ a by omega)
    rw [tb_neg (ile_f (by simp only [llen]; omega)), decide_eq_true (by omega), tb_nt]
    exact get_loops p128 rfl l hl hb n (by omega) 9 0 0 fuel fuel 1 (by omega) (by have := fuel_gt; omega) (by have := fuel_gt; omega) (by decide) (fun _ => rfl)
theorem bytes_range (s : ByteArray) : ∀ y ∈ bytesOf s, 0 ≤ y ∧ y ≤ 255 := by
  intro y hy
  simp only [bytesOf, List.mem_map] at hy
  obtain ⟨b, _, rfl⟩ := hy
  have := b.toNat_lt
  omega
end Go.Proofs.YtjiichnhdhlegaaGreat.V
namespace Go.Proofs.YtjiichnhdhlegaaGreat.V
open Go Go.RowKit
theorem bytes_length (s : ByteArray) : (bytesOf s).length = s.size := by simp [bytesOf]
theorem bytes_get {s : ByteArray} {i : Nat} (h : i < s.size) : (bytesOf s)[i]? = some (bt s (i : Int)) := by
  have h' : i < s.data.toList.length := by simpa using h
  simp only [bytesOf, List.getElem?_map, List.getElem?_eq_getElem h', Option.map_some, bt]
  rw [dif_pos (by simpa using h)]
  rfl
theorem strOf_size (l : List Int) : (strOf l).size = l.length := by
  show (l.map _).toArray.size = _
  simp
theorem strOf_append (a b : List Int) : strOf a ++ strOf b = strOf (a ++ b) := by
  apply ByteArray.ext
  simp [strOf]
theorem strOf_bytes (s : ByteArray) : strOf (bytesOf s) = s := by
  apply ByteArray.ext
  simp only [strOf, bytesOf, List.map_map]
  have : ((fun n : Int => UInt8.ofNat n.toNat) ∘ fun b : UInt8 => (b.toNat : Int)) = id := by
    funext b; simp
  rw [this]; simp
theorem lcut_length {α : Type} (l : List α) (a b : Nat) (h : b ≤ l.length) : (lcut l a b).length = b - a := by
  simp only [lcut, List.length_drop, List.length_take]; omega
theorem scut_strOf (l : List Int) (a b : Nat) : scut (strOf l) a b = strOf (lcut l a b) := by
  apply ByteArray.ext
  apply Array.ext'
  simp only [scut, ByteArray.data_extract, strOf, Array.toList_extract, List.extract_eq_take_drop, lcut, List.map_drop, List.map_take, List.drop_take]
theorem scut_bytes (s : ByteArray) (a b : Nat) : scut s a b = strOf (lcut (bytesOf s) a b) := by
  rw [← scut_strOf, strOf_bytes]
theorem lcut_get {α : Type} (l : List α) (a b i : Nat) : (lcut l a b)[i]? = if a + i < b then l[a + i]? else none := by
  simp only [lcut, List.getElem?_drop, List.getElem?_take]
end Go.Proofs.YtjiichnhdhlegaaGreat.V
