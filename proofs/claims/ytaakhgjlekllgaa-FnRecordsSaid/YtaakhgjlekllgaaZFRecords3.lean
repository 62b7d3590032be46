/- The proof of FnRecords: a part of it. No condition beyond the statement's own. -/
import Derived.Test.YtaakhgjlekllgaaZFRecords2
import Derived.Test.YtaakhgjlekllgaaZFRecordsWWords
import Derived.Test.YtaakhgjlekllgaaZFRecordsWMore
import Derived.OpenShut
import Derived.Laws.BitsLemmas
import Derived.Test.YtaakhgjlekllgaaRows
import Derived.WalkKit
import Derived.ProofKit
import Derived.ShutString
import Derived.ChangeOld
import Derived.Below
import Derived.SizedLaws
import Derived.Test.YtaakhgjlekllgaaZFRecordsWSized
namespace Go.Proofs.Ytaakhgjlekllgaa.PRcs
open Go.RowKit Go.Proofs.YtaakhgjlekllgaaW.PrintWords Go.Proofs.YtaakhgjlekllgaaW.PrintLast Go.Proofs.YtaakhgjlekllgaaW.PrintMore Go.Proofs.YtaakhgjlekllgaaX
attribute [local go_sem] max2_int min2_int max_two min_two max_three min_three max_four min_four   -- for this text's walks alone
set_option linter.unusedVariables false
set_option linter.unusedSimpArgs false
attribute [local go_sem high] eqA25
mutual
def laws_FnRecords.j0 : Nat → List Int → Option (Bool)
  | 0, _ => none
  | k + 1, x0 => (spec_DrawRecords.f k x0).bind fun t425 => ((impl_Records.f k t425).bind fun bt428 => ((spec_Records.f k t425).bind fun bt432 => (if (bt428.2 != bt432.2) = true then (some false) else (if bt428.2 = true then (laws_FnRecords.l0 k t425 bt428.1 (([] : List Int)) 0) else (some ((bt428.1.length : Int) == 0))))))
def laws_FnRecords.l0 : Nat → List Int → List (S25) → List Int → Int → Option (Bool)
  | 0, _, _, _, _ => none
  | k + 1, x11, x12, x16, x17 => if x17 < (x12.length : Int) then (if 0 ≤ x17 then ((impl_RecordPack.f k ((rd_T25 x12 x17).f0) ((rd_T25 x12 x17).f1) ((rd_T25 x12 x17).f2)).bind fun bt440 => (if bt440.2 = true then ((impl_UrlOk.f k ((rd_T25 x12 x17).f1)).bind fun t445 => (if t445 = true then (if x16.length + bt440.1.length < 140737488355328 then (laws_FnRecords.l0 k x11 x12 (x16 ++ bt440.1) (wrap64 (x17 + 1))) else (none)) else (some false))) else (some false))) else (none)) else (some ((strOfNums x16).toList == (strOfNums x11).toList))
end
def laws_FnRecords.f (k : Nat) (l0 : List Int) : Option (Bool) := (laws_big.f l0).bind fun t397 => (if t397 = true then (some true) else ((spec_DrawRecordPack.f k l0).bind fun bt398 => ((impl_RecordPack.f k bt398.1 bt398.2.1 bt398.2.2).bind fun bt402 => ((spec_RecordPack.f k bt398.1 bt398.2.1 bt398.2.2).bind fun bt406 => (if (bt402.2 != bt406.2) = true then (some false) else (if bt402.2 = true then ((some (([9] : List Int) : List Int)).bind fun y410 => (if y410.length + bt402.1.length < 140737488355328 then ((some (y410 ++ bt402.1 : List Int)).bind fun y413 => (if y413.length < 140737488355328 then ((impl_RecordRead.f k (y413 ++ [1]) 1).bind fun bt419 => (if bt419.2.2.2.2 = true then (if (!(bt419.1 == bt398.1) || (!(bt419.2.1.toList == bt398.2.1.toList) || (!(bt419.2.2.1.toList == bt398.2.2.toList)))) = true then (some false) else (if bt419.2.2.2.1 = (wrap64 (1 + (bt402.1.length : Int))) then (laws_FnRecords.j0 k l0) else (some false))) else (some false))) else (none))) else (none))) else (laws_FnRecords.j0 k l0)))))))
set_option maxHeartbeats 8000000 in
set_option maxRecDepth 100000 in
theorem laws_FnRecords.calls (k : Nat) (A0 : Option Addr) (c0 : Nat) (l0 : List Int) (r : Bool) (w : World) (hr0 : Kd.C (Kd.int .u8) w A0 l0.length l0) (hc0 : l0.length ≤ c0) (h : laws_FnRecords.f k l0 = some r) :
    Calls Try.prog 3 #[.slice A0 l0.length c0] w fun e w' => e = .returned (.bool r) ∧ Below w.heap.size w w' := by
  have hu25 := Try.underlying25
  have HR0 := Aside0.mk hr0
  have HC0 := Aside0.mk hc0
  clear hr0 hc0
  have HB := Aside0.mk (Below.refl w.heap.size w)
  have H : ((laws_big.f l0).bind fun t397 => (if t397 = true then (some true) else ((spec_DrawRecordPack.f k l0).bind fun bt398 => ((impl_RecordPack.f k bt398.1 bt398.2.1 bt398.2.2).bind fun bt402 => ((spec_RecordPack.f k bt398.1 bt398.2.1 bt398.2.2).bind fun bt406 => (if (bt402.2 != bt406.2) = true then (some false) else (if bt402.2 = true then ((some (([9] : List Int) : List Int)).bind fun y410 => (if y410.length + bt402.1.length < 140737488355328 then ((some (y410 ++ bt402.1 : List Int)).bind fun y413 => (if y413.length < 140737488355328 then ((impl_RecordRead.f k (y413 ++ [1]) 1).bind fun bt419 => (if bt419.2.2.2.2 = true then (if (!(bt419.1 == bt398.1) || (!(bt419.2.1.toList == bt398.2.1.toList) || (!(bt419.2.2.1.toList == bt398.2.2.toList)))) = true then (some false) else (if bt419.2.2.2.1 = (wrap64 (1 + (bt402.1.length : Int))) then (laws_FnRecords.j0 k l0) else (some false))) else (some false))) else (none))) else (none))) else (laws_FnRecords.j0 k l0)))))))) = some r := h
  clear h
  replace H := Option.bind_eq_some_iff.mp H
  obtain ⟨t397, A20, H⟩ := H
  replace H : (if t397 = true then (some true) else ((spec_DrawRecordPack.f k l0).bind fun bt398 => ((impl_RecordPack.f k bt398.1 bt398.2.1 bt398.2.2).bind fun bt402 => ((spec_RecordPack.f k bt398.1 bt398.2.1 bt398.2.2).bind fun bt406 => (if (bt402.2 != bt406.2) = true then (some false) else (if bt402.2 = true then ((some (([9] : List Int) : List Int)).bind fun y410 => (if y410.length + bt402.1.length < 140737488355328 then ((some (y410 ++ bt402.1 : List Int)).bind fun y413 => (if y413.length < 140737488355328 then ((impl_RecordRead.f k (y413 ++ [1]) 1).bind fun bt419 => (if bt419.2.2.2.2 = true then (if (!(bt419.1 == bt398.1) || (!(bt419.2.1.toList == bt398.2.1.toList) || (!(bt419.2.2.1.toList == bt398.2.2.toList)))) = true then (some false) else (if bt419.2.2.2.1 = (wrap64 (1 + (bt402.1.length : Int))) then (laws_FnRecords.j0 k l0) else (some false))) else (some false))) else (none))) else (none))) else (laws_FnRecords.j0 k l0))))))) = some r := H
  have A2 := Aside0.mk A20
  clear A20
  by_cases c3 : t397 = true
  · subst c3
    have H1 : (some true) = some r := by rw [if_pos rfl] at H; exact H
    clear H
    have H := H1
    clear H1
    obtain rfl := Option.some.inj H
    go_enter Try.func3, Try.ntmps3
    go_wp2_with (first | ((with_reducible refine gate_callee (f := 14) rfl ?_); refine goesL_ (some 21) rfl rfl Try.func14 (by kernel_rfl) rfl #[.slice A0 l0.length c0] rfl (by (try simp only [List.map_toArray, List.map_cons, List.map_nil]); first | done | rfl | (simp only [List.length_drop, List.length_take]; rfl)) ?_; (with_reducible refine (laws_big.calls _ _ l0 true _ ?side1 ?side2 A2.out).mono ?_); (case side1 => repeat (first | exact HR0.out | (with_reducible refine Kd.C_alloc ?_ _) | (with_reducible refine Kd.C_drewN ?_ _) | (with_reducible refine Kd.C_drew ?_))); (case side2 => exact HC0.out); rintro e w' ⟨rfl, ⟨nd, rfl⟩⟩; refine ⟨_, rfl, ?_⟩))
    go_ret
    exact ⟨by first | rfl | (simp [errW_none, errW_some] <;> rfl) | (simp [*, errW_none, errW_some] <;> rfl), by repeat (first | (with_reducible first | exact HB.out | apply below_alloc | apply pw_below_drewN | apply below_drew1) | exact HB.out)⟩
  · replace c3 := Bool.eq_false_iff.mpr c3
    subst c3
    have H1 : ((spec_DrawRecordPack.f k l0).bind fun bt398 => ((impl_RecordPack.f k bt398.1 bt398.2.1 bt398.2.2).bind fun bt402 => ((spec_RecordPack.f k bt398.1 bt398.2.1 bt398.2.2).bind fun bt406 => (if (bt402.2 != bt406.2) = true then (some false) else (if bt402.2 = true then ((some (([9] : List Int) : List Int)).bind fun y410 => (if y410.length + bt402.1.length < 140737488355328 then ((some (y410 ++ bt402.1 : List Int)).bind fun y413 => (if y413.length < 140737488355328 then ((impl_RecordRead.f k (y413 ++ [1]) 1).bind fun bt419 => (if bt419.2.2.2.2 = true then (if (!(bt419.1 == bt398.1) || (!(bt419.2.1.toList == bt398.2.1.toList) || (!(bt419.2.2.1.toList == bt398.2.2.toList)))) = true then (some false) else (if bt419.2.2.2.1 = (wrap64 (1 + (bt402.1.length : Int))) then (laws_FnRecords.j0 k l0) else (some false))) else (some false))) else (none))) else (none))) else (laws_FnRecords.j0 k l0)))))) = some r := by rw [if_neg (show ¬ (false = true) by decide)] at H; exact H
    clear H
    have H := H1
    clear H1
    replace H := Option.bind_eq_some_iff.mp H
    obtain ⟨⟨t398, t399, t400⟩, A40, H⟩ := H
    replace H : ((impl_RecordPack.f k t398 t399 t400).bind fun bt402 => ((spec_RecordPack.f k t398 t399 t400).bind fun bt406 => (if (bt402.2 != bt406.2) = true then (some false) else (if bt402.2 = true then ((some (([9] : List Int) : List Int)).bind fun y410 => (if y410.length + bt402.1.length < 140737488355328 then ((some (y410 ++ bt402.1 : List Int)).bind fun y413 => (if y413.length < 140737488355328 then ((impl_RecordRead.f k (y413 ++ [1]) 1).bind fun bt419 => (if bt419.2.2.2.2 = true then (if (!(bt419.1 == t398) || (!(bt419.2.1.toList == t399.toList) || (!(bt419.2.2.1.toList == t400.toList)))) = true then (some false) else (if bt419.2.2.2.1 = (wrap64 (1 + (bt402.1.length : Int))) then (laws_FnRecords.j0 k l0) else (some false))) else (some false))) else (none))) else (none))) else (laws_FnRecords.j0 k l0))))) = some r := H
    have A4 := Aside0.mk A40
    clear A40
    replace H := Option.bind_eq_some_iff.mp H
    obtain ⟨⟨t402, t405⟩, A50, H⟩ := H
    replace H : ((spec_RecordPack.f k t398 t399 t400).bind fun bt406 => (if (t405 != bt406.2) = true then (some false) else (if t405 = true then ((some (([9] : List Int) : List Int)).bind fun y410 => (if y410.length + t402.length < 140737488355328 then ((some (y410 ++ t402 : List Int)).bind fun y413 => (if y413.length < 140737488355328 then ((impl_RecordRead.f k (y413 ++ [1]) 1).bind fun bt419 => (if bt419.2.2.2.2 = true then (if (!(bt419.1 == t398) || (!(bt419.2.1.toList == t399.toList) || (!(bt419.2.2.1.toList == t400.toList)))) = true then (some false) else (if bt419.2.2.2.1 = (wrap64 (1 + (t402.length : Int))) then (laws_FnRecords.j0 k l0) else (some false))) else (some false))) else (none))) else (none))) else (laws_FnRecords.j0 k l0)))) = some r := H
    have A5 := Aside0.mk A50
    clear A50
    replace H := Option.bind_eq_some_iff.mp H
    obtain ⟨⟨t406, t409⟩, A60, H⟩ := H
    replace H : (if (t405 != t409) = true then (some false) else (if t405 = true then ((some (([9] : List Int) : List Int)).bind fun y410 => (if y410.length + t402.length < 140737488355328 then ((some (y410 ++ t402 : List Int)).bind fun y413 => (if y413.length < 140737488355328 then ((impl_RecordRead.f k (y413 ++ [1]) 1).bind fun bt419 => (if bt419.2.2.2.2 = true then (if (!(bt419.1 == t398) || (!(bt419.2.1.toList == t399.toList) || (!(bt419.2.2.1.toList == t400.toList)))) = true then (some false) else (if bt419.2.2.2.1 = (wrap64 (1 + (t402.length : Int))) then (laws_FnRecords.j0 k l0) else (some false))) else (some false))) else (none))) else (none))) else (laws_FnRecords.j0 k l0))) = some r := H
    have A6 := Aside0.mk A60
    clear A60
    by_cases c7 : (t405 != t409) = true
    · rw [if_pos c7] at H
      have c7b0 : (t405 != t409) = true := c7
      (try (have c7b1 : decide (t405 = t409) = false := by simpa using c7))
      (try (have c7b2 : (t405 == t409) = false := by simpa using c7))
      (try (have c7b3 : ¬ (t405 = t409) := by simpa using c7))
      clear c7
      obtain rfl := Option.some.inj H
      go_enter Try.func3, Try.ntmps3
      go_wp2_with (first | ((with_reducible refine gate_callee (f := 14) rfl ?_); refine goesL_ (some 21) rfl rfl Try.func14 (by kernel_rfl) rfl #[.slice A0 l0.length c0] rfl (by (try simp only [List.map_toArray, List.map_cons, List.map_nil]); first | done | rfl | (simp only [List.length_drop, List.length_take]; rfl)) ?_; (with_reducible refine (laws_big.calls _ _ l0 false _ ?side1 ?side2 A2.out).mono ?_); (case side1 => repeat (first | exact HR0.out | (with_reducible refine Kd.C_alloc ?_ _) | (with_reducible refine Kd.C_drewN ?_ _) | (with_reducible refine Kd.C_drew ?_))); (case side2 => exact HC0.out); rintro e w' ⟨rfl, ⟨nd, rfl⟩⟩; refine ⟨_, rfl, ?_⟩) | ((with_reducible refine gate_callee (f := 15) rfl ?_); refine goesL_ (some 23) rfl rfl Try.func15 (by kernel_rfl) rfl #[.slice A0 l0.length c0] rfl (by (try simp only [List.map_toArray, List.map_cons, List.map_nil]); first | done | rfl | (simp only [List.length_drop, List.length_take]; rfl)) ?_; (with_reducible refine (spec_DrawRecordPack.calls k _ _ l0 t398 t399 t400 _ ?side1 ?side2 A4.out).mono ?_); (case side1 => repeat (first | exact HR0.out | (with_reducible refine Kd.C_alloc ?_ _) | (with_reducible refine Kd.C_drewN ?_ _) | (with_reducible refine Kd.C_drew ?_))); (case side2 => exact HC0.out); rintro e w8 ⟨rfl, hb⟩; refine ⟨_, rfl, ?_⟩; have n0_ := Aside0.mk (below_step (by repeat (first | (with_reducible first | exact HB.out | apply below_alloc | apply pw_below_drewN | apply below_drew1) | exact HB.out)) hb); clear HB; have HB := n0_; clear n0_; (try clear hb); (try clear hb2); (try clear hk); (try clear hi)) | ((with_reducible refine gate_dst (N := 3) rfl ?_); (try (refine gate_guard (by rfl) ?_; dsimp only)); refine box_event ?hg (N := 3) ?hd (cs := #[.int .i64 0, .string (⟨#[]⟩ : ByteArray), .string (⟨#[]⟩ : ByteArray)]) (t := 25) ?hr ?_; (case hd => rfl); (case hg => rfl); (case hr => first | (go_simp; done) | (go_simp; rfl)); intro gb401 hg w9 hbox hb; have n0_ := Aside0.mk (below_step (by repeat (first | (with_reducible first | exact HB.out | apply below_alloc | apply pw_below_drewN | apply below_drew1) | exact HB.out)) hb); have n1_ := Aside0.mk (hbox); have n2_ := Aside0.mk ((by rw [hg]; exact (below_size (by repeat (first | (with_reducible first | exact HB.out | apply below_alloc | apply pw_below_drewN | apply below_drew1) | exact HB.out))) : w.heap.size ≤ gb401)); have n3_ := Aside0.mk ((by rw [hg]; exact (below_size (by repeat (first | (with_reducible first | exact HB.out | apply below_alloc | apply pw_below_drewN | apply below_drew1) | exact HB.out))) : w.heap.size ≤ gb401)); clear HB; have HB := n0_; have BK401 := n1_; have GW401 := n2_; have GE401 := n3_; clear n0_ n1_ n2_ n3_; clear hb hbox hg; have hcz10_0 : w9.cell? ⟨gb401, 0, none⟩ = some (.int .i64 0) := (blk_cell BK401.out 0).trans rfl; have hcz10_1 : w9.cell? ⟨gb401, 1, none⟩ = some (.string (⟨#[]⟩ : ByteArray)) := (blk_cell BK401.out 1).trans rfl; have hcz10_2 : w9.cell? ⟨gb401, 2, none⟩ = some (.string (⟨#[]⟩ : ByteArray)) := (blk_cell BK401.out 2).trans rfl; have hfz10_0 := blk_frozen BK401.out 0; have hfz10_1 := blk_frozen BK401.out 1; have hfz10_2 := blk_frozen BK401.out 2) | ((with_reducible refine gate_callee (f := 16) rfl ?_); refine goesL_ (some 26) rfl rfl Try.func16 (by kernel_rfl) rfl #[.agg #[.int .i64 t398, .string t399, .string t400]] rfl (by (try simp only [List.map_toArray, List.map_cons, List.map_nil]); first | done | rfl | (simp only [List.length_drop, List.length_take]; rfl)) ?_; (with_reducible refine (impl_RecordPack.calls k t398 t399 t400 t402 t405 _ A5.out).mono ?_); rintro e w11 ⟨v403, rfl, ho0, hb⟩; refine ⟨_, rfl, ?_⟩; have n0_ := Aside0.mk (Kd.R_lower ho0 (below_size (by repeat (first | (with_reducible first | exact HB.out | apply below_alloc | apply pw_below_drewN | apply below_drew1 | refine below_set ?_ GE401.out) | exact HB.out)))); have n1_ := Aside0.mk (blk_below (g := gb401) (o := .cells #[.int .i64 t398, .string t399, .string t400] 25 (0, 0)) (by (with_reducible repeat (first | refine blk_drewN ?_ _ | refine blk_drew ?_ | refine blk_alloc ?_ _)); refine blk_put (cs := #[.int .i64 t398, .string t399, .string (⟨#[]⟩ : ByteArray)]) ?_ 2 _ rfl; (with_reducible repeat (first | refine blk_drewN ?_ _ | refine blk_drew ?_ | refine blk_alloc ?_ _)); refine blk_put (cs := #[.int .i64 t398, .string (⟨#[]⟩ : ByteArray), .string (⟨#[]⟩ : ByteArray)]) ?_ 1 _ rfl; (with_reducible repeat (first | refine blk_drewN ?_ _ | refine blk_drew ?_ | refine blk_alloc ?_ _)); refine blk_put (cs := #[.int .i64 0, .string (⟨#[]⟩ : ByteArray), .string (⟨#[]⟩ : ByteArray)]) ?_ 0 _ rfl; (with_reducible repeat (first | refine blk_drewN ?_ _ | refine blk_drew ?_ | refine blk_alloc ?_ _)); exact BK401.out) hb); have n2_ := Aside0.mk (below_step (by repeat (first | (with_reducible first | exact HB.out | apply below_alloc | apply pw_below_drewN | apply below_drew1 | refine below_set ?_ GE401.out) | exact HB.out)) hb); clear BK401; clear HB; have HO404 := n0_; have BK401 := n1_; have HB := n2_; clear n0_ n1_ n2_; (try clear hb); (try clear hb2); (try clear hk); (try clear hi); (try clear ho0); have hcz12_0 : w11.cell? ⟨gb401, 0, none⟩ = some (.int .i64 t398) := (blk_cell BK401.out 0).trans rfl; have hcz12_1 : w11.cell? ⟨gb401, 1, none⟩ = some (.string t399) := (blk_cell BK401.out 1).trans rfl; have hcz12_2 : w11.cell? ⟨gb401, 2, none⟩ = some (.string t400) := (blk_cell BK401.out 2).trans rfl; have hfz12_0 := blk_frozen BK401.out 0; have hfz12_1 := blk_frozen BK401.out 1; have hfz12_2 := blk_frozen BK401.out 2) | ((with_reducible refine gate_callee (f := 17) rfl ?_); refine goesL_ (some 31) rfl rfl Try.func17 (by kernel_rfl) rfl #[.agg #[.int .i64 t398, .string t399, .string t400]] rfl (by (try simp only [List.map_toArray, List.map_cons, List.map_nil]); first | done | rfl | (simp only [List.length_drop, List.length_take]; rfl)) ?_; (with_reducible refine (spec_RecordPack.calls k t398 t399 t400 t406 t409 _ A6.out).mono ?_); rintro e w13 ⟨v407, rfl, ho0, hb⟩; refine ⟨_, rfl, ?_⟩; have n0_ := Aside0.mk (Kd.R_elder' (by (with_reducible repeat (first | apply Kd.R_alloc | apply Kd.R_drewN | apply Kd.R_drew)); exact HO404.out) (Kd.R_base ho0) hb); have n1_ := Aside0.mk (Kd.R_lower (Kd.R_new' ho0 (Kd.R_lt (by (with_reducible repeat (first | apply Kd.R_alloc | apply Kd.R_drewN | apply Kd.R_drew)); exact HO404.out))) (below_size (by repeat (first | (with_reducible first | exact HB.out | apply below_alloc | apply pw_below_drewN | apply below_drew1 | refine below_set ?_ GE401.out) | exact HB.out)))); have n2_ := Aside0.mk (blk_below (g := gb401) (o := .cells #[.int .i64 t398, .string t399, .string t400] 25 (0, 0)) (by (with_reducible repeat (first | refine blk_drewN ?_ _ | refine blk_drew ?_ | refine blk_alloc ?_ _)); exact BK401.out) hb); have n3_ := Aside0.mk (below_step (by repeat (first | (with_reducible first | exact HB.out | apply below_alloc | apply pw_below_drewN | apply below_drew1 | refine below_set ?_ GE401.out) | exact HB.out)) hb); clear HO404; clear BK401; clear HB; have HO404 := n0_; have HO408 := n1_; have BK401 := n2_; have HB := n3_; clear n0_ n1_ n2_ n3_; (try clear hb); (try clear hb2); (try clear hk); (try clear hi); (try clear ho0)))
      go_ret
      exact ⟨by first | rfl | (simp [errW_none, errW_some] <;> rfl) | (simp [*, errW_none, errW_some] <;> rfl), by repeat (first | (with_reducible first | exact HB.out | apply below_alloc | apply pw_below_drewN | apply below_drew1 | refine below_set ?_ GE401.out) | exact HB.out)⟩
    · rw [if_neg c7] at H
      have c7b0 : (t405 != t409) = false := by simpa using c7
      (try (have c7b1 : decide (t405 = t409) = true := by simpa using c7))
      (try (have c7b2 : (t405 == t409) = true := by simpa using c7))
      clear c7
      have HC14 := Aside0.mk H
      clear H
      go_enter Try.func3, Try.ntmps3
      go_upto_if 37 with (first | ((with_reducible refine gate_callee (f := 14) rfl ?_); refine goesL_ (some 21) rfl rfl Try.func14 (by kernel_rfl) rfl #[.slice A0 l0.length c0] rfl (by (try simp only [List.map_toArray, List.map_cons, List.map_nil]); first | done | rfl | (simp only [List.length_drop, List.length_take]; rfl)) ?_; (with_reducible refine (laws_big.calls _ _ l0 false _ ?side1 ?side2 A2.out).mono ?_); (case side1 => repeat (first | exact HR0.out | (with_reducible refine Kd.C_alloc ?_ _) | (with_reducible refine Kd.C_drewN ?_ _) | (with_reducible refine Kd.C_drew ?_))); (case side2 => exact HC0.out); rintro e w' ⟨rfl, ⟨nd, rfl⟩⟩; refine ⟨_, rfl, ?_⟩) | ((with_reducible refine gate_callee (f := 15) rfl ?_); refine goesL_ (some 23) rfl rfl Try.func15 (by kernel_rfl) rfl #[.slice A0 l0.length c0] rfl (by (try simp only [List.map_toArray, List.map_cons, List.map_nil]); first | done | rfl | (simp only [List.length_drop, List.length_take]; rfl)) ?_; (with_reducible refine (spec_DrawRecordPack.calls k _ _ l0 t398 t399 t400 _ ?side1 ?side2 A4.out).mono ?_); (case side1 => repeat (first | exact HR0.out | (with_reducible refine Kd.C_alloc ?_ _) | (with_reducible refine Kd.C_drewN ?_ _) | (with_reducible refine Kd.C_drew ?_))); (case side2 => exact HC0.out); rintro e w15 ⟨rfl, hb⟩; refine ⟨_, rfl, ?_⟩; have n0_ := Aside0.mk (below_step (by repeat (first | (with_reducible first | exact HB.out | apply below_alloc | apply pw_below_drewN | apply below_drew1) | exact HB.out)) hb); clear HB; have HB := n0_; clear n0_; (try clear hb); (try clear hb2); (try clear hk); (try clear hi)) | ((with_reducible refine gate_dst (N := 3) rfl ?_); (try (refine gate_guard (by rfl) ?_; dsimp only)); refine box_event ?hg (N := 3) ?hd (cs := #[.int .i64 0, .string (⟨#[]⟩ : ByteArray), .string (⟨#[]⟩ : ByteArray)]) (t := 25) ?hr ?_; (case hd => rfl); (case hg => rfl); (case hr => first | (go_simp; done) | (go_simp; rfl)); intro gb401 hg w16 hbox hb; have n0_ := Aside0.mk (below_step (by repeat (first | (with_reducible first | exact HB.out | apply below_alloc | apply pw_below_drewN | apply below_drew1) | exact HB.out)) hb); have n1_ := Aside0.mk (hbox); have n2_ := Aside0.mk ((by rw [hg]; exact (below_size (by repeat (first | (with_reducible first | exact HB.out | apply below_alloc | apply pw_below_drewN | apply below_drew1) | exact HB.out))) : w.heap.size ≤ gb401)); have n3_ := Aside0.mk ((by rw [hg]; exact (below_size (by repeat (first | (with_reducible first | exact HB.out | apply below_alloc | apply pw_below_drewN | apply below_drew1) | exact HB.out))) : w.heap.size ≤ gb401)); clear HB; have HB := n0_; have BK401 := n1_; have GW401 := n2_; have GE401 := n3_; clear n0_ n1_ n2_ n3_; clear hb hbox hg; have hcz17_0 : w16.cell? ⟨gb401, 0, none⟩ = some (.int .i64 0) := (blk_cell BK401.out 0).trans rfl; have hcz17_1 : w16.cell? ⟨gb401, 1, none⟩ = some (.string (⟨#[]⟩ : ByteArray)) := (blk_cell BK401.out 1).trans rfl; have hcz17_2 : w16.cell? ⟨gb401, 2, none⟩ = some (.string (⟨#[]⟩ : ByteArray)) := (blk_cell BK401.out 2).trans rfl; have hfz17_0 := blk_frozen BK401.out 0; have hfz17_1 := blk_frozen BK401.out 1; have hfz17_2 := blk_frozen BK401.out 2) | ((with_reducible refine gate_callee (f := 16) rfl ?_); refine goesL_ (some 26) rfl rfl Try.func16 (by kernel_rfl) rfl #[.agg #[.int .i64 t398, .string t399, .string t400]] rfl (by (try simp only [List.map_toArray, List.map_cons, List.map_nil]); first | done | rfl | (simp only [List.length_drop, List.length_take]; rfl)) ?_; (with_reducible refine (impl_RecordPack.calls k t398 t399 t400 t402 t405 _ A5.out).mono ?_); rintro e w18 ⟨v403, rfl, ho0, hb⟩; refine ⟨_, rfl, ?_⟩; have n0_ := Aside0.mk (Kd.R_lower ho0 (below_size (by repeat (first | (with_reducible first | exact HB.out | apply below_alloc | apply pw_below_drewN | apply below_drew1 | refine below_set ?_ GE401.out) | exact HB.out)))); have n1_ := Aside0.mk (blk_below (g := gb401) (o := .cells #[.int .i64 t398, .string t399, .string t400] 25 (0, 0)) (by (with_reducible repeat (first | refine blk_drewN ?_ _ | refine blk_drew ?_ | refine blk_alloc ?_ _)); refine blk_put (cs := #[.int .i64 t398, .string t399, .string (⟨#[]⟩ : ByteArray)]) ?_ 2 _ rfl; (with_reducible repeat (first | refine blk_drewN ?_ _ | refine blk_drew ?_ | refine blk_alloc ?_ _)); refine blk_put (cs := #[.int .i64 t398, .string (⟨#[]⟩ : ByteArray), .string (⟨#[]⟩ : ByteArray)]) ?_ 1 _ rfl; (with_reducible repeat (first | refine blk_drewN ?_ _ | refine blk_drew ?_ | refine blk_alloc ?_ _)); refine blk_put (cs := #[.int .i64 0, .string (⟨#[]⟩ : ByteArray), .string (⟨#[]⟩ : ByteArray)]) ?_ 0 _ rfl; (with_reducible repeat (first | refine blk_drewN ?_ _ | refine blk_drew ?_ | refine blk_alloc ?_ _)); exact BK401.out) hb); have n2_ := Aside0.mk (below_step (by repeat (first | (with_reducible first | exact HB.out | apply below_alloc | apply pw_below_drewN | apply below_drew1 | refine below_set ?_ GE401.out) | exact HB.out)) hb); clear BK401; clear HB; have HO404 := n0_; have BK401 := n1_; have HB := n2_; clear n0_ n1_ n2_; (try clear hb); (try clear hb2); (try clear hk); (try clear hi); (try clear ho0); have hcz19_0 : w18.cell? ⟨gb401, 0, none⟩ = some (.int .i64 t398) := (blk_cell BK401.out 0).trans rfl; have hcz19_1 : w18.cell? ⟨gb401, 1, none⟩ = some (.string t399) := (blk_cell BK401.out 1).trans rfl; have hcz19_2 : w18.cell? ⟨gb401, 2, none⟩ = some (.string t400) := (blk_cell BK401.out 2).trans rfl; have hfz19_0 := blk_frozen BK401.out 0; have hfz19_1 := blk_frozen BK401.out 1; have hfz19_2 := blk_frozen BK401.out 2) | ((with_reducible refine gate_callee (f := 17) rfl ?_); refine goesL_ (some 31) rfl rfl Try.func17 (by kernel_rfl) rfl #[.agg #[.int .i64 t398, .string t399, .string t400]] rfl (by (try simp only [List.map_toArray, List.map_cons, List.map_nil]); first | done | rfl | (simp only [List.length_drop, List.length_take]; rfl)) ?_; (with_reducible refine (spec_RecordPack.calls k t398 t399 t400 t406 t409 _ A6.out).mono ?_); rintro e w20 ⟨v407, rfl, ho0, hb⟩; refine ⟨_, rfl, ?_⟩; have n0_ := Aside0.mk (Kd.R_elder' (by (with_reducible repeat (first | apply Kd.R_alloc | apply Kd.R_drewN | apply Kd.R_drew)); exact HO404.out) (Kd.R_base ho0) hb); have n1_ := Aside0.mk (Kd.R_lower (Kd.R_new' ho0 (Kd.R_lt (by (with_reducible repeat (first | apply Kd.R_alloc | apply Kd.R_drewN | apply Kd.R_drew)); exact HO404.out))) (below_size (by repeat (first | (with_reducible first | exact HB.out | apply below_alloc | apply pw_below_drewN | apply below_drew1 | refine below_set ?_ GE401.out) | exact HB.out)))); have n2_ := Aside0.mk (blk_below (g := gb401) (o := .cells #[.int .i64 t398, .string t399, .string t400] 25 (0, 0)) (by (with_reducible repeat (first | refine blk_drewN ?_ _ | refine blk_drew ?_ | refine blk_alloc ?_ _)); exact BK401.out) hb); have n3_ := Aside0.mk (below_step (by repeat (first | (with_reducible first | exact HB.out | apply below_alloc | apply pw_below_drewN | apply below_drew1 | refine below_set ?_ GE401.out) | exact HB.out)) hb); clear HO404; clear BK401; clear HB; have HO404 := n0_; have HO408 := n1_; have BK401 := n2_; have HB := n3_; clear n0_ n1_ n2_ n3_; (try clear hb); (try clear hb2); (try clear hk); (try clear hi); (try clear ho0)))
      (try simp only [Act.put, List.setIfInBounds_toArray, List.set_cons_zero, List.set_cons_succ])
      go_cut [] (fun wc => ∃ (kq : Nat), Aside0 (laws_FnRecords.j0 kq l0 = some r) ∧ Aside0 (kq ≤ k) ∧ Aside0 (wc.heap[gb401]? = some (.cells #[.int .i64 t398, .string t399, .string t400] 25 (0, 0))) ∧ Aside0 (Below w.heap.size w wc))
      case first =>
        have H := HC14.out
        clear HC14
        by_cases c21 : t405 = true
        · subst c21
          have H1 : ((some (([9] : List Int) : List Int)).bind fun y410 => (if y410.length + t402.length < 140737488355328 then ((some (y410 ++ t402 : List Int)).bind fun y413 => (if y413.length < 140737488355328 then ((impl_RecordRead.f k (y413 ++ [1]) 1).bind fun bt419 => (if bt419.2.2.2.2 = true then (if (!(bt419.1 == t398) || (!(bt419.2.1.toList == t399.toList) || (!(bt419.2.2.1.toList == t400.toList)))) = true then (some false) else (if bt419.2.2.2.1 = (wrap64 (1 + (t402.length : Int))) then (laws_FnRecords.j0 k l0) else (some false))) else (some false))) else (none))) else (none))) = some r := by rw [if_pos rfl] at H; exact H
          clear H
          have H := H1
          clear H1
          obtain ⟨y410, hy410⟩ : ∃ y_ : List Int, y_ = (([9] : List Int)) := ⟨_, rfl⟩
          replace H : (if y410.length + t402.length < 140737488355328 then ((some (y410 ++ t402 : List Int)).bind fun y413 => (if y413.length < 140737488355328 then ((impl_RecordRead.f k (y413 ++ [1]) 1).bind fun bt419 => (if bt419.2.2.2.2 = true then (if (!(bt419.1 == t398) || (!(bt419.2.1.toList == t399.toList) || (!(bt419.2.2.1.toList == t400.toList)))) = true then (some false) else (if bt419.2.2.2.1 = (wrap64 (1 + (t402.length : Int))) then (laws_FnRecords.j0 k l0) else (some false))) else (some false))) else (none))) else (none)) = some r := by first | (rw [hy410]; with_reducible exact H) | (have H2_ := (Option.bind_some _ _).symm.trans H; rw [hy410]; with_reducible exact H2_) | (have H2_ := (Option.bind_some _ _).symm.trans H; with_reducible exact H2_) | with_reducible exact H | (rw [hy410]; exact H) | exact H
          have Ny410 := Aside0.mk hy410
          clear hy410
          by_cases c22 : y410.length + t402.length < 140737488355328
          · rw [if_pos c22] at H
            have LMc22 := Aside0.mk c22
            clear c22
            obtain ⟨y413, hy413⟩ : ∃ y_ : List Int, y_ = (y410 ++ t402) := ⟨_, rfl⟩
            replace H : (if y413.length < 140737488355328 then ((impl_RecordRead.f k (y413 ++ [1]) 1).bind fun bt419 => (if bt419.2.2.2.2 = true then (if (!(bt419.1 == t398) || (!(bt419.2.1.toList == t399.toList) || (!(bt419.2.2.1.toList == t400.toList)))) = true then (some false) else (if bt419.2.2.2.1 = (wrap64 (1 + (t402.length : Int))) then (laws_FnRecords.j0 k l0) else (some false))) else (some false))) else (none)) = some r := by first | (rw [hy413]; with_reducible exact H) | (have H2_ := (Option.bind_some _ _).symm.trans H; rw [hy413]; with_reducible exact H2_) | (have H2_ := (Option.bind_some _ _).symm.trans H; with_reducible exact H2_) | with_reducible exact H | (rw [hy413]; exact H) | exact H
            have Ny413 := Aside0.mk hy413
            clear hy413
            by_cases c23 : y413.length < 140737488355328
            · rw [if_pos c23] at H
              have LMc23 := Aside0.mk c23
              clear c23
              obtain ⟨y416, hy416⟩ : ∃ y_ : List Int, y_ = (y413 ++ [1]) := ⟨_, rfl⟩
              replace H : ((impl_RecordRead.f k y416 1).bind fun bt419 => (if bt419.2.2.2.2 = true then (if (!(bt419.1 == t398) || (!(bt419.2.1.toList == t399.toList) || (!(bt419.2.2.1.toList == t400.toList)))) = true then (some false) else (if bt419.2.2.2.1 = (wrap64 (1 + (t402.length : Int))) then (laws_FnRecords.j0 k l0) else (some false))) else (some false))) = some r := by first | (rw [hy416]; with_reducible exact H) | (have H2_ := (Option.bind_some _ _).symm.trans H; rw [hy416]; with_reducible exact H2_) | (have H2_ := (Option.bind_some _ _).symm.trans H; with_reducible exact H2_) | with_reducible exact H | (rw [hy416]; exact H) | exact H
              have Ny416 := Aside0.mk hy416
              clear hy416
              replace H := Option.bind_eq_some_iff.mp H
              obtain ⟨⟨t419, t420, t421, t422, t423⟩, A240, H⟩ := H
              replace H : (if t423 = true then (if (!(t419 == t398) || (!(t420.toList == t399.toList) || (!(t421.toList == t400.toList)))) = true then (some false) else (if t422 = (wrap64 (1 + (t402.length : Int))) then (laws_FnRecords.j0 k l0) else (some false))) else (some false)) = some r := H
              have A24 := Aside0.mk A240
              clear A240
              by_cases c25 : t423 = true
              · subst c25
                have H1 : (if (!(t419 == t398) || (!(t420.toList == t399.toList) || (!(t421.toList == t400.toList)))) = true then (some false) else (if t422 = (wrap64 (1 + (t402.length : Int))) then (laws_FnRecords.j0 k l0) else (some false))) = some r := by rw [if_pos rfl] at H; exact H
                clear H
                have H := H1
                clear H1
                by_cases c26 : (!(t419 == t398) || (!(t420.toList == t399.toList) || (!(t421.toList == t400.toList)))) = true
                · rw [if_pos c26] at H
                  have c26b0 : (!(t419 == t398) || (!(t420.toList == t399.toList) || (!(t421.toList == t400.toList)))) = true := c26
                  clear c26
                  (first | rw [c26b0] | (simp only [i64_w, i32_w]; rw [c26b0]) | skip)
                  obtain rfl := Option.some.inj H
                  go_wp2_with (first | ((with_reducible refine gate_dst (N := 39) rfl ?_); (try (refine gate_guard (by rfl) ?_; dsimp only)); refine Kd.R_lit (Kd.int .u8) _ 5 ?hg (N := 39) ?hd (xs := ([9] : List Int)) (inner := [.int .u8 9]) (ok := fun _ => True) (okp := fun _ => True) ?hr ?hp (fun _ hk => hk) trivial (Below.refl _ _) (Nat.le_refl _) (by simp) ?_; (case hd => rfl); (case hg => rfl); (case hr => first | (go_simp; done) | (go_simp; rfl)); (case hp => exact (Reps.one (show Kd.M (Kd.int .u8) _ _ _ 9 [.int .u8 9] from rfl) (Reps.none _ _))); intro v411 w27 ho28 hb hg_ hnew_; clear hg_ hnew_; (first | rw [← Ny410.out] at ho28 | (simp only [Int.reduceToNat] at ho28; rw [← Ny410.out] at ho28)); have n0_ := Aside0.mk (Kd.R_elder' (by (with_reducible repeat (first | apply Kd.R_alloc | apply Kd.R_drewN | apply Kd.R_drew)); exact HO404.out) (Kd.R_base ho28) hb); have n1_ := Aside0.mk (Kd.R_elder' (by (with_reducible repeat (first | apply Kd.R_alloc | apply Kd.R_drewN | apply Kd.R_drew)); exact HO408.out) (Kd.R_base ho28) hb); have n2_ := Aside0.mk (Kd.R_lower (Kd.R_new' (Kd.R_new' ho28 (Kd.R_lt (by (with_reducible repeat (first | apply Kd.R_alloc | apply Kd.R_drewN | apply Kd.R_drew)); exact HO404.out))) (Kd.R_lt (by (with_reducible repeat (first | apply Kd.R_alloc | apply Kd.R_drewN | apply Kd.R_drew)); exact HO408.out))) (below_size (by repeat (first | (with_reducible first | exact HB.out | apply below_alloc | apply pw_below_drewN | apply below_drew1 | refine below_set ?_ GE401.out) | exact HB.out)))); have n3_ := Aside0.mk (blk_below (g := gb401) (o := .cells #[.int .i64 t398, .string t399, .string t400] 25 (0, 0)) (by (with_reducible repeat (first | refine blk_drewN ?_ _ | refine blk_drew ?_ | refine blk_alloc ?_ _)); exact BK401.out) hb); have n4_ := Aside0.mk (below_step (by repeat (first | (with_reducible first | exact HB.out | apply below_alloc | apply pw_below_drewN | apply below_drew1 | refine below_set ?_ GE401.out) | exact HB.out)) hb); clear HO404; clear HO408; clear BK401; clear HB; have HO404 := n0_; have HO408 := n1_; have HO412 := n2_; have BK401 := n3_; have HB := n4_; clear n0_ n1_ n2_ n3_ n4_; clear hb ho28; obtain ⟨Ao30, co30, eo30⟩ := Kd.R_slice HO404.out; subst eo30) | ((with_reducible refine gate_builtin (b := .append) (xs := #[.tmp 39, .tmp 40]) rfl ?_); (try (refine gate_guard (by rfl) ?_; dsimp only)); at_builtin; refine Kd.R_append_rows (Kd.int .u8) (w0 := w) w.heap.size rfl (.tmp 39) (.tmp 40) 22 5 (.int .u8 0) 1 rfl Try.underlying22 info5 rfl (by decide) (by omega) v411 y410 t402 _ _ _ (fun k_ => some k_ ≠ (.slice Ao30 t402.length co30 : Value).ownBlock ∧ some k_ ≠ (v407 : Value).ownBlock) (fun _ => False) rfl rfl ?aO ?aR (fun _ _ h => h) (fun _ h => h.elim) ?aF ?aB ?aS ?aL ?_; (case aR => repeat (first | exact (Kd.R_reads' HO404.out).2.2 | (with_reducible refine Kd.C_alloc ?_ _) | (with_reducible refine Kd.C_drewN ?_ _) | (with_reducible refine Kd.C_drew ?_))); (case aB => exact (by repeat (first | (with_reducible first | exact HB.out | apply below_alloc | apply pw_below_drewN | apply below_drew1 | refine below_set ?_ GE401.out) | exact HB.out))); (case aF => exact (fun k_ hk => ⟨Kd.fresh' (Kd.R_lt (by (with_reducible repeat (first | apply Kd.R_alloc | apply Kd.R_drewN | apply Kd.R_drew)); exact HO404.out)) k_ hk, Kd.fresh' (Kd.R_lt (by (with_reducible repeat (first | apply Kd.R_alloc | apply Kd.R_drewN | apply Kd.R_drew)); exact HO408.out)) k_ hk⟩)); (case aO => exact (by (with_reducible repeat (first | apply Kd.R_alloc | apply Kd.R_drewN | apply Kd.R_drew)); exact Kd.R_mono HO412.out (fun _ hk => ⟨hk.1.2, hk.2⟩))); (case aS => exact (below_size (by repeat (first | (with_reducible first | exact HB.out | apply below_alloc | apply pw_below_drewN | apply below_drew1 | refine below_set ?_ GE401.out) | exact HB.out)))); (case aL => have := LMc22.out; omega); intro v414 w29 ho hb hg hat; rw [← Ny413.out] at ho; have n0_ := Aside0.mk (blk_grown (g := gb401) (o := .cells #[.int .i64 t398, .string t399, .string t400] 25 (0, 0)) (by (with_reducible repeat (first | refine blk_drewN ?_ _ | refine blk_drew ?_ | refine blk_alloc ?_ _)); exact BK401.out) hg (Kd.R_ne HO412.out BK401.out (by decide))); have n1_ := Aside0.mk (Kd.R_after (ok := (fun k_ => some k_ ≠ (v407 : Value).ownBlock)) (by (with_reducible repeat (first | apply Kd.R_alloc | apply Kd.R_drewN | apply Kd.R_drew)); exact Kd.R_mono HO404.out (fun _ hk => ⟨hk.1.2, hk.2⟩)) hg hat); have n2_ := Aside0.mk (Kd.R_after (ok := (fun k_ => some k_ ≠ (.slice Ao30 t402.length co30 : Value).ownBlock)) (by (with_reducible repeat (first | apply Kd.R_alloc | apply Kd.R_drewN | apply Kd.R_drew)); exact Kd.R_mono HO408.out (fun _ hk => ⟨hk.1.2, hk.2⟩)) hg hat); have n3_ := Aside0.mk (hb); have n4_ := Aside0.mk (ho); clear BK401; clear HO404; clear HO408; clear HB; clear HO412; have BK401 := n0_; have HO404 := n1_; have HO408 := n2_; have HB := n3_; have HO415 := n4_; clear n0_ n1_ n2_ n3_ n4_; clear ho hb hg hat) | ((with_reducible refine gate_builtin (b := .append) (xs := #[.tmp 41, .tmp 42]) rfl ?_); (try (refine gate_guard (by rfl) ?_; dsimp only)); at_builtin; refine Kd.R_append (Kd.int .u8) (w0 := w) w.heap.size rfl (.tmp 41) (.tmp 42) 22 5 (.int .u8 0) 1 rfl Try.underlying22 info5 rfl (by decide) (by omega) v414 y413 1 [.int .u8 1] (fun k_ => some k_ ≠ (.slice Ao30 t402.length co30 : Value).ownBlock ∧ some k_ ≠ (v407 : Value).ownBlock) (fun _ => False) rfl rfl ?aP (fun _ hk => hk.elim) ?aF ?aO ?aB ?aS ?aL ?_; (case aP => exact rfl); (case aB => exact (by repeat (first | (with_reducible first | exact HB.out | apply below_alloc | apply pw_below_drewN | apply below_drew1 | refine below_set ?_ GE401.out) | exact HB.out))); (case aF => exact (fun k_ hk => ⟨Kd.fresh' (Kd.R_lt (by (with_reducible repeat (first | apply Kd.R_alloc | apply Kd.R_drewN | apply Kd.R_drew)); exact HO404.out)) k_ hk, Kd.fresh' (Kd.R_lt (by (with_reducible repeat (first | apply Kd.R_alloc | apply Kd.R_drewN | apply Kd.R_drew)); exact HO408.out)) k_ hk⟩)); (case aO => exact (by (with_reducible repeat (first | apply Kd.R_alloc | apply Kd.R_drewN | apply Kd.R_drew)); exact HO415.out)); (case aS => exact (below_size (by repeat (first | (with_reducible first | exact HB.out | apply below_alloc | apply pw_below_drewN | apply below_drew1 | refine below_set ?_ GE401.out) | exact HB.out)))); (case aL => have := LMc23.out; omega); intro v417 w31 ho hb hg hat; rw [← Ny416.out] at ho; have n0_ := Aside0.mk (blk_grown (g := gb401) (o := .cells #[.int .i64 t398, .string t399, .string t400] 25 (0, 0)) (by (with_reducible repeat (first | refine blk_drewN ?_ _ | refine blk_drew ?_ | refine blk_alloc ?_ _)); exact BK401.out) hg (Kd.R_ne HO415.out BK401.out (by decide))); have n1_ := Aside0.mk (Kd.R_after (ok := (fun k_ => some k_ ≠ (v407 : Value).ownBlock)) (by (with_reducible repeat (first | apply Kd.R_alloc | apply Kd.R_drewN | apply Kd.R_drew)); exact HO404.out) hg hat); have n2_ := Aside0.mk (Kd.R_after (ok := (fun k_ => some k_ ≠ (.slice Ao30 t402.length co30 : Value).ownBlock)) (by (with_reducible repeat (first | apply Kd.R_alloc | apply Kd.R_drewN | apply Kd.R_drew)); exact HO408.out) hg hat); have n3_ := Aside0.mk (hb); have n4_ := Aside0.mk (ho); clear BK401; clear HO404; clear HO408; clear HB; clear HO415; have BK401 := n0_; have HO404 := n1_; have HO408 := n2_; have HB := n3_; have HO418 := n4_; clear n0_ n1_ n2_ n3_ n4_; clear ho hb hg hat; obtain ⟨Ao32, co32, eo32⟩ := Kd.R_slice HO418.out; subst eo32) | ((with_reducible refine gate_callee (f := 18) rfl ?_); refine goesL_ (some 44) rfl rfl Try.func18 (by kernel_rfl) rfl #[.slice Ao32 y416.length co32, .int .i64 1] rfl (by (try simp only [List.map_toArray, List.map_cons, List.map_nil]); first | done | rfl | (simp only [List.length_drop, List.length_take]; rfl)) ?_; (with_reducible refine (impl_RecordRead.calls k _ _ y416 1 t419 t420 t421 t422 true _ ?side1 ?side2 A24.out).mono ?_); (case side1 => repeat (first | exact (Kd.R_reads' HO418.out).2.2 | (with_reducible refine Kd.C_alloc ?_ _) | (with_reducible refine Kd.C_drewN ?_ _) | (with_reducible refine Kd.C_drew ?_))); (case side2 => exact (Kd.R_reads' HO418.out).2.1); rintro e w33 ⟨rfl, hb⟩; refine ⟨_, rfl, ?_⟩; have n0_ := Aside0.mk (Kd.R_below (by (with_reducible repeat (first | apply Kd.R_alloc | apply Kd.R_drewN | apply Kd.R_drew)); exact HO404.out) hb); have n1_ := Aside0.mk (Kd.R_below (by (with_reducible repeat (first | apply Kd.R_alloc | apply Kd.R_drewN | apply Kd.R_drew)); exact HO408.out) hb); have n2_ := Aside0.mk (Kd.R_below (by (with_reducible repeat (first | apply Kd.R_alloc | apply Kd.R_drewN | apply Kd.R_drew)); exact HO418.out) hb); have n3_ := Aside0.mk (blk_below (g := gb401) (o := .cells #[.int .i64 t398, .string t399, .string t400] 25 (0, 0)) (by (with_reducible repeat (first | refine blk_drewN ?_ _ | refine blk_drew ?_ | refine blk_alloc ?_ _)); exact BK401.out) hb); have n4_ := Aside0.mk (below_step (by repeat (first | (with_reducible first | exact HB.out | apply below_alloc | apply pw_below_drewN | apply below_drew1 | refine below_set ?_ GE401.out) | exact HB.out)) hb); clear HO404; clear HO408; clear HO418; clear BK401; clear HB; have HO404 := n0_; have HO408 := n1_; have HO418 := n2_; have BK401 := n3_; have HB := n4_; clear n0_ n1_ n2_ n3_ n4_; (try clear hb); (try clear hb2); (try clear hk); (try clear hi)) | ((with_reducible refine gate_dst (N := 8) rfl ?_); (try (refine gate_guard (by rfl) ?_; dsimp only)); refine box_event ?hg (N := 8) ?hd (cs := #[.int .i64 0, .string (⟨#[]⟩ : ByteArray), .string (⟨#[]⟩ : ByteArray)]) (t := 25) ?hr ?_; (case hd => rfl); (case hg => rfl); (case hr => first | (go_simp; done) | (go_simp; rfl)); intro gb424 hg w34 hbox hb; have n0_ := Aside0.mk (Kd.R_below (by (with_reducible repeat (first | apply Kd.R_alloc | apply Kd.R_drewN | apply Kd.R_drew)); exact HO404.out) hb); have n1_ := Aside0.mk (Kd.R_below (by (with_reducible repeat (first | apply Kd.R_alloc | apply Kd.R_drewN | apply Kd.R_drew)); exact HO408.out) hb); have n2_ := Aside0.mk (Kd.R_below (by (with_reducible repeat (first | apply Kd.R_alloc | apply Kd.R_drewN | apply Kd.R_drew)); exact HO418.out) hb); have n3_ := Aside0.mk (blk_below (g := gb401) (o := .cells #[.int .i64 t398, .string t399, .string t400] 25 (0, 0)) (by (with_reducible repeat (first | refine blk_drewN ?_ _ | refine blk_drew ?_ | refine blk_alloc ?_ _)); exact BK401.out) hb); have n4_ := Aside0.mk (below_step (by repeat (first | (with_reducible first | exact HB.out | apply below_alloc | apply pw_below_drewN | apply below_drew1 | refine below_set ?_ GE401.out) | exact HB.out)) hb); have n5_ := Aside0.mk (hbox); have n6_ := Aside0.mk ((by rw [hg]; exact (below_size (by repeat (first | (with_reducible first | exact HB.out | apply below_alloc | apply pw_below_drewN | apply below_drew1 | refine below_set ?_ GE401.out) | exact HB.out))) : w.heap.size ≤ gb424)); have n7_ := Aside0.mk ((by rw [hg]; exact (below_size (by repeat (first | (with_reducible first | exact HB.out | apply below_alloc | apply pw_below_drewN | apply below_drew1 | refine below_set ?_ GE401.out) | exact HB.out))) : w.heap.size ≤ gb424)); have n8_ := Aside0.mk ((by rw [hg]; exact Nat.ne_of_lt (blk_lt (g := gb401) (o := .cells #[.int .i64 t398, .string t399, .string t400] 25 (0, 0)) (by (with_reducible repeat (first | refine blk_drewN ?_ _ | refine blk_drew ?_ | refine blk_alloc ?_ _)); exact BK401.out)) : gb401 ≠ gb424)); have n9_ := Aside0.mk ((by rw [hg]; exact Nat.ne_of_gt (blk_lt (g := gb401) (o := .cells #[.int .i64 t398, .string t399, .string t400] 25 (0, 0)) (by (with_reducible repeat (first | refine blk_drewN ?_ _ | refine blk_drew ?_ | refine blk_alloc ?_ _)); exact BK401.out)) : gb424 ≠ gb401)); clear HO404; clear HO408; clear HO418; clear BK401; clear HB; have HO404 := n0_; have HO408 := n1_; have HO418 := n2_; have BK401 := n3_; have HB := n4_; have BK424 := n5_; have GW424 := n6_; have GE424 := n7_; have NB401_424 := n8_; have NB424_401 := n9_; clear n0_ n1_ n2_ n3_ n4_ n5_ n6_ n7_ n8_ n9_; clear hb hbox hg; have hnb35 := NB424_401.out; have hnc35 := NB401_424.out; have hcz36_0 : w34.cell? ⟨gb424, 0, none⟩ = some (.int .i64 0) := (blk_cell BK424.out 0).trans rfl; have hcz36_1 : w34.cell? ⟨gb424, 1, none⟩ = some (.string (⟨#[]⟩ : ByteArray)) := (blk_cell BK424.out 1).trans rfl; have hcz36_2 : w34.cell? ⟨gb424, 2, none⟩ = some (.string (⟨#[]⟩ : ByteArray)) := (blk_cell BK424.out 2).trans rfl; have hfz36_0 := blk_frozen BK424.out 0; have hfz36_1 := blk_frozen BK424.out 1; have hfz36_2 := blk_frozen BK424.out 2; have hcz37_0 : w34.cell? ⟨gb401, 0, none⟩ = some (.int .i64 t398) := (blk_cell BK401.out 0).trans rfl; have hcz37_1 : w34.cell? ⟨gb401, 1, none⟩ = some (.string t399) := (blk_cell BK401.out 1).trans rfl; have hcz37_2 : w34.cell? ⟨gb401, 2, none⟩ = some (.string t400) := (blk_cell BK401.out 2).trans rfl; have hfz37_0 := blk_frozen BK401.out 0; have hfz37_1 := blk_frozen BK401.out 1; have hfz37_2 := blk_frozen BK401.out 2))
                  go_ret
                  exact ⟨by first | rfl | (simp [errW_none, errW_some] <;> rfl) | (simp [*, errW_none, errW_some] <;> rfl), by repeat (first | (with_reducible first | exact HB.out | apply below_alloc | apply pw_below_drewN | apply below_drew1 | refine below_set ?_ GE401.out | refine below_set ?_ GE424.out) | exact HB.out)⟩
                · rw [if_neg c26] at H
                  have c26b0 : (!(t419 == t398) || (!(t420.toList == t399.toList) || (!(t421.toList == t400.toList)))) = false := by simpa using c26
                  clear c26
                  (first | rw [c26b0] | (simp only [i64_w, i32_w]; rw [c26b0]) | skip)
                  by_cases c38 : t422 = (wrap64 (1 + (t402.length : Int)))
                  · rw [if_pos c38] at H
                    have c38b0 : (t422 == (wrap64 (1 + (t402.length : Int)))) = true := beq_iff_eq.mpr c38
                    have c38b1 : (t422 != (wrap64 (1 + (t402.length : Int)))) = false := bne_eq_false_iff_eq.mpr c38
                    clear c38
                    have H' := Aside0.mk H
                    clear H
                    go_wp2_with (first | ((with_reducible refine gate_dst (N := 39) rfl ?_); (try (refine gate_guard (by rfl) ?_; dsimp only)); refine Kd.R_lit (Kd.int .u8) _ 5 ?hg (N := 39) ?hd (xs := ([9] : List Int)) (inner := [.int .u8 9]) (ok := fun _ => True) (okp := fun _ => True) ?hr ?hp (fun _ hk => hk) trivial (Below.refl _ _) (Nat.le_refl _) (by simp) ?_; (case hd => rfl); (case hg => rfl); (case hr => first | (go_simp; done) | (go_simp; rfl)); (case hp => exact (Reps.one (show Kd.M (Kd.int .u8) _ _ _ 9 [.int .u8 9] from rfl) (Reps.none _ _))); intro v411 w39 ho40 hb hg_ hnew_; clear hg_ hnew_; (first | rw [← Ny410.out] at ho40 | (simp only [Int.reduceToNat] at ho40; rw [← Ny410.out] at ho40)); have n0_ := Aside0.mk (Kd.R_elder' (by (with_reducible repeat (first | apply Kd.R_alloc | apply Kd.R_drewN | apply Kd.R_drew)); exact HO404.out) (Kd.R_base ho40) hb); have n1_ := Aside0.mk (Kd.R_elder' (by (with_reducible repeat (first | apply Kd.R_alloc | apply Kd.R_drewN | apply Kd.R_drew)); exact HO408.out) (Kd.R_base ho40) hb); have n2_ := Aside0.mk (Kd.R_lower (Kd.R_new' (Kd.R_new' ho40 (Kd.R_lt (by (with_reducible repeat (first | apply Kd.R_alloc | apply Kd.R_drewN | apply Kd.R_drew)); exact HO404.out))) (Kd.R_lt (by (with_reducible repeat (first | apply Kd.R_alloc | apply Kd.R_drewN | apply Kd.R_drew)); exact HO408.out))) (below_size (by repeat (first | (with_reducible first | exact HB.out | apply below_alloc | apply pw_below_drewN | apply below_drew1 | refine below_set ?_ GE401.out) | exact HB.out)))); have n3_ := Aside0.mk (blk_below (g := gb401) (o := .cells #[.int .i64 t398, .string t399, .string t400] 25 (0, 0)) (by (with_reducible repeat (first | refine blk_drewN ?_ _ | refine blk_drew ?_ | refine blk_alloc ?_ _)); exact BK401.out) hb); have n4_ := Aside0.mk (below_step (by repeat (first | (with_reducible first | exact HB.out | apply below_alloc | apply pw_below_drewN | apply below_drew1 | refine below_set ?_ GE401.out) | exact HB.out)) hb); clear HO404; clear HO408; clear BK401; clear HB; have HO404 := n0_; have HO408 := n1_; have HO412 := n2_; have BK401 := n3_; have HB := n4_; clear n0_ n1_ n2_ n3_ n4_; clear hb ho40; obtain ⟨Ao42, co42, eo42⟩ := Kd.R_slice HO404.out; subst eo42) | ((with_reducible refine gate_builtin (b := .append) (xs := #[.tmp 39, .tmp 40]) rfl ?_); (try (refine gate_guard (by rfl) ?_; dsimp only)); at_builtin; refine Kd.R_append_rows (Kd.int .u8) (w0 := w) w.heap.size rfl (.tmp 39) (.tmp 40) 22 5 (.int .u8 0) 1 rfl Try.underlying22 info5 rfl (by decide) (by omega) v411 y410 t402 _ _ _ (fun k_ => some k_ ≠ (.slice Ao42 t402.length co42 : Value).ownBlock ∧ some k_ ≠ (v407 : Value).ownBlock) (fun _ => False) rfl rfl ?aO ?aR (fun _ _ h => h) (fun _ h => h.elim) ?aF ?aB ?aS ?aL ?_; (case aR => repeat (first | exact (Kd.R_reads' HO404.out).2.2 | (with_reducible refine Kd.C_alloc ?_ _) | (with_reducible refine Kd.C_drewN ?_ _) | (with_reducible refine Kd.C_drew ?_))); (case aB => exact (by repeat (first | (with_reducible first | exact HB.out | apply below_alloc | apply pw_below_drewN | apply below_drew1 | refine below_set ?_ GE401.out) | exact HB.out))); (case aF => exact (fun k_ hk => ⟨Kd.fresh' (Kd.R_lt (by (with_reducible repeat (first | apply Kd.R_alloc | apply Kd.R_drewN | apply Kd.R_drew)); exact HO404.out)) k_ hk, Kd.fresh' (Kd.R_lt (by (with_reducible repeat (first | apply Kd.R_alloc | apply Kd.R_drewN | apply Kd.R_drew)); exact HO408.out)) k_ hk⟩)); (case aO => exact (by (with_reducible repeat (first | apply Kd.R_alloc | apply Kd.R_drewN | apply Kd.R_drew)); exact Kd.R_mono HO412.out (fun _ hk => ⟨hk.1.2, hk.2⟩))); (case aS => exact (below_size (by repeat (first | (with_reducible first | exact HB.out | apply below_alloc | apply pw_below_drewN | apply below_drew1 | refine below_set ?_ GE401.out) | exact HB.out)))); (case aL => have := LMc22.out; omega); intro v414 w41 ho hb hg hat; rw [← Ny413.out] at ho; have n0_ := Aside0.mk (blk_grown (g := gb401) (o := .cells #[.int .i64 t398, .string t399, .string t400] 25 (0, 0)) (by (with_reducible repeat (first | refine blk_drewN ?_ _ | refine blk_drew ?_ | refine blk_alloc ?_ _)); exact BK401.out) hg (Kd.R_ne HO412.out BK401.out (by decide))); have n1_ := Aside0.mk (Kd.R_after (ok := (fun k_ => some k_ ≠ (v407 : Value).ownBlock)) (by (with_reducible repeat (first | apply Kd.R_alloc | apply Kd.R_drewN | apply Kd.R_drew)); exact Kd.R_mono HO404.out (fun _ hk => ⟨hk.1.2, hk.2⟩)) hg hat); have n2_ := Aside0.mk (Kd.R_after (ok := (fun k_ => some k_ ≠ (.slice Ao42 t402.length co42 : Value).ownBlock)) (by (with_reducible repeat (first | apply Kd.R_alloc | apply Kd.R_drewN | apply Kd.R_drew)); exact Kd.R_mono HO408.out (fun _ hk => ⟨hk.1.2, hk.2⟩)) hg hat); have n3_ := Aside0.mk (hb); have n4_ := Aside0.mk (ho); clear BK401; clear HO404; clear HO408; clear HB; clear HO412; have BK401 := n0_; have HO404 := n1_; have HO408 := n2_; have HB := n3_; have HO415 := n4_; clear n0_ n1_ n2_ n3_ n4_; clear ho hb hg hat) | ((with_reducible refine gate_builtin (b := .append) (xs := #[.tmp 41, .tmp 42]) rfl ?_); (try (refine gate_guard (by rfl) ?_; dsimp only)); at_builtin; refine Kd.R_append (Kd.int .u8) (w0 := w) w.heap.size rfl (.tmp 41) (.tmp 42) 22 5 (.int .u8 0) 1 rfl Try.underlying22 info5 rfl (by decide) (by omega) v414 y413 1 [.int .u8 1] (fun k_ => some k_ ≠ (.slice Ao42 t402.length co42 : Value).ownBlock ∧ some k_ ≠ (v407 : Value).ownBlock) (fun _ => False) rfl rfl ?aP (fun _ hk => hk.elim) ?aF ?aO ?aB ?aS ?aL ?_; (case aP => exact rfl); (case aB => exact (by repeat (first | (with_reducible first | exact HB.out | apply below_alloc | apply pw_below_drewN | apply below_drew1 | refine below_set ?_ GE401.out) | exact HB.out))); (case aF => exact (fun k_ hk => ⟨Kd.fresh' (Kd.R_lt (by (with_reducible repeat (first | apply Kd.R_alloc | apply Kd.R_drewN | apply Kd.R_drew)); exact HO404.out)) k_ hk, Kd.fresh' (Kd.R_lt (by (with_reducible repeat (first | apply Kd.R_alloc | apply Kd.R_drewN | apply Kd.R_drew)); exact HO408.out)) k_ hk⟩)); (case aO => exact (by (with_reducible repeat (first | apply Kd.R_alloc | apply Kd.R_drewN | apply Kd.R_drew)); exact HO415.out)); (case aS => exact (below_size (by repeat (first | (with_reducible first | exact HB.out | apply below_alloc | apply pw_below_drewN | apply below_drew1 | refine below_set ?_ GE401.out) | exact HB.out)))); (case aL => have := LMc23.out; omega); intro v417 w43 ho hb hg hat; rw [← Ny416.out] at ho; have n0_ := Aside0.mk (blk_grown (g := gb401) (o := .cells #[.int .i64 t398, .string t399, .string t400] 25 (0, 0)) (by (with_reducible repeat (first | refine blk_drewN ?_ _ | refine blk_drew ?_ | refine blk_alloc ?_ _)); exact BK401.out) hg (Kd.R_ne HO415.out BK401.out (by decide))); have n1_ := Aside0.mk (Kd.R_after (ok := (fun k_ => some k_ ≠ (v407 : Value).ownBlock)) (by (with_reducible repeat (first | apply Kd.R_alloc | apply Kd.R_drewN | apply Kd.R_drew)); exact HO404.out) hg hat); have n2_ := Aside0.mk (Kd.R_after (ok := (fun k_ => some k_ ≠ (.slice Ao42 t402.length co42 : Value).ownBlock)) (by (with_reducible repeat (first | apply Kd.R_alloc | apply Kd.R_drewN | apply Kd.R_drew)); exact HO408.out) hg hat); have n3_ := Aside0.mk (hb); have n4_ := Aside0.mk (ho); clear BK401; clear HO404; clear HO408; clear HB; clear HO415; have BK401 := n0_; have HO404 := n1_; have HO408 := n2_; have HB := n3_; have HO418 := n4_; clear n0_ n1_ n2_ n3_ n4_; clear ho hb hg hat; obtain ⟨Ao44, co44, eo44⟩ := Kd.R_slice HO418.out; subst eo44) | ((with_reducible refine gate_callee (f := 18) rfl ?_); refine goesL_ (some 44) rfl rfl Try.func18 (by kernel_rfl) rfl #[.slice Ao44 y416.length co44, .int .i64 1] rfl (by (try simp only [List.map_toArray, List.map_cons, List.map_nil]); first | done | rfl | (simp only [List.length_drop, List.length_take]; rfl)) ?_; (with_reducible refine (impl_RecordRead.calls k _ _ y416 1 t419 t420 t421 t422 true _ ?side1 ?side2 A24.out).mono ?_); (case side1 => repeat (first | exact (Kd.R_reads' HO418.out).2.2 | (with_reducible refine Kd.C_alloc ?_ _) | (with_reducible refine Kd.C_drewN ?_ _) | (with_reducible refine Kd.C_drew ?_))); (case side2 => exact (Kd.R_reads' HO418.out).2.1); rintro e w45 ⟨rfl, hb⟩; refine ⟨_, rfl, ?_⟩; have n0_ := Aside0.mk (Kd.R_below (by (with_reducible repeat (first | apply Kd.R_alloc | apply Kd.R_drewN | apply Kd.R_drew)); exact HO404.out) hb); have n1_ := Aside0.mk (Kd.R_below (by (with_reducible repeat (first | apply Kd.R_alloc | apply Kd.R_drewN | apply Kd.R_drew)); exact HO408.out) hb); have n2_ := Aside0.mk (Kd.R_below (by (with_reducible repeat (first | apply Kd.R_alloc | apply Kd.R_drewN | apply Kd.R_drew)); exact HO418.out) hb); have n3_ := Aside0.mk (blk_below (g := gb401) (o := .cells #[.int .i64 t398, .string t399, .string t400] 25 (0, 0)) (by (with_reducible repeat (first | refine blk_drewN ?_ _ | refine blk_drew ?_ | refine blk_alloc ?_ _)); exact BK401.out) hb); have n4_ := Aside0.mk (below_step (by repeat (first | (with_reducible first | exact HB.out | apply below_alloc | apply pw_below_drewN | apply below_drew1 | refine below_set ?_ GE401.out) | exact HB.out)) hb); clear HO404; clear HO408; clear HO418; clear BK401; clear HB; have HO404 := n0_; have HO408 := n1_; have HO418 := n2_; have BK401 := n3_; have HB := n4_; clear n0_ n1_ n2_ n3_ n4_; (try clear hb); (try clear hb2); (try clear hk); (try clear hi)) | ((with_reducible refine gate_dst (N := 8) rfl ?_); (try (refine gate_guard (by rfl) ?_; dsimp only)); refine box_event ?hg (N := 8) ?hd (cs := #[.int .i64 0, .string (⟨#[]⟩ : ByteArray), .string (⟨#[]⟩ : ByteArray)]) (t := 25) ?hr ?_; (case hd => rfl); (case hg => rfl); (case hr => first | (go_simp; done) | (go_simp; rfl)); intro gb424 hg w46 hbox hb; have n0_ := Aside0.mk (Kd.R_below (by (with_reducible repeat (first | apply Kd.R_alloc | apply Kd.R_drewN | apply Kd.R_drew)); exact HO404.out) hb); have n1_ := Aside0.mk (Kd.R_below (by (with_reducible repeat (first | apply Kd.R_alloc | apply Kd.R_drewN | apply Kd.R_drew)); exact HO408.out) hb); have n2_ := Aside0.mk (Kd.R_below (by (with_reducible repeat (first | apply Kd.R_alloc | apply Kd.R_drewN | apply Kd.R_drew)); exact HO418.out) hb); have n3_ := Aside0.mk (blk_below (g := gb401) (o := .cells #[.int .i64 t398, .string t399, .string t400] 25 (0, 0)) (by (with_reducible repeat (first | refine blk_drewN ?_ _ | refine blk_drew ?_ | refine blk_alloc ?_ _)); exact BK401.out) hb); have n4_ := Aside0.mk (below_step (by repeat (first | (with_reducible first | exact HB.out | apply below_alloc | apply pw_below_drewN | apply below_drew1 | refine below_set ?_ GE401.out) | exact HB.out)) hb); have n5_ := Aside0.mk (hbox); have n6_ := Aside0.mk ((by rw [hg]; exact (below_size (by repeat (first | (with_reducible first | exact HB.out | apply below_alloc | apply pw_below_drewN | apply below_drew1 | refine below_set ?_ GE401.out) | exact HB.out))) : w.heap.size ≤ gb424)); have n7_ := Aside0.mk ((by rw [hg]; exact (below_size (by repeat (first | (with_reducible first | exact HB.out | apply below_alloc | apply pw_below_drewN | apply below_drew1 | refine below_set ?_ GE401.out) | exact HB.out))) : w.heap.size ≤ gb424)); have n8_ := Aside0.mk ((by rw [hg]; exact Nat.ne_of_lt (blk_lt (g := gb401) (o := .cells #[.int .i64 t398, .string t399, .string t400] 25 (0, 0)) (by (with_reducible repeat (first | refine blk_drewN ?_ _ | refine blk_drew ?_ | refine blk_alloc ?_ _)); exact BK401.out)) : gb401 ≠ gb424)); have n9_ := Aside0.mk ((by rw [hg]; exact Nat.ne_of_gt (blk_lt (g := gb401) (o := .cells #[.int .i64 t398, .string t399, .string t400] 25 (0, 0)) (by (with_reducible repeat (first | refine blk_drewN ?_ _ | refine blk_drew ?_ | refine blk_alloc ?_ _)); exact BK401.out)) : gb424 ≠ gb401)); clear HO404; clear HO408; clear HO418; clear BK401; clear HB; have HO404 := n0_; have HO408 := n1_; have HO418 := n2_; have BK401 := n3_; have HB := n4_; have BK424 := n5_; have GW424 := n6_; have GE424 := n7_; have NB401_424 := n8_; have NB424_401 := n9_; clear n0_ n1_ n2_ n3_ n4_ n5_ n6_ n7_ n8_ n9_; clear hb hbox hg; have hnb47 := NB424_401.out; have hnc47 := NB401_424.out; have hcz48_0 : w46.cell? ⟨gb424, 0, none⟩ = some (.int .i64 0) := (blk_cell BK424.out 0).trans rfl; have hcz48_1 : w46.cell? ⟨gb424, 1, none⟩ = some (.string (⟨#[]⟩ : ByteArray)) := (blk_cell BK424.out 1).trans rfl; have hcz48_2 : w46.cell? ⟨gb424, 2, none⟩ = some (.string (⟨#[]⟩ : ByteArray)) := (blk_cell BK424.out 2).trans rfl; have hfz48_0 := blk_frozen BK424.out 0; have hfz48_1 := blk_frozen BK424.out 1; have hfz48_2 := blk_frozen BK424.out 2; have hcz49_0 : w46.cell? ⟨gb401, 0, none⟩ = some (.int .i64 t398) := (blk_cell BK401.out 0).trans rfl; have hcz49_1 : w46.cell? ⟨gb401, 1, none⟩ = some (.string t399) := (blk_cell BK401.out 1).trans rfl; have hcz49_2 : w46.cell? ⟨gb401, 2, none⟩ = some (.string t400) := (blk_cell BK401.out 2).trans rfl; have hfz49_0 := blk_frozen BK401.out 0; have hfz49_1 := blk_frozen BK401.out 1; have hfz49_2 := blk_frozen BK401.out 2))
                    go_meet
                    case rel => exact ⟨_, H', ⟨by first | omega | exact Nat.le_refl _⟩, ⟨by (with_reducible repeat (first | refine blk_drewN ?_ _ | refine blk_drew ?_ | refine blk_alloc ?_ _)); refine blk_far ?_ NB401_424.out _; (with_reducible repeat (first | refine blk_drewN ?_ _ | refine blk_drew ?_ | refine blk_alloc ?_ _)); refine blk_far ?_ NB401_424.out _; (with_reducible repeat (first | refine blk_drewN ?_ _ | refine blk_drew ?_ | refine blk_alloc ?_ _)); refine blk_far ?_ NB401_424.out _; (with_reducible repeat (first | refine blk_drewN ?_ _ | refine blk_drew ?_ | refine blk_alloc ?_ _)); exact BK401.out⟩, ⟨by repeat (first | (with_reducible first | exact HB.out | apply below_alloc | apply pw_below_drewN | apply below_drew1 | refine below_set ?_ GE401.out | refine below_set ?_ GE424.out) | exact HB.out)⟩⟩
                  · rw [if_neg c38] at H
                    have c38b0 : (t422 == (wrap64 (1 + (t402.length : Int)))) = false := beq_eq_false_iff_ne.mpr c38
                    have c38b1 : (t422 != (wrap64 (1 + (t402.length : Int)))) = true := bne_iff_ne.mpr c38
                    obtain rfl := Option.some.inj H
                    go_wp2_with (first | ((with_reducible refine gate_dst (N := 39) rfl ?_); (try (refine gate_guard (by rfl) ?_; dsimp only)); refine Kd.R_lit (Kd.int .u8) _ 5 ?hg (N := 39) ?hd (xs := ([9] : List Int)) (inner := [.int .u8 9]) (ok := fun _ => True) (okp := fun _ => True) ?hr ?hp (fun _ hk => hk) trivial (Below.refl _ _) (Nat.le_refl _) (by simp) ?_; (case hd => rfl); (case hg => rfl); (case hr => first | (go_simp; done) | (go_simp; rfl)); (case hp => exact (Reps.one (show Kd.M (Kd.int .u8) _ _ _ 9 [.int .u8 9] from rfl) (Reps.none _ _))); intro v411 w50 ho51 hb hg_ hnew_; clear hg_ hnew_; (first | rw [← Ny410.out] at ho51 | (simp only [Int.reduceToNat] at ho51; rw [← Ny410.out] at ho51)); have n0_ := Aside0.mk (Kd.R_elder' (by (with_reducible repeat (first | apply Kd.R_alloc | apply Kd.R_drewN | apply Kd.R_drew)); exact HO404.out) (Kd.R_base ho51) hb); have n1_ := Aside0.mk (Kd.R_elder' (by (with_reducible repeat (first | apply Kd.R_alloc | apply Kd.R_drewN | apply Kd.R_drew)); exact HO408.out) (Kd.R_base ho51) hb); have n2_ := Aside0.mk (Kd.R_lower (Kd.R_new' (Kd.R_new' ho51 (Kd.R_lt (by (with_reducible repeat (first | apply Kd.R_alloc | apply Kd.R_drewN | apply Kd.R_drew)); exact HO404.out))) (Kd.R_lt (by (with_reducible repeat (first | apply Kd.R_alloc | apply Kd.R_drewN | apply Kd.R_drew)); exact HO408.out))) (below_size (by repeat (first | (with_reducible first | exact HB.out | apply below_alloc | apply pw_below_drewN | apply below_drew1 | refine below_set ?_ GE401.out) | exact HB.out)))); have n3_ := Aside0.mk (blk_below (g := gb401) (o := .cells #[.int .i64 t398, .string t399, .string t400] 25 (0, 0)) (by (with_reducible repeat (first | refine blk_drewN ?_ _ | refine blk_drew ?_ | refine blk_alloc ?_ _)); exact BK401.out) hb); have n4_ := Aside0.mk (below_step (by repeat (first | (with_reducible first | exact HB.out | apply below_alloc | apply pw_below_drewN | apply below_drew1 | refine below_set ?_ GE401.out) | exact HB.out)) hb); clear HO404; clear HO408; clear BK401; clear HB; have HO404 := n0_; have HO408 := n1_; have HO412 := n2_; have BK401 := n3_; have HB := n4_; clear n0_ n1_ n2_ n3_ n4_; clear hb ho51; obtain ⟨Ao53, co53, eo53⟩ := Kd.R_slice HO404.out; subst eo53) | ((with_reducible refine gate_builtin (b := .append) (xs := #[.tmp 39, .tmp 40]) rfl ?_); (try (refine gate_guard (by rfl) ?_; dsimp only)); at_builtin; refine Kd.R_append_rows (Kd.int .u8) (w0 := w) w.heap.size rfl (.tmp 39) (.tmp 40) 22 5 (.int .u8 0) 1 rfl Try.underlying22 info5 rfl (by decide) (by omega) v411 y410 t402 _ _ _ (fun k_ => some k_ ≠ (.slice Ao53 t402.length co53 : Value).ownBlock ∧ some k_ ≠ (v407 : Value).ownBlock) (fun _ => False) rfl rfl ?aO ?aR (fun _ _ h => h) (fun _ h => h.elim) ?aF ?aB ?aS ?aL ?_; (case aR => repeat (first | exact (Kd.R_reads' HO404.out).2.2 | (with_reducible refine Kd.C_alloc ?_ _) | (with_reducible refine Kd.C_drewN ?_ _) | (with_reducible refine Kd.C_drew ?_))); (case aB => exact (by repeat (first | (with_reducible first | exact HB.out | apply below_alloc | apply pw_below_drewN | apply below_drew1 | refine below_set ?_ GE401.out) | exact HB.out))); (case aF => exact (fun k_ hk => ⟨Kd.fresh' (Kd.R_lt (by (with_reducible repeat (first | apply Kd.R_alloc | apply Kd.R_drewN | apply Kd.R_drew)); exact HO404.out)) k_ hk, Kd.fresh' (Kd.R_lt (by (with_reducible repeat (first | apply Kd.R_alloc | apply Kd.R_drewN | apply Kd.R_drew)); exact HO408.out)) k_ hk⟩)); (case aO => exact (by (with_reducible repeat (first | apply Kd.R_alloc | apply Kd.R_drewN | apply Kd.R_drew)); exact Kd.R_mono HO412.out (fun _ hk => ⟨hk.1.2, hk.2⟩))); (case aS => exact (below_size (by repeat (first | (with_reducible first | exact HB.out | apply below_alloc | apply pw_below_drewN | apply below_drew1 | refine below_set ?_ GE401.out) | exact HB.out)))); (case aL => have := LMc22.out; omega); intro v414 w52 ho hb hg hat; rw [← Ny413.out] at ho; have n0_ := Aside0.mk (blk_grown (g := gb401) (o := .cells #[.int .i64 t398, .string t399, .string t400] 25 (0, 0)) (by (with_reducible repeat (first | refine blk_drewN ?_ _ | refine blk_drew ?_ | refine blk_alloc ?_ _)); exact BK401.out) hg (Kd.R_ne HO412.out BK401.out (by decide))); have n1_ := Aside0.mk (Kd.R_after (ok := (fun k_ => some k_ ≠ (v407 : Value).ownBlock)) (by (with_reducible repeat (first | apply Kd.R_alloc | apply Kd.R_drewN | apply Kd.R_drew)); exact Kd.R_mono HO404.out (fun _ hk => ⟨hk.1.2, hk.2⟩)) hg hat); have n2_ := Aside0.mk (Kd.R_after (ok := (fun k_ => some k_ ≠ (.slice Ao53 t402.length co53 : Value).ownBlock)) (by (with_reducible repeat (first | apply Kd.R_alloc | apply Kd.R_drewN | apply Kd.R_drew)); exact Kd.R_mono HO408.out (fun _ hk => ⟨hk.1.2, hk.2⟩)) hg hat); have n3_ := Aside0.mk (hb); have n4_ := Aside0.mk (ho); clear BK401; clear HO404; clear HO408; clear HB; clear HO412; have BK401 := n0_; have HO404 := n1_; have HO408 := n2_; have HB := n3_; have HO415 := n4_; clear n0_ n1_ n2_ n3_ n4_; clear ho hb hg hat) | ((with_reducible refine gate_builtin (b := .append) (xs := #[.tmp 41, .tmp 42]) rfl ?_); (try (refine gate_guard (by rfl) ?_; dsimp only)); at_builtin; refine Kd.R_append (Kd.int .u8) (w0 := w) w.heap.size rfl (.tmp 41) (.tmp 42) 22 5 (.int .u8 0) 1 rfl Try.underlying22 info5 rfl (by decide) (by omega) v414 y413 1 [.int .u8 1] (fun k_ => some k_ ≠ (.slice Ao53 t402.length co53 : Value).ownBlock ∧ some k_ ≠ (v407 : Value).ownBlock) (fun _ => False) rfl rfl ?aP (fun _ hk => hk.elim) ?aF ?aO ?aB ?aS ?aL ?_; (case aP => exact rfl); (case aB => exact (by repeat (first | (with_reducible first | exact HB.out | apply below_alloc | apply pw_below_drewN | apply below_drew1 | refine below_set ?_ GE401.out) | exact HB.out))); (case aF => exact (fun k_ hk => ⟨Kd.fresh' (Kd.R_lt (by (with_reducible repeat (first | apply Kd.R_alloc | apply Kd.R_drewN | apply Kd.R_drew)); exact HO404.out)) k_ hk, Kd.fresh' (Kd.R_lt (by (with_reducible repeat (first | apply Kd.R_alloc | apply Kd.R_drewN | apply Kd.R_drew)); exact HO408.out)) k_ hk⟩)); (case aO => exact (by (with_reducible repeat (first | apply Kd.R_alloc | apply Kd.R_drewN | apply Kd.R_drew)); exact HO415.out)); (case aS => exact (below_size (by repeat (first | (with_reducible first | exact HB.out | apply below_alloc | apply pw_below_drewN | apply below_drew1 | refine below_set ?_ GE401.out) | exact HB.out)))); (case aL => have := LMc23.out; omega); intro v417 w54 ho hb hg hat; rw [← Ny416.out] at ho; have n0_ := Aside0.mk (blk_grown (g := gb401) (o := .cells #[.int .i64 t398, .string t399, .string t400] 25 (0, 0)) (by (with_reducible repeat (first | refine blk_drewN ?_ _ | refine blk_drew ?_ | refine blk_alloc ?_ _)); exact BK401.out) hg (Kd.R_ne HO415.out BK401.out (by decide))); have n1_ := Aside0.mk (Kd.R_after (ok := (fun k_ => some k_ ≠ (v407 : Value).ownBlock)) (by (with_reducible repeat (first | apply Kd.R_alloc | apply Kd.R_drewN | apply Kd.R_drew)); exact HO404.out) hg hat); have n2_ := Aside0.mk (Kd.R_after (ok := (fun k_ => some k_ ≠ (.slice Ao53 t402.length co53 : Value).ownBlock)) (by (with_reducible repeat (first | apply Kd.R_alloc | apply Kd.R_drewN | apply Kd.R_drew)); exact HO408.out) hg hat); have n3_ := Aside0.mk (hb); have n4_ := Aside0.mk (ho); clear BK401; clear HO404; clear HO408; clear HB; clear HO415; have BK401 := n0_; have HO404 := n1_; have HO408 := n2_; have HB := n3_; have HO418 := n4_; clear n0_ n1_ n2_ n3_ n4_; clear ho hb hg hat; obtain ⟨Ao55, co55, eo55⟩ := Kd.R_slice HO418.out; subst eo55) | ((with_reducible refine gate_callee (f := 18) rfl ?_); refine goesL_ (some 44) rfl rfl Try.func18 (by kernel_rfl) rfl #[.slice Ao55 y416.length co55, .int .i64 1] rfl (by (try simp only [List.map_toArray, List.map_cons, List.map_nil]); first | done | rfl | (simp only [List.length_drop, List.length_take]; rfl)) ?_; (with_reducible refine (impl_RecordRead.calls k _ _ y416 1 t419 t420 t421 t422 true _ ?side1 ?side2 A24.out).mono ?_); (case side1 => repeat (first | exact (Kd.R_reads' HO418.out).2.2 | (with_reducible refine Kd.C_alloc ?_ _) | (with_reducible refine Kd.C_drewN ?_ _) | (with_reducible refine Kd.C_drew ?_))); (case side2 => exact (Kd.R_reads' HO418.out).2.1); rintro e w56 ⟨rfl, hb⟩; refine ⟨_, rfl, ?_⟩; have n0_ := Aside0.mk (Kd.R_below (by (with_reducible repeat (first | apply Kd.R_alloc | apply Kd.R_drewN | apply Kd.R_drew)); exact HO404.out) hb); have n1_ := Aside0.mk (Kd.R_below (by (with_reducible repeat (first | apply Kd.R_alloc | apply Kd.R_drewN | apply Kd.R_drew)); exact HO408.out) hb); have n2_ := Aside0.mk (Kd.R_below (by (with_reducible repeat (first | apply Kd.R_alloc | apply Kd.R_drewN | apply Kd.R_drew)); exact HO418.out) hb); have n3_ := Aside0.mk (blk_below (g := gb401) (o := .cells #[.int .i64 t398, .string t399, .string t400] 25 (0, 0)) (by (with_reducible repeat (first | refine blk_drewN ?_ _ | refine blk_drew ?_ | refine blk_alloc ?_ _)); exact BK401.out) hb); have n4_ := Aside0.mk (below_step (by repeat (first | (with_reducible first | exact HB.out | apply below_alloc | apply pw_below_drewN | apply below_drew1 | refine below_set ?_ GE401.out) | exact HB.out)) hb); clear HO404; clear HO408; clear HO418; clear BK401; clear HB; have HO404 := n0_; have HO408 := n1_; have HO418 := n2_; have BK401 := n3_; have HB := n4_; clear n0_ n1_ n2_ n3_ n4_; (try clear hb); (try clear hb2); (try clear hk); (try clear hi)) | ((with_reducible refine gate_dst (N := 8) rfl ?_); (try (refine gate_guard (by rfl) ?_; dsimp only)); refine box_event ?hg (N := 8) ?hd (cs := #[.int .i64 0, .string (⟨#[]⟩ : ByteArray), .string (⟨#[]⟩ : ByteArray)]) (t := 25) ?hr ?_; (case hd => rfl); (case hg => rfl); (case hr => first | (go_simp; done) | (go_simp; rfl)); intro gb424 hg w57 hbox hb; have n0_ := Aside0.mk (Kd.R_below (by (with_reducible repeat (first | apply Kd.R_alloc | apply Kd.R_drewN | apply Kd.R_drew)); exact HO404.out) hb); have n1_ := Aside0.mk (Kd.R_below (by (with_reducible repeat (first | apply Kd.R_alloc | apply Kd.R_drewN | apply Kd.R_drew)); exact HO408.out) hb); have n2_ := Aside0.mk (Kd.R_below (by (with_reducible repeat (first | apply Kd.R_alloc | apply Kd.R_drewN | apply Kd.R_drew)); exact HO418.out) hb); have n3_ := Aside0.mk (blk_below (g := gb401) (o := .cells #[.int .i64 t398, .string t399, .string t400] 25 (0, 0)) (by (with_reducible repeat (first | refine blk_drewN ?_ _ | refine blk_drew ?_ | refine blk_alloc ?_ _)); exact BK401.out) hb); have n4_ := Aside0.mk (below_step (by repeat (first | (with_reducible first | exact HB.out | apply below_alloc | apply pw_below_drewN | apply below_drew1 | refine below_set ?_ GE401.out) | exact HB.out)) hb); have n5_ := Aside0.mk (hbox); have n6_ := Aside0.mk ((by rw [hg]; exact (below_size (by repeat (first | (with_reducible first | exact HB.out | apply below_alloc | apply pw_below_drewN | apply below_drew1 | refine below_set ?_ GE401.out) | exact HB.out))) : w.heap.size ≤ gb424)); have n7_ := Aside0.mk ((by rw [hg]; exact (below_size (by repeat (first | (with_reducible first | exact HB.out | apply below_alloc | apply pw_below_drewN | apply below_drew1 | refine below_set ?_ GE401.out) | exact HB.out))) : w.heap.size ≤ gb424)); have n8_ := Aside0.mk ((by rw [hg]; exact Nat.ne_of_lt (blk_lt (g := gb401) (o := .cells #[.int .i64 t398, .string t399, .string t400] 25 (0, 0)) (by (with_reducible repeat (first | refine blk_drewN ?_ _ | refine blk_drew ?_ | refine blk_alloc ?_ _)); exact BK401.out)) : gb401 ≠ gb424)); have n9_ := Aside0.mk ((by rw [hg]; exact Nat.ne_of_gt (blk_lt (g := gb401) (o := .cells #[.int .i64 t398, .string t399, .string t400] 25 (0, 0)) (by (with_reducible repeat (first | refine blk_drewN ?_ _ | refine blk_drew ?_ | refine blk_alloc ?_ _)); exact BK401.out)) : gb424 ≠ gb401)); clear HO404; clear HO408; clear HO418; clear BK401; clear HB; have HO404 := n0_; have HO408 := n1_; have HO418 := n2_; have BK401 := n3_; have HB := n4_; have BK424 := n5_; have GW424 := n6_; have GE424 := n7_; have NB401_424 := n8_; have NB424_401 := n9_; clear n0_ n1_ n2_ n3_ n4_ n5_ n6_ n7_ n8_ n9_; clear hb hbox hg; have hnb58 := NB424_401.out; have hnc58 := NB401_424.out; have hcz59_0 : w57.cell? ⟨gb424, 0, none⟩ = some (.int .i64 0) := (blk_cell BK424.out 0).trans rfl; have hcz59_1 : w57.cell? ⟨gb424, 1, none⟩ = some (.string (⟨#[]⟩ : ByteArray)) := (blk_cell BK424.out 1).trans rfl; have hcz59_2 : w57.cell? ⟨gb424, 2, none⟩ = some (.string (⟨#[]⟩ : ByteArray)) := (blk_cell BK424.out 2).trans rfl; have hfz59_0 := blk_frozen BK424.out 0; have hfz59_1 := blk_frozen BK424.out 1; have hfz59_2 := blk_frozen BK424.out 2; have hcz60_0 : w57.cell? ⟨gb401, 0, none⟩ = some (.int .i64 t398) := (blk_cell BK401.out 0).trans rfl; have hcz60_1 : w57.cell? ⟨gb401, 1, none⟩ = some (.string t399) := (blk_cell BK401.out 1).trans rfl; have hcz60_2 : w57.cell? ⟨gb401, 2, none⟩ = some (.string t400) := (blk_cell BK401.out 2).trans rfl; have hfz60_0 := blk_frozen BK401.out 0; have hfz60_1 := blk_frozen BK401.out 1; have hfz60_2 := blk_frozen BK401.out 2))
                    go_ret
                    exact ⟨by first | rfl | (simp [errW_none, errW_some] <;> rfl) | (simp [*, errW_none, errW_some] <;> rfl), by repeat (first | (with_reducible first | exact HB.out | apply below_alloc | apply pw_below_drewN | apply below_drew1 | refine below_set ?_ GE401.out | refine below_set ?_ GE424.out) | exact HB.out)⟩
              · replace c25 := Bool.eq_false_iff.mpr c25
                subst c25
                have H1 : (some false) = some r := by rw [if_neg (show ¬ (false = true) by decide)] at H; exact H
                clear H
                have H := H1
                clear H1
                obtain rfl := Option.some.inj H
                go_wp2_with (first | ((with_reducible refine gate_dst (N := 39) rfl ?_); (try (refine gate_guard (by rfl) ?_; dsimp only)); refine Kd.R_lit (Kd.int .u8) _ 5 ?hg (N := 39) ?hd (xs := ([9] : List Int)) (inner := [.int .u8 9]) (ok := fun _ => True) (okp := fun _ => True) ?hr ?hp (fun _ hk => hk) trivial (Below.refl _ _) (Nat.le_refl _) (by simp) ?_; (case hd => rfl); (case hg => rfl); (case hr => first | (go_simp; done) | (go_simp; rfl)); (case hp => exact (Reps.one (show Kd.M (Kd.int .u8) _ _ _ 9 [.int .u8 9] from rfl) (Reps.none _ _))); intro v411 w61 ho62 hb hg_ hnew_; clear hg_ hnew_; (first | rw [← Ny410.out] at ho62 | (simp only [Int.reduceToNat] at ho62; rw [← Ny410.out] at ho62)); have n0_ := Aside0.mk (Kd.R_elder' (by (with_reducible repeat (first | apply Kd.R_alloc | apply Kd.R_drewN | apply Kd.R_drew)); exact HO404.out) (Kd.R_base ho62) hb); have n1_ := Aside0.mk (Kd.R_elder' (by (with_reducible repeat (first | apply Kd.R_alloc | apply Kd.R_drewN | apply Kd.R_drew)); exact HO408.out) (Kd.R_base ho62) hb); have n2_ := Aside0.mk (Kd.R_lower (Kd.R_new' (Kd.R_new' ho62 (Kd.R_lt (by (with_reducible repeat (first | apply Kd.R_alloc | apply Kd.R_drewN | apply Kd.R_drew)); exact HO404.out))) (Kd.R_lt (by (with_reducible repeat (first | apply Kd.R_alloc | apply Kd.R_drewN | apply Kd.R_drew)); exact HO408.out))) (below_size (by repeat (first | (with_reducible first | exact HB.out | apply below_alloc | apply pw_below_drewN | apply below_drew1 | refine below_set ?_ GE401.out) | exact HB.out)))); have n3_ := Aside0.mk (blk_below (g := gb401) (o := .cells #[.int .i64 t398, .string t399, .string t400] 25 (0, 0)) (by (with_reducible repeat (first | refine blk_drewN ?_ _ | refine blk_drew ?_ | refine blk_alloc ?_ _)); exact BK401.out) hb); have n4_ := Aside0.mk (below_step (by repeat (first | (with_reducible first | exact HB.out | apply below_alloc | apply pw_below_drewN | apply below_drew1 | refine below_set ?_ GE401.out) | exact HB.out)) hb); clear HO404; clear HO408; clear BK401; clear HB; have HO404 := n0_; have HO408 := n1_; have HO412 := n2_; have BK401 := n3_; have HB := n4_; clear n0_ n1_ n2_ n3_ n4_; clear hb ho62; obtain ⟨Ao64, co64, eo64⟩ := Kd.R_slice HO404.out; subst eo64) | ((with_reducible refine gate_builtin (b := .append) (xs := #[.tmp 39, .tmp 40]) rfl ?_); (try (refine gate_guard (by rfl) ?_; dsimp only)); at_builtin; refine Kd.R_append_rows (Kd.int .u8) (w0 := w) w.heap.size rfl (.tmp 39) (.tmp 40) 22 5 (.int .u8 0) 1 rfl Try.underlying22 info5 rfl (by decide) (by omega) v411 y410 t402 _ _ _ (fun k_ => some k_ ≠ (.slice Ao64 t402.length co64 : Value).ownBlock ∧ some k_ ≠ (v407 : Value).ownBlock) (fun _ => False) rfl rfl ?aO ?aR (fun _ _ h => h) (fun _ h => h.elim) ?aF ?aB ?aS ?aL ?_; (case aR => repeat (first | exact (Kd.R_reads' HO404.out).2.2 | (with_reducible refine Kd.C_alloc ?_ _) | (with_reducible refine Kd.C_drewN ?_ _) | (with_reducible refine Kd.C_drew ?_))); (case aB => exact (by repeat (first | (with_reducible first | exact HB.out | apply below_alloc | apply pw_below_drewN | apply below_drew1 | refine below_set ?_ GE401.out) | exact HB.out))); (case aF => exact (fun k_ hk => ⟨Kd.fresh' (Kd.R_lt (by (with_reducible repeat (first | apply Kd.R_alloc | apply Kd.R_drewN | apply Kd.R_drew)); exact HO404.out)) k_ hk, Kd.fresh' (Kd.R_lt (by (with_reducible repeat (first | apply Kd.R_alloc | apply Kd.R_drewN | apply Kd.R_drew)); exact HO408.out)) k_ hk⟩)); (case aO => exact (by (with_reducible repeat (first | apply Kd.R_alloc | apply Kd.R_drewN | apply Kd.R_drew)); exact Kd.R_mono HO412.out (fun _ hk => ⟨hk.1.2, hk.2⟩))); (case aS => exact (below_size (by repeat (first | (with_reducible first | exact HB.out | apply below_alloc | apply pw_below_drewN | apply below_drew1 | refine below_set ?_ GE401.out) | exact HB.out)))); (case aL => have := LMc22.out; omega); intro v414 w63 ho hb hg hat; rw [← Ny413.out] at ho; have n0_ := Aside0.mk (blk_grown (g := gb401) (o := .cells #[.int .i64 t398, .string t399, .string t400] 25 (0, 0)) (by (with_reducible repeat (first | refine blk_drewN ?_ _ | refine blk_drew ?_ | refine blk_alloc ?_ _)); exact BK401.out) hg (Kd.R_ne HO412.out BK401.out (by decide))); have n1_ := Aside0.mk (Kd.R_after (ok := (fun k_ => some k_ ≠ (v407 : Value).ownBlock)) (by (with_reducible repeat (first | apply Kd.R_alloc | apply Kd.R_drewN | apply Kd.R_drew)); exact Kd.R_mono HO404.out (fun _ hk => ⟨hk.1.2, hk.2⟩)) hg hat); have n2_ := Aside0.mk (Kd.R_after (ok := (fun k_ => some k_ ≠ (.slice Ao64 t402.length co64 : Value).ownBlock)) (by (with_reducible repeat (first | apply Kd.R_alloc | apply Kd.R_drewN | apply Kd.R_drew)); exact Kd.R_mono HO408.out (fun _ hk => ⟨hk.1.2, hk.2⟩)) hg hat); have n3_ := Aside0.mk (hb); have n4_ := Aside0.mk (ho); clear BK401; clear HO404; clear HO408; clear HB; clear HO412; have BK401 := n0_; have HO404 := n1_; have HO408 := n2_; have HB := n3_; have HO415 := n4_; clear n0_ n1_ n2_ n3_ n4_; clear ho hb hg hat) | ((with_reducible refine gate_builtin (b := .append) (xs := #[.tmp 41, .tmp 42]) rfl ?_); (try (refine gate_guard (by rfl) ?_; dsimp only)); at_builtin; refine Kd.R_append (Kd.int .u8) (w0 := w) w.heap.size rfl (.tmp 41) (.tmp 42) 22 5 (.int .u8 0) 1 rfl Try.underlying22 info5 rfl (by decide) (by omega) v414 y413 1 [.int .u8 1] (fun k_ => some k_ ≠ (.slice Ao64 t402.length co64 : Value).ownBlock ∧ some k_ ≠ (v407 : Value).ownBlock) (fun _ => False) rfl rfl ?aP (fun _ hk => hk.elim) ?aF ?aO ?aB ?aS ?aL ?_; (case aP => exact rfl); (case aB => exact (by repeat (first | (with_reducible first | exact HB.out | apply below_alloc | apply pw_below_drewN | apply below_drew1 | refine below_set ?_ GE401.out) | exact HB.out))); (case aF => exact (fun k_ hk => ⟨Kd.fresh' (Kd.R_lt (by (with_reducible repeat (first | apply Kd.R_alloc | apply Kd.R_drewN | apply Kd.R_drew)); exact HO404.out)) k_ hk, Kd.fresh' (Kd.R_lt (by (with_reducible repeat (first | apply Kd.R_alloc | apply Kd.R_drewN | apply Kd.R_drew)); exact HO408.out)) k_ hk⟩)); (case aO => exact (by (with_reducible repeat (first | apply Kd.R_alloc | apply Kd.R_drewN | apply Kd.R_drew)); exact HO415.out)); (case aS => exact (below_size (by repeat (first | (with_reducible first | exact HB.out | apply below_alloc | apply pw_below_drewN | apply below_drew1 | refine below_set ?_ GE401.out) | exact HB.out)))); (case aL => have := LMc23.out; omega); intro v417 w65 ho hb hg hat; rw [← Ny416.out] at ho; have n0_ := Aside0.mk (blk_grown (g := gb401) (o := .cells #[.int .i64 t398, .string t399, .string t400] 25 (0, 0)) (by (with_reducible repeat (first | refine blk_drewN ?_ _ | refine blk_drew ?_ | refine blk_alloc ?_ _)); exact BK401.out) hg (Kd.R_ne HO415.out BK401.out (by decide))); have n1_ := Aside0.mk (Kd.R_after (ok := (fun k_ => some k_ ≠ (v407 : Value).ownBlock)) (by (with_reducible repeat (first | apply Kd.R_alloc | apply Kd.R_drewN | apply Kd.R_drew)); exact HO404.out) hg hat); have n2_ := Aside0.mk (Kd.R_after (ok := (fun k_ => some k_ ≠ (.slice Ao64 t402.length co64 : Value).ownBlock)) (by (with_reducible repeat (first | apply Kd.R_alloc | apply Kd.R_drewN | apply Kd.R_drew)); exact HO408.out) hg hat); have n3_ := Aside0.mk (hb); have n4_ := Aside0.mk (ho); clear BK401; clear HO404; clear HO408; clear HB; clear HO415; have BK401 := n0_; have HO404 := n1_; have HO408 := n2_; have HB := n3_; have HO418 := n4_; clear n0_ n1_ n2_ n3_ n4_; clear ho hb hg hat; obtain ⟨Ao66, co66, eo66⟩ := Kd.R_slice HO418.out; subst eo66) | ((with_reducible refine gate_callee (f := 18) rfl ?_); refine goesL_ (some 44) rfl rfl Try.func18 (by kernel_rfl) rfl #[.slice Ao66 y416.length co66, .int .i64 1] rfl (by (try simp only [List.map_toArray, List.map_cons, List.map_nil]); first | done | rfl | (simp only [List.length_drop, List.length_take]; rfl)) ?_; (with_reducible refine (impl_RecordRead.calls k _ _ y416 1 t419 t420 t421 t422 false _ ?side1 ?side2 A24.out).mono ?_); (case side1 => repeat (first | exact (Kd.R_reads' HO418.out).2.2 | (with_reducible refine Kd.C_alloc ?_ _) | (with_reducible refine Kd.C_drewN ?_ _) | (with_reducible refine Kd.C_drew ?_))); (case side2 => exact (Kd.R_reads' HO418.out).2.1); rintro e w67 ⟨rfl, hb⟩; refine ⟨_, rfl, ?_⟩; have n0_ := Aside0.mk (Kd.R_below (by (with_reducible repeat (first | apply Kd.R_alloc | apply Kd.R_drewN | apply Kd.R_drew)); exact HO404.out) hb); have n1_ := Aside0.mk (Kd.R_below (by (with_reducible repeat (first | apply Kd.R_alloc | apply Kd.R_drewN | apply Kd.R_drew)); exact HO408.out) hb); have n2_ := Aside0.mk (Kd.R_below (by (with_reducible repeat (first | apply Kd.R_alloc | apply Kd.R_drewN | apply Kd.R_drew)); exact HO418.out) hb); have n3_ := Aside0.mk (blk_below (g := gb401) (o := .cells #[.int .i64 t398, .string t399, .string t400] 25 (0, 0)) (by (with_reducible repeat (first | refine blk_drewN ?_ _ | refine blk_drew ?_ | refine blk_alloc ?_ _)); exact BK401.out) hb); have n4_ := Aside0.mk (below_step (by repeat (first | (with_reducible first | exact HB.out | apply below_alloc | apply pw_below_drewN | apply below_drew1 | refine below_set ?_ GE401.out) | exact HB.out)) hb); clear HO404; clear HO408; clear HO418; clear BK401; clear HB; have HO404 := n0_; have HO408 := n1_; have HO418 := n2_; have BK401 := n3_; have HB := n4_; clear n0_ n1_ n2_ n3_ n4_; (try clear hb); (try clear hb2); (try clear hk); (try clear hi)) | ((with_reducible refine gate_dst (N := 8) rfl ?_); (try (refine gate_guard (by rfl) ?_; dsimp only)); refine box_event ?hg (N := 8) ?hd (cs := #[.int .i64 0, .string (⟨#[]⟩ : ByteArray), .string (⟨#[]⟩ : ByteArray)]) (t := 25) ?hr ?_; (case hd => rfl); (case hg => rfl); (case hr => first | (go_simp; done) | (go_simp; rfl)); intro gb424 hg w68 hbox hb; have n0_ := Aside0.mk (Kd.R_below (by (with_reducible repeat (first | apply Kd.R_alloc | apply Kd.R_drewN | apply Kd.R_drew)); exact HO404.out) hb); have n1_ := Aside0.mk (Kd.R_below (by (with_reducible repeat (first | apply Kd.R_alloc | apply Kd.R_drewN | apply Kd.R_drew)); exact HO408.out) hb); have n2_ := Aside0.mk (Kd.R_below (by (with_reducible repeat (first | apply Kd.R_alloc | apply Kd.R_drewN | apply Kd.R_drew)); exact HO418.out) hb); have n3_ := Aside0.mk (blk_below (g := gb401) (o := .cells #[.int .i64 t398, .string t399, .string t400] 25 (0, 0)) (by (with_reducible repeat (first | refine blk_drewN ?_ _ | refine blk_drew ?_ | refine blk_alloc ?_ _)); exact BK401.out) hb); have n4_ := Aside0.mk (below_step (by repeat (first | (with_reducible first | exact HB.out | apply below_alloc | apply pw_below_drewN | apply below_drew1 | refine below_set ?_ GE401.out) | exact HB.out)) hb); have n5_ := Aside0.mk (hbox); have n6_ := Aside0.mk ((by rw [hg]; exact (below_size (by repeat (first | (with_reducible first | exact HB.out | apply below_alloc | apply pw_below_drewN | apply below_drew1 | refine below_set ?_ GE401.out) | exact HB.out))) : w.heap.size ≤ gb424)); have n7_ := Aside0.mk ((by rw [hg]; exact (below_size (by repeat (first | (with_reducible first | exact HB.out | apply below_alloc | apply pw_below_drewN | apply below_drew1 | refine below_set ?_ GE401.out) | exact HB.out))) : w.heap.size ≤ gb424)); have n8_ := Aside0.mk ((by rw [hg]; exact Nat.ne_of_lt (blk_lt (g := gb401) (o := .cells #[.int .i64 t398, .string t399, .string t400] 25 (0, 0)) (by (with_reducible repeat (first | refine blk_drewN ?_ _ | refine blk_drew ?_ | refine blk_alloc ?_ _)); exact BK401.out)) : gb401 ≠ gb424)); have n9_ := Aside0.mk ((by rw [hg]; exact Nat.ne_of_gt (blk_lt (g := gb401) (o := .cells #[.int .i64 t398, .string t399, .string t400] 25 (0, 0)) (by (with_reducible repeat (first | refine blk_drewN ?_ _ | refine blk_drew ?_ | refine blk_alloc ?_ _)); exact BK401.out)) : gb424 ≠ gb401)); clear HO404; clear HO408; clear HO418; clear BK401; clear HB; have HO404 := n0_; have HO408 := n1_; have HO418 := n2_; have BK401 := n3_; have HB := n4_; have BK424 := n5_; have GW424 := n6_; have GE424 := n7_; have NB401_424 := n8_; have NB424_401 := n9_; clear n0_ n1_ n2_ n3_ n4_ n5_ n6_ n7_ n8_ n9_; clear hb hbox hg; have hnb69 := NB424_401.out; have hnc69 := NB401_424.out; have hcz70_0 : w68.cell? ⟨gb424, 0, none⟩ = some (.int .i64 0) := (blk_cell BK424.out 0).trans rfl; have hcz70_1 : w68.cell? ⟨gb424, 1, none⟩ = some (.string (⟨#[]⟩ : ByteArray)) := (blk_cell BK424.out 1).trans rfl; have hcz70_2 : w68.cell? ⟨gb424, 2, none⟩ = some (.string (⟨#[]⟩ : ByteArray)) := (blk_cell BK424.out 2).trans rfl; have hfz70_0 := blk_frozen BK424.out 0; have hfz70_1 := blk_frozen BK424.out 1; have hfz70_2 := blk_frozen BK424.out 2))
                go_ret
                exact ⟨by first | rfl | (simp [errW_none, errW_some] <;> rfl) | (simp [*, errW_none, errW_some] <;> rfl), by repeat (first | (with_reducible first | exact HB.out | apply below_alloc | apply pw_below_drewN | apply below_drew1 | refine below_set ?_ GE401.out | refine below_set ?_ GE424.out) | exact HB.out)⟩
            · rw [if_neg c23] at H
              exact absurd H (by simp)
          · rw [if_neg c22] at H
            exact absurd H (by simp)
        · replace c21 := Bool.eq_false_iff.mpr c21
          subst c21
          have H1 : (laws_FnRecords.j0 k l0) = some r := by rw [if_neg (show ¬ (false = true) by decide)] at H; exact H
          clear H
          have H := H1
          clear H1
          have H' := Aside0.mk H
          clear H
          go_wp2
          go_meet
          case rel => exact ⟨_, H', ⟨by first | omega | exact Nat.le_refl _⟩, ⟨by (with_reducible repeat (first | refine blk_drewN ?_ _ | refine blk_drew ?_ | refine blk_alloc ?_ _)); exact BK401.out⟩, ⟨by repeat (first | (with_reducible first | exact HB.out | apply below_alloc | apply pw_below_drewN | apply below_drew1 | refine below_set ?_ GE401.out) | exact HB.out)⟩⟩
      case rest =>
        clear HC14
        try clear c1
        try clear c2
        try clear p2
        try clear c3
        try clear c4
        try clear c5
        try clear c6
        try clear p6
        try clear c7
        try clear c7b0
        try clear c7b1
        try clear c7b2
        try clear c14
        try clear c15
        try clear c16
        try clear c17
        try clear c18
        try clear c21
        try clear c22
        try clear c23
        try clear c25
        try clear c26
        try clear c26b0
        try clear c35
        try clear c38
        try clear c38b0
        try clear c38b1
        try clear c47
        try clear c58
        try clear p64
        try clear c69
        try clear hcz10_0
        try clear hcz10_1
        try clear hcz10_2
        try clear hcz12_0
        try clear hcz12_1
        try clear hcz12_2
        try clear hcz17_0
        try clear hcz17_1
        try clear hcz17_2
        try clear hcz19_0
        try clear hcz19_1
        try clear hcz19_2
        try clear hcz36_0
        try clear hcz36_1
        try clear hcz36_2
        try clear hcz37_0
        try clear hcz37_1
        try clear hcz37_2
        try clear hcz48_0
        try clear hcz48_1
        try clear hcz48_2
        try clear hcz49_0
        try clear hcz49_1
        try clear hcz49_2
        try clear hcz59_0
        try clear hcz59_1
        try clear hcz59_2
        try clear hcz60_0
        try clear hcz60_1
        try clear hcz60_2
        try clear hcz70_0
        try clear hcz70_1
        try clear hcz70_2
        try clear hfz10_0
        try clear hfz10_1
        try clear hfz10_2
        try clear hfz12_0
        try clear hfz12_1
        try clear hfz12_2
        try clear hfz17_0
        try clear hfz17_1
        try clear hfz17_2
        try clear hfz19_0
        try clear hfz19_1
        try clear hfz19_2
        try clear hfz36_0
        try clear hfz36_1
        try clear hfz36_2
        try clear hfz37_0
        try clear hfz37_1
        try clear hfz37_2
        try clear hfz48_0
        try clear hfz48_1
        try clear hfz48_2
        try clear hfz49_0
        try clear hfz49_1
        try clear hfz49_2
        try clear hfz59_0
        try clear hfz59_1
        try clear hfz59_2
        try clear hfz60_0
        try clear hfz60_1
        try clear hfz60_2
        try clear hfz70_0
        try clear hfz70_1
        try clear hfz70_2
        obtain ⟨kq, HA, HJ13, BK401, HB⟩ := hcut
        cases kq with
        | zero => exact absurd HA.out (by simp [laws_FnRecords.j0])
        | succ kj13 =>
          have H := HA.out
          clear HA
          simp only [laws_FnRecords.j0] at H
          replace H := Option.bind_eq_some_iff.mp H
          obtain ⟨t425, A710, H⟩ := H
          replace H : ((impl_Records.f kj13 t425).bind fun bt428 => ((spec_Records.f kj13 t425).bind fun bt432 => (if (bt428.2 != bt432.2) = true then (some false) else (if bt428.2 = true then (laws_FnRecords.l0 kj13 t425 bt428.1 (([] : List Int)) 0) else (some ((bt428.1.length : Int) == 0)))))) = some r := H
          have A71 := Aside0.mk A710
          clear A710
          replace H := Option.bind_eq_some_iff.mp H
          obtain ⟨⟨t428, t429⟩, A720, H⟩ := H
          replace H : ((spec_Records.f kj13 t425).bind fun bt432 => (if (t429 != bt432.2) = true then (some false) else (if t429 = true then (laws_FnRecords.l0 kj13 t425 t428 (([] : List Int)) 0) else (some ((t428.length : Int) == 0))))) = some r := H
          have A72 := Aside0.mk A720
          clear A720
          replace H := Option.bind_eq_some_iff.mp H
          obtain ⟨⟨t432, t433⟩, A730, H⟩ := H
          replace H : (if (t429 != t433) = true then (some false) else (if t429 = true then (laws_FnRecords.l0 kj13 t425 t428 (([] : List Int)) 0) else (some ((t428.length : Int) == 0)))) = some r := H
          have A73 := Aside0.mk A730
          clear A730
          by_cases c74 : (t429 != t433) = true
          · rw [if_pos c74] at H
            have c74b0 : (t429 != t433) = true := c74
            (try (have c74b1 : decide (t429 = t433) = false := by simpa using c74))
            (try (have c74b2 : (t429 == t433) = false := by simpa using c74))
            (try (have c74b3 : ¬ (t429 = t433) := by simpa using c74))
            clear c74
            obtain rfl := Option.some.inj H
            go_wp2_with (first | ((with_reducible refine gate_callee (f := 19) rfl ?_); refine goesL_ (some 63) rfl rfl Try.func19 (by kernel_rfl) rfl #[.slice A0 l0.length c0] rfl (by (try simp only [List.map_toArray, List.map_cons, List.map_nil]); first | done | rfl | (simp only [List.length_drop, List.length_take]; rfl)) ?_; (with_reducible refine (spec_DrawRecords.calls kj13 _ _ l0 t425 _ ?side1 ?side2 A71.out).mono ?_); (case side1 => repeat (first | exact (Kd.C_below HR0.out HB.out) | (with_reducible refine Kd.C_alloc ?_ _) | (with_reducible refine Kd.C_drewN ?_ _) | (with_reducible refine Kd.C_drew ?_))); (case side2 => exact HC0.out); rintro e w75 ⟨v426, rfl, ho0, hb⟩; refine ⟨_, rfl, ?_⟩; have n0_ := Aside0.mk (Kd.R_lower ho0 (below_size (by repeat (first | (with_reducible first | exact HB.out | apply below_alloc | apply pw_below_drewN | apply below_drew1 | refine below_set ?_ GE401.out) | exact HB.out)))); have n1_ := Aside0.mk (blk_below (g := gb401) (o := .cells #[.int .i64 t398, .string t399, .string t400] 25 (0, 0)) (by (with_reducible repeat (first | refine blk_drewN ?_ _ | refine blk_drew ?_ | refine blk_alloc ?_ _)); exact BK401.out) hb); have n2_ := Aside0.mk (below_step (by repeat (first | (with_reducible first | exact HB.out | apply below_alloc | apply pw_below_drewN | apply below_drew1 | refine below_set ?_ GE401.out) | exact HB.out)) hb); clear BK401; clear HB; have HO427 := n0_; have BK401 := n1_; have HB := n2_; clear n0_ n1_ n2_; (try clear hb); (try clear hb2); (try clear hk); (try clear hi); (try clear ho0); obtain ⟨Ao76, co76, eo76⟩ := Kd.R_slice HO427.out; subst eo76) | ((with_reducible refine gate_callee (f := 20) rfl ?_); refine goesL_ (some 66) rfl rfl Try.func20 (by kernel_rfl) rfl #[.slice Ao76 t425.length co76] rfl (by (try simp only [List.map_toArray, List.map_cons, List.map_nil]); first | done | rfl | (simp only [List.length_drop, List.length_take]; rfl)) ?_; (with_reducible refine (impl_Records.calls kj13 _ _ t425 t428 t429 _ ?side1 ?side2 A72.out).mono ?_); (case side1 => repeat (first | exact (Kd.R_reads' HO427.out).2.2 | (with_reducible refine Kd.C_alloc ?_ _) | (with_reducible refine Kd.C_drewN ?_ _) | (with_reducible refine Kd.C_drew ?_))); (case side2 => exact (Kd.R_reads' HO427.out).2.1); rintro e w77 ⟨v430, rfl, ho0, hb⟩; refine ⟨_, rfl, ?_⟩; have n0_ := Aside0.mk (Kd.R_below (by (with_reducible repeat (first | apply Kd.R_alloc | apply Kd.R_drewN | apply Kd.R_drew)); exact HO427.out) hb); have n1_ := Aside0.mk (Kd.R_lower (Kd.R_newB ho0 (g := gb401) (o := .cells #[.int .i64 t398, .string t399, .string t400] 25 (0, 0)) (by (with_reducible repeat (first | refine blk_drewN ?_ _ | refine blk_drew ?_ | refine blk_alloc ?_ _)); exact BK401.out)) (below_size (by repeat (first | (with_reducible first | exact HB.out | apply below_alloc | apply pw_below_drewN | apply below_drew1 | refine below_set ?_ GE401.out) | exact HB.out)))); have n2_ := Aside0.mk (blk_below (g := gb401) (o := .cells #[.int .i64 t398, .string t399, .string t400] 25 (0, 0)) (by (with_reducible repeat (first | refine blk_drewN ?_ _ | refine blk_drew ?_ | refine blk_alloc ?_ _)); exact BK401.out) hb); have n3_ := Aside0.mk (below_step (by repeat (first | (with_reducible first | exact HB.out | apply below_alloc | apply pw_below_drewN | apply below_drew1 | refine below_set ?_ GE401.out) | exact HB.out)) hb); clear HO427; clear BK401; clear HB; have HO427 := n0_; have HO431 := n1_; have BK401 := n2_; have HB := n3_; clear n0_ n1_ n2_ n3_; (try clear hb); (try clear hb2); (try clear hk); (try clear hi); (try clear ho0)) | ((with_reducible refine gate_callee (f := 21) rfl ?_); refine goesL_ (some 71) rfl rfl Try.func21 (by kernel_rfl) rfl #[.slice Ao76 t425.length co76] rfl (by (try simp only [List.map_toArray, List.map_cons, List.map_nil]); first | done | rfl | (simp only [List.length_drop, List.length_take]; rfl)) ?_; (with_reducible refine (spec_Records.calls kj13 _ _ t425 t432 t433 _ ?side1 ?side2 A73.out).mono ?_); (case side1 => repeat (first | exact (Kd.R_reads' HO427.out).2.2 | (with_reducible refine Kd.C_alloc ?_ _) | (with_reducible refine Kd.C_drewN ?_ _) | (with_reducible refine Kd.C_drew ?_))); (case side2 => exact (Kd.R_reads' HO427.out).2.1); rintro e w78 ⟨v434, rfl, ho0, hb⟩; refine ⟨_, rfl, ?_⟩; have n0_ := Aside0.mk (Kd.R_below (by (with_reducible repeat (first | apply Kd.R_alloc | apply Kd.R_drewN | apply Kd.R_drew)); exact HO427.out) hb); have n1_ := Aside0.mk (Kd.R_elder' (by (with_reducible repeat (first | apply Kd.R_alloc | apply Kd.R_drewN | apply Kd.R_drew)); exact HO431.out) (Kd.R_base ho0) hb); have n2_ := Aside0.mk (Kd.R_lower (Kd.R_newB (Kd.R_new' ho0 (Kd.R_lt (by (with_reducible repeat (first | apply Kd.R_alloc | apply Kd.R_drewN | apply Kd.R_drew)); exact HO431.out))) (g := gb401) (o := .cells #[.int .i64 t398, .string t399, .string t400] 25 (0, 0)) (by (with_reducible repeat (first | refine blk_drewN ?_ _ | refine blk_drew ?_ | refine blk_alloc ?_ _)); exact BK401.out)) (below_size (by repeat (first | (with_reducible first | exact HB.out | apply below_alloc | apply pw_below_drewN | apply below_drew1 | refine below_set ?_ GE401.out) | exact HB.out)))); have n3_ := Aside0.mk (blk_below (g := gb401) (o := .cells #[.int .i64 t398, .string t399, .string t400] 25 (0, 0)) (by (with_reducible repeat (first | refine blk_drewN ?_ _ | refine blk_drew ?_ | refine blk_alloc ?_ _)); exact BK401.out) hb); have n4_ := Aside0.mk (below_step (by repeat (first | (with_reducible first | exact HB.out | apply below_alloc | apply pw_below_drewN | apply below_drew1 | refine below_set ?_ GE401.out) | exact HB.out)) hb); clear HO427; clear HO431; clear BK401; clear HB; have HO427 := n0_; have HO431 := n1_; have HO435 := n2_; have BK401 := n3_; have HB := n4_; clear n0_ n1_ n2_ n3_ n4_; (try clear hb); (try clear hb2); (try clear hk); (try clear hi); (try clear ho0)))
            go_ret
            exact ⟨by first | rfl | (simp [errW_none, errW_some] <;> rfl) | (simp [*, errW_none, errW_some] <;> rfl), by repeat (first | (with_reducible first | exact HB.out | apply below_alloc | apply pw_below_drewN | apply below_drew1 | refine below_set ?_ GE401.out) | exact HB.out)⟩
          · rw [if_neg c74] at H
            have c74b0 : (t429 != t433) = false := by simpa using c74
            (try (have c74b1 : decide (t429 = t433) = true := by simpa using c74))
            (try (have c74b2 : (t429 == t433) = true := by simpa using c74))
            clear c74
            by_cases c79 : t429 = true
            · subst c79
              have H1 : (laws_FnRecords.l0 kj13 t425 t428 (([] : List Int)) 0) = some r := by rw [if_pos rfl] at H; exact H
              clear H
              have H := H1
              clear H1
              obtain ⟨y436, hy436⟩ : ∃ y_ : List Int, y_ = (([] : List Int)) := ⟨_, rfl⟩
              replace H : (laws_FnRecords.l0 kj13 t425 t428 y436 0) = some r := by first | (rw [hy436]; with_reducible exact H) | (have H2_ := (Option.bind_some _ _).symm.trans H; rw [hy436]; with_reducible exact H2_) | (have H2_ := (Option.bind_some _ _).symm.trans H; with_reducible exact H2_) | with_reducible exact H | (rw [hy436]; exact H) | exact H
              have Ny436 := Aside0.mk hy436
              clear hy436
              have H' := Aside0.mk H
              clear H
              go_wp2_with (first | ((with_reducible refine gate_callee (f := 19) rfl ?_); refine goesL_ (some 63) rfl rfl Try.func19 (by kernel_rfl) rfl #[.slice A0 l0.length c0] rfl (by (try simp only [List.map_toArray, List.map_cons, List.map_nil]); first | done | rfl | (simp only [List.length_drop, List.length_take]; rfl)) ?_; (with_reducible refine (spec_DrawRecords.calls kj13 _ _ l0 t425 _ ?side1 ?side2 A71.out).mono ?_); (case side1 => repeat (first | exact (Kd.C_below HR0.out HB.out) | (with_reducible refine Kd.C_alloc ?_ _) | (with_reducible refine Kd.C_drewN ?_ _) | (with_reducible refine Kd.C_drew ?_))); (case side2 => exact HC0.out); rintro e w80 ⟨v426, rfl, ho0, hb⟩; refine ⟨_, rfl, ?_⟩; have n0_ := Aside0.mk (Kd.R_lower ho0 (below_size (by repeat (first | (with_reducible first | exact HB.out | apply below_alloc | apply pw_below_drewN | apply below_drew1 | refine below_set ?_ GE401.out) | exact HB.out)))); have n1_ := Aside0.mk (blk_below (g := gb401) (o := .cells #[.int .i64 t398, .string t399, .string t400] 25 (0, 0)) (by (with_reducible repeat (first | refine blk_drewN ?_ _ | refine blk_drew ?_ | refine blk_alloc ?_ _)); exact BK401.out) hb); have n2_ := Aside0.mk (below_step (by repeat (first | (with_reducible first | exact HB.out | apply below_alloc | apply pw_below_drewN | apply below_drew1 | refine below_set ?_ GE401.out) | exact HB.out)) hb); clear BK401; clear HB; have HO427 := n0_; have BK401 := n1_; have HB := n2_; clear n0_ n1_ n2_; (try clear hb); (try clear hb2); (try clear hk); (try clear hi); (try clear ho0); obtain ⟨Ao81, co81, eo81⟩ := Kd.R_slice HO427.out; subst eo81) | ((with_reducible refine gate_callee (f := 20) rfl ?_); refine goesL_ (some 66) rfl rfl Try.func20 (by kernel_rfl) rfl #[.slice Ao81 t425.length co81] rfl (by (try simp only [List.map_toArray, List.map_cons, List.map_nil]); first | done | rfl | (simp only [List.length_drop, List.length_take]; rfl)) ?_; (with_reducible refine (impl_Records.calls kj13 _ _ t425 t428 true _ ?side1 ?side2 A72.out).mono ?_); (case side1 => repeat (first | exact (Kd.R_reads' HO427.out).2.2 | (with_reducible refine Kd.C_alloc ?_ _) | (with_reducible refine Kd.C_drewN ?_ _) | (with_reducible refine Kd.C_drew ?_))); (case side2 => exact (Kd.R_reads' HO427.out).2.1); rintro e w82 ⟨v430, rfl, ho0, hb⟩; refine ⟨_, rfl, ?_⟩; have n0_ := Aside0.mk (Kd.R_below (by (with_reducible repeat (first | apply Kd.R_alloc | apply Kd.R_drewN | apply Kd.R_drew)); exact HO427.out) hb); have n1_ := Aside0.mk (Kd.R_lower (Kd.R_newB ho0 (g := gb401) (o := .cells #[.int .i64 t398, .string t399, .string t400] 25 (0, 0)) (by (with_reducible repeat (first | refine blk_drewN ?_ _ | refine blk_drew ?_ | refine blk_alloc ?_ _)); exact BK401.out)) (below_size (by repeat (first | (with_reducible first | exact HB.out | apply below_alloc | apply pw_below_drewN | apply below_drew1 | refine below_set ?_ GE401.out) | exact HB.out)))); have n2_ := Aside0.mk (blk_below (g := gb401) (o := .cells #[.int .i64 t398, .string t399, .string t400] 25 (0, 0)) (by (with_reducible repeat (first | refine blk_drewN ?_ _ | refine blk_drew ?_ | refine blk_alloc ?_ _)); exact BK401.out) hb); have n3_ := Aside0.mk (below_step (by repeat (first | (with_reducible first | exact HB.out | apply below_alloc | apply pw_below_drewN | apply below_drew1 | refine below_set ?_ GE401.out) | exact HB.out)) hb); clear HO427; clear BK401; clear HB; have HO427 := n0_; have HO431 := n1_; have BK401 := n2_; have HB := n3_; clear n0_ n1_ n2_ n3_; (try clear hb); (try clear hb2); (try clear hk); (try clear hi); (try clear ho0)) | ((with_reducible refine gate_callee (f := 21) rfl ?_); refine goesL_ (some 71) rfl rfl Try.func21 (by kernel_rfl) rfl #[.slice Ao81 t425.length co81] rfl (by (try simp only [List.map_toArray, List.map_cons, List.map_nil]); first | done | rfl | (simp only [List.length_drop, List.length_take]; rfl)) ?_; (with_reducible refine (spec_Records.calls kj13 _ _ t425 t432 t433 _ ?side1 ?side2 A73.out).mono ?_); (case side1 => repeat (first | exact (Kd.R_reads' HO427.out).2.2 | (with_reducible refine Kd.C_alloc ?_ _) | (with_reducible refine Kd.C_drewN ?_ _) | (with_reducible refine Kd.C_drew ?_))); (case side2 => exact (Kd.R_reads' HO427.out).2.1); rintro e w83 ⟨v434, rfl, ho0, hb⟩; refine ⟨_, rfl, ?_⟩; have n0_ := Aside0.mk (Kd.R_below (by (with_reducible repeat (first | apply Kd.R_alloc | apply Kd.R_drewN | apply Kd.R_drew)); exact HO427.out) hb); have n1_ := Aside0.mk (Kd.R_elder' (by (with_reducible repeat (first | apply Kd.R_alloc | apply Kd.R_drewN | apply Kd.R_drew)); exact HO431.out) (Kd.R_base ho0) hb); have n2_ := Aside0.mk (Kd.R_lower (Kd.R_newB (Kd.R_new' ho0 (Kd.R_lt (by (with_reducible repeat (first | apply Kd.R_alloc | apply Kd.R_drewN | apply Kd.R_drew)); exact HO431.out))) (g := gb401) (o := .cells #[.int .i64 t398, .string t399, .string t400] 25 (0, 0)) (by (with_reducible repeat (first | refine blk_drewN ?_ _ | refine blk_drew ?_ | refine blk_alloc ?_ _)); exact BK401.out)) (below_size (by repeat (first | (with_reducible first | exact HB.out | apply below_alloc | apply pw_below_drewN | apply below_drew1 | refine below_set ?_ GE401.out) | exact HB.out)))); have n3_ := Aside0.mk (blk_below (g := gb401) (o := .cells #[.int .i64 t398, .string t399, .string t400] 25 (0, 0)) (by (with_reducible repeat (first | refine blk_drewN ?_ _ | refine blk_drew ?_ | refine blk_alloc ?_ _)); exact BK401.out) hb); have n4_ := Aside0.mk (below_step (by repeat (first | (with_reducible first | exact HB.out | apply below_alloc | apply pw_below_drewN | apply below_drew1 | refine below_set ?_ GE401.out) | exact HB.out)) hb); clear HO427; clear HO431; clear BK401; clear HB; have HO427 := n0_; have HO431 := n1_; have HO435 := n2_; have BK401 := n3_; have HB := n4_; clear n0_ n1_ n2_ n3_ n4_; (try clear hb); (try clear hb2); (try clear hk); (try clear hi); (try clear ho0)) | ((with_reducible refine gate_dst (N := 82) rfl ?_); (try (refine gate_guard (by rfl) ?_; dsimp only)); refine Kd.R_lit (Kd.int .u8) _ 5 ?hg (N := 82) ?hd (xs := ([] : List Int)) (inner := []) (ok := fun _ => True) (okp := fun _ => True) ?hr ?hp (fun _ hk => hk) trivial (Below.refl _ _) (Nat.le_refl _) (by simp) ?_; (case hd => rfl); (case hg => rfl); (case hr => first | (go_simp; done) | (go_simp; rfl)); (case hp => exact (Reps.none _ _)); intro v437 w84 ho85 hb hg_ hnew_; clear hg_ hnew_; (first | rw [← Ny436.out] at ho85 | (simp only [Int.reduceToNat] at ho85; rw [← Ny436.out] at ho85)); have n0_ := Aside0.mk (Kd.R_elder' (by (with_reducible repeat (first | apply Kd.R_alloc | apply Kd.R_drewN | apply Kd.R_drew)); exact HO427.out) (Kd.R_base ho85) hb); have n1_ := Aside0.mk (Kd.R_below (by (with_reducible repeat (first | apply Kd.R_alloc | apply Kd.R_drewN | apply Kd.R_drew)); exact HO431.out) hb); have n2_ := Aside0.mk (Kd.R_below (by (with_reducible repeat (first | apply Kd.R_alloc | apply Kd.R_drewN | apply Kd.R_drew)); exact HO435.out) hb); have n3_ := Aside0.mk (Kd.R_lower (Kd.R_new' ho85 (Kd.R_lt (by (with_reducible repeat (first | apply Kd.R_alloc | apply Kd.R_drewN | apply Kd.R_drew)); exact HO427.out))) (below_size (by repeat (first | (with_reducible first | exact HB.out | apply below_alloc | apply pw_below_drewN | apply below_drew1 | refine below_set ?_ GE401.out) | exact HB.out)))); have n4_ := Aside0.mk (blk_below (g := gb401) (o := .cells #[.int .i64 t398, .string t399, .string t400] 25 (0, 0)) (by (with_reducible repeat (first | refine blk_drewN ?_ _ | refine blk_drew ?_ | refine blk_alloc ?_ _)); exact BK401.out) hb); have n5_ := Aside0.mk (below_step (by repeat (first | (with_reducible first | exact HB.out | apply below_alloc | apply pw_below_drewN | apply below_drew1 | refine below_set ?_ GE401.out) | exact HB.out)) hb); clear HO427; clear HO431; clear HO435; clear BK401; clear HB; have HO427 := n0_; have HO431 := n1_; have HO435 := n2_; have HO438 := n3_; have BK401 := n4_; have HB := n5_; clear n0_ n1_ n2_ n3_ n4_ n5_; clear hb ho85))
              go_loopg [16, 17] kj13 (fun kq v16 v17 w' => ∃ (x16_2 : List Int) (x17_2 : Int), v17 = .int .i64 x17_2 ∧ Aside0 (laws_FnRecords.l0 kq t425 t428 x16_2 x17_2 = some r) ∧ Aside0 (kq ≤ kj13) ∧ Aside0 (Kd.R (Kd.int .u8) 5 w' w.heap.size (fun k_ => some k_ ≠ (v16 : Value).ownBlock) (.slice Ao81 t425.length co81) t425) ∧ Aside0 (Kd.R k25 25 w' w.heap.size (fun k_ => k_ ≠ gb401) v430 t428) ∧ Aside0 (Kd.R (Kd.int .u8) 5 w' w.heap.size (fun k_ => some k_ ≠ ((.slice Ao81 t425.length co81) : Value).ownBlock) v16 x16_2) ∧ Aside0 (w'.heap[gb401]? = some (.cells #[.int .i64 t398, .string t399, .string t400] 25 (0, 0))) ∧ Aside0 (Below w.heap.size w w'))
              case atStart => exact ⟨(y436), (0), (by first | rfl | (simp; done) | (simp [*]; done)), H', ⟨Nat.le_refl _⟩, ⟨by (with_reducible repeat (first | apply Kd.R_alloc | apply Kd.R_drewN | apply Kd.R_drew)); exact Kd.R_mono HO427.out (fun _ hk => hk.2)⟩, ⟨by (with_reducible repeat (first | apply Kd.R_alloc | apply Kd.R_drewN | apply Kd.R_drew)); exact Kd.R_mono HO431.out (fun _ hk => hk.1.2)⟩, ⟨by (with_reducible repeat (first | apply Kd.R_alloc | apply Kd.R_drewN | apply Kd.R_drew)); exact Kd.R_mono HO438.out (fun _ hk => hk.2)⟩, ⟨by (with_reducible repeat (first | refine blk_drewN ?_ _ | refine blk_drew ?_ | refine blk_alloc ?_ _)); exact BK401.out⟩, ⟨by repeat (first | (with_reducible first | exact HB.out | apply below_alloc | apply pw_below_drewN | apply below_drew1 | refine below_set ?_ GE401.out) | exact HB.out)⟩⟩
              case round =>
                clear H'
                try clear c1
                try clear c2
                try clear p2
                try clear c3
                try clear c4
                try clear c5
                try clear c6
                try clear p6
                try clear c7
                try clear c7b0
                try clear c7b1
                try clear c7b2
                try clear c14
                try clear c15
                try clear c16
                try clear c17
                try clear c18
                try clear c19
                try clear c20
                try clear c21
                try clear c22
                try clear c23
                try clear c25
                try clear c26
                try clear c26b0
                try clear c35
                try clear c38
                try clear c38b0
                try clear c38b1
                try clear c47
                try clear c58
                try clear p64
                try clear c69
                try clear c74
                try clear c74b0
                try clear c74b1
                try clear c74b2
                try clear c79
                try clear hcz10_0
                try clear hcz10_1
                try clear hcz10_2
                try clear hcz12_0
                try clear hcz12_1
                try clear hcz12_2
                try clear hcz17_0
                try clear hcz17_1
                try clear hcz17_2
                try clear hcz19_0
                try clear hcz19_1
                try clear hcz19_2
                try clear hcz36_0
                try clear hcz36_1
                try clear hcz36_2
                try clear hcz37_0
                try clear hcz37_1
                try clear hcz37_2
                try clear hcz48_0
                try clear hcz48_1
                try clear hcz48_2
                try clear hcz49_0
                try clear hcz49_1
                try clear hcz49_2
                try clear hcz59_0
                try clear hcz59_1
                try clear hcz59_2
                try clear hcz60_0
                try clear hcz60_1
                try clear hcz60_2
                try clear hcz70_0
                try clear hcz70_1
                try clear hcz70_2
                try clear hfz10_0
                try clear hfz10_1
                try clear hfz10_2
                try clear hfz12_0
                try clear hfz12_1
                try clear hfz12_2
                try clear hfz17_0
                try clear hfz17_1
                try clear hfz17_2
                try clear hfz19_0
                try clear hfz19_1
                try clear hfz19_2
                try clear hfz36_0
                try clear hfz36_1
                try clear hfz36_2
                try clear hfz37_0
                try clear hfz37_1
                try clear hfz37_2
                try clear hfz48_0
                try clear hfz48_1
                try clear hfz48_2
                try clear hfz49_0
                try clear hfz49_1
                try clear hfz49_2
                try clear hfz59_0
                try clear hfz59_1
                try clear hfz59_2
                try clear hfz60_0
                try clear hfz60_1
                try clear hfz60_2
                try clear hfz70_0
                try clear hfz70_1
                try clear hfz70_2
                try clear p2
                try clear p6
                try clear p64
                obtain ⟨x16_2, x17_2, rfl, HA, HK2, HO_11, HO_12, HO_16, BK401, HB⟩ := hrel
                cases gk with
                | zero => exact absurd HA.out (by simp [laws_FnRecords.l0])
                | succ k2 =>
                  have H := HA.out
                  clear HA
                  simp only [laws_FnRecords.l0] at H
                  by_cases c86 : x17_2 < (t428.length : Int)
                  · rw [if_pos c86] at H
                    have c86b0 : decide (x17_2 < (t428.length : Int)) = true := decide_eq_true c86
                    clear c86
                    by_cases c87 : 0 ≤ x17_2
                    · rw [if_pos c87] at H
                      have c87b0 : decide (0 ≤ x17_2) = true := decide_eq_true c87
                      clear c87
                      replace H := Option.bind_eq_some_iff.mp H
                      obtain ⟨⟨t440, t443⟩, A880, H⟩ := H
                      replace H : (if t443 = true then ((impl_UrlOk.f k2 ((rd_T25 t428 x17_2).f1)).bind fun t445 => (if t445 = true then (if x16_2.length + t440.length < 140737488355328 then (laws_FnRecords.l0 k2 t425 t428 (x16_2 ++ t440) (wrap64 (x17_2 + 1))) else (none)) else (some false))) else (some false)) = some r := H
                      have A88 := Aside0.mk A880
                      clear A880
                      by_cases c89 : t443 = true
                      · subst c89
                        have H1 : ((impl_UrlOk.f k2 ((rd_T25 t428 x17_2).f1)).bind fun t445 => (if t445 = true then (if x16_2.length + t440.length < 140737488355328 then (laws_FnRecords.l0 k2 t425 t428 (x16_2 ++ t440) (wrap64 (x17_2 + 1))) else (none)) else (some false))) = some r := by rw [if_pos rfl] at H; exact H
                        clear H
                        have H := H1
                        clear H1
                        replace H := Option.bind_eq_some_iff.mp H
                        obtain ⟨t445, A900, H⟩ := H
                        replace H : (if t445 = true then (if x16_2.length + t440.length < 140737488355328 then (laws_FnRecords.l0 k2 t425 t428 (x16_2 ++ t440) (wrap64 (x17_2 + 1))) else (none)) else (some false)) = some r := H
                        have A90 := Aside0.mk A900
                        clear A900
                        by_cases c91 : t445 = true
                        · subst c91
                          have H1 : (if x16_2.length + t440.length < 140737488355328 then (laws_FnRecords.l0 k2 t425 t428 (x16_2 ++ t440) (wrap64 (x17_2 + 1))) else (none)) = some r := by rw [if_pos rfl] at H; exact H
                          clear H
                          have H := H1
                          clear H1
                          by_cases c92 : x16_2.length + t440.length < 140737488355328
                          · rw [if_pos c92] at H
                            have LMc92 := Aside0.mk c92
                            clear c92
                            obtain ⟨y446, hy446⟩ : ∃ y_ : List Int, y_ = (x16_2 ++ t440) := ⟨_, rfl⟩
                            replace H : (laws_FnRecords.l0 k2 t425 t428 y446 (wrap64 (x17_2 + 1))) = some r := by first | (rw [hy446]; with_reducible exact H) | (have H2_ := (Option.bind_some _ _).symm.trans H; rw [hy446]; with_reducible exact H2_) | (have H2_ := (Option.bind_some _ _).symm.trans H; with_reducible exact H2_) | with_reducible exact H | (rw [hy446]; exact H) | exact H
                            have Ny446 := Aside0.mk hy446
                            clear hy446
                            have H' := Aside0.mk H
                            clear H
                            obtain ⟨Ao93, co93, eo93⟩ := Kd.R_slice HO_12.out
                            subst eo93
                            have p439 : 0 ≤ (x17_2 : Int) := of_decide_eq_true (by first | (with_reducible assumption) | assumption)
                            have q439 : x17_2 < (t428.length : Int) := of_decide_eq_true (by first | (with_reducible assumption) | assumption)
                            obtain ⟨ad439, e439, hx439_0, hx439_1, hx439_2⟩ := at_T25 (Kd.R_reads' HO_12.out).2.2 x17_2 p439 q439
                            cases e439
                            replace p439 := eq_true p439
                            replace q439 := eq_true q439
                            go_wp2_with (first | ((with_reducible refine gate_callee (f := 16) rfl ?_); refine goesL_ (some 94) rfl rfl Try.func16 (by kernel_rfl) rfl #[.agg #[.int .i64 ((rd_T25 t428 x17_2).f0), .string ((rd_T25 t428 x17_2).f1), .string ((rd_T25 t428 x17_2).f2)]] rfl (by (try simp only [List.map_toArray, List.map_cons, List.map_nil]); first | done | rfl | (simp only [List.length_drop, List.length_take]; rfl)) ?_; (with_reducible refine (impl_RecordPack.calls k2 ((rd_T25 t428 x17_2).f0) ((rd_T25 t428 x17_2).f1) ((rd_T25 t428 x17_2).f2) t440 true _ A88.out).mono ?_); rintro e w94 ⟨v441, rfl, ho0, hb⟩; refine ⟨_, rfl, ?_⟩; have n0_ := Aside0.mk (Kd.R_elder' (by (with_reducible repeat (first | apply Kd.R_alloc | apply Kd.R_drewN | apply Kd.R_drew)); exact HO_11.out) (Kd.R_base ho0) hb); have n1_ := Aside0.mk (Kd.R_below (by (with_reducible repeat (first | apply Kd.R_alloc | apply Kd.R_drewN | apply Kd.R_drew)); exact HO_12.out) hb); have n2_ := Aside0.mk (Kd.R_elder' (by (with_reducible repeat (first | apply Kd.R_alloc | apply Kd.R_drewN | apply Kd.R_drew)); exact HO_16.out) (Kd.R_base ho0) hb); have n3_ := Aside0.mk (Kd.R_lower (Kd.R_new' (Kd.R_new' ho0 (Kd.R_lt (by (with_reducible repeat (first | apply Kd.R_alloc | apply Kd.R_drewN | apply Kd.R_drew)); exact HO_11.out))) (Kd.R_lt (by (with_reducible repeat (first | apply Kd.R_alloc | apply Kd.R_drewN | apply Kd.R_drew)); exact HO_16.out))) (below_size (by repeat (first | (with_reducible first | exact HB.out | apply below_alloc | apply pw_below_drewN | apply below_drew1 | refine below_set ?_ GE401.out) | exact HB.out)))); have n4_ := Aside0.mk (blk_below (g := gb401) (o := .cells #[.int .i64 t398, .string t399, .string t400] 25 (0, 0)) (by (with_reducible repeat (first | refine blk_drewN ?_ _ | refine blk_drew ?_ | refine blk_alloc ?_ _)); exact BK401.out) hb); have n5_ := Aside0.mk (below_step (by repeat (first | (with_reducible first | exact HB.out | apply below_alloc | apply pw_below_drewN | apply below_drew1 | refine below_set ?_ GE401.out) | exact HB.out)) hb); clear HO_11; clear HO_12; clear HO_16; clear BK401; clear HB; have HO_11 := n0_; have HO_12 := n1_; have HO_16 := n2_; have HO442 := n3_; have BK401 := n4_; have HB := n5_; clear n0_ n1_ n2_ n3_ n4_ n5_; (try clear hb); (try clear hb2); (try clear hk); (try clear hi); (try clear ho0); have p444 : 0 ≤ (x17_2 : Int) := of_decide_eq_true (by first | (with_reducible assumption) | assumption); have q444 : x17_2 < (t428.length : Int) := of_decide_eq_true (by first | (with_reducible assumption) | assumption); obtain ⟨ad444, e444, hx444_0, hx444_1, hx444_2⟩ := at_T25 (Kd.R_reads' HO_12.out).2.2 x17_2 p444 q444; obtain rfl : ad439 = ad444 := (by injection e444); replace p444 := eq_true p444; replace q444 := eq_true q444) | (go_at_call 22; (with_reducible refine (impl_UrlOk.calls k2 ((rd_T25 t428 x17_2).f1) true _ A90.out).mono ?_); rintro e w' ⟨rfl, ⟨nd, rfl⟩⟩; obtain ⟨Ao96, co96, eo96⟩ := Kd.R_slice HO442.out; subst eo96) | ((with_reducible refine gate_builtin (b := .append) (xs := #[.tmp 108, .tmp 109]) rfl ?_); (try (refine gate_guard (by rfl) ?_; dsimp only)); at_builtin; refine Kd.R_append_rows (Kd.int .u8) (w0 := w) w.heap.size rfl (.tmp 108) (.tmp 109) 22 5 (.int .u8 0) 1 rfl Try.underlying22 info5 rfl (by decide) (by omega) u16 x16_2 t440 _ _ _ (fun k_ => some k_ ≠ (.slice Ao81 t425.length co81 : Value).ownBlock ∧ some k_ ≠ (.slice Ao96 t440.length co96 : Value).ownBlock) (fun _ => False) rfl rfl ?aO ?aR (fun _ _ h => h) (fun _ h => h.elim) ?aF ?aB ?aS ?aL ?_; (case aR => repeat (first | exact (Kd.R_reads' HO442.out).2.2 | (with_reducible refine Kd.C_alloc ?_ _) | (with_reducible refine Kd.C_drewN ?_ _) | (with_reducible refine Kd.C_drew ?_))); (case aB => exact (by repeat (first | (with_reducible first | exact HB.out | apply below_alloc | apply pw_below_drewN | apply below_drew1 | refine below_set ?_ GE401.out) | exact HB.out))); (case aF => exact (fun k_ hk => ⟨Kd.fresh' (Kd.R_lt (by (with_reducible repeat (first | apply Kd.R_alloc | apply Kd.R_drewN | apply Kd.R_drew)); exact HO_11.out)) k_ hk, Kd.fresh' (Kd.R_lt (by (with_reducible repeat (first | apply Kd.R_alloc | apply Kd.R_drewN | apply Kd.R_drew)); exact HO442.out)) k_ hk⟩)); (case aO => exact (by (with_reducible repeat (first | apply Kd.R_alloc | apply Kd.R_drewN | apply Kd.R_drew)); exact HO_16.out)); (case aS => exact (below_size (by repeat (first | (with_reducible first | exact HB.out | apply below_alloc | apply pw_below_drewN | apply below_drew1 | refine below_set ?_ GE401.out) | exact HB.out)))); (case aL => have := LMc92.out; omega); intro v447 w95 ho hb hg hat; rw [← Ny446.out] at ho; have n0_ := Aside0.mk (Kd.R_after (ok := (fun k_ => some k_ ≠ (.slice Ao96 t440.length co96 : Value).ownBlock)) (by (with_reducible repeat (first | apply Kd.R_alloc | apply Kd.R_drewN | apply Kd.R_drew)); exact Kd.R_mono HO_11.out (fun _ hk => ⟨hk.2, hk.1⟩)) hg hat); have n1_ := Aside0.mk (Kd.R_over' (by (with_reducible repeat (first | apply Kd.R_alloc | apply Kd.R_drewN | apply Kd.R_drew)); exact HO_12.out) (Kd.R_typed (by (with_reducible repeat (first | apply Kd.R_alloc | apply Kd.R_drewN | apply Kd.R_drew)); exact HO_16.out)) (by decide) hg); have n2_ := Aside0.mk (blk_grown (g := gb401) (o := .cells #[.int .i64 t398, .string t399, .string t400] 25 (0, 0)) (by (with_reducible repeat (first | refine blk_drewN ?_ _ | refine blk_drew ?_ | refine blk_alloc ?_ _)); exact BK401.out) hg (Kd.R_ne HO_16.out BK401.out (by decide))); have n3_ := Aside0.mk (Kd.R_after (ok := (fun k_ => some k_ ≠ (.slice Ao81 t425.length co81 : Value).ownBlock)) (by (with_reducible repeat (first | apply Kd.R_alloc | apply Kd.R_drewN | apply Kd.R_drew)); exact Kd.R_mono HO442.out (fun _ hk => ⟨hk.1.2, hk.2⟩)) hg hat); have n4_ := Aside0.mk (hb); have n5_ := Aside0.mk (ho); clear HO_11; clear HO_12; clear BK401; clear HO442; clear HB; clear HO_16; have HO_11 := n0_; have HO_12 := n1_; have BK401 := n2_; have HO442 := n3_; have HB := n4_; have HO448 := n5_; clear n0_ n1_ n2_ n3_ n4_ n5_; clear ho hb hg hat))
                            go_roundg k2
                            case measure => have := HJ13.out; have := HK2.out; omega
                            case rel => exact ⟨(y446), (wrap64 (x17_2 + 1)), (by first | rfl | (simp; done) | (simp [*]; done)), H', ⟨by have := HJ13.out; have := HK2.out; omega⟩, ⟨by (with_reducible repeat (first | apply Kd.R_alloc | apply Kd.R_drewN | apply Kd.R_drew)); exact Kd.R_mono HO_11.out (fun _ hk => hk.2)⟩, ⟨by (with_reducible repeat (first | apply Kd.R_alloc | apply Kd.R_drewN | apply Kd.R_drew)); exact HO_12.out⟩, ⟨by (with_reducible repeat (first | apply Kd.R_alloc | apply Kd.R_drewN | apply Kd.R_drew)); exact Kd.R_mono HO448.out (fun _ hk => hk.1)⟩, ⟨by (with_reducible repeat (first | refine blk_drewN ?_ _ | refine blk_drew ?_ | refine blk_alloc ?_ _)); exact BK401.out⟩, ⟨by repeat (first | (with_reducible first | exact HB.out | apply below_alloc | apply pw_below_drewN | apply below_drew1 | refine below_set ?_ GE401.out) | exact HB.out)⟩⟩
                          · rw [if_neg c92] at H
                            exact absurd H (by simp)
                        · replace c91 := Bool.eq_false_iff.mpr c91
                          subst c91
                          have H1 : (some false) = some r := by rw [if_neg (show ¬ (false = true) by decide)] at H; exact H
                          clear H
                          have H := H1
                          clear H1
                          obtain rfl := Option.some.inj H
                          obtain ⟨Ao97, co97, eo97⟩ := Kd.R_slice HO_12.out
                          subst eo97
                          have p439 : 0 ≤ (x17_2 : Int) := of_decide_eq_true (by first | (with_reducible assumption) | assumption)
                          have q439 : x17_2 < (t428.length : Int) := of_decide_eq_true (by first | (with_reducible assumption) | assumption)
                          obtain ⟨ad439, e439, hx439_0, hx439_1, hx439_2⟩ := at_T25 (Kd.R_reads' HO_12.out).2.2 x17_2 p439 q439
                          cases e439
                          replace p439 := eq_true p439
                          replace q439 := eq_true q439
                          go_wp2_with (first | ((with_reducible refine gate_callee (f := 16) rfl ?_); refine goesL_ (some 94) rfl rfl Try.func16 (by kernel_rfl) rfl #[.agg #[.int .i64 ((rd_T25 t428 x17_2).f0), .string ((rd_T25 t428 x17_2).f1), .string ((rd_T25 t428 x17_2).f2)]] rfl (by (try simp only [List.map_toArray, List.map_cons, List.map_nil]); first | done | rfl | (simp only [List.length_drop, List.length_take]; rfl)) ?_; (with_reducible refine (impl_RecordPack.calls k2 ((rd_T25 t428 x17_2).f0) ((rd_T25 t428 x17_2).f1) ((rd_T25 t428 x17_2).f2) t440 true _ A88.out).mono ?_); rintro e w98 ⟨v441, rfl, ho0, hb⟩; refine ⟨_, rfl, ?_⟩; have n0_ := Aside0.mk (Kd.R_elder' (by (with_reducible repeat (first | apply Kd.R_alloc | apply Kd.R_drewN | apply Kd.R_drew)); exact HO_11.out) (Kd.R_base ho0) hb); have n1_ := Aside0.mk (Kd.R_below (by (with_reducible repeat (first | apply Kd.R_alloc | apply Kd.R_drewN | apply Kd.R_drew)); exact HO_12.out) hb); have n2_ := Aside0.mk (Kd.R_elder' (by (with_reducible repeat (first | apply Kd.R_alloc | apply Kd.R_drewN | apply Kd.R_drew)); exact HO_16.out) (Kd.R_base ho0) hb); have n3_ := Aside0.mk (Kd.R_lower (Kd.R_new' (Kd.R_new' ho0 (Kd.R_lt (by (with_reducible repeat (first | apply Kd.R_alloc | apply Kd.R_drewN | apply Kd.R_drew)); exact HO_11.out))) (Kd.R_lt (by (with_reducible repeat (first | apply Kd.R_alloc | apply Kd.R_drewN | apply Kd.R_drew)); exact HO_16.out))) (below_size (by repeat (first | (with_reducible first | exact HB.out | apply below_alloc | apply pw_below_drewN | apply below_drew1 | refine below_set ?_ GE401.out) | exact HB.out)))); have n4_ := Aside0.mk (blk_below (g := gb401) (o := .cells #[.int .i64 t398, .string t399, .string t400] 25 (0, 0)) (by (with_reducible repeat (first | refine blk_drewN ?_ _ | refine blk_drew ?_ | refine blk_alloc ?_ _)); exact BK401.out) hb); have n5_ := Aside0.mk (below_step (by repeat (first | (with_reducible first | exact HB.out | apply below_alloc | apply pw_below_drewN | apply below_drew1 | refine below_set ?_ GE401.out) | exact HB.out)) hb); clear HO_11; clear HO_12; clear HO_16; clear BK401; clear HB; have HO_11 := n0_; have HO_12 := n1_; have HO_16 := n2_; have HO442 := n3_; have BK401 := n4_; have HB := n5_; clear n0_ n1_ n2_ n3_ n4_ n5_; (try clear hb); (try clear hb2); (try clear hk); (try clear hi); (try clear ho0); have p444 : 0 ≤ (x17_2 : Int) := of_decide_eq_true (by first | (with_reducible assumption) | assumption); have q444 : x17_2 < (t428.length : Int) := of_decide_eq_true (by first | (with_reducible assumption) | assumption); obtain ⟨ad444, e444, hx444_0, hx444_1, hx444_2⟩ := at_T25 (Kd.R_reads' HO_12.out).2.2 x17_2 p444 q444; obtain rfl : ad439 = ad444 := (by injection e444); replace p444 := eq_true p444; replace q444 := eq_true q444) | (go_at_call 22; (with_reducible refine (impl_UrlOk.calls k2 ((rd_T25 t428 x17_2).f1) false _ A90.out).mono ?_); rintro e w' ⟨rfl, ⟨nd, rfl⟩⟩))
                          go_ret
                          exact ⟨by first | rfl | (simp [errW_none, errW_some] <;> rfl) | (simp [*, errW_none, errW_some] <;> rfl), by repeat (first | (with_reducible first | exact HB.out | apply below_alloc | apply pw_below_drewN | apply below_drew1 | refine below_set ?_ GE401.out) | exact HB.out)⟩
                      · replace c89 := Bool.eq_false_iff.mpr c89
                        subst c89
                        have H1 : (some false) = some r := by rw [if_neg (show ¬ (false = true) by decide)] at H; exact H
                        clear H
                        have H := H1
                        clear H1
                        obtain rfl := Option.some.inj H
                        obtain ⟨Ao99, co99, eo99⟩ := Kd.R_slice HO_12.out
                        subst eo99
                        have p439 : 0 ≤ (x17_2 : Int) := of_decide_eq_true (by first | (with_reducible assumption) | assumption)
                        have q439 : x17_2 < (t428.length : Int) := of_decide_eq_true (by first | (with_reducible assumption) | assumption)
                        obtain ⟨ad439, e439, hx439_0, hx439_1, hx439_2⟩ := at_T25 (Kd.R_reads' HO_12.out).2.2 x17_2 p439 q439
                        cases e439
                        replace p439 := eq_true p439
                        replace q439 := eq_true q439
                        go_wp2_with (first | ((with_reducible refine gate_callee (f := 16) rfl ?_); refine goesL_ (some 94) rfl rfl Try.func16 (by kernel_rfl) rfl #[.agg #[.int .i64 ((rd_T25 t428 x17_2).f0), .string ((rd_T25 t428 x17_2).f1), .string ((rd_T25 t428 x17_2).f2)]] rfl (by (try simp only [List.map_toArray, List.map_cons, List.map_nil]); first | done | rfl | (simp only [List.length_drop, List.length_take]; rfl)) ?_; (with_reducible refine (impl_RecordPack.calls k2 ((rd_T25 t428 x17_2).f0) ((rd_T25 t428 x17_2).f1) ((rd_T25 t428 x17_2).f2) t440 false _ A88.out).mono ?_); rintro e w100 ⟨v441, rfl, ho0, hb⟩; refine ⟨_, rfl, ?_⟩; have n0_ := Aside0.mk (Kd.R_elder' (by (with_reducible repeat (first | apply Kd.R_alloc | apply Kd.R_drewN | apply Kd.R_drew)); exact HO_11.out) (Kd.R_base ho0) hb); have n1_ := Aside0.mk (Kd.R_below (by (with_reducible repeat (first | apply Kd.R_alloc | apply Kd.R_drewN | apply Kd.R_drew)); exact HO_12.out) hb); have n2_ := Aside0.mk (Kd.R_elder' (by (with_reducible repeat (first | apply Kd.R_alloc | apply Kd.R_drewN | apply Kd.R_drew)); exact HO_16.out) (Kd.R_base ho0) hb); have n3_ := Aside0.mk (Kd.R_lower (Kd.R_new' (Kd.R_new' ho0 (Kd.R_lt (by (with_reducible repeat (first | apply Kd.R_alloc | apply Kd.R_drewN | apply Kd.R_drew)); exact HO_11.out))) (Kd.R_lt (by (with_reducible repeat (first | apply Kd.R_alloc | apply Kd.R_drewN | apply Kd.R_drew)); exact HO_16.out))) (below_size (by repeat (first | (with_reducible first | exact HB.out | apply below_alloc | apply pw_below_drewN | apply below_drew1 | refine below_set ?_ GE401.out) | exact HB.out)))); have n4_ := Aside0.mk (blk_below (g := gb401) (o := .cells #[.int .i64 t398, .string t399, .string t400] 25 (0, 0)) (by (with_reducible repeat (first | refine blk_drewN ?_ _ | refine blk_drew ?_ | refine blk_alloc ?_ _)); exact BK401.out) hb); have n5_ := Aside0.mk (below_step (by repeat (first | (with_reducible first | exact HB.out | apply below_alloc | apply pw_below_drewN | apply below_drew1 | refine below_set ?_ GE401.out) | exact HB.out)) hb); clear HO_11; clear HO_12; clear HO_16; clear BK401; clear HB; have HO_11 := n0_; have HO_12 := n1_; have HO_16 := n2_; have HO442 := n3_; have BK401 := n4_; have HB := n5_; clear n0_ n1_ n2_ n3_ n4_ n5_; (try clear hb); (try clear hb2); (try clear hk); (try clear hi); (try clear ho0)))
                        go_ret
                        exact ⟨by first | rfl | (simp [errW_none, errW_some] <;> rfl) | (simp [*, errW_none, errW_some] <;> rfl), by repeat (first | (with_reducible first | exact HB.out | apply below_alloc | apply pw_below_drewN | apply below_drew1 | refine below_set ?_ GE401.out) | exact HB.out)⟩
                    · rw [if_neg c87] at H
                      exact absurd H (by simp)
                  · rw [if_neg c86] at H
                    have c86b0 : decide (x17_2 < (t428.length : Int)) = false := decide_eq_false c86
                    clear c86
                    obtain rfl := Option.some.inj H
                    obtain ⟨Ao101, co101, eo101⟩ := Kd.R_slice HO_12.out
                    subst eo101
                    have hcv102 := own_string (P := Try.prog) Try.underlying22 Try.underlying5 Try.underlying9 (Kd.own_of_R HO_16.out)
                    have hcv103 := own_string (P := Try.prog) Try.underlying22 Try.underlying5 Try.underlying9 (Kd.own_of_R HO_11.out)
                    go_wp2
                    go_ret
                    exact ⟨by first | rfl | (simp [errW_none, errW_some] <;> rfl) | (simp [*, errW_none, errW_some] <;> rfl), by repeat (first | (with_reducible first | exact HB.out | apply below_alloc | apply pw_below_drewN | apply below_drew1 | refine below_set ?_ GE401.out) | exact HB.out)⟩
            · replace c79 := Bool.eq_false_iff.mpr c79
              subst c79
              have H1 : (some ((t428.length : Int) == 0)) = some r := by rw [if_neg (show ¬ (false = true) by decide)] at H; exact H
              clear H
              have H := H1
              clear H1
              obtain rfl := Option.some.inj H
              go_wp2_with (first | ((with_reducible refine gate_callee (f := 19) rfl ?_); refine goesL_ (some 63) rfl rfl Try.func19 (by kernel_rfl) rfl #[.slice A0 l0.length c0] rfl (by (try simp only [List.map_toArray, List.map_cons, List.map_nil]); first | done | rfl | (simp only [List.length_drop, List.length_take]; rfl)) ?_; (with_reducible refine (spec_DrawRecords.calls kj13 _ _ l0 t425 _ ?side1 ?side2 A71.out).mono ?_); (case side1 => repeat (first | exact (Kd.C_below HR0.out HB.out) | (with_reducible refine Kd.C_alloc ?_ _) | (with_reducible refine Kd.C_drewN ?_ _) | (with_reducible refine Kd.C_drew ?_))); (case side2 => exact HC0.out); rintro e w104 ⟨v426, rfl, ho0, hb⟩; refine ⟨_, rfl, ?_⟩; have n0_ := Aside0.mk (Kd.R_lower ho0 (below_size (by repeat (first | (with_reducible first | exact HB.out | apply below_alloc | apply pw_below_drewN | apply below_drew1 | refine below_set ?_ GE401.out) | exact HB.out)))); have n1_ := Aside0.mk (blk_below (g := gb401) (o := .cells #[.int .i64 t398, .string t399, .string t400] 25 (0, 0)) (by (with_reducible repeat (first | refine blk_drewN ?_ _ | refine blk_drew ?_ | refine blk_alloc ?_ _)); exact BK401.out) hb); have n2_ := Aside0.mk (below_step (by repeat (first | (with_reducible first | exact HB.out | apply below_alloc | apply pw_below_drewN | apply below_drew1 | refine below_set ?_ GE401.out) | exact HB.out)) hb); clear BK401; clear HB; have HO427 := n0_; have BK401 := n1_; have HB := n2_; clear n0_ n1_ n2_; (try clear hb); (try clear hb2); (try clear hk); (try clear hi); (try clear ho0); obtain ⟨Ao105, co105, eo105⟩ := Kd.R_slice HO427.out; subst eo105) | ((with_reducible refine gate_callee (f := 20) rfl ?_); refine goesL_ (some 66) rfl rfl Try.func20 (by kernel_rfl) rfl #[.slice Ao105 t425.length co105] rfl (by (try simp only [List.map_toArray, List.map_cons, List.map_nil]); first | done | rfl | (simp only [List.length_drop, List.length_take]; rfl)) ?_; (with_reducible refine (impl_Records.calls kj13 _ _ t425 t428 false _ ?side1 ?side2 A72.out).mono ?_); (case side1 => repeat (first | exact (Kd.R_reads' HO427.out).2.2 | (with_reducible refine Kd.C_alloc ?_ _) | (with_reducible refine Kd.C_drewN ?_ _) | (with_reducible refine Kd.C_drew ?_))); (case side2 => exact (Kd.R_reads' HO427.out).2.1); rintro e w106 ⟨v430, rfl, ho0, hb⟩; refine ⟨_, rfl, ?_⟩; have n0_ := Aside0.mk (Kd.R_below (by (with_reducible repeat (first | apply Kd.R_alloc | apply Kd.R_drewN | apply Kd.R_drew)); exact HO427.out) hb); have n1_ := Aside0.mk (Kd.R_lower (Kd.R_newB ho0 (g := gb401) (o := .cells #[.int .i64 t398, .string t399, .string t400] 25 (0, 0)) (by (with_reducible repeat (first | refine blk_drewN ?_ _ | refine blk_drew ?_ | refine blk_alloc ?_ _)); exact BK401.out)) (below_size (by repeat (first | (with_reducible first | exact HB.out | apply below_alloc | apply pw_below_drewN | apply below_drew1 | refine below_set ?_ GE401.out) | exact HB.out)))); have n2_ := Aside0.mk (blk_below (g := gb401) (o := .cells #[.int .i64 t398, .string t399, .string t400] 25 (0, 0)) (by (with_reducible repeat (first | refine blk_drewN ?_ _ | refine blk_drew ?_ | refine blk_alloc ?_ _)); exact BK401.out) hb); have n3_ := Aside0.mk (below_step (by repeat (first | (with_reducible first | exact HB.out | apply below_alloc | apply pw_below_drewN | apply below_drew1 | refine below_set ?_ GE401.out) | exact HB.out)) hb); clear HO427; clear BK401; clear HB; have HO427 := n0_; have HO431 := n1_; have BK401 := n2_; have HB := n3_; clear n0_ n1_ n2_ n3_; (try clear hb); (try clear hb2); (try clear hk); (try clear hi); (try clear ho0)) | ((with_reducible refine gate_callee (f := 21) rfl ?_); refine goesL_ (some 71) rfl rfl Try.func21 (by kernel_rfl) rfl #[.slice Ao105 t425.length co105] rfl (by (try simp only [List.map_toArray, List.map_cons, List.map_nil]); first | done | rfl | (simp only [List.length_drop, List.length_take]; rfl)) ?_; (with_reducible refine (spec_Records.calls kj13 _ _ t425 t432 t433 _ ?side1 ?side2 A73.out).mono ?_); (case side1 => repeat (first | exact (Kd.R_reads' HO427.out).2.2 | (with_reducible refine Kd.C_alloc ?_ _) | (with_reducible refine Kd.C_drewN ?_ _) | (with_reducible refine Kd.C_drew ?_))); (case side2 => exact (Kd.R_reads' HO427.out).2.1); rintro e w107 ⟨v434, rfl, ho0, hb⟩; refine ⟨_, rfl, ?_⟩; have n0_ := Aside0.mk (Kd.R_below (by (with_reducible repeat (first | apply Kd.R_alloc | apply Kd.R_drewN | apply Kd.R_drew)); exact HO427.out) hb); have n1_ := Aside0.mk (Kd.R_elder' (by (with_reducible repeat (first | apply Kd.R_alloc | apply Kd.R_drewN | apply Kd.R_drew)); exact HO431.out) (Kd.R_base ho0) hb); have n2_ := Aside0.mk (Kd.R_lower (Kd.R_newB (Kd.R_new' ho0 (Kd.R_lt (by (with_reducible repeat (first | apply Kd.R_alloc | apply Kd.R_drewN | apply Kd.R_drew)); exact HO431.out))) (g := gb401) (o := .cells #[.int .i64 t398, .string t399, .string t400] 25 (0, 0)) (by (with_reducible repeat (first | refine blk_drewN ?_ _ | refine blk_drew ?_ | refine blk_alloc ?_ _)); exact BK401.out)) (below_size (by repeat (first | (with_reducible first | exact HB.out | apply below_alloc | apply pw_below_drewN | apply below_drew1 | refine below_set ?_ GE401.out) | exact HB.out)))); have n3_ := Aside0.mk (blk_below (g := gb401) (o := .cells #[.int .i64 t398, .string t399, .string t400] 25 (0, 0)) (by (with_reducible repeat (first | refine blk_drewN ?_ _ | refine blk_drew ?_ | refine blk_alloc ?_ _)); exact BK401.out) hb); have n4_ := Aside0.mk (below_step (by repeat (first | (with_reducible first | exact HB.out | apply below_alloc | apply pw_below_drewN | apply below_drew1 | refine below_set ?_ GE401.out) | exact HB.out)) hb); clear HO427; clear HO431; clear BK401; clear HB; have HO427 := n0_; have HO431 := n1_; have HO435 := n2_; have BK401 := n3_; have HB := n4_; clear n0_ n1_ n2_ n3_ n4_; (try clear hb); (try clear hb2); (try clear hk); (try clear hi); (try clear ho0); obtain ⟨Ao108, co108, eo108⟩ := Kd.R_slice HO431.out; subst eo108))
              go_ret
              exact ⟨by first | rfl | (simp [errW_none, errW_some] <;> rfl) | (simp [*, errW_none, errW_some] <;> rfl), by repeat (first | (with_reducible first | exact HB.out | apply below_alloc | apply pw_below_drewN | apply below_drew1 | refine below_set ?_ GE401.out) | exact HB.out)⟩
def laws_FnRecords.Pure : Prop := ∀ (l0 : List Int), l0.length ≤ maxLen → l0.length * 1 ≤ 140737488351232 → (∀ x ∈ l0, (Lit.int .u8 x).wf = true) → ∃ k, laws_FnRecords.f k l0 = some true
theorem laws_FnRecords.walk (P : laws_FnRecords.Pure) (a0 : Option Addr) (len0 cap0 : Nat) (z0 : List Int) (w : World) (w0 : (a0 = none ∧ len0 = 0 ∧ cap0 = 0 ∧ z0 = []) ∨ ∃ x, a0 = some x ∧ len0 ≤ cap0 ∧ cap0 ≤ maxLen ∧ z0.length = cap0 ∧ (∀ i, i < z0.length → w.cell? (x.add i) = some (.int .u8 (z0.getD i 0))) ∧ ∀ n ∈ z0, (Lit.int .u8 n).wf = true) (y0 : len0 * 1 ≤ 140737488351232) :
    Calls Try.prog 3 #[.slice a0 len0 cap0] w fun e w' => e = .returned (.bool true) ∧ Below w.heap.size w w' := by
  obtain ⟨l0, rfl, hr0, hm0, hw0, hc0⟩ := ReadsInt.ofRowC w0
  obtain ⟨k, h⟩ := P l0 hm0 y0 hw0
  refine (laws_FnRecords.calls k _ _ l0 true w (Kd.C_of_reads (d := (0 : Int)) (h1 := fun _ => rfl) hr0) hc0 h).mono ?_
  rintro e w' ⟨rfl, hd⟩
  exact ⟨rfl, hd⟩
end Go.Proofs.Ytaakhgjlekllgaa.PRcs
namespace Go.Proofs.YtaakhgjlekllgaaX
open Go.RowKit Go.Proofs.YtaakhgjlekllgaaW.PrintWords Go.Proofs.YtaakhgjlekllgaaW.PrintMore
theorem toList_length (s : ByteArray) : s.toList.length = s.size := by rw [ByteArray.toList_eq, Array.length_toList]; rfl
theorem toList_nil (s : ByteArray) : s.toList = [] ↔ s.size = 0 := by rw [← toList_length, List.length_eq_zero_iff]
theorem wrap_id {x : Int} (h0 : -9223372036854775808 ≤ x) (h1 : x ≤ 9223372036854775807) : wrap64 x = x := by unfold wrap64; omega
section
variable {α β : Type}
theorem Ev.pos {c : Prop} [Decidable c] {A B : Nat → Option α} {r : α} (h : c) (k : Ev A r) : Ev (fun n => if c then A n else B n) r := Ev.congr (fun _ => if_pos h) k
theorem Ev.neg {c : Prop} [Decidable c] {A B : Nat → Option α} {r : α} (h : ¬ c) (k : Ev B r) : Ev (fun n => if c then A n else B n) r := Ev.congr (fun _ => if_neg h) k
theorem Ev.ite {c : Prop} [Decidable c] {A B : Nat → Option α} {r : α} (h1 : c → Ev A r) (h2 : ¬ c → Ev B r) : Ev (fun n => if c then A n else B n) r := by
  by_cases h : c
  · exact Ev.pos h (h1 h)
  · exact Ev.neg h (h2 h)
theorem Ev.known {o : Option α} {f : Nat → α → Option β} {a : α} {r : β} (h : o = some a) (k : Ev (fun n => f n a) r) : Ev (fun n => o.bind (f n)) r := Ev.congr (fun n => by rw [h]; rfl) k
theorem Ev.is {o : Option α} {r : α} (h : o = some r) : Ev (fun _ => o) r := ⟨0, fun _ _ => h⟩
theorem Ev.eq {g : Nat → Option α} {r r' : α} (k : Ev g r) (h : r = r') : Ev g r' := h ▸ k
end
theorem wrap_succ {i n : Nat} (h : i < n) (hn : n ≤ 9223372036854775807) : wrap64 ((i : Int) + 1) = ((i + 1 : Nat) : Int) := by unfold wrap64; omega
def filled {α β : Type} (f : α → β) (z : β) (l : List α) (i : Nat) : List β := (l.take i).map f ++ List.replicate (l.length - i) z
end Go.Proofs.YtaakhgjlekllgaaX
namespace Go.Proofs.Ytaakhgjlekllgaa.Pure
open Go.RowKit Go.Proofs.YtaakhgjlekllgaaX Go.Proofs.Ytaakhgjlekllgaa.PRcs Go.Proofs.YtaakhgjlekllgaaW.PrintWords Go.Proofs.YtaakhgjlekllgaaW.PrintLast
def numF : Nat → Nat → List Int
  | 0, _ => []
  | n + 1, x => if 127 < x then ((x % 128 + 128 : Nat) : Int) :: numF n (x / 128) else [(x : Int)]
def numForm (x : Nat) : List Int := numF 10 x
theorem numF_length : ∀ n x, (numF n x).length ≤ n
  | 0, _ => by simp [numF]
  | n + 1, x => by
    unfold numF
    split
    · have := numF_length n (x / 128); simp; omega
    · simp
theorem numF_pos : ∀ n x, 1 ≤ (numF (n + 1) x).length := by
  intro n x
  unfold numF
  split <;> simp
theorem numF_range : ∀ n x, ∀ y ∈ numF n x, 0 ≤ y ∧ y ≤ 255
  | 0, _ => by simp [numF]
  | n + 1, x => by
    unfold numF
    intro y hy
    split at hy
    · rcases List.mem_cons.1 hy with h | h
      · omega
      · exact numF_range n _ y h
    · have : y = x := by simpa using hy
      omega
theorem numForm_length (x : Nat) : (numForm x).length ≤ 10 := numF_length 10 x
theorem numForm_range (x : Nat) : ∀ y ∈ numForm x, 0 ≤ y ∧ y ≤ 255 := numF_range 10 x
theorem and127 {x : Nat} (h : x ≤ 9223372036854775807) : Go.bits .and .i64 (x : Int) 127 = ((x % 128 : Nat) : Int) := by
  have := Go.bits_mask .i64 63 (by decide) (fun n a b => by rw [IntKind.wrap_i64]; omega) 7 (by decide) (x : Int) (by omega) (by omega)
  simpa using this
theorem or128 : ∀ m : Fin 128, Go.bits .or .i64 128 (m.val : Int) = ((m.val + 128 : Nat) : Int) := by decide +kernel
theorem num_loops : ∀ (n x : Nat) (acc : List Int), 1 ≤ n → x < 128 ^ n → n ≤ 10 → x ≤ 9223372036854775807 → acc.length + n < 140737488355328 →
    Ev (fun k => spec_PutNum.l0 k (x : Int) acc) (acc ++ numF n x) ∧ Ev (fun k => impl_putNum.l0 k acc (x : Int)) (acc ++ numF n x) := by
  intro n
  induction n with
  | zero =>
    intro x acc h0
    omega
  | succ n ih =>
    intro x acc _ h h10 hx hl
    by_cases h127 : 127 < x
    · have hd : x / 128 < 128 ^ n := by
        rw [Nat.div_lt_iff_lt_mul (by decide)]
        rwa [Nat.pow_succ] at h
      have hn1 : 1 ≤ n := by
        rcases Nat.eq_zero_or_pos n with h0 | h0
        · subst h0
          have : x < 128 := by simpa using h
          omega
        · exact h0
      obtain ⟨i1, i2⟩ := ih (x / 128) (acc ++ [((x % 128 + 128 : Nat) : Int)]) hn1 hd (by omega) (by omega) (by simp; omega)
      have e : numF (n + 1) x = ((x % 128 + 128 : Nat) : Int) :: numF n (x / 128) := by rw [numF, if_pos h127]
      rw [e]
      rw [List.append_assoc, List.singleton_append] at i1 i2
      constructor
      · refine Ev.step (fun k => spec_PutNum.l0.eq_2 (k := k) ..) (Ev.pos (by omega) (Ev.pos (by omega) ?_))
        have e1 : wrap64 (Int.tdiv (x : Int) 128) = ((x / 128 : Nat) : Int) := by
          rw [Int.tdiv_eq_ediv_of_nonneg (by omega), wrap_id (by omega) (by omega)]; omega
        have e2 : (wrap64 ((Int.tmod (x : Int) 128) + 128)) % 256 = ((x % 128 + 128 : Nat) : Int) := by
          rw [Int.tmod_eq_emod_of_nonneg (by omega), wrap_id (by omega) (by omega)]; omega
        rw [e1, e2]
        exact i1
      · refine Ev.step (fun k => impl_putNum.l0.eq_2 (k := k) ..) (Ev.pos (by omega) (Ev.pos (by omega) ?_))
        have e1 : (x : Int) / 128 = ((x / 128 : Nat) : Int) := by omega
        have e2 : (Go.bits .or .i64 128 (Go.bits .and .i64 (x : Int) 127)) % 256 = ((x % 128 + 128 : Nat) : Int) := by
          rw [and127 hx, or128 ⟨x % 128, Nat.mod_lt _ (by decide)⟩]
          simp only
          omega
        rw [e1, e2]
        exact i2
    · have e : numF (n + 1) x = [(x : Int)] := by rw [numF, if_neg h127]
      rw [e]
      constructor
      · refine Ev.step (fun k => spec_PutNum.l0.eq_2 (k := k) ..) (Ev.neg (by omega) (Ev.pos (by omega) (Ev.is ?_)))
        rw [show (x : Int) % 256 = (x : Int) by omega]
      · refine Ev.step (fun k => impl_putNum.l0.eq_2 (k := k) ..) (Ev.neg (by omega) (Ev.pos (by omega) (Ev.is ?_)))
        rw [show (x : Int) % 256 = (x : Int) by omega]
theorem spec_num {x : Nat} (hx : x ≤ 9223372036854775807) : Ev (fun k => spec_PutNum.f k (x : Int)) (numForm x) := by
  unfold spec_PutNum.f
  simp only [Option.bind_some]
  refine Ev.neg (by omega) ?_
  exact (num_loops 10 x [] (by omega) (by simp; omega) (by omega) hx (by simp)).1
theorem impl_num {x : Nat} (acc : List Int) (hx : x ≤ 9223372036854775807) (hl : acc.length ≤ 140737488355000) : Ev (fun k => impl_putNum.f k acc (x : Int)) (acc ++ numForm x) := by
  unfold impl_putNum.f
  exact (num_loops 10 x acc (by omega) (by simp; omega) (by omega) hx (by omega)).2
theorem spec_in (a b c : Int) : spec_l1In.f a b c = some (decide (b ≤ a ∧ a ≤ c)) := by
  unfold spec_l1In.f
  by_cases h : a ≥ b
  · rw [if_pos h]; by_cases h2 : a ≤ c
    · simp [h2, show b ≤ a from h]
    · simp [h2]
  · rw [if_neg h]; simp [show ¬ b ≤ a from h]
theorem impl_in (a b c : Int) : impl_inRange.f a b c = some (decide (b ≤ a ∧ a ≤ c)) := by
  unfold impl_inRange.f
  by_cases h : a ≥ b
  · rw [if_pos h]; by_cases h2 : a ≤ c
    · simp [h2, show b ≤ a from h]
    · simp [h2]
  · rw [if_neg h]; simp [show ¬ b ≤ a from h]
end Go.Proofs.Ytaakhgjlekllgaa.Pure
namespace Go.Proofs.Ytaakhgjlekllgaa.Pure
open Go.RowKit Go.Proofs.YtaakhgjlekllgaaX Go.Proofs.Ytaakhgjlekllgaa.PRcs Go.Proofs.YtaakhgjlekllgaaW.PrintWords Go.Proofs.YtaakhgjlekllgaaW.PrintLast
def urlFrom (s : ByteArray) : Nat → Nat → Bool
  | 0, _ => true
  | d + 1, i => if bt s (i : Int) < 33 then false else if bt s (i : Int) > 126 then false else urlFrom s d (i + 1)
def urlGood (s : ByteArray) : Bool := decide (1 ≤ (s.size : Int) ∧ (s.size : Int) ≤ 60) && urlFrom s s.size 0
theorem url_spec_from (s : ByteArray) (hn : s.size ≤ 140737488355328) : ∀ (d i : Nat), i + d = s.size → Ev (fun k => spec_UrlOk.l0 k s (i : Int)) (urlFrom s d i) := by
  intro d
  induction d with
  | zero => intro i hi; exact Ev.step (fun k => spec_UrlOk.l0.eq_2 (k := k) ..) (Ev.neg (by omega) (Ev.now _))
  | succ d ih =>
    intro i hi
    refine Ev.step (fun k => spec_UrlOk.l0.eq_2 (k := k) ..) (Ev.pos (by omega) (Ev.pos (by omega) ?_))
    unfold urlFrom
    by_cases h1 : bt s (i : Int) < 33
    · rw [if_pos h1]; exact Ev.pos h1 (Ev.now _)
    · rw [if_neg h1]
      refine Ev.neg h1 ?_
      by_cases h2 : bt s (i : Int) > 126
      · rw [if_pos h2]; exact Ev.pos h2 (Ev.now _)
      · rw [if_neg h2, wrap_succ (n := s.size) (by omega) (by omega)]; exact Ev.neg h2 (ih (i + 1) (by omega))
theorem url_impl_from (s : ByteArray) (hn : s.size ≤ 140737488355328) : ∀ (d i : Nat), i + d = s.size → Ev (fun k => impl_UrlOk.l0 k s (i : Int)) (urlFrom s d i && decide (1 ≤ (s.size : Int) ∧ (s.size : Int) ≤ 60)) := by
  intro d
  induction d with
  | zero => intro i hi; exact Ev.step (fun k => impl_UrlOk.l0.eq_2 (k := k) ..) (Ev.neg (by omega) (Ev.known (impl_in ..) (Ev.is (by simp [urlFrom]))))
  | succ d ih =>
    intro i hi
    refine Ev.step (fun k => impl_UrlOk.l0.eq_2 (k := k) ..) (Ev.pos (by omega) (Ev.pos (by omega) ?_))
    unfold urlFrom
    by_cases h1 : bt s (i : Int) < 33
    · rw [if_pos h1]; exact Ev.pos h1 (Ev.now _)
    · rw [if_neg h1]
      refine Ev.neg h1 ?_
      by_cases h2 : bt s (i : Int) > 126
      · rw [if_pos h2]; exact Ev.pos h2 (Ev.now _)
      · rw [if_neg h2, wrap_succ (n := s.size) (by omega) (by omega)]; exact Ev.neg h2 (ih (i + 1) (by omega))
theorem spec_url (s : ByteArray) (hn : s.size ≤ 140737488355328) : Ev (fun k => spec_UrlOk.f k s) (urlGood s) := by
  unfold spec_UrlOk.f urlGood
  refine Ev.known (spec_in ..) ?_
  by_cases h : 1 ≤ (s.size : Int) ∧ (s.size : Int) ≤ 60
  · exact Ev.pos (by simpa using h) (Ev.eq (url_spec_from s hn s.size 0 (by omega)) (by simp [h]))
  · exact Ev.neg (by simpa using h) (Ev.is (by simp [h]))
theorem impl_url (s : ByteArray) (hn : s.size ≤ 140737488355328) : Ev (fun k => impl_UrlOk.f k s) (urlGood s) := by
  unfold impl_UrlOk.f urlGood
  exact Ev.eq (url_impl_from s hn s.size 0 (by omega)) (Bool.and_comm ..)
theorem bytesOf_range (s : ByteArray) : ∀ y ∈ bytesOf s, 0 ≤ y ∧ y ≤ 255 := by
  intro y hy
  unfold bytesOf at hy
  obtain ⟨b, _, rfl⟩ := List.mem_map.1 hy
  have := b.toNat_lt
  omega
def textForm (s : ByteArray) : List Int := numForm s.size ++ bytesOf s
theorem textForm_length (s : ByteArray) : (textForm s).length ≤ s.size + 10 := by
  have := numForm_length s.size
  simp [textForm, bytesOf_length]; omega
theorem textForm_range (s : ByteArray) : ∀ y ∈ textForm s, 0 ≤ y ∧ y ≤ 255 := by
  intro y hy
  rcases List.mem_append.1 hy with h | h
  · exact numForm_range _ y h
  · exact bytesOf_range _ y h
theorem spec_text {s : ByteArray} (hn : s.size ≤ 140737488355000) : Ev (fun k => spec_PutText.f k s) (textForm s) := by
  have := numForm_length s.size
  unfold spec_PutText.f
  refine Ev.bind (spec_num (by omega)) (Ev.known (a := bytesOf s) ?_ (Ev.pos (by rw [bytesOf_length]; omega) (Ev.now _)))
  unfold xconv22.f xBytes
  rw [if_pos (by omega)]
theorem impl_text {s : ByteArray} (acc : List Int) (hn : s.size + acc.length ≤ 140737488355000) : Ev (fun k => impl_putText.f k acc s) (acc ++ textForm s) := by
  have := numForm_length s.size
  unfold impl_putText.f
  refine Ev.bind (impl_num acc (by omega) (by omega)) (Ev.pos (by simp; omega) (Ev.is ?_))
  rw [textForm, List.append_assoc]
def recForm (kind : Nat) (url body : ByteArray) : List Int := numForm kind ++ textForm url ++ (if kind = 1 then textForm body else [])
theorem recForm_length (kind : Nat) (url body : ByteArray) : (recForm kind url body).length ≤ 30 + url.size + body.size := by
  have h1 := numForm_length kind
  have h2 := textForm_length url
  have h3 := textForm_length body
  unfold recForm
  split <;> simp <;> omega
def recRight (kind : Int) (url body : ByteArray) : Bool := decide (kind = 1 ∨ kind = 2) && (urlGood url && !(decide (kind = 2) && (body.toList != ([] : List UInt8))))
def recPacked (kind : Int) (url body : ByteArray) : List Int × Bool := if recRight kind url body = true then (recForm kind.toNat url body, true) else ([], false)
theorem recPacked_length (kind : Int) (url body : ByteArray) : (recPacked kind url body).1.length ≤ 30 + url.size + body.size := by
  unfold recPacked
  split
  · exact recForm_length ..
  · simp
theorem spec_rec_j (kind : Int) (url body : ByteArray) (b : Bool) (hk : b = false → kind = 1 ∨ kind = 2) (hn : url.size + body.size ≤ 140737488354000) :
    Ev (fun k => spec_RecordPack.j0 k b kind url body) (if b = true then ([], false) else (recForm kind.toNat url body, true)) := by
  refine Ev.step (fun k => spec_RecordPack.j0.eq_2 (k := k) ..) ?_
  cases b with
  | true => exact Ev.pos rfl (Ev.now _)
  | false =>
    have hk := hk rfl
    have h1 := numForm_length kind.toNat
    have h0 := numForm_length 1
    have h2 := textForm_length url
    have h3 := textForm_length body
    have hs := spec_num (x := kind.toNat) (by omega)
    rw [Int.toNat_of_nonneg (by omega)] at hs
    refine Ev.neg (by simp) (Ev.bind hs (Ev.bind (spec_text (by omega)) (Ev.pos (by omega) (Ev.known rfl ?_))))
    rcases hk with rfl | rfl
    · refine Ev.pos rfl (Ev.bind (spec_text (by omega)) (Ev.pos (by simp; omega) (Ev.is ?_)))
      rfl
    · refine Ev.neg (by omega) (Ev.is ?_)
      simp [recForm]
theorem impl_rec_j (kind : Int) (url body : ByteArray) (b : Bool) (hk : b = false → kind = 1 ∨ kind = 2) (hn : url.size + body.size ≤ 140737488354000) :
    Ev (fun k => impl_RecordPack.j0 k b kind url body) (if b = true then ([], false) else (recForm kind.toNat url body, true)) := by
  refine Ev.step (fun k => impl_RecordPack.j0.eq_2 (k := k) ..) ?_
  cases b with
  | true => exact Ev.pos rfl (Ev.now _)
  | false =>
    have hk := hk rfl
    have h1 := numForm_length kind.toNat
    have h0 := numForm_length 1
    have h2 := textForm_length url
    have h3 := textForm_length body
    have hs := impl_num (x := kind.toNat) [] (by omega) (by simp)
    rw [Int.toNat_of_nonneg (by omega)] at hs
    refine Ev.neg (by simp) (Ev.bind hs (Ev.bind (impl_text _ (by simp; omega)) ?_))
    rcases hk with rfl | rfl
    · refine Ev.pos rfl (Ev.bind (impl_text _ (by simp; omega)) (Ev.is ?_))
      simp [recForm]
    · refine Ev.neg (by omega) (Ev.is ?_)
      simp [recForm]
theorem spec_rec (kind : Int) (url body : ByteArray) (hn : url.size + body.size ≤ 140737488354000) : Ev (fun k => spec_RecordPack.f k kind url body) (recPacked kind url body) := by
  unfold spec_RecordPack.f recPacked recRight
  have hu := spec_url url (by omega)
  by_cases h1 : kind = 1
  · refine Ev.pos h1 (Ev.bind hu ?_)
    cases hg : urlGood url with
    | true =>
      refine Ev.pos rfl (Ev.neg (by omega) (Ev.eq (spec_rec_j kind url body false (fun _ => .inl h1) hn) ?_))
      simp [h1]
    | false =>
      refine Ev.neg (by simp) (Ev.eq (spec_rec_j kind url body true (fun h => by cases h) hn) ?_)
      simp
  · refine Ev.neg h1 ?_
    by_cases h2 : kind = 2
    · refine Ev.pos h2 (Ev.bind hu ?_)
      cases hg : urlGood url with
      | true =>
        refine Ev.pos rfl (Ev.eq (spec_rec_j kind url body (body.toList != ([] : List UInt8)) (fun _ => .inr h2) hn) ?_)
        cases (body.toList != ([] : List UInt8)) <;> simp [h2]
      | false =>
        refine Ev.neg (by simp) (Ev.eq (spec_rec_j kind url body true (fun h => by cases h) hn) ?_)
        simp
    · refine Ev.neg h2 (Ev.eq (spec_rec_j kind url body true (fun h => by cases h) hn) ?_)
      simp [h1, h2]
theorem impl_rec (kind : Int) (url body : ByteArray) (hn : url.size + body.size ≤ 140737488354000) : Ev (fun k => impl_RecordPack.f k kind url body) (recPacked kind url body) := by
  unfold impl_RecordPack.f recPacked recRight
  have hu := impl_url url (by omega)
  refine Ev.known (impl_in ..) ?_
  by_cases h : kind = 1 ∨ kind = 2
  · refine Ev.pos (by simp; omega) (Ev.bind hu ?_)
    cases hg : urlGood url with
    | true =>
      refine Ev.pos rfl ?_
      by_cases h2 : kind = 2
      · refine Ev.pos h2 (Ev.eq (impl_rec_j kind url body (body.toList != ([] : List UInt8)) (fun _ => .inr h2) hn) ?_)
        cases (body.toList != ([] : List UInt8)) <;> simp [h2]
      · refine Ev.neg h2 (Ev.eq (impl_rec_j kind url body false (fun _ => h) hn) ?_)
        simp [show kind = 1 by omega]
    | false =>
      refine Ev.neg (by simp) (Ev.eq (impl_rec_j kind url body true (fun h => by cases h) hn) ?_)
      simp
  · refine Ev.neg (by simp; omega) (Ev.eq (impl_rec_j kind url body true (fun h => by cases h) hn) ?_)
    simp [h]
end Go.Proofs.Ytaakhgjlekllgaa.Pure
namespace Go.Proofs.Ytaakhgjlekllgaa.Pure
open Go.RowKit Go.Proofs.YtaakhgjlekllgaaX Go.Proofs.Ytaakhgjlekllgaa.PRcs Go.Proofs.YtaakhgjlekllgaaW.PrintWords Go.Proofs.YtaakhgjlekllgaaW.PrintLast Go.Proofs.YtaakhgjlekllgaaW.PrintMore
theorem or_comm (k : IntKind) (a b : Int) : Go.bits .or k a b = Go.bits .or k b a := by
  unfold Go.bits
  simp only [BitVec.or_comm]
def p128 : Nat → Nat
  | 0 => 1
  | k + 1 => 128 * p128 k
theorem pow_table : ∀ k : Fin 9, IntKind.u64.wrap (wrap64 (7 * (k.val : Int))) = ((7 * k.val : Nat) : Int) ∧ min (7 * k.val) IntKind.i64.bits = 7 * k.val ∧ (2 : Int) ^ (7 * k.val) = ((p128 k.val : Nat) : Int) ∧ p128 k.val ≤ 72057594037927936 ∧ 0 < p128 k.val ∧ 7 * k.val ≤ 63 := by decide +kernel
theorem small63 {p : Nat} (h : p ≤ 9151314442816847872) : (p : Int) < 2 ^ 63 := by omega
theorem join_step (i M x q : Nat) (hM : (2 : Int) ^ i = (M : Int)) (hM1 : M ≤ 72057594037927936) (hx : x < M) (hq : q ≤ 127) : Go.bits .or .i64 ((q * M : Nat) : Int) (x : Int) = ((q * M + x : Nat) : Int) := by
  have hp : q * M ≤ 9151314442816847872 := Nat.le_trans (Nat.mul_le_mul hq hM1) (by decide)
  have hdiv : ((q * M : Nat) : Int) % 2 ^ i = 0 := by rw [hM, Int.natCast_mul]; exact Int.mul_emod_left ..
  have hx2 : (x : Int) < 2 ^ i := by rw [hM]; exact Int.ofNat_lt.2 hx
  rw [Go.bits_join .i64 63 (by decide) (fun n a b => by rw [IntKind.wrap_i64]; omega) i _ _ (Int.natCast_nonneg _) hdiv (small63 hp) (Int.natCast_nonneg _) hx2 (small63 (Nat.le_trans (Nat.le_of_lt hx) (Nat.le_trans hM1 (by decide))))]
  exact (Int.natCast_add _ _).symm
theorem shl_step (i M q : Nat) (y : Int) (hy : y = (i : Int)) (hi : min i IntKind.i64.bits = i) (hM : (2 : Int) ^ i = (M : Int)) (hM1 : M ≤ 72057594037927936) (hq : q ≤ 127) : shl .i64 (q : Int) y = ((q * M : Nat) : Int) := by
  have hp : q * M ≤ 9151314442816847872 := Nat.le_trans (Nat.mul_le_mul hq hM1) (by decide)
  unfold shl
  rw [hy, Int.toNat_natCast, hi, hM, IntKind.wrap_i64, ← Int.natCast_mul]
  clear hM hi hy
  generalize q * M = p at hp
  omega
theorem unit_step (M x q : Nat) (hM1 : M ≤ 72057594037927936) (hx : x < M) (hq : q ≤ 127) : wrap64 ((x : Int) + wrap64 ((q : Int) * (M : Int))) = ((x + q * M : Nat) : Int) ∧ x + q * M < 128 * M := by
  have hp : q * M ≤ 127 * M := Nat.mul_le_mul_right _ hq
  rw [← Int.natCast_mul]
  generalize q * M = p at hp
  rw [wrap_id (x := (p : Int)) (by omega) (by omega), wrap_id (by omega) (by omega)]
  constructor <;> omega
theorem get_step {k x d : Nat} (hk : k ≤ 8) (hx : x < p128 k) (hd : d ≤ 255) :
    Go.bits .or .i64 (x : Int) (shl .i64 (Go.bits .and .i64 (d : Int) 127) (IntKind.u64.wrap (wrap64 (7 * (k : Int))))) = ((x + d % 128 * p128 k : Nat) : Int) ∧
    wrap64 ((x : Int) + wrap64 (Int.tmod (d : Int) 128 * ((p128 k : Nat) : Int))) = ((x + d % 128 * p128 k : Nat) : Int) ∧ x + d % 128 * p128 k < p128 (k + 1) ∧ p128 (k + 1) ≤ 9223372036854775808 := by
  obtain ⟨t1, t2, t3, t4, t5, t6⟩ := pow_table ⟨k, by omega⟩
  simp only at t1 t2 t3 t4 t5 t6
  have hdm : d % 128 ≤ 127 := Nat.le_of_lt_succ (Nat.mod_lt _ (by decide))
  obtain ⟨u1, u2⟩ := unit_step (p128 k) x (d % 128) t4 hx hdm
  refine ⟨?_, ?_, ?_, ?_⟩
  · rw [and127 (Nat.le_trans hd (by decide)), or_comm, shl_step (7 * k) (p128 k) (d % 128) _ t1 t2 t3 t4 hdm, join_step (7 * k) (p128 k) x (d % 128) t3 t4 hx hdm, Nat.add_comm]
  · rw [Int.tmod_eq_emod_of_nonneg (Int.natCast_nonneg _)]
    exact u1
  · exact u2
  · exact Nat.le_trans (Nat.mul_le_mul_left 128 t4) (by decide)
theorem sh_nonneg {k : Nat} (hk : k ≤ 8) : 0 ≤ IntKind.u64.wrap (wrap64 (7 * (k : Int))) := by
  have := (pow_table ⟨k, Nat.lt_succ_of_le hk⟩).1
  exact Int.le_trans (Int.natCast_nonneg (7 * k)) (Int.le_of_eq this.symm)
theorem rd_range {l : List Int} (hb : ∀ y ∈ l, 0 ≤ y ∧ y ≤ 255) (i : Nat) : 0 ≤ rd l (i : Int) ∧ rd l (i : Int) ≤ 255 := by
  unfold rd
  rw [Int.toNat_natCast, List.getD_eq_getElem?_getD]
  rcases h : l[i]? with _ | y
  · exact ⟨by decide, by decide⟩
  · exact hb y (List.mem_of_getElem? h)
def GetOk (l : List Int) (a : Int) (r : Int × Int × Bool) : Prop := (r.2.2 = false → r = (0, 0, false)) ∧ (r.2.2 = true → 0 ≤ r.1 ∧ r.1 ≤ 9223372036854775807 ∧ 0 ≤ a ∧ a < r.2.1 ∧ r.2.1 ≤ (l.length : Int))
theorem get_loops (P : Nat → Nat) (hP : P = p128) (l : List Int) (hl : l.length ≤ 140737488355328) (hb : ∀ y ∈ l, 0 ≤ y ∧ y ≤ 255) (a : Nat) (ha : a ≤ l.length) : ∀ (d k x : Nat) (u : Int), k + d = 9 → x < P k → (k ≤ 8 → u = ((P k : Nat) : Int)) →
    ∃ r : Int × Int × Bool, Ev (fun n => spec_GetNum.l0 n l (a : Int) (x : Int) u (k : Int)) r ∧ Ev (fun n => impl_GetNum.l0 n l ((a + k : Nat) : Int) (x : Int) (k : Int)) r ∧ GetOk l a r := by
  intro d
  induction d with
  | zero =>
    intro k x u hk hx hu
    refine ⟨(0, 0, false), ?_, ?_, fun _ => rfl, fun h => by cases h⟩
    · exact Ev.step (fun k => spec_GetNum.l0.eq_2 (k := k) ..) (Ev.neg (by omega) (Ev.step (fun k => spec_GetNum.j2.eq_2 (k := k) ..) (Ev.neg (by simp) (Ev.now _))))
    · exact Ev.step (fun k => impl_GetNum.l0.eq_2 (k := k) ..) (Ev.neg (by omega) (Ev.step (fun k => impl_GetNum.j1.eq_2 (k := k) ..) (Ev.neg (by simp) (Ev.now _))))
  | succ d ih =>
    intro k x u hk hx hu
    have hu := hu (by omega)
    have hw : Aside0 (wrap64 ((a : Int) + (k : Int)) = ((a + k : Nat) : Int)) := ⟨by rw [wrap_id (by omega) (by omega)]; omega⟩
    by_cases hin : a + k < l.length
    · obtain ⟨v, hv⟩ : ∃ v : Nat, rd l ((a + k : Nat) : Int) = (v : Int) := ⟨(rd l ((a + k : Nat) : Int)).toNat, by have := (rd_range hb (a + k)).1; omega⟩
      have hv2 : v ≤ 255 := by have := (rd_range hb (a + k)).2; omega
      have hwv : Aside0 (wrap64 (v : Int) = (v : Int)) := ⟨wrap_id (by omega) (by omega)⟩
      obtain ⟨s1, s2, s3, s4⟩ := get_step (k := k) (x := x) (d := v) (by omega) (by rw [← hP]; exact hx) hv2
      rw [← hP] at s1 s2 s3 s4
      obtain ⟨X, hX⟩ : ∃ X : Nat, X = x + v % 128 * P k := ⟨_, rfl⟩
      rw [← hX] at s1 s2 s3
      have hX := Aside0.mk hX
      have S1 := Aside0.mk s1
      have S2 := Aside0.mk s2
      clear s1 s2
      have hn : Aside0 (wrap64 (((a + k : Nat) : Int) + 1) = ((a + (k + 1) : Nat) : Int)) := ⟨by rw [wrap_id (by omega) (by omega)]; omega⟩
      have hk1 : Aside0 (wrap64 ((k : Int) + 1) = ((k + 1 : Nat) : Int)) := ⟨by rw [wrap_id (by omega) (by omega)]; omega⟩
      have hsh : Aside0 (0 ≤ IntKind.u64.wrap (wrap64 (7 * (k : Int)))) := Aside0.mk (sh_nonneg (by omega))
      have S : ∀ r : Int × Int × Bool, (v < 128 → v = 0 → 0 < k → r = ((0 : Int), (0 : Int), false)) → (v < 128 → ¬ (v = 0 ∧ 0 < k) → r = ((X : Int), ((a + (k + 1) : Nat) : Int), true)) →
          (¬ v < 128 → Ev (fun n => spec_GetNum.l0 n l (a : Int) (X : Int) (wrap64 (u * 128)) ((k + 1 : Nat) : Int)) r) → Ev (fun n => spec_GetNum.l0 n l (a : Int) (x : Int) u (k : Int)) r := by
        intro r h1 h2 h3
        refine Ev.step (fun k => spec_GetNum.l0.eq_2 (k := k) ..) (Ev.pos (by omega) (Ev.step (fun k => spec_GetNum.j2.eq_2 (k := k) ..) ?_))
        rw [hw.out, hv, hwv.out, hu, S2.out, hn.out, hk1.out, ← hu]
        refine Ev.pos (by simp; omega) (Ev.pos (by omega) (Ev.pos (by omega) ?_))
        by_cases c1 : v < 128
        · refine Ev.pos (by omega) ?_
          by_cases c2 : v = 0
          · refine Ev.pos (by omega) ?_
            by_cases c3 : 0 < k
            · exact Ev.pos (by omega) (Ev.eq (Ev.now _) (h1 c1 c2 c3).symm)
            · exact Ev.neg (by omega) (Ev.eq (Ev.now _) (h2 c1 (by omega)).symm)
          · exact Ev.neg (by omega) (Ev.eq (Ev.now _) (h2 c1 (by omega)).symm)
        · exact Ev.neg (by omega) (h3 c1)
      have I : ∀ r : Int × Int × Bool, (v < 128 → v = 0 → 0 < k → r = ((0 : Int), (0 : Int), false)) → (v < 128 → ¬ (v = 0 ∧ 0 < k) → r = ((X : Int), ((a + (k + 1) : Nat) : Int), true)) →
          (¬ v < 128 → Ev (fun n => impl_GetNum.l0 n l ((a + (k + 1) : Nat) : Int) (X : Int) ((k + 1 : Nat) : Int)) r) → Ev (fun n => impl_GetNum.l0 n l ((a + k : Nat) : Int) (x : Int) (k : Int)) r := by
        intro r h1 h2 h3
        refine Ev.step (fun k => impl_GetNum.l0.eq_2 (k := k) ..) (Ev.pos (by omega) (Ev.step (fun k => impl_GetNum.j1.eq_2 (k := k) ..) ?_))
        rw [hv, hwv.out, S1.out, hn.out, hk1.out]
        refine Ev.pos (by simp; omega) (Ev.pos (by omega) (Ev.pos (by omega) (Ev.pos hsh.out ?_)))
        by_cases c1 : v < 128
        · refine Ev.pos (by omega) ?_
          by_cases c2 : v = 0
          · refine Ev.pos (by omega) ?_
            by_cases c3 : 0 < k
            · exact Ev.pos (by omega) (Ev.eq (Ev.now _) (h1 c1 c2 c3).symm)
            · exact Ev.neg (by omega) (Ev.eq (Ev.now _) (h2 c1 (by omega)).symm)
          · exact Ev.neg (by omega) (Ev.eq (Ev.now _) (h2 c1 (by omega)).symm)
        · exact Ev.neg (by omega) (h3 c1)
      by_cases c1 : v < 128
      · by_cases c2 : v = 0 ∧ 0 < k
        · exact ⟨(0, 0, false), S _ (fun _ _ _ => rfl) (fun _ h => absurd c2 h) (fun h => absurd c1 h), I _ (fun _ _ _ => rfl) (fun _ h => absurd c2 h) (fun h => absurd c1 h), fun _ => rfl, fun h => by cases h⟩
        · refine ⟨((X : Int), ((a + (k + 1) : Nat) : Int), true), S _ (fun _ h h' => absurd ⟨h, h'⟩ c2) (fun _ _ => rfl) (fun h => absurd c1 h), I _ (fun _ h h' => absurd ⟨h, h'⟩ c2) (fun _ _ => rfl) (fun h => absurd c1 h), (fun h => by cases h), fun _ => ⟨?_, ?_, ?_, ?_, ?_⟩⟩
          · simp only; omega
          · simp only; omega
          · omega
          · simp only; omega
          · simp only; omega
      · obtain ⟨r, r1, r2, r3⟩ := ih (k + 1) X (wrap64 (u * 128)) (by omega) s3 (fun h8 => by
          have t4 := (pow_table ⟨k + 1, by omega⟩).2.2.2.1
          simp only at t4
          rw [← hP] at t4
          have e2 : u * 128 = ((P (k + 1) : Nat) : Int) := by
            rw [hu, show P (k + 1) = 128 * P k by rw [hP]; rfl]
            rw [Int.natCast_mul, Int.mul_comm]; rfl
          rw [e2, wrap_id (by omega) (by omega)])
        exact ⟨r, S r (fun h => absurd h c1) (fun h => absurd h c1) (fun _ => r1), I r (fun h => absurd h c1) (fun h => absurd h c1) (fun _ => r2), r3⟩
    · refine ⟨(0, 0, false), ?_, ?_, fun _ => rfl, fun h => by cases h⟩
      · refine Ev.step (fun k => spec_GetNum.l0.eq_2 (k := k) ..) (Ev.pos (by omega) (Ev.step (fun k => spec_GetNum.j2.eq_2 (k := k) ..) ?_))
        rw [hw.out]
        exact Ev.neg (by simp; omega) (Ev.now _)
      · exact Ev.step (fun k => impl_GetNum.l0.eq_2 (k := k) ..) (Ev.pos (by omega) (Ev.step (fun k => impl_GetNum.j1.eq_2 (k := k) ..) (Ev.neg (by simp; omega) (Ev.now _))))
theorem getNum (l : List Int) (hl : l.length ≤ 140737488355328) (hb : ∀ y ∈ l, 0 ≤ y ∧ y ≤ 255) (a : Int) : ∃ r, Ev (fun n => spec_GetNum.f n l a) r ∧ Ev (fun n => impl_GetNum.f n l a) r ∧ GetOk l a r := by
  unfold spec_GetNum.f impl_GetNum.f
  have hw : wrap64 ((l.length : Int) - 1) = (l.length : Int) - 1 := wrap_id (by omega) (by omega)
  have bad : (a < 0 ∨ a ≥ (l.length : Int)) → Ev (fun k => (impl_inRange.f a 0 (wrap64 ((l.length : Int) - 1))).bind fun t => if t = true then impl_GetNum.l0 k l a 0 0 else some (0, 0, false)) (0, 0, false) := by
    intro h
    refine Ev.known (impl_in ..) (Ev.neg ?_ (Ev.now _))
    rw [hw]; simp; omega
  by_cases h1 : a < 0
  · exact ⟨(0, 0, false), Ev.pos h1 (Ev.step (fun k => spec_GetNum.j0.eq_2 (k := k) ..) (Ev.pos rfl (Ev.now _))), bad (.inl h1), fun _ => rfl, fun h => by cases h⟩
  · by_cases h2 : a ≥ (l.length : Int)
    · exact ⟨(0, 0, false), Ev.neg h1 (Ev.step (fun k => spec_GetNum.j0.eq_2 (k := k) ..) (Ev.pos (by simpa using h2) (Ev.now _))), bad (.inr h2), fun _ => rfl, fun h => by cases h⟩
    · obtain ⟨n, rfl⟩ := Int.eq_ofNat_of_zero_le (show 0 ≤ a by omega)
      obtain ⟨r, r1, r2, r3⟩ := get_loops p128 rfl l hl hb n (by omega) 9 0 0 1 (by omega) (by decide) (fun _ => rfl)
      refine ⟨r, Ev.neg h1 (Ev.step (fun k => spec_GetNum.j0.eq_2 (k := k) ..) (Ev.neg (by simpa using h2) r1)), Ev.known (impl_in ..) (Ev.pos (by rw [hw]; simp; omega) ?_), r3⟩
      exact r2
end Go.Proofs.Ytaakhgjlekllgaa.Pure
namespace Go.Proofs.Ytaakhgjlekllgaa.Pure
open Go.RowKit Go.Proofs.YtaakhgjlekllgaaX Go.Proofs.Ytaakhgjlekllgaa.PRcs Go.Proofs.YtaakhgjlekllgaaW.PrintWords Go.Proofs.YtaakhgjlekllgaaW.PrintLast Go.Proofs.YtaakhgjlekllgaaW.PrintMore
def TextOk (l : List Int) (a : Int) (r : ByteArray × Int × Bool) : Prop := (r.2.2 = false → r = (⟨#[]⟩, 0, false)) ∧ (r.2.2 = true → 0 ≤ a ∧ a < r.2.1 ∧ r.2.1 ≤ (l.length : Int) ∧ r.1.size ≤ l.length)
theorem getText (l : List Int) (hl : l.length ≤ 140737488355328) (hb : ∀ y ∈ l, 0 ≤ y ∧ y ≤ 255) (a : Int) : ∃ r, Ev (fun n => spec_GetText.f n l a) r ∧ Ev (fun n => impl_GetText.f n l a) r ∧ TextOk l a r := by
  obtain ⟨⟨n, next, ok⟩, r1, r2, r3, r4⟩ := getNum l hl hb a
  unfold spec_GetText.f impl_GetText.f
  cases ok with
  | false => exact ⟨(⟨#[]⟩, 0, false), Ev.bind r1 (Ev.neg (by simp) (Ev.now _)), Ev.bind r2 (Ev.neg (by simp) (Ev.now _)), fun _ => rfl, fun h => by cases h⟩
  | true =>
    obtain ⟨q1, q2, q3, q4, q5⟩ := r4 rfl
    simp only at q1 q2 q4 q5
    have hw : wrap64 ((l.length : Int) - next) = (l.length : Int) - next := wrap_id (by omega) (by omega)
    by_cases c : n > (l.length : Int) - next
    · refine ⟨(⟨#[]⟩, 0, false), Ev.bind r1 (Ev.pos rfl (Ev.pos ?_ (Ev.now _))), Ev.bind r2 (Ev.pos rfl (Ev.pos ?_ (Ev.now _))), fun _ => rfl, fun h => by cases h⟩
      · simp only; rw [hw]; exact c
      · simp only; rw [hw]; exact c
    · have hw2 : wrap64 (next + n) = next + n := wrap_id (by omega) (by omega)
      refine ⟨(strOfNums ((l.take (next + n).toNat).drop next.toNat), next + n, true), ?_, ?_, (fun h => by cases h), fun _ => ⟨?_, ?_, ?_, ?_⟩⟩
      · refine Ev.bind r1 (Ev.pos rfl (Ev.neg ?_ (Ev.pos ?_ (Ev.pos ?_ (Ev.pos ?_ (Ev.is ?_))))))
        · simp only; rw [hw]; exact c
        · simp only; omega
        · simp only; rw [hw2]; omega
        · simp only; rw [hw2]; omega
        · simp only; rw [hw2]
      · refine Ev.bind r2 (Ev.pos rfl (Ev.neg ?_ (Ev.pos ?_ (Ev.pos ?_ (Ev.pos ?_ (Ev.is ?_))))))
        · simp only; rw [hw]; exact c
        · simp only; omega
        · simp only; rw [hw2]; omega
        · simp only; rw [hw2]; omega
        · simp only; rw [hw2]
      · exact q3
      · simp only; omega
      · simp only; omega
      · simp only; rw [strOfNums_size]; simp; omega
end Go.Proofs.Ytaakhgjlekllgaa.Pure
namespace Go.Proofs.Ytaakhgjlekllgaa.Pure
open Go.RowKit Go.Proofs.YtaakhgjlekllgaaX Go.Proofs.Ytaakhgjlekllgaa.PRcs Go.Proofs.YtaakhgjlekllgaaW.PrintWords Go.Proofs.YtaakhgjlekllgaaW.PrintLast
def ReadOk (l : List Int) (a : Int) (r : Int × ByteArray × ByteArray × Int × Bool) : Prop :=
  (r.2.2.2.2 = false → r = (0, ⟨#[]⟩, ⟨#[]⟩, 0, false)) ∧ (r.2.2.2.2 = true → 0 ≤ a ∧ a < r.2.2.2.1 ∧ r.2.2.2.1 ≤ (l.length : Int) ∧ r.2.1.size ≤ l.length ∧ r.2.2.1.size ≤ l.length ∧ recRight r.1 r.2.1 r.2.2.1 = true)
theorem readBoth (l : List Int) (hl : l.length ≤ 70368744177000) (hb : ∀ y ∈ l, 0 ≤ y ∧ y ≤ 255) (a : Int) :
    ∃ r, Ev (fun n => spec_RecordRead.f n l a) r ∧ Ev (fun n => impl_RecordRead.f n l a) r ∧ ReadOk l a r := by
  have none_ok : ReadOk l a (0, ⟨#[]⟩, ⟨#[]⟩, 0, false) := ⟨fun _ => rfl, fun h => by cases h⟩
  have e0 : (⟨#[]⟩ : ByteArray).size = 0 := rfl
  obtain ⟨⟨kind, at1, ok1⟩, s1, i1, p1, p2⟩ := getNum l (by omega) hb a
  unfold spec_RecordRead.f impl_RecordRead.f impl_getter_num.f
  cases ok1 with
  | false =>
    obtain ⟨⟨u, at2, ok2⟩, s2, i2, _, _⟩ := getText l (by omega) hb a
    have hr := impl_rec 0 (⟨#[]⟩ : ByteArray) (⟨#[]⟩ : ByteArray) (by omega)
    refine ⟨_, Ev.bind s1 (Ev.neg (by simp) (Ev.now _)), ?_, none_ok⟩
    refine Ev.bind (Ev.bind i1 (Ev.neg (by simp) (Ev.neg (by simp) (Ev.now _)))) ?_
    unfold impl_getter_text.f
    exact Ev.bind (Ev.bind i2 (Ev.pos rfl (Ev.now _))) (Ev.neg (by simp) (Ev.bind hr (Ev.pos rfl (Ev.now _))))
  | true =>
    obtain ⟨q1, q2, q3, q4, q5⟩ := p2 rfl
    simp only at q1 q2 q4 q5
    obtain ⟨⟨u, at2, ok2⟩, s2, i2, p3, p4⟩ := getText l (by omega) hb at1
    have I1 : Ev (fun k => (impl_GetNum.f k l a).bind fun bt => if false = true then some (0, a, true) else if bt.2.2 = true then some (bt.1, bt.2.1, false) else some (0, a, true)) (kind, at1, false) :=
      Ev.bind i1 (Ev.neg (by simp) (Ev.pos rfl (Ev.now _)))
    unfold impl_getter_text.f
    cases ok2 with
    | false =>
      refine ⟨_, Ev.bind s1 (Ev.pos rfl (Ev.bind s2 (Ev.neg (by simp) (Ev.now _)))), ?_, none_ok⟩
      refine Ev.bind I1 (Ev.bind (a := ((⟨#[]⟩ : ByteArray), at1, true)) (Ev.bind i2 (Ev.neg (by simp) (Ev.neg (by simp) (Ev.now _)))) ?_)
      refine Ev.ite (fun hk => ?_) (fun hk => ?_)
      · refine Ev.bind (a := ((⟨#[]⟩ : ByteArray), at1, true)) (Ev.bind i2 (Ev.pos rfl (Ev.now _))) ?_
        exact Ev.bind (impl_rec kind (⟨#[]⟩ : ByteArray) (⟨#[]⟩ : ByteArray) (by omega)) (Ev.pos rfl (Ev.now _))
      · exact Ev.bind (impl_rec kind (⟨#[]⟩ : ByteArray) (⟨#[]⟩ : ByteArray) (by omega)) (Ev.pos rfl (Ev.now _))
    | true =>
      obtain ⟨t1, t2, t3, t4⟩ := p4 rfl
      simp only at t2 t3 t4
      have I2 : Ev (fun k => (impl_GetText.f k l at1).bind fun bt => if false = true then some ((⟨#[]⟩ : ByteArray), at1, true) else if bt.2.2 = true then some (bt.1, bt.2.1, false) else some ((⟨#[]⟩ : ByteArray), at1, true)) (u, at2, false) :=
        Ev.bind i2 (Ev.neg (by simp) (Ev.pos rfl (Ev.now _)))
      by_cases hk : kind = 1
      · obtain ⟨⟨b, at3, ok3⟩, s3, i3, p5, p6⟩ := getText l (by omega) hb at2
        cases ok3 with
        | false =>
          refine ⟨_, Ev.bind s1 (Ev.pos rfl (Ev.bind s2 (Ev.pos rfl (Ev.pos hk (Ev.bind s3 (Ev.neg (by simp) (Ev.now _))))))), ?_, none_ok⟩
          refine Ev.bind I1 (Ev.bind I2 (Ev.pos hk (Ev.bind (a := ((⟨#[]⟩ : ByteArray), at2, true)) (Ev.bind i3 (Ev.neg (by simp) (Ev.neg (by simp) (Ev.now _)))) ?_)))
          exact Ev.bind (impl_rec kind u (⟨#[]⟩ : ByteArray) (by omega)) (Ev.pos rfl (Ev.now _))
        | true =>
          obtain ⟨v1, v2, v3, v4⟩ := p6 rfl
          simp only at v2 v3 v4
          have hs := spec_rec kind u b (by omega)
          have hi := impl_rec kind u b (by omega)
          have I3 : Ev (fun k => (impl_GetText.f k l at2).bind fun bt => if false = true then some ((⟨#[]⟩ : ByteArray), at2, true) else if bt.2.2 = true then some (bt.1, bt.2.1, false) else some ((⟨#[]⟩ : ByteArray), at2, true)) (b, at3, false) :=
            Ev.bind i3 (Ev.neg (by simp) (Ev.pos rfl (Ev.now _)))
          by_cases hg : recRight kind u b = true
          · have hp : (recPacked kind u b).2 = true := by unfold recPacked; rw [if_pos hg]
            exact ⟨(kind, u, b, at3, true), Ev.bind s1 (Ev.pos rfl (Ev.bind s2 (Ev.pos rfl (Ev.pos hk (Ev.bind s3 (Ev.pos rfl (Ev.bind hs (Ev.pos hp (Ev.now _))))))))), Ev.bind I1 (Ev.bind I2 (Ev.pos hk (Ev.bind I3 (Ev.bind hi (Ev.neg (by simp) (Ev.pos hp (Ev.now _))))))), (fun h => by cases h), fun _ => ⟨q3, by simp only; omega, by simp only; omega, t4, v4, hg⟩⟩
          · have hp : ¬ (recPacked kind u b).2 = true := by unfold recPacked; rw [if_neg hg]; simp
            exact ⟨_, Ev.bind s1 (Ev.pos rfl (Ev.bind s2 (Ev.pos rfl (Ev.pos hk (Ev.bind s3 (Ev.pos rfl (Ev.bind hs (Ev.neg hp (Ev.now _))))))))), Ev.bind I1 (Ev.bind I2 (Ev.pos hk (Ev.bind I3 (Ev.bind hi (Ev.neg (by simp) (Ev.neg hp (Ev.now _))))))), none_ok⟩
      · have hs := spec_rec kind u (⟨#[]⟩ : ByteArray) (by omega)
        have hi := impl_rec kind u (⟨#[]⟩ : ByteArray) (by omega)
        by_cases hg : recRight kind u (⟨#[]⟩ : ByteArray) = true
        · have hp : (recPacked kind u (⟨#[]⟩ : ByteArray)).2 = true := by unfold recPacked; rw [if_pos hg]
          exact ⟨(kind, u, ⟨#[]⟩, at2, true), Ev.bind s1 (Ev.pos rfl (Ev.bind s2 (Ev.pos rfl (Ev.neg hk (Ev.bind hs (Ev.pos hp (Ev.now _))))))), Ev.bind I1 (Ev.bind I2 (Ev.neg hk (Ev.bind hi (Ev.neg (by simp) (Ev.pos hp (Ev.now _)))))), (fun h => by cases h), fun _ => ⟨q3, by simp only; omega, by simp only; omega, t4, by simp only; omega, hg⟩⟩
        · have hp : ¬ (recPacked kind u (⟨#[]⟩ : ByteArray)).2 = true := by unfold recPacked; rw [if_neg hg]; simp
          exact ⟨_, Ev.bind s1 (Ev.pos rfl (Ev.bind s2 (Ev.pos rfl (Ev.neg hk (Ev.bind hs (Ev.neg hp (Ev.now _))))))), Ev.bind I1 (Ev.bind I2 (Ev.neg hk (Ev.bind hi (Ev.neg (by simp) (Ev.neg hp (Ev.now _)))))), none_ok⟩
end Go.Proofs.Ytaakhgjlekllgaa.Pure
namespace Go.Proofs.Ytaakhgjlekllgaa.PRcs
open Go.RowKit Go.Proofs.YtaakhgjlekllgaaW.PrintWords Go.Proofs.YtaakhgjlekllgaaW.PrintLast Go.Proofs.YtaakhgjlekllgaaW.PrintMore Go.Proofs.YtaakhgjlekllgaaX
attribute [local go_sem] max2_int min2_int max_two min_two max_three min_three max_four min_four   -- for this text's walks alone
set_option linter.unusedVariables false
set_option linter.unusedSimpArgs false
end Go.Proofs.Ytaakhgjlekllgaa.PRcs
namespace Go.Proofs.Ytaakhgjlekllgaa.Pure
open Go.RowKit Go.Proofs.YtaakhgjlekllgaaX Go.Proofs.Ytaakhgjlekllgaa.PRcs Go.Proofs.YtaakhgjlekllgaaW.PrintWords Go.Proofs.YtaakhgjlekllgaaW.PrintLast
theorem Ev.uniq {α : Type} {g : Nat → Option α} {a b : α} (h : Ev g a) (k : Ev g b) : a = b := by
  obtain ⟨K, hK⟩ := h
  obtain ⟨L, hL⟩ := k
  have h1 := hK (max K L) (Nat.le_max_left ..)
  rw [hL (max K L) (Nat.le_max_right ..)] at h1
  exact (Option.some.inj h1).symm
end Go.Proofs.Ytaakhgjlekllgaa.Pure
namespace Go.Proofs.Ytaakhgjlekllgaa.PRcs
open Go.RowKit Go.Proofs.YtaakhgjlekllgaaW.PrintWords Go.Proofs.YtaakhgjlekllgaaW.PrintLast Go.Proofs.YtaakhgjlekllgaaW.PrintMore Go.Proofs.YtaakhgjlekllgaaX
attribute [local go_sem] max2_int min2_int max_two min_two max_three min_three max_four min_four   -- for this text's walks alone
set_option linter.unusedVariables false
set_option linter.unusedSimpArgs false
end Go.Proofs.Ytaakhgjlekllgaa.PRcs
namespace Go.Proofs.Ytaakhgjlekllgaa.PRcs
open Go.RowKit Go.Proofs.YtaakhgjlekllgaaW.PrintWords Go.Proofs.YtaakhgjlekllgaaW.PrintLast Go.Proofs.YtaakhgjlekllgaaW.PrintMore Go.Proofs.YtaakhgjlekllgaaX
attribute [local go_sem] max2_int min2_int max_two min_two max_three min_three max_four min_four   -- for this text's walks alone
set_option linter.unusedVariables false
set_option linter.unusedSimpArgs false
end Go.Proofs.Ytaakhgjlekllgaa.PRcs
namespace Go.Proofs.Ytaakhgjlekllgaa.PRcs
open Go.RowKit Go.Proofs.YtaakhgjlekllgaaW.PrintWords Go.Proofs.YtaakhgjlekllgaaW.PrintLast Go.Proofs.YtaakhgjlekllgaaW.PrintMore Go.Proofs.YtaakhgjlekllgaaX
attribute [local go_sem] max2_int min2_int max_two min_two max_three min_three max_four min_four   -- for this text's walks alone
set_option linter.unusedVariables false
set_option linter.unusedSimpArgs false
end Go.Proofs.Ytaakhgjlekllgaa.PRcs
namespace Go.Proofs.Ytaakhgjlekllgaa.PRcs
open Go.RowKit Go.Proofs.YtaakhgjlekllgaaW.PrintWords Go.Proofs.YtaakhgjlekllgaaW.PrintLast Go.Proofs.YtaakhgjlekllgaaW.PrintMore Go.Proofs.YtaakhgjlekllgaaX
attribute [local go_sem] max2_int min2_int max_two min_two max_three min_three max_four min_four   -- for this text's walks alone
set_option linter.unusedVariables false
set_option linter.unusedSimpArgs false
end Go.Proofs.Ytaakhgjlekllgaa.PRcs
namespace Go.Proofs.Ytaakhgjlekllgaa.Pure
open Go.RowKit Go.Proofs.YtaakhgjlekllgaaX Go.Proofs.Ytaakhgjlekllgaa.PRcs Go.Proofs.YtaakhgjlekllgaaW.PrintWords Go.Proofs.YtaakhgjlekllgaaW.PrintLast
theorem rdR_get (l : List S25) {i : Nat} (h : i < l.length) : rd_T25 l (i : Int) = l[i] := by simp [rd_T25, List.getD, h]
end Go.Proofs.Ytaakhgjlekllgaa.Pure
namespace Go.Proofs.Ytaakhgjlekllgaa.Pure
open Go.RowKit Go.Proofs.YtaakhgjlekllgaaX Go.Proofs.Ytaakhgjlekllgaa.PRcs Go.Proofs.YtaakhgjlekllgaaW.PrintWords Go.Proofs.YtaakhgjlekllgaaW.PrintLast
def At (l : List Int) (a : Int) (form : List Int) (b : Int) : Prop := 0 ≤ a ∧ b = a + (form.length : Int) ∧ l.drop a.toNat = form ++ l.drop b.toNat
theorem At.cat {l : List Int} {a b c : Int} {f g : List Int} (h : At l a f b) (k : At l b g c) : At l a (f ++ g) c := by
  obtain ⟨h0, h1, h2⟩ := h
  obtain ⟨_, k1, k2⟩ := k
  refine ⟨h0, by rw [List.length_append]; omega, ?_⟩
  rw [h2, k2, List.append_assoc]
theorem At.split {l : List Int} {a c : Int} {f g : List Int} (h : At l a (f ++ g) c) : At l a f (a + (f.length : Int)) ∧ At l (a + (f.length : Int)) g c := by
  obtain ⟨h0, h1, h2⟩ := h
  have e : l.drop (a + (f.length : Int)).toNat = g ++ l.drop c.toNat := by
    rw [show (a + (f.length : Int)).toNat = a.toNat + f.length by omega, ← List.drop_drop, h2, List.append_assoc, List.drop_left]
  refine ⟨⟨h0, rfl, ?_⟩, by omega, ?_, e⟩
  · rw [e, h2, List.append_assoc]
  · rw [h1, List.length_append]; omega
theorem At.le {l : List Int} {a b : Int} {f : List Int} (h : At l a f b) (hf : f ≠ []) : b ≤ (l.length : Int) := by
  obtain ⟨h0, h1, h2⟩ := h
  have e := congrArg List.length h2
  rw [List.length_append, List.length_drop, List.length_drop] at e
  have : 0 < f.length := List.length_pos_iff.2 hf
  omega
theorem At.cut {l : List Int} {a b : Int} {f : List Int} (h : At l a f b) : (l.take b.toNat).drop a.toNat = f := by
  obtain ⟨h0, h1, h2⟩ := h
  rw [List.drop_take, h2, show b.toNat - a.toNat = f.length by omega, List.take_left]
theorem At.of_cut (l : List Int) {a b : Int} (h0 : 0 ≤ a) (h1 : a ≤ b) (h2 : b ≤ (l.length : Int)) : At l a ((l.take b.toNat).drop a.toNat) b := by
  refine ⟨h0, by simp; omega, ?_⟩
  rw [List.drop_take]
  conv => lhs; rw [← List.take_append_drop (b.toNat - a.toNat) (l.drop a.toNat)]
  rw [List.drop_drop, show a.toNat + (b.toNat - a.toNat) = b.toNat by omega]
theorem p128_succ (k : Nat) : p128 (k + 1) = 128 * p128 k := rfl
theorem num_step (l : List Int) (hl : l.length ≤ 140737488355328) (a k x v : Nat) (u : Int) (hk : k ≤ 8) (hx : x < p128 k) (hu : u = ((p128 k : Nat) : Int)) (hv2 : v ≤ 255) (hin : a + k < l.length) (hv : rd l ((a + k : Nat) : Int) = (v : Int)) (r : Int × Int × Bool)
    (h1 : v < 128 → v = 0 → 0 < k → r = ((0 : Int), (0 : Int), false)) (h2 : v < 128 → ¬ (v = 0 ∧ 0 < k) → r = (((x + v % 128 * p128 k : Nat) : Int), ((a + (k + 1) : Nat) : Int), true))
    (h3 : ¬ v < 128 → Ev (fun n => spec_GetNum.l0 n l (a : Int) ((x + v % 128 * p128 k : Nat) : Int) (wrap64 (u * 128)) ((k + 1 : Nat) : Int)) r) : Ev (fun n => spec_GetNum.l0 n l (a : Int) (x : Int) u (k : Int)) r := by
  have hw : Aside0 (wrap64 ((a : Int) + (k : Int)) = ((a + k : Nat) : Int)) := ⟨by rw [wrap_id (by omega) (by omega)]; omega⟩
  have hwv : Aside0 (wrap64 (v : Int) = (v : Int)) := ⟨wrap_id (by omega) (by omega)⟩
  obtain ⟨_, s2, _, _⟩ := get_step (k := k) (x := x) (d := v) hk hx hv2
  generalize hX : x + v % 128 * p128 k = X at s2 h2 h3
  have hX := Aside0.mk hX
  have S2 := Aside0.mk s2
  clear s2
  generalize hP : p128 k = P at hu hx S2
  have hP := Aside0.mk hP
  have hn : Aside0 (wrap64 (((a + k : Nat) : Int) + 1) = ((a + (k + 1) : Nat) : Int)) := ⟨by rw [wrap_id (by omega) (by omega)]; omega⟩
  have hk1 : Aside0 (wrap64 ((k : Int) + 1) = ((k + 1 : Nat) : Int)) := ⟨by rw [wrap_id (by omega) (by omega)]; omega⟩
  refine Ev.step (fun k => spec_GetNum.l0.eq_2 (k := k) ..) (Ev.pos (by omega) (Ev.step (fun k => spec_GetNum.j2.eq_2 (k := k) ..) ?_))
  rw [hw.out, hv, hwv.out, hu, S2.out, hn.out, hk1.out, ← hu]
  refine Ev.pos (by simp; omega) (Ev.pos (by omega) (Ev.pos (by omega) ?_))
  by_cases c1 : v < 128
  · refine Ev.pos (by omega) ?_
    by_cases c2 : v = 0
    · refine Ev.pos (by omega) ?_
      by_cases c3 : 0 < k
      · exact Ev.pos (by omega) (Ev.eq (Ev.now _) (h1 c1 c2 c3).symm)
      · exact Ev.neg (by omega) (Ev.eq (Ev.now _) (h2 c1 (by omega)).symm)
    · exact Ev.neg (by omega) (Ev.eq (Ev.now _) (h2 c1 (by omega)).symm)
  · exact Ev.neg (by omega) (h3 c1)
theorem unit_next {k : Nat} (hk : k + 1 ≤ 8) {u : Int} (hu : u = ((p128 k : Nat) : Int)) : wrap64 (u * 128) = ((p128 (k + 1) : Nat) : Int) := by
  have t4 := (pow_table ⟨k + 1, by omega⟩).2.2.2.1
  simp only at t4
  have e2 : u * 128 = ((p128 (k + 1) : Nat) : Int) := by
    rw [hu, p128_succ, Int.natCast_mul, Int.mul_comm]; rfl
  rw [e2, wrap_id (by omega) (by omega)]
theorem num_join {x y P v y' : Nat} (hv : v % 128 = y % 128) (hy : y' = y / 128) : x + v % 128 * P + y' * (128 * P) = x + y * P := by
  have : y = y % 128 + 128 * (y / 128) := by omega
  rw [hv, hy, ← Nat.mul_assoc, Nat.add_assoc, ← Nat.add_mul]
  congr 2
  omega
theorem drop_cons {l : List Int} {i : Nat} {v : Int} {t : List Int} (h : l.drop i = v :: t) : i < l.length ∧ rd l (i : Int) = v ∧ l.drop (i + 1) = t := by
  have hi : i < l.length := by
    rcases Nat.lt_or_ge i l.length with hi | hi
    · exact hi
    · rw [List.drop_eq_nil_of_le hi] at h; cases h
  rw [List.drop_eq_getElem_cons hi] at h
  injection h with h1 h2
  exact ⟨hi, by simp [rd, List.getD, hi, h1], h2⟩
theorem num_fwd (l : List Int) (hl : l.length ≤ 140737488355328) (rest : List Int) (a : Nat) : ∀ (d k x y : Nat) (u : Int), k + d = 9 → x < p128 k → (k ≤ 8 → u = ((p128 k : Nat) : Int)) → y < 128 ^ d → (k = 0 ∨ 0 < y) → l.drop (a + k) = numF (d + 1) y ++ rest →
    Ev (fun n => spec_GetNum.l0 n l (a : Int) (x : Int) u (k : Int)) (((x + y * p128 k : Nat) : Int), ((a + k + (numF (d + 1) y).length : Nat) : Int), true) := by
  intro d
  induction d with
  | zero =>
    intro k x y u hk hx hu hy h0
    have : y = 0 := by simpa using hy
    omega
  | succ d ih =>
    intro k x y u hk hx hu hy h0 hd
    have hu := hu (by omega)
    by_cases h127 : 127 < y
    · have e : numF (d + 1 + 1) y = ((y % 128 + 128 : Nat) : Int) :: numF (d + 1) (y / 128) := by rw [numF, if_pos h127]
      rw [e, List.cons_append] at hd
      obtain ⟨g1, g2, g3⟩ := drop_cons hd
      have hyd : y / 128 < 128 ^ d := by
        rw [Nat.div_lt_iff_lt_mul (by decide)]
        rwa [Nat.pow_succ] at hy
      have g4 := (get_step (k := k) (x := x) (d := y % 128 + 128) (by omega) hx (by omega)).2.2.1
      have hv : (y % 128 + 128) % 128 = y % 128 := by omega
      have hi := ih (k + 1) (x + (y % 128 + 128) % 128 * p128 k) (y / 128) (wrap64 (u * 128)) (by omega) g4 (fun h8 => unit_next h8 hu) hyd (.inr (by omega)) (by rw [show a + (k + 1) = a + k + 1 by omega]; exact g3)
      rw [p128_succ, num_join hv rfl] at hi
      refine num_step l hl a k x (y % 128 + 128) u (by omega) hx hu (by omega) g1 g2 _ (by omega) (by omega) (fun _ => ?_)
      rw [e, List.length_cons, show a + k + ((numF (d + 1) (y / 128)).length + 1) = a + (k + 1) + (numF (d + 1) (y / 128)).length by omega]
      exact hi
    · have e : numF (d + 1 + 1) y = [(y : Int)] := by rw [numF, if_neg h127]
      rw [e, List.singleton_append] at hd
      obtain ⟨g1, g2, g3⟩ := drop_cons hd
      refine num_step l hl a k x y u (by omega) hx hu (by omega) g1 g2 _ (by omega) (fun _ _ => ?_) (by omega)
      rw [e, List.length_singleton, Nat.mod_eq_of_lt (show y < 128 by omega)]
      rfl
theorem num_bwd (l : List Int) (hl : l.length ≤ 140737488355328) (hb : ∀ y ∈ l, 0 ≤ y ∧ y ≤ 255) (a : Nat) (ha : a ≤ l.length) : ∀ (d k x : Nat) (u : Int), k + d = 9 → x < p128 k → (k ≤ 8 → u = ((p128 k : Nat) : Int)) →
    ∃ r : Int × Int × Bool, Ev (fun n => spec_GetNum.l0 n l (a : Int) (x : Int) u (k : Int)) r ∧ (r.2.2 = true → ∃ y, (k = 0 ∨ 0 < y) ∧ r.1 = ((x + y * p128 k : Nat) : Int) ∧ r.2.1 = ((a + k + (numF (d + 1) y).length : Nat) : Int) ∧ l.drop (a + k) = numF (d + 1) y ++ l.drop (a + k + (numF (d + 1) y).length)) := by
  intro d
  induction d with
  | zero =>
    intro k x u hk hx hu
    exact ⟨(0, 0, false), Ev.step (fun k => spec_GetNum.l0.eq_2 (k := k) ..) (Ev.neg (by omega) (Ev.step (fun k => spec_GetNum.j2.eq_2 (k := k) ..) (Ev.neg (by simp) (Ev.now _)))), fun h => by cases h⟩
  | succ d ih =>
    intro k x u hk hx hu
    have hu := hu (by omega)
    by_cases hin : a + k < l.length
    · obtain ⟨v, hv⟩ : ∃ v : Nat, rd l ((a + k : Nat) : Int) = (v : Int) := ⟨(rd l ((a + k : Nat) : Int)).toNat, by have := (rd_range hb (a + k)).1; omega⟩
      have hv2 : v ≤ 255 := by have := (rd_range hb (a + k)).2; omega
      have hdr : l.drop (a + k) = (v : Int) :: l.drop (a + k + 1) := by
        have e : rd l ((a + k : Nat) : Int) = l[a + k] := by
          unfold rd
          rw [Int.toNat_natCast]
          simp [List.getD, hin]
        rw [List.drop_eq_getElem_cons hin, ← hv, e]
      by_cases c1 : v < 128
      · by_cases c2 : v = 0 ∧ 0 < k
        · exact ⟨(0, 0, false), num_step l hl a k x v u (by omega) hx hu hv2 hin hv _ (fun _ _ _ => rfl) (fun _ h => absurd c2 h) (fun h => absurd c1 h), fun h => by cases h⟩
        · have e : numF (d + 1 + 1) v = [(v : Int)] := by rw [numF, if_neg (by omega)]
          refine ⟨_, num_step l hl a k x v u (by omega) hx hu hv2 hin hv _ (fun _ h h' => absurd ⟨h, h'⟩ c2) (fun _ _ => rfl) (fun h => absurd c1 h), fun _ => ⟨v, by omega, ?_, ?_, ?_⟩⟩
          · rw [Nat.mod_eq_of_lt c1]
          · rw [e]; rfl
          · rw [e]; exact hdr
      · have g4 := (get_step (k := k) (x := x) (d := v) (by omega) hx hv2).2.2.1
        obtain ⟨r, r1, r2⟩ := ih (k + 1) (x + v % 128 * p128 k) (wrap64 (u * 128)) (by omega) g4 (fun h8 => unit_next h8 hu)
        refine ⟨r, num_step l hl a k x v u (by omega) hx hu hv2 hin hv _ (fun h => absurd h c1) (fun h => absurd h c1) (fun _ => r1), fun h => ?_⟩
        obtain ⟨y, y0, y1, y2, y3⟩ := r2 h
        have y0 : 0 < y := by omega
        have e : numF (d + 1 + 1) (v % 128 + 128 * y) = (v : Int) :: numF (d + 1) y := by
          rw [numF, if_pos (by omega), show (v % 128 + 128 * y) % 128 + 128 = v by omega, show (v % 128 + 128 * y) / 128 = y by omega]
        refine ⟨v % 128 + 128 * y, .inr (by omega), ?_, ?_, ?_⟩
        · rw [y1, p128_succ, num_join (y := v % 128 + 128 * y) (by omega) (by omega)]
        · rw [y2, e, List.length_cons]
          congr 1
          omega
        · rw [e, List.length_cons, hdr, List.cons_append, show a + k + 1 = a + (k + 1) by omega, y3]
          congr 3
          omega
    · refine ⟨(0, 0, false), Ev.step (fun k => spec_GetNum.l0.eq_2 (k := k) ..) (Ev.pos (by omega) (Ev.step (fun k => spec_GetNum.j2.eq_2 (k := k) ..) ?_)), fun h => by cases h⟩
      rw [wrap_id (by omega) (by omega)]
      exact Ev.neg (by simp; omega) (Ev.now _)
theorem pow128 : (128 : Nat) ^ 9 = 9223372036854775808 := by decide
theorem getNum_fwd (l : List Int) (hl : l.length ≤ 140737488355328) {a b : Int} {y : Nat} (hy : y ≤ 9223372036854775807) (h : At l a (numForm y) b) : Ev (fun n => spec_GetNum.f n l a) ((y : Int), b, true) := by
  have hne : numForm y ≠ [] := fun e => by have := numF_pos 9 y; rw [show numF (9 + 1) y = numForm y from rfl, e] at this; simp at this
  have hle := h.le hne
  have hpos : 0 < (numForm y).length := List.length_pos_iff.2 hne
  obtain ⟨h0, h1, h2⟩ := h
  obtain ⟨n, rfl⟩ := Int.eq_ofNat_of_zero_le h0
  have := num_fwd l hl (l.drop b.toNat) n 9 0 0 y 1 (by omega) (by decide) (fun _ => rfl) (by rw [pow128]; omega) (.inl rfl) h2
  unfold spec_GetNum.f
  refine Ev.neg (by omega) (Ev.step (fun k => spec_GetNum.j0.eq_2 (k := k) ..) (Ev.neg (by simp; omega) (Ev.eq this ?_)))
  rw [h1]
  simp [p128, numForm]
theorem getNum_bwd (l : List Int) (hl : l.length ≤ 140737488355328) (hb : ∀ y ∈ l, 0 ≤ y ∧ y ≤ 255) (a : Int) : ∃ r, Ev (fun n => spec_GetNum.f n l a) r ∧ (r.2.2 = true → ∃ y : Nat, r.1 = (y : Int) ∧ At l a (numForm y) r.2.1) := by
  unfold spec_GetNum.f
  by_cases h1 : a < 0
  · exact ⟨(0, 0, false), Ev.pos h1 (Ev.step (fun k => spec_GetNum.j0.eq_2 (k := k) ..) (Ev.pos rfl (Ev.now _))), fun h => by cases h⟩
  · by_cases h2 : a ≥ (l.length : Int)
    · exact ⟨(0, 0, false), Ev.neg h1 (Ev.step (fun k => spec_GetNum.j0.eq_2 (k := k) ..) (Ev.pos (by simpa using h2) (Ev.now _))), fun h => by cases h⟩
    · obtain ⟨n, rfl⟩ := Int.eq_ofNat_of_zero_le (show 0 ≤ a by omega)
      obtain ⟨r, r1, r2⟩ := num_bwd l hl hb n (by omega) 9 0 0 1 (by omega) (by decide) (fun _ => rfl)
      refine ⟨r, Ev.neg h1 (Ev.step (fun k => spec_GetNum.j0.eq_2 (k := k) ..) (Ev.neg (by simpa using h2) r1)), fun h => ?_⟩
      obtain ⟨y, _, y1, y2, y3⟩ := r2 h
      refine ⟨y, ?_, by omega, ?_, ?_⟩
      · rw [y1]; simp [p128]
      · rw [y2]; simp [numForm]
      · rw [y2]; exact y3
theorem str_back (s : ByteArray) : strOfNums (bytesOf s) = s := by
  cases s with | mk s =>
  unfold strOfNums bytesOf
  congr 1
  rw [List.map_map]
  have : ((fun n : Int => UInt8.ofNat n.toNat) ∘ fun b : UInt8 => (b.toNat : Int)) = id := by
    funext b
    simp
  rw [this, List.map_id]
theorem bytes_back (l : List Int) (hb : ∀ y ∈ l, 0 ≤ y ∧ y ≤ 255) : bytesOf (strOfNums l) = l := by
  unfold strOfNums bytesOf
  simp only [List.map_map]
  conv => rhs; rw [← List.map_id l]
  apply List.map_congr_left
  intro y hy
  have := hb y hy
  simp
  omega
theorem getText_fwd (l : List Int) (hl : l.length ≤ 140737488355328) {a b : Int} {s : ByteArray} (h : At l a (textForm s) b) : Ev (fun n => spec_GetText.f n l a) (s, b, true) := by
  have hne : textForm s ≠ [] := fun e => by
    have := numF_pos 9 s.size
    have e2 := congrArg List.length e
    rw [textForm, List.length_append, show numForm s.size = numF (9 + 1) s.size from rfl] at e2
    simp only [List.length_nil] at e2
    omega
  have hle := h.le hne
  obtain ⟨h1, h2⟩ := At.split h
  have hlen := bytesOf_length s
  have hb := h2.2.1
  rw [hlen] at hb
  have hc := h2.cut
  have hn1 := h1.1
  obtain ⟨m, hm⟩ : ∃ m, a + ((numForm s.size).length : Int) = m := ⟨_, rfl⟩
  rw [hm] at h1 h2 hb hc
  have hm0 : 0 ≤ m := h2.1
  have hg := getNum_fwd l hl (y := s.size) (by omega) h1
  unfold spec_GetText.f
  have hw : wrap64 ((l.length : Int) - m) = (l.length : Int) - m := wrap_id (by omega) (by omega)
  have hw2 : wrap64 (m + (s.size : Int)) = b := by rw [wrap_id (by omega) (by omega), hb]
  refine Ev.bind hg (Ev.pos rfl (Ev.neg ?_ (Ev.pos ?_ (Ev.pos ?_ (Ev.pos ?_ (Ev.is ?_))))))
  · simp only; rw [hw]; omega
  · simp only; omega
  · simp only; rw [hw2]; omega
  · simp only; rw [hw2]; omega
  · simp only; rw [hw2, hc, str_back]
theorem getText_bwd (l : List Int) (hl : l.length ≤ 140737488355328) (hb : ∀ y ∈ l, 0 ≤ y ∧ y ≤ 255) (a : Int) : ∃ r, Ev (fun n => spec_GetText.f n l a) r ∧ (r.2.2 = true → At l a (textForm r.1) r.2.1) := by
  obtain ⟨⟨n, next, ok⟩, r1, r2⟩ := getNum_bwd l hl hb a
  unfold spec_GetText.f
  cases ok with
  | false => exact ⟨(⟨#[]⟩, 0, false), Ev.bind r1 (Ev.neg (by simp) (Ev.now _)), fun h => by cases h⟩
  | true =>
    obtain ⟨y, q1, q2⟩ := r2 rfl
    simp only at q1 q2
    subst q1
    have hne : numForm y ≠ [] := fun e => by have := numF_pos 9 y; rw [show numF (9 + 1) y = numForm y from rfl, e] at this; simp at this
    have hle := q2.le hne
    have h0 := q2.1
    have h1 := q2.2.1
    have hw : wrap64 ((l.length : Int) - next) = (l.length : Int) - next := wrap_id (by omega) (by omega)
    by_cases c : (y : Int) > (l.length : Int) - next
    · refine ⟨(⟨#[]⟩, 0, false), Ev.bind r1 (Ev.pos rfl (Ev.pos ?_ (Ev.now _))), fun h => by cases h⟩
      simp only; rw [hw]; exact c
    · have hw2 : wrap64 (next + (y : Int)) = next + (y : Int) := wrap_id (by omega) (by omega)
      have hcut := At.of_cut l (a := next) (b := next + (y : Int)) (by omega) (by omega) (by omega)
      have hbs := bytes_back ((l.take (next + (y : Int)).toNat).drop next.toNat) (fun z hz => hb z (List.mem_of_mem_take (List.mem_of_mem_drop hz)))
      refine ⟨(strOfNums ((l.take (next + (y : Int)).toNat).drop next.toNat), next + (y : Int), true), ?_, fun _ => ?_⟩
      · refine Ev.bind r1 (Ev.pos rfl (Ev.neg ?_ (Ev.pos ?_ (Ev.pos ?_ (Ev.pos ?_ (Ev.is ?_))))))
        · simp only; rw [hw]; exact c
        · simp only; omega
        · simp only; rw [hw2]; omega
        · simp only; rw [hw2]; omega
        · simp only; rw [hw2]
      · have hsz : (strOfNums ((l.take (next + (y : Int)).toNat).drop next.toNat)).size = y := by
          rw [strOfNums_size]; simp; omega
        show At l a (textForm (strOfNums ((l.take (next + (y : Int)).toNat).drop next.toNat))) (next + (y : Int))
        unfold textForm
        rw [hsz, hbs]
        exact q2.cat hcut
theorem recRight_kind {kind : Int} {u b : ByteArray} (h : recRight kind u b = true) : (kind = 1 ∨ kind = 2) ∧ (kind = 2 → b = ⟨#[]⟩) := by
  unfold recRight at h
  rw [Bool.and_eq_true, Bool.and_eq_true] at h
  obtain ⟨h1, _, h2⟩ := h
  refine ⟨by simpa using h1, fun hk => ?_⟩
  rw [hk] at h2
  have : b.toList = [] := by simpa using h2
  rw [toList_nil] at this
  cases b with | mk b =>
  congr 1
  exact Array.eq_empty_of_size_eq_zero this
theorem read_fwd (l : List Int) (hl : l.length ≤ 140737488354000) {a c : Int} {kind : Int} {u b : ByteArray} (hr : recRight kind u b = true) (hs : u.size + b.size ≤ 140737488354000) (h : At l a (recForm kind.toNat u b) c) : Ev (fun n => spec_RecordRead.f n l a) (kind, u, b, c, true) := by
  obtain ⟨hk, hk2⟩ := recRight_kind hr
  have hp : (recPacked kind u b).2 = true := by unfold recPacked; rw [if_pos hr]
  have hsp := spec_rec kind u b hs
  unfold recForm at h
  obtain ⟨h1, h2⟩ := At.split h
  obtain ⟨h1, h3⟩ := At.split h1
  have g1 := getNum_fwd l (by omega) (y := kind.toNat) (by omega) h1
  rw [Int.toNat_of_nonneg (by omega)] at g1
  have g2 := getText_fwd l (by omega) h3
  unfold spec_RecordRead.f
  rcases hk with rfl | rfl
  · have h2 : At l _ (textForm b) c := h2
    exact Ev.bind g1 (Ev.pos rfl (Ev.bind g2 (Ev.pos rfl (Ev.pos rfl (Ev.bind (getText_fwd l (by omega) h2) (Ev.pos rfl (Ev.bind hsp (Ev.pos hp (Ev.now _)))))))))
  · obtain rfl := hk2 rfl
    have h2 : At l _ ([] : List Int) c := h2
    have e := h2.2.1
    simp only [List.length_nil] at e
    have e : c = a + ((numForm (2 : Int).toNat ++ textForm u).length : Int) := by omega
    subst e
    exact Ev.bind g1 (Ev.pos rfl (Ev.bind g2 (Ev.pos rfl (Ev.neg (by simp) (Ev.bind hsp (Ev.pos hp (Ev.now _)))))))
theorem read_bwd (l : List Int) (hl : l.length ≤ 70368744177000) (hb : ∀ y ∈ l, 0 ≤ y ∧ y ≤ 255) (a : Int) :
    ∃ r, Ev (fun n => spec_RecordRead.f n l a) r ∧ (r.2.2.2.2 = true → recRight r.1 r.2.1 r.2.2.1 = true ∧ At l a (recForm r.1.toNat r.2.1 r.2.2.1) r.2.2.2.1) := by
  have e0 : (⟨#[]⟩ : ByteArray).size = 0 := rfl
  have tsz : ∀ (s : ByteArray) (x y : Int), At l x (textForm s) y → s.size ≤ l.length := by
    intro s x y h
    have e := congrArg List.length h.2.2
    rw [List.length_append, textForm, List.length_append, bytesOf_length, List.length_drop] at e
    omega
  obtain ⟨⟨kind, at1, ok1⟩, s1, p1⟩ := getNum_bwd l (by omega) hb a
  unfold spec_RecordRead.f
  cases ok1 with
  | false => exact ⟨_, Ev.bind s1 (Ev.neg (by simp) (Ev.now _)), fun h => by cases h⟩
  | true =>
    obtain ⟨y, q1, q2⟩ := p1 rfl
    simp only at q1 q2
    subst q1
    obtain ⟨⟨u, at2, ok2⟩, s2, p2⟩ := getText_bwd l (by omega) hb at1
    cases ok2 with
    | false => exact ⟨_, Ev.bind s1 (Ev.pos rfl (Ev.bind s2 (Ev.neg (by simp) (Ev.now _)))), fun h => by cases h⟩
    | true =>
      have q3 := p2 rfl
      simp only at q3
      have hu := tsz _ _ _ q3
      by_cases hk : (y : Int) = 1
      · obtain ⟨⟨b, at3, ok3⟩, s3, p3⟩ := getText_bwd l (by omega) hb at2
        cases ok3 with
        | false => exact ⟨_, Ev.bind s1 (Ev.pos rfl (Ev.bind s2 (Ev.pos rfl (Ev.pos hk (Ev.bind s3 (Ev.neg (by simp) (Ev.now _))))))), fun h => by cases h⟩
        | true =>
          have q4 := p3 rfl
          simp only at q4
          have hb' := tsz _ _ _ q4
          have hs := spec_rec (y : Int) u b (by omega)
          by_cases hg : recRight (y : Int) u b = true
          · have hp : (recPacked (y : Int) u b).2 = true := by unfold recPacked; rw [if_pos hg]
            refine ⟨((y : Int), u, b, at3, true), Ev.bind s1 (Ev.pos rfl (Ev.bind s2 (Ev.pos rfl (Ev.pos hk (Ev.bind s3 (Ev.pos rfl (Ev.bind hs (Ev.pos hp (Ev.now _))))))))), fun _ => ⟨hg, ?_⟩⟩
            simp only
            rw [Int.toNat_natCast]
            unfold recForm
            rw [if_pos (by omega)]
            exact (q2.cat q3).cat q4
          · have hp : ¬ (recPacked (y : Int) u b).2 = true := by unfold recPacked; rw [if_neg hg]; simp
            exact ⟨_, Ev.bind s1 (Ev.pos rfl (Ev.bind s2 (Ev.pos rfl (Ev.pos hk (Ev.bind s3 (Ev.pos rfl (Ev.bind hs (Ev.neg hp (Ev.now _))))))))), fun h => by cases h⟩
      · have hs := spec_rec (y : Int) u (⟨#[]⟩ : ByteArray) (by omega)
        by_cases hg : recRight (y : Int) u (⟨#[]⟩ : ByteArray) = true
        · have hp : (recPacked (y : Int) u (⟨#[]⟩ : ByteArray)).2 = true := by unfold recPacked; rw [if_pos hg]
          refine ⟨((y : Int), u, ⟨#[]⟩, at2, true), Ev.bind s1 (Ev.pos rfl (Ev.bind s2 (Ev.pos rfl (Ev.neg hk (Ev.bind hs (Ev.pos hp (Ev.now _))))))), fun _ => ⟨hg, ?_⟩⟩
          simp only
          rw [Int.toNat_natCast]
          unfold recForm
          rw [if_neg (by omega), List.append_nil]
          exact q2.cat q3
        · have hp : ¬ (recPacked (y : Int) u (⟨#[]⟩ : ByteArray)).2 = true := by unfold recPacked; rw [if_neg hg]; simp
          exact ⟨_, Ev.bind s1 (Ev.pos rfl (Ev.bind s2 (Ev.pos rfl (Ev.neg hk (Ev.bind hs (Ev.neg hp (Ev.now _))))))), fun h => by cases h⟩
end Go.Proofs.Ytaakhgjlekllgaa.Pure
namespace Go.Proofs.Ytaakhgjlekllgaa.Pure
open Go.RowKit Go.Proofs.YtaakhgjlekllgaaX Go.Proofs.Ytaakhgjlekllgaa.PRcs Go.Proofs.YtaakhgjlekllgaaW.PrintWords Go.Proofs.YtaakhgjlekllgaaW.PrintLast
theorem and255 (x : Int) : 0 ≤ Go.bits .and .i64 x 255 ∧ Go.bits .and .i64 x 255 ≤ 255 := by
  unfold Go.bits
  have h : (BitVec.ofInt IntKind.i64.bits x &&& BitVec.ofInt IntKind.i64.bits 255).toNat ≤ 255 := by
    rw [BitVec.toNat_and]
    exact Nat.le_trans Nat.and_le_right (by decide)
  simp only
  generalize (BitVec.ofInt IntKind.i64.bits x &&& BitVec.ofInt IntKind.i64.bits 255).toNat = n at h
  rw [IntKind.wrap_i64]
  omega
section
variable (l : List Int) (hl : l.length ≤ 1048576)
include hl
theorem drawByte (p s : Int) (hp : 0 ≤ p) : ∃ v q t, spec_l1Byte.f l p s = some (v, q, t) ∧ 0 ≤ v ∧ v ≤ 255 ∧ 0 ≤ q := by
  unfold spec_l1Byte.f
  by_cases h : p < (l.length : Int)
  · rw [if_pos h, if_pos hp]
    refine ⟨_, _, _, rfl, (and255 _).1, (and255 _).2, ?_⟩
    rw [wrap_id (by omega) (by omega)]
    omega
  · rw [if_neg h]
    exact ⟨_, _, _, rfl, (and255 _).1, (and255 _).2, hp⟩
theorem drawBelow (p s n : Int) (hp : 0 ≤ p) (hn : 1 ≤ n) : ∃ v q t, spec_l1Below.f l p s n = some (v, q, t) ∧ 0 ≤ v ∧ v < n ∧ 0 ≤ q := by
  unfold spec_l1Below.f
  rw [if_neg (by omega)]
  have key : ∀ x : Int, 0 ≤ x → 0 ≤ Int.tmod x n ∧ Int.tmod x n < n := fun x hx => ⟨Int.tmod_nonneg n hx, Int.tmod_lt_of_pos x (by omega)⟩
  split
  · obtain ⟨v, q, t, e, h0, h1, h2⟩ := drawByte l hl p s hp
    rw [e]
    simp only [Option.bind_some]
    rw [if_neg (by omega)]
    exact ⟨_, _, _, rfl, (key v h0).1, (key v h0).2, h2⟩
  · obtain ⟨v1, q1, t1, e1, h10, h11, h12⟩ := drawByte l hl p s hp
    obtain ⟨v2, q2, t2, e2, h20, h21, h22⟩ := drawByte l hl q1 t1 h12
    obtain ⟨v3, q3, t3, e3, h30, h31, h32⟩ := drawByte l hl q2 t2 h22
    obtain ⟨v4, q4, t4, e4, h40, h41, h42⟩ := drawByte l hl q3 t3 h32
    rw [e1]; simp only [Option.bind_some]
    rw [e2]; simp only [Option.bind_some]
    rw [e3]; simp only [Option.bind_some]
    rw [e4]; simp only [Option.bind_some]
    rw [if_neg (by omega)]
    have w1 : wrap64 (v1 * 16777216) = v1 * 16777216 := wrap_id (by omega) (by omega)
    have w2 : wrap64 (v2 * 65536) = v2 * 65536 := wrap_id (by omega) (by omega)
    have w3 : wrap64 (v3 * 256) = v3 * 256 := wrap_id (by omega) (by omega)
    rw [w1, w2, w3]
    clear w1 w2 w3
    rw [wrap_id (x := v1 * 16777216 + v2 * 65536) (by omega) (by omega)]
    rw [wrap_id (x := v1 * 16777216 + v2 * 65536 + v3 * 256) (by omega) (by omega)]
    rw [wrap_id (x := v1 * 16777216 + v2 * 65536 + v3 * 256 + v4) (by omega) (by omega)]
    have := key (v1 * 16777216 + v2 * 65536 + v3 * 256 + v4) (by omega)
    exact ⟨_, _, _, rfl, this.1, this.2, h42⟩
theorem drawOnce (p s n : Int) (hp : 0 ≤ p) (hn : 1 ≤ n) : ∃ v q t, spec_l1Once.f l p s n = some (v, q, t) ∧ 0 ≤ q := by
  obtain ⟨v, q, t, e, _, _, h⟩ := drawBelow l hl p s n hp hn
  unfold spec_l1Once.f
  rw [e]
  exact ⟨_, _, _, rfl, h⟩
theorem drawNews : ∀ (d i : Nat) (s : Int), l.length ≤ i + d → ∃ t, Ev (fun k => spec_l1New.l0 k l s (i : Int)) (l, 0, t) := by
  intro d
  induction d with
  | zero => intro i s hi; exact ⟨_, Ev.step (fun k => spec_l1New.l0.eq_2 (k := k) ..) (Ev.neg (by omega) (Ev.now _))⟩
  | succ d ih =>
    intro i s hi
    by_cases h1 : i < l.length
    · by_cases h2 : i < 4000
      · obtain ⟨t, ht⟩ := ih (i + 1) (Go.bits .and .i64 (wrap64 ((wrap64 ((wrap64 (s * 131)) + (wrap64 (rd l (i : Int))))) + 7)) 1073741823) (by omega)
        refine ⟨t, Ev.step (fun k => spec_l1New.l0.eq_2 (k := k) ..) (Ev.pos (by omega) (Ev.pos (by omega) (Ev.pos (by omega) ?_)))⟩
        rw [wrap_succ h1 (by omega)]
        exact ht
      · exact ⟨_, Ev.step (fun k => spec_l1New.l0.eq_2 (k := k) ..) (Ev.pos (by omega) (Ev.neg (by omega) (Ev.now _)))⟩
    · exact ⟨_, Ev.step (fun k => spec_l1New.l0.eq_2 (k := k) ..) (Ev.neg (by omega) (Ev.now _))⟩
theorem drawNew : ∃ t, Ev (fun k => spec_l1New.f k l) (l, 0, t) := drawNews l hl l.length 0 _ (by omega)
end
end Go.Proofs.Ytaakhgjlekllgaa.Pure
namespace Go.Proofs.Ytaakhgjlekllgaa.Pure
open Go.RowKit Go.Proofs.YtaakhgjlekllgaaX Go.Proofs.Ytaakhgjlekllgaa.PRcs Go.Proofs.YtaakhgjlekllgaaW.PrintWords Go.Proofs.YtaakhgjlekllgaaW.PrintLast
section
variable (l : List Int) (hl : l.length ≤ 1048576)
include hl
theorem drawPick (p s : Int) (r : List ByteArray) (hp : 0 ≤ p) (hr : 1 ≤ r.length) : ∃ v q t, spec_l1Pick.f l p s r = some (v, q, t) ∧ v ∈ r ∧ 0 ≤ q := by
  obtain ⟨v, q, t, e, h0, h1, h2⟩ := drawBelow l hl p s (r.length : Int) hp (by omega)
  unfold spec_l1Pick.f
  rw [e]
  simp only [Option.bind_some]
  rw [if_pos h0, if_pos h1]
  refine ⟨_, _, _, rfl, ?_, h2⟩
  unfold rdOf
  have : v.toNat < r.length := by omega
  simp [List.getD, this]
theorem drawPickInt (p s : Int) (r : List Int) (hp : 0 ≤ p) (hr : 1 ≤ r.length) : ∃ v q t, spec_l1PickInt.f l p s r = some (v, q, t) ∧ v ∈ r ∧ 0 ≤ q := by
  obtain ⟨v, q, t, e, h0, h1, h2⟩ := drawBelow l hl p s (r.length : Int) hp (by omega)
  unfold spec_l1PickInt.f
  rw [e]
  simp only [Option.bind_some]
  rw [if_pos h0, if_pos h1]
  refine ⟨_, _, _, rfl, ?_, h2⟩
  unfold rd
  have : v.toNat < r.length := by omega
  simp [List.getD, this]
def Bytes (r : List Int) : Prop := ∀ y ∈ r, 0 ≤ y ∧ y ≤ 255
theorem drawBytess (n : Int) (hn : n ≤ 1048576) : ∀ (d : Nat) (i : Nat) (acc : List Int) (p s : Int), n ≤ (i : Int) + d → acc.length = i → Bytes acc → 0 ≤ p → (i : Int) ≤ n → ∃ r q t, Ev (fun k => spec_l1DrawBytes.l0 k acc n (i : Int) l p s) (r, q, t) ∧ (r.length : Int) ≤ n ∧ Bytes r ∧ 0 ≤ q := by
  intro d
  induction d with
  | zero => intro i acc p s hi ha hb hp hle; exact ⟨_, _, _, Ev.step (fun k => spec_l1DrawBytes.l0.eq_2 (k := k) ..) (Ev.neg (by omega) (Ev.now _)), by omega, hb, hp⟩
  | succ d ih =>
    intro i acc p s hi ha hb hp hle
    by_cases h : (i : Int) < n
    · obtain ⟨v, q, t, e, h0, h1, h2⟩ := drawByte l hl p s hp
      obtain ⟨r, q', t', hr, h3, h4, h5⟩ := ih (i + 1) (acc ++ [v % 256]) q t (by omega) (by simp [ha]) (by
        intro y hy
        rcases List.mem_append.1 hy with hy | hy
        · exact hb y hy
        · have : y = v % 256 := by simpa using hy
          omega) h2 (by omega)
      refine ⟨r, q', t', Ev.step (fun k => spec_l1DrawBytes.l0.eq_2 (k := k) ..) (Ev.pos h (Ev.known e (Ev.pos (by omega) ?_))), h3, h4, h5⟩
      rw [wrap_succ (i := i) (n := 1048576) (by omega) (by omega)]
      exact hr
    · exact ⟨_, _, _, Ev.step (fun k => spec_l1DrawBytes.l0.eq_2 (k := k) ..) (Ev.neg h (Ev.now _)), by omega, hb, hp⟩
theorem drawBytes (p s n : Int) (hp : 0 ≤ p) (h0 : 0 ≤ n) (hn : n ≤ 1048576) : ∃ r q t, Ev (fun k => spec_l1DrawBytes.f k l p s n) (r, q, t) ∧ (r.length : Int) ≤ n ∧ Bytes r ∧ 0 ≤ q := by
  obtain ⟨v, q, t, e, e0, e1, e2⟩ := drawBelow l hl p s (wrap64 (n + 1)) hp (by rw [wrap_id (by omega) (by omega)]; omega)
  rw [wrap_id (x := n + 1) (by omega) (by omega)] at e1
  obtain ⟨r, q', t', hr, h3, h4, h5⟩ := drawBytess l hl v (by omega) v.toNat 0 [] q t (by omega) rfl (by intro y hy; cases hy) e2 (by omega)
  exact ⟨r, q', t', Ev.known e hr, by omega, h4, h5⟩
end
end Go.Proofs.Ytaakhgjlekllgaa.Pure
namespace Go.Proofs.Ytaakhgjlekllgaa.Pure
open Go.RowKit Go.Proofs.YtaakhgjlekllgaaX Go.Proofs.Ytaakhgjlekllgaa.PRcs Go.Proofs.YtaakhgjlekllgaaW.PrintWords Go.Proofs.YtaakhgjlekllgaaW.PrintLast
section
variable (l : List Int) (hl : l.length ≤ 1048576)
include hl
theorem drawUrl (p s : Int) (hp : 0 ≤ p) : ∃ v q t, spec_l17DrawUrl.f l p s = some (v, q, t) ∧ v.size ≤ 61 ∧ 0 ≤ q := by
  obtain ⟨b, q, t, e, h⟩ := drawOnce l hl p s 15 hp (by omega)
  unfold spec_l17DrawUrl.f
  rw [e]
  simp only [Option.bind_some]
  split
  · obtain ⟨v, q', t', e', hv, h'⟩ := drawPick l hl q t ([(⟨#[]⟩ : ByteArray), (⟨#[97, 32, 98]⟩ : ByteArray), (⟨#[195, 169]⟩ : ByteArray), (⟨#[48, 49, 50, 51, 52, 53, 54, 55, 56, 57, 48, 49, 50, 51, 52, 53, 54, 55, 56, 57, 48, 49, 50, 51, 52, 53, 54, 55, 56, 57, 48, 49, 50, 51, 52, 53, 54, 55, 56, 57, 48, 49, 50, 51, 52, 53, 54, 55, 56, 57, 48, 49, 50, 51, 52, 53, 54, 55, 56, 57, 48]⟩ : ByteArray), (⟨#[48, 49, 50, 51, 52, 53, 54, 55, 56, 57, 48, 49, 50, 51, 52, 53, 54, 55, 56, 57, 48, 49, 50, 51, 52, 53, 54, 55, 56, 57, 48, 49, 50, 51, 52, 53, 54, 55, 56, 57, 48, 49, 50, 51, 52, 53, 54, 55, 56, 57, 48, 49, 50, 51, 52, 53, 54, 55, 56, 57]⟩ : ByteArray)] : List ByteArray) h (by decide)
    rw [e']
    refine ⟨v, q', t', rfl, ?_, h'⟩
    simp only [List.mem_cons, List.not_mem_nil, or_false] at hv
    rcases hv with rfl | rfl | rfl | rfl | rfl <;> decide
  · obtain ⟨v, q', t', e', hv, h'⟩ := drawPick l hl q t ([(⟨#[97]⟩ : ByteArray), (⟨#[98]⟩ : ByteArray), (⟨#[104, 116, 116, 112, 58, 47, 47, 120, 47]⟩ : ByteArray), (⟨#[99]⟩ : ByteArray), (⟨#[97, 98]⟩ : ByteArray)] : List ByteArray) h (by decide)
    rw [e']
    refine ⟨v, q', t', rfl, ?_, h'⟩
    simp only [List.mem_cons, List.not_mem_nil, or_false] at hv
    rcases hv with rfl | rfl | rfl | rfl | rfl <;> decide
theorem drawRecJ (p s kind : Int) (u b : ByteArray) (hp : 0 ≤ p) (hu : u.size ≤ 61) (hb : b.size ≤ 9) : ∃ kind' u' b' q t, Ev (fun k => spec_l17DrawRecord.j0 k l p s kind u b) (kind', u', b', q, t) ∧ u'.size ≤ 61 ∧ b'.size ≤ 9 ∧ 0 ≤ q := by
  obtain ⟨v, q, t, e, _, _, h⟩ := drawBelow l hl p s 20 hp (by omega)
  by_cases h0 : v = 0
  · obtain ⟨v2, q2, t2, e2, _, h2⟩ := drawPickInt l hl q t [0, 3] h (by decide)
    exact ⟨_, _, _, _, _, Ev.step (fun k => spec_l17DrawRecord.j0.eq_2 (k := k) ..) (Ev.known e (Ev.pos h0 (Ev.known e2 (Ev.now _)))), hu, hb, h2⟩
  · by_cases h1 : v = 1
    · exact ⟨_, _, _, _, _, Ev.step (fun k => spec_l17DrawRecord.j0.eq_2 (k := k) ..) (Ev.known e (Ev.neg h0 (Ev.pos h1 (Ev.now _)))), hu, by decide, h⟩
    · exact ⟨_, _, _, _, _, Ev.step (fun k => spec_l17DrawRecord.j0.eq_2 (k := k) ..) (Ev.known e (Ev.neg h0 (Ev.neg h1 (Ev.now _)))), hu, hb, h⟩
theorem drawRec (p s : Int) (hp : 0 ≤ p) : ∃ kind u b q t, Ev (fun k => spec_l17DrawRecord.f k l p s) (kind, u, b, q, t) ∧ u.size ≤ 61 ∧ b.size ≤ 9 ∧ 0 ≤ q := by
  obtain ⟨v, q, t, e, _, _, h⟩ := drawBelow l hl p s 2 hp (by omega)
  obtain ⟨u, q2, t2, e2, hu, h2⟩ := drawUrl l hl q t h
  unfold spec_l17DrawRecord.f
  by_cases hk : wrap64 (1 + v) = 1
  · obtain ⟨r, q3, t3, e3, hr, _, h3⟩ := drawBytes l hl q2 t2 9 h2 (by omega) (by omega)
    obtain ⟨k', u', b', q4, t4, e4, z⟩ := drawRecJ l hl q3 t3 (wrap64 (1 + v)) u (strOfNums r) h3 hu (by rw [strOfNums_size]; omega)
    exact ⟨k', u', b', q4, t4, Ev.known e (Ev.known e2 (Ev.pos hk (Ev.bind e3 e4))), z⟩
  · obtain ⟨k', u', b', q4, t4, e4, z⟩ := drawRecJ l hl q2 t2 (wrap64 (1 + v)) u (⟨#[]⟩ : ByteArray) h2 hu (by decide)
    exact ⟨k', u', b', q4, t4, Ev.known e (Ev.known e2 (Ev.neg hk e4)), z⟩
def Small (x : S25) : Prop := x.f1.size ≤ 61 ∧ x.f2.size ≤ 9
theorem drawLists : ∀ (d i : Nat) (acc : List S25) (p s : Int), i + d = 9 → acc.length = i → (∀ x ∈ acc, Small x) → 0 ≤ p → ∃ r q t, Ev (fun k => spec_l17DrawList.l0 k acc (i : Int) l p s) (r, q, t) ∧ r.length ≤ 9 ∧ (∀ x ∈ r, Small x) ∧ 0 ≤ q := by
  intro d
  induction d with
  | zero =>
    intro i acc p s hi ha hs hp
    obtain ⟨v, q, t, e, _, h1, h⟩ := drawBelow l hl p s 9 hp (by omega)
    exact ⟨_, _, _, Ev.step (fun k => spec_l17DrawList.l0.eq_2 (k := k) ..) (Ev.known e (Ev.neg (by omega) (Ev.now _))), by omega, hs, h⟩
  | succ d ih =>
    intro i acc p s hi ha hs hp
    obtain ⟨v, q, t, e, _, h1, h⟩ := drawBelow l hl p s 9 hp (by omega)
    by_cases hv : (i : Int) < v
    · obtain ⟨kind, u, b, q2, t2, e2, hu, hb, h2⟩ := drawRec l hl q t h
      obtain ⟨r, q3, t3, e3, z⟩ := ih (i + 1) (acc ++ [⟨kind, u, b⟩]) q2 t2 (by omega) (by simp [ha]) (by
        intro x hx
        rcases List.mem_append.1 hx with hx | hx
        · exact hs x hx
        · have : x = ⟨kind, u, b⟩ := by simpa using hx
          subst this
          exact ⟨hu, hb⟩) h2
      refine ⟨r, q3, t3, Ev.step (fun k => spec_l17DrawList.l0.eq_2 (k := k) ..) (Ev.known e (Ev.pos hv (Ev.bind e2 (Ev.pos (by omega) ?_)))), z⟩
      rw [wrap_succ (i := i) (n := 100) (by omega) (by omega)]
      exact e3
    · exact ⟨_, _, _, Ev.step (fun k => spec_l17DrawList.l0.eq_2 (k := k) ..) (Ev.known e (Ev.neg hv (Ev.now _))), by omega, hs, h⟩
theorem drawList (p s : Int) (hp : 0 ≤ p) : ∃ r q t, Ev (fun k => spec_l17DrawList.f k l p s) (r, q, t) ∧ r.length ≤ 9 ∧ (∀ x ∈ r, Small x) ∧ 0 ≤ q := drawLists l hl 9 0 [] p s (by omega) rfl (by intro x hx; cases hx) hp
end
end Go.Proofs.Ytaakhgjlekllgaa.Pure
namespace Go.Proofs.Ytaakhgjlekllgaa.Pure
open Go.RowKit Go.Proofs.YtaakhgjlekllgaaX Go.Proofs.Ytaakhgjlekllgaa.PRcs Go.Proofs.YtaakhgjlekllgaaW.PrintWords Go.Proofs.YtaakhgjlekllgaaW.PrintLast
theorem recForm_range (kind : Nat) (u b : ByteArray) : Bytes (recForm kind u b) := by
  intro y hy
  unfold recForm at hy
  rcases List.mem_append.1 hy with hy | hy
  · rcases List.mem_append.1 hy with hy | hy
    · exact numForm_range _ y hy
    · exact textForm_range _ y hy
  · split at hy
    · exact textForm_range _ y hy
    · cases hy
theorem recPacked_range (kind : Int) (u b : ByteArray) : Bytes (recPacked kind u b).1 := by
  unfold recPacked
  split
  · exact recForm_range kind.toNat u b
  · intro y hy
    cases hy
theorem bytes_append {a b : List Int} (ha : Bytes a) (hb : Bytes b) : Bytes (a ++ b) := fun y hy => (List.mem_append.1 hy).elim (ha y) (hb y)
section
variable (l : List Int) (hl : l.length ≤ 1048576)
include hl
theorem drawJ2 (b : List Int) (p s : Int) (hp : 0 ≤ p) (hb : Bytes b) (hn : b.length ≤ 1048576) : ∃ r q t, Ev (fun k => spec_l17DrawBytes.j2 k b l p s) (r, q, t) ∧ r.length ≤ b.length ∧ Bytes r ∧ 0 ≤ q := by
  obtain ⟨v, q, t, e, h⟩ := drawOnce l hl p s 6 hp (by omega)
  cases v with
  | true =>
    have hw : wrap64 ((b.length : Int) + 1) = (b.length : Int) + 1 := wrap_id (by omega) (by omega)
    obtain ⟨v2, q2, t2, e2, h0, h1, h2⟩ := drawBelow l hl q t (wrap64 ((b.length : Int) + 1)) h (by omega)
    rw [hw] at h1
    exact ⟨_, _, _, Ev.step (fun k => spec_l17DrawBytes.j2.eq_2 (k := k) ..) (Ev.known e (Ev.pos rfl (Ev.known e2 (Ev.pos h0 (Ev.pos (by omega) (Ev.now _)))))), by simp; omega, fun y hy => hb y (List.mem_of_mem_take hy), h2⟩
  | false => exact ⟨_, _, _, Ev.step (fun k => spec_l17DrawBytes.j2.eq_2 (k := k) ..) (Ev.known e (Ev.neg (by simp) (Ev.now _))), Nat.le_refl _, hb, h⟩
theorem drawJ1 (b : List Int) (c : Bool) (p s : Int) (hp : 0 ≤ p) (hb : Bytes b) (hn : b.length ≤ 1048576) (hc : c = true → 1 ≤ b.length) : ∃ r q t, Ev (fun k => spec_l17DrawBytes.j1 k b c l p s) (r, q, t) ∧ r.length ≤ b.length ∧ Bytes r ∧ 0 ≤ q := by
  cases c with
  | true =>
    have hc := hc rfl
    obtain ⟨v, q, t, e, h0, h1, h⟩ := drawBelow l hl p s (b.length : Int) hp (by omega)
    obtain ⟨v2, q2, t2, e2, _, h2⟩ := drawPickInt l hl q t [0, 1, 2, 3, 32, 127, 128] h (by decide)
    obtain ⟨r, q3, t3, e3, h3, z⟩ := drawJ2 l hl (b.set v.toNat (v2 % 256)) q2 t2 h2 (by
      intro y hy
      rcases List.mem_or_eq_of_mem_set hy with hy | hy
      · exact hb y hy
      · omega) (by simpa using hn)
    exact ⟨r, q3, t3, Ev.step (fun k => spec_l17DrawBytes.j1.eq_2 (k := k) ..) (Ev.pos rfl (Ev.known e (Ev.known e2 (Ev.pos h0 (Ev.pos h1 e3))))), by simpa using h3, z⟩
  | false =>
    obtain ⟨r, q3, t3, e3, z⟩ := drawJ2 l hl b p s hp hb hn
    exact ⟨r, q3, t3, Ev.step (fun k => spec_l17DrawBytes.j1.eq_2 (k := k) ..) (Ev.neg (by simp) e3), z⟩
theorem drawL0 (x : List S25) (hx : x.length ≤ 9) (hs : ∀ y ∈ x, Small y) : ∀ (d i : Nat) (acc : List Int) (p s : Int), i + d = x.length → acc.length ≤ 100 * i → Bytes acc → 0 ≤ p → ∃ r q t, Ev (fun k => spec_l17DrawBytes.l0 k acc x (i : Int) l p s) (r, q, t) ∧ r.length ≤ 900 ∧ Bytes r ∧ 0 ≤ q := by
  intro d
  induction d with
  | zero =>
    intro i acc p s hi ha hb hp
    by_cases h0 : (acc.length : Int) > 0
    · obtain ⟨v, q, t, e, h⟩ := drawOnce l hl p s 3 hp (by omega)
      obtain ⟨r, q3, t3, e3, h3, z⟩ := drawJ1 l hl acc v q t h hb (by omega) (by omega)
      exact ⟨r, q3, t3, Ev.step (fun k => spec_l17DrawBytes.l0.eq_2 (k := k) ..) (Ev.neg (by omega) (Ev.pos h0 (Ev.known e e3))), by omega, z⟩
    · obtain ⟨r, q3, t3, e3, h3, z⟩ := drawJ1 l hl acc false p s hp hb (by omega) (by simp)
      exact ⟨r, q3, t3, Ev.step (fun k => spec_l17DrawBytes.l0.eq_2 (k := k) ..) (Ev.neg (by omega) (Ev.neg h0 e3)), by omega, z⟩
  | succ d ih =>
    intro i acc p s hi ha hb hp
    have hlt : i < x.length := by omega
    have hsm := hs _ (List.getElem_mem hlt)
    have h2 := recPacked_length x[i].f0 x[i].f1 x[i].f2
    have hsz : (recPacked x[i].f0 x[i].f1 x[i].f2).1.length ≤ 100 := by
      have h3 := hsm.1
      have h4 := hsm.2
      omega
    have hp1 := spec_rec x[i].f0 x[i].f1 x[i].f2 (by
      have h3 := hsm.1
      have h4 := hsm.2
      omega)
    have hr := recPacked_range x[i].f0 x[i].f1 x[i].f2
    have hw : wrap64 ((i : Int) + 1) = ((i + 1 : Nat) : Int) := wrap_succ (n := x.length) (by omega) (by omega)
    by_cases h : (recPacked x[i].f0 x[i].f1 x[i].f2).2 = true
    · obtain ⟨r, q, t, e, z⟩ := ih (i + 1) (acc ++ (recPacked x[i].f0 x[i].f1 x[i].f2).1) p s (by omega) (by rw [List.length_append]; omega) (bytes_append hb hr) hp
      refine ⟨r, q, t, Ev.step (fun k => spec_l17DrawBytes.l0.eq_2 (k := k) ..) (Ev.pos (by omega) (Ev.pos (by omega) ?_)), z⟩
      rw [rdR_get x hlt, hw]
      exact Ev.bind hp1 (Ev.pos h (Ev.pos (by omega) e))
    · obtain ⟨r, q, t, e, z⟩ := ih (i + 1) acc p s (by omega) (by omega) hb hp
      refine ⟨r, q, t, Ev.step (fun k => spec_l17DrawBytes.l0.eq_2 (k := k) ..) (Ev.pos (by omega) (Ev.pos (by omega) ?_)), z⟩
      rw [rdR_get x hlt, hw]
      exact Ev.bind hp1 (Ev.neg h e)
theorem drawRecords : ∃ r, Ev (fun k => spec_DrawRecords.f k l) r ∧ r.length ≤ 900 ∧ Bytes r := by
  obtain ⟨t, e⟩ := drawNew l hl
  obtain ⟨x, q, t1, e1, h1, h2, h3⟩ := drawList l hl 0 t (by omega)
  obtain ⟨r, q2, t2, e2, h4, h5, h6⟩ := drawL0 l hl x h1 h2 x.length 0 [] q t1 (by omega) (by simp) (by intro y hy; cases hy) h3
  unfold spec_DrawRecords.f spec_l17DrawBytes.f
  exact ⟨r, Ev.bind e (Ev.bind (a := (r, q2, t2)) (Ev.bind e1 e2) (Ev.now _)), h4, h5⟩
theorem drawRecordPack : ∃ kind u b, Ev (fun k => spec_DrawRecordPack.f k l) (kind, u, b) ∧ u.size ≤ 61 ∧ b.size ≤ 9 := by
  obtain ⟨t, e⟩ := drawNew l hl
  obtain ⟨kind, u, b, q, t1, e1, h1, h2, _⟩ := drawRec l hl 0 t (by omega)
  unfold spec_DrawRecordPack.f
  exact ⟨kind, u, b, Ev.bind e (Ev.bind e1 (Ev.now _)), h1, h2⟩
end
end Go.Proofs.Ytaakhgjlekllgaa.Pure
namespace Go.Proofs.Ytaakhgjlekllgaa.Pure
open Go.RowKit Go.Proofs.YtaakhgjlekllgaaX Go.Proofs.Ytaakhgjlekllgaa.PRcs Go.Proofs.YtaakhgjlekllgaaW.PrintWords Go.Proofs.YtaakhgjlekllgaaW.PrintLast
def flat (x : List S25) : List Int := x.flatMap fun e => recForm e.f0.toNat e.f1 e.f2
def Right (e : S25) : Prop := recRight e.f0 e.f1 e.f2 = true ∧ e.f1.size ≤ 1048576 ∧ e.f2.size ≤ 1048576
theorem recs_fine (l : List Int) (hl : l.length ≤ 1048576) (hb : ∀ y ∈ l, 0 ≤ y ∧ y ≤ 255) : ∀ (d : Nat) (acc : List S25) (a : Nat), l.length ≤ a + d → acc.length ≤ a → a ≤ l.length → flat acc = l.take a → (∀ e ∈ acc, Right e) →
    ∃ r, Ev (fun k => spec_Records.l0 k l acc (a : Int)) r ∧ Ev (fun k => impl_Records.l0 k l acc (a : Int)) r ∧ (r.2 = false → r.1 = []) ∧ (r.2 = true → flat r.1 = l ∧ r.1.length ≤ l.length ∧ ∀ e ∈ r.1, Right e) := by
  intro d
  induction d with
  | zero =>
    intro acc a hd ha hle hf hr
    refine ⟨_, Ev.step (fun k => spec_Records.l0.eq_2 (k := k) ..) (Ev.neg (by omega) (Ev.now _)), Ev.step (fun k => impl_Records.l0.eq_2 (k := k) ..) (Ev.neg (by omega) (Ev.now _)), (fun h => by cases h), fun _ => ⟨?_, by simp only; omega, hr⟩⟩
    rw [hf, List.take_of_length_le (by omega)]
  | succ d ih =>
    intro acc a hd ha hle hf hr
    by_cases h : a < l.length
    · obtain ⟨⟨kind, u, b, at1, ok⟩, h1, h2, _, h3⟩ := readBoth l (by omega) hb (a : Int)
      obtain ⟨r', e1, e2⟩ := read_bwd l (by omega) hb (a : Int)
      obtain rfl := Ev.uniq h1 e1
      cases ok with
      | false => exact ⟨_, Ev.step (fun k => spec_Records.l0.eq_2 (k := k) ..) (Ev.pos (by omega) (Ev.bind h1 (Ev.neg (by simp) (Ev.now _)))), Ev.step (fun k => impl_Records.l0.eq_2 (k := k) ..) (Ev.pos (by omega) (Ev.bind h2 (Ev.neg (by simp) (Ev.now _)))), fun _ => rfl, fun h => by cases h⟩
      | true =>
        obtain ⟨_, q1, q2, q3, q4, _⟩ := h3 rfl
        obtain ⟨g1, g2⟩ := e2 rfl
        simp only at q1 q2 q3 q4 g1 g2
        obtain ⟨n, rfl⟩ := Int.eq_ofNat_of_zero_le (show 0 ≤ at1 by omega)
        have hf2 : flat (acc ++ [(⟨kind, u, b⟩ : S25)]) = l.take n := by
          unfold flat at hf ⊢
          rw [List.flatMap_append, hf, List.flatMap_singleton]
          show l.take a ++ recForm kind.toNat u b = _
          have hc := g2.cut
          rw [Int.toNat_natCast, Int.toNat_natCast] at hc
          have ht : l.take a = (l.take n).take a := by rw [List.take_take, Nat.min_eq_left (by omega)]
          rw [← hc, ht, List.take_append_drop]
        obtain ⟨r, i1, i2, i3⟩ := ih (acc ++ [⟨kind, u, b⟩]) n (by omega) (by simp; omega) (by omega) hf2 (by
          intro e he
          rcases List.mem_append.1 he with he | he
          · exact hr e he
          · have : e = ⟨kind, u, b⟩ := by simpa using he
            subst this
            exact ⟨g1, by simp only; omega, by simp only; omega⟩)
        exact ⟨r, Ev.step (fun k => spec_Records.l0.eq_2 (k := k) ..) (Ev.pos (by omega) (Ev.bind h1 (Ev.pos rfl (Ev.pos (by omega) i1)))), Ev.step (fun k => impl_Records.l0.eq_2 (k := k) ..) (Ev.pos (by omega) (Ev.bind h2 (Ev.pos rfl (Ev.pos (by omega) i2)))), i3⟩
    · refine ⟨_, Ev.step (fun k => spec_Records.l0.eq_2 (k := k) ..) (Ev.neg (by omega) (Ev.now _)), Ev.step (fun k => impl_Records.l0.eq_2 (k := k) ..) (Ev.neg (by omega) (Ev.now _)), (fun h => by cases h), fun _ => ⟨?_, by simp only; omega, hr⟩⟩
      rw [hf, List.take_of_length_le (by omega)]
theorem right_pack {e : S25} (h : Right e) : recPacked e.f0 e.f1 e.f2 = (recForm e.f0.toNat e.f1 e.f2, true) := by
  unfold recPacked
  rw [if_pos h.1]
theorem right_url {e : S25} (h : Right e) : urlGood e.f1 = true := by
  have := h.1
  unfold recRight at this
  rw [Bool.and_eq_true, Bool.and_eq_true] at this
  exact this.2.1
theorem packLoop (raw : List Int) (hn : raw.length ≤ 1048576) (x : List S25) (hx : x.length ≤ 1048576) (hr : ∀ e ∈ x, Right e) (hf : flat x = raw) : ∀ (d i : Nat), i + d = x.length → Ev (fun k => laws_FnRecords.l0 k raw x (flat (x.take i)) (i : Int)) true := by
  intro d
  induction d with
  | zero =>
    intro i hi
    refine Ev.step (fun k => laws_FnRecords.l0.eq_2 (k := k) ..) (Ev.neg (by omega) (Ev.is ?_))
    rw [List.take_of_length_le (by omega), hf]
    simp
  | succ d ih =>
    intro i hi
    have hlt : i < x.length := by omega
    have hR := hr _ (List.getElem_mem hlt)
    have hs1 := hR.2.1
    have hs2 := hR.2.2
    have hp := right_pack hR
    have hi1 := impl_rec x[i].f0 x[i].f1 x[i].f2 (by omega)
    have hu := impl_url x[i].f1 (by omega)
    have hw : wrap64 ((i : Int) + 1) = ((i + 1 : Nat) : Int) := wrap_succ (n := x.length) (by omega) (by omega)
    have hfl : flat (x.take (i + 1)) = flat (x.take i) ++ recForm x[i].f0.toNat x[i].f1 x[i].f2 := by
      unfold flat
      rw [List.take_succ_eq_append_getElem hlt, List.flatMap_append, List.flatMap_singleton]
    have hlen : (flat (x.take (i + 1))).length ≤ raw.length := by
      rw [← hf]
      conv => rhs; rw [← List.take_append_drop (i + 1) x]
      unfold flat
      rw [List.flatMap_append, List.length_append]
      omega
    rw [hfl, List.length_append] at hlen
    rw [hp] at hi1
    rw [right_url hR] at hu
    refine Ev.step (fun k => laws_FnRecords.l0.eq_2 (k := k) ..) (Ev.pos (by omega) (Ev.pos (by omega) ?_))
    rw [rdR_get x hlt]
    refine Ev.bind hi1 (Ev.pos rfl (Ev.bind hu (Ev.pos rfl (Ev.pos (by simp only; omega) ?_))))
    rw [hw]
    show Ev (fun k => laws_FnRecords.l0 k raw x (flat (x.take i) ++ recForm x[i].f0.toNat x[i].f1 x[i].f2) ((i + 1 : Nat) : Int)) true
    rw [← hfl]
    exact ih (i + 1) (by omega)
theorem recsPart (l : List Int) (hl : l.length ≤ 1048576) : Ev (fun k => laws_FnRecords.j0 k l) true := by
  obtain ⟨raw, e, h1, h2⟩ := drawRecords l hl
  obtain ⟨r, i1, i2, i3, i4⟩ := recs_fine raw (by omega) h2 raw.length [] 0 (by omega) (by simp) (by omega) rfl (by intro x hx; cases hx)
  have i1 : Ev (fun k => spec_Records.f k raw) r := i1
  have i2 : Ev (fun k => impl_Records.f k raw) r := i2
  obtain ⟨x, ok⟩ := r
  refine Ev.step (fun k => laws_FnRecords.j0.eq_2 (k := k) ..) (Ev.bind e (Ev.bind i2 (Ev.bind i1 (Ev.neg (by simp) ?_))))
  cases ok with
  | false =>
    obtain rfl : x = [] := i3 rfl
    exact Ev.neg (by simp) (Ev.now _)
  | true =>
    obtain ⟨g1, g2, g3⟩ := i4 rfl
    simp only at g1 g2 g3
    exact Ev.pos rfl (packLoop raw (by omega) x (by omega) g3 g1 x.length 0 (by omega))
theorem FnRecords : laws_FnRecords.Pure := by
  intro l _ _ _
  refine Ev.rounds (r := true) ?_
  show Ev (fun k => laws_FnRecords.f k l) true
  unfold laws_FnRecords.f
  refine Ev.known rfl ?_
  by_cases hbig : (l.length : Int) > 1048576
  · exact Ev.pos (by simpa using hbig) (Ev.now _)
  refine Ev.neg (by simpa using hbig) ?_
  have hl : l.length ≤ 1048576 := by omega
  obtain ⟨kind, u, b, e, hu, hb⟩ := drawRecordPack l hl
  have hs := spec_rec kind u b (by omega)
  have hi := impl_rec kind u b (by omega)
  refine Ev.bind e (Ev.bind hi (Ev.bind hs (Ev.neg (by simp) ?_)))
  by_cases hg : recRight kind u b = true
  · have hp : recPacked kind u b = (recForm kind.toNat u b, true) := by unfold recPacked; rw [if_pos hg]
    have hlen := recForm_length kind.toNat u b
    rw [hp]
    refine Ev.pos rfl (Ev.known rfl (Ev.pos (by simp; omega) (Ev.known rfl (Ev.pos (by simp; omega) ?_))))
    have hrow : ∀ y ∈ ([9] ++ recForm kind.toNat u b) ++ [(1 : Int)], 0 ≤ y ∧ y ≤ 255 := by
      intro y hy
      simp only [List.mem_append, List.mem_singleton] at hy
      rcases hy with (rfl | hy) | rfl
      · omega
      · exact recForm_range kind.toNat u b y hy
      · omega
    have hat : At (([9] ++ recForm kind.toNat u b) ++ [(1 : Int)]) 1 (recForm kind.toNat u b) (1 + ((recForm kind.toNat u b).length : Int)) := by
      refine ⟨by omega, rfl, ?_⟩
      rw [show (1 + ((recForm kind.toNat u b).length : Int)).toNat = (recForm kind.toNat u b).length + 1 by omega]
      simp
    have f1 := read_fwd _ (by simp; omega) hg (by omega) hat
    obtain ⟨r, g1, g2, _⟩ := readBoth (([9] ++ recForm kind.toNat u b) ++ [(1 : Int)]) (by simp; omega) hrow 1
    obtain rfl := Ev.uniq g1 f1
    refine Ev.bind g2 (Ev.pos rfl (Ev.neg (by simp) (Ev.pos ?_ (recsPart l hl))))
    simp only
    rw [wrap_id (by omega) (by omega)]
  · have hp : recPacked kind u b = ([], false) := by unfold recPacked; rw [if_neg hg]
    rw [hp]
    exact Ev.neg (by simp) (recsPart l hl)
end Go.Proofs.Ytaakhgjlekllgaa.Pure
namespace Go.Proofs.Ytaakhgjlekllgaa.fnRecords
open Go.ChangeShapes Go.WideShapes Go.ChangeAt Go.RowKit
open Go.ChangeMaps (open_string shut_string)
set_option linter.unusedVariables false
theorem own : ownKnob Try.prog.godebug = none := by kernel_rfl
theorem laidOut : laidOutB Try.prog = true := by kernel_rfl
def IsRow (k : IntKind) (w : World) (a : Option Addr) (len cap : Nat) (zs : List Int) : Prop :=
  (a = none ∧ len = 0 ∧ cap = 0 ∧ zs = []) ∨
  ∃ x, a = some x ∧ len ≤ cap ∧ cap ≤ maxLen ∧ zs.length = cap ∧ (∀ i, i < zs.length → w.cell? (x.add i) = some (.int k (zs.getD i 0))) ∧ ∀ n ∈ zs, (Lit.int k n).wf = true
set_option maxRecDepth 100000 in
theorem lifted (os : Os) (started : os.Started) (H : Type) (enc : TypeId × Value → H) :
    ReturnsInHanded {} Try.checked os 3 .any (Rows.fnRecordsSpec.pre6 enc Try.prog Try.f3 Rows.fnRecordsRow.domain false) (Rows.fnRecordsSpec.post enc Try.prog Try.f3 false true false false) := by
  refine returnsInHanded_of_change_sized (C := Try.checked) own started (by kernel_rfl) Try.func3
    (ChangeSpec.witness6 (enc := enc) (C := Try.checked) false ⟨#[], #[.slice none 0 0], []⟩ 8 (by kernel_rfl) (by kernel_rfl) (by kernel_rfl) (by kernel_rfl)) ?_
  intro W base args ds gs before hval0 hW hcnd hsz0 _
  have hsz : (DataW.weightsEach Try.prog (Try.f3.params.toList ++ Rows.fnRecordsSpec.plain.varTypes Try.prog) (ds ++ gs)).all (· ≤ reachBytes) = true := hsz0
  have hval : ∀ (j : Nat) t v, Try.f3.params[j]? = some t → args[j]? = some v → Value.okWide Try.prog W .any base t v := hval0
  have hW' := hW
  obtain ⟨p, q, hA0, hV, rfl, hfz, hnd⟩ := hW
  have hA : DataW.TrodAll enc Try.prog W 0 (fun _ => true) true Try.f3.params.toList args.toList ds p := hA0
  rw [Try.params3] at hA hval hsz
  obtain ⟨v0, vs0, d0, ds0, p0, q0, hargs, rfl, rfl, h0, r0⟩ := trodAll_cons hA
  obtain ⟨rfl, rfl, rfl⟩ := trodAll_nil r0
  obtain rfl : args = #[v0] := by cases args; simp_all
  obtain ⟨rfl, rfl⟩ := trodVars_none hV
  obtain ⟨a0, len0, cap0, rfl⟩ := okWide_slice Try.underlying22 (hval 0 22 v0 rfl rfl)
  have k0 := h0
  have lt0 : ∀ x ∈ p0, x.block < W.heap.size := by obtain ⟨m, hm⟩ := k0; exact DataW.trod_lt m _ _ _ hm
  obtain ⟨z0, w0⟩ : ∃ zs, IsRow .u8 W a0 len0 cap0 zs := by
    obtain ⟨fuel, hf⟩ := h0
    rcases open_ints Try.underlying22 Try.underlying5 (by kernel_rfl) hf with ⟨hcs, _⟩ | ⟨x, l, c, zs, hcs, _, hl, hm, hz, _, hcell, hwz⟩
    · simp [Value.cells] at hcs
      obtain ⟨rfl, rfl, rfl⟩ := hcs
      exact ⟨[], .inl ⟨rfl, rfl, rfl, rfl⟩⟩
    · simp [Value.cells] at hcs
      obtain ⟨rfl, rfl, rfl⟩ := hcs
      exact ⟨zs, .inr ⟨_, rfl, hl, hm, by simpa using hz, hcell, hwz⟩⟩
  have y0 : len0 * 1 ≤ 140737488351232 := Go.Proofs.YtaakhgjlekllgaaW.PrintWords.sized_ints hsz (j := 0) (t := 22) rfl rfl Try.underlying22 Try.underlying5 (by kernel_rfl) (by kernel_rfl) h0
  clear hA0 hval0 hsz0 hsz
  refine (PRcs.laws_FnRecords.walk Pure.FnRecords a0 len0 cap0 z0 W w0 y0).mono fun e W' ⟨he, bel⟩ => ?_
  subst he
  exact ⟨_, rfl, _, _, _, [], _, [], hW', trodAll_mk1 (shut_bool Try.underlying4 _), (trodAll_cons_mk (Below.trod laidOut (by kernel_rfl) (of_decide_eq_true (by kernel_rfl)) k0 bel lt0) trodAll_mk0), rfl, bel.frame _, fun h => by cases h⟩
theorem over : Rows.fnRecordsRow.holds Try.pinned (OpenSpec.ofChange Rows.fnRecordsSpec) :=
  OpenClaim.holds_of_wide 3 Try.f3 rfl rfl rfl rfl rfl rfl rfl ⟨rfl, rfl, rfl, rfl, rfl⟩ rfl rfl rfl rfl rfl (by kernel_rfl) Try.func3 (by kernel_rfl)
    (of_decide_eq_true (by kernel_rfl)) (by unfold Func.isWrapper; first | (rw [if_pos (by decide +kernel)]; kernel_rfl) | (rw [if_neg (by decide +kernel)]; exact ⟨rfl, rfl⟩))
    (fun os started H enc _ => lifted os started H enc)
theorem proved : Rows.FnRecordsSaid := over
#print axioms proved
end Go.Proofs.Ytaakhgjlekllgaa.fnRecords
namespace Go.Proofs.Ytaakhgjlekllgaa
theorem fnRecords_holds : Rows.FnRecordsSaid := fnRecords.proved
end Go.Proofs.Ytaakhgjlekllgaa
