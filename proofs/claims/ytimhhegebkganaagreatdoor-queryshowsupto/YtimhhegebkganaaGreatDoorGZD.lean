/- Contracts of query.stats and parse. -/
import Derived.Test.YtimhhegebkganaaGreatDoorProg
import Derived.Test.YtimhhegebkganaaGreatDoorGZC
set_option linter.unusedSimpArgs false
set_option linter.unusedVariables false
set_option maxRecDepth 4000
namespace Go.SL
open Go.Proofs

theorem body_88 : (Tryz.prog.funcs[88]?).map (fun fn => fn.body.isSome && !(fn.name == "runtime.NumGoroutine")) = some true := by kernel_rfl
theorem zero_38 : ZeroIs Tryz.prog 38 (.slice none 0 0) := zeroIs_of info_38 rfl
theorem fa_35_2 : FldAt Tryz.prog 35 2 2 := fun a w => by kernel_rfl
theorem ag_33 : IsAg Tryz.prog 33 7 := isAg_of Tryz.underlying33 rfl info_33 rfl
theorem body_89 : (Tryz.prog.funcs[89]?).map (fun fn => fn.body.isSome && !(fn.name == "runtime.NumGoroutine")) = some true := by kernel_rfl
theorem zero_33 : ZeroIs Tryz.prog 33 (.agg #[.int .i64 0, .int .i64 0, .int .i64 0, .int .i64 0, .int .i64 0, .int .i64 0, .int .i64 0]) := zeroIs_of info_33 rfl
theorem sz_33 : SizeIs Tryz.prog 33 7 := sizeIs_of info_33 rfl
theorem body_90 : (Tryz.prog.funcs[90]?).map (fun fn => fn.body.isSome && !(fn.name == "runtime.NumGoroutine")) = some true := by kernel_rfl
theorem fa_33_0 : FldAt Tryz.prog 33 0 0 := fun a w => by kernel_rfl
theorem fa_33_1 : FldAt Tryz.prog 33 1 1 := fun a w => by kernel_rfl
theorem fa_33_2 : FldAt Tryz.prog 33 2 2 := fun a w => by kernel_rfl
theorem fa_33_3 : FldAt Tryz.prog 33 3 3 := fun a w => by kernel_rfl
theorem fa_33_4 : FldAt Tryz.prog 33 4 4 := fun a w => by kernel_rfl
theorem fa_33_5 : FldAt Tryz.prog 33 5 5 := fun a w => by kernel_rfl
theorem fa_33_6 : FldAt Tryz.prog 33 6 6 := fun a w => by kernel_rfl
theorem fa_84_0 : FldAt Tryz.prog 84 0 0 := fun a w => by kernel_rfl
theorem fa_84_1 : FldAt Tryz.prog 84 1 1 := fun a w => by kernel_rfl
theorem fa_84_2 : FldAt Tryz.prog 84 2 2 := fun a w => by kernel_rfl
theorem fa_84_3 : FldAt Tryz.prog 84 3 3 := fun a w => by kernel_rfl
theorem fa_84_4 : FldAt Tryz.prog 84 4 4 := fun a w => by kernel_rfl
theorem fa_84_5 : FldAt Tryz.prog 84 5 5 := fun a w => by kernel_rfl
theorem fa_84_6 : FldAt Tryz.prog 84 6 6 := fun a w => by kernel_rfl
theorem body_91 : (Tryz.prog.funcs[91]?).map (fun fn => fn.body.isSome && !(fn.name == "runtime.NumGoroutine")) = some true := by kernel_rfl
theorem body_92 : (Tryz.prog.funcs[92]?).map (fun fn => fn.body.isSome && !(fn.name == "runtime.NumGoroutine")) = some true := by kernel_rfl
theorem body_93 : (Tryz.prog.funcs[93]?).map (fun fn => fn.body.isSome && !(fn.name == "runtime.NumGoroutine")) = some true := by kernel_rfl
theorem body_15 : (Tryz.prog.funcs[15]?).map (fun fn => fn.body.isSome && !(fn.name == "runtime.NumGoroutine")) = some true := by kernel_rfl
theorem body_94 : (Tryz.prog.funcs[94]?).map (fun fn => fn.body.isSome && !(fn.name == "runtime.NumGoroutine")) = some true := by kernel_rfl
theorem body_95 : (Tryz.prog.funcs[95]?).map (fun fn => fn.body.isSome && !(fn.name == "runtime.NumGoroutine")) = some true := by kernel_rfl
theorem body_54 : (Tryz.prog.funcs[54]?).map (fun fn => fn.body.isSome && !(fn.name == "runtime.NumGoroutine")) = some true := by kernel_rfl
theorem body_48 : (Tryz.prog.funcs[48]?).map (fun fn => fn.body.isSome && !(fn.name == "runtime.NumGoroutine")) = some true := by kernel_rfl
theorem body_49 : (Tryz.prog.funcs[49]?).map (fun fn => fn.body.isSome && !(fn.name == "runtime.NumGoroutine")) = some true := by kernel_rfl
theorem body_52 : (Tryz.prog.funcs[52]?).map (fun fn => fn.body.isSome && !(fn.name == "runtime.NumGoroutine")) = some true := by kernel_rfl

theorem stats_ct (sb eb ob bb hh hb mo m1 m2 m4 m5 : Nat) (next last refused : Int) (rows : List (Int × Row)) (ls : List (Int × Letter)) (hl : rows.length ≤ 1000) (hls : ls.length ≤ 1000) (hla : 0 ≤ last ∧ last ≤ 100000) (hre : 0 ≤ refused ∧ refused ≤ 100000) : CT Tryz.prog 54 #[.pointer (some ⟨sb, 0, none⟩)] [stB sb eb ob, engB eb bb hh, boardB bb m1 m2 40 next, mp iI rowV m1 rows, boxB ob mo last refused, mp iI letV mo ls, holdB hh hb m4 m5, mp iI (fun x : Value => x) m4 [], powA] (fun v M => ∃ (sv : Value) (xs : List ByteArray), v = sv ∧ xs.length = 20 ∧ ((⟨#[114, 111, 119, 115]⟩ : ByteArray) ++ ⟨#[32]⟩ ++ itoaB (rows.length : Int)) ∈ xs ∧ ((⟨#[116, 105, 99, 107, 101, 116, 115]⟩ : ByteArray) ++ ⟨#[32]⟩ ++ itoaB (ls.length : Int)) ∈ xs ∧ M = [arr 9 1 encS sv xs, stB sb eb ob, engB eb bb hh, boardB bb m1 m2 40 next, mp iI rowV m1 rows, boxB ob mo last refused, mp iI letV mo ls, holdB hh hb m4 m5, mp iI (fun x : Value => x) m4 [], powA]) := by
  refine t_fun (vs := [.pointer (some ⟨sb, 0, none⟩)]) (n := 118) Tryz.func54 rfl Tryz.ntmps54 rfl fun w0 F => ?_
  refine t_seq ?_
  refine t_region ?_
  refine tl_q rfl (ev_assign rfl) ?_
  refine tl_nil ?_
  refine te_code ?_
  refine t_seq ?_
  refine t_region ?_
  refine tl_e (eff_alloc rfl zero_38 rfl) ?_
  rintro _ _ ⟨b3, rfl, rfl⟩
  refine tl_nil_arr 9 1 encS ?_
  refine tl_nil ?_
  refine te_code ?_
  refine t_seq ?_
  refine t_region ?_
  refine tl_q rfl (ev_makeFunc rfl rfl) ?_
  refine tl_q rfl (ev_assign rfl) ?_
  refine tl_nil ?_
  refine te_code ?_
  refine t_join (α := Nat × Nat) (fun y => [(5, .pointer (some ⟨y.1, 0, none⟩)), (6, .pointer (some ⟨y.2, 0, none⟩)), (4, .func (.func 88) #[] #[.pointer (some ⟨b3, 0, none⟩)]), (3, .pointer (some ⟨b3, 0, none⟩)), (0, .pointer (some ⟨sb, 0, none⟩))]) (fun y => [blk y.1 (.cells [.int .i64 0, .int .i64 0, .int .i64 0, .int .i64 0, .int .i64 0, .int .i64 0, .int .i64 0].toArray 33 (0, 0)), blk y.2 (.cells [.int .i64 0, .int .i64 0, .int .i64 0, .int .i64 0, .int .i64 0, .int .i64 0, .int .i64 0].toArray 84 (0, 0)), blk b3 (.cells [.slice none 0 0].toArray 38 (0, 0)), arr 9 1 encS (.slice none 0 0) [], stB sb eb ob, engB eb bb hh, boardB bb m1 m2 40 next, mp iI rowV m1 rows, boxB ob mo last refused, mp iI letV mo ls, holdB hh hb m4 m5, mp iI (fun x : Value => x) m4 [], powA]) (fun _ => True) ?_ ?_
  · refine t_drawn_frm (pre := [engB eb bb hh]) (by repeat (first | exact Frm.nil | exact Take.here | apply Take.there | apply Frm.cons)) follows ?_
    refine tr_q 0 rfl (by kernel_rfl) (by kernel_rfl) (by kernel_rfl) rfl (fun _ h => hold_sub (by repeat (first | exact Frm.nil | exact Take.here | apply Take.there | apply Frm.cons)) h) (ev_move rfl) ?_
    refine tr_q 1 rfl (by kernel_rfl) (by kernel_rfl) (by kernel_rfl) rfl (fun _ h => hold_sub (by repeat (first | exact Frm.nil | exact Take.here | apply Take.there | apply Frm.cons)) h) (ev_nil_ptr rfl) ?_
    refine tr_q 2 rfl (by kernel_rfl) (by kernel_rfl) (by kernel_rfl) rfl (fun _ h => hold_sub (by repeat (first | exact Frm.nil | exact Take.here | apply Take.there | apply Frm.cons)) h) (ev_fieldAddr fa_35_2 rfl rfl) ?_
    refine tr_q 3 rfl (by kernel_rfl) (by kernel_rfl) (by kernel_rfl) rfl (fun _ h => hold_sub (by repeat (first | exact Frm.nil | exact Take.here | apply Take.there | apply Frm.cons)) h) (ev_load_agg ag_33 rfl (by first | (left; (repeat (first | exact List.Mem.head _ | apply List.Mem.tail)); done) | (right; (repeat (first | exact List.Mem.head _ | apply List.Mem.tail)); done)) (by repeat (first | exact LDrop.zero | apply LDrop.succ)) (by repeat (first | exact LTake.zero | apply LTake.succ))) ?_
    refine tr_q 4 rfl (by kernel_rfl) (by kernel_rfl) (by kernel_rfl) rfl (fun _ h => hold_sub (by repeat (first | exact Frm.nil | exact Take.here | apply Take.there | apply Frm.cons)) h) (ev_move rfl) ?_
    refine tr_q 5 rfl (by kernel_rfl) (by kernel_rfl) (by kernel_rfl) rfl (fun _ h => hold_sub (by repeat (first | exact Frm.nil | exact Take.here | apply Take.there | apply Frm.cons)) h) (ev_nil_ptr rfl) ?_
    refine tr_q 6 rfl (by kernel_rfl) (by kernel_rfl) (by kernel_rfl) rfl (fun _ h => hold_sub (by repeat (first | exact Frm.nil | exact Take.here | apply Take.there | apply Frm.cons)) h) (ev_fieldAddr fa_35_0 rfl rfl) ?_
    refine tr_q 7 rfl (by kernel_rfl) (by kernel_rfl) (by kernel_rfl) rfl (fun _ h => hold_sub (by repeat (first | exact Frm.nil | exact Take.here | apply Take.there | apply Frm.cons)) h) (ev_load sc_30 rfl (by first | (left; (repeat (first | exact List.Mem.head _ | apply List.Mem.tail)); done) | (right; (repeat (first | exact List.Mem.head _ | apply List.Mem.tail)); done)) rfl) ?_
    refine tr_any [8, 9, 10] (by kernel_rfl) (by simp) (all_cons ?_ (all_cons ?_ (all_cons ?_ (all_nil))))
    · refine to_e rfl (eff_call rfl rfl body_89 rfl (by repeat (first | exact Frm.nil | exact Take.here | apply Take.there | apply Frm.cons)) (eng_Tally_ct _ _ _)) (by rintro _ _ ⟨_, _, ⟨rfl, rfl⟩, rfl, rfl⟩; exact (fun _ h => hold_sub (by repeat (first | exact Frm.nil | exact Take.here | apply Take.there | apply Frm.cons)) h)) ?_
      rintro _ _ ⟨v16, _, ⟨rfl, rfl⟩, rfl, rfl⟩
      refine tr_any [9, 10] (by kernel_rfl) (by simp) (all_cons ?_ (all_cons ?_ (all_nil)))
      · refine to_e rfl (eff_alloc rfl zero_33 rfl) (by rintro _ _ ⟨_, rfl, rfl⟩; exact (fun _ h => hold_sub (by repeat (first | exact Frm.nil | exact Take.here | apply Take.there | apply Frm.cons)) h)) ?_
        rintro _ _ ⟨b5, rfl, rfl⟩
        refine tr_e 10 rfl (by kernel_rfl) (eff_alloc rfl zero_84 rfl) (by rintro _ _ ⟨_, rfl, rfl⟩; exact (fun _ h => hold_sub (by repeat (first | exact Frm.nil | exact Take.here | apply Take.there | apply Frm.cons)) h)) ?_
        rintro _ _ ⟨b6, rfl, rfl⟩
        refine tr_e 11 rfl (by kernel_rfl) (eff_store rfl rfl rfl rfl sz_33 (by first | (simp [Flat]; done) | exact flatS _ | exact flatB _ | exact flatTick _ | exact flatRow _ | exact flatEvt _ | exact flatI _) (by repeat (first | exact Upd.here | apply Upd.there)) (by repeat (first | exact LPut.nil | apply LPut.cons | apply LPut.succ))) (by rintro _ _ ⟨rfl, rfl⟩; exact (fun _ h => hold_sub (by repeat (first | exact Frm.nil | exact Take.here | apply Take.there | apply Frm.cons)) h)) ?_
        rintro _ _ ⟨rfl, rfl⟩
        refine tr_e 12 rfl (by kernel_rfl) (eff_store rfl rfl rfl rfl sz_84 (by first | (simp [Flat]; done) | exact flatS _ | exact flatB _ | exact flatTick _ | exact flatRow _ | exact flatEvt _ | exact flatI _) (by repeat (first | exact Upd.here | apply Upd.there)) (by repeat (first | exact LPut.nil | apply LPut.cons | apply LPut.succ))) (by rintro _ _ ⟨rfl, rfl⟩; exact (fun _ h => hold_sub (by repeat (first | exact Frm.nil | exact Take.here | apply Take.there | apply Frm.cons)) h)) ?_
        rintro _ _ ⟨rfl, rfl⟩
        refine tr_done (by kernel_rfl) ?_
        refine te_join (b5, b6) (by exact sub_cons rfl (sub_cons rfl (sub_cons rfl (sub_cons rfl (sub_cons rfl (sub_nil)))))) (fun _ h => hold_keep (by repeat (first | exact Frm.nil | exact Take.here | apply Take.there | apply Frm.cons)) h) ?_
        trivial
      · refine to_e rfl (eff_alloc rfl zero_84 rfl) (by rintro _ _ ⟨_, rfl, rfl⟩; exact (fun _ h => hold_sub (by repeat (first | exact Frm.nil | exact Take.here | apply Take.there | apply Frm.cons)) h)) ?_
        rintro _ _ ⟨b6, rfl, rfl⟩
        refine tr_e 9 rfl (by kernel_rfl) (eff_alloc rfl zero_33 rfl) (by rintro _ _ ⟨_, rfl, rfl⟩; exact (fun _ h => hold_sub (by repeat (first | exact Frm.nil | exact Take.here | apply Take.there | apply Frm.cons)) h)) ?_
        rintro _ _ ⟨b5, rfl, rfl⟩
        refine tr_e 11 rfl (by kernel_rfl) (eff_store rfl rfl rfl rfl sz_33 (by first | (simp [Flat]; done) | exact flatS _ | exact flatB _ | exact flatTick _ | exact flatRow _ | exact flatEvt _ | exact flatI _) (by repeat (first | exact Upd.here | apply Upd.there)) (by repeat (first | exact LPut.nil | apply LPut.cons | apply LPut.succ))) (by rintro _ _ ⟨rfl, rfl⟩; exact (fun _ h => hold_sub (by repeat (first | exact Frm.nil | exact Take.here | apply Take.there | apply Frm.cons)) h)) ?_
        rintro _ _ ⟨rfl, rfl⟩
        refine tr_e 12 rfl (by kernel_rfl) (eff_store rfl rfl rfl rfl sz_84 (by first | (simp [Flat]; done) | exact flatS _ | exact flatB _ | exact flatTick _ | exact flatRow _ | exact flatEvt _ | exact flatI _) (by repeat (first | exact Upd.here | apply Upd.there)) (by repeat (first | exact LPut.nil | apply LPut.cons | apply LPut.succ))) (by rintro _ _ ⟨rfl, rfl⟩; exact (fun _ h => hold_sub (by repeat (first | exact Frm.nil | exact Take.here | apply Take.there | apply Frm.cons)) h)) ?_
        rintro _ _ ⟨rfl, rfl⟩
        refine tr_done (by kernel_rfl) ?_
        refine te_join (b5, b6) (by exact sub_cons rfl (sub_cons rfl (sub_cons rfl (sub_cons rfl (sub_cons rfl (sub_nil)))))) (fun _ h => hold_keep (by repeat (first | exact Frm.nil | exact Take.here | apply Take.there | apply Frm.cons)) h) ?_
        trivial
    · refine to_e rfl (eff_alloc rfl zero_33 rfl) (by rintro _ _ ⟨_, rfl, rfl⟩; exact (fun _ h => hold_sub (by repeat (first | exact Frm.nil | exact Take.here | apply Take.there | apply Frm.cons)) h)) ?_
      rintro _ _ ⟨b5, rfl, rfl⟩
      refine tr_any [8, 10] (by kernel_rfl) (by simp) (all_cons ?_ (all_cons ?_ (all_nil)))
      · refine to_e rfl (eff_call rfl rfl body_89 rfl (by repeat (first | exact Frm.nil | exact Take.here | apply Take.there | apply Frm.cons)) (eng_Tally_ct _ _ _)) (by rintro _ _ ⟨_, _, ⟨rfl, rfl⟩, rfl, rfl⟩; exact (fun _ h => hold_sub (by repeat (first | exact Frm.nil | exact Take.here | apply Take.there | apply Frm.cons)) h)) ?_
        rintro _ _ ⟨v16, _, ⟨rfl, rfl⟩, rfl, rfl⟩
        refine tr_e 10 rfl (by kernel_rfl) (eff_alloc rfl zero_84 rfl) (by rintro _ _ ⟨_, rfl, rfl⟩; exact (fun _ h => hold_sub (by repeat (first | exact Frm.nil | exact Take.here | apply Take.there | apply Frm.cons)) h)) ?_
        rintro _ _ ⟨b6, rfl, rfl⟩
        refine tr_e 11 rfl (by kernel_rfl) (eff_store rfl rfl rfl rfl sz_33 (by first | (simp [Flat]; done) | exact flatS _ | exact flatB _ | exact flatTick _ | exact flatRow _ | exact flatEvt _ | exact flatI _) (by repeat (first | exact Upd.here | apply Upd.there)) (by repeat (first | exact LPut.nil | apply LPut.cons | apply LPut.succ))) (by rintro _ _ ⟨rfl, rfl⟩; exact (fun _ h => hold_sub (by repeat (first | exact Frm.nil | exact Take.here | apply Take.there | apply Frm.cons)) h)) ?_
        rintro _ _ ⟨rfl, rfl⟩
        refine tr_e 12 rfl (by kernel_rfl) (eff_store rfl rfl rfl rfl sz_84 (by first | (simp [Flat]; done) | exact flatS _ | exact flatB _ | exact flatTick _ | exact flatRow _ | exact flatEvt _ | exact flatI _) (by repeat (first | exact Upd.here | apply Upd.there)) (by repeat (first | exact LPut.nil | apply LPut.cons | apply LPut.succ))) (by rintro _ _ ⟨rfl, rfl⟩; exact (fun _ h => hold_sub (by repeat (first | exact Frm.nil | exact Take.here | apply Take.there | apply Frm.cons)) h)) ?_
        rintro _ _ ⟨rfl, rfl⟩
        refine tr_done (by kernel_rfl) ?_
        refine te_join (b5, b6) (by exact sub_cons rfl (sub_cons rfl (sub_cons rfl (sub_cons rfl (sub_cons rfl (sub_nil)))))) (fun _ h => hold_keep (by repeat (first | exact Frm.nil | exact Take.here | apply Take.there | apply Frm.cons)) h) ?_
        trivial
      · refine to_e rfl (eff_alloc rfl zero_84 rfl) (by rintro _ _ ⟨_, rfl, rfl⟩; exact (fun _ h => hold_sub (by repeat (first | exact Frm.nil | exact Take.here | apply Take.there | apply Frm.cons)) h)) ?_
        rintro _ _ ⟨b6, rfl, rfl⟩
        refine tr_e 8 rfl (by kernel_rfl) (eff_call rfl rfl body_89 rfl (by repeat (first | exact Frm.nil | exact Take.here | apply Take.there | apply Frm.cons)) (eng_Tally_ct _ _ _)) (by rintro _ _ ⟨_, _, ⟨rfl, rfl⟩, rfl, rfl⟩; exact (fun _ h => hold_sub (by repeat (first | exact Frm.nil | exact Take.here | apply Take.there | apply Frm.cons)) h)) ?_
        rintro _ _ ⟨v16, _, ⟨rfl, rfl⟩, rfl, rfl⟩
        refine tr_e 11 rfl (by kernel_rfl) (eff_store rfl rfl rfl rfl sz_33 (by first | (simp [Flat]; done) | exact flatS _ | exact flatB _ | exact flatTick _ | exact flatRow _ | exact flatEvt _ | exact flatI _) (by repeat (first | exact Upd.here | apply Upd.there)) (by repeat (first | exact LPut.nil | apply LPut.cons | apply LPut.succ))) (by rintro _ _ ⟨rfl, rfl⟩; exact (fun _ h => hold_sub (by repeat (first | exact Frm.nil | exact Take.here | apply Take.there | apply Frm.cons)) h)) ?_
        rintro _ _ ⟨rfl, rfl⟩
        refine tr_e 12 rfl (by kernel_rfl) (eff_store rfl rfl rfl rfl sz_84 (by first | (simp [Flat]; done) | exact flatS _ | exact flatB _ | exact flatTick _ | exact flatRow _ | exact flatEvt _ | exact flatI _) (by repeat (first | exact Upd.here | apply Upd.there)) (by repeat (first | exact LPut.nil | apply LPut.cons | apply LPut.succ))) (by rintro _ _ ⟨rfl, rfl⟩; exact (fun _ h => hold_sub (by repeat (first | exact Frm.nil | exact Take.here | apply Take.there | apply Frm.cons)) h)) ?_
        rintro _ _ ⟨rfl, rfl⟩
        refine tr_done (by kernel_rfl) ?_
        refine te_join (b5, b6) (by exact sub_cons rfl (sub_cons rfl (sub_cons rfl (sub_cons rfl (sub_cons rfl (sub_nil)))))) (fun _ h => hold_keep (by repeat (first | exact Frm.nil | exact Take.here | apply Take.there | apply Frm.cons)) h) ?_
        trivial
    · refine to_e rfl (eff_alloc rfl zero_84 rfl) (by rintro _ _ ⟨_, rfl, rfl⟩; exact (fun _ h => hold_sub (by repeat (first | exact Frm.nil | exact Take.here | apply Take.there | apply Frm.cons)) h)) ?_
      rintro _ _ ⟨b6, rfl, rfl⟩
      refine tr_any [8, 9] (by kernel_rfl) (by simp) (all_cons ?_ (all_cons ?_ (all_nil)))
      · refine to_e rfl (eff_call rfl rfl body_89 rfl (by repeat (first | exact Frm.nil | exact Take.here | apply Take.there | apply Frm.cons)) (eng_Tally_ct _ _ _)) (by rintro _ _ ⟨_, _, ⟨rfl, rfl⟩, rfl, rfl⟩; exact (fun _ h => hold_sub (by repeat (first | exact Frm.nil | exact Take.here | apply Take.there | apply Frm.cons)) h)) ?_
        rintro _ _ ⟨v16, _, ⟨rfl, rfl⟩, rfl, rfl⟩
        refine tr_e 9 rfl (by kernel_rfl) (eff_alloc rfl zero_33 rfl) (by rintro _ _ ⟨_, rfl, rfl⟩; exact (fun _ h => hold_sub (by repeat (first | exact Frm.nil | exact Take.here | apply Take.there | apply Frm.cons)) h)) ?_
        rintro _ _ ⟨b5, rfl, rfl⟩
        refine tr_e 11 rfl (by kernel_rfl) (eff_store rfl rfl rfl rfl sz_33 (by first | (simp [Flat]; done) | exact flatS _ | exact flatB _ | exact flatTick _ | exact flatRow _ | exact flatEvt _ | exact flatI _) (by repeat (first | exact Upd.here | apply Upd.there)) (by repeat (first | exact LPut.nil | apply LPut.cons | apply LPut.succ))) (by rintro _ _ ⟨rfl, rfl⟩; exact (fun _ h => hold_sub (by repeat (first | exact Frm.nil | exact Take.here | apply Take.there | apply Frm.cons)) h)) ?_
        rintro _ _ ⟨rfl, rfl⟩
        refine tr_e 12 rfl (by kernel_rfl) (eff_store rfl rfl rfl rfl sz_84 (by first | (simp [Flat]; done) | exact flatS _ | exact flatB _ | exact flatTick _ | exact flatRow _ | exact flatEvt _ | exact flatI _) (by repeat (first | exact Upd.here | apply Upd.there)) (by repeat (first | exact LPut.nil | apply LPut.cons | apply LPut.succ))) (by rintro _ _ ⟨rfl, rfl⟩; exact (fun _ h => hold_sub (by repeat (first | exact Frm.nil | exact Take.here | apply Take.there | apply Frm.cons)) h)) ?_
        rintro _ _ ⟨rfl, rfl⟩
        refine tr_done (by kernel_rfl) ?_
        refine te_join (b5, b6) (by exact sub_cons rfl (sub_cons rfl (sub_cons rfl (sub_cons rfl (sub_cons rfl (sub_nil)))))) (fun _ h => hold_keep (by repeat (first | exact Frm.nil | exact Take.here | apply Take.there | apply Frm.cons)) h) ?_
        trivial
      · refine to_e rfl (eff_alloc rfl zero_33 rfl) (by rintro _ _ ⟨_, rfl, rfl⟩; exact (fun _ h => hold_sub (by repeat (first | exact Frm.nil | exact Take.here | apply Take.there | apply Frm.cons)) h)) ?_
        rintro _ _ ⟨b5, rfl, rfl⟩
        refine tr_e 8 rfl (by kernel_rfl) (eff_call rfl rfl body_89 rfl (by repeat (first | exact Frm.nil | exact Take.here | apply Take.there | apply Frm.cons)) (eng_Tally_ct _ _ _)) (by rintro _ _ ⟨_, _, ⟨rfl, rfl⟩, rfl, rfl⟩; exact (fun _ h => hold_sub (by repeat (first | exact Frm.nil | exact Take.here | apply Take.there | apply Frm.cons)) h)) ?_
        rintro _ _ ⟨v16, _, ⟨rfl, rfl⟩, rfl, rfl⟩
        refine tr_e 11 rfl (by kernel_rfl) (eff_store rfl rfl rfl rfl sz_33 (by first | (simp [Flat]; done) | exact flatS _ | exact flatB _ | exact flatTick _ | exact flatRow _ | exact flatEvt _ | exact flatI _) (by repeat (first | exact Upd.here | apply Upd.there)) (by repeat (first | exact LPut.nil | apply LPut.cons | apply LPut.succ))) (by rintro _ _ ⟨rfl, rfl⟩; exact (fun _ h => hold_sub (by repeat (first | exact Frm.nil | exact Take.here | apply Take.there | apply Frm.cons)) h)) ?_
        rintro _ _ ⟨rfl, rfl⟩
        refine tr_e 12 rfl (by kernel_rfl) (eff_store rfl rfl rfl rfl sz_84 (by first | (simp [Flat]; done) | exact flatS _ | exact flatB _ | exact flatTick _ | exact flatRow _ | exact flatEvt _ | exact flatI _) (by repeat (first | exact Upd.here | apply Upd.there)) (by repeat (first | exact LPut.nil | apply LPut.cons | apply LPut.succ))) (by rintro _ _ ⟨rfl, rfl⟩; exact (fun _ h => hold_sub (by repeat (first | exact Frm.nil | exact Take.here | apply Take.there | apply Frm.cons)) h)) ?_
        rintro _ _ ⟨rfl, rfl⟩
        refine tr_done (by kernel_rfl) ?_
        refine te_join (b5, b6) (by exact sub_cons rfl (sub_cons rfl (sub_cons rfl (sub_cons rfl (sub_cons rfl (sub_nil)))))) (fun _ h => hold_keep (by repeat (first | exact Frm.nil | exact Take.here | apply Take.there | apply Frm.cons)) h) ?_
        trivial
  · rintro ⟨b5, b6⟩ _
    refine t_seq ?_
    refine t_region ?_
    refine tl_q rfl (ev_move rfl) ?_
    refine tl_q rfl (ev_move rfl) ?_
    refine tl_q rfl (ev_nil_ptr rfl) ?_
    refine tl_q rfl (ev_fieldAddr fa_35_0 rfl rfl) ?_
    refine tl_q rfl (ev_load sc_30 rfl (by first | (left; (repeat (first | exact List.Mem.head _ | apply List.Mem.tail)); done) | (right; (repeat (first | exact List.Mem.head _ | apply List.Mem.tail)); done)) rfl) ?_
    refine tl_e (eff_call rfl rfl body_90 rfl (by repeat (first | exact Frm.nil | exact Take.here | apply Take.there | apply Frm.cons)) (eng_Now_ct _ _ _)) ?_
    rintro _ _ ⟨v22, _, ⟨rfl, rfl⟩, rfl, rfl⟩
    refine tl_e (eff_callv rfl rfl rfl body_88 rfl (by repeat (first | exact Frm.nil | exact Take.here | apply Take.there | apply Frm.cons)) (say_ct b3 _ _ (by simp) _ (by decide) _ (by omega))) ?_
    rintro _ _ ⟨_, _, ⟨ov, rfl, rfl⟩, rfl, rfl⟩
    refine tl_nil ?_
    refine te_code ?_
    refine t_seq ?_
    refine t_region ?_
    refine tl_q rfl (ev_move rfl) ?_
    refine tl_q rfl (ev_fieldAddr fa_33_0 rfl rfl) ?_
    refine tl_q rfl (ev_load sc_3 rfl (by first | (left; (repeat (first | exact List.Mem.head _ | apply List.Mem.tail)); done) | (right; (repeat (first | exact List.Mem.head _ | apply List.Mem.tail)); done)) rfl) ?_
    refine tl_e (eff_callv rfl rfl rfl body_88 rfl (by repeat (first | exact Frm.nil | exact Take.here | apply Take.there | apply Frm.cons)) (say_ct b3 _ _ (by simp) _ (by decide) _ (by omega))) ?_
    rintro _ _ ⟨_, _, ⟨ov, rfl, rfl⟩, rfl, rfl⟩
    refine tl_nil ?_
    refine te_code ?_
    refine t_seq ?_
    refine t_region ?_
    refine tl_q rfl (ev_move rfl) ?_
    refine tl_q rfl (ev_fieldAddr fa_33_1 rfl rfl) ?_
    refine tl_q rfl (ev_load sc_3 rfl (by first | (left; (repeat (first | exact List.Mem.head _ | apply List.Mem.tail)); done) | (right; (repeat (first | exact List.Mem.head _ | apply List.Mem.tail)); done)) rfl) ?_
    refine tl_e (eff_callv rfl rfl rfl body_88 rfl (by repeat (first | exact Frm.nil | exact Take.here | apply Take.there | apply Frm.cons)) (say_ct b3 _ _ (by simp) _ (by decide) _ (by omega))) ?_
    rintro _ _ ⟨_, _, ⟨ov, rfl, rfl⟩, rfl, rfl⟩
    refine tl_nil ?_
    refine te_code ?_
    refine t_seq ?_
    refine t_region ?_
    refine tl_q rfl (ev_move rfl) ?_
    refine tl_q rfl (ev_fieldAddr fa_33_2 rfl rfl) ?_
    refine tl_q rfl (ev_load sc_3 rfl (by first | (left; (repeat (first | exact List.Mem.head _ | apply List.Mem.tail)); done) | (right; (repeat (first | exact List.Mem.head _ | apply List.Mem.tail)); done)) rfl) ?_
    refine tl_e (eff_callv rfl rfl rfl body_88 rfl (by repeat (first | exact Frm.nil | exact Take.here | apply Take.there | apply Frm.cons)) (say_ct b3 _ _ (by simp) _ (by decide) _ (by omega))) ?_
    rintro _ _ ⟨_, _, ⟨ov, rfl, rfl⟩, rfl, rfl⟩
    refine tl_nil ?_
    refine te_code ?_
    refine t_seq ?_
    refine t_region ?_
    refine tl_q rfl (ev_move rfl) ?_
    refine tl_q rfl (ev_fieldAddr fa_33_3 rfl rfl) ?_
    refine tl_q rfl (ev_load sc_3 rfl (by first | (left; (repeat (first | exact List.Mem.head _ | apply List.Mem.tail)); done) | (right; (repeat (first | exact List.Mem.head _ | apply List.Mem.tail)); done)) rfl) ?_
    refine tl_e (eff_callv rfl rfl rfl body_88 rfl (by repeat (first | exact Frm.nil | exact Take.here | apply Take.there | apply Frm.cons)) (say_ct b3 _ _ (by simp) _ (by decide) _ (by omega))) ?_
    rintro _ _ ⟨_, _, ⟨ov, rfl, rfl⟩, rfl, rfl⟩
    refine tl_nil ?_
    refine te_code ?_
    refine t_seq ?_
    refine t_region ?_
    refine tl_q rfl (ev_move rfl) ?_
    refine tl_q rfl (ev_fieldAddr fa_33_4 rfl rfl) ?_
    refine tl_q rfl (ev_load sc_3 rfl (by first | (left; (repeat (first | exact List.Mem.head _ | apply List.Mem.tail)); done) | (right; (repeat (first | exact List.Mem.head _ | apply List.Mem.tail)); done)) rfl) ?_
    refine tl_e (eff_callv rfl rfl rfl body_88 rfl (by repeat (first | exact Frm.nil | exact Take.here | apply Take.there | apply Frm.cons)) (say_ct b3 _ _ (by simp) _ (by decide) _ (by omega))) ?_
    rintro _ _ ⟨_, _, ⟨ov, rfl, rfl⟩, rfl, rfl⟩
    refine tl_nil ?_
    refine te_code ?_
    refine t_seq ?_
    refine t_region ?_
    refine tl_q rfl (ev_move rfl) ?_
    refine tl_q rfl (ev_fieldAddr fa_33_5 rfl rfl) ?_
    refine tl_q rfl (ev_load sc_3 rfl (by first | (left; (repeat (first | exact List.Mem.head _ | apply List.Mem.tail)); done) | (right; (repeat (first | exact List.Mem.head _ | apply List.Mem.tail)); done)) rfl) ?_
    refine tl_e (eff_callv rfl rfl rfl body_88 rfl (by repeat (first | exact Frm.nil | exact Take.here | apply Take.there | apply Frm.cons)) (say_ct b3 _ _ (by simp) _ (by decide) _ (by omega))) ?_
    rintro _ _ ⟨_, _, ⟨ov, rfl, rfl⟩, rfl, rfl⟩
    refine tl_nil ?_
    refine te_code ?_
    refine t_seq ?_
    refine t_region ?_
    refine tl_q rfl (ev_move rfl) ?_
    refine tl_q rfl (ev_fieldAddr fa_33_6 rfl rfl) ?_
    refine tl_q rfl (ev_load sc_3 rfl (by first | (left; (repeat (first | exact List.Mem.head _ | apply List.Mem.tail)); done) | (right; (repeat (first | exact List.Mem.head _ | apply List.Mem.tail)); done)) rfl) ?_
    refine tl_e (eff_callv rfl rfl rfl body_88 rfl (by repeat (first | exact Frm.nil | exact Take.here | apply Take.there | apply Frm.cons)) (say_ct b3 _ _ (by simp) _ (by decide) _ (by omega))) ?_
    rintro _ _ ⟨_, _, ⟨ov, rfl, rfl⟩, rfl, rfl⟩
    refine tl_nil ?_
    refine te_code ?_
    refine t_seq ?_
    refine t_region ?_
    refine tl_q rfl (ev_move rfl) ?_
    refine tl_q rfl (ev_fieldAddr fa_84_0 rfl rfl) ?_
    refine tl_q rfl (ev_load sc_3 rfl (by first | (left; (repeat (first | exact List.Mem.head _ | apply List.Mem.tail)); done) | (right; (repeat (first | exact List.Mem.head _ | apply List.Mem.tail)); done)) rfl) ?_
    refine tl_e (eff_callv rfl rfl rfl body_88 rfl (by repeat (first | exact Frm.nil | exact Take.here | apply Take.there | apply Frm.cons)) (say_ct b3 _ _ (by simp) _ (by decide) _ (by omega))) ?_
    rintro _ _ ⟨_, _, ⟨ov, rfl, rfl⟩, rfl, rfl⟩
    refine tl_nil ?_
    refine te_code ?_
    refine t_seq ?_
    refine t_region ?_
    refine tl_q rfl (ev_move rfl) ?_
    refine tl_q rfl (ev_fieldAddr fa_84_1 rfl rfl) ?_
    refine tl_q rfl (ev_load sc_3 rfl (by first | (left; (repeat (first | exact List.Mem.head _ | apply List.Mem.tail)); done) | (right; (repeat (first | exact List.Mem.head _ | apply List.Mem.tail)); done)) rfl) ?_
    refine tl_e (eff_callv rfl rfl rfl body_88 rfl (by repeat (first | exact Frm.nil | exact Take.here | apply Take.there | apply Frm.cons)) (say_ct b3 _ _ (by simp) _ (by decide) _ (by omega))) ?_
    rintro _ _ ⟨_, _, ⟨ov, rfl, rfl⟩, rfl, rfl⟩
    refine tl_nil ?_
    refine te_code ?_
    refine t_seq ?_
    refine t_region ?_
    refine tl_q rfl (ev_move rfl) ?_
    refine tl_q rfl (ev_fieldAddr fa_84_2 rfl rfl) ?_
    refine tl_q rfl (ev_load sc_3 rfl (by first | (left; (repeat (first | exact List.Mem.head _ | apply List.Mem.tail)); done) | (right; (repeat (first | exact List.Mem.head _ | apply List.Mem.tail)); done)) rfl) ?_
    refine tl_e (eff_callv rfl rfl rfl body_88 rfl (by repeat (first | exact Frm.nil | exact Take.here | apply Take.there | apply Frm.cons)) (say_ct b3 _ _ (by simp) _ (by decide) _ (by omega))) ?_
    rintro _ _ ⟨_, _, ⟨ov, rfl, rfl⟩, rfl, rfl⟩
    refine tl_nil ?_
    refine te_code ?_
    refine t_seq ?_
    refine t_region ?_
    refine tl_q rfl (ev_move rfl) ?_
    refine tl_q rfl (ev_fieldAddr fa_84_3 rfl rfl) ?_
    refine tl_q rfl (ev_load sc_3 rfl (by first | (left; (repeat (first | exact List.Mem.head _ | apply List.Mem.tail)); done) | (right; (repeat (first | exact List.Mem.head _ | apply List.Mem.tail)); done)) rfl) ?_
    refine tl_e (eff_callv rfl rfl rfl body_88 rfl (by repeat (first | exact Frm.nil | exact Take.here | apply Take.there | apply Frm.cons)) (say_ct b3 _ _ (by simp) _ (by decide) _ (by omega))) ?_
    rintro _ _ ⟨_, _, ⟨ov, rfl, rfl⟩, rfl, rfl⟩
    refine tl_nil ?_
    refine te_code ?_
    refine t_seq ?_
    refine t_region ?_
    refine tl_q rfl (ev_move rfl) ?_
    refine tl_q rfl (ev_fieldAddr fa_84_4 rfl rfl) ?_
    refine tl_q rfl (ev_load sc_3 rfl (by first | (left; (repeat (first | exact List.Mem.head _ | apply List.Mem.tail)); done) | (right; (repeat (first | exact List.Mem.head _ | apply List.Mem.tail)); done)) rfl) ?_
    refine tl_e (eff_callv rfl rfl rfl body_88 rfl (by repeat (first | exact Frm.nil | exact Take.here | apply Take.there | apply Frm.cons)) (say_ct b3 _ _ (by simp) _ (by decide) _ (by omega))) ?_
    rintro _ _ ⟨_, _, ⟨ov, rfl, rfl⟩, rfl, rfl⟩
    refine tl_nil ?_
    refine te_code ?_
    refine t_seq ?_
    refine t_region ?_
    refine tl_q rfl (ev_move rfl) ?_
    refine tl_q rfl (ev_fieldAddr fa_84_5 rfl rfl) ?_
    refine tl_q rfl (ev_load sc_3 rfl (by first | (left; (repeat (first | exact List.Mem.head _ | apply List.Mem.tail)); done) | (right; (repeat (first | exact List.Mem.head _ | apply List.Mem.tail)); done)) rfl) ?_
    refine tl_e (eff_callv rfl rfl rfl body_88 rfl (by repeat (first | exact Frm.nil | exact Take.here | apply Take.there | apply Frm.cons)) (say_ct b3 _ _ (by simp) _ (by decide) _ (by omega))) ?_
    rintro _ _ ⟨_, _, ⟨ov, rfl, rfl⟩, rfl, rfl⟩
    refine tl_nil ?_
    refine te_code ?_
    refine t_seq ?_
    refine t_region ?_
    refine tl_q rfl (ev_move rfl) ?_
    refine tl_q rfl (ev_fieldAddr fa_84_6 rfl rfl) ?_
    refine tl_q rfl (ev_load sc_3 rfl (by first | (left; (repeat (first | exact List.Mem.head _ | apply List.Mem.tail)); done) | (right; (repeat (first | exact List.Mem.head _ | apply List.Mem.tail)); done)) rfl) ?_
    refine tl_e (eff_callv rfl rfl rfl body_88 rfl (by repeat (first | exact Frm.nil | exact Take.here | apply Take.there | apply Frm.cons)) (say_ct b3 _ _ (by simp) _ (by decide) _ (by omega))) ?_
    rintro _ _ ⟨_, _, ⟨ov, rfl, rfl⟩, rfl, rfl⟩
    refine tl_nil ?_
    refine te_code ?_
    refine t_seq ?_
    refine t_region ?_
    refine tl_q rfl (ev_move rfl) ?_
    refine tl_q rfl (ev_move rfl) ?_
    refine tl_q rfl (ev_nil_ptr rfl) ?_
    refine tl_q rfl (ev_fieldAddr fa_35_0 rfl rfl) ?_
    refine tl_q rfl (ev_load sc_30 rfl (by first | (left; (repeat (first | exact List.Mem.head _ | apply List.Mem.tail)); done) | (right; (repeat (first | exact List.Mem.head _ | apply List.Mem.tail)); done)) rfl) ?_
    refine tl_e (eff_call rfl rfl body_7 rfl (by repeat (first | exact Frm.nil | exact Take.here | apply Take.there | apply Frm.cons)) (eng_Board_ct _ _ _)) ?_
    rintro _ _ ⟨v85, _, ⟨rfl, rfl⟩, rfl, rfl⟩
    refine tl_e (eff_call rfl rfl body_91 rfl (by repeat (first | exact Frm.nil | exact Take.here | apply Take.there | apply Frm.cons)) (board_Len_ct bb m1 m2 40 next rows)) ?_
    rintro _ _ ⟨v86, _, ⟨rfl, rfl⟩, rfl, rfl⟩
    refine tl_e (eff_callv rfl rfl rfl body_88 rfl (by repeat (first | exact Frm.nil | exact Take.here | apply Take.there | apply Frm.cons)) (say_ct b3 _ _ (by simp) _ (by decide) _ (by omega))) ?_
    rintro _ _ ⟨_, _, ⟨ov, rfl, rfl⟩, rfl, rfl⟩
    refine tl_nil ?_
    refine te_code ?_
    refine t_seq ?_
    refine t_region ?_
    refine tl_q rfl (ev_move rfl) ?_
    refine tl_q rfl (ev_move rfl) ?_
    refine tl_q rfl (ev_nil_ptr rfl) ?_
    refine tl_q rfl (ev_fieldAddr fa_35_0 rfl rfl) ?_
    refine tl_q rfl (ev_load sc_30 rfl (by first | (left; (repeat (first | exact List.Mem.head _ | apply List.Mem.tail)); done) | (right; (repeat (first | exact List.Mem.head _ | apply List.Mem.tail)); done)) rfl) ?_
    refine tl_e (eff_call rfl rfl body_92 rfl (by repeat (first | exact Frm.nil | exact Take.here | apply Take.there | apply Frm.cons)) (eng_Hold_ct _ _ _)) ?_
    rintro _ _ ⟨v93, _, ⟨rfl, rfl⟩, rfl, rfl⟩
    refine tl_e (eff_call rfl rfl body_93 rfl (by repeat (first | exact Frm.nil | exact Take.here | apply Take.there | apply Frm.cons)) (hold_Len_ct hh hb m4 m5)) ?_
    rintro _ _ ⟨v94, _, ⟨rfl, rfl⟩, rfl, rfl⟩
    refine tl_e (eff_callv rfl rfl rfl body_88 rfl (by repeat (first | exact Frm.nil | exact Take.here | apply Take.there | apply Frm.cons)) (say_ct b3 _ _ (by simp) _ (by decide) _ (by omega))) ?_
    rintro _ _ ⟨_, _, ⟨ov, rfl, rfl⟩, rfl, rfl⟩
    refine tl_nil ?_
    refine te_code ?_
    refine t_seq ?_
    refine t_region ?_
    refine tl_q rfl (ev_move rfl) ?_
    refine tl_q rfl (ev_move rfl) ?_
    refine tl_q rfl (ev_nil_ptr rfl) ?_
    refine tl_q rfl (ev_fieldAddr fa_35_1 rfl rfl) ?_
    refine tl_q rfl (ev_load sc_31 rfl (by first | (left; (repeat (first | exact List.Mem.head _ | apply List.Mem.tail)); done) | (right; (repeat (first | exact List.Mem.head _ | apply List.Mem.tail)); done)) rfl) ?_
    refine tl_e (eff_call rfl rfl body_15 rfl (by repeat (first | exact Frm.nil | exact Take.here | apply Take.there | apply Frm.cons)) (outbox_Len_ct ob mo last refused ls)) ?_
    rintro _ _ ⟨v101, _, ⟨rfl, rfl⟩, rfl, rfl⟩
    refine tl_e (eff_callv rfl rfl rfl body_88 rfl (by repeat (first | exact Frm.nil | exact Take.here | apply Take.there | apply Frm.cons)) (say_ct b3 _ _ (by simp) _ (by decide) _ (by omega))) ?_
    rintro _ _ ⟨_, _, ⟨ov, rfl, rfl⟩, rfl, rfl⟩
    refine tl_nil ?_
    refine te_code ?_
    refine t_seq ?_
    refine t_region ?_
    refine tl_q rfl (ev_move rfl) ?_
    refine tl_q rfl (ev_move rfl) ?_
    refine tl_q rfl (ev_nil_ptr rfl) ?_
    refine tl_q rfl (ev_fieldAddr fa_35_1 rfl rfl) ?_
    refine tl_q rfl (ev_load sc_31 rfl (by first | (left; (repeat (first | exact List.Mem.head _ | apply List.Mem.tail)); done) | (right; (repeat (first | exact List.Mem.head _ | apply List.Mem.tail)); done)) rfl) ?_
    refine tl_e (eff_call rfl rfl body_94 rfl (by repeat (first | exact Frm.nil | exact Take.here | apply Take.there | apply Frm.cons)) (outbox_Last_ct ob mo last refused)) ?_
    rintro _ _ ⟨v108, _, ⟨rfl, rfl⟩, rfl, rfl⟩
    refine tl_e (eff_callv rfl rfl rfl body_88 rfl (by repeat (first | exact Frm.nil | exact Take.here | apply Take.there | apply Frm.cons)) (say_ct b3 _ _ (by simp) _ (by decide) _ (by omega))) ?_
    rintro _ _ ⟨_, _, ⟨ov, rfl, rfl⟩, rfl, rfl⟩
    refine tl_nil ?_
    refine te_code ?_
    refine t_seq ?_
    refine t_region ?_
    refine tl_q rfl (ev_move rfl) ?_
    refine tl_q rfl (ev_move rfl) ?_
    refine tl_q rfl (ev_nil_ptr rfl) ?_
    refine tl_q rfl (ev_fieldAddr fa_35_1 rfl rfl) ?_
    refine tl_q rfl (ev_load sc_31 rfl (by first | (left; (repeat (first | exact List.Mem.head _ | apply List.Mem.tail)); done) | (right; (repeat (first | exact List.Mem.head _ | apply List.Mem.tail)); done)) rfl) ?_
    refine tl_e (eff_call rfl rfl body_95 rfl (by repeat (first | exact Frm.nil | exact Take.here | apply Take.there | apply Frm.cons)) (outbox_Refused_ct ob mo last refused)) ?_
    rintro _ _ ⟨v115, _, ⟨rfl, rfl⟩, rfl, rfl⟩
    refine tl_e (eff_callv rfl rfl rfl body_88 rfl (by repeat (first | exact Frm.nil | exact Take.here | apply Take.there | apply Frm.cons)) (say_ct b3 _ _ (by simp) _ (by decide) _ (by omega))) ?_
    rintro _ _ ⟨_, _, ⟨ov, rfl, rfl⟩, rfl, rfl⟩
    refine tl_nil ?_
    refine te_code ?_
    refine t_seq ?_
    refine t_region ?_
    refine tl_q rfl (ev_load sc_38 rfl (by first | (left; (repeat (first | exact List.Mem.head _ | apply List.Mem.tail)); done) | (right; (repeat (first | exact List.Mem.head _ | apply List.Mem.tail)); done)) rfl) ?_
    refine tl_q rfl (ev_assign rfl) ?_
    refine tl_nil ?_
    refine te_code ?_
    refine t_ret ?_
    refine te_ret_k (pre := [arr _ _ encS ov _, stB sb eb ob, engB eb bb hh, boardB bb m1 m2 40 next, mp iI rowV m1 rows, boxB ob mo last refused, mp iI letV mo ls, holdB hh hb m4 m5, mp iI (fun x : Value => x) m4 [], powA]) (res1 rfl rfl) (by repeat (first | exact Frm.nil | exact Take.here | apply Take.there | apply Frm.cons)) ?_
    exact ⟨_, _, rfl, by simp, by simp, by simp, rfl⟩

theorem parse1_ct (sb eb ob bb hh hb mo m1 m2 m4 m5 : Nat) (next last refused : Int) (rows : List (Int × Row)) (ls : List (Int × Letter)) (hl : rows.length ≤ 1000) (hls : ls.length ≤ 1000) (hla : 0 ≤ last ∧ last ≤ 100000) (hre : 0 ≤ refused ∧ refused ≤ 100000) : CT Tryz.prog 53 #[.pointer (some ⟨sb, 0, none⟩)] [stB sb eb ob, engB eb bb hh, boardB bb m1 m2 40 next, mp iI rowV m1 rows, boxB ob mo last refused, mp iI letV mo ls, holdB hh hb m4 m5, mp iI (fun x : Value => x) m4 [], powA] (fun v M => ∃ (sv : Value) (xs : List ByteArray), v = .tuple #[sv, .int .i64 0] ∧ xs.length = 20 ∧ ((⟨#[114, 111, 119, 115]⟩ : ByteArray) ++ ⟨#[32]⟩ ++ itoaB (rows.length : Int)) ∈ xs ∧ ((⟨#[116, 105, 99, 107, 101, 116, 115]⟩ : ByteArray) ++ ⟨#[32]⟩ ++ itoaB (ls.length : Int)) ∈ xs ∧ M = [arr 9 1 encS sv xs, stB sb eb ob, engB eb bb hh, boardB bb m1 m2 40 next, mp iI rowV m1 rows, boxB ob mo last refused, mp iI letV mo ls, holdB hh hb m4 m5, mp iI (fun x : Value => x) m4 [], powA]) := by
  refine t_fun (vs := [.pointer (some ⟨sb, 0, none⟩)]) (n := 6) Tryz.func53 rfl Tryz.ntmps53 rfl fun w0 F => ?_
  refine t_seq ?_
  refine t_region ?_
  refine tl_q rfl (ev_assign rfl) ?_
  refine tl_q rfl (ev_assign rfl) ?_
  refine tl_nil ?_
  refine te_code ?_
  refine t_seq ?_
  refine t_region ?_
  refine tl_q rfl (ev_move rfl) ?_
  refine tl_e (eff_call rfl rfl body_54 rfl (by repeat (first | exact Frm.nil | exact Take.here | apply Take.there | apply Frm.cons)) (stats_ct sb eb ob bb hh hb mo m1 m2 m4 m5 next last refused rows ls hl hls hla hre)) ?_
  rintro _ _ ⟨v5, _, ⟨sv, xs, rfl, hx1, hx2, hx3, rfl⟩, rfl, rfl⟩
  refine tl_q rfl (ev_assign rfl) ?_
  refine tl_q rfl (ev_assign rfl) ?_
  refine tl_nil ?_
  refine te_code ?_
  refine t_ret ?_
  refine te_ret_k (pre := [arr _ _ encS _ xs, stB sb eb ob, engB eb bb hh, boardB bb m1 m2 40 next, mp iI rowV m1 rows, boxB ob mo last refused, mp iI letV mo ls, holdB hh hb m4 m5, mp iI (fun x : Value => x) m4 [], powA]) (res2 rfl rfl rfl) (by repeat (first | exact Frm.nil | exact Take.here | apply Take.there | apply Frm.cons)) ?_
  exact ⟨_, xs, rfl, hx1, hx2, hx3, rfl⟩

theorem parseList_ct (s : ByteArray) (hs : s.size ≤ 1000000) (hw : wordsF s = [(⟨#[108, 105, 115, 116]⟩ : ByteArray)]) : CT Tryz.prog 26 #[.string s] [varA 2 .i64] (fun v M => ∃ bf, v = .tuple #[.agg #[.func (.func 50) #[.agg #[.slice none 0 0, .func (.func 131) #[] #[.pointer (some ⟨bf, 0, none⟩)], .int .i64 (-1)]] #[]], .bool true] ∧ M = [blk bf (.cells #[.func (.func 127) #[] #[]] 183 (0, 0)), varA 2 .i64]) := by
  refine t_fun (vs := [.string s]) (n := 56) Tryz.func26 rfl Tryz.ntmps26 rfl fun w0 F => ?_
  refine t_seq ?_
  refine t_region ?_
  refine tl_e (eff_alloc rfl zero_98 rfl) ?_
  rintro _ _ ⟨b2, rfl, rfl⟩
  refine tl_q rfl (ev_assign rfl) ?_
  refine tl_nil ?_
  refine te_code ?_
  refine t_seq ?_
  refine t_region ?_
  refine tl_q rfl (ev_move rfl) ?_
  refine tl_e (eff_call rfl rfl body_48 rfl (by repeat (first | exact Frm.nil | exact Take.here | apply Take.there | apply Frm.cons)) (words_ct s hs)) ?_
  rintro _ _ ⟨v10, _, ⟨sv, rfl, rfl⟩, rfl, rfl⟩
  rw [hw]
  refine tl_shape (enc := encS) (sz := 1) (v := v10) (xs := [(⟨#[108, 105, 115, 116]⟩ : ByteArray)]) (by first | exact HasArr.own (by repeat (first | exact List.Mem.head _ | apply List.Mem.tail)) | exact HasArr.sh (by repeat (first | exact List.Mem.head _ | apply List.Mem.tail))) (by intro _; rfl) (fun hsh => ?_)
  refine tl_shape2 (v := v10) (xs := [(⟨#[108, 105, 115, 116]⟩ : ByteArray)]) (T := 9) (sz := 1) (enc := encS) (by repeat (first | exact List.Mem.head _ | apply List.Mem.tail)) (fun pa pc hov hpc => ?_)
  subst hov
  simp only [List.length_cons, List.length_nil] at hsh hpc
  refine tl_q rfl (ev_assign rfl) ?_
  refine tl_nil ?_
  refine te_code ?_
  refine t_seq ?_
  refine t_seq ?_
  refine t_region ?_
  refine tl_q rfl (ev_move rfl) ?_
  refine tl_q rfl (ev_len_sh sl_38 rfl (by assumption)) ?_
  refine tl_q rfl (ev_eql rfl rfl) ?_
  refine tl_nil ?_
  refine te_code ?_
  refine t_cond_no rfl (by first | rfl | (simp; done) | (simp; omega) | simp_all) ?_
  refine t_skip ?_
  refine te_code ?_
  refine t_seq ?_
  refine t_seq ?_
  refine t_region ?_
  refine tl_q rfl (ev_move rfl) ?_
  refine tl_q rfl (ev_at_int sl_38 rfl rfl (by assumption) (by omega) (by omega)) ?_
  refine tl_q rfl (ev_load_at0 sc_9 rfl (by first | exact HasArr.own (by repeat (first | exact List.Mem.head _ | apply List.Mem.tail)) | exact HasArr.sh (by repeat (first | exact List.Mem.head _ | apply List.Mem.tail))) (by intro _; rfl) (by rfl) (by rfl)) ?_
  refine tl_nil ?_
  refine te_code ?_
  refine t_block ?_
  refine t_seq ?_
  refine t_region ?_
  refine tl_q rfl (ev_seql rfl rfl) ?_
  refine tl_q rfl (ev_assign rfl) ?_
  refine tl_nil ?_
  refine te_code ?_
  refine t_cond_yes rfl (by first | rfl | (simp; done) | (simp; omega) | simp_all) ?_
  refine t_seq ?_
  refine t_region ?_
  refine tl_q rfl (ev_move rfl) ?_
  refine tl_q rfl (ev_sliceArr (l := 1) sl_38 rfl ⟨_, rfl⟩ rfl (by simp) (by omega)) ?_
  refine tl_sub (l := 1) (xs := [(⟨#[108, 105, 115, 116]⟩ : ByteArray)]) (enc := encS) (sz := 1) (T := 9) (by intro _; rfl) (by simp) (by repeat (first | exact Take.here | apply Take.there)) ?_
  refine tl_e (eff_call rfl rfl body_49 rfl (by repeat (first | exact Frm.nil | exact Take.here | apply Take.there | apply Frm.cons)) (read0_ct _)) ?_
  rintro _ _ ⟨v23, _, ⟨bf, rfl, rfl⟩, rfl, rfl⟩
  refine tl_q rfl (ev_move rfl) ?_
  refine tl_q rfl (ev_extract rfl rfl) ?_
  refine tl_q rfl (ev_extract rfl rfl) ?_
  refine tl_e (eff_alloc rfl zero_142 rfl) ?_
  rintro _ _ ⟨b5, rfl, rfl⟩
  refine tl_e (eff_store rfl rfl rfl rfl sz_142 (by first | (simp [Flat]; done) | exact flatS _ | exact flatB _ | exact flatTick _ | exact flatRow _ | exact flatEvt _ | exact flatI _) (by repeat (first | exact Upd.here | apply Upd.there)) (by repeat (first | exact LPut.nil | apply LPut.cons | apply LPut.succ))) ?_
  rintro _ _ ⟨rfl, rfl⟩
  refine tl_q rfl (ev_assign rfl) ?_
  refine tl_nil ?_
  refine te_code ?_
  refine t_seq ?_
  refine t_region ?_
  refine tl_q rfl (ev_load_agg ag_142 rfl (by first | (left; (repeat (first | exact List.Mem.head _ | apply List.Mem.tail)); done) | (right; (repeat (first | exact List.Mem.head _ | apply List.Mem.tail)); done)) (by repeat (first | exact LDrop.zero | apply LDrop.succ)) (by repeat (first | exact LTake.zero | apply LTake.succ))) ?_
  refine tl_q rfl (ev_makeFunc rfl rfl) ?_
  refine tl_q rfl (ev_build st_98 rfl (by repeat (first | exact FillR.nil | exact LPut.nil | apply LPut.cons | apply LPut.succ | apply FillR.cons rfl rfl rfl))) ?_
  refine tl_q rfl (ev_move rfl) ?_
  refine tl_e (eff_store rfl rfl rfl rfl sz_98 (by first | (simp [Flat]; done) | exact flatS _ | exact flatB _ | exact flatTick _ | exact flatRow _ | exact flatEvt _ | exact flatI _) (by repeat (first | exact Upd.here | apply Upd.there)) (by repeat (first | exact LPut.nil | apply LPut.cons | apply LPut.succ))) ?_
  rintro _ _ ⟨rfl, rfl⟩
  refine tl_q rfl (ev_assign rfl) ?_
  refine tl_nil ?_
  refine te_code ?_
  refine t_ret ?_
  refine te_ret_k (pre := [blk _ (.cells #[.func (.func 127) #[] #[]] 183 (0, 0)), varA 2 .i64]) (resx rfl (RL.cons (resIs_cell (x := .tmp 0) (ev_load_agg ag_98 rfl (by first | (left; (repeat (first | exact List.Mem.head _ | apply List.Mem.tail)); done) | (right; (repeat (first | exact List.Mem.head _ | apply List.Mem.tail)); done)) (by repeat (first | exact LDrop.zero | apply LDrop.succ)) (by repeat (first | exact LTake.zero | apply LTake.succ))) _ rfl) (RL.cons (resIs_tmp rfl) (RL.nil)))) (by repeat (first | exact Frm.nil | exact Take.here | apply Take.there | apply Frm.cons)) ?_
  exact ⟨_, rfl, rfl⟩

theorem parseEx_ct (s : ByteArray) (hs : s.size ≤ 1000000) (hw : wordsF s = [(⟨#[108, 105, 115, 116]⟩ : ByteArray), (⟨#[108, 101, 118, 101, 108]⟩ : ByteArray), itoaB 4, (⟨#[111, 114, 100, 101, 114]⟩ : ByteArray), (⟨#[108, 97, 115, 116]⟩ : ByteArray), (⟨#[108, 105, 109, 105, 116]⟩ : ByteArray), itoaB 10]) : CT Tryz.prog 26 #[.string s] [varA 2 .i64, powA] (fun v M => ∃ bl tv bf, v = .tuple #[.agg #[.func (.func 50) #[.agg #[tv, .func (.func 131) #[] #[.pointer (some ⟨bf, 0, none⟩)], .int .i64 10]] #[]], .bool true] ∧ M = [arr 187 1 encF tv [bl], blk bl (.cells [.int .i64 4].toArray 3 (0, 0)), blk bf (.cells #[.func (.func 128) #[] #[]] 183 (0, 0)), varA 2 .i64, powA]) := by
  refine t_fun (vs := [.string s]) (n := 56) Tryz.func26 rfl Tryz.ntmps26 rfl fun w0 F => ?_
  refine t_seq ?_
  refine t_region ?_
  refine tl_e (eff_alloc rfl zero_98 rfl) ?_
  rintro _ _ ⟨b2, rfl, rfl⟩
  refine tl_q rfl (ev_assign rfl) ?_
  refine tl_nil ?_
  refine te_code ?_
  refine t_seq ?_
  refine t_region ?_
  refine tl_q rfl (ev_move rfl) ?_
  refine tl_e (eff_call rfl rfl body_48 rfl (by repeat (first | exact Frm.nil | exact Take.here | apply Take.there | apply Frm.cons)) (words_ct s hs)) ?_
  rintro _ _ ⟨v10, _, ⟨sv, rfl, rfl⟩, rfl, rfl⟩
  rw [hw]
  refine tl_shape (enc := encS) (sz := 1) (v := v10) (xs := [(⟨#[108, 105, 115, 116]⟩ : ByteArray), (⟨#[108, 101, 118, 101, 108]⟩ : ByteArray), itoaB 4, (⟨#[111, 114, 100, 101, 114]⟩ : ByteArray), (⟨#[108, 97, 115, 116]⟩ : ByteArray), (⟨#[108, 105, 109, 105, 116]⟩ : ByteArray), itoaB 10]) (by first | exact HasArr.own (by repeat (first | exact List.Mem.head _ | apply List.Mem.tail)) | exact HasArr.sh (by repeat (first | exact List.Mem.head _ | apply List.Mem.tail))) (by intro _; rfl) (fun hsh => ?_)
  refine tl_shape2 (v := v10) (xs := [(⟨#[108, 105, 115, 116]⟩ : ByteArray), (⟨#[108, 101, 118, 101, 108]⟩ : ByteArray), itoaB 4, (⟨#[111, 114, 100, 101, 114]⟩ : ByteArray), (⟨#[108, 97, 115, 116]⟩ : ByteArray), (⟨#[108, 105, 109, 105, 116]⟩ : ByteArray), itoaB 10]) (T := 9) (sz := 1) (enc := encS) (by repeat (first | exact List.Mem.head _ | apply List.Mem.tail)) (fun pa pc hov hpc => ?_)
  subst hov
  simp only [List.length_cons, List.length_nil] at hsh hpc
  refine tl_q rfl (ev_assign rfl) ?_
  refine tl_nil ?_
  refine te_code ?_
  refine t_seq ?_
  refine t_seq ?_
  refine t_region ?_
  refine tl_q rfl (ev_move rfl) ?_
  refine tl_q rfl (ev_len_sh sl_38 rfl (by assumption)) ?_
  refine tl_q rfl (ev_eql rfl rfl) ?_
  refine tl_nil ?_
  refine te_code ?_
  refine t_cond_no rfl (by first | rfl | (simp; done) | (simp; omega) | simp_all) ?_
  refine t_skip ?_
  refine te_code ?_
  refine t_seq ?_
  refine t_seq ?_
  refine t_region ?_
  refine tl_q rfl (ev_move rfl) ?_
  refine tl_q rfl (ev_at_int sl_38 rfl rfl (by assumption) (by omega) (by omega)) ?_
  refine tl_q rfl (ev_load_at0 sc_9 rfl (by first | exact HasArr.own (by repeat (first | exact List.Mem.head _ | apply List.Mem.tail)) | exact HasArr.sh (by repeat (first | exact List.Mem.head _ | apply List.Mem.tail))) (by intro _; rfl) (by rfl) (by rfl)) ?_
  refine tl_nil ?_
  refine te_code ?_
  refine t_block ?_
  refine t_seq ?_
  refine t_region ?_
  refine tl_q rfl (ev_seql rfl rfl) ?_
  refine tl_q rfl (ev_assign rfl) ?_
  refine tl_nil ?_
  refine te_code ?_
  refine t_cond_yes rfl (by first | rfl | (simp; done) | (simp; omega) | simp_all) ?_
  refine t_seq ?_
  refine t_region ?_
  refine tl_q rfl (ev_move rfl) ?_
  refine tl_q rfl (ev_sliceArr (l := 1) sl_38 rfl ⟨_, rfl⟩ rfl (by simp) (by omega)) ?_
  refine tl_sub (l := 1) (xs := [(⟨#[108, 105, 115, 116]⟩ : ByteArray), (⟨#[108, 101, 118, 101, 108]⟩ : ByteArray), itoaB 4, (⟨#[111, 114, 100, 101, 114]⟩ : ByteArray), (⟨#[108, 97, 115, 116]⟩ : ByteArray), (⟨#[108, 105, 109, 105, 116]⟩ : ByteArray), itoaB 10]) (enc := encS) (sz := 1) (T := 9) (by intro _; rfl) (by simp) (by repeat (first | exact Take.here | apply Take.there)) ?_
  refine tl_e (eff_call rfl rfl body_49 rfl (by repeat (first | exact Frm.nil | exact Take.here | apply Take.there | apply Frm.cons)) (read6_ct _)) ?_
  rintro _ _ ⟨v23, _, ⟨bl, tv, bf, rfl, rfl⟩, rfl, rfl⟩
  refine tl_shape (enc := encF) (sz := 1) (v := tv) (xs := [bl]) (by first | exact HasArr.own (by repeat (first | exact List.Mem.head _ | apply List.Mem.tail)) | exact HasArr.sh (by repeat (first | exact List.Mem.head _ | apply List.Mem.tail))) (by intro _; rfl) (fun hsh3 => ?_)
  obtain ⟨p3, q3, c3, rfl⟩ := shape_sl hsh3
  refine tl_q rfl (ev_move rfl) ?_
  refine tl_q rfl (ev_extract rfl rfl) ?_
  refine tl_q rfl (ev_extract rfl rfl) ?_
  refine tl_e (eff_alloc rfl zero_142 rfl) ?_
  rintro _ _ ⟨b5, rfl, rfl⟩
  refine tl_e (eff_store rfl rfl rfl rfl sz_142 (by first | (simp [Flat]; done) | exact flatS _ | exact flatB _ | exact flatTick _ | exact flatRow _ | exact flatEvt _ | exact flatI _) (by repeat (first | exact Upd.here | apply Upd.there)) (by repeat (first | exact LPut.nil | apply LPut.cons | apply LPut.succ))) ?_
  rintro _ _ ⟨rfl, rfl⟩
  refine tl_q rfl (ev_assign rfl) ?_
  refine tl_nil ?_
  refine te_code ?_
  refine t_seq ?_
  refine t_region ?_
  refine tl_q rfl (ev_load_agg ag_142 rfl (by first | (left; (repeat (first | exact List.Mem.head _ | apply List.Mem.tail)); done) | (right; (repeat (first | exact List.Mem.head _ | apply List.Mem.tail)); done)) (by repeat (first | exact LDrop.zero | apply LDrop.succ)) (by repeat (first | exact LTake.zero | apply LTake.succ))) ?_
  refine tl_q rfl (ev_makeFunc rfl rfl) ?_
  refine tl_q rfl (ev_build st_98 rfl (by repeat (first | exact FillR.nil | exact LPut.nil | apply LPut.cons | apply LPut.succ | apply FillR.cons rfl rfl rfl))) ?_
  refine tl_q rfl (ev_move rfl) ?_
  refine tl_e (eff_store rfl rfl rfl rfl sz_98 (by first | (simp [Flat]; done) | exact flatS _ | exact flatB _ | exact flatTick _ | exact flatRow _ | exact flatEvt _ | exact flatI _) (by repeat (first | exact Upd.here | apply Upd.there)) (by repeat (first | exact LPut.nil | apply LPut.cons | apply LPut.succ))) ?_
  rintro _ _ ⟨rfl, rfl⟩
  refine tl_q rfl (ev_assign rfl) ?_
  refine tl_nil ?_
  refine te_code ?_
  refine t_ret ?_
  refine te_ret_k (pre := [arr _ _ encF _ [_], blk _ (.cells [.int .i64 4].toArray 3 (0, 0)), blk _ (.cells #[.func (.func 128) #[] #[]] 183 (0, 0)), varA 2 .i64, powA]) (resx rfl (RL.cons (resIs_cell (x := .tmp 0) (ev_load_agg ag_98 rfl (by first | (left; (repeat (first | exact List.Mem.head _ | apply List.Mem.tail)); done) | (right; (repeat (first | exact List.Mem.head _ | apply List.Mem.tail)); done)) (by repeat (first | exact LDrop.zero | apply LDrop.succ)) (by repeat (first | exact LTake.zero | apply LTake.succ))) _ rfl) (RL.cons (resIs_tmp rfl) (RL.nil)))) (by repeat (first | exact Frm.nil | exact Take.here | apply Take.there | apply Frm.cons)) ?_
  exact ⟨_, _, _, rfl, rfl⟩

theorem parseShow_ct (s : ByteArray) (hs : s.size ≤ 1000000) (n : Int) (h0 : 0 ≤ n) (h1 : n < 1000000000000000000) (hw : wordsF s = [(⟨#[115, 104, 111, 119]⟩ : ByteArray), itoaB n]) : CT Tryz.prog 26 #[.string s] [varA 2 .i64, powA] (fun v M => ∃ bl, v = .tuple #[.agg #[.func (.func 87) #[] #[.pointer (some ⟨bl, 0, none⟩)]], .bool true] ∧ M = [blk bl (.cells [.int .i64 n].toArray 3 (0, 0)), varA 2 .i64, powA]) := by
  refine t_fun (vs := [.string s]) (n := 56) Tryz.func26 rfl Tryz.ntmps26 rfl fun w0 F => ?_
  refine t_seq ?_
  refine t_region ?_
  refine tl_e (eff_alloc rfl zero_98 rfl) ?_
  rintro _ _ ⟨b2, rfl, rfl⟩
  refine tl_q rfl (ev_assign rfl) ?_
  refine tl_nil ?_
  refine te_code ?_
  refine t_seq ?_
  refine t_region ?_
  refine tl_q rfl (ev_move rfl) ?_
  refine tl_e (eff_call rfl rfl body_48 rfl (by repeat (first | exact Frm.nil | exact Take.here | apply Take.there | apply Frm.cons)) (words_ct s hs)) ?_
  rintro _ _ ⟨v10, _, ⟨sv, rfl, rfl⟩, rfl, rfl⟩
  rw [hw]
  refine tl_shape (enc := encS) (sz := 1) (v := v10) (xs := [(⟨#[115, 104, 111, 119]⟩ : ByteArray), itoaB n]) (by first | exact HasArr.own (by repeat (first | exact List.Mem.head _ | apply List.Mem.tail)) | exact HasArr.sh (by repeat (first | exact List.Mem.head _ | apply List.Mem.tail))) (by intro _; rfl) (fun hsh => ?_)
  refine tl_shape2 (v := v10) (xs := [(⟨#[115, 104, 111, 119]⟩ : ByteArray), itoaB n]) (T := 9) (sz := 1) (enc := encS) (by repeat (first | exact List.Mem.head _ | apply List.Mem.tail)) (fun pa pc hov hpc => ?_)
  subst hov
  simp only [List.length_cons, List.length_nil] at hsh hpc
  refine tl_q rfl (ev_assign rfl) ?_
  refine tl_nil ?_
  refine te_code ?_
  refine t_seq ?_
  refine t_seq ?_
  refine t_region ?_
  refine tl_q rfl (ev_move rfl) ?_
  refine tl_q rfl (ev_len_sh sl_38 rfl (by assumption)) ?_
  refine tl_q rfl (ev_eql rfl rfl) ?_
  refine tl_nil ?_
  refine te_code ?_
  refine t_cond_no rfl (by first | rfl | (simp; done) | (simp; omega) | simp_all) ?_
  refine t_skip ?_
  refine te_code ?_
  refine t_seq ?_
  refine t_seq ?_
  refine t_region ?_
  refine tl_q rfl (ev_move rfl) ?_
  refine tl_q rfl (ev_at_int sl_38 rfl rfl (by assumption) (by omega) (by omega)) ?_
  refine tl_q rfl (ev_load_at0 sc_9 rfl (by first | exact HasArr.own (by repeat (first | exact List.Mem.head _ | apply List.Mem.tail)) | exact HasArr.sh (by repeat (first | exact List.Mem.head _ | apply List.Mem.tail))) (by intro _; rfl) (by rfl) (by rfl)) ?_
  refine tl_nil ?_
  refine te_code ?_
  refine t_block ?_
  refine t_seq ?_
  refine t_region ?_
  refine tl_q rfl (ev_seql rfl rfl) ?_
  refine tl_q rfl (ev_assign rfl) ?_
  refine tl_nil ?_
  refine te_code ?_
  refine t_cond_no rfl (by first | rfl | (simp; done) | (simp; omega) | simp_all) ?_
  refine t_seq ?_
  refine t_region ?_
  refine tl_q rfl (ev_seql rfl rfl) ?_
  refine tl_q rfl (ev_assign rfl) ?_
  refine tl_nil ?_
  refine te_code ?_
  refine t_cond_no rfl (by first | rfl | (simp; done) | (simp; omega) | simp_all) ?_
  refine t_seq ?_
  refine t_region ?_
  refine tl_q rfl (ev_seql rfl rfl) ?_
  refine tl_q rfl (ev_assign rfl) ?_
  refine tl_nil ?_
  refine te_code ?_
  refine t_cond_yes rfl (by first | rfl | (simp; done) | (simp; omega) | simp_all) ?_
  refine t_seq ?_
  refine t_region ?_
  refine tl_q rfl (ev_move rfl) ?_
  refine tl_q rfl (ev_sliceArr (l := 1) sl_38 rfl ⟨_, rfl⟩ rfl (by simp) (by omega)) ?_
  refine tl_sub (l := 1) (xs := [(⟨#[115, 104, 111, 119]⟩ : ByteArray), itoaB n]) (enc := encS) (sz := 1) (T := 9) (by intro _; rfl) (by simp) (by repeat (first | exact Take.here | apply Take.there)) ?_
  refine tl_e (eff_call rfl rfl body_52 rfl (by repeat (first | exact Frm.nil | exact Take.here | apply Take.there | apply Frm.cons)) (show1_ct _ n h0 h1)) ?_
  rintro _ _ ⟨v46, _, ⟨bl, rfl, rfl⟩, rfl, rfl⟩
  refine tl_q rfl (ev_extract rfl rfl) ?_
  refine tl_q rfl (ev_extract rfl rfl) ?_
  refine tl_e (eff_store rfl rfl rfl rfl sz_98 (by first | (simp [Flat]; done) | exact flatS _ | exact flatB _ | exact flatTick _ | exact flatRow _ | exact flatEvt _ | exact flatI _) (by repeat (first | exact Upd.here | apply Upd.there)) (by repeat (first | exact LPut.nil | apply LPut.cons | apply LPut.succ))) ?_
  rintro _ _ ⟨rfl, rfl⟩
  refine tl_q rfl (ev_assign rfl) ?_
  refine tl_nil ?_
  refine te_code ?_
  refine t_ret ?_
  refine te_ret_k (pre := [blk _ (.cells [.int .i64 n].toArray 3 (0, 0)), varA 2 .i64, powA]) (resx rfl (RL.cons (resIs_cell (x := .tmp 0) (ev_load_agg ag_98 rfl (by first | (left; (repeat (first | exact List.Mem.head _ | apply List.Mem.tail)); done) | (right; (repeat (first | exact List.Mem.head _ | apply List.Mem.tail)); done)) (by repeat (first | exact LDrop.zero | apply LDrop.succ)) (by repeat (first | exact LTake.zero | apply LTake.succ))) _ rfl) (RL.cons (resIs_tmp rfl) (RL.nil)))) (by repeat (first | exact Frm.nil | exact Take.here | apply Take.there | apply Frm.cons)) ?_
  exact ⟨_, rfl, rfl⟩

theorem parseStats_ct (s : ByteArray) (hs : s.size ≤ 1000000) (hw : wordsF s = [(⟨#[115, 116, 97, 116, 115]⟩ : ByteArray)]) : CT Tryz.prog 26 #[.string s] [varA 2 .i64] (fun v M => v = .tuple #[.agg #[.func (.func 53) #[] #[]], .bool true] ∧ M = [varA 2 .i64]) := by
  refine t_fun (vs := [.string s]) (n := 56) Tryz.func26 rfl Tryz.ntmps26 rfl fun w0 F => ?_
  refine t_seq ?_
  refine t_region ?_
  refine tl_e (eff_alloc rfl zero_98 rfl) ?_
  rintro _ _ ⟨b2, rfl, rfl⟩
  refine tl_q rfl (ev_assign rfl) ?_
  refine tl_nil ?_
  refine te_code ?_
  refine t_seq ?_
  refine t_region ?_
  refine tl_q rfl (ev_move rfl) ?_
  refine tl_e (eff_call rfl rfl body_48 rfl (by repeat (first | exact Frm.nil | exact Take.here | apply Take.there | apply Frm.cons)) (words_ct s hs)) ?_
  rintro _ _ ⟨v10, _, ⟨sv, rfl, rfl⟩, rfl, rfl⟩
  rw [hw]
  refine tl_shape (enc := encS) (sz := 1) (v := v10) (xs := [(⟨#[115, 116, 97, 116, 115]⟩ : ByteArray)]) (by first | exact HasArr.own (by repeat (first | exact List.Mem.head _ | apply List.Mem.tail)) | exact HasArr.sh (by repeat (first | exact List.Mem.head _ | apply List.Mem.tail))) (by intro _; rfl) (fun hsh => ?_)
  refine tl_shape2 (v := v10) (xs := [(⟨#[115, 116, 97, 116, 115]⟩ : ByteArray)]) (T := 9) (sz := 1) (enc := encS) (by repeat (first | exact List.Mem.head _ | apply List.Mem.tail)) (fun pa pc hov hpc => ?_)
  subst hov
  simp only [List.length_cons, List.length_nil] at hsh hpc
  refine tl_q rfl (ev_assign rfl) ?_
  refine tl_nil ?_
  refine te_code ?_
  refine t_seq ?_
  refine t_seq ?_
  refine t_region ?_
  refine tl_q rfl (ev_move rfl) ?_
  refine tl_q rfl (ev_len_sh sl_38 rfl (by assumption)) ?_
  refine tl_q rfl (ev_eql rfl rfl) ?_
  refine tl_nil ?_
  refine te_code ?_
  refine t_cond_no rfl (by first | rfl | (simp; done) | (simp; omega) | simp_all) ?_
  refine t_skip ?_
  refine te_code ?_
  refine t_seq ?_
  refine t_seq ?_
  refine t_region ?_
  refine tl_q rfl (ev_move rfl) ?_
  refine tl_q rfl (ev_at_int sl_38 rfl rfl (by assumption) (by omega) (by omega)) ?_
  refine tl_q rfl (ev_load_at0 sc_9 rfl (by first | exact HasArr.own (by repeat (first | exact List.Mem.head _ | apply List.Mem.tail)) | exact HasArr.sh (by repeat (first | exact List.Mem.head _ | apply List.Mem.tail))) (by intro _; rfl) (by rfl) (by rfl)) ?_
  refine tl_nil ?_
  refine te_code ?_
  refine t_block ?_
  refine t_seq ?_
  refine t_region ?_
  refine tl_q rfl (ev_seql rfl rfl) ?_
  refine tl_q rfl (ev_assign rfl) ?_
  refine tl_nil ?_
  refine te_code ?_
  refine t_cond_no rfl (by first | rfl | (simp; done) | (simp; omega) | simp_all) ?_
  refine t_seq ?_
  refine t_region ?_
  refine tl_q rfl (ev_seql rfl rfl) ?_
  refine tl_q rfl (ev_assign rfl) ?_
  refine tl_nil ?_
  refine te_code ?_
  refine t_cond_no rfl (by first | rfl | (simp; done) | (simp; omega) | simp_all) ?_
  refine t_seq ?_
  refine t_region ?_
  refine tl_q rfl (ev_seql rfl rfl) ?_
  refine tl_q rfl (ev_assign rfl) ?_
  refine tl_nil ?_
  refine te_code ?_
  refine t_cond_no rfl (by first | rfl | (simp; done) | (simp; omega) | simp_all) ?_
  refine t_seq ?_
  refine t_region ?_
  refine tl_q rfl (ev_seql rfl rfl) ?_
  refine tl_q rfl (ev_assign rfl) ?_
  refine tl_nil ?_
  refine te_code ?_
  refine t_cond_yes rfl (by first | rfl | (simp; done) | (simp; omega) | simp_all) ?_
  refine t_seq ?_
  refine t_region ?_
  refine tl_q rfl (ev_build st_98 rfl (by repeat (first | exact FillR.nil | exact LPut.nil | apply LPut.cons | apply LPut.succ | apply FillR.cons rfl rfl rfl))) ?_
  refine tl_q rfl (ev_move rfl) ?_
  refine tl_q rfl (ev_len_sh sl_38 rfl (by assumption)) ?_
  refine tl_q rfl (ev_eql rfl rfl) ?_
  refine tl_e (eff_store rfl rfl rfl rfl sz_98 (by first | (simp [Flat]; done) | exact flatS _ | exact flatB _ | exact flatTick _ | exact flatRow _ | exact flatEvt _ | exact flatI _) (by repeat (first | exact Upd.here | apply Upd.there)) (by repeat (first | exact LPut.nil | apply LPut.cons | apply LPut.succ))) ?_
  rintro _ _ ⟨rfl, rfl⟩
  refine tl_q rfl (ev_assign rfl) ?_
  refine tl_nil ?_
  refine te_code ?_
  refine t_ret ?_
  refine te_ret_k (pre := [varA 2 .i64]) (resx rfl (RL.cons (resIs_cell (x := .tmp 0) (ev_load_agg ag_98 rfl (by first | (left; (repeat (first | exact List.Mem.head _ | apply List.Mem.tail)); done) | (right; (repeat (first | exact List.Mem.head _ | apply List.Mem.tail)); done)) (by repeat (first | exact LDrop.zero | apply LDrop.succ)) (by repeat (first | exact LTake.zero | apply LTake.succ))) _ rfl) (RL.cons (resIs_tmp rfl) (RL.nil)))) (by repeat (first | exact Frm.nil | exact Take.here | apply Take.there | apply Frm.cons)) ?_
  exact ⟨rfl, rfl⟩

end Go.SL
