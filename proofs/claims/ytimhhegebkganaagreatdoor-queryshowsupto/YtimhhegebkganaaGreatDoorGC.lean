/- Contracts of the document's side: texts, events, rows, new states. -/
import Derived.Test.YtimhhegebkganaaGreatDoorProg
import Derived.Test.YtimhhegebkganaaGreatDoorGB
set_option linter.unusedSimpArgs false
set_option linter.unusedVariables false
set_option maxRecDepth 4000
namespace Go.SL
open Go.Proofs

theorem bst_150_9 : BytesStr Tryz.prog 150 9 := bytesStr_of Tryz.underlying150 Tryz.underlying5 Tryz.underlying9
theorem ti_3_5 : ToInt Tryz.prog 3 5 .u8 := toInt_of Tryz.underlying3 Tryz.underlying5
theorem info_5 : Tryz.prog.info? 5 = some Tryz.t5 := by kernel_rfl
theorem bs_150_1 : SliceIs Tryz.prog 150 1 5 1 [.int .u8 0] := sliceIs_of Tryz.underlying150 info_5 rfl rfl (by decide) (by kernel_rfl)
theorem bs_150_2 : SliceIs Tryz.prog 150 2 5 1 [.int .u8 0, .int .u8 0] := sliceIs_of Tryz.underlying150 info_5 rfl rfl (by decide) (by kernel_rfl)
theorem bs_150_3 : SliceIs Tryz.prog 150 3 5 1 [.int .u8 0, .int .u8 0, .int .u8 0] := sliceIs_of Tryz.underlying150 info_5 rfl rfl (by decide) (by kernel_rfl)
theorem bs_150_4 : SliceIs Tryz.prog 150 4 5 1 [.int .u8 0, .int .u8 0, .int .u8 0, .int .u8 0] := sliceIs_of Tryz.underlying150 info_5 rfl rfl (by decide) (by kernel_rfl)
theorem body_249 : (Tryz.prog.funcs[249]?).map (fun fn => fn.body.isSome && !(fn.name == "runtime.NumGoroutine")) = some true := by kernel_rfl
theorem body_250 : (Tryz.prog.funcs[250]?).map (fun fn => fn.body.isSome && !(fn.name == "runtime.NumGoroutine")) = some true := by kernel_rfl
theorem body_251 : (Tryz.prog.funcs[251]?).map (fun fn => fn.body.isSome && !(fn.name == "runtime.NumGoroutine")) = some true := by kernel_rfl
theorem body_213 : (Tryz.prog.funcs[213]?).map (fun fn => fn.body.isSome && !(fn.name == "runtime.NumGoroutine")) = some true := by kernel_rfl
theorem body_166 : (Tryz.prog.funcs[166]?).map (fun fn => fn.body.isSome && !(fn.name == "runtime.NumGoroutine")) = some true := by kernel_rfl
theorem body_114 : (Tryz.prog.funcs[114]?).map (fun fn => fn.body.isSome && !(fn.name == "runtime.NumGoroutine")) = some true := by kernel_rfl
theorem body_71 : (Tryz.prog.funcs[71]?).map (fun fn => fn.body.isSome && !(fn.name == "runtime.NumGoroutine")) = some true := by kernel_rfl
theorem body_72 : (Tryz.prog.funcs[72]?).map (fun fn => fn.body.isSome && !(fn.name == "runtime.NumGoroutine")) = some true := by kernel_rfl
theorem body_73 : (Tryz.prog.funcs[73]?).map (fun fn => fn.body.isSome && !(fn.name == "runtime.NumGoroutine")) = some true := by kernel_rfl
theorem info_122 : Tryz.prog.info? 122 = some Tryz.t122 := by kernel_rfl
theorem info_22 : Tryz.prog.info? 22 = some Tryz.t22 := by kernel_rfl
theorem st_122 : StructIs Tryz.prog 122 (fun j => ([(0, 1), (1, 1), (2, 1)] : List (Nat × Nat))[j]?) [.int .i64 0, .int .i64 0, .slice none 0 0] := structIs_of (ss := [1, 1, 1]) Tryz.underlying122 info_122 rfl (by kernel_rfl)
theorem info_230 : Tryz.prog.info? 230 = some Tryz.t230 := by kernel_rfl
theorem info_228 : Tryz.prog.info? 228 = some Tryz.t228 := by kernel_rfl
theorem st_230 : StructIs Tryz.prog 230 (fun j => ([(0, 1), (1, 1), (2, 1)] : List (Nat × Nat))[j]?) [.int .i64 0, .int .i64 0, .slice none 0 0] := structIs_of (ss := [1, 1, 1]) Tryz.underlying230 info_230 rfl (by kernel_rfl)
theorem info_133 : Tryz.prog.info? 133 = some Tryz.t133 := by kernel_rfl
theorem info_131 : Tryz.prog.info? 131 = some Tryz.t131 := by kernel_rfl
theorem st_133 : StructIs Tryz.prog 133 (fun j => ([(0, 1), (1, 1), (2, 1), (3, 1), (4, 1), (5, 1), (6, 1)] : List (Nat × Nat))[j]?) [.int .i64 0, .int .i64 0, .int .i64 0, .int .i64 0, .int .i64 0, .int .i64 0, .slice none 0 0] := structIs_of (ss := [1, 1, 1, 1, 1, 1, 1]) Tryz.underlying133 info_133 rfl (by kernel_rfl)
theorem body_68 : (Tryz.prog.funcs[68]?).map (fun fn => fn.body.isSome && !(fn.name == "runtime.NumGoroutine")) = some true := by kernel_rfl
theorem body_69 : (Tryz.prog.funcs[69]?).map (fun fn => fn.body.isSome && !(fn.name == "runtime.NumGoroutine")) = some true := by kernel_rfl
theorem body_70 : (Tryz.prog.funcs[70]?).map (fun fn => fn.body.isSome && !(fn.name == "runtime.NumGoroutine")) = some true := by kernel_rfl
theorem info_73 : Tryz.prog.info? 73 = some Tryz.t73 := by kernel_rfl
theorem info_67 : Tryz.prog.info? 67 = some Tryz.t67 := by kernel_rfl
theorem info_68 : Tryz.prog.info? 68 = some Tryz.t68 := by kernel_rfl
theorem info_70 : Tryz.prog.info? 70 = some Tryz.t70 := by kernel_rfl
theorem info_71 : Tryz.prog.info? 71 = some Tryz.t71 := by kernel_rfl
theorem st_73 : StructIs Tryz.prog 73 (fun j => ([(0, 3), (3, 1), (4, 1), (5, 1), (6, 1), (7, 7), (14, 1)] : List (Nat × Nat))[j]?) [.slice none 0 0, .slice none 0 0, .slice none 0 0, .pointer none, .pointer none, .int .i64 0, .int .i64 0, .int .i64 0, .int .i64 0, .int .i64 0, .int .i64 0, .int .i64 0, .int .i64 0, .int .i64 0, .slice none 0 0] := structIs_of (ss := [3, 1, 1, 1, 1, 7, 1]) Tryz.underlying73 info_73 rfl (by kernel_rfl)
theorem fa_66_0 : FldAt Tryz.prog 66 0 0 := fun a w => by kernel_rfl
theorem fa_66_1 : FldAt Tryz.prog 66 1 3 := fun a w => by kernel_rfl
theorem fa_66_2 : FldAt Tryz.prog 66 2 4 := fun a w => by kernel_rfl
theorem fa_66_3 : FldAt Tryz.prog 66 3 5 := fun a w => by kernel_rfl
theorem body_36 : (Tryz.prog.funcs[36]?).map (fun fn => fn.body.isSome && !(fn.name == "runtime.NumGoroutine")) = some true := by kernel_rfl
theorem fa_66_4 : FldAt Tryz.prog 66 4 6 := fun a w => by kernel_rfl
theorem fa_66_5 : FldAt Tryz.prog 66 5 7 := fun a w => by kernel_rfl
theorem fa_66_6 : FldAt Tryz.prog 66 6 8 := fun a w => by kernel_rfl
theorem body_37 : (Tryz.prog.funcs[37]?).map (fun fn => fn.body.isSome && !(fn.name == "runtime.NumGoroutine")) = some true := by kernel_rfl
theorem fa_66_7 : FldAt Tryz.prog 66 7 9 := fun a w => by kernel_rfl
theorem info_78 : Tryz.prog.info? 78 = some Tryz.t78 := by kernel_rfl
theorem info_74 : Tryz.prog.info? 74 = some Tryz.t74 := by kernel_rfl
theorem info_75 : Tryz.prog.info? 75 = some Tryz.t75 := by kernel_rfl
theorem info_76 : Tryz.prog.info? 76 = some Tryz.t76 := by kernel_rfl
theorem st_78 : StructIs Tryz.prog 78 (fun j => ([(0, 1), (1, 1), (2, 7)] : List (Nat × Nat))[j]?) [.pointer none, .pointer none, .int .i64 0, .int .i64 0, .int .i64 0, .int .i64 0, .int .i64 0, .int .i64 0, .int .i64 0] := structIs_of (ss := [1, 1, 7]) Tryz.underlying78 info_78 rfl (by kernel_rfl)


theorem u8_1 {L : List Asrt} {b : Nat} {T : TypeId} {fz : Nat × Nat} {x : Int} (h : Has L b (.cells [Value.int .u8 x].toArray T fz)) : HasArr 1 encU L (.slice (some ⟨b, 0, none⟩) 1 1) [x] := HasArr.lit h rfl rfl
theorem u8_2 {L : List Asrt} {b : Nat} {T : TypeId} {fz : Nat × Nat} {x y : Int} (h : Has L b (.cells [Value.int .u8 x, .int .u8 y].toArray T fz)) : HasArr 1 encU L (.slice (some ⟨b, 0, none⟩) 2 2) [x, y] := HasArr.lit h rfl rfl
theorem u8_3 {L : List Asrt} {b : Nat} {T : TypeId} {fz : Nat × Nat} {x y z : Int} (h : Has L b (.cells [Value.int .u8 x, .int .u8 y, .int .u8 z].toArray T fz)) : HasArr 1 encU L (.slice (some ⟨b, 0, none⟩) 3 3) [x, y, z] := HasArr.lit h rfl rfl
theorem u8_4 {L : List Asrt} {b : Nat} {T : TypeId} {fz : Nat × Nat} {x y z u : Int} (h : Has L b (.cells [Value.int .u8 x, .int .u8 y, .int .u8 z, .int .u8 u].toArray T fz)) : HasArr 1 encU L (.slice (some ⟨b, 0, none⟩) 4 4) [x, y, z, u] := HasArr.lit h rfl rfl

theorem Made_ct (c : Int) : CT Tryz.prog 251 #[.int .i64 c] [] (fun v M => ∃ s : ByteArray, v = .string s ∧ M = [] ∧ (c < 128 → 0 ≤ c → s = ⟨#[UInt8.ofNat c.toNat]⟩)) := by
  refine t_fun (vs := [.int .i64 c]) (n := 58) Tryz.func251 rfl Tryz.ntmps251 rfl fun w0 F => ?_
  refine t_seq ?_
  refine t_region ?_
  refine tl_q rfl (ev_assign rfl) ?_
  refine tl_nil ?_
  refine te_code ?_
  refine t_seq ?_
  refine t_seq ?_
  refine t_region ?_
  refine tl_q rfl (ev_move rfl) ?_
  refine tl_q rfl (ev_lss rfl rfl) ?_
  refine tl_nil ?_
  refine te_code ?_
  refine t_cond_dec rfl (fun h0 => ?_) (fun h0 => ?_)
  · refine t_seq ?_
    refine t_region ?_
    refine tl_q rfl (ev_move rfl) ?_
    refine tl_q rfl (ev_toInt ti_3_5 rfl) ?_
    refine tl_e (eff_buildSl rfl bs_150_1 rfl (by repeat (first | exact FillR.nil | exact LPut.nil | apply LPut.cons | apply LPut.succ | apply FillR.cons rfl rfl rfl))) ?_
    rintro _ _ ⟨b7, rfl, rfl⟩
    refine tl_q rfl (ev_bytesStr bst_150_9 rfl (u8_1 (by first | (left; (repeat (first | exact List.Mem.head _ | apply List.Mem.tail)); done) | (right; (repeat (first | exact List.Mem.head _ | apply List.Mem.tail)); done)))) ?_
    refine tl_q rfl (ev_assign rfl) ?_
    refine tl_nil ?_
    refine te_code ?_
    refine t_ret ?_
    refine te_ret_k (pre := []) (res1 rfl rfl) (by repeat (first | exact Frm.nil | exact Take.here | apply Take.there | apply Frm.cons)) ?_
    refine ⟨_, rfl, rfl, fun hm hm0 => ?_⟩
    first | (exfalso; omega) | (have e : IntKind.u8.wrap c = c := (by simp only [IntKind.wrap, IntKind.bits]; (try simp); omega); rw [e]; rfl)
  · refine t_skip ?_
    refine te_code ?_
    refine t_seq ?_
    refine t_seq ?_
    refine t_region ?_
    refine tl_q rfl (ev_move rfl) ?_
    refine tl_q rfl (ev_lss rfl rfl) ?_
    refine tl_nil ?_
    refine te_code ?_
    refine t_cond_dec rfl (fun h1 => ?_) (fun h1 => ?_)
    · refine t_seq ?_
      refine t_region ?_
      refine tl_q rfl (ev_move rfl) ?_
      refine tl_q rfl (ev_quo' rfl rfl (by omega) (by omega)) ?_
      refine tl_q rfl (ev_add' rfl rfl (by omega)) ?_
      refine tl_q rfl (ev_toInt ti_3_5 rfl) ?_
      refine tl_q rfl (ev_move rfl) ?_
      refine tl_q rfl (ev_rem' rfl rfl (by omega) (by omega)) ?_
      refine tl_q rfl (ev_add' rfl rfl (by omega)) ?_
      refine tl_q rfl (ev_toInt ti_3_5 rfl) ?_
      refine tl_e (eff_buildSl rfl bs_150_2 rfl (by repeat (first | exact FillR.nil | exact LPut.nil | apply LPut.cons | apply LPut.succ | apply FillR.cons rfl rfl rfl))) ?_
      rintro _ _ ⟨b19, rfl, rfl⟩
      refine tl_q rfl (ev_bytesStr bst_150_9 rfl (u8_2 (by first | (left; (repeat (first | exact List.Mem.head _ | apply List.Mem.tail)); done) | (right; (repeat (first | exact List.Mem.head _ | apply List.Mem.tail)); done)))) ?_
      refine tl_q rfl (ev_assign rfl) ?_
      refine tl_nil ?_
      refine te_code ?_
      refine t_ret ?_
      refine te_ret_k (pre := []) (res1 rfl rfl) (by repeat (first | exact Frm.nil | exact Take.here | apply Take.there | apply Frm.cons)) ?_
      refine ⟨_, rfl, rfl, fun hm hm0 => ?_⟩
      first | (exfalso; omega) | (have e : IntKind.u8.wrap c = c := (by simp only [IntKind.wrap, IntKind.bits]; (try simp); omega); rw [e]; rfl)
    · refine t_skip ?_
      refine te_code ?_
      refine t_seq ?_
      refine t_seq ?_
      refine t_region ?_
      refine tl_q rfl (ev_move rfl) ?_
      refine tl_q rfl (ev_lss rfl rfl) ?_
      refine tl_nil ?_
      refine te_code ?_
      refine t_cond_dec rfl (fun h2 => ?_) (fun h2 => ?_)
      · refine t_seq ?_
        refine t_region ?_
        refine tl_q rfl (ev_move rfl) ?_
        refine tl_q rfl (ev_quo' rfl rfl (by omega) (by omega)) ?_
        refine tl_q rfl (ev_add' rfl rfl (by omega)) ?_
        refine tl_q rfl (ev_toInt ti_3_5 rfl) ?_
        refine tl_q rfl (ev_move rfl) ?_
        refine tl_q rfl (ev_quo' rfl rfl (by omega) (by omega)) ?_
        refine tl_q rfl (ev_rem' rfl rfl (by omega) (by omega)) ?_
        refine tl_q rfl (ev_add' rfl rfl (by omega)) ?_
        refine tl_q rfl (ev_toInt ti_3_5 rfl) ?_
        refine tl_q rfl (ev_move rfl) ?_
        refine tl_q rfl (ev_rem' rfl rfl (by omega) (by omega)) ?_
        refine tl_q rfl (ev_add' rfl rfl (by omega)) ?_
        refine tl_q rfl (ev_toInt ti_3_5 rfl) ?_
        refine tl_e (eff_buildSl rfl bs_150_3 rfl (by repeat (first | exact FillR.nil | exact LPut.nil | apply LPut.cons | apply LPut.succ | apply FillR.cons rfl rfl rfl))) ?_
        rintro _ _ ⟨b36, rfl, rfl⟩
        refine tl_q rfl (ev_bytesStr bst_150_9 rfl (u8_3 (by first | (left; (repeat (first | exact List.Mem.head _ | apply List.Mem.tail)); done) | (right; (repeat (first | exact List.Mem.head _ | apply List.Mem.tail)); done)))) ?_
        refine tl_q rfl (ev_assign rfl) ?_
        refine tl_nil ?_
        refine te_code ?_
        refine t_ret ?_
        refine te_ret_k (pre := []) (res1 rfl rfl) (by repeat (first | exact Frm.nil | exact Take.here | apply Take.there | apply Frm.cons)) ?_
        refine ⟨_, rfl, rfl, fun hm hm0 => ?_⟩
        first | (exfalso; omega) | (have e : IntKind.u8.wrap c = c := (by simp only [IntKind.wrap, IntKind.bits]; (try simp); omega); rw [e]; rfl)
      · refine t_skip ?_
        refine te_code ?_
        refine t_seq ?_
        refine t_region ?_
        refine tl_q rfl (ev_move rfl) ?_
        refine tl_q rfl (ev_quo rfl rfl (by omega)) ?_
        refine tl_q rfl (ev_add rfl rfl) ?_
        refine tl_q rfl (ev_toInt ti_3_5 rfl) ?_
        refine tl_q rfl (ev_move rfl) ?_
        refine tl_q rfl (ev_quo rfl rfl (by omega)) ?_
        refine tl_q rfl (ev_rem rfl rfl (by omega)) ?_
        refine tl_q rfl (ev_add rfl rfl) ?_
        refine tl_q rfl (ev_toInt ti_3_5 rfl) ?_
        refine tl_q rfl (ev_move rfl) ?_
        refine tl_q rfl (ev_quo rfl rfl (by omega)) ?_
        refine tl_q rfl (ev_rem rfl rfl (by omega)) ?_
        refine tl_q rfl (ev_add rfl rfl) ?_
        refine tl_q rfl (ev_toInt ti_3_5 rfl) ?_
        refine tl_q rfl (ev_move rfl) ?_
        refine tl_q rfl (ev_rem' rfl rfl (by omega) (by omega)) ?_
        refine tl_q rfl (ev_add' rfl rfl (by omega)) ?_
        refine tl_q rfl (ev_toInt ti_3_5 rfl) ?_
        refine tl_e (eff_buildSl rfl bs_150_4 rfl (by repeat (first | exact FillR.nil | exact LPut.nil | apply LPut.cons | apply LPut.succ | apply FillR.cons rfl rfl rfl))) ?_
        rintro _ _ ⟨b56, rfl, rfl⟩
        refine tl_q rfl (ev_bytesStr bst_150_9 rfl (u8_4 (by first | (left; (repeat (first | exact List.Mem.head _ | apply List.Mem.tail)); done) | (right; (repeat (first | exact List.Mem.head _ | apply List.Mem.tail)); done)))) ?_
        refine tl_q rfl (ev_assign rfl) ?_
        refine tl_nil ?_
        refine te_code ?_
        refine t_ret ?_
        refine te_ret_k (pre := []) (res1 rfl rfl) (by repeat (first | exact Frm.nil | exact Take.here | apply Take.there | apply Frm.cons)) ?_
        refine ⟨_, rfl, rfl, fun hm hm0 => ?_⟩
        first | (exfalso; omega) | (have e : IntKind.u8.wrap c = c := (by simp only [IntKind.wrap, IntKind.bits]; (try simp); omega); rw [e]; rfl)

theorem Is04_ct (c : Int) : CT Tryz.prog 250 #[.int .i64 c] [] (fun v M => v = .bool (isCharF c) ∧ M = []) := by
  refine t_fun (vs := [.int .i64 c]) (n := 17) Tryz.func250 rfl Tryz.ntmps250 rfl fun w0 F => ?_
  refine t_seq ?_
  refine t_region ?_
  refine tl_q rfl (ev_assign rfl) ?_
  refine tl_nil ?_
  refine te_code ?_
  refine t_seq ?_
  refine t_region ?_
  refine tl_q rfl (ev_move rfl) ?_
  refine tl_q rfl (ev_geq rfl rfl) ?_
  refine tl_q rfl (ev_move rfl) ?_
  refine tl_split_dec 5 rfl (fun g1_2 => ?_) (fun g1_2 => ?_)
  · refine tl_guard rfl rfl rfl ?_
    refine tl_q rfl (ev_move rfl) ?_
    refine tl_guard rfl rfl rfl ?_
    refine tl_q rfl (ev_leq rfl rfl) ?_
    refine tl_q rfl (ev_pick_true rfl rfl) ?_
    refine tl_q rfl (ev_move rfl) ?_
    refine tl_split_dec 9 rfl (fun g1_6 => ?_) (fun g1_6 => ?_)
    · refine tl_guard rfl rfl rfl ?_
      refine tl_q rfl (ev_move rfl) ?_
      refine tl_guard rfl rfl rfl ?_
      refine tl_q rfl (ev_lss rfl rfl) ?_
      refine tl_guard rfl rfl rfl ?_
      refine tl_q rfl (ev_move rfl) ?_
      refine tl_split_dec 12 rfl (fun g1_9 => ?_) (fun g1_9 => ?_)
      · refine tl_guard_no rfl rfl rfl rfl ?_
        refine tl_guard_no rfl rfl rfl rfl ?_
        refine tl_guard rfl rfl rfl ?_
        refine tl_q rfl (ev_pick_true rfl rfl) ?_
        refine tl_q rfl (ev_pick_true rfl rfl) ?_
        refine tl_q rfl (ev_assign rfl) ?_
        refine tl_nil ?_
        refine te_code ?_
        refine t_ret ?_
        refine te_ret_k (pre := []) (res1 rfl rfl) (by repeat (first | exact Frm.nil | exact Take.here | apply Take.there | apply Frm.cons)) ?_
        refine ⟨congrArg Value.bool (Bool.eq_iff_iff.2 ?_), rfl⟩
        first | (exfalso; first | omega | (simp_all; done)) | (simp [isCharF]; done) | (simp [isCharF]; omega)
      · refine tl_guard rfl rfl rfl ?_
        refine tl_q rfl (ev_move rfl) ?_
        refine tl_guard rfl rfl rfl ?_
        refine tl_q rfl (ev_gtr rfl rfl) ?_
        refine tl_guard rfl rfl rfl ?_
        refine tl_q rfl (ev_pick_false rfl rfl) ?_
        refine tl_q rfl (ev_pick_true rfl rfl) ?_
        refine tl_q rfl (ev_assign rfl) ?_
        refine tl_nil ?_
        refine te_code ?_
        refine t_ret ?_
        refine te_ret_k (pre := []) (res1 rfl rfl) (by repeat (first | exact Frm.nil | exact Take.here | apply Take.there | apply Frm.cons)) ?_
        refine ⟨congrArg Value.bool (Bool.eq_iff_iff.2 ?_), rfl⟩
        first | (exfalso; first | omega | (simp_all; done)) | (simp [isCharF]; done) | (simp [isCharF]; omega)
    · refine tl_guard_no rfl rfl rfl rfl ?_
      refine tl_guard_no rfl rfl rfl rfl ?_
      refine tl_guard_no rfl rfl rfl rfl ?_
      refine tl_guard_un rfl rfl rfl ?_
      refine tl_guard_un rfl rfl rfl ?_
      refine tl_guard_no rfl rfl rfl rfl ?_
      refine tl_q rfl (ev_pick_false rfl rfl) ?_
      refine tl_q rfl (ev_assign rfl) ?_
      refine tl_nil ?_
      refine te_code ?_
      refine t_ret ?_
      refine te_ret_k (pre := []) (res1 rfl rfl) (by repeat (first | exact Frm.nil | exact Take.here | apply Take.there | apply Frm.cons)) ?_
      refine ⟨congrArg Value.bool (Bool.eq_iff_iff.2 ?_), rfl⟩
      first | (exfalso; first | omega | (simp_all; done)) | (simp [isCharF]; done) | (simp [isCharF]; omega)
  · refine tl_guard_no rfl rfl rfl rfl ?_
    refine tl_guard_no rfl rfl rfl rfl ?_
    refine tl_q rfl (ev_pick_false rfl rfl) ?_
    refine tl_q rfl (ev_move rfl) ?_
    refine tl_guard_no rfl rfl rfl rfl ?_
    refine tl_guard_no rfl rfl rfl rfl ?_
    refine tl_guard_no rfl rfl rfl rfl ?_
    refine tl_guard_un rfl rfl rfl ?_
    refine tl_guard_un rfl rfl rfl ?_
    refine tl_guard_no rfl rfl rfl rfl ?_
    refine tl_q rfl (ev_pick_false rfl rfl) ?_
    refine tl_q rfl (ev_assign rfl) ?_
    refine tl_nil ?_
    refine te_code ?_
    refine t_ret ?_
    refine te_ret_k (pre := []) (res1 rfl rfl) (by repeat (first | exact Frm.nil | exact Take.here | apply Take.there | apply Frm.cons)) ?_
    refine ⟨congrArg Value.bool (Bool.eq_iff_iff.2 ?_), rfl⟩
    first | (exfalso; first | omega | (simp_all; done)) | (simp [isCharF]; done) | (simp [isCharF]; omega)

theorem guess_ct (s : ByteArray) (n : Int) (hn : 1 ≤ n ∧ n ≤ 4) (hs : n ≤ s.size) : CT Tryz.prog 249 #[.string s, .int .i64 n] [] (fun v M => ∃ c, v = .int .i64 c ∧ M = [] ∧ (n = 1 → ∀ u, s.data[0]? = some u → c = (u.toNat : Int))) := by
  refine t_fun (vs := [.string s, .int .i64 n]) (n := 38) Tryz.func249 rfl Tryz.ntmps249 rfl fun w0 F => ?_
  refine t_seq ?_
  refine t_region ?_
  refine tl_q rfl (ev_assign rfl) ?_
  refine tl_nil ?_
  refine te_code ?_
  refine t_seq ?_
  refine t_region ?_
  have hpos : 0 < s.size := by omega
  obtain ⟨u, hu⟩ := byte_get hpos
  have hub := u8_lt u
  refine tl_q rfl (ev_move rfl) ?_
  refine tl_q rfl (ev_indexStr str_9 rfl rfl (by omega) hu) ?_
  refine tl_q rfl (ev_toInt64 ti_5_3 rfl (by omega)) ?_
  refine tl_q rfl (ev_assign rfl) ?_
  refine tl_nil ?_
  refine te_code ?_
  refine t_seq ?_
  refine t_seq ?_
  refine t_region ?_
  refine tl_q rfl (ev_move rfl) ?_
  refine tl_nil ?_
  refine te_code ?_
  refine t_block ?_
  refine t_seq ?_
  refine t_region ?_
  refine tl_q rfl (ev_eql rfl rfl) ?_
  refine tl_q rfl (ev_assign rfl) ?_
  refine tl_nil ?_
  refine te_code ?_
  refine t_cond_dec rfl (fun h0 => ?_) (fun h0 => ?_)
  · refine t_seq ?_
    refine t_region ?_
    refine tl_q rfl (ev_move rfl) ?_
    refine tl_q rfl (ev_assign rfl) ?_
    refine tl_nil ?_
    refine te_code ?_
    refine t_ret ?_
    refine te_ret_k (pre := []) (res1 rfl rfl) (by repeat (first | exact Frm.nil | exact Take.here | apply Take.there | apply Frm.cons)) ?_
    refine ⟨_, rfl, rfl, fun hn1 u2 hu2 => ?_⟩
    first | (exfalso; omega) | (rw [hu] at hu2; cases hu2; rfl)
  · refine t_seq ?_
    refine t_region ?_
    refine tl_q rfl (ev_eql rfl rfl) ?_
    refine tl_q rfl (ev_assign rfl) ?_
    refine tl_nil ?_
    refine te_code ?_
    refine t_cond_dec rfl (fun h1 => ?_) (fun h1 => ?_)
    · refine t_region ?_
      refine tl_q rfl (ev_move rfl) ?_
      refine tl_q rfl (ev_rem' rfl rfl (by omega) (by omega)) ?_
      refine tl_q rfl (ev_assign rfl) ?_
      refine tl_nil ?_
      refine te_blk ?_
      refine te_code ?_
      refine t_seq ?_
      refine t_seq ?_
      refine t_region ?_
      refine tl_q rfl (ev_assign rfl) ?_
      refine tl_nil ?_
      refine te_code ?_
      refine t_block ?_
      refine t_loop (α := Int × Int) (fun q => [(6, .int .i64 q.1), (5, .int .i64 q.2), (1, .int .i64 n), (0, .string s)]) (fun _ => []) (fun q => (n - q.1).toNat) (fun q => 1 ≤ q.1) (1, _) (by dsimp only; omega) (by exact sub_cons rfl (sub_cons rfl (sub_cons rfl (sub_cons rfl (sub_nil))))) (fun _ h => hold_keep (by repeat (first | exact Frm.nil | exact Take.here | apply Take.there | apply Frm.cons)) h) ?_
      rintro ⟨i, c⟩ hi1
      try dsimp only
      dsimp only at hi1
      refine t_seq ?_
      refine t_seq ?_
      refine t_region ?_
      refine tl_q rfl (ev_move rfl) ?_
      refine tl_q rfl (ev_move rfl) ?_
      refine tl_q rfl (ev_lss rfl rfl) ?_
      refine tl_nil ?_
      refine te_code ?_
      refine t_cond_dec rfl (fun hlt => ?_) (fun hlt => ?_)
      · obtain ⟨j, rfl⟩ := Int.eq_ofNat_of_zero_le (show 0 ≤ i by omega)
        obtain ⟨x, hx⟩ := byte_get (s := s) (i := j) (by omega)
        have hxb := u8_lt x
        refine t_skip ?_
        refine te_code ?_
        refine t_seq ?_
        refine t_block ?_
        refine t_region ?_
        refine tl_q rfl (ev_move rfl) ?_
        refine tl_q rfl (ev_mul rfl rfl) ?_
        refine tl_q rfl (ev_move rfl) ?_
        refine tl_q rfl (ev_move rfl) ?_
        refine tl_q rfl (ev_indexStr str_9 rfl rfl (by omega) (by simpa using hx)) ?_
        refine tl_q rfl (ev_rem' rfl rfl (by omega) (by omega)) ?_
        refine tl_q rfl (ev_toInt64 ti_5_3 rfl (by omega)) ?_
        refine tl_q rfl (ev_add rfl rfl) ?_
        refine tl_q rfl (ev_assign rfl) ?_
        refine tl_nil ?_
        refine te_blk ?_
        refine te_code ?_
        refine t_region ?_
        refine tl_q rfl (ev_move rfl) ?_
        refine tl_q rfl (ev_add' rfl rfl (by omega)) ?_
        refine tl_q rfl (ev_assign rfl) ?_
        refine tl_nil ?_
        exact te_round (_, _) (by exact sub_cons rfl (sub_cons rfl (sub_cons rfl (sub_cons rfl (sub_nil))))) (fun _ h => hold_keep (by repeat (first | exact Frm.nil | exact Take.here | apply Take.there | apply Frm.cons)) h) (by dsimp only; omega) (by dsimp only; omega)
      · refine t_exit ?_
        refine te_exit_code ?_
        refine te_exit_rnd ?_
        refine te_exit_here ?_
        refine te_code ?_
        refine t_seq ?_
        refine t_region ?_
        refine tl_q rfl (ev_move rfl) ?_
        refine tl_q rfl (ev_assign rfl) ?_
        refine tl_nil ?_
        refine te_code ?_
        refine t_ret ?_
        refine te_ret_k (pre := []) (res1 rfl rfl) (by repeat (first | exact Frm.nil | exact Take.here | apply Take.there | apply Frm.cons)) ?_
        refine ⟨_, rfl, rfl, fun hn1 u2 hu2 => ?_⟩
        first | (exfalso; omega) | (rw [hu] at hu2; cases hu2; rfl)
    · refine t_seq ?_
      refine t_region ?_
      refine tl_q rfl (ev_eql rfl rfl) ?_
      refine tl_q rfl (ev_assign rfl) ?_
      refine tl_nil ?_
      refine te_code ?_
      refine t_cond_dec rfl (fun h2 => ?_) (fun h2 => ?_)
      · refine t_region ?_
        refine tl_q rfl (ev_move rfl) ?_
        refine tl_q rfl (ev_rem' rfl rfl (by omega) (by omega)) ?_
        refine tl_q rfl (ev_assign rfl) ?_
        refine tl_nil ?_
        refine te_blk ?_
        refine te_code ?_
        refine t_seq ?_
        refine t_seq ?_
        refine t_region ?_
        refine tl_q rfl (ev_assign rfl) ?_
        refine tl_nil ?_
        refine te_code ?_
        refine t_block ?_
        refine t_loop (α := Int × Int) (fun q => [(6, .int .i64 q.1), (5, .int .i64 q.2), (1, .int .i64 n), (0, .string s)]) (fun _ => []) (fun q => (n - q.1).toNat) (fun q => 1 ≤ q.1) (1, _) (by dsimp only; omega) (by exact sub_cons rfl (sub_cons rfl (sub_cons rfl (sub_cons rfl (sub_nil))))) (fun _ h => hold_keep (by repeat (first | exact Frm.nil | exact Take.here | apply Take.there | apply Frm.cons)) h) ?_
        rintro ⟨i, c⟩ hi1
        try dsimp only
        dsimp only at hi1
        refine t_seq ?_
        refine t_seq ?_
        refine t_region ?_
        refine tl_q rfl (ev_move rfl) ?_
        refine tl_q rfl (ev_move rfl) ?_
        refine tl_q rfl (ev_lss rfl rfl) ?_
        refine tl_nil ?_
        refine te_code ?_
        refine t_cond_dec rfl (fun hlt => ?_) (fun hlt => ?_)
        · obtain ⟨j, rfl⟩ := Int.eq_ofNat_of_zero_le (show 0 ≤ i by omega)
          obtain ⟨x, hx⟩ := byte_get (s := s) (i := j) (by omega)
          have hxb := u8_lt x
          refine t_skip ?_
          refine te_code ?_
          refine t_seq ?_
          refine t_block ?_
          refine t_region ?_
          refine tl_q rfl (ev_move rfl) ?_
          refine tl_q rfl (ev_mul rfl rfl) ?_
          refine tl_q rfl (ev_move rfl) ?_
          refine tl_q rfl (ev_move rfl) ?_
          refine tl_q rfl (ev_indexStr str_9 rfl rfl (by omega) (by simpa using hx)) ?_
          refine tl_q rfl (ev_rem' rfl rfl (by omega) (by omega)) ?_
          refine tl_q rfl (ev_toInt64 ti_5_3 rfl (by omega)) ?_
          refine tl_q rfl (ev_add rfl rfl) ?_
          refine tl_q rfl (ev_assign rfl) ?_
          refine tl_nil ?_
          refine te_blk ?_
          refine te_code ?_
          refine t_region ?_
          refine tl_q rfl (ev_move rfl) ?_
          refine tl_q rfl (ev_add' rfl rfl (by omega)) ?_
          refine tl_q rfl (ev_assign rfl) ?_
          refine tl_nil ?_
          exact te_round (_, _) (by exact sub_cons rfl (sub_cons rfl (sub_cons rfl (sub_cons rfl (sub_nil))))) (fun _ h => hold_keep (by repeat (first | exact Frm.nil | exact Take.here | apply Take.there | apply Frm.cons)) h) (by dsimp only; omega) (by dsimp only; omega)
        · refine t_exit ?_
          refine te_exit_code ?_
          refine te_exit_rnd ?_
          refine te_exit_here ?_
          refine te_code ?_
          refine t_seq ?_
          refine t_region ?_
          refine tl_q rfl (ev_move rfl) ?_
          refine tl_q rfl (ev_assign rfl) ?_
          refine tl_nil ?_
          refine te_code ?_
          refine t_ret ?_
          refine te_ret_k (pre := []) (res1 rfl rfl) (by repeat (first | exact Frm.nil | exact Take.here | apply Take.there | apply Frm.cons)) ?_
          refine ⟨_, rfl, rfl, fun hn1 u2 hu2 => ?_⟩
          first | (exfalso; omega) | (rw [hu] at hu2; cases hu2; rfl)
      · refine t_region ?_
        refine tl_q rfl (ev_move rfl) ?_
        refine tl_q rfl (ev_rem' rfl rfl (by omega) (by omega)) ?_
        refine tl_q rfl (ev_assign rfl) ?_
        refine tl_nil ?_
        refine te_blk ?_
        refine te_code ?_
        refine t_seq ?_
        refine t_seq ?_
        refine t_region ?_
        refine tl_q rfl (ev_assign rfl) ?_
        refine tl_nil ?_
        refine te_code ?_
        refine t_block ?_
        refine t_loop (α := Int × Int) (fun q => [(6, .int .i64 q.1), (5, .int .i64 q.2), (1, .int .i64 n), (0, .string s)]) (fun _ => []) (fun q => (n - q.1).toNat) (fun q => 1 ≤ q.1) (1, _) (by dsimp only; omega) (by exact sub_cons rfl (sub_cons rfl (sub_cons rfl (sub_cons rfl (sub_nil))))) (fun _ h => hold_keep (by repeat (first | exact Frm.nil | exact Take.here | apply Take.there | apply Frm.cons)) h) ?_
        rintro ⟨i, c⟩ hi1
        try dsimp only
        dsimp only at hi1
        refine t_seq ?_
        refine t_seq ?_
        refine t_region ?_
        refine tl_q rfl (ev_move rfl) ?_
        refine tl_q rfl (ev_move rfl) ?_
        refine tl_q rfl (ev_lss rfl rfl) ?_
        refine tl_nil ?_
        refine te_code ?_
        refine t_cond_dec rfl (fun hlt => ?_) (fun hlt => ?_)
        · obtain ⟨j, rfl⟩ := Int.eq_ofNat_of_zero_le (show 0 ≤ i by omega)
          obtain ⟨x, hx⟩ := byte_get (s := s) (i := j) (by omega)
          have hxb := u8_lt x
          refine t_skip ?_
          refine te_code ?_
          refine t_seq ?_
          refine t_block ?_
          refine t_region ?_
          refine tl_q rfl (ev_move rfl) ?_
          refine tl_q rfl (ev_mul rfl rfl) ?_
          refine tl_q rfl (ev_move rfl) ?_
          refine tl_q rfl (ev_move rfl) ?_
          refine tl_q rfl (ev_indexStr str_9 rfl rfl (by omega) (by simpa using hx)) ?_
          refine tl_q rfl (ev_rem' rfl rfl (by omega) (by omega)) ?_
          refine tl_q rfl (ev_toInt64 ti_5_3 rfl (by omega)) ?_
          refine tl_q rfl (ev_add rfl rfl) ?_
          refine tl_q rfl (ev_assign rfl) ?_
          refine tl_nil ?_
          refine te_blk ?_
          refine te_code ?_
          refine t_region ?_
          refine tl_q rfl (ev_move rfl) ?_
          refine tl_q rfl (ev_add' rfl rfl (by omega)) ?_
          refine tl_q rfl (ev_assign rfl) ?_
          refine tl_nil ?_
          exact te_round (_, _) (by exact sub_cons rfl (sub_cons rfl (sub_cons rfl (sub_cons rfl (sub_nil))))) (fun _ h => hold_keep (by repeat (first | exact Frm.nil | exact Take.here | apply Take.there | apply Frm.cons)) h) (by dsimp only; omega) (by dsimp only; omega)
        · refine t_exit ?_
          refine te_exit_code ?_
          refine te_exit_rnd ?_
          refine te_exit_here ?_
          refine te_code ?_
          refine t_seq ?_
          refine t_region ?_
          refine tl_q rfl (ev_move rfl) ?_
          refine tl_q rfl (ev_assign rfl) ?_
          refine tl_nil ?_
          refine te_code ?_
          refine t_ret ?_
          refine te_ret_k (pre := []) (res1 rfl rfl) (by repeat (first | exact Frm.nil | exact Take.here | apply Take.there | apply Frm.cons)) ?_
          refine ⟨_, rfl, rfl, fun hn1 u2 hu2 => ?_⟩
          first | (exfalso; omega) | (rw [hu] at hu2; cases hu2; rfl)


theorem good_first {s : ByteArray} (g : goodS s) (hp : 0 < s.size) {c : Int} (h : ∀ u : UInt8, s.data[0]? = some u → c = (u.toNat : Int)) : 32 ≤ c ∧ c < 127 ∧ s.extract 0 1 = ⟨#[UInt8.ofNat c.toNat]⟩ := by
  obtain ⟨u, hu⟩ := byte_get hp
  have e := h u hu
  subst e
  have hg := goodS_at g hu
  refine ⟨hg.1, hg.2, ?_⟩
  apply ByteArray.ext
  rw [ByteArray.data_extract]
  apply Array.ext_getElem?
  intro i
  have hsz : s.data.size = s.size := rfl
  rw [Array.getElem?_extract]
  cases i with
  | zero =>
    simp [hu, show 0 < min 1 s.data.size by omega]
    rintro rfl; exact absurd hp (by decide)
  | succ i => simp; omega

theorem First04_ct (s : ByteArray) (hs : s.size ≤ 1000000) : CT Tryz.prog 213 #[.string s] [] (fun v M => ∃ c n e, v = .tuple #[.int .i64 c, .int .i64 n, .int .i64 e] ∧ M = [] ∧ (e = 0 → 1 ≤ n ∧ n ≤ s.size) ∧ (goodS s → 0 < s.size → e = 0 ∧ n = 1 ∧ 32 ≤ c ∧ c < 127)) := by
  refine t_fun (vs := [.string s]) (n := 32) Tryz.func213 rfl Tryz.ntmps213 rfl fun w0 F => ?_
  refine t_seq ?_
  refine t_region ?_
  refine tl_q rfl (ev_assign rfl) ?_
  refine tl_q rfl (ev_assign rfl) ?_
  refine tl_q rfl (ev_assign rfl) ?_
  refine tl_nil ?_
  refine te_code ?_
  refine t_seq ?_
  refine t_seq ?_
  refine t_region ?_
  refine tl_q rfl (ev_assign rfl) ?_
  refine tl_nil ?_
  refine te_code ?_
  refine t_block ?_
  refine t_loop (α := Int) (fun q => [(5, .int .i64 q), (0, .string s)]) (fun _ => []) (fun q => (5 - q).toNat) (fun q => 1 ≤ q ∧ (goodS s → 0 < s.size → q = 1)) 1 ⟨by omega, fun _ _ => rfl⟩ (by exact sub_cons rfl (sub_cons rfl (sub_nil))) (fun _ h => hold_keep (by repeat (first | exact Frm.nil | exact Take.here | apply Take.there | apply Frm.cons)) h) ?_
  rintro i ⟨hi1, hi2⟩
  try dsimp only
  refine t_seq ?_
  refine t_seq ?_
  refine t_region ?_
  refine tl_q rfl (ev_move rfl) ?_
  refine tl_q rfl (ev_leq rfl rfl) ?_
  refine tl_q rfl (ev_move rfl) ?_
  refine tl_split_dec 9 rfl (fun g2_2 => ?_) (fun g2_2 => ?_)
  · refine tl_guard rfl rfl rfl ?_
    refine tl_q rfl (ev_move rfl) ?_
    refine tl_guard rfl rfl rfl ?_
    refine tl_q rfl (ev_move rfl) ?_
    refine tl_guard rfl rfl rfl ?_
    refine tl_q rfl (ev_len_str str_9 rfl) ?_
    refine tl_guard rfl rfl rfl ?_
    refine tl_q rfl (ev_leq rfl rfl) ?_
    refine tl_q rfl (ev_pick_true rfl rfl) ?_
    refine tl_nil ?_
    refine te_code ?_
    refine t_cond_dec rfl (fun h0 => ?_) (fun h0 => ?_)
    · refine t_skip ?_
      refine te_code ?_
      refine t_seq ?_
      refine t_block ?_
      refine t_seq ?_
      refine t_region ?_
      obtain ⟨j, rfl⟩ := Int.eq_ofNat_of_zero_le (show 0 ≤ i by omega)
      refine tl_q rfl (ev_move rfl) ?_
      refine tl_q rfl (ev_move rfl) ?_
      refine tl_e (eff_call rfl rfl body_249 rfl (by repeat (first | exact Frm.nil | exact Take.here | apply Take.there | apply Frm.cons)) (guess_ct _ _ (by omega) (by omega))) ?_
      rintro _ _ ⟨v19, _, ⟨c, rfl, rfl, hgs⟩, rfl, rfl⟩
      refine tl_q rfl (ev_assign rfl) ?_
      refine tl_nil ?_
      refine te_code ?_
      refine t_seq ?_
      refine t_drawn_all follows ?_
      refine tr_q 0 rfl (by kernel_rfl) (by kernel_rfl) (by kernel_rfl) rfl (by intro _ h; repeat (first | exact h | replace h := Hold.drop h)) (ev_move rfl) ?_
      refine tr_e 1 rfl (by kernel_rfl) (eff_call rfl rfl body_250 rfl (by repeat (first | exact Frm.nil | exact Take.here | apply Take.there | apply Frm.cons)) (Is04_ct _)) (by rintro _ _ ⟨_, _, ⟨rfl, rfl⟩, rfl, rfl⟩; exact (by intro _ h; repeat (first | exact h | replace h := Hold.drop h))) ?_
      rintro _ _ ⟨v21, _, ⟨rfl, rfl⟩, rfl, rfl⟩
      refine tr_q 2 rfl (by kernel_rfl) (by kernel_rfl) (by kernel_rfl) rfl (by intro _ h; repeat (first | exact h | replace h := Hold.drop h)) (ev_move rfl) ?_
      refine tr_split_dec 22 rfl (fun g5_2 => ?_) (fun g5_2 => ?_)
      · refine tr_qg 3 rfl (by kernel_rfl) (by kernel_rfl) (by kernel_rfl) rfl rfl rfl rfl (by intro _ h; repeat (first | exact h | replace h := Hold.drop h)) (ev_move rfl) ?_
        refine tr_qg 5 rfl (by kernel_rfl) (by kernel_rfl) (by kernel_rfl) rfl rfl rfl rfl (by intro _ h; repeat (first | exact h | replace h := Hold.drop h)) (ev_move rfl) ?_
        refine tr_qg 6 rfl (by kernel_rfl) (by kernel_rfl) (by kernel_rfl) rfl rfl rfl rfl (by intro _ h; repeat (first | exact h | replace h := Hold.drop h)) (ev_move rfl) ?_
        refine tr_qg 7 rfl (by kernel_rfl) (by kernel_rfl) (by kernel_rfl) rfl rfl rfl rfl (by intro _ h; repeat (first | exact h | replace h := Hold.drop h)) (ev_sliceStr str_9 rfl rfl ⟨_, rfl⟩ (by omega) (by omega)) ?_
        refine tr_eg 4 rfl (by kernel_rfl) rfl rfl rfl (eff_call rfl rfl body_251 rfl (by repeat (first | exact Frm.nil | exact Take.here | apply Take.there | apply Frm.cons)) (Made_ct _)) (by rintro _ _ ⟨_, _, ⟨s2, rfl, rfl, hmd⟩, rfl, rfl⟩; exact (by intro _ h; repeat (first | exact h | replace h := Hold.drop h))) ?_
        rintro _ _ ⟨v24, _, ⟨s2, rfl, rfl, hmd⟩, rfl, rfl⟩
        refine tr_qg 8 rfl (by kernel_rfl) (by kernel_rfl) (by kernel_rfl) rfl rfl rfl rfl (by intro _ h; repeat (first | exact h | replace h := Hold.drop h)) (ev_seql rfl rfl) ?_
        refine tr_q 9 rfl (by kernel_rfl) (by kernel_rfl) (by kernel_rfl) rfl (by intro _ h; repeat (first | exact h | replace h := Hold.drop h)) (ev_pick_true rfl rfl) ?_
        refine tr_done (by kernel_rfl) ?_
        refine te_code ?_
        refine t_cond_dec rfl (fun h1 => ?_) (fun h1 => ?_)
        · refine t_seq ?_
          refine t_region ?_
          refine tl_q rfl (ev_move rfl) ?_
          refine tl_q rfl (ev_move rfl) ?_
          refine tl_q rfl (ev_assign rfl) ?_
          refine tl_q rfl (ev_assign rfl) ?_
          refine tl_q rfl (ev_assign rfl) ?_
          refine tl_nil ?_
          refine te_code ?_
          refine t_ret ?_
          refine te_ret_k (pre := []) (resx rfl (RL.cons (resIs_tmp rfl) (RL.cons (resIs_tmp rfl) (RL.cons (resIs_tmp rfl) (RL.nil))))) (by repeat (first | exact Frm.nil | exact Take.here | apply Take.there | apply Frm.cons)) ?_
          refine ⟨_, _, _, rfl, rfl, ?_, fun g hp => ?_⟩
          · first | (intro h; exact absurd h (by decide)) | (intro _; omega)
          · first | (have := hi2 g hp; exfalso; omega) | (obtain rfl : j = 1 := (by have := hi2 g hp; omega); obtain ⟨a1, a2, a3⟩ := good_first g hp (hgs rfl); exact ⟨rfl, rfl, a1, a2⟩)
        · refine t_skip ?_
          refine te_blk ?_
          refine te_code ?_
          refine t_region ?_
          refine tl_q rfl (ev_move rfl) ?_
          refine tl_q rfl (ev_add' rfl rfl (by omega)) ?_
          refine tl_q rfl (ev_assign rfl) ?_
          refine tl_nil ?_
          exact te_round _ (by exact sub_cons rfl (sub_cons rfl (sub_nil))) (fun _ h => hold_keep (by repeat (first | exact Frm.nil | exact Take.here | apply Take.there | apply Frm.cons)) h) ⟨by omega, fun g hp => by
                obtain rfl : j = 1 := (by have := hi2 g hp; omega)
                obtain ⟨a1, a2, a3⟩ := good_first g hp (hgs rfl)
                exfalso
                first | omega | exact h1 (by rw [hmd (by omega) (by omega), a3])⟩ (by omega)
      · refine tr_no 3 rfl (by kernel_rfl) (by kernel_rfl) (by kernel_rfl) rfl rfl rfl rfl (by intro _ h; repeat (first | exact h | replace h := Hold.drop h)) ?_
        refine tr_no 4 rfl (by kernel_rfl) (by kernel_rfl) (by kernel_rfl) rfl rfl rfl rfl (by intro _ h; repeat (first | exact h | replace h := Hold.drop h)) ?_
        refine tr_no 5 rfl (by kernel_rfl) (by kernel_rfl) (by kernel_rfl) rfl rfl rfl rfl (by intro _ h; repeat (first | exact h | replace h := Hold.drop h)) ?_
        refine tr_no 6 rfl (by kernel_rfl) (by kernel_rfl) (by kernel_rfl) rfl rfl rfl rfl (by intro _ h; repeat (first | exact h | replace h := Hold.drop h)) ?_
        refine tr_no 7 rfl (by kernel_rfl) (by kernel_rfl) (by kernel_rfl) rfl rfl rfl rfl (by intro _ h; repeat (first | exact h | replace h := Hold.drop h)) ?_
        refine tr_no 8 rfl (by kernel_rfl) (by kernel_rfl) (by kernel_rfl) rfl rfl rfl rfl (by intro _ h; repeat (first | exact h | replace h := Hold.drop h)) ?_
        refine tr_q 9 rfl (by kernel_rfl) (by kernel_rfl) (by kernel_rfl) rfl (by intro _ h; repeat (first | exact h | replace h := Hold.drop h)) (ev_pick_false rfl rfl) ?_
        refine tr_done (by kernel_rfl) ?_
        refine te_code ?_
        refine t_cond_false rfl ?_
        refine t_skip ?_
        refine te_blk ?_
        refine te_code ?_
        refine t_region ?_
        refine tl_q rfl (ev_move rfl) ?_
        refine tl_q rfl (ev_add' rfl rfl (by omega)) ?_
        refine tl_q rfl (ev_assign rfl) ?_
        refine tl_nil ?_
        exact te_round _ (by exact sub_cons rfl (sub_cons rfl (sub_nil))) (fun _ h => hold_keep (by repeat (first | exact Frm.nil | exact Take.here | apply Take.there | apply Frm.cons)) h) ⟨by omega, fun g hp => by
              obtain rfl : j = 1 := (by have := hi2 g hp; omega)
              obtain ⟨a1, a2, a3⟩ := good_first g hp (hgs rfl)
              exfalso
              first | omega | exact h1 (by rw [hmd (by omega) (by omega), a3])⟩ (by omega)
    · refine t_exit ?_
      refine te_exit_code ?_
      refine te_exit_rnd ?_
      refine te_exit_here ?_
      refine te_code ?_
      refine t_seq ?_
      refine t_region ?_
      refine tl_q rfl (ev_assign rfl) ?_
      refine tl_q rfl (ev_assign rfl) ?_
      refine tl_q rfl (ev_assign rfl) ?_
      refine tl_nil ?_
      refine te_code ?_
      refine t_ret ?_
      refine te_ret_k (pre := []) (resx rfl (RL.cons (resIs_tmp rfl) (RL.cons (resIs_tmp rfl) (RL.cons (resIs_tmp rfl) (RL.nil))))) (by repeat (first | exact Frm.nil | exact Take.here | apply Take.there | apply Frm.cons)) ?_
      refine ⟨_, _, _, rfl, rfl, ?_, fun g hp => ?_⟩
      · first | (intro h; exact absurd h (by decide)) | (intro _; omega)
      · first | (have := hi2 g hp; exfalso; omega) | (obtain rfl : j = 1 := (by have := hi2 g hp; omega); obtain ⟨a1, a2, a3⟩ := good_first g hp (hgs rfl); exact ⟨rfl, rfl, a1, a2⟩)
  · refine tl_guard_no rfl rfl rfl rfl ?_
    refine tl_guard_no rfl rfl rfl rfl ?_
    refine tl_guard_no rfl rfl rfl rfl ?_
    refine tl_guard_no rfl rfl rfl rfl ?_
    refine tl_q rfl (ev_pick_false rfl rfl) ?_
    refine tl_nil ?_
    refine te_code ?_
    refine t_cond_false rfl ?_
    refine t_exit ?_
    refine te_exit_code ?_
    refine te_exit_rnd ?_
    refine te_exit_here ?_
    refine te_code ?_
    refine t_seq ?_
    refine t_region ?_
    refine tl_q rfl (ev_assign rfl) ?_
    refine tl_q rfl (ev_assign rfl) ?_
    refine tl_q rfl (ev_assign rfl) ?_
    refine tl_nil ?_
    refine te_code ?_
    refine t_ret ?_
    refine te_ret_k (pre := []) (resx rfl (RL.cons (resIs_tmp rfl) (RL.cons (resIs_tmp rfl) (RL.cons (resIs_tmp rfl) (RL.nil))))) (by repeat (first | exact Frm.nil | exact Take.here | apply Take.there | apply Frm.cons)) ?_
    refine ⟨_, _, _, rfl, rfl, ?_, fun g hp => ?_⟩
    · first | (intro h; exact absurd h (by decide)) | (intro _; omega)
    · first | (have := hi2 g hp; exfalso; omega) | (obtain rfl : j = 1 := (by have := hi2 g hp; omega); obtain ⟨a1, a2, a3⟩ := good_first g hp (hgs rfl); exact ⟨rfl, rfl, a1, a2⟩)

theorem Chars04_ct (s : ByteArray) (hs : s.size ≤ 1000000) : CT Tryz.prog 166 #[.string s] [] (fun v M => ∃ sv xs e, v = .tuple #[sv, .int .i64 e] ∧ M = [arr 3 1 encI sv xs] ∧ xs.length ≤ s.size ∧ (goodS s → e = 0 ∧ ∀ x ∈ xs, 32 ≤ x ∧ x < 127)) := by
  refine t_fun (vs := [.string s]) (n := 32) Tryz.func166 rfl Tryz.ntmps166 rfl fun w0 F => ?_
  refine t_nil_arr 3 1 encI ?_
  refine t_seq ?_
  refine t_region ?_
  refine tl_q rfl (ev_assign rfl) ?_
  refine tl_q rfl (ev_assign rfl) ?_
  refine tl_nil ?_
  refine te_code ?_
  refine t_seq ?_
  refine t_region ?_
  refine tl_q rfl (ev_assign rfl) ?_
  refine tl_nil ?_
  refine te_code ?_
  refine t_seq ?_
  refine t_seq ?_
  refine t_region ?_
  refine tl_q rfl (ev_assign rfl) ?_
  refine tl_nil ?_
  refine te_code ?_
  refine t_block ?_
  refine t_loop (α := Nat × Value × List Int) (fun q => [(0, .string s), (5, .int .i64 (q.1 : Int)), (4, q.2.1)]) (fun q => [arr 3 1 encI q.2.1 q.2.2]) (fun q => s.size - q.1) (fun q => q.1 ≤ s.size ∧ q.2.2.length ≤ q.1 ∧ (goodS s → ∀ x ∈ q.2.2, 32 ≤ x ∧ x < 127)) (0, .slice none 0 0, []) (by simp) (by exact sub_cons rfl (sub_cons rfl (sub_cons rfl (sub_nil)))) (fun _ h => hold_keep (by repeat (first | exact Frm.nil | exact Take.here | apply Take.there | apply Frm.cons)) h) ?_
  rintro ⟨at_, sv, xs⟩ ⟨hI, hI2, hG⟩
  try dsimp only
  dsimp only at hI hI2 hG
  refine t_seq ?_
  refine t_seq ?_
  refine t_region ?_
  refine tl_q rfl (ev_move rfl) ?_
  refine tl_q rfl (ev_move rfl) ?_
  refine tl_q rfl (ev_len_str str_9 rfl) ?_
  refine tl_q rfl (ev_lss rfl rfl) ?_
  refine tl_nil ?_
  refine te_code ?_
  refine t_cond_dec rfl (fun h0 => ?_) (fun h0 => ?_)
  · refine t_skip ?_
    refine te_code ?_
    refine t_block ?_
    refine t_seq ?_
    refine t_region ?_
    have hxz : (s.extract at_ s.size).size = s.size - at_ := size_extract _ _ _ (Nat.le_refl _)
    refine tl_q rfl (ev_move rfl) ?_
    refine tl_q rfl (ev_move rfl) ?_
    refine tl_q rfl (ev_sliceStr str_9 rfl ⟨_, rfl⟩ rfl (by omega) (Nat.le_refl _)) ?_
    refine tl_e (eff_call rfl rfl body_213 rfl (by repeat (first | exact Frm.nil | exact Take.here | apply Take.there | apply Frm.cons)) (First04_ct _ (by omega))) ?_
    rintro _ _ ⟨v17, _, ⟨c, n, e, rfl, rfl, hfn, hfg⟩, rfl, rfl⟩
    refine tl_q rfl (ev_move rfl) ?_
    refine tl_q rfl (ev_extract rfl rfl) ?_
    refine tl_q rfl (ev_extract rfl rfl) ?_
    refine tl_q rfl (ev_extract rfl rfl) ?_
    refine tl_q rfl (ev_assign rfl) ?_
    refine tl_q rfl (ev_assign rfl) ?_
    refine tl_q rfl (ev_assign rfl) ?_
    refine tl_nil ?_
    refine te_code ?_
    refine t_seq ?_
    refine t_seq ?_
    refine t_region ?_
    refine tl_q rfl (ev_move rfl) ?_
    refine tl_q rfl (ev_neq rfl rfl) ?_
    refine tl_nil ?_
    refine te_code ?_
    refine t_cond_dec rfl (fun he => ?_) (fun he => ?_)
    · refine t_seq ?_
      refine t_region ?_
      refine tl_q rfl (ev_move rfl) ?_
      refine tl_q rfl (ev_assign rfl) ?_
      refine tl_q rfl (ev_assign rfl) ?_
      refine tl_nil ?_
      refine te_code ?_
      refine t_ret ?_
      refine te_nil_arr 3 1 encI ?_
      refine te_ret_k (pre := [arr 3 1 encI _ _]) (res2 rfl rfl rfl) (by repeat (first | exact Frm.nil | exact Take.here | apply Take.there | apply Frm.cons)) ?_
      exact ⟨_, _, _, rfl, rfl, by simp, fun g => absurd (hfg (goodS_extract g _ _) (by omega)).1 (by omega)⟩
    · have he0 : e = 0 := by omega
      obtain ⟨m, rfl⟩ := Int.eq_ofNat_of_zero_le (show 0 ≤ n by omega)
      have hmm := hfn he0
      refine t_skip ?_
      refine te_code ?_
      refine t_seq ?_
      refine t_region ?_
      refine tl_q rfl (ev_move rfl) ?_
      refine tl_q rfl (ev_move rfl) ?_
      refine tl_e (eff_buildSl rfl bs_269_1 rfl (by repeat (first | exact FillR.nil | exact LPut.nil | apply LPut.cons | apply LPut.succ | apply FillR.cons rfl rfl rfl))) ?_
      rintro _ _ ⟨b26, rfl, rfl⟩
      refine tl_e (eff_append (ys := [c]) rfl sl_269 Tryz.underlying269 zero_3 rfl by_3 rfl rfl (by repeat (first | exact Take.here | apply Take.there)) (HasArr.lit (by first | (left; (repeat (first | exact List.Mem.head _ | apply List.Mem.tail)); done) | (right; (repeat (first | exact List.Mem.head _ | apply List.Mem.tail)); done)) rfl rfl) (by intro _; rfl) flatI (by simp; omega) (by decide)) ?_
      rintro _ _ ⟨v27, rfl, rfl⟩
      refine tl_q rfl (ev_assign rfl) ?_
      refine tl_nil ?_
      refine te_code ?_
      refine t_region ?_
      refine tl_q rfl (ev_move rfl) ?_
      refine tl_q rfl (ev_move rfl) ?_
      refine tl_q rfl (ev_add' rfl rfl (by omega)) ?_
      refine tl_q rfl (ev_assign rfl) ?_
      refine tl_nil ?_
      refine te_blk ?_
      exact te_round (at_ + m, _, xs ++ [c]) (by exact sub_cons rfl (sub_cons rfl (sub_cons rfl (sub_nil)))) (fun _ h => hold_keep (by repeat (first | exact Frm.nil | exact Take.here | apply Take.there | apply Frm.cons)) h) ⟨by dsimp only; omega, by dsimp only; simp; omega, fun g x hx => by
            have hc := (hfg (goodS_extract g _ _) (by omega)).2.2
            have hg := hG g x
            dsimp only at hx; simp at hx; rcases hx with hx | rfl
            · exact hg hx
            · exact hc⟩ (by dsimp only; omega)
  · refine t_exit ?_
    refine te_exit_code ?_
    refine te_exit_rnd ?_
    refine te_exit_here ?_
    refine te_code ?_
    refine t_seq ?_
    refine t_region ?_
    refine tl_q rfl (ev_move rfl) ?_
    refine tl_q rfl (ev_assign rfl) ?_
    refine tl_q rfl (ev_assign rfl) ?_
    refine tl_nil ?_
    refine te_code ?_
    refine t_ret ?_
    refine te_ret_k (pre := [arr 3 1 encI _ _]) (res2 rfl rfl rfl) (by repeat (first | exact Frm.nil | exact Take.here | apply Take.there | apply Frm.cons)) ?_
    exact ⟨_, _, _, rfl, rfl, by omega, fun g => ⟨rfl, hG g⟩⟩

theorem plain18_ct (s : ByteArray) (n : Int) (hs : s.size ≤ 1000000) : CT Tryz.prog 114 #[.string s, .int .i64 n] [] (fun v M => ∃ b : Bool, v = .bool b ∧ M = [] ∧ (goodS s → s.size ≤ n → b = true)) := by
  refine t_fun (vs := [.string s, .int .i64 n]) (n := 39) Tryz.func114 rfl Tryz.ntmps114 rfl fun w0 F => ?_
  refine t_seq ?_
  refine t_region ?_
  refine tl_q rfl (ev_assign rfl) ?_
  refine tl_nil ?_
  refine te_code ?_
  refine t_seq ?_
  refine t_region ?_
  refine tl_q rfl (ev_move rfl) ?_
  refine tl_e (eff_call rfl rfl body_166 rfl (by repeat (first | exact Frm.nil | exact Take.here | apply Take.there | apply Frm.cons)) (Chars04_ct _ (by omega))) ?_
  rintro _ _ ⟨v10, _, ⟨sv, xs, e, rfl, rfl, hcx, hcg⟩, rfl, rfl⟩
  refine tl_q rfl (ev_move rfl) ?_
  refine tl_q rfl (ev_extract rfl rfl) ?_
  refine tl_q rfl (ev_extract rfl rfl) ?_
  refine tl_q rfl (ev_assign rfl) ?_
  refine tl_q rfl (ev_assign rfl) ?_
  refine tl_nil ?_
  refine te_code ?_
  refine t_seq ?_
  refine t_seq ?_
  refine t_region ?_
  refine tl_shape (enc := encI) (sz := 1) (xs := xs) (by first | exact HasArr.own (by repeat (first | exact List.Mem.head _ | apply List.Mem.tail)) | exact HasArr.sh (by repeat (first | exact List.Mem.head _ | apply List.Mem.tail))) (by intro _; rfl) (fun hsh => ?_)
  refine tl_q rfl (ev_assign rfl) ?_
  refine tl_nil ?_
  refine te_code ?_
  refine t_block ?_
  refine t_loop (α := Nat) (fun q => [(7, .int .i64 (q : Int)), (5, sv), (6, .int .i64 e), (0, .string s), (1, .int .i64 n)]) (fun q => [arr 3 1 encI sv xs]) (fun q => xs.length - q) (fun q => q ≤ xs.length) 0 (by simp) (by exact sub_cons rfl (sub_cons rfl (sub_cons rfl (sub_cons rfl (sub_cons rfl (sub_nil)))))) (fun _ h => hold_keep (by repeat (first | exact Frm.nil | exact Take.here | apply Take.there | apply Frm.cons)) h) ?_
  rintro i hi
  try dsimp only
  refine t_seq ?_
  refine t_seq ?_
  refine t_region ?_
  refine tl_q rfl (ev_move rfl) ?_
  refine tl_q rfl (ev_move rfl) ?_
  refine tl_q rfl (ev_len_sh sl_269 rfl (by assumption)) ?_
  refine tl_q rfl (ev_lss rfl rfl) ?_
  refine tl_nil ?_
  refine te_code ?_
  refine t_cond_dec rfl (fun h0 => ?_) (fun h0 => ?_)
  · obtain ⟨u, hu⟩ : ∃ u, xs[i]? = some u := ⟨xs[i], by simp [show i < xs.length by omega]⟩
    refine t_skip ?_
    refine te_code ?_
    refine t_seq ?_
    refine t_block ?_
    refine t_seq ?_
    refine t_region ?_
    refine tl_q rfl (ev_move rfl) ?_
    refine tl_q rfl (ev_move rfl) ?_
    refine tl_q rfl (ev_at_sh sl_269 rfl rfl (by assumption) (by omega)) ?_
    refine tl_q rfl (ev_load_at0 sc_3 rfl (by first | exact HasArr.own (by repeat (first | exact List.Mem.head _ | apply List.Mem.tail)) | exact HasArr.sh (by repeat (first | exact List.Mem.head _ | apply List.Mem.tail))) (by intro _; rfl) (by assumption) (by rfl)) ?_
    refine tl_q rfl (ev_lss rfl rfl) ?_
    refine tl_q rfl (ev_move rfl) ?_
    refine tl_split_dec 24 rfl (fun g5_5 => ?_) (fun g5_5 => ?_)
    · refine tl_guard_no rfl rfl rfl rfl ?_
      refine tl_guard_no rfl rfl rfl rfl ?_
      refine tl_guard_no rfl rfl rfl rfl ?_
      refine tl_guard_no rfl rfl rfl rfl ?_
      refine tl_guard_no rfl rfl rfl rfl ?_
      refine tl_q rfl (ev_pick_true rfl rfl) ?_
      refine tl_nil ?_
      refine te_code ?_
      refine t_cond_true rfl ?_
      refine t_seq ?_
      refine t_region ?_
      refine tl_q rfl (ev_assign rfl) ?_
      refine tl_nil ?_
      refine te_code ?_
      refine t_ret ?_
      refine te_ret_k (pre := []) (res1 rfl rfl) (by repeat (first | exact Frm.nil | exact Take.here | apply Take.there | apply Frm.cons)) ?_
      refine ⟨_, rfl, rfl, fun g hn => ?_⟩
      obtain ⟨a1, a2⟩ := hcg g
      try have hu2 := a2 u (List.mem_of_getElem? hu)
      first | exact absurd a1 (by assumption) | (simpa using hn) | (exfalso; omega)
    · refine tl_guard rfl rfl rfl ?_
      refine tl_q rfl (ev_move rfl) ?_
      refine tl_guard rfl rfl rfl ?_
      refine tl_q rfl (ev_move rfl) ?_
      refine tl_guard rfl rfl rfl ?_
      refine tl_q rfl (ev_at_sh sl_269 rfl rfl (by assumption) (by omega)) ?_
      refine tl_guard rfl rfl rfl ?_
      refine tl_q rfl (ev_load_at0 sc_3 rfl (by first | exact HasArr.own (by repeat (first | exact List.Mem.head _ | apply List.Mem.tail)) | exact HasArr.sh (by repeat (first | exact List.Mem.head _ | apply List.Mem.tail))) (by intro _; rfl) (by assumption) (by rfl)) ?_
      refine tl_guard rfl rfl rfl ?_
      refine tl_q rfl (ev_eql rfl rfl) ?_
      refine tl_q rfl (ev_pick_false rfl rfl) ?_
      refine tl_nil ?_
      refine te_code ?_
      refine t_cond_dec rfl (fun h1 => ?_) (fun h1 => ?_)
      · refine t_seq ?_
        refine t_region ?_
        refine tl_q rfl (ev_assign rfl) ?_
        refine tl_nil ?_
        refine te_code ?_
        refine t_ret ?_
        refine te_ret_k (pre := []) (res1 rfl rfl) (by repeat (first | exact Frm.nil | exact Take.here | apply Take.there | apply Frm.cons)) ?_
        refine ⟨_, rfl, rfl, fun g hn => ?_⟩
        obtain ⟨a1, a2⟩ := hcg g
        try have hu2 := a2 u (List.mem_of_getElem? hu)
        first | exact absurd a1 (by assumption) | (simpa using hn) | (exfalso; omega)
      · refine t_skip ?_
        refine te_blk ?_
        refine te_code ?_
        refine t_region ?_
        refine tl_q rfl (ev_move rfl) ?_
        refine tl_q rfl (ev_add' rfl rfl (by omega)) ?_
        refine tl_q rfl (ev_assign rfl) ?_
        refine tl_nil ?_
        exact te_round (i + 1) (by exact sub_cons rfl (sub_cons rfl (sub_cons rfl (sub_cons rfl (sub_cons rfl (sub_nil)))))) (fun _ h => hold_keep (by repeat (first | exact Frm.nil | exact Take.here | apply Take.there | apply Frm.cons)) h) (by omega) (by omega)
  · refine t_exit ?_
    refine te_exit_code ?_
    refine te_exit_rnd ?_
    refine te_exit_here ?_
    refine te_code ?_
    refine t_seq ?_
    refine t_region ?_
    refine tl_q rfl (ev_move rfl) ?_
    refine tl_q rfl (ev_eql rfl rfl) ?_
    refine tl_q rfl (ev_move rfl) ?_
    refine tl_split_dec 33 rfl (fun g7_2 => ?_) (fun g7_2 => ?_)
    · refine tl_guard rfl rfl rfl ?_
      refine tl_q rfl (ev_move rfl) ?_
      refine tl_guard rfl rfl rfl ?_
      refine tl_q rfl (ev_len_str str_9 rfl) ?_
      refine tl_guard rfl rfl rfl ?_
      refine tl_q rfl (ev_move rfl) ?_
      refine tl_guard rfl rfl rfl ?_
      refine tl_q rfl (ev_leq rfl rfl) ?_
      refine tl_q rfl (ev_pick_true rfl rfl) ?_
      refine tl_q rfl (ev_assign rfl) ?_
      refine tl_nil ?_
      refine te_code ?_
      refine t_ret ?_
      refine te_ret_k (pre := []) (res1 rfl rfl) (by repeat (first | exact Frm.nil | exact Take.here | apply Take.there | apply Frm.cons)) ?_
      refine ⟨_, rfl, rfl, fun g hn => ?_⟩
      obtain ⟨a1, a2⟩ := hcg g
      try have hu2 := a2 u (List.mem_of_getElem? hu)
      first | exact absurd a1 (by assumption) | (simpa using hn) | (exfalso; omega)
    · refine tl_guard_no rfl rfl rfl rfl ?_
      refine tl_guard_no rfl rfl rfl rfl ?_
      refine tl_guard_no rfl rfl rfl rfl ?_
      refine tl_guard_no rfl rfl rfl rfl ?_
      refine tl_q rfl (ev_pick_false rfl rfl) ?_
      refine tl_q rfl (ev_assign rfl) ?_
      refine tl_nil ?_
      refine te_code ?_
      refine t_ret ?_
      refine te_ret_k (pre := []) (res1 rfl rfl) (by repeat (first | exact Frm.nil | exact Take.here | apply Take.there | apply Frm.cons)) ?_
      refine ⟨_, rfl, rfl, fun g hn => ?_⟩
      obtain ⟨a1, a2⟩ := hcg g
      try have hu2 := a2 u (List.mem_of_getElem? hu)
      first | exact absurd a1 (by assumption) | (simpa using hn) | (exfalso; omega)

theorem Check18_ct (e : Evt) (hn : e.node.size ≤ 1000000) (hc : e.cls.size ≤ 1000000) (hk : e.key.size ≤ 1000000) (ht : e.text.size ≤ 1000000) : CT Tryz.prog 71 #[.agg (encEvt e).toArray] [] (fun v M => ∃ c, v = .int .i64 c ∧ M = [] ∧ (goodE e → c = 0)) := by
  refine t_fun (vs := [.agg (encEvt e).toArray]) (n := 45) Tryz.func71 rfl Tryz.ntmps71 rfl fun w0 F => ?_
  refine t_seq ?_
  refine t_region ?_
  refine tl_e (eff_box rfl rfl rfl) ?_
  rintro _ _ ⟨b1, rfl, rfl⟩
  refine tl_q rfl (ev_assign rfl) ?_
  refine tl_nil ?_
  refine te_code ?_
  refine t_seq ?_
  refine t_seq ?_
  refine t_region ?_
  refine tl_q rfl (ev_fieldAddr fa_43_0 rfl rfl) ?_
  refine tl_q rfl (ev_load sc_9 rfl (by first | (left; (repeat (first | exact List.Mem.head _ | apply List.Mem.tail)); done) | (right; (repeat (first | exact List.Mem.head _ | apply List.Mem.tail)); done)) rfl) ?_
  refine tl_q rfl (ev_seql rfl rfl) ?_
  refine tl_q rfl (ev_move rfl) ?_
  refine tl_split_dec 6 rfl (fun g1_3 => ?_) (fun g1_3 => ?_)
  · refine tl_guard_no rfl rfl rfl rfl ?_
    refine tl_guard_no rfl rfl rfl rfl ?_
    refine tl_guard_no rfl rfl rfl rfl ?_
    refine tl_q rfl (ev_pick_true rfl rfl) ?_
    refine tl_q rfl (ev_move rfl) ?_
    refine tl_guard_no rfl rfl rfl rfl ?_
    refine tl_guard_no rfl rfl rfl rfl ?_
    refine tl_guard_no rfl rfl rfl rfl ?_
    refine tl_guard_no rfl rfl rfl rfl ?_
    refine tl_q rfl (ev_pick_true rfl rfl) ?_
    refine tl_q rfl (ev_move rfl) ?_
    refine tl_guard_no rfl rfl rfl rfl ?_
    refine tl_guard_no rfl rfl rfl rfl ?_
    refine tl_guard_no rfl rfl rfl rfl ?_
    refine tl_guard_no rfl rfl rfl rfl ?_
    refine tl_q rfl (ev_pick_true rfl rfl) ?_
    refine tl_q rfl (ev_move rfl) ?_
    refine tl_guard_no rfl rfl rfl rfl ?_
    refine tl_guard_no rfl rfl rfl rfl ?_
    refine tl_guard_no rfl rfl rfl rfl ?_
    refine tl_guard_no rfl rfl rfl rfl ?_
    refine tl_q rfl (ev_pick_true rfl rfl) ?_
    refine tl_q rfl (ev_move rfl) ?_
    refine tl_guard_no rfl rfl rfl rfl ?_
    refine tl_guard_no rfl rfl rfl rfl ?_
    refine tl_guard_no rfl rfl rfl rfl ?_
    refine tl_guard_no rfl rfl rfl rfl ?_
    refine tl_q rfl (ev_pick_true rfl rfl) ?_
    refine tl_q rfl (ev_move rfl) ?_
    refine tl_guard_no rfl rfl rfl rfl ?_
    refine tl_guard_no rfl rfl rfl rfl ?_
    refine tl_guard_no rfl rfl rfl rfl ?_
    refine tl_q rfl (ev_pick_true rfl rfl) ?_
    refine tl_q rfl (ev_move rfl) ?_
    refine tl_guard_no rfl rfl rfl rfl ?_
    refine tl_guard_no rfl rfl rfl rfl ?_
    refine tl_guard_no rfl rfl rfl rfl ?_
    refine tl_q rfl (ev_pick_true rfl rfl) ?_
    refine tl_nil ?_
    refine te_code ?_
    refine t_cond_true rfl ?_
    refine t_seq ?_
    refine t_region ?_
    refine tl_q rfl (ev_assign rfl) ?_
    refine tl_nil ?_
    refine te_code ?_
    refine t_ret ?_
    refine te_ret_k (pre := []) (res1 rfl rfl) (by repeat (first | exact Frm.nil | exact Take.here | apply Take.there | apply Frm.cons)) ?_
    refine ⟨_, rfl, rfl, fun g => ?_⟩
    obtain ⟨⟨a1, a2, a3⟩, ⟨q1, q2, q3⟩, ⟨k1, k2⟩, ⟨d1, d2⟩, l1, l2⟩ := g
    have n1 : (e.node.size : Int) ≤ 64 := (by omega)
    have n2 : (e.cls.size : Int) ≤ 64 := (by omega)
    have n3 : (e.key.size : Int) ≤ 128 := (by omega)
    have n4 : (e.text.size : Int) ≤ 1024 := (by omega)
    have z1 := sz_ne a2
    have z2 := sz_ne q2
    first | rfl | (exfalso; omega) | (exfalso; simp_all)
  · refine tl_guard rfl rfl rfl ?_
    refine tl_q rfl (ev_fieldAddr fa_43_1 rfl rfl) ?_
    refine tl_guard rfl rfl rfl ?_
    refine tl_q rfl (ev_load sc_9 rfl (by first | (left; (repeat (first | exact List.Mem.head _ | apply List.Mem.tail)); done) | (right; (repeat (first | exact List.Mem.head _ | apply List.Mem.tail)); done)) rfl) ?_
    refine tl_guard rfl rfl rfl ?_
    refine tl_q rfl (ev_seql rfl rfl) ?_
    refine tl_q rfl (ev_pick_false rfl rfl) ?_
    refine tl_q rfl (ev_move rfl) ?_
    refine tl_split_dec 11 rfl (fun g1_8 => ?_) (fun g1_8 => ?_)
    · refine tl_guard_no rfl rfl rfl rfl ?_
      refine tl_guard_no rfl rfl rfl rfl ?_
      refine tl_guard_no rfl rfl rfl rfl ?_
      refine tl_guard_no rfl rfl rfl rfl ?_
      refine tl_q rfl (ev_pick_true rfl rfl) ?_
      refine tl_q rfl (ev_move rfl) ?_
      refine tl_guard_no rfl rfl rfl rfl ?_
      refine tl_guard_no rfl rfl rfl rfl ?_
      refine tl_guard_no rfl rfl rfl rfl ?_
      refine tl_guard_no rfl rfl rfl rfl ?_
      refine tl_q rfl (ev_pick_true rfl rfl) ?_
      refine tl_q rfl (ev_move rfl) ?_
      refine tl_guard_no rfl rfl rfl rfl ?_
      refine tl_guard_no rfl rfl rfl rfl ?_
      refine tl_guard_no rfl rfl rfl rfl ?_
      refine tl_guard_no rfl rfl rfl rfl ?_
      refine tl_q rfl (ev_pick_true rfl rfl) ?_
      refine tl_q rfl (ev_move rfl) ?_
      refine tl_guard_no rfl rfl rfl rfl ?_
      refine tl_guard_no rfl rfl rfl rfl ?_
      refine tl_guard_no rfl rfl rfl rfl ?_
      refine tl_guard_no rfl rfl rfl rfl ?_
      refine tl_q rfl (ev_pick_true rfl rfl) ?_
      refine tl_q rfl (ev_move rfl) ?_
      refine tl_guard_no rfl rfl rfl rfl ?_
      refine tl_guard_no rfl rfl rfl rfl ?_
      refine tl_guard_no rfl rfl rfl rfl ?_
      refine tl_q rfl (ev_pick_true rfl rfl) ?_
      refine tl_q rfl (ev_move rfl) ?_
      refine tl_guard_no rfl rfl rfl rfl ?_
      refine tl_guard_no rfl rfl rfl rfl ?_
      refine tl_guard_no rfl rfl rfl rfl ?_
      refine tl_q rfl (ev_pick_true rfl rfl) ?_
      refine tl_nil ?_
      refine te_code ?_
      refine t_cond_true rfl ?_
      refine t_seq ?_
      refine t_region ?_
      refine tl_q rfl (ev_assign rfl) ?_
      refine tl_nil ?_
      refine te_code ?_
      refine t_ret ?_
      refine te_ret_k (pre := []) (res1 rfl rfl) (by repeat (first | exact Frm.nil | exact Take.here | apply Take.there | apply Frm.cons)) ?_
      refine ⟨_, rfl, rfl, fun g => ?_⟩
      obtain ⟨⟨a1, a2, a3⟩, ⟨q1, q2, q3⟩, ⟨k1, k2⟩, ⟨d1, d2⟩, l1, l2⟩ := g
      have n1 : (e.node.size : Int) ≤ 64 := (by omega)
      have n2 : (e.cls.size : Int) ≤ 64 := (by omega)
      have n3 : (e.key.size : Int) ≤ 128 := (by omega)
      have n4 : (e.text.size : Int) ≤ 1024 := (by omega)
      have z1 := sz_ne a2
      have z2 := sz_ne q2
      first | rfl | (exfalso; omega) | (exfalso; simp_all)
    · refine tl_guard rfl rfl rfl ?_
      refine tl_q rfl (ev_fieldAddr fa_43_0 rfl rfl) ?_
      refine tl_guard rfl rfl rfl ?_
      refine tl_q rfl (ev_load sc_9 rfl (by first | (left; (repeat (first | exact List.Mem.head _ | apply List.Mem.tail)); done) | (right; (repeat (first | exact List.Mem.head _ | apply List.Mem.tail)); done)) rfl) ?_
      refine tl_guard rfl rfl rfl ?_
      refine tl_e (eff_call rfl rfl body_114 rfl (by repeat (first | exact Frm.nil | exact Take.here | apply Take.there | apply Frm.cons)) (plain18_ct _ _ (by omega))) ?_
      rintro _ _ ⟨v14, _, ⟨b, rfl, rfl, hpl⟩, rfl, rfl⟩
      refine tl_guard rfl rfl rfl ?_
      refine tl_q rfl (ev_not rfl) ?_
      refine tl_q rfl (ev_pick_false rfl rfl) ?_
      refine tl_q rfl (ev_move rfl) ?_
      refine tl_split 17 rfl (fun g1_14 => ?_) (fun g1_14 => ?_)
      · refine tl_guard_no rfl rfl rfl rfl ?_
        refine tl_guard_no rfl rfl rfl rfl ?_
        refine tl_guard_no rfl rfl rfl rfl ?_
        refine tl_guard_no rfl rfl rfl rfl ?_
        refine tl_q rfl (ev_pick_true rfl rfl) ?_
        refine tl_q rfl (ev_move rfl) ?_
        refine tl_guard_no rfl rfl rfl rfl ?_
        refine tl_guard_no rfl rfl rfl rfl ?_
        refine tl_guard_no rfl rfl rfl rfl ?_
        refine tl_guard_no rfl rfl rfl rfl ?_
        refine tl_q rfl (ev_pick_true rfl rfl) ?_
        refine tl_q rfl (ev_move rfl) ?_
        refine tl_guard_no rfl rfl rfl rfl ?_
        refine tl_guard_no rfl rfl rfl rfl ?_
        refine tl_guard_no rfl rfl rfl rfl ?_
        refine tl_guard_no rfl rfl rfl rfl ?_
        refine tl_q rfl (ev_pick_true rfl rfl) ?_
        refine tl_q rfl (ev_move rfl) ?_
        refine tl_guard_no rfl rfl rfl rfl ?_
        refine tl_guard_no rfl rfl rfl rfl ?_
        refine tl_guard_no rfl rfl rfl rfl ?_
        refine tl_q rfl (ev_pick_true rfl rfl) ?_
        refine tl_q rfl (ev_move rfl) ?_
        refine tl_guard_no rfl rfl rfl rfl ?_
        refine tl_guard_no rfl rfl rfl rfl ?_
        refine tl_guard_no rfl rfl rfl rfl ?_
        refine tl_q rfl (ev_pick_true rfl rfl) ?_
        refine tl_nil ?_
        refine te_code ?_
        refine t_cond_true rfl ?_
        refine t_seq ?_
        refine t_region ?_
        refine tl_q rfl (ev_assign rfl) ?_
        refine tl_nil ?_
        refine te_code ?_
        refine t_ret ?_
        refine te_ret_k (pre := []) (res1 rfl rfl) (by repeat (first | exact Frm.nil | exact Take.here | apply Take.there | apply Frm.cons)) ?_
        refine ⟨_, rfl, rfl, fun g => ?_⟩
        obtain ⟨⟨a1, a2, a3⟩, ⟨q1, q2, q3⟩, ⟨k1, k2⟩, ⟨d1, d2⟩, l1, l2⟩ := g
        have n1 : (e.node.size : Int) ≤ 64 := (by omega)
        have n2 : (e.cls.size : Int) ≤ 64 := (by omega)
        have n3 : (e.key.size : Int) ≤ 128 := (by omega)
        have n4 : (e.text.size : Int) ≤ 1024 := (by omega)
        have z1 := sz_ne a2
        have z2 := sz_ne q2
        first | rfl | (exfalso; omega) | (exfalso; simp_all)
      · refine tl_guard rfl rfl rfl ?_
        refine tl_q rfl (ev_fieldAddr fa_43_1 rfl rfl) ?_
        refine tl_guard rfl rfl rfl ?_
        refine tl_q rfl (ev_load sc_9 rfl (by first | (left; (repeat (first | exact List.Mem.head _ | apply List.Mem.tail)); done) | (right; (repeat (first | exact List.Mem.head _ | apply List.Mem.tail)); done)) rfl) ?_
        refine tl_guard rfl rfl rfl ?_
        refine tl_e (eff_call rfl rfl body_114 rfl (by repeat (first | exact Frm.nil | exact Take.here | apply Take.there | apply Frm.cons)) (plain18_ct _ _ (by omega))) ?_
        rintro _ _ ⟨v20, _, ⟨b, rfl, rfl, hpl⟩, rfl, rfl⟩
        refine tl_guard rfl rfl rfl ?_
        refine tl_q rfl (ev_not rfl) ?_
        refine tl_q rfl (ev_pick_false rfl rfl) ?_
        refine tl_q rfl (ev_move rfl) ?_
        refine tl_split 23 rfl (fun g1_20 => ?_) (fun g1_20 => ?_)
        · refine tl_guard_no rfl rfl rfl rfl ?_
          refine tl_guard_no rfl rfl rfl rfl ?_
          refine tl_guard_no rfl rfl rfl rfl ?_
          refine tl_guard_no rfl rfl rfl rfl ?_
          refine tl_q rfl (ev_pick_true rfl rfl) ?_
          refine tl_q rfl (ev_move rfl) ?_
          refine tl_guard_no rfl rfl rfl rfl ?_
          refine tl_guard_no rfl rfl rfl rfl ?_
          refine tl_guard_no rfl rfl rfl rfl ?_
          refine tl_guard_no rfl rfl rfl rfl ?_
          refine tl_q rfl (ev_pick_true rfl rfl) ?_
          refine tl_q rfl (ev_move rfl) ?_
          refine tl_guard_no rfl rfl rfl rfl ?_
          refine tl_guard_no rfl rfl rfl rfl ?_
          refine tl_guard_no rfl rfl rfl rfl ?_
          refine tl_q rfl (ev_pick_true rfl rfl) ?_
          refine tl_q rfl (ev_move rfl) ?_
          refine tl_guard_no rfl rfl rfl rfl ?_
          refine tl_guard_no rfl rfl rfl rfl ?_
          refine tl_guard_no rfl rfl rfl rfl ?_
          refine tl_q rfl (ev_pick_true rfl rfl) ?_
          refine tl_nil ?_
          refine te_code ?_
          refine t_cond_true rfl ?_
          refine t_seq ?_
          refine t_region ?_
          refine tl_q rfl (ev_assign rfl) ?_
          refine tl_nil ?_
          refine te_code ?_
          refine t_ret ?_
          refine te_ret_k (pre := []) (res1 rfl rfl) (by repeat (first | exact Frm.nil | exact Take.here | apply Take.there | apply Frm.cons)) ?_
          refine ⟨_, rfl, rfl, fun g => ?_⟩
          obtain ⟨⟨a1, a2, a3⟩, ⟨q1, q2, q3⟩, ⟨k1, k2⟩, ⟨d1, d2⟩, l1, l2⟩ := g
          have n1 : (e.node.size : Int) ≤ 64 := (by omega)
          have n2 : (e.cls.size : Int) ≤ 64 := (by omega)
          have n3 : (e.key.size : Int) ≤ 128 := (by omega)
          have n4 : (e.text.size : Int) ≤ 1024 := (by omega)
          have z1 := sz_ne a2
          have z2 := sz_ne q2
          first | rfl | (exfalso; omega) | (exfalso; simp_all)
        · refine tl_guard rfl rfl rfl ?_
          refine tl_q rfl (ev_fieldAddr fa_43_2 rfl rfl) ?_
          refine tl_guard rfl rfl rfl ?_
          refine tl_q rfl (ev_load sc_9 rfl (by first | (left; (repeat (first | exact List.Mem.head _ | apply List.Mem.tail)); done) | (right; (repeat (first | exact List.Mem.head _ | apply List.Mem.tail)); done)) rfl) ?_
          refine tl_guard rfl rfl rfl ?_
          refine tl_e (eff_call rfl rfl body_114 rfl (by repeat (first | exact Frm.nil | exact Take.here | apply Take.there | apply Frm.cons)) (plain18_ct _ _ (by omega))) ?_
          rintro _ _ ⟨v26, _, ⟨b, rfl, rfl, hpl⟩, rfl, rfl⟩
          refine tl_guard rfl rfl rfl ?_
          refine tl_q rfl (ev_not rfl) ?_
          refine tl_q rfl (ev_pick_false rfl rfl) ?_
          refine tl_q rfl (ev_move rfl) ?_
          refine tl_split 29 rfl (fun g1_26 => ?_) (fun g1_26 => ?_)
          · refine tl_guard_no rfl rfl rfl rfl ?_
            refine tl_guard_no rfl rfl rfl rfl ?_
            refine tl_guard_no rfl rfl rfl rfl ?_
            refine tl_guard_no rfl rfl rfl rfl ?_
            refine tl_q rfl (ev_pick_true rfl rfl) ?_
            refine tl_q rfl (ev_move rfl) ?_
            refine tl_guard_no rfl rfl rfl rfl ?_
            refine tl_guard_no rfl rfl rfl rfl ?_
            refine tl_guard_no rfl rfl rfl rfl ?_
            refine tl_q rfl (ev_pick_true rfl rfl) ?_
            refine tl_q rfl (ev_move rfl) ?_
            refine tl_guard_no rfl rfl rfl rfl ?_
            refine tl_guard_no rfl rfl rfl rfl ?_
            refine tl_guard_no rfl rfl rfl rfl ?_
            refine tl_q rfl (ev_pick_true rfl rfl) ?_
            refine tl_nil ?_
            refine te_code ?_
            refine t_cond_true rfl ?_
            refine t_seq ?_
            refine t_region ?_
            refine tl_q rfl (ev_assign rfl) ?_
            refine tl_nil ?_
            refine te_code ?_
            refine t_ret ?_
            refine te_ret_k (pre := []) (res1 rfl rfl) (by repeat (first | exact Frm.nil | exact Take.here | apply Take.there | apply Frm.cons)) ?_
            refine ⟨_, rfl, rfl, fun g => ?_⟩
            obtain ⟨⟨a1, a2, a3⟩, ⟨q1, q2, q3⟩, ⟨k1, k2⟩, ⟨d1, d2⟩, l1, l2⟩ := g
            have n1 : (e.node.size : Int) ≤ 64 := (by omega)
            have n2 : (e.cls.size : Int) ≤ 64 := (by omega)
            have n3 : (e.key.size : Int) ≤ 128 := (by omega)
            have n4 : (e.text.size : Int) ≤ 1024 := (by omega)
            have z1 := sz_ne a2
            have z2 := sz_ne q2
            first | rfl | (exfalso; omega) | (exfalso; simp_all)
          · refine tl_guard rfl rfl rfl ?_
            refine tl_q rfl (ev_fieldAddr fa_43_4 rfl rfl) ?_
            refine tl_guard rfl rfl rfl ?_
            refine tl_q rfl (ev_load sc_9 rfl (by first | (left; (repeat (first | exact List.Mem.head _ | apply List.Mem.tail)); done) | (right; (repeat (first | exact List.Mem.head _ | apply List.Mem.tail)); done)) rfl) ?_
            refine tl_guard rfl rfl rfl ?_
            refine tl_e (eff_call rfl rfl body_114 rfl (by repeat (first | exact Frm.nil | exact Take.here | apply Take.there | apply Frm.cons)) (plain18_ct _ _ (by omega))) ?_
            rintro _ _ ⟨v32, _, ⟨b, rfl, rfl, hpl⟩, rfl, rfl⟩
            refine tl_guard rfl rfl rfl ?_
            refine tl_q rfl (ev_not rfl) ?_
            refine tl_q rfl (ev_pick_false rfl rfl) ?_
            refine tl_q rfl (ev_move rfl) ?_
            refine tl_split 35 rfl (fun g1_32 => ?_) (fun g1_32 => ?_)
            · refine tl_guard_no rfl rfl rfl rfl ?_
              refine tl_guard_no rfl rfl rfl rfl ?_
              refine tl_guard_no rfl rfl rfl rfl ?_
              refine tl_q rfl (ev_pick_true rfl rfl) ?_
              refine tl_q rfl (ev_move rfl) ?_
              refine tl_guard_no rfl rfl rfl rfl ?_
              refine tl_guard_no rfl rfl rfl rfl ?_
              refine tl_guard_no rfl rfl rfl rfl ?_
              refine tl_q rfl (ev_pick_true rfl rfl) ?_
              refine tl_nil ?_
              refine te_code ?_
              refine t_cond_true rfl ?_
              refine t_seq ?_
              refine t_region ?_
              refine tl_q rfl (ev_assign rfl) ?_
              refine tl_nil ?_
              refine te_code ?_
              refine t_ret ?_
              refine te_ret_k (pre := []) (res1 rfl rfl) (by repeat (first | exact Frm.nil | exact Take.here | apply Take.there | apply Frm.cons)) ?_
              refine ⟨_, rfl, rfl, fun g => ?_⟩
              obtain ⟨⟨a1, a2, a3⟩, ⟨q1, q2, q3⟩, ⟨k1, k2⟩, ⟨d1, d2⟩, l1, l2⟩ := g
              have n1 : (e.node.size : Int) ≤ 64 := (by omega)
              have n2 : (e.cls.size : Int) ≤ 64 := (by omega)
              have n3 : (e.key.size : Int) ≤ 128 := (by omega)
              have n4 : (e.text.size : Int) ≤ 1024 := (by omega)
              have z1 := sz_ne a2
              have z2 := sz_ne q2
              first | rfl | (exfalso; omega) | (exfalso; simp_all)
            · refine tl_guard rfl rfl rfl ?_
              refine tl_q rfl (ev_fieldAddr fa_43_3 rfl rfl) ?_
              refine tl_guard rfl rfl rfl ?_
              refine tl_q rfl (ev_load sc_3 rfl (by first | (left; (repeat (first | exact List.Mem.head _ | apply List.Mem.tail)); done) | (right; (repeat (first | exact List.Mem.head _ | apply List.Mem.tail)); done)) rfl) ?_
              refine tl_guard rfl rfl rfl ?_
              refine tl_q rfl (ev_lss rfl rfl) ?_
              refine tl_q rfl (ev_pick_false rfl rfl) ?_
              refine tl_q rfl (ev_move rfl) ?_
              refine tl_split_dec 40 rfl (fun g1_37 => ?_) (fun g1_37 => ?_)
              · refine tl_guard_no rfl rfl rfl rfl ?_
                refine tl_guard_no rfl rfl rfl rfl ?_
                refine tl_guard_no rfl rfl rfl rfl ?_
                refine tl_q rfl (ev_pick_true rfl rfl) ?_
                refine tl_nil ?_
                refine te_code ?_
                refine t_cond_true rfl ?_
                refine t_seq ?_
                refine t_region ?_
                refine tl_q rfl (ev_assign rfl) ?_
                refine tl_nil ?_
                refine te_code ?_
                refine t_ret ?_
                refine te_ret_k (pre := []) (res1 rfl rfl) (by repeat (first | exact Frm.nil | exact Take.here | apply Take.there | apply Frm.cons)) ?_
                refine ⟨_, rfl, rfl, fun g => ?_⟩
                obtain ⟨⟨a1, a2, a3⟩, ⟨q1, q2, q3⟩, ⟨k1, k2⟩, ⟨d1, d2⟩, l1, l2⟩ := g
                have n1 : (e.node.size : Int) ≤ 64 := (by omega)
                have n2 : (e.cls.size : Int) ≤ 64 := (by omega)
                have n3 : (e.key.size : Int) ≤ 128 := (by omega)
                have n4 : (e.text.size : Int) ≤ 1024 := (by omega)
                have z1 := sz_ne a2
                have z2 := sz_ne q2
                first | rfl | (exfalso; omega) | (exfalso; simp_all)
              · refine tl_guard rfl rfl rfl ?_
                refine tl_q rfl (ev_fieldAddr fa_43_3 rfl rfl) ?_
                refine tl_guard rfl rfl rfl ?_
                refine tl_q rfl (ev_load sc_3 rfl (by first | (left; (repeat (first | exact List.Mem.head _ | apply List.Mem.tail)); done) | (right; (repeat (first | exact List.Mem.head _ | apply List.Mem.tail)); done)) rfl) ?_
                refine tl_guard rfl rfl rfl ?_
                refine tl_q rfl (ev_gtr rfl rfl) ?_
                refine tl_q rfl (ev_pick_false rfl rfl) ?_
                refine tl_nil ?_
                refine te_code ?_
                refine t_cond_dec rfl (fun h0 => ?_) (fun h0 => ?_)
                · refine t_seq ?_
                  refine t_region ?_
                  refine tl_q rfl (ev_assign rfl) ?_
                  refine tl_nil ?_
                  refine te_code ?_
                  refine t_ret ?_
                  refine te_ret_k (pre := []) (res1 rfl rfl) (by repeat (first | exact Frm.nil | exact Take.here | apply Take.there | apply Frm.cons)) ?_
                  refine ⟨_, rfl, rfl, fun g => ?_⟩
                  obtain ⟨⟨a1, a2, a3⟩, ⟨q1, q2, q3⟩, ⟨k1, k2⟩, ⟨d1, d2⟩, l1, l2⟩ := g
                  have n1 : (e.node.size : Int) ≤ 64 := (by omega)
                  have n2 : (e.cls.size : Int) ≤ 64 := (by omega)
                  have n3 : (e.key.size : Int) ≤ 128 := (by omega)
                  have n4 : (e.text.size : Int) ≤ 1024 := (by omega)
                  have z1 := sz_ne a2
                  have z2 := sz_ne q2
                  first | rfl | (exfalso; omega) | (exfalso; simp_all)
                · refine t_skip ?_
                  refine te_code ?_
                  refine t_seq ?_
                  refine t_region ?_
                  refine tl_q rfl (ev_assign rfl) ?_
                  refine tl_nil ?_
                  refine te_code ?_
                  refine t_ret ?_
                  refine te_ret_k (pre := []) (res1 rfl rfl) (by repeat (first | exact Frm.nil | exact Take.here | apply Take.there | apply Frm.cons)) ?_
                  refine ⟨_, rfl, rfl, fun g => ?_⟩
                  obtain ⟨⟨a1, a2, a3⟩, ⟨q1, q2, q3⟩, ⟨k1, k2⟩, ⟨d1, d2⟩, l1, l2⟩ := g
                  have n1 : (e.node.size : Int) ≤ 64 := (by omega)
                  have n2 : (e.cls.size : Int) ≤ 64 := (by omega)
                  have n3 : (e.key.size : Int) ≤ 128 := (by omega)
                  have n4 : (e.text.size : Int) ≤ 1024 := (by omega)
                  have z1 := sz_ne a2
                  have z2 := sz_ne q2
                  first | rfl | (exfalso; omega) | (exfalso; simp_all)

theorem IsTime20_ct (c : Int) : CT Tryz.prog 72 #[.int .i64 c] [] (fun v M => ∃ b : Bool, v = .bool b ∧ M = [] ∧ (c = 0 → b = true)) := by
  refine t_fun (vs := [.int .i64 c]) (n := 9) Tryz.func72 rfl Tryz.ntmps72 rfl fun w0 F => ?_
  refine t_seq ?_
  refine t_region ?_
  refine tl_q rfl (ev_assign rfl) ?_
  refine tl_nil ?_
  refine te_code ?_
  refine t_seq ?_
  refine t_region ?_
  refine tl_q rfl (ev_move rfl) ?_
  refine tl_q rfl (ev_geq rfl rfl) ?_
  refine tl_q rfl (ev_move rfl) ?_
  refine tl_split_dec 5 rfl (fun g1_2 => ?_) (fun g1_2 => ?_)
  · refine tl_guard rfl rfl rfl ?_
    refine tl_q rfl (ev_move rfl) ?_
    refine tl_guard rfl rfl rfl ?_
    refine tl_q rfl (ev_leq rfl rfl) ?_
    refine tl_q rfl (ev_pick_true rfl rfl) ?_
    refine tl_q rfl (ev_assign rfl) ?_
    refine tl_nil ?_
    refine te_code ?_
    refine t_ret ?_
    refine te_ret_k (pre := []) (res1 rfl rfl) (by repeat (first | exact Frm.nil | exact Take.here | apply Take.there | apply Frm.cons)) ?_
    refine ⟨_, rfl, rfl, fun g => ?_⟩
    subst g; first | rfl | (exfalso; omega)
  · refine tl_guard_no rfl rfl rfl rfl ?_
    refine tl_guard_no rfl rfl rfl rfl ?_
    refine tl_q rfl (ev_pick_false rfl rfl) ?_
    refine tl_q rfl (ev_assign rfl) ?_
    refine tl_nil ?_
    refine te_code ?_
    refine t_ret ?_
    refine te_ret_k (pre := []) (res1 rfl rfl) (by repeat (first | exact Frm.nil | exact Take.here | apply Take.there | apply Frm.cons)) ?_
    refine ⟨_, rfl, rfl, fun g => ?_⟩
    subst g; first | rfl | (exfalso; omega)

theorem IsWho20_ct (s : ByteArray) (hs : s.size ≤ 1000000) : CT Tryz.prog 73 #[.string s] [] (fun v M => ∃ b : Bool, v = .bool b ∧ M = []) := by
  refine t_fun (vs := [.string s]) (n := 7) Tryz.func73 rfl Tryz.ntmps73 rfl fun w0 F => ?_
  refine t_seq ?_
  refine t_region ?_
  refine tl_q rfl (ev_assign rfl) ?_
  refine tl_nil ?_
  refine te_code ?_
  refine t_seq ?_
  refine t_region ?_
  refine tl_q rfl (ev_move rfl) ?_
  refine tl_q rfl (ev_build st_43 rfl (by repeat (first | exact FillR.nil | exact LPut.nil | apply LPut.cons | apply LPut.succ | apply FillR.cons rfl rfl rfl))) ?_
  refine tl_e (eff_call rfl rfl body_71 rfl (by repeat (first | exact Frm.nil | exact Take.here | apply Take.there | apply Frm.cons)) (Check18_ct ⟨s, ⟨#[120]⟩, ⟨#[]⟩, 0, ⟨#[]⟩⟩ hs (by show (1:Nat) ≤ _; omega) (by show (0:Nat) ≤ _; omega) (by show (0:Nat) ≤ _; omega))) ?_
  rintro _ _ ⟨_, _, ⟨c, rfl, rfl, hcg⟩, rfl, rfl⟩
  refine tl_q rfl (ev_eql rfl rfl) ?_
  refine tl_q rfl (ev_assign rfl) ?_
  refine tl_nil ?_
  refine te_code ?_
  refine t_ret ?_
  refine te_ret_k (pre := []) (res1 rfl rfl) (by repeat (first | exact Frm.nil | exact Take.here | apply Take.there | apply Frm.cons)) ?_
  exact ⟨_, rfl, rfl⟩

theorem Check20_ct (r : Row) (hr : okRow r) : CT Tryz.prog 38 #[.agg (encRow r).toArray] [] (fun v M => ∃ c, v = .int .i64 c ∧ M = [] ∧ (goodR r → c = 0)) := by
  refine t_fun (vs := [.agg (encRow r).toArray]) (n := 65) Tryz.func38 rfl Tryz.ntmps38 rfl fun w0 F => ?_
  obtain ⟨hr1, hr2, hr3, hr4, hr5⟩ := hr
  refine t_seq ?_
  refine t_region ?_
  refine tl_e (eff_box rfl rfl rfl) ?_
  rintro _ _ ⟨b1, rfl, rfl⟩
  refine tl_q rfl (ev_assign rfl) ?_
  refine tl_nil ?_
  refine te_code ?_
  refine t_seq ?_
  refine t_seq ?_
  refine t_region ?_
  refine tl_q rfl (ev_fieldAddr fa_45_0 rfl rfl) ?_
  refine tl_q rfl (ev_load sc_3 rfl (by first | (left; (repeat (first | exact List.Mem.head _ | apply List.Mem.tail)); done) | (right; (repeat (first | exact List.Mem.head _ | apply List.Mem.tail)); done)) rfl) ?_
  refine tl_q rfl (ev_lss rfl rfl) ?_
  refine tl_q rfl (ev_move rfl) ?_
  refine tl_split_dec 6 rfl (fun g1_3 => ?_) (fun g1_3 => ?_)
  · refine tl_guard_no rfl rfl rfl rfl ?_
    refine tl_guard_no rfl rfl rfl rfl ?_
    refine tl_guard_no rfl rfl rfl rfl ?_
    refine tl_guard_no rfl rfl rfl rfl ?_
    refine tl_q rfl (ev_pick_true rfl rfl) ?_
    refine tl_q rfl (ev_move rfl) ?_
    refine tl_guard_no rfl rfl rfl rfl ?_
    refine tl_guard_no rfl rfl rfl rfl ?_
    refine tl_guard_no rfl rfl rfl rfl ?_
    refine tl_guard_no rfl rfl rfl rfl ?_
    refine tl_q rfl (ev_pick_true rfl rfl) ?_
    refine tl_q rfl (ev_move rfl) ?_
    refine tl_guard_no rfl rfl rfl rfl ?_
    refine tl_guard_no rfl rfl rfl rfl ?_
    refine tl_guard_no rfl rfl rfl rfl ?_
    refine tl_q rfl (ev_pick_true rfl rfl) ?_
    refine tl_q rfl (ev_move rfl) ?_
    refine tl_guard_no rfl rfl rfl rfl ?_
    refine tl_guard_no rfl rfl rfl rfl ?_
    refine tl_guard_no rfl rfl rfl rfl ?_
    refine tl_q rfl (ev_pick_true rfl rfl) ?_
    refine tl_q rfl (ev_move rfl) ?_
    refine tl_guard_no rfl rfl rfl rfl ?_
    refine tl_guard_no rfl rfl rfl rfl ?_
    refine tl_guard_no rfl rfl rfl rfl ?_
    refine tl_guard_no rfl rfl rfl rfl ?_
    refine tl_q rfl (ev_pick_true rfl rfl) ?_
    refine tl_q rfl (ev_move rfl) ?_
    refine tl_guard_no rfl rfl rfl rfl ?_
    refine tl_guard_no rfl rfl rfl rfl ?_
    refine tl_guard_no rfl rfl rfl rfl ?_
    refine tl_guard_no rfl rfl rfl rfl ?_
    refine tl_q rfl (ev_pick_true rfl rfl) ?_
    refine tl_q rfl (ev_move rfl) ?_
    refine tl_guard_no rfl rfl rfl rfl ?_
    refine tl_guard_no rfl rfl rfl rfl ?_
    refine tl_guard_no rfl rfl rfl rfl ?_
    refine tl_guard_no rfl rfl rfl rfl ?_
    refine tl_guard_no rfl rfl rfl rfl ?_
    refine tl_q rfl (ev_pick_true rfl rfl) ?_
    refine tl_nil ?_
    refine te_code ?_
    refine t_cond_true rfl ?_
    refine t_seq ?_
    refine t_region ?_
    refine tl_q rfl (ev_assign rfl) ?_
    refine tl_nil ?_
    refine te_code ?_
    refine t_ret ?_
    refine te_ret_k (pre := []) (res1 rfl rfl) (by repeat (first | exact Frm.nil | exact Take.here | apply Take.there | apply Frm.cons)) ?_
    refine ⟨_, rfl, rfl, fun g => ?_⟩
    obtain ⟨f1, f2, f3, f4, f5, f6, f7, f8, f9⟩ := g
    first | rfl | (exfalso; omega) | exact absurd (hcg f9) (by assumption) | (exfalso; simp_all; done)
  · refine tl_guard rfl rfl rfl ?_
    refine tl_q rfl (ev_fieldAddr fa_45_1 rfl rfl) ?_
    refine tl_guard rfl rfl rfl ?_
    refine tl_q rfl (ev_load_agg ag_43 rfl (by first | (left; (repeat (first | exact List.Mem.head _ | apply List.Mem.tail)); done) | (right; (repeat (first | exact List.Mem.head _ | apply List.Mem.tail)); done)) (by repeat (first | exact LDrop.zero | apply LDrop.succ)) (by repeat (first | exact LTake.zero | apply LTake.succ))) ?_
    refine tl_guard rfl rfl rfl ?_
    refine tl_e (eff_call rfl rfl body_71 rfl (by repeat (first | exact Frm.nil | exact Take.here | apply Take.there | apply Frm.cons)) (Check18_ct r.e hr1 hr2 hr3 hr4)) ?_
    rintro _ _ ⟨_, _, ⟨c, rfl, rfl, hcg⟩, rfl, rfl⟩
    refine tl_guard rfl rfl rfl ?_
    refine tl_q rfl (ev_neq rfl rfl) ?_
    refine tl_q rfl (ev_pick_false rfl rfl) ?_
    refine tl_q rfl (ev_move rfl) ?_
    refine tl_split_dec 12 rfl (fun g1_9 => ?_) (fun g1_9 => ?_)
    · refine tl_guard_no rfl rfl rfl rfl ?_
      refine tl_guard_no rfl rfl rfl rfl ?_
      refine tl_guard_no rfl rfl rfl rfl ?_
      refine tl_guard_no rfl rfl rfl rfl ?_
      refine tl_q rfl (ev_pick_true rfl rfl) ?_
      refine tl_q rfl (ev_move rfl) ?_
      refine tl_guard_no rfl rfl rfl rfl ?_
      refine tl_guard_no rfl rfl rfl rfl ?_
      refine tl_guard_no rfl rfl rfl rfl ?_
      refine tl_q rfl (ev_pick_true rfl rfl) ?_
      refine tl_q rfl (ev_move rfl) ?_
      refine tl_guard_no rfl rfl rfl rfl ?_
      refine tl_guard_no rfl rfl rfl rfl ?_
      refine tl_guard_no rfl rfl rfl rfl ?_
      refine tl_q rfl (ev_pick_true rfl rfl) ?_
      refine tl_q rfl (ev_move rfl) ?_
      refine tl_guard_no rfl rfl rfl rfl ?_
      refine tl_guard_no rfl rfl rfl rfl ?_
      refine tl_guard_no rfl rfl rfl rfl ?_
      refine tl_guard_no rfl rfl rfl rfl ?_
      refine tl_q rfl (ev_pick_true rfl rfl) ?_
      refine tl_q rfl (ev_move rfl) ?_
      refine tl_guard_no rfl rfl rfl rfl ?_
      refine tl_guard_no rfl rfl rfl rfl ?_
      refine tl_guard_no rfl rfl rfl rfl ?_
      refine tl_guard_no rfl rfl rfl rfl ?_
      refine tl_q rfl (ev_pick_true rfl rfl) ?_
      refine tl_q rfl (ev_move rfl) ?_
      refine tl_guard_no rfl rfl rfl rfl ?_
      refine tl_guard_no rfl rfl rfl rfl ?_
      refine tl_guard_no rfl rfl rfl rfl ?_
      refine tl_guard_no rfl rfl rfl rfl ?_
      refine tl_guard_no rfl rfl rfl rfl ?_
      refine tl_q rfl (ev_pick_true rfl rfl) ?_
      refine tl_nil ?_
      refine te_code ?_
      refine t_cond_true rfl ?_
      refine t_seq ?_
      refine t_region ?_
      refine tl_q rfl (ev_assign rfl) ?_
      refine tl_nil ?_
      refine te_code ?_
      refine t_ret ?_
      refine te_ret_k (pre := []) (res1 rfl rfl) (by repeat (first | exact Frm.nil | exact Take.here | apply Take.there | apply Frm.cons)) ?_
      refine ⟨_, rfl, rfl, fun g => ?_⟩
      obtain ⟨f1, f2, f3, f4, f5, f6, f7, f8, f9⟩ := g
      first | rfl | (exfalso; omega) | exact absurd (hcg f9) (by assumption) | (exfalso; simp_all; done)
    · refine tl_guard rfl rfl rfl ?_
      refine tl_q rfl (ev_fieldAddr fa_45_1 rfl rfl) ?_
      refine tl_guard rfl rfl rfl ?_
      refine tl_q rfl (ev_fieldAddr fa_43_3 rfl rfl) ?_
      refine tl_guard rfl rfl rfl ?_
      refine tl_q rfl (ev_load sc_3 rfl (by first | (left; (repeat (first | exact List.Mem.head _ | apply List.Mem.tail)); done) | (right; (repeat (first | exact List.Mem.head _ | apply List.Mem.tail)); done)) rfl) ?_
      refine tl_guard rfl rfl rfl ?_
      refine tl_q rfl (ev_lss rfl rfl) ?_
      refine tl_q rfl (ev_pick_false rfl rfl) ?_
      refine tl_q rfl (ev_move rfl) ?_
      refine tl_split_dec 18 rfl (fun g1_15 => ?_) (fun g1_15 => ?_)
      · refine tl_guard_no rfl rfl rfl rfl ?_
        refine tl_guard_no rfl rfl rfl rfl ?_
        refine tl_guard_no rfl rfl rfl rfl ?_
        refine tl_q rfl (ev_pick_true rfl rfl) ?_
        refine tl_q rfl (ev_move rfl) ?_
        refine tl_guard_no rfl rfl rfl rfl ?_
        refine tl_guard_no rfl rfl rfl rfl ?_
        refine tl_guard_no rfl rfl rfl rfl ?_
        refine tl_q rfl (ev_pick_true rfl rfl) ?_
        refine tl_q rfl (ev_move rfl) ?_
        refine tl_guard_no rfl rfl rfl rfl ?_
        refine tl_guard_no rfl rfl rfl rfl ?_
        refine tl_guard_no rfl rfl rfl rfl ?_
        refine tl_guard_no rfl rfl rfl rfl ?_
        refine tl_q rfl (ev_pick_true rfl rfl) ?_
        refine tl_q rfl (ev_move rfl) ?_
        refine tl_guard_no rfl rfl rfl rfl ?_
        refine tl_guard_no rfl rfl rfl rfl ?_
        refine tl_guard_no rfl rfl rfl rfl ?_
        refine tl_guard_no rfl rfl rfl rfl ?_
        refine tl_q rfl (ev_pick_true rfl rfl) ?_
        refine tl_q rfl (ev_move rfl) ?_
        refine tl_guard_no rfl rfl rfl rfl ?_
        refine tl_guard_no rfl rfl rfl rfl ?_
        refine tl_guard_no rfl rfl rfl rfl ?_
        refine tl_guard_no rfl rfl rfl rfl ?_
        refine tl_guard_no rfl rfl rfl rfl ?_
        refine tl_q rfl (ev_pick_true rfl rfl) ?_
        refine tl_nil ?_
        refine te_code ?_
        refine t_cond_true rfl ?_
        refine t_seq ?_
        refine t_region ?_
        refine tl_q rfl (ev_assign rfl) ?_
        refine tl_nil ?_
        refine te_code ?_
        refine t_ret ?_
        refine te_ret_k (pre := []) (res1 rfl rfl) (by repeat (first | exact Frm.nil | exact Take.here | apply Take.there | apply Frm.cons)) ?_
        refine ⟨_, rfl, rfl, fun g => ?_⟩
        obtain ⟨f1, f2, f3, f4, f5, f6, f7, f8, f9⟩ := g
        first | rfl | (exfalso; omega) | exact absurd (hcg f9) (by assumption) | (exfalso; simp_all; done)
      · refine tl_guard rfl rfl rfl ?_
        refine tl_q rfl (ev_fieldAddr fa_45_2 rfl rfl) ?_
        refine tl_guard rfl rfl rfl ?_
        refine tl_q rfl (ev_load sc_3 rfl (by first | (left; (repeat (first | exact List.Mem.head _ | apply List.Mem.tail)); done) | (right; (repeat (first | exact List.Mem.head _ | apply List.Mem.tail)); done)) rfl) ?_
        refine tl_guard rfl rfl rfl ?_
        refine tl_q rfl (ev_lss rfl rfl) ?_
        refine tl_q rfl (ev_pick_false rfl rfl) ?_
        refine tl_q rfl (ev_move rfl) ?_
        refine tl_split_dec 23 rfl (fun g1_20 => ?_) (fun g1_20 => ?_)
        · refine tl_guard_no rfl rfl rfl rfl ?_
          refine tl_guard_no rfl rfl rfl rfl ?_
          refine tl_guard_no rfl rfl rfl rfl ?_
          refine tl_q rfl (ev_pick_true rfl rfl) ?_
          refine tl_q rfl (ev_move rfl) ?_
          refine tl_guard_no rfl rfl rfl rfl ?_
          refine tl_guard_no rfl rfl rfl rfl ?_
          refine tl_guard_no rfl rfl rfl rfl ?_
          refine tl_guard_no rfl rfl rfl rfl ?_
          refine tl_q rfl (ev_pick_true rfl rfl) ?_
          refine tl_q rfl (ev_move rfl) ?_
          refine tl_guard_no rfl rfl rfl rfl ?_
          refine tl_guard_no rfl rfl rfl rfl ?_
          refine tl_guard_no rfl rfl rfl rfl ?_
          refine tl_guard_no rfl rfl rfl rfl ?_
          refine tl_q rfl (ev_pick_true rfl rfl) ?_
          refine tl_q rfl (ev_move rfl) ?_
          refine tl_guard_no rfl rfl rfl rfl ?_
          refine tl_guard_no rfl rfl rfl rfl ?_
          refine tl_guard_no rfl rfl rfl rfl ?_
          refine tl_guard_no rfl rfl rfl rfl ?_
          refine tl_guard_no rfl rfl rfl rfl ?_
          refine tl_q rfl (ev_pick_true rfl rfl) ?_
          refine tl_nil ?_
          refine te_code ?_
          refine t_cond_true rfl ?_
          refine t_seq ?_
          refine t_region ?_
          refine tl_q rfl (ev_assign rfl) ?_
          refine tl_nil ?_
          refine te_code ?_
          refine t_ret ?_
          refine te_ret_k (pre := []) (res1 rfl rfl) (by repeat (first | exact Frm.nil | exact Take.here | apply Take.there | apply Frm.cons)) ?_
          refine ⟨_, rfl, rfl, fun g => ?_⟩
          obtain ⟨f1, f2, f3, f4, f5, f6, f7, f8, f9⟩ := g
          first | rfl | (exfalso; omega) | exact absurd (hcg f9) (by assumption) | (exfalso; simp_all; done)
        · refine tl_guard rfl rfl rfl ?_
          refine tl_q rfl (ev_fieldAddr fa_45_2 rfl rfl) ?_
          refine tl_guard rfl rfl rfl ?_
          refine tl_q rfl (ev_load sc_3 rfl (by first | (left; (repeat (first | exact List.Mem.head _ | apply List.Mem.tail)); done) | (right; (repeat (first | exact List.Mem.head _ | apply List.Mem.tail)); done)) rfl) ?_
          refine tl_guard rfl rfl rfl ?_
          refine tl_q rfl (ev_gtr rfl rfl) ?_
          refine tl_q rfl (ev_pick_false rfl rfl) ?_
          refine tl_q rfl (ev_move rfl) ?_
          refine tl_split_dec 28 rfl (fun g1_25 => ?_) (fun g1_25 => ?_)
          · refine tl_guard_no rfl rfl rfl rfl ?_
            refine tl_guard_no rfl rfl rfl rfl ?_
            refine tl_guard_no rfl rfl rfl rfl ?_
            refine tl_guard_no rfl rfl rfl rfl ?_
            refine tl_q rfl (ev_pick_true rfl rfl) ?_
            refine tl_q rfl (ev_move rfl) ?_
            refine tl_guard_no rfl rfl rfl rfl ?_
            refine tl_guard_no rfl rfl rfl rfl ?_
            refine tl_guard_no rfl rfl rfl rfl ?_
            refine tl_guard_no rfl rfl rfl rfl ?_
            refine tl_q rfl (ev_pick_true rfl rfl) ?_
            refine tl_q rfl (ev_move rfl) ?_
            refine tl_guard_no rfl rfl rfl rfl ?_
            refine tl_guard_no rfl rfl rfl rfl ?_
            refine tl_guard_no rfl rfl rfl rfl ?_
            refine tl_guard_no rfl rfl rfl rfl ?_
            refine tl_guard_no rfl rfl rfl rfl ?_
            refine tl_q rfl (ev_pick_true rfl rfl) ?_
            refine tl_nil ?_
            refine te_code ?_
            refine t_cond_true rfl ?_
            refine t_seq ?_
            refine t_region ?_
            refine tl_q rfl (ev_assign rfl) ?_
            refine tl_nil ?_
            refine te_code ?_
            refine t_ret ?_
            refine te_ret_k (pre := []) (res1 rfl rfl) (by repeat (first | exact Frm.nil | exact Take.here | apply Take.there | apply Frm.cons)) ?_
            refine ⟨_, rfl, rfl, fun g => ?_⟩
            obtain ⟨f1, f2, f3, f4, f5, f6, f7, f8, f9⟩ := g
            first | rfl | (exfalso; omega) | exact absurd (hcg f9) (by assumption) | (exfalso; simp_all; done)
          · refine tl_guard rfl rfl rfl ?_
            refine tl_q rfl (ev_fieldAddr fa_45_3 rfl rfl) ?_
            refine tl_guard rfl rfl rfl ?_
            refine tl_q rfl (ev_load sc_3 rfl (by first | (left; (repeat (first | exact List.Mem.head _ | apply List.Mem.tail)); done) | (right; (repeat (first | exact List.Mem.head _ | apply List.Mem.tail)); done)) rfl) ?_
            refine tl_guard rfl rfl rfl ?_
            refine tl_e (eff_call rfl rfl body_72 rfl (by repeat (first | exact Frm.nil | exact Take.here | apply Take.there | apply Frm.cons)) (IsTime20_ct _)) ?_
            rintro _ _ ⟨v31, _, ⟨b, rfl, rfl, htm⟩, rfl, rfl⟩
            refine tl_guard rfl rfl rfl ?_
            refine tl_q rfl (ev_not rfl) ?_
            refine tl_q rfl (ev_pick_false rfl rfl) ?_
            refine tl_q rfl (ev_move rfl) ?_
            refine tl_split 34 rfl (fun g1_31 => ?_) (fun g1_31 => ?_)
            · refine tl_guard_no rfl rfl rfl rfl ?_
              refine tl_guard_no rfl rfl rfl rfl ?_
              refine tl_guard_no rfl rfl rfl rfl ?_
              refine tl_guard_no rfl rfl rfl rfl ?_
              refine tl_q rfl (ev_pick_true rfl rfl) ?_
              refine tl_q rfl (ev_move rfl) ?_
              refine tl_guard_no rfl rfl rfl rfl ?_
              refine tl_guard_no rfl rfl rfl rfl ?_
              refine tl_guard_no rfl rfl rfl rfl ?_
              refine tl_guard_no rfl rfl rfl rfl ?_
              refine tl_guard_no rfl rfl rfl rfl ?_
              refine tl_q rfl (ev_pick_true rfl rfl) ?_
              refine tl_nil ?_
              refine te_code ?_
              refine t_cond_true rfl ?_
              refine t_seq ?_
              refine t_region ?_
              refine tl_q rfl (ev_assign rfl) ?_
              refine tl_nil ?_
              refine te_code ?_
              refine t_ret ?_
              refine te_ret_k (pre := []) (res1 rfl rfl) (by repeat (first | exact Frm.nil | exact Take.here | apply Take.there | apply Frm.cons)) ?_
              refine ⟨_, rfl, rfl, fun g => ?_⟩
              obtain ⟨f1, f2, f3, f4, f5, f6, f7, f8, f9⟩ := g
              first | rfl | (exfalso; omega) | exact absurd (hcg f9) (by assumption) | (exfalso; simp_all; done)
            · refine tl_guard rfl rfl rfl ?_
              refine tl_q rfl (ev_fieldAddr fa_45_4 rfl rfl) ?_
              refine tl_guard rfl rfl rfl ?_
              refine tl_q rfl (ev_load sc_3 rfl (by first | (left; (repeat (first | exact List.Mem.head _ | apply List.Mem.tail)); done) | (right; (repeat (first | exact List.Mem.head _ | apply List.Mem.tail)); done)) rfl) ?_
              refine tl_guard rfl rfl rfl ?_
              refine tl_e (eff_call rfl rfl body_72 rfl (by repeat (first | exact Frm.nil | exact Take.here | apply Take.there | apply Frm.cons)) (IsTime20_ct _)) ?_
              rintro _ _ ⟨v37, _, ⟨b, rfl, rfl, htm⟩, rfl, rfl⟩
              refine tl_guard rfl rfl rfl ?_
              refine tl_q rfl (ev_not rfl) ?_
              refine tl_q rfl (ev_pick_false rfl rfl) ?_
              refine tl_q rfl (ev_move rfl) ?_
              refine tl_split 40 rfl (fun g1_37 => ?_) (fun g1_37 => ?_)
              · refine tl_guard_no rfl rfl rfl rfl ?_
                refine tl_guard_no rfl rfl rfl rfl ?_
                refine tl_guard_no rfl rfl rfl rfl ?_
                refine tl_guard_no rfl rfl rfl rfl ?_
                refine tl_guard_no rfl rfl rfl rfl ?_
                refine tl_q rfl (ev_pick_true rfl rfl) ?_
                refine tl_nil ?_
                refine te_code ?_
                refine t_cond_true rfl ?_
                refine t_seq ?_
                refine t_region ?_
                refine tl_q rfl (ev_assign rfl) ?_
                refine tl_nil ?_
                refine te_code ?_
                refine t_ret ?_
                refine te_ret_k (pre := []) (res1 rfl rfl) (by repeat (first | exact Frm.nil | exact Take.here | apply Take.there | apply Frm.cons)) ?_
                refine ⟨_, rfl, rfl, fun g => ?_⟩
                obtain ⟨f1, f2, f3, f4, f5, f6, f7, f8, f9⟩ := g
                first | rfl | (exfalso; omega) | exact absurd (hcg f9) (by assumption) | (exfalso; simp_all; done)
              · refine tl_guard rfl rfl rfl ?_
                refine tl_q rfl (ev_fieldAddr fa_45_3 rfl rfl) ?_
                refine tl_guard rfl rfl rfl ?_
                refine tl_q rfl (ev_load sc_3 rfl (by first | (left; (repeat (first | exact List.Mem.head _ | apply List.Mem.tail)); done) | (right; (repeat (first | exact List.Mem.head _ | apply List.Mem.tail)); done)) rfl) ?_
                refine tl_guard rfl rfl rfl ?_
                refine tl_q rfl (ev_fieldAddr fa_45_4 rfl rfl) ?_
                refine tl_guard rfl rfl rfl ?_
                refine tl_q rfl (ev_load sc_3 rfl (by first | (left; (repeat (first | exact List.Mem.head _ | apply List.Mem.tail)); done) | (right; (repeat (first | exact List.Mem.head _ | apply List.Mem.tail)); done)) rfl) ?_
                refine tl_guard rfl rfl rfl ?_
                refine tl_q rfl (ev_gtr rfl rfl) ?_
                refine tl_q rfl (ev_pick_false rfl rfl) ?_
                refine tl_nil ?_
                refine te_code ?_
                refine t_cond_dec rfl (fun h0 => ?_) (fun h0 => ?_)
                · refine t_seq ?_
                  refine t_region ?_
                  refine tl_q rfl (ev_assign rfl) ?_
                  refine tl_nil ?_
                  refine te_code ?_
                  refine t_ret ?_
                  refine te_ret_k (pre := []) (res1 rfl rfl) (by repeat (first | exact Frm.nil | exact Take.here | apply Take.there | apply Frm.cons)) ?_
                  refine ⟨_, rfl, rfl, fun g => ?_⟩
                  obtain ⟨f1, f2, f3, f4, f5, f6, f7, f8, f9⟩ := g
                  first | rfl | (exfalso; omega) | exact absurd (hcg f9) (by assumption) | (exfalso; simp_all; done)
                · refine t_skip ?_
                  refine te_code ?_
                  refine t_seq ?_
                  refine t_seq ?_
                  refine t_region ?_
                  refine tl_q rfl (ev_fieldAddr fa_45_5 rfl rfl) ?_
                  refine tl_q rfl (ev_load sc_4 rfl (by first | (left; (repeat (first | exact List.Mem.head _ | apply List.Mem.tail)); done) | (right; (repeat (first | exact List.Mem.head _ | apply List.Mem.tail)); done)) rfl) ?_
                  refine tl_q rfl (ev_move rfl) ?_
                  refine tl_split 49 rfl (fun g3_2 => ?_) (fun g3_2 => ?_)
                  · refine tl_guard rfl rfl rfl ?_
                    refine tl_q rfl (ev_fieldAddr fa_45_6 rfl rfl) ?_
                    refine tl_guard rfl rfl rfl ?_
                    refine tl_q rfl (ev_load sc_9 rfl (by first | (left; (repeat (first | exact List.Mem.head _ | apply List.Mem.tail)); done) | (right; (repeat (first | exact List.Mem.head _ | apply List.Mem.tail)); done)) rfl) ?_
                    refine tl_guard rfl rfl rfl ?_
                    refine tl_e (eff_call rfl rfl body_73 rfl (by repeat (first | exact Frm.nil | exact Take.here | apply Take.there | apply Frm.cons)) (IsWho20_ct _ (by omega))) ?_
                    rintro _ _ ⟨v52, _, ⟨b, rfl, rfl⟩, rfl, rfl⟩
                    refine tl_guard rfl rfl rfl ?_
                    refine tl_q rfl (ev_not rfl) ?_
                    refine tl_q rfl (ev_pick_true rfl rfl) ?_
                    refine tl_q rfl (ev_move rfl) ?_
                    refine tl_split 55 rfl (fun g3_8 => ?_) (fun g3_8 => ?_)
                    · refine tl_guard_no rfl rfl rfl rfl ?_
                      refine tl_guard_no rfl rfl rfl rfl ?_
                      refine tl_guard_no rfl rfl rfl rfl ?_
                      refine tl_guard_no rfl rfl rfl rfl ?_
                      refine tl_guard_un rfl rfl rfl ?_
                      refine tl_guard_un rfl rfl rfl ?_
                      refine tl_guard_un rfl rfl rfl ?_
                      refine tl_guard_no rfl rfl rfl rfl ?_
                      refine tl_q rfl (ev_pick_true rfl rfl) ?_
                      refine tl_nil ?_
                      refine te_code ?_
                      refine t_cond_true rfl ?_
                      refine t_seq ?_
                      refine t_region ?_
                      refine tl_q rfl (ev_assign rfl) ?_
                      refine tl_nil ?_
                      refine te_code ?_
                      refine t_ret ?_
                      refine te_ret_k (pre := []) (res1 rfl rfl) (by repeat (first | exact Frm.nil | exact Take.here | apply Take.there | apply Frm.cons)) ?_
                      refine ⟨_, rfl, rfl, fun g => ?_⟩
                      obtain ⟨f1, f2, f3, f4, f5, f6, f7, f8, f9⟩ := g
                      first | rfl | (exfalso; omega) | exact absurd (hcg f9) (by assumption) | (exfalso; simp_all; done)
                    · refine tl_guard rfl rfl rfl ?_
                      refine tl_q rfl (ev_fieldAddr fa_45_5 rfl rfl) ?_
                      refine tl_guard rfl rfl rfl ?_
                      refine tl_q rfl (ev_load sc_4 rfl (by first | (left; (repeat (first | exact List.Mem.head _ | apply List.Mem.tail)); done) | (right; (repeat (first | exact List.Mem.head _ | apply List.Mem.tail)); done)) rfl) ?_
                      refine tl_guard rfl rfl rfl ?_
                      refine tl_q rfl (ev_not rfl) ?_
                      refine tl_guard rfl rfl rfl ?_
                      refine tl_q rfl (ev_move rfl) ?_
                      refine tl_split 59 rfl (fun g3_12 => ?_) (fun g3_12 => ?_)
                      · refine tl_guard rfl rfl rfl ?_
                        refine tl_q rfl (ev_fieldAddr fa_45_6 rfl rfl) ?_
                        refine tl_guard rfl rfl rfl ?_
                        refine tl_q rfl (ev_load sc_9 rfl (by first | (left; (repeat (first | exact List.Mem.head _ | apply List.Mem.tail)); done) | (right; (repeat (first | exact List.Mem.head _ | apply List.Mem.tail)); done)) rfl) ?_
                        refine tl_guard rfl rfl rfl ?_
                        refine tl_q rfl (ev_sneq rfl rfl) ?_
                        refine tl_guard rfl rfl rfl ?_
                        refine tl_q rfl (ev_pick_true rfl rfl) ?_
                        refine tl_q rfl (ev_pick_false rfl rfl) ?_
                        refine tl_nil ?_
                        refine te_code ?_
                        refine t_cond_dec rfl (fun h1 => ?_) (fun h1 => ?_)
                        · refine t_seq ?_
                          refine t_region ?_
                          refine tl_q rfl (ev_assign rfl) ?_
                          refine tl_nil ?_
                          refine te_code ?_
                          refine t_ret ?_
                          refine te_ret_k (pre := []) (res1 rfl rfl) (by repeat (first | exact Frm.nil | exact Take.here | apply Take.there | apply Frm.cons)) ?_
                          refine ⟨_, rfl, rfl, fun g => ?_⟩
                          obtain ⟨f1, f2, f3, f4, f5, f6, f7, f8, f9⟩ := g
                          first | rfl | (exfalso; omega) | exact absurd (hcg f9) (by assumption) | (exfalso; simp_all; done)
                        · refine t_skip ?_
                          refine te_code ?_
                          refine t_seq ?_
                          refine t_region ?_
                          refine tl_q rfl (ev_assign rfl) ?_
                          refine tl_nil ?_
                          refine te_code ?_
                          refine t_ret ?_
                          refine te_ret_k (pre := []) (res1 rfl rfl) (by repeat (first | exact Frm.nil | exact Take.here | apply Take.there | apply Frm.cons)) ?_
                          refine ⟨_, rfl, rfl, fun g => ?_⟩
                          obtain ⟨f1, f2, f3, f4, f5, f6, f7, f8, f9⟩ := g
                          first | rfl | (exfalso; omega) | exact absurd (hcg f9) (by assumption) | (exfalso; simp_all; done)
                      · refine tl_guard_no rfl rfl rfl rfl ?_
                        refine tl_guard_no rfl rfl rfl rfl ?_
                        refine tl_guard_no rfl rfl rfl rfl ?_
                        refine tl_guard rfl rfl rfl ?_
                        refine tl_q rfl (ev_pick_false rfl rfl) ?_
                        refine tl_q rfl (ev_pick_false rfl rfl) ?_
                        refine tl_nil ?_
                        refine te_code ?_
                        refine t_cond_false rfl ?_
                        refine t_skip ?_
                        refine te_code ?_
                        refine t_seq ?_
                        refine t_region ?_
                        refine tl_q rfl (ev_assign rfl) ?_
                        refine tl_nil ?_
                        refine te_code ?_
                        refine t_ret ?_
                        refine te_ret_k (pre := []) (res1 rfl rfl) (by repeat (first | exact Frm.nil | exact Take.here | apply Take.there | apply Frm.cons)) ?_
                        refine ⟨_, rfl, rfl, fun g => ?_⟩
                        obtain ⟨f1, f2, f3, f4, f5, f6, f7, f8, f9⟩ := g
                        first | rfl | (exfalso; omega) | exact absurd (hcg f9) (by assumption) | (exfalso; simp_all; done)
                  · refine tl_guard_no rfl rfl rfl rfl ?_
                    refine tl_guard_no rfl rfl rfl rfl ?_
                    refine tl_guard_no rfl rfl rfl rfl ?_
                    refine tl_guard_no rfl rfl rfl rfl ?_
                    refine tl_q rfl (ev_pick_false rfl rfl) ?_
                    refine tl_q rfl (ev_move rfl) ?_
                    refine tl_guard rfl rfl rfl ?_
                    refine tl_q rfl (ev_fieldAddr fa_45_5 rfl rfl) ?_
                    refine tl_guard rfl rfl rfl ?_
                    refine tl_q rfl (ev_load sc_4 rfl (by first | (left; (repeat (first | exact List.Mem.head _ | apply List.Mem.tail)); done) | (right; (repeat (first | exact List.Mem.head _ | apply List.Mem.tail)); done)) rfl) ?_
                    refine tl_guard rfl rfl rfl ?_
                    refine tl_q rfl (ev_not rfl) ?_
                    refine tl_guard rfl rfl rfl ?_
                    refine tl_q rfl (ev_move rfl) ?_
                    refine tl_split 59 rfl (fun g3_12 => ?_) (fun g3_12 => ?_)
                    · refine tl_guard rfl rfl rfl ?_
                      refine tl_q rfl (ev_fieldAddr fa_45_6 rfl rfl) ?_
                      refine tl_guard rfl rfl rfl ?_
                      refine tl_q rfl (ev_load sc_9 rfl (by first | (left; (repeat (first | exact List.Mem.head _ | apply List.Mem.tail)); done) | (right; (repeat (first | exact List.Mem.head _ | apply List.Mem.tail)); done)) rfl) ?_
                      refine tl_guard rfl rfl rfl ?_
                      refine tl_q rfl (ev_sneq rfl rfl) ?_
                      refine tl_guard rfl rfl rfl ?_
                      refine tl_q rfl (ev_pick_true rfl rfl) ?_
                      refine tl_q rfl (ev_pick_false rfl rfl) ?_
                      refine tl_nil ?_
                      refine te_code ?_
                      refine t_cond_dec rfl (fun h1 => ?_) (fun h1 => ?_)
                      · refine t_seq ?_
                        refine t_region ?_
                        refine tl_q rfl (ev_assign rfl) ?_
                        refine tl_nil ?_
                        refine te_code ?_
                        refine t_ret ?_
                        refine te_ret_k (pre := []) (res1 rfl rfl) (by repeat (first | exact Frm.nil | exact Take.here | apply Take.there | apply Frm.cons)) ?_
                        refine ⟨_, rfl, rfl, fun g => ?_⟩
                        obtain ⟨f1, f2, f3, f4, f5, f6, f7, f8, f9⟩ := g
                        first | rfl | (exfalso; omega) | exact absurd (hcg f9) (by assumption) | (exfalso; simp_all; done)
                      · refine t_skip ?_
                        refine te_code ?_
                        refine t_seq ?_
                        refine t_region ?_
                        refine tl_q rfl (ev_assign rfl) ?_
                        refine tl_nil ?_
                        refine te_code ?_
                        refine t_ret ?_
                        refine te_ret_k (pre := []) (res1 rfl rfl) (by repeat (first | exact Frm.nil | exact Take.here | apply Take.there | apply Frm.cons)) ?_
                        refine ⟨_, rfl, rfl, fun g => ?_⟩
                        obtain ⟨f1, f2, f3, f4, f5, f6, f7, f8, f9⟩ := g
                        first | rfl | (exfalso; omega) | exact absurd (hcg f9) (by assumption) | (exfalso; simp_all; done)
                    · refine tl_guard_no rfl rfl rfl rfl ?_
                      refine tl_guard_no rfl rfl rfl rfl ?_
                      refine tl_guard_no rfl rfl rfl rfl ?_
                      refine tl_guard rfl rfl rfl ?_
                      refine tl_q rfl (ev_pick_false rfl rfl) ?_
                      refine tl_q rfl (ev_pick_false rfl rfl) ?_
                      refine tl_nil ?_
                      refine te_code ?_
                      refine t_cond_false rfl ?_
                      refine t_skip ?_
                      refine te_code ?_
                      refine t_seq ?_
                      refine t_region ?_
                      refine tl_q rfl (ev_assign rfl) ?_
                      refine tl_nil ?_
                      refine te_code ?_
                      refine t_ret ?_
                      refine te_ret_k (pre := []) (res1 rfl rfl) (by repeat (first | exact Frm.nil | exact Take.here | apply Take.there | apply Frm.cons)) ?_
                      refine ⟨_, rfl, rfl, fun g => ?_⟩
                      obtain ⟨f1, f2, f3, f4, f5, f6, f7, f8, f9⟩ := g
                      first | rfl | (exfalso; omega) | exact absurd (hcg f9) (by assumption) | (exfalso; simp_all; done)

theorem Sign20_ct (e f : Evt) : CT Tryz.prog 39 #[.agg (encEvt e).toArray, .agg (encEvt f).toArray] [] (fun v M => ∃ b : Bool, v = .bool b ∧ M = [] ∧ (b = true → signOf e = signOf f)) := by
  refine t_fun (vs := [.agg (encEvt e).toArray, .agg (encEvt f).toArray]) (n := 24) Tryz.func39 rfl Tryz.ntmps39 rfl fun w0 F => ?_
  refine t_seq ?_
  refine t_region ?_
  refine tl_e (eff_box rfl rfl rfl) ?_
  rintro _ _ ⟨b2, rfl, rfl⟩
  refine tl_e (eff_box rfl rfl rfl) ?_
  rintro _ _ ⟨b3, rfl, rfl⟩
  refine tl_q rfl (ev_assign rfl) ?_
  refine tl_nil ?_
  refine te_code ?_
  refine t_seq ?_
  refine t_region ?_
  refine tl_q rfl (ev_fieldAddr fa_43_0 rfl rfl) ?_
  refine tl_q rfl (ev_load sc_9 rfl (by first | (left; (repeat (first | exact List.Mem.head _ | apply List.Mem.tail)); done) | (right; (repeat (first | exact List.Mem.head _ | apply List.Mem.tail)); done)) rfl) ?_
  refine tl_q rfl (ev_fieldAddr fa_43_0 rfl rfl) ?_
  refine tl_q rfl (ev_load sc_9 rfl (by first | (left; (repeat (first | exact List.Mem.head _ | apply List.Mem.tail)); done) | (right; (repeat (first | exact List.Mem.head _ | apply List.Mem.tail)); done)) rfl) ?_
  refine tl_q rfl (ev_seql rfl rfl) ?_
  refine tl_q rfl (ev_move rfl) ?_
  refine tl_split_dec 10 rfl (fun g1_5 => ?_) (fun g1_5 => ?_)
  · refine tl_guard rfl rfl rfl ?_
    refine tl_q rfl (ev_fieldAddr fa_43_1 rfl rfl) ?_
    refine tl_guard rfl rfl rfl ?_
    refine tl_q rfl (ev_load sc_9 rfl (by first | (left; (repeat (first | exact List.Mem.head _ | apply List.Mem.tail)); done) | (right; (repeat (first | exact List.Mem.head _ | apply List.Mem.tail)); done)) rfl) ?_
    refine tl_guard rfl rfl rfl ?_
    refine tl_q rfl (ev_fieldAddr fa_43_1 rfl rfl) ?_
    refine tl_guard rfl rfl rfl ?_
    refine tl_q rfl (ev_load sc_9 rfl (by first | (left; (repeat (first | exact List.Mem.head _ | apply List.Mem.tail)); done) | (right; (repeat (first | exact List.Mem.head _ | apply List.Mem.tail)); done)) rfl) ?_
    refine tl_guard rfl rfl rfl ?_
    refine tl_q rfl (ev_seql rfl rfl) ?_
    refine tl_q rfl (ev_pick_true rfl rfl) ?_
    refine tl_q rfl (ev_move rfl) ?_
    refine tl_split_dec 17 rfl (fun g1_12 => ?_) (fun g1_12 => ?_)
    · refine tl_guard rfl rfl rfl ?_
      refine tl_q rfl (ev_fieldAddr fa_43_2 rfl rfl) ?_
      refine tl_guard rfl rfl rfl ?_
      refine tl_q rfl (ev_load sc_9 rfl (by first | (left; (repeat (first | exact List.Mem.head _ | apply List.Mem.tail)); done) | (right; (repeat (first | exact List.Mem.head _ | apply List.Mem.tail)); done)) rfl) ?_
      refine tl_guard rfl rfl rfl ?_
      refine tl_q rfl (ev_fieldAddr fa_43_2 rfl rfl) ?_
      refine tl_guard rfl rfl rfl ?_
      refine tl_q rfl (ev_load sc_9 rfl (by first | (left; (repeat (first | exact List.Mem.head _ | apply List.Mem.tail)); done) | (right; (repeat (first | exact List.Mem.head _ | apply List.Mem.tail)); done)) rfl) ?_
      refine tl_guard rfl rfl rfl ?_
      refine tl_q rfl (ev_seql rfl rfl) ?_
      refine tl_q rfl (ev_pick_true rfl rfl) ?_
      refine tl_q rfl (ev_assign rfl) ?_
      refine tl_nil ?_
      refine te_code ?_
      refine t_ret ?_
      refine te_ret_k (pre := []) (res1 rfl rfl) (by repeat (first | exact Frm.nil | exact Take.here | apply Take.there | apply Frm.cons)) ?_
      refine ⟨_, rfl, rfl, fun g => ?_⟩
      first | (exact absurd g (by decide)) | (simp [signOf] at *; simp_all; done)
    · refine tl_guard_no rfl rfl rfl rfl ?_
      refine tl_guard_no rfl rfl rfl rfl ?_
      refine tl_guard_no rfl rfl rfl rfl ?_
      refine tl_guard_no rfl rfl rfl rfl ?_
      refine tl_guard_no rfl rfl rfl rfl ?_
      refine tl_q rfl (ev_pick_false rfl rfl) ?_
      refine tl_q rfl (ev_assign rfl) ?_
      refine tl_nil ?_
      refine te_code ?_
      refine t_ret ?_
      refine te_ret_k (pre := []) (res1 rfl rfl) (by repeat (first | exact Frm.nil | exact Take.here | apply Take.there | apply Frm.cons)) ?_
      refine ⟨_, rfl, rfl, fun g => ?_⟩
      first | (exact absurd g (by decide)) | (simp [signOf] at *; simp_all; done)
  · refine tl_guard_no rfl rfl rfl rfl ?_
    refine tl_guard_no rfl rfl rfl rfl ?_
    refine tl_guard_no rfl rfl rfl rfl ?_
    refine tl_guard_no rfl rfl rfl rfl ?_
    refine tl_guard_no rfl rfl rfl rfl ?_
    refine tl_q rfl (ev_pick_false rfl rfl) ?_
    refine tl_q rfl (ev_move rfl) ?_
    refine tl_guard_no rfl rfl rfl rfl ?_
    refine tl_guard_no rfl rfl rfl rfl ?_
    refine tl_guard_no rfl rfl rfl rfl ?_
    refine tl_guard_no rfl rfl rfl rfl ?_
    refine tl_guard_no rfl rfl rfl rfl ?_
    refine tl_q rfl (ev_pick_false rfl rfl) ?_
    refine tl_q rfl (ev_assign rfl) ?_
    refine tl_nil ?_
    refine te_code ?_
    refine t_ret ?_
    refine te_ret_k (pre := []) (res1 rfl rfl) (by repeat (first | exact Frm.nil | exact Take.here | apply Take.there | apply Frm.cons)) ?_
    refine ⟨_, rfl, rfl, fun g => ?_⟩
    first | (exact absurd g (by decide)) | (simp [signOf] at *; simp_all; done)


/-- the document's board, weakly: its list is some list of rows -/
def b20 (b : Nat) (most next : Int) (sv : Value) : Asrt := blk b (.cells [.int .i64 most, .int .i64 next, sv].toArray 122 (0, 0))
def o24 (b : Nat) (most base top last refused mark : Int) (sv : Value) : Asrt := blk b (.cells [.int .i64 most, .int .i64 base, .int .i64 top, .int .i64 last, .int .i64 refused, .int .i64 mark, sv].toArray 133 (0, 0))

theorem New20_ct (n : Int) (h : 1 ≤ n ∧ n ≤ 65536) : CT Tryz.prog 69 #[.int .i64 n] [] (fun v M => ∃ b, v = .tuple #[.pointer (some ⟨b, 0, none⟩), .int .i64 0] ∧ M = [b20 b n 1 (.slice none 0 0)]) := by
  refine t_fun (vs := [.int .i64 n]) (n := 13) Tryz.func69 rfl Tryz.ntmps69 rfl fun w0 F => ?_
  refine t_seq ?_
  refine t_region ?_
  refine tl_q rfl (ev_assign rfl) ?_
  refine tl_q rfl (ev_assign rfl) ?_
  refine tl_nil ?_
  refine te_code ?_
  refine t_seq ?_
  refine t_seq ?_
  refine t_region ?_
  refine tl_q rfl (ev_move rfl) ?_
  refine tl_q rfl (ev_lss rfl rfl) ?_
  refine tl_q rfl (ev_move rfl) ?_
  refine tl_is 6 (c := false) rfl (by first | rfl | (simp; done) | (simp; omega) | simp_all) ?_
  refine tl_guard rfl rfl rfl ?_
  refine tl_q rfl (ev_move rfl) ?_
  refine tl_guard rfl rfl rfl ?_
  refine tl_q rfl (ev_gtr rfl rfl) ?_
  refine tl_q rfl (ev_pick_false rfl rfl) ?_
  refine tl_nil ?_
  refine te_code ?_
  refine t_cond_no rfl (by first | rfl | (simp; done) | (simp; omega) | simp_all) ?_
  refine t_skip ?_
  refine te_code ?_
  refine t_seq ?_
  refine t_region ?_
  refine tl_q rfl (ev_move rfl) ?_
  refine tl_q rfl (ev_build st_122 rfl (by repeat (first | exact FillR.nil | exact LPut.nil | apply LPut.cons | apply LPut.succ | apply FillR.cons rfl rfl rfl))) ?_
  refine tl_e (eff_box rfl rfl rfl) ?_
  rintro _ _ ⟨b12, rfl, rfl⟩
  refine tl_q rfl (ev_assign rfl) ?_
  refine tl_q rfl (ev_assign rfl) ?_
  refine tl_nil ?_
  refine te_code ?_
  refine t_ret ?_
  refine te_ret (res2 rfl rfl rfl) ?_
  exact ⟨_, rfl, rfl⟩

theorem New21_ct (n : Int) (h : 1 ≤ n ∧ n ≤ 65536) : CT Tryz.prog 70 #[.int .i64 n] [] (fun v M => ∃ b, v = .tuple #[.pointer (some ⟨b, 0, none⟩), .int .i64 0] ∧ M = []) := by
  refine t_fun (vs := [.int .i64 n]) (n := 13) Tryz.func70 rfl Tryz.ntmps70 rfl fun w0 F => ?_
  refine t_seq ?_
  refine t_region ?_
  refine tl_q rfl (ev_assign rfl) ?_
  refine tl_q rfl (ev_assign rfl) ?_
  refine tl_nil ?_
  refine te_code ?_
  refine t_seq ?_
  refine t_seq ?_
  refine t_region ?_
  refine tl_q rfl (ev_move rfl) ?_
  refine tl_q rfl (ev_lss rfl rfl) ?_
  refine tl_q rfl (ev_move rfl) ?_
  refine tl_is 6 (c := false) rfl (by first | rfl | (simp; done) | (simp; omega) | simp_all) ?_
  refine tl_guard rfl rfl rfl ?_
  refine tl_q rfl (ev_move rfl) ?_
  refine tl_guard rfl rfl rfl ?_
  refine tl_q rfl (ev_gtr rfl rfl) ?_
  refine tl_q rfl (ev_pick_false rfl rfl) ?_
  refine tl_nil ?_
  refine te_code ?_
  refine t_cond_no rfl (by first | rfl | (simp; done) | (simp; omega) | simp_all) ?_
  refine t_skip ?_
  refine te_code ?_
  refine t_seq ?_
  refine t_region ?_
  refine tl_q rfl (ev_move rfl) ?_
  refine tl_q rfl (ev_build st_230 rfl (by repeat (first | exact FillR.nil | exact LPut.nil | apply LPut.cons | apply LPut.succ | apply FillR.cons rfl rfl rfl))) ?_
  refine tl_e (eff_box rfl rfl rfl) ?_
  rintro _ _ ⟨b12, rfl, rfl⟩
  refine tl_q rfl (ev_assign rfl) ?_
  refine tl_q rfl (ev_assign rfl) ?_
  refine tl_nil ?_
  refine te_code ?_
  refine t_ret ?_
  refine te_ret_k (pre := []) (res2 rfl rfl rfl) (by repeat (first | exact Frm.nil | exact Take.here | apply Take.there | apply Frm.cons)) ?_
  exact ⟨_, rfl, rfl⟩

theorem New24_ct  : CT Tryz.prog 37 #[.int .i64 40, .int .i64 1, .int .i64 9] [] (fun v M => ∃ b, v = .tuple #[.pointer (some ⟨b, 0, none⟩), .int .i64 0] ∧ M = [o24 b 40 1 9 0 0 0 (.slice none 0 0)]) := by
  refine t_fun (vs := [.int .i64 40, .int .i64 1, .int .i64 9]) (n := 32) Tryz.func37 rfl Tryz.ntmps37 rfl fun w0 F => ?_
  refine t_seq ?_
  refine t_region ?_
  refine tl_q rfl (ev_assign rfl) ?_
  refine tl_q rfl (ev_assign rfl) ?_
  refine tl_nil ?_
  refine te_code ?_
  refine t_seq ?_
  refine t_seq ?_
  refine t_region ?_
  refine tl_q rfl (ev_move rfl) ?_
  refine tl_q rfl (ev_lss rfl rfl) ?_
  refine tl_q rfl (ev_move rfl) ?_
  refine tl_is 10 (c := false) rfl (by first | rfl | (simp; done) | (simp; omega) | simp_all) ?_
  refine tl_guard rfl rfl rfl ?_
  refine tl_q rfl (ev_move rfl) ?_
  refine tl_guard rfl rfl rfl ?_
  refine tl_q rfl (ev_gtr rfl rfl) ?_
  refine tl_q rfl (ev_pick_false rfl rfl) ?_
  refine tl_q rfl (ev_move rfl) ?_
  refine tl_is 14 (c := false) rfl (by first | rfl | (simp; done) | (simp; omega) | simp_all) ?_
  refine tl_guard rfl rfl rfl ?_
  refine tl_q rfl (ev_move rfl) ?_
  refine tl_guard rfl rfl rfl ?_
  refine tl_q rfl (ev_lss rfl rfl) ?_
  refine tl_q rfl (ev_pick_false rfl rfl) ?_
  refine tl_q rfl (ev_move rfl) ?_
  refine tl_is 18 (c := false) rfl (by first | rfl | (simp; done) | (simp; omega) | simp_all) ?_
  refine tl_guard rfl rfl rfl ?_
  refine tl_q rfl (ev_move rfl) ?_
  refine tl_guard rfl rfl rfl ?_
  refine tl_q rfl (ev_move rfl) ?_
  refine tl_guard rfl rfl rfl ?_
  refine tl_q rfl (ev_gtr rfl rfl) ?_
  refine tl_q rfl (ev_pick_false rfl rfl) ?_
  refine tl_q rfl (ev_move rfl) ?_
  refine tl_is 23 (c := false) rfl (by first | rfl | (simp; done) | (simp; omega) | simp_all) ?_
  refine tl_guard rfl rfl rfl ?_
  refine tl_q rfl (ev_move rfl) ?_
  refine tl_guard rfl rfl rfl ?_
  refine tl_q rfl (ev_gtr rfl rfl) ?_
  refine tl_q rfl (ev_pick_false rfl rfl) ?_
  refine tl_nil ?_
  refine te_code ?_
  refine t_cond_no rfl (by first | rfl | (simp; done) | (simp; omega) | simp_all) ?_
  refine t_skip ?_
  refine te_code ?_
  refine t_seq ?_
  refine t_region ?_
  refine tl_q rfl (ev_move rfl) ?_
  refine tl_q rfl (ev_move rfl) ?_
  refine tl_q rfl (ev_move rfl) ?_
  refine tl_q rfl (ev_build st_133 rfl (by repeat (first | exact FillR.nil | exact LPut.nil | apply LPut.cons | apply LPut.succ | apply FillR.cons rfl rfl rfl))) ?_
  refine tl_e (eff_box rfl rfl rfl) ?_
  rintro _ _ ⟨b31, rfl, rfl⟩
  refine tl_q rfl (ev_assign rfl) ?_
  refine tl_q rfl (ev_assign rfl) ?_
  refine tl_nil ?_
  refine te_code ?_
  refine t_ret ?_
  refine te_ret (res2 rfl rfl rfl) ?_
  exact ⟨_, rfl, rfl⟩

theorem Check16_ct  : CT Tryz.prog 68 #[.agg #[.slice none 0 0, .slice none 0 0, .slice none 0 0]] [] (fun v M => v = .tuple #[.int .i64 0, .int .i64 0] ∧ M = []) := by
  refine t_fun (vs := [.agg #[.slice none 0 0, .slice none 0 0, .slice none 0 0]]) (n := 76) Tryz.func68 rfl Tryz.ntmps68 rfl fun w0 F => ?_
  refine t_seq ?_
  refine t_region ?_
  refine tl_e (eff_box rfl rfl rfl) ?_
  rintro _ _ ⟨b1, rfl, rfl⟩
  refine tl_q rfl (ev_assign rfl) ?_
  refine tl_q rfl (ev_assign rfl) ?_
  refine tl_nil ?_
  refine te_code ?_
  refine t_seq ?_
  refine t_seq ?_
  refine t_region ?_
  refine tl_q rfl (ev_fieldAddr fa_58_0 rfl rfl) ?_
  refine tl_q rfl (ev_load sc_54 rfl (by first | (left; (repeat (first | exact List.Mem.head _ | apply List.Mem.tail)); done) | (right; (repeat (first | exact List.Mem.head _ | apply List.Mem.tail)); done)) rfl) ?_
  refine tl_q rfl (ev_len_slice ⟨_, sl_54.1⟩ rfl) ?_
  refine tl_q rfl (ev_gtr rfl rfl) ?_
  refine tl_q rfl (ev_move rfl) ?_
  refine tl_is 11 (c := false) rfl (by first | rfl | (simp; done) | (simp; omega) | simp_all) ?_
  refine tl_guard rfl rfl rfl ?_
  refine tl_q rfl (ev_fieldAddr fa_58_1 rfl rfl) ?_
  refine tl_guard rfl rfl rfl ?_
  refine tl_q rfl (ev_load sc_55 rfl (by first | (left; (repeat (first | exact List.Mem.head _ | apply List.Mem.tail)); done) | (right; (repeat (first | exact List.Mem.head _ | apply List.Mem.tail)); done)) rfl) ?_
  refine tl_guard rfl rfl rfl ?_
  refine tl_q rfl (ev_len_slice ⟨_, sl_55.1⟩ rfl) ?_
  refine tl_guard rfl rfl rfl ?_
  refine tl_q rfl (ev_gtr rfl rfl) ?_
  refine tl_q rfl (ev_pick_false rfl rfl) ?_
  refine tl_q rfl (ev_move rfl) ?_
  refine tl_is 17 (c := false) rfl (by first | rfl | (simp; done) | (simp; omega) | simp_all) ?_
  refine tl_guard rfl rfl rfl ?_
  refine tl_q rfl (ev_fieldAddr fa_58_2 rfl rfl) ?_
  refine tl_guard rfl rfl rfl ?_
  refine tl_q rfl (ev_load sc_56 rfl (by first | (left; (repeat (first | exact List.Mem.head _ | apply List.Mem.tail)); done) | (right; (repeat (first | exact List.Mem.head _ | apply List.Mem.tail)); done)) rfl) ?_
  refine tl_guard rfl rfl rfl ?_
  refine tl_q rfl (ev_len_slice ⟨_, sl_56.1⟩ rfl) ?_
  refine tl_guard rfl rfl rfl ?_
  refine tl_q rfl (ev_gtr rfl rfl) ?_
  refine tl_q rfl (ev_pick_false rfl rfl) ?_
  refine tl_nil ?_
  refine te_code ?_
  refine t_cond_no rfl (by first | rfl | (simp; done) | (simp; omega) | simp_all) ?_
  refine t_skip ?_
  refine te_code ?_
  refine t_seq ?_
  refine t_seq ?_
  refine t_region ?_
  refine tl_q rfl (ev_assign rfl) ?_
  refine tl_nil ?_
  refine te_code ?_
  refine t_block ?_
  refine t_loop0 ?_
  refine t_seq ?_
  refine t_seq ?_
  refine t_region ?_
  refine tl_q rfl (ev_move rfl) ?_
  refine tl_q rfl (ev_fieldAddr fa_58_0 rfl rfl) ?_
  refine tl_q rfl (ev_load sc_54 rfl (by first | (left; (repeat (first | exact List.Mem.head _ | apply List.Mem.tail)); done) | (right; (repeat (first | exact List.Mem.head _ | apply List.Mem.tail)); done)) rfl) ?_
  refine tl_q rfl (ev_len_slice ⟨_, sl_54.1⟩ rfl) ?_
  refine tl_q rfl (ev_lss rfl rfl) ?_
  refine tl_nil ?_
  refine te_code ?_
  refine t_cond_no rfl (by first | rfl | (simp; done) | (simp; omega) | simp_all) ?_
  refine t_exit ?_
  refine te_exit_code ?_
  refine te_exit_rnd ?_
  refine te_exit_here ?_
  refine te_code ?_
  refine t_seq ?_
  refine t_seq ?_
  refine t_region ?_
  refine tl_q rfl (ev_assign rfl) ?_
  refine tl_nil ?_
  refine te_code ?_
  refine t_block ?_
  refine t_loop0 ?_
  refine t_seq ?_
  refine t_seq ?_
  refine t_region ?_
  refine tl_q rfl (ev_move rfl) ?_
  refine tl_q rfl (ev_fieldAddr fa_58_1 rfl rfl) ?_
  refine tl_q rfl (ev_load sc_55 rfl (by first | (left; (repeat (first | exact List.Mem.head _ | apply List.Mem.tail)); done) | (right; (repeat (first | exact List.Mem.head _ | apply List.Mem.tail)); done)) rfl) ?_
  refine tl_q rfl (ev_len_slice ⟨_, sl_55.1⟩ rfl) ?_
  refine tl_q rfl (ev_lss rfl rfl) ?_
  refine tl_nil ?_
  refine te_code ?_
  refine t_cond_no rfl (by first | rfl | (simp; done) | (simp; omega) | simp_all) ?_
  refine t_exit ?_
  refine te_exit_code ?_
  refine te_exit_rnd ?_
  refine te_exit_here ?_
  refine te_code ?_
  refine t_seq ?_
  refine t_seq ?_
  refine t_region ?_
  refine tl_q rfl (ev_assign rfl) ?_
  refine tl_nil ?_
  refine te_code ?_
  refine t_block ?_
  refine t_loop0 ?_
  refine t_seq ?_
  refine t_seq ?_
  refine t_region ?_
  refine tl_q rfl (ev_move rfl) ?_
  refine tl_q rfl (ev_fieldAddr fa_58_2 rfl rfl) ?_
  refine tl_q rfl (ev_load sc_56 rfl (by first | (left; (repeat (first | exact List.Mem.head _ | apply List.Mem.tail)); done) | (right; (repeat (first | exact List.Mem.head _ | apply List.Mem.tail)); done)) rfl) ?_
  refine tl_q rfl (ev_len_slice ⟨_, sl_56.1⟩ rfl) ?_
  refine tl_q rfl (ev_lss rfl rfl) ?_
  refine tl_nil ?_
  refine te_code ?_
  refine t_cond_no rfl (by first | rfl | (simp; done) | (simp; omega) | simp_all) ?_
  refine t_exit ?_
  refine te_exit_code ?_
  refine te_exit_rnd ?_
  refine te_exit_here ?_
  refine te_code ?_
  refine t_seq ?_
  refine t_region ?_
  refine tl_q rfl (ev_assign rfl) ?_
  refine tl_q rfl (ev_assign rfl) ?_
  refine tl_nil ?_
  refine te_code ?_
  refine t_ret ?_
  refine te_ret_k (pre := []) (res2 rfl rfl rfl) (by repeat (first | exact Frm.nil | exact Take.here | apply Take.there | apply Frm.cons)) ?_
  exact ⟨rfl, rfl⟩

theorem New22_ct  : CT Tryz.prog 36 #[.agg #[.slice none 0 0, .slice none 0 0, .slice none 0 0], .int .i64 40, .int .i64 5, .int .i64 0] [] (fun v M => ∃ b bb hh, v = .tuple #[.pointer (some ⟨b, 0, none⟩), .int .i64 0] ∧ M = [blk b (.cells [.slice none 0 0, .slice none 0 0, .slice none 0 0, .pointer (some ⟨bb, 0, none⟩), .pointer (some ⟨hh, 0, none⟩), .int .i64 0, .int .i64 0, .int .i64 0, .int .i64 0, .int .i64 0, .int .i64 0, .int .i64 0, .int .i64 0, .int .i64 0, .slice none 0 0].toArray 73 (0, 0)), b20 bb 40 1 (.slice none 0 0)]) := by
  refine t_fun (vs := [.agg #[.slice none 0 0, .slice none 0 0, .slice none 0 0], .int .i64 40, .int .i64 5, .int .i64 0]) (n := 53) Tryz.func36 rfl Tryz.ntmps36 rfl fun w0 F => ?_
  refine t_seq ?_
  refine t_region ?_
  refine tl_e (eff_box rfl rfl rfl) ?_
  rintro _ _ ⟨b4, rfl, rfl⟩
  refine tl_q rfl (ev_assign rfl) ?_
  refine tl_q rfl (ev_assign rfl) ?_
  refine tl_nil ?_
  refine te_code ?_
  refine t_seq ?_
  refine t_seq ?_
  refine t_region ?_
  refine tl_q rfl (ev_load_agg ag_58 rfl (by first | (left; (repeat (first | exact List.Mem.head _ | apply List.Mem.tail)); done) | (right; (repeat (first | exact List.Mem.head _ | apply List.Mem.tail)); done)) (by repeat (first | exact LDrop.zero | apply LDrop.succ)) (by repeat (first | exact LTake.zero | apply LTake.succ))) ?_
  refine tl_e (eff_call rfl rfl body_68 rfl (by repeat (first | exact Frm.nil | exact Take.here | apply Take.there | apply Frm.cons)) (Check16_ct)) ?_
  rintro _ _ ⟨v18, _, ⟨rfl, rfl⟩, rfl, rfl⟩
  refine tl_q rfl (ev_move rfl) ?_
  refine tl_q rfl (ev_extract rfl rfl) ?_
  refine tl_q rfl (ev_extract rfl rfl) ?_
  refine tl_q rfl (ev_assign rfl) ?_
  refine tl_q rfl (ev_assign rfl) ?_
  refine tl_nil ?_
  refine te_code ?_
  refine t_seq ?_
  refine t_region ?_
  refine tl_q rfl (ev_move rfl) ?_
  refine tl_q rfl (ev_neq rfl rfl) ?_
  refine tl_nil ?_
  refine te_code ?_
  refine t_cond_no rfl (by first | rfl | (simp; done) | (simp; omega) | simp_all) ?_
  refine t_skip ?_
  refine te_code ?_
  refine t_seq ?_
  refine t_region ?_
  refine tl_q rfl (ev_move rfl) ?_
  refine tl_e (eff_call rfl rfl body_69 rfl (by repeat (first | exact Frm.nil | exact Take.here | apply Take.there | apply Frm.cons)) (New20_ct _ (by omega))) ?_
  rintro _ _ ⟨v25, _, ⟨b2, rfl, rfl⟩, rfl, rfl⟩
  refine tl_q rfl (ev_move rfl) ?_
  refine tl_q rfl (ev_extract rfl rfl) ?_
  refine tl_q rfl (ev_extract rfl rfl) ?_
  refine tl_q rfl (ev_assign rfl) ?_
  refine tl_q rfl (ev_assign rfl) ?_
  refine tl_nil ?_
  refine te_code ?_
  refine t_seq ?_
  refine t_region ?_
  refine tl_q rfl (ev_move rfl) ?_
  refine tl_e (eff_call rfl rfl body_70 rfl (by repeat (first | exact Frm.nil | exact Take.here | apply Take.there | apply Frm.cons)) (New21_ct _ (by omega))) ?_
  rintro _ _ ⟨v30, _, ⟨h2, rfl, rfl⟩, rfl, rfl⟩
  refine tl_q rfl (ev_move rfl) ?_
  refine tl_q rfl (ev_extract rfl rfl) ?_
  refine tl_q rfl (ev_extract rfl rfl) ?_
  refine tl_q rfl (ev_assign rfl) ?_
  refine tl_q rfl (ev_assign rfl) ?_
  refine tl_nil ?_
  refine te_code ?_
  refine t_seq ?_
  refine t_seq ?_
  refine t_region ?_
  refine tl_q rfl (ev_move rfl) ?_
  refine tl_q rfl (ev_neq rfl rfl) ?_
  refine tl_q rfl (ev_move rfl) ?_
  refine tl_is 35 (c := false) rfl (by first | rfl | (simp; done) | (simp; omega) | simp_all) ?_
  refine tl_guard rfl rfl rfl ?_
  refine tl_q rfl (ev_move rfl) ?_
  refine tl_guard rfl rfl rfl ?_
  refine tl_q rfl (ev_neq rfl rfl) ?_
  refine tl_q rfl (ev_pick_false rfl rfl) ?_
  refine tl_q rfl (ev_move rfl) ?_
  refine tl_is 39 (c := false) rfl (by first | rfl | (simp; done) | (simp; omega) | simp_all) ?_
  refine tl_guard rfl rfl rfl ?_
  refine tl_q rfl (ev_move rfl) ?_
  refine tl_guard rfl rfl rfl ?_
  refine tl_q rfl (ev_lss rfl rfl) ?_
  refine tl_q rfl (ev_pick_false rfl rfl) ?_
  refine tl_q rfl (ev_move rfl) ?_
  refine tl_is 43 (c := false) rfl (by first | rfl | (simp; done) | (simp; omega) | simp_all) ?_
  refine tl_guard rfl rfl rfl ?_
  refine tl_q rfl (ev_move rfl) ?_
  refine tl_guard rfl rfl rfl ?_
  refine tl_q rfl (ev_gtr rfl rfl) ?_
  refine tl_q rfl (ev_pick_false rfl rfl) ?_
  refine tl_nil ?_
  refine te_code ?_
  refine t_cond_no rfl (by first | rfl | (simp; done) | (simp; omega) | simp_all) ?_
  refine t_skip ?_
  refine te_code ?_
  refine t_seq ?_
  refine t_region ?_
  refine tl_q rfl (ev_load_agg ag_58 rfl (by first | (left; (repeat (first | exact List.Mem.head _ | apply List.Mem.tail)); done) | (right; (repeat (first | exact List.Mem.head _ | apply List.Mem.tail)); done)) (by repeat (first | exact LDrop.zero | apply LDrop.succ)) (by repeat (first | exact LTake.zero | apply LTake.succ))) ?_
  refine tl_q rfl (ev_move rfl) ?_
  refine tl_q rfl (ev_move rfl) ?_
  refine tl_q rfl (ev_move rfl) ?_
  refine tl_q rfl (ev_build st_73 rfl (by repeat (first | exact FillR.nil | exact LPut.nil | apply LPut.cons | apply LPut.succ | apply FillR.cons rfl rfl rfl))) ?_
  refine tl_e (eff_box rfl rfl rfl) ?_
  rintro _ _ ⟨b52, rfl, rfl⟩
  refine tl_q rfl (ev_assign rfl) ?_
  refine tl_q rfl (ev_assign rfl) ?_
  refine tl_nil ?_
  refine te_code ?_
  refine t_ret ?_
  refine te_ret_k (pre := [blk _ _, b20 b2 40 1 _]) (res2 rfl rfl rfl) (by repeat (first | exact Frm.nil | exact Take.here | apply Take.there | apply Frm.cons)) ?_
  exact ⟨_, _, _, rfl, rfl⟩


def e22 (b bb hh : Nat) : Asrt := blk b (.cells [.slice none 0 0, .slice none 0 0, .slice none 0 0, .pointer (some ⟨bb, 0, none⟩), .pointer (some ⟨hh, 0, none⟩), .int .i64 0, .int .i64 0, .int .i64 0, .int .i64 0, .int .i64 0, .int .i64 0, .int .i64 0, .int .i64 0, .int .i64 0, .slice none 0 0].toArray 73 (0, 0))
def st28 (b eb ob : Nat) : Asrt := blk b (.cells [.pointer (some ⟨eb, 0, none⟩), .pointer (some ⟨ob, 0, none⟩), .int .i64 0, .int .i64 0, .int .i64 0, .int .i64 0, .int .i64 0, .int .i64 0, .int .i64 0].toArray 78 (0, 0))

theorem New28_ct  : CT Tryz.prog 18 #[.agg #[.slice none 0 0, .slice none 0 0, .slice none 0 0, .int .i64 40, .int .i64 5, .int .i64 0, .int .i64 40, .int .i64 1, .int .i64 9, .slice none 0 0]] [] (fun v M => ∃ b eb ob bb hh, v = .tuple #[.pointer (some ⟨b, 0, none⟩), .int .i64 0] ∧ M = [st28 b eb ob, o24 ob 40 1 9 0 0 0 (.slice none 0 0), e22 eb bb hh, b20 bb 40 1 (.slice none 0 0)]) := by
  refine t_fun (vs := [.agg #[.slice none 0 0, .slice none 0 0, .slice none 0 0, .int .i64 40, .int .i64 5, .int .i64 0, .int .i64 40, .int .i64 1, .int .i64 9, .slice none 0 0]]) (n := 68) Tryz.func18 rfl Tryz.ntmps18 rfl fun w0 F => ?_
  refine t_seq ?_
  refine t_region ?_
  refine tl_e (eff_box rfl rfl rfl) ?_
  rintro _ _ ⟨b1, rfl, rfl⟩
  refine tl_q rfl (ev_assign rfl) ?_
  refine tl_q rfl (ev_assign rfl) ?_
  refine tl_nil ?_
  refine te_code ?_
  refine t_seq ?_
  refine t_region ?_
  refine tl_q rfl (ev_fieldAddr fa_66_0 rfl rfl) ?_
  refine tl_q rfl (ev_load_agg ag_58 rfl (by first | (left; (repeat (first | exact List.Mem.head _ | apply List.Mem.tail)); done) | (right; (repeat (first | exact List.Mem.head _ | apply List.Mem.tail)); done)) (by repeat (first | exact LDrop.zero | apply LDrop.succ)) (by repeat (first | exact LTake.zero | apply LTake.succ))) ?_
  refine tl_q rfl (ev_fieldAddr fa_66_1 rfl rfl) ?_
  refine tl_q rfl (ev_load sc_3 rfl (by first | (left; (repeat (first | exact List.Mem.head _ | apply List.Mem.tail)); done) | (right; (repeat (first | exact List.Mem.head _ | apply List.Mem.tail)); done)) rfl) ?_
  refine tl_q rfl (ev_fieldAddr fa_66_2 rfl rfl) ?_
  refine tl_q rfl (ev_load sc_3 rfl (by first | (left; (repeat (first | exact List.Mem.head _ | apply List.Mem.tail)); done) | (right; (repeat (first | exact List.Mem.head _ | apply List.Mem.tail)); done)) rfl) ?_
  refine tl_q rfl (ev_fieldAddr fa_66_3 rfl rfl) ?_
  refine tl_q rfl (ev_load sc_3 rfl (by first | (left; (repeat (first | exact List.Mem.head _ | apply List.Mem.tail)); done) | (right; (repeat (first | exact List.Mem.head _ | apply List.Mem.tail)); done)) rfl) ?_
  refine tl_e (eff_call rfl rfl body_36 rfl (by repeat (first | exact Frm.nil | exact Take.here | apply Take.there | apply Frm.cons)) (New22_ct)) ?_
  rintro _ _ ⟨v17, _, ⟨e2, b2, h2, rfl, rfl⟩, rfl, rfl⟩
  refine tl_q rfl (ev_move rfl) ?_
  refine tl_q rfl (ev_extract rfl rfl) ?_
  refine tl_q rfl (ev_extract rfl rfl) ?_
  refine tl_q rfl (ev_assign rfl) ?_
  refine tl_q rfl (ev_assign rfl) ?_
  refine tl_nil ?_
  refine te_code ?_
  refine t_seq ?_
  refine t_seq ?_
  refine t_region ?_
  refine tl_q rfl (ev_move rfl) ?_
  refine tl_q rfl (ev_neq rfl rfl) ?_
  refine tl_nil ?_
  refine te_code ?_
  refine t_cond_no rfl (by first | rfl | (simp; done) | (simp; omega) | simp_all) ?_
  refine t_skip ?_
  refine te_code ?_
  refine t_seq ?_
  refine t_region ?_
  refine tl_q rfl (ev_fieldAddr fa_66_4 rfl rfl) ?_
  refine tl_q rfl (ev_load sc_3 rfl (by first | (left; (repeat (first | exact List.Mem.head _ | apply List.Mem.tail)); done) | (right; (repeat (first | exact List.Mem.head _ | apply List.Mem.tail)); done)) rfl) ?_
  refine tl_q rfl (ev_fieldAddr fa_66_5 rfl rfl) ?_
  refine tl_q rfl (ev_load sc_3 rfl (by first | (left; (repeat (first | exact List.Mem.head _ | apply List.Mem.tail)); done) | (right; (repeat (first | exact List.Mem.head _ | apply List.Mem.tail)); done)) rfl) ?_
  refine tl_q rfl (ev_fieldAddr fa_66_6 rfl rfl) ?_
  refine tl_q rfl (ev_load sc_3 rfl (by first | (left; (repeat (first | exact List.Mem.head _ | apply List.Mem.tail)); done) | (right; (repeat (first | exact List.Mem.head _ | apply List.Mem.tail)); done)) rfl) ?_
  refine tl_e (eff_call rfl rfl body_37 rfl (by repeat (first | exact Frm.nil | exact Take.here | apply Take.there | apply Frm.cons)) (New24_ct)) ?_
  rintro _ _ ⟨v30, _, ⟨o2, rfl, rfl⟩, rfl, rfl⟩
  refine tl_q rfl (ev_move rfl) ?_
  refine tl_q rfl (ev_extract rfl rfl) ?_
  refine tl_q rfl (ev_extract rfl rfl) ?_
  refine tl_q rfl (ev_assign rfl) ?_
  refine tl_q rfl (ev_assign rfl) ?_
  refine tl_nil ?_
  refine te_code ?_
  refine t_seq ?_
  refine t_seq ?_
  refine t_region ?_
  refine tl_q rfl (ev_move rfl) ?_
  refine tl_q rfl (ev_neq rfl rfl) ?_
  refine tl_q rfl (ev_move rfl) ?_
  refine tl_is 35 (c := false) rfl (by first | rfl | (simp; done) | (simp; omega) | simp_all) ?_
  refine tl_guard rfl rfl rfl ?_
  refine tl_q rfl (ev_fieldAddr fa_66_7 rfl rfl) ?_
  refine tl_guard rfl rfl rfl ?_
  refine tl_q rfl (ev_load sc_38 rfl (by first | (left; (repeat (first | exact List.Mem.head _ | apply List.Mem.tail)); done) | (right; (repeat (first | exact List.Mem.head _ | apply List.Mem.tail)); done)) rfl) ?_
  refine tl_guard rfl rfl rfl ?_
  refine tl_q rfl (ev_len_slice ⟨_, sl_38.1⟩ rfl) ?_
  refine tl_guard rfl rfl rfl ?_
  refine tl_q rfl (ev_gtr rfl rfl) ?_
  refine tl_q rfl (ev_pick_false rfl rfl) ?_
  refine tl_nil ?_
  refine te_code ?_
  refine t_cond_no rfl (by first | rfl | (simp; done) | (simp; omega) | simp_all) ?_
  refine t_skip ?_
  refine te_code ?_
  refine t_seq ?_
  refine t_seq ?_
  refine t_region ?_
  refine tl_q rfl (ev_assign rfl) ?_
  refine tl_nil ?_
  refine te_code ?_
  refine t_block ?_
  refine t_loop0 ?_
  refine t_seq ?_
  refine t_seq ?_
  refine t_region ?_
  refine tl_q rfl (ev_move rfl) ?_
  refine tl_q rfl (ev_fieldAddr fa_66_7 rfl rfl) ?_
  refine tl_q rfl (ev_load sc_38 rfl (by first | (left; (repeat (first | exact List.Mem.head _ | apply List.Mem.tail)); done) | (right; (repeat (first | exact List.Mem.head _ | apply List.Mem.tail)); done)) rfl) ?_
  refine tl_q rfl (ev_len_slice ⟨_, sl_38.1⟩ rfl) ?_
  refine tl_q rfl (ev_lss rfl rfl) ?_
  refine tl_nil ?_
  refine te_code ?_
  refine t_cond_no rfl (by first | rfl | (simp; done) | (simp; omega) | simp_all) ?_
  refine t_exit ?_
  refine te_exit_code ?_
  refine te_exit_rnd ?_
  refine te_exit_here ?_
  refine te_code ?_
  refine t_seq ?_
  refine t_region ?_
  refine tl_q rfl (ev_move rfl) ?_
  refine tl_q rfl (ev_move rfl) ?_
  refine tl_q rfl (ev_build st_78 rfl (by repeat (first | exact FillR.nil | exact LPut.nil | apply LPut.cons | apply LPut.succ | apply FillR.cons rfl rfl rfl))) ?_
  refine tl_e (eff_box rfl rfl rfl) ?_
  rintro _ _ ⟨b67, rfl, rfl⟩
  refine tl_q rfl (ev_assign rfl) ?_
  refine tl_q rfl (ev_assign rfl) ?_
  refine tl_nil ?_
  refine te_code ?_
  refine t_ret ?_
  refine te_ret_k (pre := [st28 _ e2 o2, o24 o2 40 1 9 0 0 0 _, e22 e2 b2 h2, b20 b2 40 1 _]) (res2 rfl rfl rfl) (by repeat (first | exact Frm.nil | exact Take.here | apply Take.there | apply Frm.cons)) ?_
  exact ⟨_, _, _, _, _, rfl, rfl⟩

end Go.SL
