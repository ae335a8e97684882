/- Contracts of state.New and of all that it calls. -/
import Derived.Test.YtimhhegebkganaaGreatDoorProg
import Derived.Test.YtimhhegebkganaaGreatDoorSl9
set_option linter.unusedSimpArgs false
set_option linter.unusedVariables false
set_option maxRecDepth 4000
namespace Go.SL
open Go.Proofs

theorem info_94 : Tryz.prog.info? 94 = some Tryz.t94 := by kernel_rfl
theorem info_3 : Tryz.prog.info? 3 = some Tryz.t3 := by kernel_rfl
theorem info_91 : Tryz.prog.info? 91 = some Tryz.t91 := by kernel_rfl
theorem info_92 : Tryz.prog.info? 92 = some Tryz.t92 := by kernel_rfl
theorem st_94 : StructIs Tryz.prog 94 (fun j => ([(0, 1), (1, 1), (2, 1), (3, 1)] : List (Nat × Nat))[j]?) [.int .i64 0, .int .i64 0, .map none, .map none] := structIs_of (ss := [1, 1, 1, 1]) Tryz.underlying94 info_94 rfl (by kernel_rfl)
theorem info_320 : Tryz.prog.info? 320 = some Tryz.t320 := by kernel_rfl
theorem info_318 : Tryz.prog.info? 318 = some Tryz.t318 := by kernel_rfl
theorem info_317 : Tryz.prog.info? 317 = some Tryz.t317 := by kernel_rfl
theorem st_320 : StructIs Tryz.prog 320 (fun j => ([(0, 1), (1, 1), (2, 1)] : List (Nat × Nat))[j]?) [.int .i64 0, .slice none 0 0, .map none] := structIs_of (ss := [1, 1, 1]) Tryz.underlying320 info_320 rfl (by kernel_rfl)
theorem body_159 : (Tryz.prog.funcs[159]?).map (fun fn => fn.body.isSome && !(fn.name == "runtime.NumGoroutine")) = some true := by kernel_rfl
theorem info_248 : Tryz.prog.info? 248 = some Tryz.t248 := by kernel_rfl
theorem info_246 : Tryz.prog.info? 246 = some Tryz.t246 := by kernel_rfl
theorem st_248 : StructIs Tryz.prog 248 (fun j => ([(0, 1)] : List (Nat × Nat))[j]?) [.pointer none] := structIs_of (ss := [1]) Tryz.underlying248 info_248 rfl (by kernel_rfl)
theorem info_252 : Tryz.prog.info? 252 = some Tryz.t252 := by kernel_rfl
theorem info_249 : Tryz.prog.info? 249 = some Tryz.t249 := by kernel_rfl
theorem info_250 : Tryz.prog.info? 250 = some Tryz.t250 := by kernel_rfl
theorem st_252 : StructIs Tryz.prog 252 (fun j => ([(0, 1), (1, 1), (2, 1), (3, 1), (4, 1)] : List (Nat × Nat))[j]?) [.pointer none, .int .i64 0, .int .i64 0, .map none, .map none] := structIs_of (ss := [1, 1, 1, 1, 1]) Tryz.underlying252 info_252 rfl (by kernel_rfl)
theorem body_109 : (Tryz.prog.funcs[109]?).map (fun fn => fn.body.isSome && !(fn.name == "runtime.NumGoroutine")) = some true := by kernel_rfl
theorem fa_58_0 : FldAt Tryz.prog 58 0 0 := fun a w => by kernel_rfl
theorem sc_54 : IsSc Tryz.prog 54 := isSc_of Tryz.underlying54 rfl
theorem info_208 : Tryz.prog.info? 208 = some Tryz.t208 := by kernel_rfl
theorem sl_54 : SliceOf Tryz.prog 54 208 4 := sliceOf_of Tryz.underlying54 info_208 rfl
theorem fa_58_1 : FldAt Tryz.prog 58 1 1 := fun a w => by kernel_rfl
theorem sc_55 : IsSc Tryz.prog 55 := isSc_of Tryz.underlying55 rfl
theorem info_213 : Tryz.prog.info? 213 = some Tryz.t213 := by kernel_rfl
theorem sl_55 : SliceOf Tryz.prog 55 213 8 := sliceOf_of Tryz.underlying55 info_213 rfl
theorem fa_58_2 : FldAt Tryz.prog 58 2 2 := fun a w => by kernel_rfl
theorem sc_56 : IsSc Tryz.prog 56 := isSc_of Tryz.underlying56 rfl
theorem info_216 : Tryz.prog.info? 216 = some Tryz.t216 := by kernel_rfl
theorem sl_56 : SliceOf Tryz.prog 56 216 10 := sliceOf_of Tryz.underlying56 info_216 rfl
theorem info_205 : Tryz.prog.info? 205 = some Tryz.t205 := by kernel_rfl
theorem info_203 : Tryz.prog.info? 203 = some Tryz.t203 := by kernel_rfl
theorem st_205 : StructIs Tryz.prog 205 (fun j => ([(0, 1)] : List (Nat × Nat))[j]?) [.map none] := structIs_of (ss := [1]) Tryz.underlying205 info_205 rfl (by kernel_rfl)
theorem zero_205 : ZeroIs Tryz.prog 205 (.agg #[.map none]) := zeroIs_of info_205 rfl
theorem sz_205 : SizeIs Tryz.prog 205 1 := sizeIs_of info_205 rfl
theorem info_109 : Tryz.prog.info? 109 = some Tryz.t109 := by kernel_rfl
theorem info_107 : Tryz.prog.info? 107 = some Tryz.t107 := by kernel_rfl
theorem st_109 : StructIs Tryz.prog 109 (fun j => ([(0, 1), (1, 1), (2, 1), (3, 1), (4, 1), (5, 1), (6, 1)] : List (Nat × Nat))[j]?) [.int .i64 0, .int .i64 0, .int .i64 0, .int .i64 0, .int .i64 0, .int .i64 0, .map none] := structIs_of (ss := [1, 1, 1, 1, 1, 1, 1]) Tryz.underlying109 info_109 rfl (by kernel_rfl)
theorem info_58 : Tryz.prog.info? 58 = some Tryz.t58 := by kernel_rfl
theorem ag_58 : IsAg Tryz.prog 58 3 := isAg_of Tryz.underlying58 rfl info_58 rfl
theorem body_62 : (Tryz.prog.funcs[62]?).map (fun fn => fn.body.isSome && !(fn.name == "runtime.NumGoroutine")) = some true := by kernel_rfl
theorem body_65 : (Tryz.prog.funcs[65]?).map (fun fn => fn.body.isSome && !(fn.name == "runtime.NumGoroutine")) = some true := by kernel_rfl
theorem body_66 : (Tryz.prog.funcs[66]?).map (fun fn => fn.body.isSome && !(fn.name == "runtime.NumGoroutine")) = some true := by kernel_rfl
theorem body_67 : (Tryz.prog.funcs[67]?).map (fun fn => fn.body.isSome && !(fn.name == "runtime.NumGoroutine")) = some true := by kernel_rfl
theorem info_86 : Tryz.prog.info? 86 = some Tryz.t86 := by kernel_rfl
theorem info_82 : Tryz.prog.info? 82 = some Tryz.t82 := by kernel_rfl
theorem info_29 : Tryz.prog.info? 29 = some Tryz.t29 := by kernel_rfl
theorem info_83 : Tryz.prog.info? 83 = some Tryz.t83 := by kernel_rfl
theorem info_84 : Tryz.prog.info? 84 = some Tryz.t84 := by kernel_rfl
theorem st_86 : StructIs Tryz.prog 86 (fun j => ([(0, 1), (1, 1), (2, 1), (3, 1), (4, 1), (5, 7)] : List (Nat × Nat))[j]?) [.slice none 0 0, .pointer none, .pointer none, .int .i64 0, .int .i64 0, .int .i64 0, .int .i64 0, .int .i64 0, .int .i64 0, .int .i64 0, .int .i64 0, .int .i64 0] := structIs_of (ss := [1, 1, 1, 1, 1, 7]) Tryz.underlying86 info_86 rfl (by kernel_rfl)
theorem info_9 : Tryz.prog.info? 9 = some Tryz.t9 := by kernel_rfl
theorem sl_38 : SliceOf Tryz.prog 38 9 1 := sliceOf_of Tryz.underlying38 info_9 rfl
theorem body_108 : (Tryz.prog.funcs[108]?).map (fun fn => fn.body.isSome && !(fn.name == "runtime.NumGoroutine")) = some true := by kernel_rfl
theorem info_60 : Tryz.prog.info? 60 = some Tryz.t60 := by kernel_rfl
theorem zero_60 : ZeroIs Tryz.prog 60 (.agg #[.slice none 0 0, .slice none 0 0, .slice none 0 0, .int .i64 0, .int .i64 0, .int .i64 0, .int .i64 0, .int .i64 0, .int .i64 0, .slice none 0 0]) := zeroIs_of info_60 rfl
theorem info_38 : Tryz.prog.info? 38 = some Tryz.t38 := by kernel_rfl
theorem st_60 : StructIs Tryz.prog 60 (fun j => ([(0, 3), (3, 1), (4, 1), (5, 1), (6, 1), (7, 1), (8, 1), (9, 1)] : List (Nat × Nat))[j]?) [.slice none 0 0, .slice none 0 0, .slice none 0 0, .int .i64 0, .int .i64 0, .int .i64 0, .int .i64 0, .int .i64 0, .int .i64 0, .slice none 0 0] := structIs_of (ss := [3, 1, 1, 1, 1, 1, 1, 1]) Tryz.underlying60 info_60 rfl (by kernel_rfl)
theorem sz_60 : SizeIs Tryz.prog 60 10 := sizeIs_of info_60 rfl
theorem ag_60 : IsAg Tryz.prog 60 10 := isAg_of Tryz.underlying60 rfl info_60 rfl
theorem fa_60_0 : FldAt Tryz.prog 60 0 0 := fun a w => by kernel_rfl
theorem info_54 : Tryz.prog.info? 54 = some Tryz.t54 := by kernel_rfl
theorem info_55 : Tryz.prog.info? 55 = some Tryz.t55 := by kernel_rfl
theorem info_56 : Tryz.prog.info? 56 = some Tryz.t56 := by kernel_rfl
theorem st_58 : StructIs Tryz.prog 58 (fun j => ([(0, 1), (1, 1), (2, 1)] : List (Nat × Nat))[j]?) [.slice none 0 0, .slice none 0 0, .slice none 0 0] := structIs_of (ss := [1, 1, 1]) Tryz.underlying58 info_58 rfl (by kernel_rfl)
theorem fa_60_1 : FldAt Tryz.prog 60 1 3 := fun a w => by kernel_rfl
theorem sc_3 : IsSc Tryz.prog 3 := isSc_of Tryz.underlying3 rfl
theorem fa_60_2 : FldAt Tryz.prog 60 2 4 := fun a w => by kernel_rfl
theorem fa_60_3 : FldAt Tryz.prog 60 3 5 := fun a w => by kernel_rfl
theorem body_34 : (Tryz.prog.funcs[34]?).map (fun fn => fn.body.isSome && !(fn.name == "runtime.NumGoroutine")) = some true := by kernel_rfl
theorem fa_60_4 : FldAt Tryz.prog 60 4 6 := fun a w => by kernel_rfl
theorem fa_60_5 : FldAt Tryz.prog 60 5 7 := fun a w => by kernel_rfl
theorem fa_60_6 : FldAt Tryz.prog 60 6 8 := fun a w => by kernel_rfl
theorem body_35 : (Tryz.prog.funcs[35]?).map (fun fn => fn.body.isSome && !(fn.name == "runtime.NumGoroutine")) = some true := by kernel_rfl
theorem fa_60_7 : FldAt Tryz.prog 60 7 9 := fun a w => by kernel_rfl
theorem sc_38 : IsSc Tryz.prog 38 := isSc_of Tryz.underlying38 rfl
theorem body_63 : (Tryz.prog.funcs[63]?).map (fun fn => fn.body.isSome && !(fn.name == "runtime.NumGoroutine")) = some true := by kernel_rfl
theorem body_33 : (Tryz.prog.funcs[33]?).map (fun fn => fn.body.isSome && !(fn.name == "runtime.NumGoroutine")) = some true := by kernel_rfl
theorem info_35 : Tryz.prog.info? 35 = some Tryz.t35 := by kernel_rfl
theorem info_30 : Tryz.prog.info? 30 = some Tryz.t30 := by kernel_rfl
theorem info_31 : Tryz.prog.info? 31 = some Tryz.t31 := by kernel_rfl
theorem info_33 : Tryz.prog.info? 33 = some Tryz.t33 := by kernel_rfl
theorem st_35 : StructIs Tryz.prog 35 (fun j => ([(0, 1), (1, 1), (2, 7)] : List (Nat × Nat))[j]?) [.pointer none, .pointer none, .int .i64 0, .int .i64 0, .int .i64 0, .int .i64 0, .int .i64 0, .int .i64 0, .int .i64 0] := structIs_of (ss := [1, 1, 7]) Tryz.underlying35 info_35 rfl (by kernel_rfl)


abbrev Sign := ByteArray × ByteArray × ByteArray
def signV (s : Sign) : Value := .agg #[.string s.1, .string s.2.1, .string s.2.2]
abbrev HSign := Int × ByteArray × ByteArray
def hsignV (s : HSign) : Value := .agg #[.int .i64 s.1, .string s.2.1, .string s.2.2]
structure Evt where
  node : ByteArray
  cls : ByteArray
  key : ByteArray
  level : Int
  text : ByteArray
def encEvt (e : Evt) : List Value := [.string e.node, .string e.cls, .string e.key, .int .i64 e.level, .string e.text]
structure Row where
  id : Int
  e : Evt
  tally : Int
  first : Int
  last : Int
  acked : Bool
  by_ : ByteArray
def encRow (r : Row) : List Value := [.int .i64 r.id, .string r.e.node, .string r.e.cls, .string r.e.key, .int .i64 r.e.level, .string r.e.text, .int .i64 r.tally, .int .i64 r.first, .int .i64 r.last, .bool r.acked, .string r.by_]
def rowV (r : Row) : Value := .agg (encRow r).toArray
theorem flatEvt : ∀ x, ∀ c ∈ encEvt x, Flat c := by intro x c hc; simp [encEvt] at hc; rcases hc with rfl | rfl | rfl | rfl | rfl <;> trivial
theorem flatRow : ∀ x, ∀ c ∈ encRow x, Flat c := by intro x c hc; simp [encRow] at hc; rcases hc with rfl | rfl | rfl | rfl | rfl | rfl | rfl | rfl | rfl | rfl | rfl <;> trivial
structure Letter where
  seq : Int
  what : Int
  r : Row
  pause : Int
  tm : Int
def encLet (x : Letter) : List Value := [.int .i64 x.seq, .int .i64 x.what, .int .i64 x.r.id, .string x.r.e.node, .string x.r.e.cls, .string x.r.e.key, .int .i64 x.r.e.level, .string x.r.e.text, .int .i64 x.r.tally, .int .i64 x.r.first, .int .i64 x.r.last, .bool x.r.acked, .string x.r.by_, .int .i64 x.pause, .int .i64 x.tm]
def letV (x : Letter) : Value := .agg (encLet x).toArray
abbrev iI : Int → Value := Value.int .i64

theorem board_New_ct (n : Int) (h : 1 ≤ n ∧ n ≤ 65536) : CT Tryz.prog 65 #[.int .i64 n] [] (fun v M => ∃ b m1 m2, v = .tuple #[.pointer (some ⟨b, 0, none⟩), .int .i64 0] ∧ M = [blk b (.cells [.int .i64 n, .int .i64 1, .map (some m1), .map (some m2)].toArray 94 (0, 0)), mp signV iI m2 [], mp iI rowV m1 []]) := by
  refine t_fun (vs := [.int .i64 n]) (n := 15) Tryz.func65 rfl Tryz.ntmps65 rfl fun w0 F => ?_
  refine t_seq ?_
  refine t_region ?_
  refine tl_q rfl (ev_assign rfl) ?_
  refine tl_q rfl (ev_assign rfl) ?_
  refine tl_nil ?_
  refine te_code ?_
  refine t_seq ?_
  refine t_seq ?_
  refine t_region ?_
  refine tl_q rfl (ev_move rfl) ?_
  refine tl_q rfl (ev_lss rfl rfl) ?_
  refine tl_q rfl (ev_move rfl) ?_
  refine tl_is 6 (c := false) rfl (by first | rfl | (simp; done) | (simp; omega) | simp_all) ?_
  refine tl_guard rfl rfl rfl ?_
  refine tl_q rfl (ev_move rfl) ?_
  refine tl_guard rfl rfl rfl ?_
  refine tl_q rfl (ev_gtr rfl rfl) ?_
  refine tl_q rfl (ev_pick_false rfl rfl) ?_
  refine tl_nil ?_
  refine te_code ?_
  refine t_cond_no rfl (by first | rfl | (simp; done) | (simp; omega) | simp_all) ?_
  refine t_skip ?_
  refine te_code ?_
  refine t_seq ?_
  refine t_region ?_
  refine tl_q rfl (ev_move rfl) ?_
  refine tl_e (eff_makeMap rfl) ?_
  rintro _ _ ⟨b11, rfl, rfl⟩
  refine tl_mpnew (iI) (rowV) ?_
  refine tl_e (eff_makeMap rfl) ?_
  rintro _ _ ⟨b12, rfl, rfl⟩
  refine tl_mpnew (signV) (iI) ?_
  refine tl_q rfl (ev_build st_94 rfl (by repeat (first | exact FillR.nil | exact LPut.nil | apply LPut.cons | apply LPut.succ | apply FillR.cons rfl rfl rfl))) ?_
  refine tl_e (eff_box rfl rfl rfl) ?_
  rintro _ _ ⟨b14, rfl, rfl⟩
  refine tl_q rfl (ev_assign rfl) ?_
  refine tl_q rfl (ev_assign rfl) ?_
  refine tl_nil ?_
  refine te_code ?_
  refine t_ret ?_
  refine te_ret (res2 rfl rfl rfl) ?_
  exact ⟨_, _, _, rfl, rfl⟩

theorem heap_New_ct (n : Int) (h : 1 ≤ n ∧ n ≤ 65536) : CT Tryz.prog 159 #[.int .i64 n] [] (fun v M => ∃ b m1, v = .tuple #[.pointer (some ⟨b, 0, none⟩), .int .i64 0] ∧ M = [blk b (.cells [.int .i64 n, .slice none 0 0, .map (some m1)].toArray 320 (0, 0)), mp iI iI m1 []]) := by
  refine t_fun (vs := [.int .i64 n]) (n := 14) Tryz.func159 rfl Tryz.ntmps159 rfl fun w0 F => ?_
  refine t_seq ?_
  refine t_region ?_
  refine tl_q rfl (ev_assign rfl) ?_
  refine tl_q rfl (ev_assign rfl) ?_
  refine tl_nil ?_
  refine te_code ?_
  refine t_seq ?_
  refine t_seq ?_
  refine t_region ?_
  refine tl_q rfl (ev_move rfl) ?_
  refine tl_q rfl (ev_lss rfl rfl) ?_
  refine tl_q rfl (ev_move rfl) ?_
  refine tl_is 6 (c := false) rfl (by first | rfl | (simp; done) | (simp; omega) | simp_all) ?_
  refine tl_guard rfl rfl rfl ?_
  refine tl_q rfl (ev_move rfl) ?_
  refine tl_guard rfl rfl rfl ?_
  refine tl_q rfl (ev_gtr rfl rfl) ?_
  refine tl_q rfl (ev_pick_false rfl rfl) ?_
  refine tl_nil ?_
  refine te_code ?_
  refine t_cond_no rfl (by first | rfl | (simp; done) | (simp; omega) | simp_all) ?_
  refine t_skip ?_
  refine te_code ?_
  refine t_seq ?_
  refine t_region ?_
  refine tl_q rfl (ev_move rfl) ?_
  refine tl_e (eff_makeMap rfl) ?_
  rintro _ _ ⟨b11, rfl, rfl⟩
  refine tl_mpnew (iI) (iI) ?_
  refine tl_q rfl (ev_build st_320 rfl (by repeat (first | exact FillR.nil | exact LPut.nil | apply LPut.cons | apply LPut.succ | apply FillR.cons rfl rfl rfl))) ?_
  refine tl_e (eff_box rfl rfl rfl) ?_
  rintro _ _ ⟨b13, rfl, rfl⟩
  refine tl_q rfl (ev_assign rfl) ?_
  refine tl_q rfl (ev_assign rfl) ?_
  refine tl_nil ?_
  refine te_code ?_
  refine t_ret ?_
  refine te_ret (res2 rfl rfl rfl) ?_
  exact ⟨_, _, rfl, rfl⟩

theorem hold_empty_ct (n k : Int) (h : 1 ≤ n ∧ n ≤ 65536) : CT Tryz.prog 109 #[.int .i64 n, .int .i64 k] [] (fun v M => ∃ b hb m1 m2 m3, v = .pointer (some ⟨b, 0, none⟩) ∧ M = [blk b (.cells [.pointer (some ⟨hb, 0, none⟩), .int .i64 n, .int .i64 k, .map (some m2), .map (some m3)].toArray 252 (0, 0)), mp hsignV iI m3 [], mp iI (fun x : Value => x) m2 [], blk hb (.cells [.int .i64 n, .slice none 0 0, .map (some m1)].toArray 320 (0, 0)), mp iI iI m1 []]) := by
  refine t_fun (vs := [.int .i64 n, .int .i64 k]) (n := 20) Tryz.func109 rfl Tryz.ntmps109 rfl fun w0 F => ?_
  refine t_seq ?_
  refine t_region ?_
  refine tl_q rfl (ev_assign rfl) ?_
  refine tl_nil ?_
  refine te_code ?_
  refine t_seq ?_
  refine t_region ?_
  refine tl_q rfl (ev_move rfl) ?_
  refine tl_e (eff_call rfl rfl body_159 rfl (by repeat (first | exact Frm.nil | exact Take.here | apply Take.there | apply Frm.cons)) (heap_New_ct _ (by omega))) ?_
  rintro _ _ ⟨v9, _, ⟨hb, m1, rfl, rfl⟩, rfl, rfl⟩
  refine tl_q rfl (ev_move rfl) ?_
  refine tl_q rfl (ev_extract rfl rfl) ?_
  refine tl_q rfl (ev_extract rfl rfl) ?_
  refine tl_q rfl (ev_assign rfl) ?_
  refine tl_q rfl (ev_assign rfl) ?_
  refine tl_nil ?_
  refine te_code ?_
  refine t_seq ?_
  refine t_region ?_
  refine tl_q rfl (ev_move rfl) ?_
  refine tl_q rfl (ev_build st_248 rfl (by repeat (first | exact FillR.nil | exact LPut.nil | apply LPut.cons | apply LPut.succ | apply FillR.cons rfl rfl rfl))) ?_
  refine tl_q rfl (ev_move rfl) ?_
  refine tl_q rfl (ev_move rfl) ?_
  refine tl_e (eff_makeMap rfl) ?_
  rintro _ _ ⟨b16, rfl, rfl⟩
  refine tl_mpnew (iI) ((fun x : Value => x)) ?_
  refine tl_e (eff_makeMap rfl) ?_
  rintro _ _ ⟨b17, rfl, rfl⟩
  refine tl_mpnew (hsignV) (iI) ?_
  refine tl_q rfl (ev_build st_252 rfl (by repeat (first | exact FillR.nil | exact LPut.nil | apply LPut.cons | apply LPut.succ | apply FillR.cons rfl rfl rfl))) ?_
  refine tl_e (eff_box rfl rfl rfl) ?_
  rintro _ _ ⟨b19, rfl, rfl⟩
  refine tl_q rfl (ev_assign rfl) ?_
  refine tl_nil ?_
  refine te_code ?_
  refine t_ret ?_
  refine te_ret (res1 rfl rfl) ?_
  exact ⟨_, _, _, _, _, rfl, rfl⟩

theorem hold_New_ct (n : Int) (h : 1 ≤ n ∧ n ≤ 65536) : CT Tryz.prog 66 #[.int .i64 n] [] (fun v M => ∃ b hb m1 m2 m3, v = .tuple #[.pointer (some ⟨b, 0, none⟩), .int .i64 0] ∧ M = [blk b (.cells [.pointer (some ⟨hb, 0, none⟩), .int .i64 n, .int .i64 1, .map (some m2), .map (some m3)].toArray 252 (0, 0)), mp hsignV iI m3 [], mp iI (fun x : Value => x) m2 [], blk hb (.cells [.int .i64 n, .slice none 0 0, .map (some m1)].toArray 320 (0, 0)), mp iI iI m1 []]) := by
  refine t_fun (vs := [.int .i64 n]) (n := 12) Tryz.func66 rfl Tryz.ntmps66 rfl fun w0 F => ?_
  refine t_seq ?_
  refine t_region ?_
  refine tl_q rfl (ev_assign rfl) ?_
  refine tl_q rfl (ev_assign rfl) ?_
  refine tl_nil ?_
  refine te_code ?_
  refine t_seq ?_
  refine t_seq ?_
  refine t_region ?_
  refine tl_q rfl (ev_move rfl) ?_
  refine tl_q rfl (ev_lss rfl rfl) ?_
  refine tl_q rfl (ev_move rfl) ?_
  refine tl_is 6 (c := false) rfl (by first | rfl | (simp; done) | (simp; omega) | simp_all) ?_
  refine tl_guard rfl rfl rfl ?_
  refine tl_q rfl (ev_move rfl) ?_
  refine tl_guard rfl rfl rfl ?_
  refine tl_q rfl (ev_gtr rfl rfl) ?_
  refine tl_q rfl (ev_pick_false rfl rfl) ?_
  refine tl_nil ?_
  refine te_code ?_
  refine t_cond_no rfl (by first | rfl | (simp; done) | (simp; omega) | simp_all) ?_
  refine t_skip ?_
  refine te_code ?_
  refine t_seq ?_
  refine t_region ?_
  refine tl_q rfl (ev_move rfl) ?_
  refine tl_e (eff_call rfl rfl body_109 rfl (by repeat (first | exact Frm.nil | exact Take.here | apply Take.there | apply Frm.cons)) (hold_empty_ct _ _ (by omega))) ?_
  rintro _ _ ⟨v11, _, ⟨hh, hb, m1, m2, m3, rfl, rfl⟩, rfl, rfl⟩
  refine tl_q rfl (ev_assign rfl) ?_
  refine tl_q rfl (ev_assign rfl) ?_
  refine tl_nil ?_
  refine te_code ?_
  refine t_ret ?_
  refine te_ret (res2 rfl rfl rfl) ?_
  exact ⟨_, _, _, _, _, rfl, rfl⟩

theorem check_Check0_ct  : CT Tryz.prog 62 #[.agg #[.slice none 0 0, .slice none 0 0, .slice none 0 0]] [] (fun v M => v = .tuple #[.int .i64 0, .int .i64 0] ∧ M = []) := by
  refine t_fun (vs := [.agg #[.slice none 0 0, .slice none 0 0, .slice none 0 0]]) (n := 95) Tryz.func62 rfl Tryz.ntmps62 rfl fun w0 F => ?_
  refine t_seq ?_
  refine t_region ?_
  refine tl_e (eff_box rfl rfl rfl) ?_
  rintro _ _ ⟨b1, rfl, rfl⟩
  refine tl_q rfl (ev_assign rfl) ?_
  refine tl_q rfl (ev_assign rfl) ?_
  refine tl_nil ?_
  refine te_code ?_
  refine t_seq ?_
  refine t_seq ?_
  refine t_region ?_
  refine tl_q rfl (ev_fieldAddr fa_58_0 rfl rfl) ?_
  refine tl_q rfl (ev_load sc_54 rfl (by first | (left; (repeat (first | exact List.Mem.head _ | apply List.Mem.tail)); done) | (right; (repeat (first | exact List.Mem.head _ | apply List.Mem.tail)); done)) rfl) ?_
  refine tl_q rfl (ev_len_slice ⟨_, sl_54.1⟩ rfl) ?_
  refine tl_q rfl (ev_gtr rfl rfl) ?_
  refine tl_q rfl (ev_move rfl) ?_
  refine tl_is 17 (c := false) rfl (by first | rfl | (simp; done) | (simp; omega) | simp_all) ?_
  refine tl_guard rfl rfl rfl ?_
  refine tl_q rfl (ev_fieldAddr fa_58_1 rfl rfl) ?_
  refine tl_guard rfl rfl rfl ?_
  refine tl_q rfl (ev_load sc_55 rfl (by first | (left; (repeat (first | exact List.Mem.head _ | apply List.Mem.tail)); done) | (right; (repeat (first | exact List.Mem.head _ | apply List.Mem.tail)); done)) rfl) ?_
  refine tl_guard rfl rfl rfl ?_
  refine tl_q rfl (ev_len_slice ⟨_, sl_55.1⟩ rfl) ?_
  refine tl_guard rfl rfl rfl ?_
  refine tl_q rfl (ev_gtr rfl rfl) ?_
  refine tl_q rfl (ev_pick_false rfl rfl) ?_
  refine tl_q rfl (ev_move rfl) ?_
  refine tl_is 23 (c := false) rfl (by first | rfl | (simp; done) | (simp; omega) | simp_all) ?_
  refine tl_guard rfl rfl rfl ?_
  refine tl_q rfl (ev_fieldAddr fa_58_2 rfl rfl) ?_
  refine tl_guard rfl rfl rfl ?_
  refine tl_q rfl (ev_load sc_56 rfl (by first | (left; (repeat (first | exact List.Mem.head _ | apply List.Mem.tail)); done) | (right; (repeat (first | exact List.Mem.head _ | apply List.Mem.tail)); done)) rfl) ?_
  refine tl_guard rfl rfl rfl ?_
  refine tl_q rfl (ev_len_slice ⟨_, sl_56.1⟩ rfl) ?_
  refine tl_guard rfl rfl rfl ?_
  refine tl_q rfl (ev_gtr rfl rfl) ?_
  refine tl_q rfl (ev_pick_false rfl rfl) ?_
  refine tl_nil ?_
  refine te_code ?_
  refine t_cond_no rfl (by first | rfl | (simp; done) | (simp; omega) | simp_all) ?_
  refine t_skip ?_
  refine te_code ?_
  refine t_seq ?_
  refine t_region ?_
  refine tl_e (eff_makeMap rfl) ?_
  rintro _ _ ⟨b29, rfl, rfl⟩
  refine tl_q rfl (ev_build st_205 rfl (by repeat (first | exact FillR.nil | exact LPut.nil | apply LPut.cons | apply LPut.succ | apply FillR.cons rfl rfl rfl))) ?_
  refine tl_e (eff_alloc rfl zero_205 rfl) ?_
  rintro _ _ ⟨b4, rfl, rfl⟩
  refine tl_e (eff_store rfl rfl rfl rfl sz_205 (by first | (simp [Flat]; done) | exact flatRow _ | exact flatEvt _) (by repeat (first | exact Upd.here | apply Upd.there)) (by repeat (first | exact LPut.nil | apply LPut.cons | apply LPut.succ))) ?_
  rintro _ _ ⟨rfl, rfl⟩
  refine tl_nil ?_
  refine te_code ?_
  refine t_seq ?_
  refine t_seq ?_
  refine t_region ?_
  refine tl_q rfl (ev_fieldAddr fa_58_0 rfl rfl) ?_
  refine tl_q rfl (ev_load sc_54 rfl (by first | (left; (repeat (first | exact List.Mem.head _ | apply List.Mem.tail)); done) | (right; (repeat (first | exact List.Mem.head _ | apply List.Mem.tail)); done)) rfl) ?_
  refine tl_q rfl (ev_len_slice ⟨_, sl_54.1⟩ rfl) ?_
  refine tl_q rfl (ev_move rfl) ?_
  refine tl_nil ?_
  refine te_code ?_
  refine t_block ?_
  refine t_loop0 ?_
  refine t_seq ?_
  refine t_region ?_
  refine tl_q rfl (ev_lss rfl rfl) ?_
  refine tl_nil ?_
  refine te_code ?_
  refine t_seq ?_
  refine t_cond_no rfl (by first | rfl | (simp; done) | (simp; omega) | simp_all) ?_
  refine t_exit ?_
  refine te_exit_code ?_
  refine te_exit_rnd ?_
  refine te_exit_here ?_
  refine te_code ?_
  refine t_seq ?_
  refine t_region ?_
  refine tl_e (eff_makeMap rfl) ?_
  rintro _ _ ⟨b52, rfl, rfl⟩
  refine tl_e (eff_makeMap rfl) ?_
  rintro _ _ ⟨b53, rfl, rfl⟩
  refine tl_q rfl (ev_assign rfl) ?_
  refine tl_q rfl (ev_assign rfl) ?_
  refine tl_nil ?_
  refine te_code ?_
  refine t_seq ?_
  refine t_seq ?_
  refine t_region ?_
  refine tl_q rfl (ev_fieldAddr fa_58_1 rfl rfl) ?_
  refine tl_q rfl (ev_load sc_55 rfl (by first | (left; (repeat (first | exact List.Mem.head _ | apply List.Mem.tail)); done) | (right; (repeat (first | exact List.Mem.head _ | apply List.Mem.tail)); done)) rfl) ?_
  refine tl_q rfl (ev_len_slice ⟨_, sl_55.1⟩ rfl) ?_
  refine tl_q rfl (ev_move rfl) ?_
  refine tl_nil ?_
  refine te_code ?_
  refine t_block ?_
  refine t_loop0 ?_
  refine t_seq ?_
  refine t_region ?_
  refine tl_q rfl (ev_lss rfl rfl) ?_
  refine tl_nil ?_
  refine te_code ?_
  refine t_seq ?_
  refine t_cond_no rfl (by first | rfl | (simp; done) | (simp; omega) | simp_all) ?_
  refine t_exit ?_
  refine te_exit_code ?_
  refine te_exit_rnd ?_
  refine te_exit_here ?_
  refine te_code ?_
  refine t_seq ?_
  refine t_seq ?_
  refine t_region ?_
  refine tl_q rfl (ev_fieldAddr fa_58_2 rfl rfl) ?_
  refine tl_q rfl (ev_load sc_56 rfl (by first | (left; (repeat (first | exact List.Mem.head _ | apply List.Mem.tail)); done) | (right; (repeat (first | exact List.Mem.head _ | apply List.Mem.tail)); done)) rfl) ?_
  refine tl_q rfl (ev_len_slice ⟨_, sl_56.1⟩ rfl) ?_
  refine tl_q rfl (ev_move rfl) ?_
  refine tl_nil ?_
  refine te_code ?_
  refine t_block ?_
  refine t_loop0 ?_
  refine t_seq ?_
  refine t_region ?_
  refine tl_q rfl (ev_lss rfl rfl) ?_
  refine tl_nil ?_
  refine te_code ?_
  refine t_seq ?_
  refine t_cond_no rfl (by first | rfl | (simp; done) | (simp; omega) | simp_all) ?_
  refine t_exit ?_
  refine te_exit_code ?_
  refine te_exit_rnd ?_
  refine te_exit_here ?_
  refine te_code ?_
  refine t_seq ?_
  refine t_region ?_
  refine tl_q rfl (ev_assign rfl) ?_
  refine tl_q rfl (ev_assign rfl) ?_
  refine tl_nil ?_
  refine te_code ?_
  refine t_ret ?_
  refine te_ret_k (pre := []) (res2 rfl rfl rfl) (by repeat (first | exact Frm.nil | exact Take.here | apply Take.there | apply Frm.cons)) ?_
  exact ⟨rfl, rfl⟩

theorem watch_rules0_ct  : CT Tryz.prog 67 #[.agg #[.slice none 0 0, .slice none 0 0, .slice none 0 0]] [] (fun v M => v = .slice none 0 0 ∧ M = []) := by
  refine t_fun (vs := [.agg #[.slice none 0 0, .slice none 0 0, .slice none 0 0]]) (n := 38) Tryz.func67 rfl Tryz.ntmps67 rfl fun w0 F => ?_
  refine t_seq ?_
  refine t_region ?_
  refine tl_e (eff_box rfl rfl rfl) ?_
  rintro _ _ ⟨b1, rfl, rfl⟩
  refine tl_q rfl (ev_assign rfl) ?_
  refine tl_nil ?_
  refine te_code ?_
  refine t_seq ?_
  refine t_region ?_
  refine tl_q rfl (ev_assign rfl) ?_
  refine tl_nil ?_
  refine te_code ?_
  refine t_seq ?_
  refine t_seq ?_
  refine t_region ?_
  refine tl_q rfl (ev_fieldAddr fa_58_2 rfl rfl) ?_
  refine tl_q rfl (ev_load sc_56 rfl (by first | (left; (repeat (first | exact List.Mem.head _ | apply List.Mem.tail)); done) | (right; (repeat (first | exact List.Mem.head _ | apply List.Mem.tail)); done)) rfl) ?_
  refine tl_q rfl (ev_len_slice ⟨_, sl_56.1⟩ rfl) ?_
  refine tl_q rfl (ev_move rfl) ?_
  refine tl_nil ?_
  refine te_code ?_
  refine t_block ?_
  refine t_loop0 ?_
  refine t_seq ?_
  refine t_region ?_
  refine tl_q rfl (ev_lss rfl rfl) ?_
  refine tl_nil ?_
  refine te_code ?_
  refine t_seq ?_
  refine t_cond_no rfl (by first | rfl | (simp; done) | (simp; omega) | simp_all) ?_
  refine t_exit ?_
  refine te_exit_code ?_
  refine te_exit_rnd ?_
  refine te_exit_here ?_
  refine te_code ?_
  refine t_seq ?_
  refine t_region ?_
  refine tl_q rfl (ev_move rfl) ?_
  refine tl_q rfl (ev_assign rfl) ?_
  refine tl_nil ?_
  refine te_code ?_
  refine t_ret ?_
  refine te_ret_k (pre := []) (res1 rfl rfl) (by repeat (first | exact Frm.nil | exact Take.here | apply Take.there | apply Frm.cons)) ?_
  exact ⟨rfl, rfl⟩

theorem outbox_New_ct (n b t : Int) (h : 1 ≤ n ∧ n ≤ 65536) (hb : 1 ≤ b) (hbt : b ≤ t) (ht : t ≤ 144115188075855872) : CT Tryz.prog 35 #[.int .i64 n, .int .i64 b, .int .i64 t] [] (fun v M => ∃ ob m1, v = .tuple #[.pointer (some ⟨ob, 0, none⟩), .int .i64 0] ∧ M = [blk ob (.cells [.int .i64 n, .int .i64 b, .int .i64 t, .int .i64 0, .int .i64 0, .int .i64 0, .map (some m1)].toArray 109 (0, 0)), mp iI letV m1 []]) := by
  refine t_fun (vs := [.int .i64 n, .int .i64 b, .int .i64 t]) (n := 33) Tryz.func35 rfl Tryz.ntmps35 rfl fun w0 F => ?_
  refine t_seq ?_
  refine t_region ?_
  refine tl_q rfl (ev_assign rfl) ?_
  refine tl_q rfl (ev_assign rfl) ?_
  refine tl_nil ?_
  refine te_code ?_
  refine t_seq ?_
  refine t_seq ?_
  refine t_region ?_
  refine tl_q rfl (ev_move rfl) ?_
  refine tl_q rfl (ev_lss rfl rfl) ?_
  refine tl_q rfl (ev_move rfl) ?_
  refine tl_is 10 (c := false) rfl (by first | rfl | (simp; done) | (simp; omega) | simp_all) ?_
  refine tl_guard rfl rfl rfl ?_
  refine tl_q rfl (ev_move rfl) ?_
  refine tl_guard rfl rfl rfl ?_
  refine tl_q rfl (ev_gtr rfl rfl) ?_
  refine tl_q rfl (ev_pick_false rfl rfl) ?_
  refine tl_q rfl (ev_move rfl) ?_
  refine tl_is 14 (c := false) rfl (by first | rfl | (simp; done) | (simp; omega) | simp_all) ?_
  refine tl_guard rfl rfl rfl ?_
  refine tl_q rfl (ev_move rfl) ?_
  refine tl_guard rfl rfl rfl ?_
  refine tl_q rfl (ev_lss rfl rfl) ?_
  refine tl_q rfl (ev_pick_false rfl rfl) ?_
  refine tl_q rfl (ev_move rfl) ?_
  refine tl_is 18 (c := false) rfl (by first | rfl | (simp; done) | (simp; omega) | simp_all) ?_
  refine tl_guard rfl rfl rfl ?_
  refine tl_q rfl (ev_move rfl) ?_
  refine tl_guard rfl rfl rfl ?_
  refine tl_q rfl (ev_move rfl) ?_
  refine tl_guard rfl rfl rfl ?_
  refine tl_q rfl (ev_gtr rfl rfl) ?_
  refine tl_q rfl (ev_pick_false rfl rfl) ?_
  refine tl_q rfl (ev_move rfl) ?_
  refine tl_is 23 (c := false) rfl (by first | rfl | (simp; done) | (simp; omega) | simp_all) ?_
  refine tl_guard rfl rfl rfl ?_
  refine tl_q rfl (ev_move rfl) ?_
  refine tl_guard rfl rfl rfl ?_
  refine tl_q rfl (ev_gtr rfl rfl) ?_
  refine tl_q rfl (ev_pick_false rfl rfl) ?_
  refine tl_nil ?_
  refine te_code ?_
  refine t_cond_no rfl (by first | rfl | (simp; done) | (simp; omega) | simp_all) ?_
  refine t_skip ?_
  refine te_code ?_
  refine t_seq ?_
  refine t_region ?_
  refine tl_q rfl (ev_move rfl) ?_
  refine tl_q rfl (ev_move rfl) ?_
  refine tl_q rfl (ev_move rfl) ?_
  refine tl_e (eff_makeMap rfl) ?_
  rintro _ _ ⟨b30, rfl, rfl⟩
  refine tl_mpnew (iI) (letV) ?_
  refine tl_q rfl (ev_build st_109 rfl (by repeat (first | exact FillR.nil | exact LPut.nil | apply LPut.cons | apply LPut.succ | apply FillR.cons rfl rfl rfl))) ?_
  refine tl_e (eff_box rfl rfl rfl) ?_
  rintro _ _ ⟨b32, rfl, rfl⟩
  refine tl_q rfl (ev_assign rfl) ?_
  refine tl_q rfl (ev_assign rfl) ?_
  refine tl_nil ?_
  refine te_code ?_
  refine t_ret ?_
  refine te_ret (res2 rfl rfl rfl) ?_
  exact ⟨_, _, rfl, rfl⟩


/-- a new engine's blocks, beside its board's -/
def engNew (eb bb hh hb m1 m2 m3 : Nat) (ctx : Int) : List Asrt := [blk eb (.cells [.slice none 0 0, .pointer (some ⟨bb, 0, none⟩), .pointer (some ⟨hh, 0, none⟩), .int .i64 0, .int .i64 0, .int .i64 0, .int .i64 0, .int .i64 0, .int .i64 0, .int .i64 0, .int .i64 0, .int .i64 0].toArray 86 (0, 0)),
  blk hh (.cells [.pointer (some ⟨hb, 0, none⟩), .int .i64 ctx, .int .i64 1, .map (some m2), .map (some m3)].toArray 252 (0, 0)), mp hsignV iI m3 [], mp iI (fun x : Value => x) m2 [], blk hb (.cells [.int .i64 ctx, .slice none 0 0, .map (some m1)].toArray 320 (0, 0)), mp iI iI m1 []]
def boardNew (b m1 m2 : Nat) (n : Int) : List Asrt := [blk b (.cells [.int .i64 n, .int .i64 1, .map (some m1), .map (some m2)].toArray 94 (0, 0)), mp signV iI m2 [], mp iI rowV m1 []]

theorem watch_New_ct (n c : Int) (h : 1 ≤ n ∧ n ≤ 65536) (hc : 1 ≤ c ∧ c ≤ 65536) : CT Tryz.prog 34 #[.agg #[.slice none 0 0, .slice none 0 0, .slice none 0 0], .int .i64 n, .int .i64 c, .int .i64 0] [] (fun v M => ∃ eb bb m1 m2 hh hb m3 m4 m5, v = .tuple #[.pointer (some ⟨eb, 0, none⟩), .int .i64 0] ∧ M = engNew eb bb hh hb m3 m4 m5 c ++ boardNew bb m1 m2 n) := by
  refine t_fun (vs := [.agg #[.slice none 0 0, .slice none 0 0, .slice none 0 0], .int .i64 n, .int .i64 c, .int .i64 0]) (n := 54) Tryz.func34 rfl Tryz.ntmps34 rfl fun w0 F => ?_
  refine t_seq ?_
  refine t_region ?_
  refine tl_e (eff_box rfl rfl rfl) ?_
  rintro _ _ ⟨b4, rfl, rfl⟩
  refine tl_q rfl (ev_assign rfl) ?_
  refine tl_q rfl (ev_assign rfl) ?_
  refine tl_nil ?_
  refine te_code ?_
  refine t_seq ?_
  refine t_seq ?_
  refine t_region ?_
  refine tl_q rfl (ev_load_agg ag_58 rfl (by first | (left; (repeat (first | exact List.Mem.head _ | apply List.Mem.tail)); done) | (right; (repeat (first | exact List.Mem.head _ | apply List.Mem.tail)); done)) (by repeat (first | exact LDrop.zero | apply LDrop.succ)) (by repeat (first | exact LTake.zero | apply LTake.succ))) ?_
  refine tl_e (eff_call rfl rfl body_62 rfl (by repeat (first | exact Frm.nil | exact Take.here | apply Take.there | apply Frm.cons)) (check_Check0_ct)) ?_
  rintro _ _ ⟨v18, _, ⟨rfl, rfl⟩, rfl, rfl⟩
  refine tl_q rfl (ev_move rfl) ?_
  refine tl_q rfl (ev_extract rfl rfl) ?_
  refine tl_q rfl (ev_extract rfl rfl) ?_
  refine tl_q rfl (ev_assign rfl) ?_
  refine tl_q rfl (ev_assign rfl) ?_
  refine tl_nil ?_
  refine te_code ?_
  refine t_seq ?_
  refine t_region ?_
  refine tl_q rfl (ev_move rfl) ?_
  refine tl_q rfl (ev_neq rfl rfl) ?_
  refine tl_nil ?_
  refine te_code ?_
  refine t_cond_no rfl (by first | rfl | (simp; done) | (simp; omega) | simp_all) ?_
  refine t_skip ?_
  refine te_code ?_
  refine t_seq ?_
  refine t_region ?_
  refine tl_q rfl (ev_move rfl) ?_
  refine tl_e (eff_call rfl rfl body_65 rfl (by repeat (first | exact Frm.nil | exact Take.here | apply Take.there | apply Frm.cons)) (board_New_ct _ (by omega))) ?_
  rintro _ _ ⟨v25, _, ⟨bb, m1, m2, rfl, rfl⟩, rfl, rfl⟩
  refine tl_q rfl (ev_move rfl) ?_
  refine tl_q rfl (ev_extract rfl rfl) ?_
  refine tl_q rfl (ev_extract rfl rfl) ?_
  refine tl_q rfl (ev_assign rfl) ?_
  refine tl_q rfl (ev_assign rfl) ?_
  refine tl_nil ?_
  refine te_code ?_
  refine t_seq ?_
  refine t_region ?_
  refine tl_q rfl (ev_move rfl) ?_
  refine tl_e (eff_call rfl rfl body_66 rfl (by repeat (first | exact Frm.nil | exact Take.here | apply Take.there | apply Frm.cons)) (hold_New_ct _ (by omega))) ?_
  rintro _ _ ⟨v30, _, ⟨hh, hb, m1h, m2h, m3h, rfl, rfl⟩, rfl, rfl⟩
  refine tl_q rfl (ev_move rfl) ?_
  refine tl_q rfl (ev_extract rfl rfl) ?_
  refine tl_q rfl (ev_extract rfl rfl) ?_
  refine tl_q rfl (ev_assign rfl) ?_
  refine tl_q rfl (ev_assign rfl) ?_
  refine tl_nil ?_
  refine te_code ?_
  refine t_seq ?_
  refine t_seq ?_
  refine t_region ?_
  refine tl_q rfl (ev_move rfl) ?_
  refine tl_q rfl (ev_neq rfl rfl) ?_
  refine tl_q rfl (ev_move rfl) ?_
  refine tl_is 35 (c := false) rfl (by first | rfl | (simp; done) | (simp; omega) | simp_all) ?_
  refine tl_guard rfl rfl rfl ?_
  refine tl_q rfl (ev_move rfl) ?_
  refine tl_guard rfl rfl rfl ?_
  refine tl_q rfl (ev_neq rfl rfl) ?_
  refine tl_q rfl (ev_pick_false rfl rfl) ?_
  refine tl_q rfl (ev_move rfl) ?_
  refine tl_is 39 (c := false) rfl (by first | rfl | (simp; done) | (simp; omega) | simp_all) ?_
  refine tl_guard rfl rfl rfl ?_
  refine tl_q rfl (ev_move rfl) ?_
  refine tl_guard rfl rfl rfl ?_
  refine tl_q rfl (ev_lss rfl rfl) ?_
  refine tl_q rfl (ev_pick_false rfl rfl) ?_
  refine tl_q rfl (ev_move rfl) ?_
  refine tl_is 43 (c := false) rfl (by first | rfl | (simp; done) | (simp; omega) | simp_all) ?_
  refine tl_guard rfl rfl rfl ?_
  refine tl_q rfl (ev_move rfl) ?_
  refine tl_guard rfl rfl rfl ?_
  refine tl_q rfl (ev_gtr rfl rfl) ?_
  refine tl_q rfl (ev_pick_false rfl rfl) ?_
  refine tl_nil ?_
  refine te_code ?_
  refine t_cond_no rfl (by first | rfl | (simp; done) | (simp; omega) | simp_all) ?_
  refine t_skip ?_
  refine te_code ?_
  refine t_seq ?_
  refine t_region ?_
  refine tl_q rfl (ev_load_agg ag_58 rfl (by first | (left; (repeat (first | exact List.Mem.head _ | apply List.Mem.tail)); done) | (right; (repeat (first | exact List.Mem.head _ | apply List.Mem.tail)); done)) (by repeat (first | exact LDrop.zero | apply LDrop.succ)) (by repeat (first | exact LTake.zero | apply LTake.succ))) ?_
  refine tl_e (eff_call rfl rfl body_67 rfl (by repeat (first | exact Frm.nil | exact Take.here | apply Take.there | apply Frm.cons)) (watch_rules0_ct)) ?_
  rintro _ _ ⟨v48, _, ⟨rfl, rfl⟩, rfl, rfl⟩
  refine tl_q rfl (ev_move rfl) ?_
  refine tl_q rfl (ev_move rfl) ?_
  refine tl_q rfl (ev_move rfl) ?_
  refine tl_q rfl (ev_build st_86 rfl (by repeat (first | exact FillR.nil | exact LPut.nil | apply LPut.cons | apply LPut.succ | apply FillR.cons rfl rfl rfl))) ?_
  refine tl_e (eff_box rfl rfl rfl) ?_
  rintro _ _ ⟨b53, rfl, rfl⟩
  refine tl_q rfl (ev_assign rfl) ?_
  refine tl_q rfl (ev_assign rfl) ?_
  refine tl_nil ?_
  refine te_code ?_
  refine t_ret ?_
  refine te_ret_k (pre := engNew _ bb hh hb m1h m2h m3h c ++ boardNew bb m1 m2 n) (res2 rfl rfl rfl) (by repeat (first | exact Frm.nil | exact Take.here | apply Take.there | apply Frm.cons)) ?_
  exact ⟨_, _, _, _, _, _, _, _, _, rfl, rfl⟩

theorem IndexFuncS0_ct (f : Value) : CT Tryz.prog 108 #[.slice none 0 0, f] [] (fun v M => v = .int .i64 (-1) ∧ M = []) := by
  refine t_fun (vs := [.slice none 0 0, f]) (n := 19) Tryz.func108 rfl Tryz.ntmps108 rfl fun w0 F => ?_
  refine t_seq ?_
  refine t_region ?_
  refine tl_q rfl (ev_assign rfl) ?_
  refine tl_nil ?_
  refine te_code ?_
  refine t_seq ?_
  refine t_seq ?_
  refine t_region ?_
  refine tl_q rfl (ev_move rfl) ?_
  refine tl_q rfl (ev_len_slice ⟨_, sl_38.1⟩ rfl) ?_
  refine tl_q rfl (ev_move rfl) ?_
  refine tl_nil ?_
  refine te_code ?_
  refine t_block ?_
  refine t_loop0 ?_
  refine t_seq ?_
  refine t_region ?_
  refine tl_q rfl (ev_lss rfl rfl) ?_
  refine tl_nil ?_
  refine te_code ?_
  refine t_seq ?_
  refine t_cond_no rfl (by first | rfl | (simp; done) | (simp; omega) | simp_all) ?_
  refine t_exit ?_
  refine te_exit_code ?_
  refine te_exit_rnd ?_
  refine te_exit_here ?_
  refine te_code ?_
  refine t_seq ?_
  refine t_region ?_
  refine tl_q rfl (ev_assign rfl) ?_
  refine tl_nil ?_
  refine te_code ?_
  refine t_ret ?_
  refine te_ret (res1 rfl rfl) ?_
  exact ⟨rfl, rfl⟩

theorem ContainsFuncS0_ct (f : Value) : CT Tryz.prog 63 #[.slice none 0 0, f] [] (fun v M => v = .bool false ∧ M = []) := by
  refine t_fun (vs := [.slice none 0 0, f]) (n := 9) Tryz.func63 rfl Tryz.ntmps63 rfl fun w0 F => ?_
  refine t_seq ?_
  refine t_region ?_
  refine tl_q rfl (ev_assign rfl) ?_
  refine tl_nil ?_
  refine te_code ?_
  refine t_seq ?_
  refine t_region ?_
  refine tl_q rfl (ev_move rfl) ?_
  refine tl_q rfl (ev_move rfl) ?_
  refine tl_e (eff_call rfl rfl body_108 rfl (by repeat (first | exact Frm.nil | exact Take.here | apply Take.there | apply Frm.cons)) (IndexFuncS0_ct _)) ?_
  rintro _ _ ⟨v7, _, ⟨rfl, rfl⟩, rfl, rfl⟩
  refine tl_q rfl (ev_geq rfl rfl) ?_
  refine tl_q rfl (ev_assign rfl) ?_
  refine tl_nil ?_
  refine te_code ?_
  refine t_ret ?_
  refine te_ret (res1 rfl rfl) ?_
  exact ⟨rfl, rfl⟩

theorem setup_ct  : CT Tryz.prog 16 #[] [] (fun v M => v = .agg #[.slice none 0 0, .slice none 0 0, .slice none 0 0, .int .i64 40, .int .i64 5, .int .i64 0, .int .i64 40, .int .i64 1, .int .i64 9, .slice none 0 0] ∧ M = []) := by
  refine t_fun (vs := []) (n := 2) Tryz.func16 rfl Tryz.ntmps16 rfl fun w0 F => ?_
  refine t_seq ?_
  refine t_region ?_
  refine tl_e (eff_alloc rfl zero_60 rfl) ?_
  rintro _ _ ⟨b0, rfl, rfl⟩
  refine tl_nil ?_
  refine te_code ?_
  refine t_seq ?_
  refine t_region ?_
  refine tl_q rfl (ev_build st_60 rfl (by repeat (first | exact FillR.nil | exact LPut.nil | apply LPut.cons | apply LPut.succ | apply FillR.cons rfl rfl rfl))) ?_
  refine tl_e (eff_store rfl rfl rfl rfl sz_60 (by first | (simp [Flat]; done) | exact flatRow _ | exact flatEvt _) (by repeat (first | exact Upd.here | apply Upd.there)) (by repeat (first | exact LPut.nil | apply LPut.cons | apply LPut.succ))) ?_
  rintro _ _ ⟨rfl, rfl⟩
  refine tl_nil ?_
  refine te_code ?_
  refine t_ret ?_
  refine te_ret_k (pre := []) (resx rfl (RL.cons (resIs_cell (x := .tmp 0) (ev_load_agg ag_60 rfl (by first | (left; (repeat (first | exact List.Mem.head _ | apply List.Mem.tail)); done) | (right; (repeat (first | exact List.Mem.head _ | apply List.Mem.tail)); done)) (by repeat (first | exact LDrop.zero | apply LDrop.succ)) (by repeat (first | exact LTake.zero | apply LTake.succ))) _ rfl) (RL.nil))) (by repeat (first | exact Frm.nil | exact Take.here | apply Take.there | apply Frm.cons)) ?_
  exact ⟨rfl, rfl⟩

theorem state_Check_ct  : CT Tryz.prog 33 #[.agg #[.slice none 0 0, .slice none 0 0, .slice none 0 0, .int .i64 40, .int .i64 5, .int .i64 0, .int .i64 40, .int .i64 1, .int .i64 9, .slice none 0 0]] [] (fun v M => v = .int .i64 0 ∧ M = []) := by
  refine t_fun (vs := [.agg #[.slice none 0 0, .slice none 0 0, .slice none 0 0, .int .i64 40, .int .i64 5, .int .i64 0, .int .i64 40, .int .i64 1, .int .i64 9, .slice none 0 0]]) (n := 57) Tryz.func33 rfl Tryz.ntmps33 rfl fun w0 F => ?_
  refine t_seq ?_
  refine t_region ?_
  refine tl_e (eff_box rfl rfl rfl) ?_
  rintro _ _ ⟨b1, rfl, rfl⟩
  refine tl_q rfl (ev_assign rfl) ?_
  refine tl_nil ?_
  refine te_code ?_
  refine t_seq ?_
  refine t_seq ?_
  refine t_region ?_
  refine tl_q rfl (ev_fieldAddr fa_60_0 rfl rfl) ?_
  refine tl_q rfl (ev_load_agg ag_58 rfl (by first | (left; (repeat (first | exact List.Mem.head _ | apply List.Mem.tail)); done) | (right; (repeat (first | exact List.Mem.head _ | apply List.Mem.tail)); done)) (by repeat (first | exact LDrop.zero | apply LDrop.succ)) (by repeat (first | exact LTake.zero | apply LTake.succ))) ?_
  refine tl_e (eff_call rfl rfl body_62 rfl (by repeat (first | exact Frm.nil | exact Take.here | apply Take.there | apply Frm.cons)) (check_Check0_ct)) ?_
  rintro _ _ ⟨v13, _, ⟨rfl, rfl⟩, rfl, rfl⟩
  refine tl_q rfl (ev_move rfl) ?_
  refine tl_q rfl (ev_extract rfl rfl) ?_
  refine tl_q rfl (ev_extract rfl rfl) ?_
  refine tl_q rfl (ev_assign rfl) ?_
  refine tl_q rfl (ev_assign rfl) ?_
  refine tl_nil ?_
  refine te_code ?_
  refine t_seq ?_
  refine t_region ?_
  refine tl_q rfl (ev_move rfl) ?_
  refine tl_q rfl (ev_neq rfl rfl) ?_
  refine tl_nil ?_
  refine te_code ?_
  refine t_cond_no rfl (by first | rfl | (simp; done) | (simp; omega) | simp_all) ?_
  refine t_skip ?_
  refine te_code ?_
  refine t_seq ?_
  refine t_region ?_
  refine tl_q rfl (ev_build st_58 rfl (by repeat (first | exact FillR.nil | exact LPut.nil | apply LPut.cons | apply LPut.succ | apply FillR.cons rfl rfl rfl))) ?_
  refine tl_q rfl (ev_fieldAddr fa_60_1 rfl rfl) ?_
  refine tl_q rfl (ev_load sc_3 rfl (by first | (left; (repeat (first | exact List.Mem.head _ | apply List.Mem.tail)); done) | (right; (repeat (first | exact List.Mem.head _ | apply List.Mem.tail)); done)) rfl) ?_
  refine tl_q rfl (ev_fieldAddr fa_60_2 rfl rfl) ?_
  refine tl_q rfl (ev_load sc_3 rfl (by first | (left; (repeat (first | exact List.Mem.head _ | apply List.Mem.tail)); done) | (right; (repeat (first | exact List.Mem.head _ | apply List.Mem.tail)); done)) rfl) ?_
  refine tl_q rfl (ev_fieldAddr fa_60_3 rfl rfl) ?_
  refine tl_q rfl (ev_load sc_3 rfl (by first | (left; (repeat (first | exact List.Mem.head _ | apply List.Mem.tail)); done) | (right; (repeat (first | exact List.Mem.head _ | apply List.Mem.tail)); done)) rfl) ?_
  refine tl_e (eff_call rfl rfl body_34 rfl (by repeat (first | exact Frm.nil | exact Take.here | apply Take.there | apply Frm.cons)) (watch_New_ct _ _ (by omega) (by omega))) ?_
  rintro _ _ ⟨v26, _, ⟨eb, bb, m1, m2, hh, hb, m3, m4, m5, rfl, rfl⟩, rfl, rfl⟩
  refine tl_q rfl (ev_move rfl) ?_
  refine tl_q rfl (ev_extract rfl rfl) ?_
  refine tl_q rfl (ev_extract rfl rfl) ?_
  refine tl_q rfl (ev_assign rfl) ?_
  refine tl_q rfl (ev_assign rfl) ?_
  refine tl_nil ?_
  refine te_code ?_
  refine t_seq ?_
  refine t_region ?_
  refine tl_q rfl (ev_fieldAddr fa_60_4 rfl rfl) ?_
  refine tl_q rfl (ev_load sc_3 rfl (by first | (left; (repeat (first | exact List.Mem.head _ | apply List.Mem.tail)); done) | (right; (repeat (first | exact List.Mem.head _ | apply List.Mem.tail)); done)) rfl) ?_
  refine tl_q rfl (ev_fieldAddr fa_60_5 rfl rfl) ?_
  refine tl_q rfl (ev_load sc_3 rfl (by first | (left; (repeat (first | exact List.Mem.head _ | apply List.Mem.tail)); done) | (right; (repeat (first | exact List.Mem.head _ | apply List.Mem.tail)); done)) rfl) ?_
  refine tl_q rfl (ev_fieldAddr fa_60_6 rfl rfl) ?_
  refine tl_q rfl (ev_load sc_3 rfl (by first | (left; (repeat (first | exact List.Mem.head _ | apply List.Mem.tail)); done) | (right; (repeat (first | exact List.Mem.head _ | apply List.Mem.tail)); done)) rfl) ?_
  refine tl_e (eff_call rfl rfl body_35 rfl (by repeat (first | exact Frm.nil | exact Take.here | apply Take.there | apply Frm.cons)) (outbox_New_ct _ _ _ (by omega) (by omega) (by omega) (by omega))) ?_
  rintro _ _ ⟨v36, _, ⟨ob, mo, rfl, rfl⟩, rfl, rfl⟩
  refine tl_q rfl (ev_move rfl) ?_
  refine tl_q rfl (ev_extract rfl rfl) ?_
  refine tl_q rfl (ev_extract rfl rfl) ?_
  refine tl_q rfl (ev_assign rfl) ?_
  refine tl_q rfl (ev_assign rfl) ?_
  refine tl_nil ?_
  refine te_code ?_
  refine t_seq ?_
  refine t_region ?_
  refine tl_q rfl (ev_fieldAddr fa_60_7 rfl rfl) ?_
  refine tl_q rfl (ev_load sc_38 rfl (by first | (left; (repeat (first | exact List.Mem.head _ | apply List.Mem.tail)); done) | (right; (repeat (first | exact List.Mem.head _ | apply List.Mem.tail)); done)) rfl) ?_
  refine tl_e (eff_call rfl rfl body_63 rfl (by repeat (first | exact Frm.nil | exact Take.here | apply Take.there | apply Frm.cons)) (ContainsFuncS0_ct _)) ?_
  rintro _ _ ⟨v41, _, ⟨rfl, rfl⟩, rfl, rfl⟩
  refine tl_q rfl (ev_assign rfl) ?_
  refine tl_nil ?_
  refine te_code ?_
  refine t_seq ?_
  refine t_seq ?_
  refine t_region ?_
  refine tl_q rfl (ev_move rfl) ?_
  refine tl_q rfl (ev_neq rfl rfl) ?_
  refine tl_q rfl (ev_move rfl) ?_
  refine tl_is 44 (c := false) rfl (by first | rfl | (simp; done) | (simp; omega) | simp_all) ?_
  refine tl_guard rfl rfl rfl ?_
  refine tl_q rfl (ev_move rfl) ?_
  refine tl_guard rfl rfl rfl ?_
  refine tl_q rfl (ev_neq rfl rfl) ?_
  refine tl_q rfl (ev_pick_false rfl rfl) ?_
  refine tl_q rfl (ev_move rfl) ?_
  refine tl_is 48 (c := false) rfl (by first | rfl | (simp; done) | (simp; omega) | simp_all) ?_
  refine tl_guard rfl rfl rfl ?_
  refine tl_q rfl (ev_move rfl) ?_
  refine tl_q rfl (ev_pick_false rfl rfl) ?_
  refine tl_q rfl (ev_move rfl) ?_
  refine tl_is 51 (c := false) rfl (by first | rfl | (simp; done) | (simp; omega) | simp_all) ?_
  refine tl_guard rfl rfl rfl ?_
  refine tl_q rfl (ev_fieldAddr fa_60_7 rfl rfl) ?_
  refine tl_guard rfl rfl rfl ?_
  refine tl_q rfl (ev_load sc_38 rfl (by first | (left; (repeat (first | exact List.Mem.head _ | apply List.Mem.tail)); done) | (right; (repeat (first | exact List.Mem.head _ | apply List.Mem.tail)); done)) rfl) ?_
  refine tl_guard rfl rfl rfl ?_
  refine tl_q rfl (ev_len_slice ⟨_, sl_38.1⟩ rfl) ?_
  refine tl_guard rfl rfl rfl ?_
  refine tl_q rfl (ev_gtr rfl rfl) ?_
  refine tl_q rfl (ev_pick_false rfl rfl) ?_
  refine tl_nil ?_
  refine te_code ?_
  refine t_cond_no rfl (by first | rfl | (simp; done) | (simp; omega) | simp_all) ?_
  refine t_skip ?_
  refine te_code ?_
  refine t_seq ?_
  refine t_region ?_
  refine tl_q rfl (ev_assign rfl) ?_
  refine tl_nil ?_
  refine te_code ?_
  refine t_ret ?_
  refine te_ret_k (pre := []) (res1 rfl rfl) (by repeat (first | exact Frm.nil | exact Take.here | apply Take.there | apply Frm.cons)) ?_
  exact ⟨rfl, rfl⟩


def stB (sb eb ob : Nat) : Asrt := blk sb (.cells [.pointer (some ⟨eb, 0, none⟩), .pointer (some ⟨ob, 0, none⟩), .int .i64 0, .int .i64 0, .int .i64 0, .int .i64 0, .int .i64 0, .int .i64 0, .int .i64 0].toArray 35 (0, 0))
def boxB (ob mo : Nat) (last refused : Int) : Asrt := blk ob (.cells [.int .i64 40, .int .i64 1, .int .i64 9, .int .i64 last, .int .i64 refused, .int .i64 0, .map (some mo)].toArray 109 (0, 0))

theorem state_New_ct  : CT Tryz.prog 17 #[.agg #[.slice none 0 0, .slice none 0 0, .slice none 0 0, .int .i64 40, .int .i64 5, .int .i64 0, .int .i64 40, .int .i64 1, .int .i64 9, .slice none 0 0]] [] (fun v M => ∃ sb ob mo eb bb m1 m2 hh hb m3 m4 m5, v = .tuple #[.pointer (some ⟨sb, 0, none⟩), .int .i64 0] ∧ M = stB sb eb ob :: boxB ob mo 0 0 :: mp iI letV mo [] :: (engNew eb bb hh hb m3 m4 m5 5 ++ boardNew bb m1 m2 40)) := by
  refine t_fun (vs := [.agg #[.slice none 0 0, .slice none 0 0, .slice none 0 0, .int .i64 40, .int .i64 5, .int .i64 0, .int .i64 40, .int .i64 1, .int .i64 9, .slice none 0 0]]) (n := 40) Tryz.func17 rfl Tryz.ntmps17 rfl fun w0 F => ?_
  refine t_seq ?_
  refine t_region ?_
  refine tl_e (eff_box rfl rfl rfl) ?_
  rintro _ _ ⟨b1, rfl, rfl⟩
  refine tl_q rfl (ev_assign rfl) ?_
  refine tl_q rfl (ev_assign rfl) ?_
  refine tl_nil ?_
  refine te_code ?_
  refine t_seq ?_
  refine t_seq ?_
  refine t_region ?_
  refine tl_q rfl (ev_load_agg ag_60 rfl (by first | (left; (repeat (first | exact List.Mem.head _ | apply List.Mem.tail)); done) | (right; (repeat (first | exact List.Mem.head _ | apply List.Mem.tail)); done)) (by repeat (first | exact LDrop.zero | apply LDrop.succ)) (by repeat (first | exact LTake.zero | apply LTake.succ))) ?_
  refine tl_e (eff_call rfl rfl body_33 rfl (by repeat (first | exact Frm.nil | exact Take.here | apply Take.there | apply Frm.cons)) (state_Check_ct)) ?_
  rintro _ _ ⟨v10, _, ⟨rfl, rfl⟩, rfl, rfl⟩
  refine tl_q rfl (ev_assign rfl) ?_
  refine tl_nil ?_
  refine te_code ?_
  refine t_seq ?_
  refine t_region ?_
  refine tl_q rfl (ev_move rfl) ?_
  refine tl_q rfl (ev_neq rfl rfl) ?_
  refine tl_nil ?_
  refine te_code ?_
  refine t_cond_no rfl (by first | rfl | (simp; done) | (simp; omega) | simp_all) ?_
  refine t_skip ?_
  refine te_code ?_
  refine t_seq ?_
  refine t_region ?_
  refine tl_q rfl (ev_fieldAddr fa_60_0 rfl rfl) ?_
  refine tl_q rfl (ev_load_agg ag_58 rfl (by first | (left; (repeat (first | exact List.Mem.head _ | apply List.Mem.tail)); done) | (right; (repeat (first | exact List.Mem.head _ | apply List.Mem.tail)); done)) (by repeat (first | exact LDrop.zero | apply LDrop.succ)) (by repeat (first | exact LTake.zero | apply LTake.succ))) ?_
  refine tl_q rfl (ev_fieldAddr fa_60_1 rfl rfl) ?_
  refine tl_q rfl (ev_load sc_3 rfl (by first | (left; (repeat (first | exact List.Mem.head _ | apply List.Mem.tail)); done) | (right; (repeat (first | exact List.Mem.head _ | apply List.Mem.tail)); done)) rfl) ?_
  refine tl_q rfl (ev_fieldAddr fa_60_2 rfl rfl) ?_
  refine tl_q rfl (ev_load sc_3 rfl (by first | (left; (repeat (first | exact List.Mem.head _ | apply List.Mem.tail)); done) | (right; (repeat (first | exact List.Mem.head _ | apply List.Mem.tail)); done)) rfl) ?_
  refine tl_q rfl (ev_fieldAddr fa_60_3 rfl rfl) ?_
  refine tl_q rfl (ev_load sc_3 rfl (by first | (left; (repeat (first | exact List.Mem.head _ | apply List.Mem.tail)); done) | (right; (repeat (first | exact List.Mem.head _ | apply List.Mem.tail)); done)) rfl) ?_
  refine tl_e (eff_call rfl rfl body_34 rfl (by repeat (first | exact Frm.nil | exact Take.here | apply Take.there | apply Frm.cons)) (watch_New_ct _ _ (by omega) (by omega))) ?_
  rintro _ _ ⟨v23, _, ⟨eb, bb, m1, m2, hh, hb, m3, m4, m5, rfl, rfl⟩, rfl, rfl⟩
  refine tl_q rfl (ev_move rfl) ?_
  refine tl_q rfl (ev_extract rfl rfl) ?_
  refine tl_q rfl (ev_extract rfl rfl) ?_
  refine tl_q rfl (ev_assign rfl) ?_
  refine tl_q rfl (ev_assign rfl) ?_
  refine tl_nil ?_
  refine te_code ?_
  refine t_seq ?_
  refine t_region ?_
  refine tl_q rfl (ev_fieldAddr fa_60_4 rfl rfl) ?_
  refine tl_q rfl (ev_load sc_3 rfl (by first | (left; (repeat (first | exact List.Mem.head _ | apply List.Mem.tail)); done) | (right; (repeat (first | exact List.Mem.head _ | apply List.Mem.tail)); done)) rfl) ?_
  refine tl_q rfl (ev_fieldAddr fa_60_5 rfl rfl) ?_
  refine tl_q rfl (ev_load sc_3 rfl (by first | (left; (repeat (first | exact List.Mem.head _ | apply List.Mem.tail)); done) | (right; (repeat (first | exact List.Mem.head _ | apply List.Mem.tail)); done)) rfl) ?_
  refine tl_q rfl (ev_fieldAddr fa_60_6 rfl rfl) ?_
  refine tl_q rfl (ev_load sc_3 rfl (by first | (left; (repeat (first | exact List.Mem.head _ | apply List.Mem.tail)); done) | (right; (repeat (first | exact List.Mem.head _ | apply List.Mem.tail)); done)) rfl) ?_
  refine tl_e (eff_call rfl rfl body_35 rfl (by repeat (first | exact Frm.nil | exact Take.here | apply Take.there | apply Frm.cons)) (outbox_New_ct _ _ _ (by omega) (by omega) (by omega) (by omega))) ?_
  rintro _ _ ⟨v33, _, ⟨ob, mo, rfl, rfl⟩, rfl, rfl⟩
  refine tl_q rfl (ev_move rfl) ?_
  refine tl_q rfl (ev_extract rfl rfl) ?_
  refine tl_q rfl (ev_extract rfl rfl) ?_
  refine tl_q rfl (ev_assign rfl) ?_
  refine tl_q rfl (ev_assign rfl) ?_
  refine tl_nil ?_
  refine te_code ?_
  refine t_seq ?_
  refine t_region ?_
  refine tl_q rfl (ev_move rfl) ?_
  refine tl_q rfl (ev_move rfl) ?_
  refine tl_q rfl (ev_build st_35 rfl (by repeat (first | exact FillR.nil | exact LPut.nil | apply LPut.cons | apply LPut.succ | apply FillR.cons rfl rfl rfl))) ?_
  refine tl_e (eff_box rfl rfl rfl) ?_
  rintro _ _ ⟨b39, rfl, rfl⟩
  refine tl_q rfl (ev_assign rfl) ?_
  refine tl_q rfl (ev_assign rfl) ?_
  refine tl_nil ?_
  refine te_code ?_
  refine t_ret ?_
  refine te_ret_k (pre := stB _ eb ob :: boxB ob mo 0 0 :: mp iI letV mo [] :: (engNew eb bb hh hb m3 m4 m5 5 ++ boardNew bb m1 m2 40)) (res2 rfl rfl rfl) (by repeat (first | exact Frm.nil | exact Take.here | apply Take.there | apply Frm.cons)) ?_
  exact ⟨_, _, _, _, _, _, _, _, _, _, _, _, rfl, rfl⟩

end Go.SL
