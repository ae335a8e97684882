/- Contracts of query.number, of, read. -/
import Derived.Test.YtimhhegebkganaaGreatDoorProg
import Derived.Test.YtimhhegebkganaaGreatDoorWd
import Derived.Test.YtimhhegebkganaaGreatDoorSl14
set_option linter.unusedSimpArgs false
set_option linter.unusedVariables false
set_option maxRecDepth 4000
namespace Go.SL
open Go.Proofs

theorem body_133 : (Tryz.prog.funcs[133]?).map (fun fn => fn.body.isSome && !(fn.name == "runtime.NumGoroutine")) = some true := by kernel_rfl
theorem isifc_154 : IsIfc Tryz.prog 154 := ⟨_, Tryz.underlying154⟩
theorem body_84 : (Tryz.prog.funcs[84]?).map (fun fn => fn.body.isSome && !(fn.name == "runtime.NumGoroutine")) = some true := by kernel_rfl
theorem body_135 : (Tryz.prog.funcs[135]?).map (fun fn => fn.body.isSome && !(fn.name == "runtime.NumGoroutine")) = some true := by kernel_rfl
theorem body_183 : (Tryz.prog.funcs[183]?).map (fun fn => fn.body.isSome && !(fn.name == "runtime.NumGoroutine")) = some true := by kernel_rfl
theorem body_139 : (Tryz.prog.funcs[139]?).map (fun fn => fn.body.isSome && !(fn.name == "runtime.NumGoroutine")) = some true := by kernel_rfl
theorem info_187 : Tryz.prog.info? 187 = some Tryz.t187 := by kernel_rfl
theorem sl_140 : SliceOf Tryz.prog 140 187 1 := sliceOf_of Tryz.underlying140 info_187 rfl
theorem sc_187 : IsSc Tryz.prog 187 := isSc_of Tryz.underlying187 rfl
theorem body_186 : (Tryz.prog.funcs[186]?).map (fun fn => fn.body.isSome && !(fn.name == "runtime.NumGoroutine")) = some true := by kernel_rfl
theorem info_142 : Tryz.prog.info? 142 = some Tryz.t142 := by kernel_rfl
theorem zero_142 : ZeroIs Tryz.prog 142 (.agg #[.slice none 0 0, .nilFunc, .int .i64 0]) := zeroIs_of info_142 rfl
theorem info_140 : Tryz.prog.info? 140 = some Tryz.t140 := by kernel_rfl
theorem info_95 : Tryz.prog.info? 95 = some Tryz.t95 := by kernel_rfl
theorem st_142 : StructIs Tryz.prog 142 (fun j => ([(0, 1), (1, 1), (2, 1)] : List (Nat × Nat))[j]?) [.slice none 0 0, .nilFunc, .int .i64 0] := structIs_of (ss := [1, 1, 1]) Tryz.underlying142 info_142 rfl (by kernel_rfl)
theorem sz_142 : SizeIs Tryz.prog 142 3 := sizeIs_of info_142 rfl
theorem fa_142_1 : FldAt Tryz.prog 142 1 1 := fun a w => by kernel_rfl
theorem sc_95 : IsSc Tryz.prog 95 := isSc_of Tryz.underlying95 rfl
theorem isfun_95 : IsFun Tryz.prog 95 := ⟨_, _, _, Tryz.underlying95⟩
theorem body_83 : (Tryz.prog.funcs[83]?).map (fun fn => fn.body.isSome && !(fn.name == "runtime.NumGoroutine")) = some true := by kernel_rfl
theorem sz_95 : SizeIs Tryz.prog 95 1 := sizeIs_of info_95 rfl
theorem ag_142 : IsAg Tryz.prog 142 3 := isAg_of Tryz.underlying142 rfl info_142 rfl

def encF (b : Nat) : List Value := [.func (.func 183) #[] #[.pointer (some ⟨b, 0, none⟩)]]
theorem flatF : ∀ x, ∀ c ∈ encF x, Flat c := by intro x c hc; simp [encF] at hc; subst hc; trivial
theorem number_ct (n : Int) (h0 : 0 ≤ n) (h1 : n < 1000000000000000000) : CT Tryz.prog 84 #[.string (itoaB n)] [powA] (fun v M => v = .tuple #[.int .i64 n, .bool true] ∧ M = [powA]) := by
  refine t_fun (vs := [.string (itoaB n)]) (n := 29) Tryz.func84 rfl Tryz.ntmps84 rfl fun w0 F => ?_
  have h18 := itoaB_18 n h0 h1
  refine t_seq ?_
  refine t_region ?_
  refine tl_q rfl (ev_assign rfl) ?_
  refine tl_q rfl (ev_assign rfl) ?_
  refine tl_nil ?_
  refine te_code ?_
  refine t_seq ?_
  refine t_region ?_
  refine tl_q rfl (ev_move rfl) ?_
  refine tl_e (eff_call rfl rfl body_133 rfl (by repeat (first | exact Frm.nil | exact Take.here | apply Take.there | apply Frm.cons)) (Atoi_ct _ n (itoaB_18 n h0 h1) (atoi_itoa n h0))) ?_
  rintro _ _ ⟨v8, _, ⟨rfl, rfl⟩, rfl, rfl⟩
  refine tl_q rfl (ev_move rfl) ?_
  refine tl_q rfl (ev_extract rfl rfl) ?_
  refine tl_q rfl (ev_extract rfl rfl) ?_
  refine tl_q rfl (ev_assign rfl) ?_
  refine tl_q rfl (ev_assign rfl) ?_
  refine tl_nil ?_
  refine te_code ?_
  refine t_seq ?_
  refine t_region ?_
  refine tl_q rfl (ev_move rfl) ?_
  refine tl_q rfl (ev_move rfl) ?_
  refine tl_q rfl (ev_ifc_eql isifc_154 rfl) ?_
  refine tl_q rfl (ev_move rfl) ?_
  refine tl_is 14 (c := true) rfl (by first | rfl | (simp; done) | (simp; omega) | simp_all) ?_
  refine tl_guard rfl rfl rfl ?_
  refine tl_q rfl (ev_move rfl) ?_
  refine tl_guard rfl rfl rfl ?_
  refine tl_q rfl (ev_geq rfl rfl) ?_
  refine tl_q rfl (ev_pick_true rfl rfl) ?_
  refine tl_q rfl (ev_move rfl) ?_
  refine tl_is 18 (c := true) rfl (by first | rfl | (simp; done) | (simp; omega) | simp_all) ?_
  refine tl_guard rfl rfl rfl ?_
  refine tl_q rfl (ev_move rfl) ?_
  refine tl_guard rfl rfl rfl ?_
  refine tl_q rfl (ev_len_str str_9 rfl) ?_
  refine tl_guard rfl rfl rfl ?_
  refine tl_q rfl (ev_leq rfl rfl) ?_
  refine tl_q rfl (ev_pick_true rfl rfl) ?_
  refine tl_q rfl (ev_move rfl) ?_
  refine tl_is 23 (c := true) rfl (by first | rfl | (simp; done) | (simp; omega) | simp_all) ?_
  refine tl_guard rfl rfl rfl ?_
  refine tl_q rfl (ev_move rfl) ?_
  refine tl_guard rfl rfl rfl ?_
  refine tl_e (eff_call rfl rfl body_10 rfl (by repeat (first | exact Frm.nil | exact Take.here | apply Take.there | apply Frm.cons)) (Itoa_ct _ (by omega) (by omega))) ?_
  rintro _ _ ⟨v25, _, ⟨rfl, rfl⟩, rfl, rfl⟩
  refine tl_guard rfl rfl rfl ?_
  refine tl_q rfl (ev_move rfl) ?_
  refine tl_guard rfl rfl rfl ?_
  refine tl_q rfl (ev_seql rfl rfl) ?_
  refine tl_q rfl (ev_pick_true rfl rfl) ?_
  refine tl_q rfl (ev_assign rfl) ?_
  refine tl_q rfl (ev_assign rfl) ?_
  refine tl_nil ?_
  refine te_code ?_
  refine t_ret ?_
  refine te_ret_k (pre := [powA]) (res2 rfl rfl rfl) (by repeat (first | exact Frm.nil | exact Take.here | apply Take.there | apply Frm.cons)) ?_
  exact ⟨by simp, rfl⟩

theorem byLevel_ct (n : Int) (h0 : 0 ≤ n) (h1 : n ≤ 5) : CT Tryz.prog 135 #[.string (itoaB n)] [powA] (fun v M => ∃ bl, v = .tuple #[.func (.func 183) #[] #[.pointer (some ⟨bl, 0, none⟩)], .bool true] ∧ M = [blk bl (.cells [.int .i64 n].toArray 3 (0, 0)), powA]) := by
  refine t_fun (vs := [.string (itoaB n)]) (n := 17) Tryz.func135 rfl Tryz.ntmps135 rfl fun w0 F => ?_
  refine t_seq ?_
  refine t_region ?_
  refine tl_q rfl (ev_assign rfl) ?_
  refine tl_q rfl (ev_assign rfl) ?_
  refine tl_nil ?_
  refine te_code ?_
  refine t_seq ?_
  refine t_region ?_
  refine tl_q rfl (ev_move rfl) ?_
  refine tl_e (eff_call rfl rfl body_84 rfl (by repeat (first | exact Frm.nil | exact Take.here | apply Take.there | apply Frm.cons)) (number_ct _ (by omega) (by omega))) ?_
  rintro _ _ ⟨v8, _, ⟨rfl, rfl⟩, rfl, rfl⟩
  refine tl_q rfl (ev_move rfl) ?_
  refine tl_q rfl (ev_extract rfl rfl) ?_
  refine tl_q rfl (ev_extract rfl rfl) ?_
  refine tl_e (eff_alloc rfl zero_3 rfl) ?_
  rintro _ _ ⟨b4, rfl, rfl⟩
  refine tl_e (eff_store rfl rfl rfl rfl sz_3 (by first | (simp [Flat]; done) | exact flatS _ | exact flatB _ | exact flatTick _ | exact flatRow _ | exact flatEvt _ | exact flatI _) (by repeat (first | exact Upd.here | apply Upd.there)) (by repeat (first | exact LPut.nil | apply LPut.cons | apply LPut.succ))) ?_
  rintro _ _ ⟨rfl, rfl⟩
  refine tl_q rfl (ev_assign rfl) ?_
  refine tl_nil ?_
  refine te_code ?_
  refine t_seq ?_
  refine t_drawn_all follows ?_
  refine tr_q 0 rfl (by kernel_rfl) (by kernel_rfl) (by kernel_rfl) rfl (by intro _ h; repeat (first | exact h | replace h := Hold.drop h)) (ev_makeFunc rfl rfl) ?_
  refine tr_q 1 rfl (by kernel_rfl) (by kernel_rfl) (by kernel_rfl) rfl (by intro _ h; repeat (first | exact h | replace h := Hold.drop h)) (ev_move rfl) ?_
  refine tr_q 2 rfl (by kernel_rfl) (by kernel_rfl) (by kernel_rfl) rfl (by intro _ h; repeat (first | exact h | replace h := Hold.drop h)) (ev_move rfl) ?_
  refine tr_q 6 rfl (by kernel_rfl) (by kernel_rfl) (by kernel_rfl) rfl (by intro _ h; repeat (first | exact h | replace h := Hold.drop h)) (ev_assign rfl) ?_
  refine tr_is 13 (c := true) rfl (by first | rfl | (simp; done) | (simp; omega) | simp_all) ?_
  refine tr_qg 3 rfl (by kernel_rfl) (by kernel_rfl) (by kernel_rfl) rfl rfl rfl rfl (by intro _ h; repeat (first | exact h | replace h := Hold.drop h)) (ev_load sc_3 rfl (by first | (left; (repeat (first | exact List.Mem.head _ | apply List.Mem.tail)); done) | (right; (repeat (first | exact List.Mem.head _ | apply List.Mem.tail)); done)) rfl) ?_
  refine tr_qg 4 rfl (by kernel_rfl) (by kernel_rfl) (by kernel_rfl) rfl rfl rfl rfl (by intro _ h; repeat (first | exact h | replace h := Hold.drop h)) (ev_leq rfl rfl) ?_
  refine tr_q 5 rfl (by kernel_rfl) (by kernel_rfl) (by kernel_rfl) rfl (by intro _ h; repeat (first | exact h | replace h := Hold.drop h)) (ev_pick_true rfl rfl) ?_
  refine tr_q 7 rfl (by kernel_rfl) (by kernel_rfl) (by kernel_rfl) rfl (by intro _ h; repeat (first | exact h | replace h := Hold.drop h)) (ev_assign rfl) ?_
  refine tr_done (by kernel_rfl) ?_
  refine te_code ?_
  refine t_ret ?_
  refine te_ret_k (pre := [blk _ (.cells [.int .i64 n].toArray 3 (0, 0)), powA]) (res2 rfl rfl rfl) (by repeat (first | exact Frm.nil | exact Take.here | apply Take.there | apply Frm.cons)) ?_
  exact ⟨_, by simp [h1], rfl⟩

theorem ofLevel_ct (n : Int) (h0 : 0 ≤ n) (h1 : n ≤ 5) : CT Tryz.prog 85 #[.string (⟨#[108, 101, 118, 101, 108]⟩ : ByteArray), .string (itoaB n)] [powA] (fun v M => ∃ bl, v = .tuple #[.func (.func 183) #[] #[.pointer (some ⟨bl, 0, none⟩)], .bool true] ∧ M = [blk bl (.cells [.int .i64 n].toArray 3 (0, 0)), powA]) := by
  refine t_fun (vs := [.string (⟨#[108, 101, 118, 101, 108]⟩ : ByteArray), .string (itoaB n)]) (n := 40) Tryz.func85 rfl Tryz.ntmps85 rfl fun w0 F => ?_
  refine t_seq ?_
  refine t_region ?_
  refine tl_e (eff_box rfl rfl rfl) ?_
  rintro _ _ ⟨b3, rfl, rfl⟩
  refine tl_q rfl (ev_assign rfl) ?_
  refine tl_q rfl (ev_assign rfl) ?_
  refine tl_nil ?_
  refine te_code ?_
  refine t_seq ?_
  refine t_seq ?_
  refine t_region ?_
  refine tl_q rfl (ev_move rfl) ?_
  refine tl_nil ?_
  refine te_code ?_
  refine t_block ?_
  refine t_seq ?_
  refine t_seq ?_
  refine t_region ?_
  refine tl_q rfl (ev_seql rfl rfl) ?_
  refine tl_q rfl (ev_assign rfl) ?_
  refine tl_nil ?_
  refine te_code ?_
  refine t_cond_no rfl (by first | rfl | (simp; done) | (simp; omega) | simp_all) ?_
  refine t_seq ?_
  refine t_region ?_
  refine tl_q rfl (ev_seql rfl rfl) ?_
  refine tl_q rfl (ev_assign rfl) ?_
  refine tl_nil ?_
  refine te_code ?_
  refine t_cond_no rfl (by first | rfl | (simp; done) | (simp; omega) | simp_all) ?_
  refine t_seq ?_
  refine t_region ?_
  refine tl_q rfl (ev_seql rfl rfl) ?_
  refine tl_q rfl (ev_assign rfl) ?_
  refine tl_nil ?_
  refine te_code ?_
  refine t_cond_no rfl (by first | rfl | (simp; done) | (simp; omega) | simp_all) ?_
  refine t_region ?_
  refine tl_q rfl (ev_seql rfl rfl) ?_
  refine tl_q rfl (ev_assign rfl) ?_
  refine tl_nil ?_
  refine te_code ?_
  refine t_cond_no rfl (by first | rfl | (simp; done) | (simp; omega) | simp_all) ?_
  refine t_seq ?_
  refine t_region ?_
  refine tl_q rfl (ev_seql rfl rfl) ?_
  refine tl_q rfl (ev_assign rfl) ?_
  refine tl_nil ?_
  refine te_code ?_
  refine t_cond_yes rfl (by first | rfl | (simp; done) | (simp; omega) | simp_all) ?_
  refine t_seq ?_
  refine t_region ?_
  refine tl_q rfl (ev_load sc_9 rfl (by first | (left; (repeat (first | exact List.Mem.head _ | apply List.Mem.tail)); done) | (right; (repeat (first | exact List.Mem.head _ | apply List.Mem.tail)); done)) rfl) ?_
  refine tl_e (eff_call rfl rfl body_135 rfl (by repeat (first | exact Frm.nil | exact Take.here | apply Take.there | apply Frm.cons)) (byLevel_ct _ (by omega) (by omega))) ?_
  rintro _ _ ⟨v20, _, ⟨bl, rfl, rfl⟩, rfl, rfl⟩
  refine tl_q rfl (ev_extract rfl rfl) ?_
  refine tl_q rfl (ev_extract rfl rfl) ?_
  refine tl_q rfl (ev_assign rfl) ?_
  refine tl_q rfl (ev_assign rfl) ?_
  refine tl_nil ?_
  refine te_code ?_
  refine t_ret ?_
  refine te_ret_k (pre := [blk bl (.cells [.int .i64 n].toArray 3 (0, 0)), powA]) (res2 rfl rfl rfl) (by repeat (first | exact Frm.nil | exact Take.here | apply Take.there | apply Frm.cons)) ?_
  exact ⟨_, rfl, rfl⟩

theorem byLevel1_ct (bl : Nat) (n : Int) (r : Row) : CT Tryz.prog 183 #[.agg (encRow r).toArray, .pointer (some ⟨bl, 0, none⟩)] [blk bl (.cells [.int .i64 n].toArray 3 (0, 0))] (fun v M => v = .bool (decide (r.e.level ≥ n)) ∧ M = [blk bl (.cells [.int .i64 n].toArray 3 (0, 0))]) := by
  refine t_fun (vs := [.agg (encRow r).toArray, .pointer (some ⟨bl, 0, none⟩)]) (n := 9) Tryz.func183 rfl Tryz.ntmps183 rfl fun w0 F => ?_
  refine t_seq ?_
  refine t_region ?_
  refine tl_e (eff_box rfl rfl rfl) ?_
  rintro _ _ ⟨b2, rfl, rfl⟩
  refine tl_q rfl (ev_assign rfl) ?_
  refine tl_nil ?_
  refine te_code ?_
  refine t_seq ?_
  refine t_region ?_
  refine tl_q rfl (ev_fieldAddr fa_45_1 rfl rfl) ?_
  refine tl_q rfl (ev_fieldAddr fa_43_3 rfl rfl) ?_
  refine tl_q rfl (ev_load sc_3 rfl (by first | (left; (repeat (first | exact List.Mem.head _ | apply List.Mem.tail)); done) | (right; (repeat (first | exact List.Mem.head _ | apply List.Mem.tail)); done)) rfl) ?_
  refine tl_q rfl (ev_load sc_3 rfl (by first | (left; (repeat (first | exact List.Mem.head _ | apply List.Mem.tail)); done) | (right; (repeat (first | exact List.Mem.head _ | apply List.Mem.tail)); done)) rfl) ?_
  refine tl_q rfl (ev_geq rfl rfl) ?_
  refine tl_q rfl (ev_assign rfl) ?_
  refine tl_nil ?_
  refine te_code ?_
  refine t_ret ?_
  refine te_ret_k (pre := [blk bl (.cells [.int .i64 n].toArray 3 (0, 0))]) (res1 rfl rfl) (by repeat (first | exact Frm.nil | exact Take.here | apply Take.there | apply Frm.cons)) ?_
  exact ⟨rfl, rfl⟩

theorem rows1_ct (b7 bl : Nat) (n : Int) (r : Row) : CT Tryz.prog 139 #[.func (.func 183) #[] #[.pointer (some ⟨bl, 0, none⟩)], .pointer (some ⟨b7, 0, none⟩)] [blk b7 (.cells (encRow r).toArray 45 (0, 0)), blk bl (.cells [.int .i64 n].toArray 3 (0, 0))] (fun v M => v = .bool (!(decide (r.e.level ≥ n))) ∧ M = [blk b7 (.cells (encRow r).toArray 45 (0, 0)), blk bl (.cells [.int .i64 n].toArray 3 (0, 0))]) := by
  refine t_fun (vs := [.func (.func 183) #[] #[.pointer (some ⟨bl, 0, none⟩)], .pointer (some ⟨b7, 0, none⟩)]) (n := 8) Tryz.func139 rfl Tryz.ntmps139 rfl fun w0 F => ?_
  refine t_seq ?_
  refine t_region ?_
  refine tl_q rfl (ev_assign rfl) ?_
  refine tl_nil ?_
  refine te_code ?_
  refine t_seq ?_
  refine t_region ?_
  refine tl_q rfl (ev_move rfl) ?_
  refine tl_q rfl (ev_load_agg ag_45 rfl (by first | (left; (repeat (first | exact List.Mem.head _ | apply List.Mem.tail)); done) | (right; (repeat (first | exact List.Mem.head _ | apply List.Mem.tail)); done)) (by repeat (first | exact LDrop.zero | apply LDrop.succ)) (by repeat (first | exact LTake.zero | apply LTake.succ))) ?_
  refine tl_e (eff_callv rfl rfl rfl body_183 rfl (by repeat (first | exact Frm.nil | exact Take.here | apply Take.there | apply Frm.cons)) (byLevel1_ct bl n r)) ?_
  rintro _ _ ⟨_, _, ⟨rfl, rfl⟩, rfl, rfl⟩
  refine tl_q rfl (ev_not rfl) ?_
  refine tl_q rfl (ev_assign rfl) ?_
  refine tl_nil ?_
  refine te_code ?_
  refine t_ret ?_
  refine te_ret_k (pre := [blk b7 (.cells (encRow r).toArray 45 (0, 0)), blk bl (.cells [.int .i64 n].toArray 3 (0, 0))]) (res1 rfl rfl) (by repeat (first | exact Frm.nil | exact Take.here | apply Take.there | apply Frm.cons)) ?_
  exact ⟨rfl, rfl⟩

theorem IndexFuncT1_ct (tv : Value) (b7 bl : Nat) (n : Int) (r : Row) : CT Tryz.prog 186 #[tv, .func (.func 139) #[] #[.pointer (some ⟨b7, 0, none⟩)]] [blk b7 (.cells (encRow r).toArray 45 (0, 0)), arr 187 1 encF tv [bl], blk bl (.cells [.int .i64 n].toArray 3 (0, 0))] (fun v M => v = .int .i64 (if r.e.level ≥ n then -1 else 0) ∧ M = [blk b7 (.cells (encRow r).toArray 45 (0, 0)), arr 187 1 encF tv [bl], blk bl (.cells [.int .i64 n].toArray 3 (0, 0))]) := by
  refine t_fun (vs := [tv, .func (.func 139) #[] #[.pointer (some ⟨b7, 0, none⟩)]]) (n := 19) Tryz.func186 rfl Tryz.ntmps186 rfl fun w0 F => ?_
  refine t_shape (enc := encF) (sz := 1) (v := tv) (xs := [bl]) (by first | exact HasArr.own (by repeat (first | exact List.Mem.head _ | apply List.Mem.tail)) | exact HasArr.sh (by repeat (first | exact List.Mem.head _ | apply List.Mem.tail))) (by intro _; rfl) (fun hsh => ?_)
  refine t_seq ?_
  refine t_region ?_
  refine tl_q rfl (ev_assign rfl) ?_
  refine tl_nil ?_
  refine te_code ?_
  refine t_seq ?_
  refine t_seq ?_
  refine t_region ?_
  refine tl_q rfl (ev_move rfl) ?_
  refine tl_q rfl (ev_len_sh sl_140 rfl (by assumption)) ?_
  refine tl_q rfl (ev_move rfl) ?_
  refine tl_nil ?_
  refine te_code ?_
  refine t_block ?_
  refine t_loop (α := Nat) (fun i => [(8, .int .i64 (i : Int)), (7, .int .i64 1), (0, tv), (1, .func (.func 139) #[] #[.pointer (some ⟨b7, 0, none⟩)])]) (fun _ => [blk b7 (.cells (encRow r).toArray 45 (0, 0)), arr 187 1 encF tv [bl], blk bl (.cells [.int .i64 n].toArray 3 (0, 0))]) (fun i => 2 - i) (fun i => i = 0 ∨ (i = 1 ∧ r.e.level ≥ n)) 0 (.inl rfl) (by exact sub_cons rfl (sub_cons rfl (sub_cons rfl (sub_cons rfl (sub_nil))))) (fun _ h => hold_keep (by repeat (first | exact Frm.nil | exact Take.here | apply Take.there | apply Frm.cons)) h) ?_
  rintro i hI
  try dsimp only
  refine t_seq ?_
  refine t_region ?_
  refine tl_q rfl (ev_lss rfl rfl) ?_
  refine tl_nil ?_
  refine te_code ?_
  refine t_seq ?_
  refine t_cond_dec rfl (fun h0 => ?_) (fun h0 => ?_)
  · have hi0 : i = 0 := by omega
    have hu : ([bl] : List Nat)[i]? = some bl := by rw [hi0]; rfl
    refine t_skip ?_
    refine te_code ?_
    refine t_seq ?_
    refine t_block ?_
    refine t_seq ?_
    refine t_region ?_
    refine tl_q rfl (ev_move rfl) ?_
    refine tl_q rfl (ev_assign rfl) ?_
    refine tl_nil ?_
    refine te_code ?_
    refine t_seq ?_
    refine t_region ?_
    refine tl_q rfl (ev_move rfl) ?_
    refine tl_q rfl (ev_move rfl) ?_
    refine tl_q rfl (ev_move rfl) ?_
    refine tl_q rfl (ev_at_int sl_140 rfl rfl (by assumption) (by omega) (by omega)) ?_
    refine tl_q rfl (ev_load_at0 sc_187 rfl (by first | exact HasArr.own (by repeat (first | exact List.Mem.head _ | apply List.Mem.tail)) | exact HasArr.sh (by repeat (first | exact List.Mem.head _ | apply List.Mem.tail))) (by intro _; rfl) (by assumption) (by rfl)) ?_
    refine tl_e (eff_callv rfl rfl rfl body_139 rfl (by repeat (first | exact Frm.nil | exact Take.here | apply Take.there | apply Frm.cons)) (rows1_ct b7 bl n r)) ?_
    rintro _ _ ⟨_, _, ⟨rfl, rfl⟩, rfl, rfl⟩
    refine tl_nil ?_
    refine te_code ?_
    refine t_cond rfl (fun h1 => ?_) (fun h1 => ?_)
    · refine t_seq ?_
      refine t_region ?_
      refine tl_q rfl (ev_move rfl) ?_
      refine tl_q rfl (ev_assign rfl) ?_
      refine tl_nil ?_
      refine te_code ?_
      refine t_ret ?_
      refine te_ret_k (pre := [blk b7 (.cells (encRow r).toArray 45 (0, 0)), arr 187 1 encF tv [bl], blk bl (.cells [.int .i64 n].toArray 3 (0, 0))]) (res1 rfl rfl) (by repeat (first | exact Frm.nil | exact Take.here | apply Take.there | apply Frm.cons)) ?_
      refine ⟨?_, rfl⟩
      rw [if_neg (by simpa using h1), hi0]; rfl
    · refine t_skip ?_
      refine te_blk ?_
      refine te_code ?_
      refine t_region ?_
      refine tl_q rfl (ev_add' rfl rfl (by omega)) ?_
      refine tl_q rfl (ev_move rfl) ?_
      refine tl_nil ?_
      exact te_round (i + 1) (by exact sub_cons rfl (sub_cons rfl (sub_cons rfl (sub_cons rfl (sub_nil))))) (fun _ h => hold_keep (by repeat (first | exact Frm.nil | exact Take.here | apply Take.there | apply Frm.cons)) h) (by right; exact ⟨by omega, by simpa using h1⟩) (by omega)
  · refine t_exit ?_
    refine te_exit_code ?_
    refine te_exit_rnd ?_
    refine te_exit_here ?_
    refine te_code ?_
    refine t_seq ?_
    refine t_region ?_
    refine tl_q rfl (ev_assign rfl) ?_
    refine tl_nil ?_
    refine te_code ?_
    refine t_ret ?_
    refine te_ret_k (pre := [blk b7 (.cells (encRow r).toArray 45 (0, 0)), arr 187 1 encF tv [bl], blk bl (.cells [.int .i64 n].toArray 3 (0, 0))]) (res1 rfl rfl) (by repeat (first | exact Frm.nil | exact Take.here | apply Take.there | apply Frm.cons)) ?_
    refine ⟨?_, rfl⟩
    rw [if_pos (by rcases hI with rfl | ⟨_, h⟩; omega; exact h)]

theorem ContainsFuncT1_ct (tv : Value) (b7 bl : Nat) (n : Int) (r : Row) : CT Tryz.prog 138 #[tv, .func (.func 139) #[] #[.pointer (some ⟨b7, 0, none⟩)]] [blk b7 (.cells (encRow r).toArray 45 (0, 0)), arr 187 1 encF tv [bl], blk bl (.cells [.int .i64 n].toArray 3 (0, 0))] (fun v M => v = .bool (!(decide (r.e.level ≥ n))) ∧ M = [blk b7 (.cells (encRow r).toArray 45 (0, 0)), arr 187 1 encF tv [bl], blk bl (.cells [.int .i64 n].toArray 3 (0, 0))]) := by
  refine t_fun (vs := [tv, .func (.func 139) #[] #[.pointer (some ⟨b7, 0, none⟩)]]) (n := 9) Tryz.func138 rfl Tryz.ntmps138 rfl fun w0 F => ?_
  refine t_seq ?_
  refine t_region ?_
  refine tl_q rfl (ev_assign rfl) ?_
  refine tl_nil ?_
  refine te_code ?_
  refine t_seq ?_
  refine t_region ?_
  refine tl_q rfl (ev_move rfl) ?_
  refine tl_q rfl (ev_move rfl) ?_
  refine tl_e (eff_call rfl rfl body_186 rfl (by repeat (first | exact Frm.nil | exact Take.here | apply Take.there | apply Frm.cons)) (IndexFuncT1_ct _ _ _ _ _)) ?_
  rintro _ _ ⟨v7, _, ⟨rfl, rfl⟩, rfl, rfl⟩
  refine tl_q rfl (ev_geq rfl rfl) ?_
  refine tl_q rfl (ev_assign rfl) ?_
  refine tl_nil ?_
  refine te_code ?_
  refine t_ret ?_
  refine te_ret_k (pre := [blk b7 (.cells (encRow r).toArray 45 (0, 0)), arr 187 1 encF tv [bl], blk bl (.cells [.int .i64 n].toArray 3 (0, 0))]) (res1 rfl rfl) (by repeat (first | exact Frm.nil | exact Take.here | apply Take.there | apply Frm.cons)) ?_
  refine ⟨?_, rfl⟩
  by_cases h : r.e.level ≥ n <;> simp [h]

theorem IndexFuncT0_ct (f : Value) : CT Tryz.prog 186 #[.slice none 0 0, f] [] (fun v M => v = .int .i64 (-1) ∧ M = []) := by
  refine t_fun (vs := [.slice none 0 0, f]) (n := 19) Tryz.func186 rfl Tryz.ntmps186 rfl fun w0 F => ?_
  refine t_seq ?_
  refine t_region ?_
  refine tl_q rfl (ev_assign rfl) ?_
  refine tl_nil ?_
  refine te_code ?_
  refine t_seq ?_
  refine t_seq ?_
  refine t_region ?_
  refine tl_q rfl (ev_move rfl) ?_
  refine tl_q rfl (ev_len_slice ⟨_, sl_140.1⟩ rfl) ?_
  refine tl_q rfl (ev_move rfl) ?_
  refine tl_nil ?_
  refine te_code ?_
  refine t_block ?_
  refine t_loop0 ?_
  refine t_seq ?_
  refine t_region ?_
  refine tl_q rfl (ev_lss rfl rfl) ?_
  refine tl_nil ?_
  refine te_code ?_
  refine t_seq ?_
  refine t_cond_no rfl (by first | rfl | (simp; done) | (simp; omega) | simp_all) ?_
  refine t_exit ?_
  refine te_exit_code ?_
  refine te_exit_rnd ?_
  refine te_exit_here ?_
  refine te_code ?_
  refine t_seq ?_
  refine t_region ?_
  refine tl_q rfl (ev_assign rfl) ?_
  refine tl_nil ?_
  refine te_code ?_
  refine t_ret ?_
  refine te_ret_k (pre := []) (res1 rfl rfl) (by repeat (first | exact Frm.nil | exact Take.here | apply Take.there | apply Frm.cons)) ?_
  exact ⟨rfl, rfl⟩

theorem ContainsFuncT0_ct (f : Value) : CT Tryz.prog 138 #[.slice none 0 0, f] [] (fun v M => v = .bool false ∧ M = []) := by
  refine t_fun (vs := [.slice none 0 0, f]) (n := 9) Tryz.func138 rfl Tryz.ntmps138 rfl fun w0 F => ?_
  refine t_seq ?_
  refine t_region ?_
  refine tl_q rfl (ev_assign rfl) ?_
  refine tl_nil ?_
  refine te_code ?_
  refine t_seq ?_
  refine t_region ?_
  refine tl_q rfl (ev_move rfl) ?_
  refine tl_q rfl (ev_move rfl) ?_
  refine tl_e (eff_call rfl rfl body_186 rfl (by repeat (first | exact Frm.nil | exact Take.here | apply Take.there | apply Frm.cons)) (IndexFuncT0_ct _)) ?_
  rintro _ _ ⟨v7, _, ⟨rfl, rfl⟩, rfl, rfl⟩
  refine tl_q rfl (ev_geq rfl rfl) ?_
  refine tl_q rfl (ev_assign rfl) ?_
  refine tl_nil ?_
  refine te_code ?_
  refine t_ret ?_
  refine te_ret_k (pre := []) (res1 rfl rfl) (by repeat (first | exact Frm.nil | exact Take.here | apply Take.there | apply Frm.cons)) ?_
  exact ⟨rfl, rfl⟩

theorem read0_ct (wv : Value) : CT Tryz.prog 49 #[wv] [iarr 1 encS wv []] (fun v M => ∃ bf, v = .tuple #[.agg #[.slice none 0 0, .func (.func 131) #[] #[.pointer (some ⟨bf, 0, none⟩)], .int .i64 (-1)], .bool true] ∧ M = [blk bf (.cells #[.func (.func 127) #[] #[]] 183 (0, 0))]) := by
  refine t_fun (vs := [wv]) (n := 88) Tryz.func49 rfl Tryz.ntmps49 rfl fun w0 F => ?_
  refine t_shape (enc := encS) (sz := 1) (v := wv) (xs := []) (by first | exact HasArr.own (by repeat (first | exact List.Mem.head _ | apply List.Mem.tail)) | exact HasArr.sh (by repeat (first | exact List.Mem.head _ | apply List.Mem.tail))) (by intro _; rfl) (fun hsh => ?_)
  refine t_seq ?_
  refine t_region ?_
  refine tl_e (eff_alloc rfl zero_142 rfl) ?_
  rintro _ _ ⟨b2, rfl, rfl⟩
  refine tl_q rfl (ev_assign rfl) ?_
  refine tl_nil ?_
  refine te_code ?_
  refine t_seq ?_
  refine t_region ?_
  refine tl_q rfl (ev_build st_142 rfl (by repeat (first | exact FillR.nil | exact LPut.nil | apply LPut.cons | apply LPut.succ | apply FillR.cons rfl rfl rfl))) ?_
  refine tl_e (eff_alloc rfl zero_142 rfl) ?_
  rintro _ _ ⟨b4, rfl, rfl⟩
  refine tl_e (eff_store rfl rfl rfl rfl sz_142 (by first | (simp [Flat]; done) | exact flatS _ | exact flatB _ | exact flatTick _ | exact flatRow _ | exact flatEvt _ | exact flatI _) (by repeat (first | exact Upd.here | apply Upd.there)) (by repeat (first | exact LPut.nil | apply LPut.cons | apply LPut.succ))) ?_
  rintro _ _ ⟨rfl, rfl⟩
  refine tl_nil ?_
  refine te_code ?_
  refine t_seq ?_
  refine t_seq ?_
  refine t_region ?_
  refine tl_q rfl (ev_move rfl) ?_
  refine tl_q rfl (ev_len_sh sl_38 rfl (by assumption)) ?_
  refine tl_q rfl (ev_rem' rfl rfl (by omega) (by omega)) ?_
  refine tl_q rfl (ev_neq rfl rfl) ?_
  refine tl_nil ?_
  refine te_code ?_
  refine t_cond_no rfl (by first | rfl | (simp; done) | (simp; omega) | simp_all) ?_
  refine t_skip ?_
  refine te_code ?_
  refine t_seq ?_
  refine t_seq ?_
  refine t_region ?_
  refine tl_q rfl (ev_assign rfl) ?_
  refine tl_nil ?_
  refine te_code ?_
  refine t_block ?_
  refine t_loop0 ?_
  refine t_seq ?_
  refine t_seq ?_
  refine t_region ?_
  refine tl_q rfl (ev_move rfl) ?_
  refine tl_q rfl (ev_move rfl) ?_
  refine tl_q rfl (ev_len_sh sl_38 rfl (by assumption)) ?_
  refine tl_q rfl (ev_lss rfl rfl) ?_
  refine tl_nil ?_
  refine te_code ?_
  refine t_cond_no rfl (by first | rfl | (simp; done) | (simp; omega) | simp_all) ?_
  refine t_exit ?_
  refine te_exit_code ?_
  refine te_exit_rnd ?_
  refine te_exit_here ?_
  refine te_code ?_
  refine t_seq ?_
  refine t_seq ?_
  refine t_region ?_
  refine tl_q rfl (ev_fieldAddr fa_142_1 rfl rfl) ?_
  refine tl_q rfl (ev_load sc_95 rfl (by first | (left; (repeat (first | exact List.Mem.head _ | apply List.Mem.tail)); done) | (right; (repeat (first | exact List.Mem.head _ | apply List.Mem.tail)); done)) rfl) ?_
  refine tl_q rfl (ev_fun_eql isfun_95 rfl rfl rfl) ?_
  refine tl_nil ?_
  refine te_code ?_
  refine t_cond_yes rfl (by first | rfl | (simp; done) | (simp; omega) | simp_all) ?_
  refine t_region ?_
  refine tl_e (eff_call rfl rfl body_83 rfl (by repeat (first | exact Frm.nil | exact Take.here | apply Take.there | apply Frm.cons)) (by_ct (⟨#[105, 100]⟩ : ByteArray) 127 (by rfl))) ?_
  rintro _ _ ⟨v85, _, ⟨bf, rfl, rfl⟩, rfl, rfl⟩
  refine tl_q rfl (ev_fieldAddr fa_142_1 rfl rfl) ?_
  refine tl_e (eff_store rfl rfl rfl rfl sz_95 (by first | (simp [Flat]; done) | exact flatS _ | exact flatB _ | exact flatTick _ | exact flatRow _ | exact flatEvt _ | exact flatI _) (by repeat (first | exact Upd.here | apply Upd.there)) (by repeat (first | exact LPut.nil | apply LPut.cons | apply LPut.succ))) ?_
  rintro _ _ ⟨rfl, rfl⟩
  refine tl_nil ?_
  refine te_code ?_
  refine t_seq ?_
  refine t_region ?_
  refine tl_q rfl (ev_load_agg ag_142 rfl (by first | (left; (repeat (first | exact List.Mem.head _ | apply List.Mem.tail)); done) | (right; (repeat (first | exact List.Mem.head _ | apply List.Mem.tail)); done)) (by repeat (first | exact LDrop.zero | apply LDrop.succ)) (by repeat (first | exact LTake.zero | apply LTake.succ))) ?_
  refine tl_e (eff_store rfl rfl rfl rfl sz_142 (by first | (simp [Flat]; done) | exact flatS _ | exact flatB _ | exact flatTick _ | exact flatRow _ | exact flatEvt _ | exact flatI _) (by repeat (first | exact Upd.here | apply Upd.there)) (by repeat (first | exact LPut.nil | apply LPut.cons | apply LPut.succ))) ?_
  rintro _ _ ⟨rfl, rfl⟩
  refine tl_q rfl (ev_assign rfl) ?_
  refine tl_nil ?_
  refine te_code ?_
  refine t_ret ?_
  refine te_ret_k (pre := [blk bf (.cells #[.func (.func 127) #[] #[]] 183 (0, 0))]) (resx rfl (RL.cons (resIs_cell (x := .tmp 0) (ev_load_agg ag_142 rfl (by first | (left; (repeat (first | exact List.Mem.head _ | apply List.Mem.tail)); done) | (right; (repeat (first | exact List.Mem.head _ | apply List.Mem.tail)); done)) (by repeat (first | exact LDrop.zero | apply LDrop.succ)) (by repeat (first | exact LTake.zero | apply LTake.succ))) _ rfl) (RL.cons (resIs_tmp rfl) (RL.nil)))) (by repeat (first | exact Frm.nil | exact Take.here | apply Take.there | apply Frm.cons)) ?_
  exact ⟨_, rfl, rfl⟩

end Go.SL
