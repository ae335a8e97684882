/- Contract of query.read at the example. -/
import Derived.Test.YtimhhegebkganaaGreatDoorProg
import Derived.Test.YtimhhegebkganaaGreatDoorGZ
set_option linter.unusedSimpArgs false
set_option linter.unusedVariables false
set_option maxRecDepth 4000
namespace Go.SL
open Go.Proofs

theorem body_85 : (Tryz.prog.funcs[85]?).map (fun fn => fn.body.isSome && !(fn.name == "runtime.NumGoroutine")) = some true := by kernel_rfl
theorem fa_142_0 : FldAt Tryz.prog 142 0 0 := fun a w => by kernel_rfl
theorem sc_140 : IsSc Tryz.prog 140 := isSc_of Tryz.underlying140 rfl
theorem bs_140_1 : SliceIs Tryz.prog 140 1 187 1 [.nilFunc] := sliceIs_of Tryz.underlying140 info_187 rfl rfl (by decide) (by kernel_rfl)
theorem zero_187 : ZeroIs Tryz.prog 187 (.nilFunc) := zeroIs_of info_187 rfl
theorem by_187 : ∀ w, ∃ i, (typeInfo 187).run Tryz.prog w = .ok i w ∧ i.bytes = 8 := bytes_of info_187 rfl
theorem sz_140 : SizeIs Tryz.prog 140 1 := sizeIs_of info_140 rfl
theorem isfun_183 : IsFun Tryz.prog 183 := ⟨_, _, _, Tryz.underlying183⟩
theorem fa_142_2 : FldAt Tryz.prog 142 2 2 := fun a w => by kernel_rfl

theorem read6_ct (wv : Value) : CT Tryz.prog 49 #[wv] [iarr 1 encS wv [(⟨#[108, 101, 118, 101, 108]⟩ : ByteArray), itoaB 4, (⟨#[111, 114, 100, 101, 114]⟩ : ByteArray), (⟨#[108, 97, 115, 116]⟩ : ByteArray), (⟨#[108, 105, 109, 105, 116]⟩ : ByteArray), itoaB 10], powA] (fun v M => ∃ bl tv bf, v = .tuple #[.agg #[tv, .func (.func 131) #[] #[.pointer (some ⟨bf, 0, none⟩)], .int .i64 10], .bool true] ∧ M = [arr 187 1 encF tv [bl], blk bl (.cells [.int .i64 4].toArray 3 (0, 0)), blk bf (.cells #[.func (.func 128) #[] #[]] 183 (0, 0)), powA]) := by
  refine t_fun (vs := [wv]) (n := 88) Tryz.func49 rfl Tryz.ntmps49 rfl fun w0 F => ?_
  refine t_shape (enc := encS) (sz := 1) (v := wv) (xs := [(⟨#[108, 101, 118, 101, 108]⟩ : ByteArray), itoaB 4, (⟨#[111, 114, 100, 101, 114]⟩ : ByteArray), (⟨#[108, 97, 115, 116]⟩ : ByteArray), (⟨#[108, 105, 109, 105, 116]⟩ : ByteArray), itoaB 10]) (by first | exact HasArr.own (by repeat (first | exact List.Mem.head _ | apply List.Mem.tail)) | exact HasArr.sh (by repeat (first | exact List.Mem.head _ | apply List.Mem.tail))) (by intro _; rfl) (fun hsh => ?_)
  have hsh : Shape wv 6 := hsh
  refine t_seq ?_
  refine t_region ?_
  refine tl_e (eff_alloc rfl zero_142 rfl) ?_
  rintro _ _ ⟨b2, rfl, rfl⟩
  refine tl_q rfl (ev_assign rfl) ?_
  refine tl_nil ?_
  refine te_code ?_
  refine t_seq ?_
  refine t_region ?_
  refine tl_q rfl (ev_build st_142 rfl (by repeat (first | exact FillR.nil | exact LPut.nil | apply LPut.cons | apply LPut.succ | apply FillR.cons rfl rfl rfl))) ?_
  refine tl_e (eff_alloc rfl zero_142 rfl) ?_
  rintro _ _ ⟨b4, rfl, rfl⟩
  refine tl_e (eff_store rfl rfl rfl rfl sz_142 (by first | (simp [Flat]; done) | exact flatS _ | exact flatB _ | exact flatTick _ | exact flatRow _ | exact flatEvt _ | exact flatI _) (by repeat (first | exact Upd.here | apply Upd.there)) (by repeat (first | exact LPut.nil | apply LPut.cons | apply LPut.succ))) ?_
  rintro _ _ ⟨rfl, rfl⟩
  refine tl_nil ?_
  refine te_code ?_
  refine t_seq ?_
  refine t_seq ?_
  refine t_region ?_
  refine tl_q rfl (ev_move rfl) ?_
  refine tl_q rfl (ev_len_sh sl_38 rfl (by assumption)) ?_
  refine tl_q rfl (ev_rem' rfl rfl (by omega) (by omega)) ?_
  refine tl_q rfl (ev_neq rfl rfl) ?_
  refine tl_nil ?_
  refine te_code ?_
  refine t_cond_no rfl (by first | rfl | (simp; done) | (simp; omega) | simp_all) ?_
  refine t_skip ?_
  refine te_code ?_
  refine t_seq ?_
  refine t_seq ?_
  refine t_region ?_
  refine tl_q rfl (ev_assign rfl) ?_
  refine tl_nil ?_
  refine te_code ?_
  refine t_block ?_
  refine t_loop (α := Nat × Nat × Value × Nat) (fun q => [(5, .int .i64 ((2 * q.1 : Nat) : Int)), (0, wv), (2, .pointer (some ⟨b2, 0, none⟩)), (4, .pointer (some ⟨b4, 0, none⟩))]) (fun q => match q.1 with
      | 0 => [blk b4 (.cells [.slice none 0 0, .nilFunc, .int .i64 (-1)].toArray 142 (0, 0)), blk b2 (.cells [.slice none 0 0, .nilFunc, .int .i64 0].toArray 142 (0, 0)), iarr 1 encS wv [(⟨#[108, 101, 118, 101, 108]⟩ : ByteArray), itoaB 4, (⟨#[111, 114, 100, 101, 114]⟩ : ByteArray), (⟨#[108, 97, 115, 116]⟩ : ByteArray), (⟨#[108, 105, 109, 105, 116]⟩ : ByteArray), itoaB 10], powA]
      | 1 => [blk b4 (.cells [q.2.2.1, .nilFunc, .int .i64 (-1)].toArray 142 (0, 0)), blk b2 (.cells [.slice none 0 0, .nilFunc, .int .i64 0].toArray 142 (0, 0)), iarr 1 encS wv [(⟨#[108, 101, 118, 101, 108]⟩ : ByteArray), itoaB 4, (⟨#[111, 114, 100, 101, 114]⟩ : ByteArray), (⟨#[108, 97, 115, 116]⟩ : ByteArray), (⟨#[108, 105, 109, 105, 116]⟩ : ByteArray), itoaB 10], powA, arr 187 1 encF q.2.2.1 [q.2.1], blk q.2.1 (.cells [.int .i64 4].toArray 3 (0, 0))]
      | 2 => [blk b4 (.cells [q.2.2.1, .func (.func 131) #[] #[.pointer (some ⟨q.2.2.2, 0, none⟩)], .int .i64 (-1)].toArray 142 (0, 0)), blk b2 (.cells [.slice none 0 0, .nilFunc, .int .i64 0].toArray 142 (0, 0)), iarr 1 encS wv [(⟨#[108, 101, 118, 101, 108]⟩ : ByteArray), itoaB 4, (⟨#[111, 114, 100, 101, 114]⟩ : ByteArray), (⟨#[108, 97, 115, 116]⟩ : ByteArray), (⟨#[108, 105, 109, 105, 116]⟩ : ByteArray), itoaB 10], powA, arr 187 1 encF q.2.2.1 [q.2.1], blk q.2.1 (.cells [.int .i64 4].toArray 3 (0, 0)), blk q.2.2.2 (.cells #[.func (.func 128) #[] #[]] 183 (0, 0))]
      | _ => [blk b4 (.cells [q.2.2.1, .func (.func 131) #[] #[.pointer (some ⟨q.2.2.2, 0, none⟩)], .int .i64 10].toArray 142 (0, 0)), blk b2 (.cells [.slice none 0 0, .nilFunc, .int .i64 0].toArray 142 (0, 0)), iarr 1 encS wv [(⟨#[108, 101, 118, 101, 108]⟩ : ByteArray), itoaB 4, (⟨#[111, 114, 100, 101, 114]⟩ : ByteArray), (⟨#[108, 97, 115, 116]⟩ : ByteArray), (⟨#[108, 105, 109, 105, 116]⟩ : ByteArray), itoaB 10], powA, arr 187 1 encF q.2.2.1 [q.2.1], blk q.2.1 (.cells [.int .i64 4].toArray 3 (0, 0)), blk q.2.2.2 (.cells #[.func (.func 128) #[] #[]] 183 (0, 0))]) (fun q => 4 - q.1) (fun q => q.1 = 0 ∨ q.1 = 1 ∨ q.1 = 2 ∨ q.1 = 3) (0, 0, .slice none 0 0, 0) (.inl rfl) (by exact sub_cons rfl (sub_cons rfl (sub_cons rfl (sub_cons rfl (sub_nil))))) (fun _ h => hold_keep (by repeat (first | exact Frm.nil | exact Take.here | apply Take.there | apply Frm.cons)) h) ?_
  rintro ⟨j, bl, tv, bf⟩ (rfl | rfl | rfl | rfl)
  try dsimp only
  all_goals (try dsimp only)
  · refine t_seq ?_
    refine t_seq ?_
    refine t_region ?_
    refine tl_q rfl (ev_move rfl) ?_
    refine tl_q rfl (ev_move rfl) ?_
    refine tl_q rfl (ev_len_sh sl_38 rfl (by assumption)) ?_
    refine tl_q rfl (ev_lss rfl rfl) ?_
    refine tl_nil ?_
    refine te_code ?_
    refine t_cond_yes rfl (by first | rfl | (simp; done) | (simp; omega) | simp_all) ?_
    refine t_skip ?_
    refine te_code ?_
    refine t_seq ?_
    refine t_block ?_
    refine t_seq ?_
    refine t_drawn_all follows ?_
    refine tr_q 0 rfl (by kernel_rfl) (by kernel_rfl) (by kernel_rfl) rfl (by intro _ h; repeat (first | exact h | replace h := Hold.drop h)) (ev_move rfl) ?_
    refine tr_q 1 rfl (by kernel_rfl) (by kernel_rfl) (by kernel_rfl) rfl (by intro _ h; repeat (first | exact h | replace h := Hold.drop h)) (ev_move rfl) ?_
    refine tr_q 2 rfl (by kernel_rfl) (by kernel_rfl) (by kernel_rfl) rfl (by intro _ h; repeat (first | exact h | replace h := Hold.drop h)) (ev_at_int sl_38 rfl rfl (by assumption) (by omega) (by omega)) ?_
    refine tr_q 3 rfl (by kernel_rfl) (by kernel_rfl) (by kernel_rfl) rfl (by intro _ h; repeat (first | exact h | replace h := Hold.drop h)) (ev_load_at0 sc_9 rfl (by first | exact HasArr.own (by repeat (first | exact List.Mem.head _ | apply List.Mem.tail)) | exact HasArr.sh (by repeat (first | exact List.Mem.head _ | apply List.Mem.tail))) (by intro _; rfl) (by rfl) (by rfl)) ?_
    refine tr_q 4 rfl (by kernel_rfl) (by kernel_rfl) (by kernel_rfl) rfl (by intro _ h; repeat (first | exact h | replace h := Hold.drop h)) (ev_move rfl) ?_
    refine tr_q 5 rfl (by kernel_rfl) (by kernel_rfl) (by kernel_rfl) rfl (by intro _ h; repeat (first | exact h | replace h := Hold.drop h)) (ev_move rfl) ?_
    refine tr_q 6 rfl (by kernel_rfl) (by kernel_rfl) (by kernel_rfl) rfl (by intro _ h; repeat (first | exact h | replace h := Hold.drop h)) (ev_add' rfl rfl (by omega)) ?_
    refine tr_q 7 rfl (by kernel_rfl) (by kernel_rfl) (by kernel_rfl) rfl (by intro _ h; repeat (first | exact h | replace h := Hold.drop h)) (ev_at_int sl_38 rfl rfl (by assumption) (by omega) (by omega)) ?_
    refine tr_q 8 rfl (by kernel_rfl) (by kernel_rfl) (by kernel_rfl) rfl (by intro _ h; repeat (first | exact h | replace h := Hold.drop h)) (ev_load_at0 sc_9 rfl (by first | exact HasArr.own (by repeat (first | exact List.Mem.head _ | apply List.Mem.tail)) | exact HasArr.sh (by repeat (first | exact List.Mem.head _ | apply List.Mem.tail))) (by intro _; rfl) (by rfl) (by rfl)) ?_
    refine tr_q 9 rfl (by kernel_rfl) (by kernel_rfl) (by kernel_rfl) rfl (by intro _ h; repeat (first | exact h | replace h := Hold.drop h)) (ev_assign rfl) ?_
    refine tr_q 10 rfl (by kernel_rfl) (by kernel_rfl) (by kernel_rfl) rfl (by intro _ h; repeat (first | exact h | replace h := Hold.drop h)) (ev_assign rfl) ?_
    refine tr_done (by kernel_rfl) ?_
    refine te_code ?_
    refine t_block ?_
    refine t_seq ?_
    refine t_region ?_
    refine tl_q rfl (ev_move rfl) ?_
    refine tl_q rfl (ev_seql rfl rfl) ?_
    refine tl_q rfl (ev_move rfl) ?_
    refine tl_is 51 (c := false) rfl (by first | rfl | (simp; done) | (simp; omega) | simp_all) ?_
    refine tl_guard_no rfl rfl rfl rfl ?_
    refine tl_guard_no rfl rfl rfl rfl ?_
    refine tl_guard_no rfl rfl rfl rfl ?_
    refine tl_q rfl (ev_pick_false rfl rfl) ?_
    refine tl_q rfl (ev_move rfl) ?_
    refine tl_guard_no rfl rfl rfl rfl ?_
    refine tl_guard_no rfl rfl rfl rfl ?_
    refine tl_guard_no rfl rfl rfl rfl ?_
    refine tl_q rfl (ev_pick_false rfl rfl) ?_
    refine tl_q rfl (ev_assign rfl) ?_
    refine tl_nil ?_
    refine te_code ?_
    refine t_cond_false rfl ?_
    refine t_seq ?_
    refine t_region ?_
    refine tl_q rfl (ev_move rfl) ?_
    refine tl_q rfl (ev_seql rfl rfl) ?_
    refine tl_q rfl (ev_move rfl) ?_
    refine tl_is 67 (c := false) rfl (by first | rfl | (simp; done) | (simp; omega) | simp_all) ?_
    refine tl_guard_no rfl rfl rfl rfl ?_
    refine tl_guard_no rfl rfl rfl rfl ?_
    refine tl_guard_no rfl rfl rfl rfl ?_
    refine tl_q rfl (ev_pick_false rfl rfl) ?_
    refine tl_q rfl (ev_assign rfl) ?_
    refine tl_nil ?_
    refine te_code ?_
    refine t_cond_false rfl ?_
    refine t_seq ?_
    refine t_region ?_
    refine tl_q rfl (ev_move rfl) ?_
    refine tl_q rfl (ev_move rfl) ?_
    refine tl_e (eff_call rfl rfl body_85 rfl (by repeat (first | exact Frm.nil | exact Take.here | apply Take.there | apply Frm.cons)) (ofLevel_ct 4 (by omega) (by omega))) ?_
    rintro _ _ ⟨v36, _, ⟨bl2, rfl, rfl⟩, rfl, rfl⟩
    refine tl_q rfl (ev_move rfl) ?_
    refine tl_q rfl (ev_extract rfl rfl) ?_
    refine tl_q rfl (ev_extract rfl rfl) ?_
    refine tl_q rfl (ev_assign rfl) ?_
    refine tl_q rfl (ev_assign rfl) ?_
    refine tl_nil ?_
    refine te_code ?_
    refine t_seq ?_
    refine t_seq ?_
    refine t_region ?_
    refine tl_q rfl (ev_move rfl) ?_
    refine tl_q rfl (ev_not rfl) ?_
    refine tl_nil ?_
    refine te_code ?_
    refine t_cond_no rfl (by first | rfl | (simp; done) | (simp; omega) | simp_all) ?_
    refine t_skip ?_
    refine te_code ?_
    refine t_region ?_
    refine tl_q rfl (ev_fieldAddr fa_142_0 rfl rfl) ?_
    refine tl_q rfl (ev_load sc_140 rfl (by first | (left; (repeat (first | exact List.Mem.head _ | apply List.Mem.tail)); done) | (right; (repeat (first | exact List.Mem.head _ | apply List.Mem.tail)); done)) rfl) ?_
    refine tl_q rfl (ev_move rfl) ?_
    refine tl_e (eff_buildSl rfl bs_140_1 rfl (by repeat (first | exact FillR.nil | exact LPut.nil | apply LPut.cons | apply LPut.succ | apply FillR.cons rfl rfl rfl))) ?_
    rintro _ _ ⟨b45, rfl, rfl⟩
    refine tl_nil_arr 187 1 encF ?_
    refine tl_e (eff_append (ys := [bl2]) rfl sl_140 Tryz.underlying140 zero_187 rfl by_187 rfl rfl (by repeat (first | exact Take.here | apply Take.there)) (HasArr.lit (by first | (left; (repeat (first | exact List.Mem.head _ | apply List.Mem.tail)); done) | (right; (repeat (first | exact List.Mem.head _ | apply List.Mem.tail)); done)) rfl rfl) (by intro _; rfl) flatF (by simp) (by decide)) ?_
    rintro _ _ ⟨v46, rfl, rfl⟩
    refine tl_shape (enc := encF) (sz := 1) (v := v46) (by first | exact HasArr.own (by repeat (first | exact List.Mem.head _ | apply List.Mem.tail)) | exact HasArr.sh (by repeat (first | exact List.Mem.head _ | apply List.Mem.tail))) (by intro _; rfl) (fun hsh2 => ?_)
    obtain ⟨p2, q2, c2, rfl⟩ := shape_sl hsh2
    refine tl_q rfl (ev_fieldAddr fa_142_0 rfl rfl) ?_
    refine tl_e (eff_store rfl rfl rfl rfl sz_140 (by first | (simp [Flat]; done) | exact flatS _ | exact flatB _ | exact flatTick _ | exact flatRow _ | exact flatEvt _ | exact flatI _) (by repeat (first | exact Upd.here | apply Upd.there)) (by repeat (first | exact LPut.nil | apply LPut.cons | apply LPut.succ))) ?_
    rintro _ _ ⟨rfl, rfl⟩
    refine tl_nil ?_
    refine te_blk ?_
    refine te_blk ?_
    refine te_code ?_
    refine t_region ?_
    refine tl_q rfl (ev_move rfl) ?_
    refine tl_q rfl (ev_add' rfl rfl (by omega)) ?_
    refine tl_q rfl (ev_assign rfl) ?_
    refine tl_nil ?_
    exact te_round (1, bl2, .slice p2 q2 c2, 0) (by exact sub_cons rfl (sub_cons rfl (sub_cons rfl (sub_cons rfl (sub_nil))))) (fun _ h => hold_keep (by repeat (first | exact Frm.nil | exact Take.here | apply Take.there | apply Frm.cons)) h) (.inr (.inl rfl)) (by dsimp only; omega)
  · refine t_shape (enc := encF) (sz := 1) (v := tv) (xs := [bl]) (by first | exact HasArr.own (by repeat (first | exact List.Mem.head _ | apply List.Mem.tail)) | exact HasArr.sh (by repeat (first | exact List.Mem.head _ | apply List.Mem.tail))) (by intro _; rfl) (fun hsh3 => ?_)
    obtain ⟨p3, q3, c3, rfl⟩ := shape_sl hsh3
    refine t_seq ?_
    refine t_seq ?_
    refine t_region ?_
    refine tl_q rfl (ev_move rfl) ?_
    refine tl_q rfl (ev_move rfl) ?_
    refine tl_q rfl (ev_len_sh sl_38 rfl (by assumption)) ?_
    refine tl_q rfl (ev_lss rfl rfl) ?_
    refine tl_nil ?_
    refine te_code ?_
    refine t_cond_yes rfl (by first | rfl | (simp; done) | (simp; omega) | simp_all) ?_
    refine t_skip ?_
    refine te_code ?_
    refine t_seq ?_
    refine t_block ?_
    refine t_seq ?_
    refine t_drawn_all follows ?_
    refine tr_q 0 rfl (by kernel_rfl) (by kernel_rfl) (by kernel_rfl) rfl (by intro _ h; repeat (first | exact h | replace h := Hold.drop h)) (ev_move rfl) ?_
    refine tr_q 1 rfl (by kernel_rfl) (by kernel_rfl) (by kernel_rfl) rfl (by intro _ h; repeat (first | exact h | replace h := Hold.drop h)) (ev_move rfl) ?_
    refine tr_q 2 rfl (by kernel_rfl) (by kernel_rfl) (by kernel_rfl) rfl (by intro _ h; repeat (first | exact h | replace h := Hold.drop h)) (ev_at_int sl_38 rfl rfl (by assumption) (by omega) (by omega)) ?_
    refine tr_q 3 rfl (by kernel_rfl) (by kernel_rfl) (by kernel_rfl) rfl (by intro _ h; repeat (first | exact h | replace h := Hold.drop h)) (ev_load_at0 sc_9 rfl (by first | exact HasArr.own (by repeat (first | exact List.Mem.head _ | apply List.Mem.tail)) | exact HasArr.sh (by repeat (first | exact List.Mem.head _ | apply List.Mem.tail))) (by intro _; rfl) (by rfl) (by rfl)) ?_
    refine tr_q 4 rfl (by kernel_rfl) (by kernel_rfl) (by kernel_rfl) rfl (by intro _ h; repeat (first | exact h | replace h := Hold.drop h)) (ev_move rfl) ?_
    refine tr_q 5 rfl (by kernel_rfl) (by kernel_rfl) (by kernel_rfl) rfl (by intro _ h; repeat (first | exact h | replace h := Hold.drop h)) (ev_move rfl) ?_
    refine tr_q 6 rfl (by kernel_rfl) (by kernel_rfl) (by kernel_rfl) rfl (by intro _ h; repeat (first | exact h | replace h := Hold.drop h)) (ev_add' rfl rfl (by omega)) ?_
    refine tr_q 7 rfl (by kernel_rfl) (by kernel_rfl) (by kernel_rfl) rfl (by intro _ h; repeat (first | exact h | replace h := Hold.drop h)) (ev_at_int sl_38 rfl rfl (by assumption) (by omega) (by omega)) ?_
    refine tr_q 8 rfl (by kernel_rfl) (by kernel_rfl) (by kernel_rfl) rfl (by intro _ h; repeat (first | exact h | replace h := Hold.drop h)) (ev_load_at0 sc_9 rfl (by first | exact HasArr.own (by repeat (first | exact List.Mem.head _ | apply List.Mem.tail)) | exact HasArr.sh (by repeat (first | exact List.Mem.head _ | apply List.Mem.tail))) (by intro _; rfl) (by rfl) (by rfl)) ?_
    refine tr_q 9 rfl (by kernel_rfl) (by kernel_rfl) (by kernel_rfl) rfl (by intro _ h; repeat (first | exact h | replace h := Hold.drop h)) (ev_assign rfl) ?_
    refine tr_q 10 rfl (by kernel_rfl) (by kernel_rfl) (by kernel_rfl) rfl (by intro _ h; repeat (first | exact h | replace h := Hold.drop h)) (ev_assign rfl) ?_
    refine tr_done (by kernel_rfl) ?_
    refine te_code ?_
    refine t_block ?_
    refine t_seq ?_
    refine t_region ?_
    refine tl_q rfl (ev_move rfl) ?_
    refine tl_q rfl (ev_seql rfl rfl) ?_
    refine tl_q rfl (ev_move rfl) ?_
    refine tl_is 51 (c := true) rfl (by first | rfl | (simp; done) | (simp; omega) | simp_all) ?_
    refine tl_guard rfl rfl rfl ?_
    refine tl_q rfl (ev_fieldAddr fa_142_1 rfl rfl) ?_
    refine tl_guard rfl rfl rfl ?_
    refine tl_q rfl (ev_load sc_95 rfl (by first | (left; (repeat (first | exact List.Mem.head _ | apply List.Mem.tail)); done) | (right; (repeat (first | exact List.Mem.head _ | apply List.Mem.tail)); done)) rfl) ?_
    refine tl_guard rfl rfl rfl ?_
    refine tl_q rfl (ev_fun_eql isfun_95 rfl rfl rfl) ?_
    refine tl_q rfl (ev_pick_true rfl rfl) ?_
    refine tl_q rfl (ev_move rfl) ?_
    refine tl_is 56 (c := true) rfl (by first | rfl | (simp; done) | (simp; omega) | simp_all) ?_
    refine tl_guard rfl rfl rfl ?_
    refine tl_q rfl (ev_move rfl) ?_
    refine tl_guard rfl rfl rfl ?_
    refine tl_e (eff_call rfl rfl body_82 rfl (by repeat (first | exact Frm.nil | exact Take.here | apply Take.there | apply Frm.cons)) (first_ct _)) ?_
    rintro _ _ ⟨v58, _, ⟨rfl, rfl⟩, rfl, rfl⟩
    refine tl_guard rfl rfl rfl ?_
    refine tl_q rfl (ev_fun_neq isfun_183 rfl rfl rfl) ?_
    refine tl_q rfl (ev_pick_true rfl rfl) ?_
    refine tl_q rfl (ev_assign rfl) ?_
    refine tl_nil ?_
    refine te_code ?_
    refine t_cond_yes rfl (by first | rfl | (simp; done) | (simp; omega) | simp_all) ?_
    refine t_region ?_
    refine tl_q rfl (ev_move rfl) ?_
    refine tl_e (eff_call rfl rfl body_83 rfl (by repeat (first | exact Frm.nil | exact Take.here | apply Take.there | apply Frm.cons)) (by_ct (⟨#[108, 97, 115, 116]⟩ : ByteArray) 128 (by rfl))) ?_
    rintro _ _ ⟨v62, _, ⟨bf2, rfl, rfl⟩, rfl, rfl⟩
    refine tl_q rfl (ev_fieldAddr fa_142_1 rfl rfl) ?_
    refine tl_e (eff_store rfl rfl rfl rfl sz_95 (by first | (simp [Flat]; done) | exact flatS _ | exact flatB _ | exact flatTick _ | exact flatRow _ | exact flatEvt _ | exact flatI _) (by repeat (first | exact Upd.here | apply Upd.there)) (by repeat (first | exact LPut.nil | apply LPut.cons | apply LPut.succ))) ?_
    rintro _ _ ⟨rfl, rfl⟩
    refine tl_nil ?_
    refine te_blk ?_
    refine te_blk ?_
    refine te_code ?_
    refine t_region ?_
    refine tl_q rfl (ev_move rfl) ?_
    refine tl_q rfl (ev_add' rfl rfl (by omega)) ?_
    refine tl_q rfl (ev_assign rfl) ?_
    refine tl_nil ?_
    exact te_round (2, bl, .slice p3 q3 c3, bf2) (by exact sub_cons rfl (sub_cons rfl (sub_cons rfl (sub_cons rfl (sub_nil))))) (fun _ h => hold_keep (by repeat (first | exact Frm.nil | exact Take.here | apply Take.there | apply Frm.cons)) h) (.inr (.inr (.inl rfl))) (by dsimp only; omega)
  · refine t_shape (enc := encF) (sz := 1) (v := tv) (xs := [bl]) (by first | exact HasArr.own (by repeat (first | exact List.Mem.head _ | apply List.Mem.tail)) | exact HasArr.sh (by repeat (first | exact List.Mem.head _ | apply List.Mem.tail))) (by intro _; rfl) (fun hsh3 => ?_)
    obtain ⟨p3, q3, c3, rfl⟩ := shape_sl hsh3
    refine t_seq ?_
    refine t_seq ?_
    refine t_region ?_
    refine tl_q rfl (ev_move rfl) ?_
    refine tl_q rfl (ev_move rfl) ?_
    refine tl_q rfl (ev_len_sh sl_38 rfl (by assumption)) ?_
    refine tl_q rfl (ev_lss rfl rfl) ?_
    refine tl_nil ?_
    refine te_code ?_
    refine t_cond_yes rfl (by first | rfl | (simp; done) | (simp; omega) | simp_all) ?_
    refine t_skip ?_
    refine te_code ?_
    refine t_seq ?_
    refine t_block ?_
    refine t_seq ?_
    refine t_drawn_all follows ?_
    refine tr_q 0 rfl (by kernel_rfl) (by kernel_rfl) (by kernel_rfl) rfl (by intro _ h; repeat (first | exact h | replace h := Hold.drop h)) (ev_move rfl) ?_
    refine tr_q 1 rfl (by kernel_rfl) (by kernel_rfl) (by kernel_rfl) rfl (by intro _ h; repeat (first | exact h | replace h := Hold.drop h)) (ev_move rfl) ?_
    refine tr_q 2 rfl (by kernel_rfl) (by kernel_rfl) (by kernel_rfl) rfl (by intro _ h; repeat (first | exact h | replace h := Hold.drop h)) (ev_at_int sl_38 rfl rfl (by assumption) (by omega) (by omega)) ?_
    refine tr_q 3 rfl (by kernel_rfl) (by kernel_rfl) (by kernel_rfl) rfl (by intro _ h; repeat (first | exact h | replace h := Hold.drop h)) (ev_load_at0 sc_9 rfl (by first | exact HasArr.own (by repeat (first | exact List.Mem.head _ | apply List.Mem.tail)) | exact HasArr.sh (by repeat (first | exact List.Mem.head _ | apply List.Mem.tail))) (by intro _; rfl) (by rfl) (by rfl)) ?_
    refine tr_q 4 rfl (by kernel_rfl) (by kernel_rfl) (by kernel_rfl) rfl (by intro _ h; repeat (first | exact h | replace h := Hold.drop h)) (ev_move rfl) ?_
    refine tr_q 5 rfl (by kernel_rfl) (by kernel_rfl) (by kernel_rfl) rfl (by intro _ h; repeat (first | exact h | replace h := Hold.drop h)) (ev_move rfl) ?_
    refine tr_q 6 rfl (by kernel_rfl) (by kernel_rfl) (by kernel_rfl) rfl (by intro _ h; repeat (first | exact h | replace h := Hold.drop h)) (ev_add' rfl rfl (by omega)) ?_
    refine tr_q 7 rfl (by kernel_rfl) (by kernel_rfl) (by kernel_rfl) rfl (by intro _ h; repeat (first | exact h | replace h := Hold.drop h)) (ev_at_int sl_38 rfl rfl (by assumption) (by omega) (by omega)) ?_
    refine tr_q 8 rfl (by kernel_rfl) (by kernel_rfl) (by kernel_rfl) rfl (by intro _ h; repeat (first | exact h | replace h := Hold.drop h)) (ev_load_at0 sc_9 rfl (by first | exact HasArr.own (by repeat (first | exact List.Mem.head _ | apply List.Mem.tail)) | exact HasArr.sh (by repeat (first | exact List.Mem.head _ | apply List.Mem.tail))) (by intro _; rfl) (by rfl) (by rfl)) ?_
    refine tr_q 9 rfl (by kernel_rfl) (by kernel_rfl) (by kernel_rfl) rfl (by intro _ h; repeat (first | exact h | replace h := Hold.drop h)) (ev_assign rfl) ?_
    refine tr_q 10 rfl (by kernel_rfl) (by kernel_rfl) (by kernel_rfl) rfl (by intro _ h; repeat (first | exact h | replace h := Hold.drop h)) (ev_assign rfl) ?_
    refine tr_done (by kernel_rfl) ?_
    refine te_code ?_
    refine t_block ?_
    refine t_seq ?_
    refine t_region ?_
    refine tl_q rfl (ev_move rfl) ?_
    refine tl_q rfl (ev_seql rfl rfl) ?_
    refine tl_q rfl (ev_move rfl) ?_
    refine tl_is 51 (c := false) rfl (by first | rfl | (simp; done) | (simp; omega) | simp_all) ?_
    refine tl_guard_no rfl rfl rfl rfl ?_
    refine tl_guard_no rfl rfl rfl rfl ?_
    refine tl_guard_no rfl rfl rfl rfl ?_
    refine tl_q rfl (ev_pick_false rfl rfl) ?_
    refine tl_q rfl (ev_move rfl) ?_
    refine tl_guard_no rfl rfl rfl rfl ?_
    refine tl_guard_no rfl rfl rfl rfl ?_
    refine tl_guard_no rfl rfl rfl rfl ?_
    refine tl_q rfl (ev_pick_false rfl rfl) ?_
    refine tl_q rfl (ev_assign rfl) ?_
    refine tl_nil ?_
    refine te_code ?_
    refine t_cond_false rfl ?_
    refine t_seq ?_
    refine t_region ?_
    refine tl_q rfl (ev_move rfl) ?_
    refine tl_q rfl (ev_seql rfl rfl) ?_
    refine tl_q rfl (ev_move rfl) ?_
    refine tl_is 67 (c := true) rfl (by first | rfl | (simp; done) | (simp; omega) | simp_all) ?_
    refine tl_guard rfl rfl rfl ?_
    refine tl_q rfl (ev_fieldAddr fa_142_2 rfl rfl) ?_
    refine tl_guard rfl rfl rfl ?_
    refine tl_q rfl (ev_load sc_3 rfl (by first | (left; (repeat (first | exact List.Mem.head _ | apply List.Mem.tail)); done) | (right; (repeat (first | exact List.Mem.head _ | apply List.Mem.tail)); done)) rfl) ?_
    refine tl_guard rfl rfl rfl ?_
    refine tl_q rfl (ev_lss rfl rfl) ?_
    refine tl_q rfl (ev_pick_true rfl rfl) ?_
    refine tl_q rfl (ev_assign rfl) ?_
    refine tl_nil ?_
    refine te_code ?_
    refine t_cond_yes rfl (by first | rfl | (simp; done) | (simp; omega) | simp_all) ?_
    refine t_seq ?_
    refine t_region ?_
    refine tl_q rfl (ev_move rfl) ?_
    refine tl_e (eff_call rfl rfl body_84 rfl (by repeat (first | exact Frm.nil | exact Take.here | apply Take.there | apply Frm.cons)) (number_ct 10 (by omega) (by omega))) ?_
    rintro _ _ ⟨v74, _, ⟨rfl, rfl⟩, rfl, rfl⟩
    refine tl_q rfl (ev_move rfl) ?_
    refine tl_q rfl (ev_extract rfl rfl) ?_
    refine tl_q rfl (ev_extract rfl rfl) ?_
    refine tl_q rfl (ev_assign rfl) ?_
    refine tl_q rfl (ev_assign rfl) ?_
    refine tl_nil ?_
    refine te_code ?_
    refine t_seq ?_
    refine t_seq ?_
    refine t_region ?_
    refine tl_q rfl (ev_move rfl) ?_
    refine tl_q rfl (ev_not rfl) ?_
    refine tl_nil ?_
    refine te_code ?_
    refine t_cond_no rfl (by first | rfl | (simp; done) | (simp; omega) | simp_all) ?_
    refine t_skip ?_
    refine te_code ?_
    refine t_region ?_
    refine tl_q rfl (ev_move rfl) ?_
    refine tl_q rfl (ev_fieldAddr fa_142_2 rfl rfl) ?_
    refine tl_e (eff_store rfl rfl rfl rfl sz_3 (by first | (simp [Flat]; done) | exact flatS _ | exact flatB _ | exact flatTick _ | exact flatRow _ | exact flatEvt _ | exact flatI _) (by repeat (first | exact Upd.here | apply Upd.there)) (by repeat (first | exact LPut.nil | apply LPut.cons | apply LPut.succ))) ?_
    rintro _ _ ⟨rfl, rfl⟩
    refine tl_nil ?_
    refine te_blk ?_
    refine te_blk ?_
    refine te_code ?_
    refine t_region ?_
    refine tl_q rfl (ev_move rfl) ?_
    refine tl_q rfl (ev_add' rfl rfl (by omega)) ?_
    refine tl_q rfl (ev_assign rfl) ?_
    refine tl_nil ?_
    exact te_round (3, bl, .slice p3 q3 c3, bf) (by exact sub_cons rfl (sub_cons rfl (sub_cons rfl (sub_cons rfl (sub_nil))))) (fun _ h => hold_keep (by repeat (first | exact Frm.nil | exact Take.here | apply Take.there | apply Frm.cons)) h) (.inr (.inr (.inr rfl))) (by dsimp only; omega)
  · refine t_shape (enc := encF) (sz := 1) (v := tv) (xs := [bl]) (by first | exact HasArr.own (by repeat (first | exact List.Mem.head _ | apply List.Mem.tail)) | exact HasArr.sh (by repeat (first | exact List.Mem.head _ | apply List.Mem.tail))) (by intro _; rfl) (fun hsh3 => ?_)
    obtain ⟨p3, q3, c3, rfl⟩ := shape_sl hsh3
    refine t_seq ?_
    refine t_seq ?_
    refine t_region ?_
    refine tl_q rfl (ev_move rfl) ?_
    refine tl_q rfl (ev_move rfl) ?_
    refine tl_q rfl (ev_len_sh sl_38 rfl (by assumption)) ?_
    refine tl_q rfl (ev_lss rfl rfl) ?_
    refine tl_nil ?_
    refine te_code ?_
    refine t_cond_no rfl (by first | rfl | (simp; done) | (simp; omega) | simp_all) ?_
    refine t_exit ?_
    refine te_exit_code ?_
    refine te_exit_rnd ?_
    refine te_exit_here ?_
    refine te_code ?_
    refine t_seq ?_
    refine t_seq ?_
    refine t_region ?_
    refine tl_q rfl (ev_fieldAddr fa_142_1 rfl rfl) ?_
    refine tl_q rfl (ev_load sc_95 rfl (by first | (left; (repeat (first | exact List.Mem.head _ | apply List.Mem.tail)); done) | (right; (repeat (first | exact List.Mem.head _ | apply List.Mem.tail)); done)) rfl) ?_
    refine tl_q rfl (ev_fun_eql isfun_95 rfl rfl rfl) ?_
    refine tl_nil ?_
    refine te_code ?_
    refine t_cond_no rfl (by first | rfl | (simp; done) | (simp; omega) | simp_all) ?_
    refine t_skip ?_
    refine te_code ?_
    refine t_seq ?_
    refine t_region ?_
    refine tl_q rfl (ev_load_agg ag_142 rfl (by first | (left; (repeat (first | exact List.Mem.head _ | apply List.Mem.tail)); done) | (right; (repeat (first | exact List.Mem.head _ | apply List.Mem.tail)); done)) (by repeat (first | exact LDrop.zero | apply LDrop.succ)) (by repeat (first | exact LTake.zero | apply LTake.succ))) ?_
    refine tl_e (eff_store rfl rfl rfl rfl sz_142 (by first | (simp [Flat]; done) | exact flatS _ | exact flatB _ | exact flatTick _ | exact flatRow _ | exact flatEvt _ | exact flatI _) (by repeat (first | exact Upd.here | apply Upd.there)) (by repeat (first | exact LPut.nil | apply LPut.cons | apply LPut.succ))) ?_
    rintro _ _ ⟨rfl, rfl⟩
    refine tl_q rfl (ev_assign rfl) ?_
    refine tl_nil ?_
    refine te_code ?_
    refine t_ret ?_
    refine te_ret_k (pre := [arr 187 1 encF _ [_], blk _ (.cells [.int .i64 4].toArray 3 (0, 0)), blk _ (.cells #[.func (.func 128) #[] #[]] 183 (0, 0)), powA]) (resx rfl (RL.cons (resIs_cell (x := .tmp 0) (ev_load_agg ag_142 rfl (by first | (left; (repeat (first | exact List.Mem.head _ | apply List.Mem.tail)); done) | (right; (repeat (first | exact List.Mem.head _ | apply List.Mem.tail)); done)) (by repeat (first | exact LDrop.zero | apply LDrop.succ)) (by repeat (first | exact LTake.zero | apply LTake.succ))) _ rfl) (RL.cons (resIs_tmp rfl) (RL.nil)))) (by repeat (first | exact Frm.nil | exact Take.here | apply Take.there | apply Frm.cons)) ?_
    exact ⟨_, _, _, rfl, rfl⟩

end Go.SL
