/- Contracts of query.show and of stats' say. -/
import Derived.Test.YtimhhegebkganaaGreatDoorProg
import Derived.Test.YtimhhegebkganaaGreatDoorGZB
set_option linter.unusedSimpArgs false
set_option linter.unusedVariables false
set_option maxRecDepth 4000
namespace Go.SL
open Go.Proofs

theorem info_98 : Tryz.prog.info? 98 = some Tryz.t98 := by kernel_rfl
theorem zero_98 : ZeroIs Tryz.prog 98 (.agg #[.nilFunc]) := zeroIs_of info_98 rfl
theorem info_96 : Tryz.prog.info? 96 = some Tryz.t96 := by kernel_rfl
theorem st_98 : StructIs Tryz.prog 98 (fun j => ([(0, 1)] : List (Nat × Nat))[j]?) [.nilFunc] := structIs_of (ss := [1]) Tryz.underlying98 info_98 rfl (by kernel_rfl)
theorem sz_98 : SizeIs Tryz.prog 98 1 := sizeIs_of info_98 rfl
theorem ag_98 : IsAg Tryz.prog 98 1 := isAg_of Tryz.underlying98 rfl info_98 rfl
theorem body_13 : (Tryz.prog.funcs[13]?).map (fun fn => fn.body.isSome && !(fn.name == "runtime.NumGoroutine")) = some true := by kernel_rfl
theorem sz_38 : SizeIs Tryz.prog 38 1 := sizeIs_of info_38 rfl

theorem show1_ct (wv : Value) (n : Int) (h0 : 0 ≤ n) (h1 : n < 1000000000000000000) : CT Tryz.prog 52 #[wv] [iarr 1 encS wv [itoaB n], powA] (fun v M => ∃ bl, v = .tuple #[.agg #[.func (.func 87) #[] #[.pointer (some ⟨bl, 0, none⟩)]], .bool true] ∧ M = [blk bl (.cells [.int .i64 n].toArray 3 (0, 0)), powA]) := by
  refine t_fun (vs := [wv]) (n := 20) Tryz.func52 rfl Tryz.ntmps52 rfl fun w0 F => ?_
  refine t_shape (enc := encS) (sz := 1) (v := wv) (xs := [itoaB n]) (by first | exact HasArr.own (by repeat (first | exact List.Mem.head _ | apply List.Mem.tail)) | exact HasArr.sh (by repeat (first | exact List.Mem.head _ | apply List.Mem.tail))) (by intro _; rfl) (fun hsh => ?_)
  have hsh : Shape wv 1 := hsh
  refine t_seq ?_
  refine t_region ?_
  refine tl_e (eff_alloc rfl zero_98 rfl) ?_
  rintro _ _ ⟨b2, rfl, rfl⟩
  refine tl_q rfl (ev_assign rfl) ?_
  refine tl_nil ?_
  refine te_code ?_
  refine t_seq ?_
  refine t_seq ?_
  refine t_region ?_
  refine tl_q rfl (ev_move rfl) ?_
  refine tl_q rfl (ev_len_sh sl_38 rfl (by assumption)) ?_
  refine tl_q rfl (ev_neq rfl rfl) ?_
  refine tl_nil ?_
  refine te_code ?_
  refine t_cond_no rfl (by first | rfl | (simp; done) | (simp; omega) | simp_all) ?_
  refine t_skip ?_
  refine te_code ?_
  refine t_seq ?_
  refine t_region ?_
  refine tl_q rfl (ev_move rfl) ?_
  refine tl_q rfl (ev_at_int sl_38 rfl rfl (by assumption) (by omega) (by omega)) ?_
  refine tl_q rfl (ev_load_at0 sc_9 rfl (by first | exact HasArr.own (by repeat (first | exact List.Mem.head _ | apply List.Mem.tail)) | exact HasArr.sh (by repeat (first | exact List.Mem.head _ | apply List.Mem.tail))) (by intro _; rfl) (by rfl) (by rfl)) ?_
  refine tl_e (eff_call rfl rfl body_84 rfl (by repeat (first | exact Frm.nil | exact Take.here | apply Take.there | apply Frm.cons)) (number_ct n h0 h1)) ?_
  rintro _ _ ⟨v14, _, ⟨rfl, rfl⟩, rfl, rfl⟩
  refine tl_q rfl (ev_move rfl) ?_
  refine tl_q rfl (ev_extract rfl rfl) ?_
  refine tl_q rfl (ev_extract rfl rfl) ?_
  refine tl_e (eff_alloc rfl zero_3 rfl) ?_
  rintro _ _ ⟨b4, rfl, rfl⟩
  refine tl_e (eff_store rfl rfl rfl rfl sz_3 (by first | (simp [Flat]; done) | exact flatS _ | exact flatB _ | exact flatTick _ | exact flatRow _ | exact flatEvt _ | exact flatI _) (by repeat (first | exact Upd.here | apply Upd.there)) (by repeat (first | exact LPut.nil | apply LPut.cons | apply LPut.succ))) ?_
  rintro _ _ ⟨rfl, rfl⟩
  refine tl_q rfl (ev_assign rfl) ?_
  refine tl_nil ?_
  refine te_code ?_
  refine t_seq ?_
  refine t_region ?_
  refine tl_q rfl (ev_makeFunc rfl rfl) ?_
  refine tl_q rfl (ev_build st_98 rfl (by repeat (first | exact FillR.nil | exact LPut.nil | apply LPut.cons | apply LPut.succ | apply FillR.cons rfl rfl rfl))) ?_
  refine tl_q rfl (ev_move rfl) ?_
  refine tl_e (eff_store rfl rfl rfl rfl sz_98 (by first | (simp [Flat]; done) | exact flatS _ | exact flatB _ | exact flatTick _ | exact flatRow _ | exact flatEvt _ | exact flatI _) (by repeat (first | exact Upd.here | apply Upd.there)) (by repeat (first | exact LPut.nil | apply LPut.cons | apply LPut.succ))) ?_
  rintro _ _ ⟨rfl, rfl⟩
  refine tl_q rfl (ev_assign rfl) ?_
  refine tl_nil ?_
  refine te_code ?_
  refine t_ret ?_
  refine te_ret_k (pre := [blk _ (.cells [.int .i64 n].toArray 3 (0, 0)), powA]) (resx rfl (RL.cons (resIs_cell (x := .tmp 0) (ev_load_agg ag_98 rfl (by first | (left; (repeat (first | exact List.Mem.head _ | apply List.Mem.tail)); done) | (right; (repeat (first | exact List.Mem.head _ | apply List.Mem.tail)); done)) (by repeat (first | exact LDrop.zero | apply LDrop.succ)) (by repeat (first | exact LTake.zero | apply LTake.succ))) _ rfl) (RL.cons (resIs_tmp rfl) (RL.nil)))) (by repeat (first | exact Frm.nil | exact Take.here | apply Take.there | apply Frm.cons)) ?_
  exact ⟨_, rfl, rfl⟩

theorem show1F_ct (q : TypeId × (Nat × Nat)) (sb eb ob bb hh m1 m2 : Nat) (next : Int) (rows : List (Int × Row)) (bl : Nat) (n : Int) (r : Row) (hf : alook rows n = some r) (hr : okRow r ∧ intRow r) : CTm false Tryz.prog 87 #[.pointer (some ⟨sb, 0, none⟩), .pointer (some ⟨bl, 0, none⟩)] [stB sb eb ob, engB eb bb hh, boardB bb m1 m2 40 next, mp iI rowV m1 rows, blk bl (.cells [.int .i64 n].toArray 3 (0, 0)), powA, aheadI q] (fun v M => ∃ sv, v = .tuple #[sv, .int .i64 0] ∧ M = [arr 9 1 encS sv [lineF r], stB sb eb ob, engB eb bb hh, boardB bb m1 m2 40 next, mp iI rowV m1 rows, blk bl (.cells [.int .i64 n].toArray 3 (0, 0)), powA, aheadI q]) := by
  refine t_fun (vs := [.pointer (some ⟨sb, 0, none⟩), .pointer (some ⟨bl, 0, none⟩)]) (n := 22) Tryz.func87 rfl Tryz.ntmps87 rfl fun w0 F => ?_
  refine t_seq ?_
  refine t_region ?_
  refine tl_q rfl (ev_assign rfl) ?_
  refine tl_q rfl (ev_assign rfl) ?_
  refine tl_nil ?_
  refine te_code ?_
  refine t_seq ?_
  refine t_drawn_frm (pre := [engB eb bb hh, boardB bb m1 m2 40 next, mp iI rowV m1 rows]) (by repeat (first | exact Frm.nil | exact Take.here | apply Take.there | apply Frm.cons)) follows ?_
  refine tr_q 0 rfl (by kernel_rfl) (by kernel_rfl) (by kernel_rfl) rfl (fun _ h => hold_sub (by repeat (first | exact Frm.nil | exact Take.here | apply Take.there | apply Frm.cons)) h) (ev_move rfl) ?_
  refine tr_q 1 rfl (by kernel_rfl) (by kernel_rfl) (by kernel_rfl) rfl (fun _ h => hold_sub (by repeat (first | exact Frm.nil | exact Take.here | apply Take.there | apply Frm.cons)) h) (ev_nil_ptr rfl) ?_
  refine tr_q 2 rfl (by kernel_rfl) (by kernel_rfl) (by kernel_rfl) rfl (fun _ h => hold_sub (by repeat (first | exact Frm.nil | exact Take.here | apply Take.there | apply Frm.cons)) h) (ev_fieldAddr fa_35_0 rfl rfl) ?_
  refine tr_q 3 rfl (by kernel_rfl) (by kernel_rfl) (by kernel_rfl) rfl (fun _ h => hold_sub (by repeat (first | exact Frm.nil | exact Take.here | apply Take.there | apply Frm.cons)) h) (ev_load sc_30 rfl (by first | (left; (repeat (first | exact List.Mem.head _ | apply List.Mem.tail)); done) | (right; (repeat (first | exact List.Mem.head _ | apply List.Mem.tail)); done)) rfl) ?_
  refine tr_q 5 rfl (by kernel_rfl) (by kernel_rfl) (by kernel_rfl) rfl (fun _ h => hold_sub (by repeat (first | exact Frm.nil | exact Take.here | apply Take.there | apply Frm.cons)) h) (ev_load sc_3 rfl (by first | (left; (repeat (first | exact List.Mem.head _ | apply List.Mem.tail)); done) | (right; (repeat (first | exact List.Mem.head _ | apply List.Mem.tail)); done)) rfl) ?_
  refine tr_any [4, 10] (by kernel_rfl) (by simp) (all_cons ?_ (all_cons ?_ (all_nil)))
  · refine to_e rfl (eff_call rfl rfl body_7 rfl (by repeat (first | exact Frm.nil | exact Take.here | apply Take.there | apply Frm.cons)) (eng_Board_ct _ _ _)) (by rintro _ _ ⟨_, _, ⟨rfl, rfl⟩, rfl, rfl⟩; exact (fun _ h => hold_sub (by repeat (first | exact Frm.nil | exact Take.here | apply Take.there | apply Frm.cons)) h)) ?_
    rintro _ _ ⟨v12, _, ⟨rfl, rfl⟩, rfl, rfl⟩
    refine tr_any [6, 10] (by kernel_rfl) (by simp) (all_cons ?_ (all_cons ?_ (all_nil)))
    · refine to_e rfl (eff_call rfl rfl body_13 rfl (by repeat (first | exact Frm.nil | exact Take.here | apply Take.there | apply Frm.cons)) (board_Get_ct bb m1 m2 40 next rows [] n)) (by rintro _ _ ⟨_, _, ⟨rfl, rfl⟩, rfl, rfl⟩; exact (fun _ h => hold_sub (by repeat (first | exact Frm.nil | exact Take.here | apply Take.there | apply Frm.cons)) h)) ?_
      rintro _ _ ⟨v14, _, ⟨rfl, rfl⟩, rfl, rfl⟩
      rw [hf]
      refine tr_q 7 rfl (by kernel_rfl) (by kernel_rfl) (by kernel_rfl) rfl (fun _ h => hold_sub (by repeat (first | exact Frm.nil | exact Take.here | apply Take.there | apply Frm.cons)) h) (ev_move rfl) ?_
      refine tr_q 8 rfl (by kernel_rfl) (by kernel_rfl) (by kernel_rfl) rfl (fun _ h => hold_sub (by repeat (first | exact Frm.nil | exact Take.here | apply Take.there | apply Frm.cons)) h) (ev_extract rfl rfl) ?_
      refine tr_q 9 rfl (by kernel_rfl) (by kernel_rfl) (by kernel_rfl) rfl (fun _ h => hold_sub (by repeat (first | exact Frm.nil | exact Take.here | apply Take.there | apply Frm.cons)) h) (ev_extract rfl rfl) ?_
      refine tr_e 10 rfl (by kernel_rfl) (eff_alloc rfl zero_45 rfl) (by rintro _ _ ⟨_, rfl, rfl⟩; exact (fun _ h => hold_sub (by repeat (first | exact Frm.nil | exact Take.here | apply Take.there | apply Frm.cons)) h)) ?_
      rintro _ _ ⟨b5, rfl, rfl⟩
      refine tr_e 11 rfl (by kernel_rfl) (eff_store (v := rowV r) rfl rfl rfl rfl sz_45 (flatRow r) (by repeat (first | exact Upd.here | apply Upd.there)) (by repeat (first | exact LPut.nil | apply LPut.cons | apply LPut.succ))) (by rintro _ _ ⟨rfl, rfl⟩; exact (fun _ h => hold_sub (by repeat (first | exact Frm.nil | exact Take.here | apply Take.there | apply Frm.cons)) h)) ?_
      rintro _ _ ⟨rfl, rfl⟩
      refine tr_q 12 rfl (by kernel_rfl) (by kernel_rfl) (by kernel_rfl) rfl (fun _ h => hold_sub (by repeat (first | exact Frm.nil | exact Take.here | apply Take.there | apply Frm.cons)) h) (ev_assign rfl) ?_
      refine tr_done (by kernel_rfl) ?_
      refine te_code ?_
      refine t_seq ?_
      refine t_seq ?_
      refine t_region ?_
      refine tl_q rfl (ev_move rfl) ?_
      refine tl_q rfl (ev_not rfl) ?_
      refine tl_nil ?_
      refine te_code ?_
      refine t_cond_no rfl (by first | rfl | (simp; done) | (simp; omega) | simp_all) ?_
      refine t_skip ?_
      refine te_code ?_
      refine t_seq ?_
      refine t_region ?_
      refine tl_q rfl (ev_load_agg ag_45 rfl (by first | (left; (repeat (first | exact List.Mem.head _ | apply List.Mem.tail)); done) | (right; (repeat (first | exact List.Mem.head _ | apply List.Mem.tail)); done)) (by repeat (first | exact LDrop.zero | apply LDrop.succ)) (by repeat (first | exact LTake.zero | apply LTake.succ))) ?_
      refine tl_e (eff_call rfl rfl body_11 rfl (by repeat (first | exact Frm.nil | exact Take.here | apply Take.there | apply Frm.cons)) (Line_ct q r hr.1 hr.2)) ?_
      rintro _ _ ⟨v20, _, ⟨rfl, rfl⟩, rfl, rfl⟩
      refine tl_e (eff_buildSl rfl bs_38_1 rfl (by repeat (first | exact FillR.nil | exact LPut.nil | apply LPut.cons | apply LPut.succ | apply FillR.cons rfl rfl rfl))) ?_
      rintro _ _ ⟨b21, rfl, rfl⟩
      refine tl_lit (T := 9) (sz := 1) (enc := encS) [lineF r] rfl rfl rfl ?_
      refine tl_q rfl (ev_assign rfl) ?_
      refine tl_q rfl (ev_assign rfl) ?_
      refine tl_nil ?_
      refine te_code ?_
      refine t_ret ?_
      refine te_ret_k (pre := [arr _ _ encS _ [lineF r], stB sb eb ob, engB eb bb hh, boardB bb m1 m2 40 next, mp iI rowV m1 rows, blk bl (.cells [.int .i64 n].toArray 3 (0, 0)), powA, aheadI q]) (res2 rfl rfl rfl) (by repeat (first | exact Frm.nil | exact Take.here | apply Take.there | apply Frm.cons)) ?_
      exact ⟨_, rfl, rfl⟩
    · refine to_e rfl (eff_alloc rfl zero_45 rfl) (by rintro _ _ ⟨_, rfl, rfl⟩; exact (fun _ h => hold_sub (by repeat (first | exact Frm.nil | exact Take.here | apply Take.there | apply Frm.cons)) h)) ?_
      rintro _ _ ⟨b5, rfl, rfl⟩
      refine tr_e 6 rfl (by kernel_rfl) (eff_call rfl rfl body_13 rfl (by repeat (first | exact Frm.nil | exact Take.here | apply Take.there | apply Frm.cons)) (board_Get_ct bb m1 m2 40 next rows [] n)) (by rintro _ _ ⟨_, _, ⟨rfl, rfl⟩, rfl, rfl⟩; exact (fun _ h => hold_sub (by repeat (first | exact Frm.nil | exact Take.here | apply Take.there | apply Frm.cons)) h)) ?_
      rintro _ _ ⟨v14, _, ⟨rfl, rfl⟩, rfl, rfl⟩
      rw [hf]
      refine tr_q 7 rfl (by kernel_rfl) (by kernel_rfl) (by kernel_rfl) rfl (fun _ h => hold_sub (by repeat (first | exact Frm.nil | exact Take.here | apply Take.there | apply Frm.cons)) h) (ev_move rfl) ?_
      refine tr_q 8 rfl (by kernel_rfl) (by kernel_rfl) (by kernel_rfl) rfl (fun _ h => hold_sub (by repeat (first | exact Frm.nil | exact Take.here | apply Take.there | apply Frm.cons)) h) (ev_extract rfl rfl) ?_
      refine tr_q 9 rfl (by kernel_rfl) (by kernel_rfl) (by kernel_rfl) rfl (fun _ h => hold_sub (by repeat (first | exact Frm.nil | exact Take.here | apply Take.there | apply Frm.cons)) h) (ev_extract rfl rfl) ?_
      refine tr_e 11 rfl (by kernel_rfl) (eff_store (v := rowV r) rfl rfl rfl rfl sz_45 (flatRow r) (by repeat (first | exact Upd.here | apply Upd.there)) (by repeat (first | exact LPut.nil | apply LPut.cons | apply LPut.succ))) (by rintro _ _ ⟨rfl, rfl⟩; exact (fun _ h => hold_sub (by repeat (first | exact Frm.nil | exact Take.here | apply Take.there | apply Frm.cons)) h)) ?_
      rintro _ _ ⟨rfl, rfl⟩
      refine tr_q 12 rfl (by kernel_rfl) (by kernel_rfl) (by kernel_rfl) rfl (fun _ h => hold_sub (by repeat (first | exact Frm.nil | exact Take.here | apply Take.there | apply Frm.cons)) h) (ev_assign rfl) ?_
      refine tr_done (by kernel_rfl) ?_
      refine te_code ?_
      refine t_seq ?_
      refine t_seq ?_
      refine t_region ?_
      refine tl_q rfl (ev_move rfl) ?_
      refine tl_q rfl (ev_not rfl) ?_
      refine tl_nil ?_
      refine te_code ?_
      refine t_cond_no rfl (by first | rfl | (simp; done) | (simp; omega) | simp_all) ?_
      refine t_skip ?_
      refine te_code ?_
      refine t_seq ?_
      refine t_region ?_
      refine tl_q rfl (ev_load_agg ag_45 rfl (by first | (left; (repeat (first | exact List.Mem.head _ | apply List.Mem.tail)); done) | (right; (repeat (first | exact List.Mem.head _ | apply List.Mem.tail)); done)) (by repeat (first | exact LDrop.zero | apply LDrop.succ)) (by repeat (first | exact LTake.zero | apply LTake.succ))) ?_
      refine tl_e (eff_call rfl rfl body_11 rfl (by repeat (first | exact Frm.nil | exact Take.here | apply Take.there | apply Frm.cons)) (Line_ct q r hr.1 hr.2)) ?_
      rintro _ _ ⟨v20, _, ⟨rfl, rfl⟩, rfl, rfl⟩
      refine tl_e (eff_buildSl rfl bs_38_1 rfl (by repeat (first | exact FillR.nil | exact LPut.nil | apply LPut.cons | apply LPut.succ | apply FillR.cons rfl rfl rfl))) ?_
      rintro _ _ ⟨b21, rfl, rfl⟩
      refine tl_lit (T := 9) (sz := 1) (enc := encS) [lineF r] rfl rfl rfl ?_
      refine tl_q rfl (ev_assign rfl) ?_
      refine tl_q rfl (ev_assign rfl) ?_
      refine tl_nil ?_
      refine te_code ?_
      refine t_ret ?_
      refine te_ret_k (pre := [arr _ _ encS _ [lineF r], stB sb eb ob, engB eb bb hh, boardB bb m1 m2 40 next, mp iI rowV m1 rows, blk bl (.cells [.int .i64 n].toArray 3 (0, 0)), powA, aheadI q]) (res2 rfl rfl rfl) (by repeat (first | exact Frm.nil | exact Take.here | apply Take.there | apply Frm.cons)) ?_
      exact ⟨_, rfl, rfl⟩
  · refine to_e rfl (eff_alloc rfl zero_45 rfl) (by rintro _ _ ⟨_, rfl, rfl⟩; exact (fun _ h => hold_sub (by repeat (first | exact Frm.nil | exact Take.here | apply Take.there | apply Frm.cons)) h)) ?_
    rintro _ _ ⟨b5, rfl, rfl⟩
    refine tr_e 4 rfl (by kernel_rfl) (eff_call rfl rfl body_7 rfl (by repeat (first | exact Frm.nil | exact Take.here | apply Take.there | apply Frm.cons)) (eng_Board_ct _ _ _)) (by rintro _ _ ⟨_, _, ⟨rfl, rfl⟩, rfl, rfl⟩; exact (fun _ h => hold_sub (by repeat (first | exact Frm.nil | exact Take.here | apply Take.there | apply Frm.cons)) h)) ?_
    rintro _ _ ⟨v12, _, ⟨rfl, rfl⟩, rfl, rfl⟩
    refine tr_e 6 rfl (by kernel_rfl) (eff_call rfl rfl body_13 rfl (by repeat (first | exact Frm.nil | exact Take.here | apply Take.there | apply Frm.cons)) (board_Get_ct bb m1 m2 40 next rows [] n)) (by rintro _ _ ⟨_, _, ⟨rfl, rfl⟩, rfl, rfl⟩; exact (fun _ h => hold_sub (by repeat (first | exact Frm.nil | exact Take.here | apply Take.there | apply Frm.cons)) h)) ?_
    rintro _ _ ⟨v14, _, ⟨rfl, rfl⟩, rfl, rfl⟩
    rw [hf]
    refine tr_q 7 rfl (by kernel_rfl) (by kernel_rfl) (by kernel_rfl) rfl (fun _ h => hold_sub (by repeat (first | exact Frm.nil | exact Take.here | apply Take.there | apply Frm.cons)) h) (ev_move rfl) ?_
    refine tr_q 8 rfl (by kernel_rfl) (by kernel_rfl) (by kernel_rfl) rfl (fun _ h => hold_sub (by repeat (first | exact Frm.nil | exact Take.here | apply Take.there | apply Frm.cons)) h) (ev_extract rfl rfl) ?_
    refine tr_q 9 rfl (by kernel_rfl) (by kernel_rfl) (by kernel_rfl) rfl (fun _ h => hold_sub (by repeat (first | exact Frm.nil | exact Take.here | apply Take.there | apply Frm.cons)) h) (ev_extract rfl rfl) ?_
    refine tr_e 11 rfl (by kernel_rfl) (eff_store (v := rowV r) rfl rfl rfl rfl sz_45 (flatRow r) (by repeat (first | exact Upd.here | apply Upd.there)) (by repeat (first | exact LPut.nil | apply LPut.cons | apply LPut.succ))) (by rintro _ _ ⟨rfl, rfl⟩; exact (fun _ h => hold_sub (by repeat (first | exact Frm.nil | exact Take.here | apply Take.there | apply Frm.cons)) h)) ?_
    rintro _ _ ⟨rfl, rfl⟩
    refine tr_q 12 rfl (by kernel_rfl) (by kernel_rfl) (by kernel_rfl) rfl (fun _ h => hold_sub (by repeat (first | exact Frm.nil | exact Take.here | apply Take.there | apply Frm.cons)) h) (ev_assign rfl) ?_
    refine tr_done (by kernel_rfl) ?_
    refine te_code ?_
    refine t_seq ?_
    refine t_seq ?_
    refine t_region ?_
    refine tl_q rfl (ev_move rfl) ?_
    refine tl_q rfl (ev_not rfl) ?_
    refine tl_nil ?_
    refine te_code ?_
    refine t_cond_no rfl (by first | rfl | (simp; done) | (simp; omega) | simp_all) ?_
    refine t_skip ?_
    refine te_code ?_
    refine t_seq ?_
    refine t_region ?_
    refine tl_q rfl (ev_load_agg ag_45 rfl (by first | (left; (repeat (first | exact List.Mem.head _ | apply List.Mem.tail)); done) | (right; (repeat (first | exact List.Mem.head _ | apply List.Mem.tail)); done)) (by repeat (first | exact LDrop.zero | apply LDrop.succ)) (by repeat (first | exact LTake.zero | apply LTake.succ))) ?_
    refine tl_e (eff_call rfl rfl body_11 rfl (by repeat (first | exact Frm.nil | exact Take.here | apply Take.there | apply Frm.cons)) (Line_ct q r hr.1 hr.2)) ?_
    rintro _ _ ⟨v20, _, ⟨rfl, rfl⟩, rfl, rfl⟩
    refine tl_e (eff_buildSl rfl bs_38_1 rfl (by repeat (first | exact FillR.nil | exact LPut.nil | apply LPut.cons | apply LPut.succ | apply FillR.cons rfl rfl rfl))) ?_
    rintro _ _ ⟨b21, rfl, rfl⟩
    refine tl_lit (T := 9) (sz := 1) (enc := encS) [lineF r] rfl rfl rfl ?_
    refine tl_q rfl (ev_assign rfl) ?_
    refine tl_q rfl (ev_assign rfl) ?_
    refine tl_nil ?_
    refine te_code ?_
    refine t_ret ?_
    refine te_ret_k (pre := [arr _ _ encS _ [lineF r], stB sb eb ob, engB eb bb hh, boardB bb m1 m2 40 next, mp iI rowV m1 rows, blk bl (.cells [.int .i64 n].toArray 3 (0, 0)), powA, aheadI q]) (res2 rfl rfl rfl) (by repeat (first | exact Frm.nil | exact Take.here | apply Take.there | apply Frm.cons)) ?_
    exact ⟨_, rfl, rfl⟩

theorem show1N_ct (q : TypeId × (Nat × Nat)) (sb eb ob bb hh m1 m2 : Nat) (next : Int) (rows : List (Int × Row)) (bl : Nat) (n : Int) (hf : alook rows n = none) : CTm false Tryz.prog 87 #[.pointer (some ⟨sb, 0, none⟩), .pointer (some ⟨bl, 0, none⟩)] [stB sb eb ob, engB eb bb hh, boardB bb m1 m2 40 next, mp iI rowV m1 rows, blk bl (.cells [.int .i64 n].toArray 3 (0, 0)), powA, aheadI q] (fun v M => v = .tuple #[.slice none 0 0, .int .i64 5] ∧ M = [stB sb eb ob, engB eb bb hh, boardB bb m1 m2 40 next, mp iI rowV m1 rows, blk bl (.cells [.int .i64 n].toArray 3 (0, 0)), powA, aheadI q]) := by
  refine t_fun (vs := [.pointer (some ⟨sb, 0, none⟩), .pointer (some ⟨bl, 0, none⟩)]) (n := 22) Tryz.func87 rfl Tryz.ntmps87 rfl fun w0 F => ?_
  refine t_seq ?_
  refine t_region ?_
  refine tl_q rfl (ev_assign rfl) ?_
  refine tl_q rfl (ev_assign rfl) ?_
  refine tl_nil ?_
  refine te_code ?_
  refine t_seq ?_
  refine t_drawn_frm (pre := [engB eb bb hh, boardB bb m1 m2 40 next, mp iI rowV m1 rows]) (by repeat (first | exact Frm.nil | exact Take.here | apply Take.there | apply Frm.cons)) follows ?_
  refine tr_q 0 rfl (by kernel_rfl) (by kernel_rfl) (by kernel_rfl) rfl (fun _ h => hold_sub (by repeat (first | exact Frm.nil | exact Take.here | apply Take.there | apply Frm.cons)) h) (ev_move rfl) ?_
  refine tr_q 1 rfl (by kernel_rfl) (by kernel_rfl) (by kernel_rfl) rfl (fun _ h => hold_sub (by repeat (first | exact Frm.nil | exact Take.here | apply Take.there | apply Frm.cons)) h) (ev_nil_ptr rfl) ?_
  refine tr_q 2 rfl (by kernel_rfl) (by kernel_rfl) (by kernel_rfl) rfl (fun _ h => hold_sub (by repeat (first | exact Frm.nil | exact Take.here | apply Take.there | apply Frm.cons)) h) (ev_fieldAddr fa_35_0 rfl rfl) ?_
  refine tr_q 3 rfl (by kernel_rfl) (by kernel_rfl) (by kernel_rfl) rfl (fun _ h => hold_sub (by repeat (first | exact Frm.nil | exact Take.here | apply Take.there | apply Frm.cons)) h) (ev_load sc_30 rfl (by first | (left; (repeat (first | exact List.Mem.head _ | apply List.Mem.tail)); done) | (right; (repeat (first | exact List.Mem.head _ | apply List.Mem.tail)); done)) rfl) ?_
  refine tr_q 5 rfl (by kernel_rfl) (by kernel_rfl) (by kernel_rfl) rfl (fun _ h => hold_sub (by repeat (first | exact Frm.nil | exact Take.here | apply Take.there | apply Frm.cons)) h) (ev_load sc_3 rfl (by first | (left; (repeat (first | exact List.Mem.head _ | apply List.Mem.tail)); done) | (right; (repeat (first | exact List.Mem.head _ | apply List.Mem.tail)); done)) rfl) ?_
  refine tr_any [4, 10] (by kernel_rfl) (by simp) (all_cons ?_ (all_cons ?_ (all_nil)))
  · refine to_e rfl (eff_call rfl rfl body_7 rfl (by repeat (first | exact Frm.nil | exact Take.here | apply Take.there | apply Frm.cons)) (eng_Board_ct _ _ _)) (by rintro _ _ ⟨_, _, ⟨rfl, rfl⟩, rfl, rfl⟩; exact (fun _ h => hold_sub (by repeat (first | exact Frm.nil | exact Take.here | apply Take.there | apply Frm.cons)) h)) ?_
    rintro _ _ ⟨v12, _, ⟨rfl, rfl⟩, rfl, rfl⟩
    refine tr_any [6, 10] (by kernel_rfl) (by simp) (all_cons ?_ (all_cons ?_ (all_nil)))
    · refine to_e rfl (eff_call rfl rfl body_13 rfl (by repeat (first | exact Frm.nil | exact Take.here | apply Take.there | apply Frm.cons)) (board_Get_ct bb m1 m2 40 next rows [] n)) (by rintro _ _ ⟨_, _, ⟨rfl, rfl⟩, rfl, rfl⟩; exact (fun _ h => hold_sub (by repeat (first | exact Frm.nil | exact Take.here | apply Take.there | apply Frm.cons)) h)) ?_
      rintro _ _ ⟨v14, _, ⟨rfl, rfl⟩, rfl, rfl⟩
      rw [hf]
      refine tr_q 7 rfl (by kernel_rfl) (by kernel_rfl) (by kernel_rfl) rfl (fun _ h => hold_sub (by repeat (first | exact Frm.nil | exact Take.here | apply Take.there | apply Frm.cons)) h) (ev_move rfl) ?_
      refine tr_q 8 rfl (by kernel_rfl) (by kernel_rfl) (by kernel_rfl) rfl (fun _ h => hold_sub (by repeat (first | exact Frm.nil | exact Take.here | apply Take.there | apply Frm.cons)) h) (ev_extract rfl rfl) ?_
      refine tr_q 9 rfl (by kernel_rfl) (by kernel_rfl) (by kernel_rfl) rfl (fun _ h => hold_sub (by repeat (first | exact Frm.nil | exact Take.here | apply Take.there | apply Frm.cons)) h) (ev_extract rfl rfl) ?_
      refine tr_e 10 rfl (by kernel_rfl) (eff_alloc rfl zero_45 rfl) (by rintro _ _ ⟨_, rfl, rfl⟩; exact (fun _ h => hold_sub (by repeat (first | exact Frm.nil | exact Take.here | apply Take.there | apply Frm.cons)) h)) ?_
      rintro _ _ ⟨b5, rfl, rfl⟩
      refine tr_e 11 rfl (by kernel_rfl) (eff_store (v := rowV ⟨0, ⟨⟨#[]⟩, ⟨#[]⟩, ⟨#[]⟩, 0, ⟨#[]⟩⟩, 0, 0, 0, false, ⟨#[]⟩⟩) rfl rfl rfl rfl sz_45 (flatRow ⟨0, ⟨⟨#[]⟩, ⟨#[]⟩, ⟨#[]⟩, 0, ⟨#[]⟩⟩, 0, 0, 0, false, ⟨#[]⟩⟩) (by repeat (first | exact Upd.here | apply Upd.there)) (by repeat (first | exact LPut.nil | apply LPut.cons | apply LPut.succ))) (by rintro _ _ ⟨rfl, rfl⟩; exact (fun _ h => hold_sub (by repeat (first | exact Frm.nil | exact Take.here | apply Take.there | apply Frm.cons)) h)) ?_
      rintro _ _ ⟨rfl, rfl⟩
      refine tr_q 12 rfl (by kernel_rfl) (by kernel_rfl) (by kernel_rfl) rfl (fun _ h => hold_sub (by repeat (first | exact Frm.nil | exact Take.here | apply Take.there | apply Frm.cons)) h) (ev_assign rfl) ?_
      refine tr_done (by kernel_rfl) ?_
      refine te_code ?_
      refine t_seq ?_
      refine t_seq ?_
      refine t_region ?_
      refine tl_q rfl (ev_move rfl) ?_
      refine tl_q rfl (ev_not rfl) ?_
      refine tl_nil ?_
      refine te_code ?_
      refine t_cond_yes rfl (by first | rfl | (simp; done) | (simp; omega) | simp_all) ?_
      refine t_seq ?_
      refine t_region ?_
      refine tl_q rfl (ev_assign rfl) ?_
      refine tl_q rfl (ev_assign rfl) ?_
      refine tl_nil ?_
      refine te_code ?_
      refine t_ret ?_
      refine te_ret_k (pre := [stB sb eb ob, engB eb bb hh, boardB bb m1 m2 40 next, mp iI rowV m1 rows, blk bl (.cells [.int .i64 n].toArray 3 (0, 0)), powA, aheadI q]) (res2 rfl rfl rfl) (by repeat (first | exact Frm.nil | exact Take.here | apply Take.there | apply Frm.cons)) ?_
      exact ⟨rfl, rfl⟩
    · refine to_e rfl (eff_alloc rfl zero_45 rfl) (by rintro _ _ ⟨_, rfl, rfl⟩; exact (fun _ h => hold_sub (by repeat (first | exact Frm.nil | exact Take.here | apply Take.there | apply Frm.cons)) h)) ?_
      rintro _ _ ⟨b5, rfl, rfl⟩
      refine tr_e 6 rfl (by kernel_rfl) (eff_call rfl rfl body_13 rfl (by repeat (first | exact Frm.nil | exact Take.here | apply Take.there | apply Frm.cons)) (board_Get_ct bb m1 m2 40 next rows [] n)) (by rintro _ _ ⟨_, _, ⟨rfl, rfl⟩, rfl, rfl⟩; exact (fun _ h => hold_sub (by repeat (first | exact Frm.nil | exact Take.here | apply Take.there | apply Frm.cons)) h)) ?_
      rintro _ _ ⟨v14, _, ⟨rfl, rfl⟩, rfl, rfl⟩
      rw [hf]
      refine tr_q 7 rfl (by kernel_rfl) (by kernel_rfl) (by kernel_rfl) rfl (fun _ h => hold_sub (by repeat (first | exact Frm.nil | exact Take.here | apply Take.there | apply Frm.cons)) h) (ev_move rfl) ?_
      refine tr_q 8 rfl (by kernel_rfl) (by kernel_rfl) (by kernel_rfl) rfl (fun _ h => hold_sub (by repeat (first | exact Frm.nil | exact Take.here | apply Take.there | apply Frm.cons)) h) (ev_extract rfl rfl) ?_
      refine tr_q 9 rfl (by kernel_rfl) (by kernel_rfl) (by kernel_rfl) rfl (fun _ h => hold_sub (by repeat (first | exact Frm.nil | exact Take.here | apply Take.there | apply Frm.cons)) h) (ev_extract rfl rfl) ?_
      refine tr_e 11 rfl (by kernel_rfl) (eff_store (v := rowV ⟨0, ⟨⟨#[]⟩, ⟨#[]⟩, ⟨#[]⟩, 0, ⟨#[]⟩⟩, 0, 0, 0, false, ⟨#[]⟩⟩) rfl rfl rfl rfl sz_45 (flatRow ⟨0, ⟨⟨#[]⟩, ⟨#[]⟩, ⟨#[]⟩, 0, ⟨#[]⟩⟩, 0, 0, 0, false, ⟨#[]⟩⟩) (by repeat (first | exact Upd.here | apply Upd.there)) (by repeat (first | exact LPut.nil | apply LPut.cons | apply LPut.succ))) (by rintro _ _ ⟨rfl, rfl⟩; exact (fun _ h => hold_sub (by repeat (first | exact Frm.nil | exact Take.here | apply Take.there | apply Frm.cons)) h)) ?_
      rintro _ _ ⟨rfl, rfl⟩
      refine tr_q 12 rfl (by kernel_rfl) (by kernel_rfl) (by kernel_rfl) rfl (fun _ h => hold_sub (by repeat (first | exact Frm.nil | exact Take.here | apply Take.there | apply Frm.cons)) h) (ev_assign rfl) ?_
      refine tr_done (by kernel_rfl) ?_
      refine te_code ?_
      refine t_seq ?_
      refine t_seq ?_
      refine t_region ?_
      refine tl_q rfl (ev_move rfl) ?_
      refine tl_q rfl (ev_not rfl) ?_
      refine tl_nil ?_
      refine te_code ?_
      refine t_cond_yes rfl (by first | rfl | (simp; done) | (simp; omega) | simp_all) ?_
      refine t_seq ?_
      refine t_region ?_
      refine tl_q rfl (ev_assign rfl) ?_
      refine tl_q rfl (ev_assign rfl) ?_
      refine tl_nil ?_
      refine te_code ?_
      refine t_ret ?_
      refine te_ret_k (pre := [stB sb eb ob, engB eb bb hh, boardB bb m1 m2 40 next, mp iI rowV m1 rows, blk bl (.cells [.int .i64 n].toArray 3 (0, 0)), powA, aheadI q]) (res2 rfl rfl rfl) (by repeat (first | exact Frm.nil | exact Take.here | apply Take.there | apply Frm.cons)) ?_
      exact ⟨rfl, rfl⟩
  · refine to_e rfl (eff_alloc rfl zero_45 rfl) (by rintro _ _ ⟨_, rfl, rfl⟩; exact (fun _ h => hold_sub (by repeat (first | exact Frm.nil | exact Take.here | apply Take.there | apply Frm.cons)) h)) ?_
    rintro _ _ ⟨b5, rfl, rfl⟩
    refine tr_e 4 rfl (by kernel_rfl) (eff_call rfl rfl body_7 rfl (by repeat (first | exact Frm.nil | exact Take.here | apply Take.there | apply Frm.cons)) (eng_Board_ct _ _ _)) (by rintro _ _ ⟨_, _, ⟨rfl, rfl⟩, rfl, rfl⟩; exact (fun _ h => hold_sub (by repeat (first | exact Frm.nil | exact Take.here | apply Take.there | apply Frm.cons)) h)) ?_
    rintro _ _ ⟨v12, _, ⟨rfl, rfl⟩, rfl, rfl⟩
    refine tr_e 6 rfl (by kernel_rfl) (eff_call rfl rfl body_13 rfl (by repeat (first | exact Frm.nil | exact Take.here | apply Take.there | apply Frm.cons)) (board_Get_ct bb m1 m2 40 next rows [] n)) (by rintro _ _ ⟨_, _, ⟨rfl, rfl⟩, rfl, rfl⟩; exact (fun _ h => hold_sub (by repeat (first | exact Frm.nil | exact Take.here | apply Take.there | apply Frm.cons)) h)) ?_
    rintro _ _ ⟨v14, _, ⟨rfl, rfl⟩, rfl, rfl⟩
    rw [hf]
    refine tr_q 7 rfl (by kernel_rfl) (by kernel_rfl) (by kernel_rfl) rfl (fun _ h => hold_sub (by repeat (first | exact Frm.nil | exact Take.here | apply Take.there | apply Frm.cons)) h) (ev_move rfl) ?_
    refine tr_q 8 rfl (by kernel_rfl) (by kernel_rfl) (by kernel_rfl) rfl (fun _ h => hold_sub (by repeat (first | exact Frm.nil | exact Take.here | apply Take.there | apply Frm.cons)) h) (ev_extract rfl rfl) ?_
    refine tr_q 9 rfl (by kernel_rfl) (by kernel_rfl) (by kernel_rfl) rfl (fun _ h => hold_sub (by repeat (first | exact Frm.nil | exact Take.here | apply Take.there | apply Frm.cons)) h) (ev_extract rfl rfl) ?_
    refine tr_e 11 rfl (by kernel_rfl) (eff_store (v := rowV ⟨0, ⟨⟨#[]⟩, ⟨#[]⟩, ⟨#[]⟩, 0, ⟨#[]⟩⟩, 0, 0, 0, false, ⟨#[]⟩⟩) rfl rfl rfl rfl sz_45 (flatRow ⟨0, ⟨⟨#[]⟩, ⟨#[]⟩, ⟨#[]⟩, 0, ⟨#[]⟩⟩, 0, 0, 0, false, ⟨#[]⟩⟩) (by repeat (first | exact Upd.here | apply Upd.there)) (by repeat (first | exact LPut.nil | apply LPut.cons | apply LPut.succ))) (by rintro _ _ ⟨rfl, rfl⟩; exact (fun _ h => hold_sub (by repeat (first | exact Frm.nil | exact Take.here | apply Take.there | apply Frm.cons)) h)) ?_
    rintro _ _ ⟨rfl, rfl⟩
    refine tr_q 12 rfl (by kernel_rfl) (by kernel_rfl) (by kernel_rfl) rfl (fun _ h => hold_sub (by repeat (first | exact Frm.nil | exact Take.here | apply Take.there | apply Frm.cons)) h) (ev_assign rfl) ?_
    refine tr_done (by kernel_rfl) ?_
    refine te_code ?_
    refine t_seq ?_
    refine t_seq ?_
    refine t_region ?_
    refine tl_q rfl (ev_move rfl) ?_
    refine tl_q rfl (ev_not rfl) ?_
    refine tl_nil ?_
    refine te_code ?_
    refine t_cond_yes rfl (by first | rfl | (simp; done) | (simp; omega) | simp_all) ?_
    refine t_seq ?_
    refine t_region ?_
    refine tl_q rfl (ev_assign rfl) ?_
    refine tl_q rfl (ev_assign rfl) ?_
    refine tl_nil ?_
    refine te_code ?_
    refine t_ret ?_
    refine te_ret_k (pre := [stB sb eb ob, engB eb bb hh, boardB bb m1 m2 40 next, mp iI rowV m1 rows, blk bl (.cells [.int .i64 n].toArray 3 (0, 0)), powA, aheadI q]) (res2 rfl rfl rfl) (by repeat (first | exact Frm.nil | exact Take.here | apply Take.there | apply Frm.cons)) ?_
    exact ⟨rfl, rfl⟩

theorem say_ct (b3 : Nat) (ov : Value) (xs : List ByteArray) (hl : xs.length ≤ 100) (s : ByteArray) (hs : s.size ≤ 100) (n : Int) (hn : -9223372036854775808 ≤ n ∧ n ≤ 9223372036854775807) : CT Tryz.prog 88 #[.string s, .int .i64 n, .pointer (some ⟨b3, 0, none⟩)] [blk b3 (.cells [ov].toArray 38 (0, 0)), arr 9 1 encS ov xs, powA] (fun v M => ∃ ov', v = .tuple #[] ∧ M = [blk b3 (.cells [ov'].toArray 38 (0, 0)), arr 9 1 encS ov' (xs ++ [s ++ ⟨#[32]⟩ ++ itoaB n]), powA]) := by
  refine t_fun (vs := [.string s, .int .i64 n, .pointer (some ⟨b3, 0, none⟩)]) (n := 13) Tryz.func88 rfl Tryz.ntmps88 rfl fun w0 F => ?_
  have hi2 := itoa_le n hn.1 hn.2
  refine t_drawn_frm (pre := [blk b3 (.cells [ov].toArray 38 (0, 0)), arr 9 1 encS ov xs]) (by repeat (first | exact Frm.nil | exact Take.here | apply Take.there | apply Frm.cons)) follows ?_
  refine tr_q 1 rfl (by kernel_rfl) (by kernel_rfl) (by kernel_rfl) rfl (fun _ h => hold_sub (by repeat (first | exact Frm.nil | exact Take.here | apply Take.there | apply Frm.cons)) h) (ev_move rfl) ?_
  refine tr_q 2 rfl (by kernel_rfl) (by kernel_rfl) (by kernel_rfl) rfl (fun _ h => hold_sub (by repeat (first | exact Frm.nil | exact Take.here | apply Take.there | apply Frm.cons)) h) (ev_sadd rfl rfl (by rw [size_l1]; omega)) ?_
  refine tr_q 3 rfl (by kernel_rfl) (by kernel_rfl) (by kernel_rfl) rfl (fun _ h => hold_sub (by repeat (first | exact Frm.nil | exact Take.here | apply Take.there | apply Frm.cons)) h) (ev_move rfl) ?_
  refine tr_any [0, 4] (by kernel_rfl) (by simp) (all_cons ?_ (all_cons ?_ (all_nil)))
  · refine to_e rfl (eff_ev rfl (ev_load sc_38 rfl (by first | (left; (repeat (first | exact List.Mem.head _ | apply List.Mem.tail)); done) | (right; (repeat (first | exact List.Mem.head _ | apply List.Mem.tail)); done)) rfl)) (by rintro _ _ ⟨rfl, rfl⟩; exact (fun _ h => hold_sub (by repeat (first | exact Frm.nil | exact Take.here | apply Take.there | apply Frm.cons)) h)) ?_
    rintro _ _ ⟨rfl, rfl⟩
    refine tr_e 4 rfl (by kernel_rfl) (eff_call rfl rfl body_10 rfl (by repeat (first | exact Frm.nil | exact Take.here | apply Take.there | apply Frm.cons)) (Itoa_ct n hn.1 hn.2)) (by rintro _ _ ⟨_, _, ⟨rfl, rfl⟩, rfl, rfl⟩; exact (fun _ h => hold_sub (by repeat (first | exact Frm.nil | exact Take.here | apply Take.there | apply Frm.cons)) h)) ?_
    rintro _ _ ⟨v9, _, ⟨rfl, rfl⟩, rfl, rfl⟩
    refine tr_q 5 rfl (by kernel_rfl) (by kernel_rfl) (by kernel_rfl) rfl (fun _ h => hold_sub (by repeat (first | exact Frm.nil | exact Take.here | apply Take.there | apply Frm.cons)) h) (ev_sadd rfl rfl (by rw [ByteArray.size_append, size_l1]; omega)) ?_
    refine tr_e 6 rfl (by kernel_rfl) (eff_buildSl rfl bs_38_1 rfl (by repeat (first | exact FillR.nil | exact LPut.nil | apply LPut.cons | apply LPut.succ | apply FillR.cons rfl rfl rfl))) (by rintro _ _ ⟨_, rfl, rfl⟩; exact (fun _ h => hold_sub (by repeat (first | exact Frm.nil | exact Take.here | apply Take.there | apply Frm.cons)) h)) ?_
    rintro _ _ ⟨b11, rfl, rfl⟩
    refine tr_e 7 rfl (by kernel_rfl) (eff_append (ys := [s ++ ⟨#[32]⟩ ++ itoaB n]) rfl sl_38 Tryz.underlying38 zero_9 rfl by_9 rfl rfl (by repeat (first | exact Take.here | apply Take.there)) (HasArr.lit (by first | (left; (repeat (first | exact List.Mem.head _ | apply List.Mem.tail)); done) | (right; (repeat (first | exact List.Mem.head _ | apply List.Mem.tail)); done)) rfl rfl) (by intro _; rfl) flatS (by simp only [List.length_cons, List.length_nil]; omega) (by decide)) (by rintro _ _ ⟨_, rfl, rfl⟩; exact (fun _ h => hold_sub (by repeat (first | exact Frm.nil | exact Take.here | apply Take.there | apply Frm.cons)) h)) ?_
    rintro _ _ ⟨v12, rfl, rfl⟩
    refine tr_shape (enc := encS) (sz := 1) (v := v12) (by first | exact HasArr.own (by repeat (first | exact List.Mem.head _ | apply List.Mem.tail)) | exact HasArr.sh (by repeat (first | exact List.Mem.head _ | apply List.Mem.tail))) (by intro _; rfl) (fun hsh2 => ?_)
    obtain ⟨p2, q2, c2, rfl⟩ := shape_sl hsh2
    refine tr_e 8 rfl (by kernel_rfl) (eff_store rfl rfl rfl rfl sz_38 (by first | (simp [Flat]; done) | exact flatS _ | exact flatB _ | exact flatTick _ | exact flatRow _ | exact flatEvt _ | exact flatI _) (by repeat (first | exact Upd.here | apply Upd.there)) (by repeat (first | exact LPut.nil | apply LPut.cons | apply LPut.succ))) (by rintro _ _ ⟨rfl, rfl⟩; exact (fun _ h => hold_sub (by repeat (first | exact Frm.nil | exact Take.here | apply Take.there | apply Frm.cons)) h)) ?_
    rintro _ _ ⟨rfl, rfl⟩
    refine tr_done (by kernel_rfl) ?_
    refine te_end_k (pre := [blk b3 (.cells [_].toArray 38 (0, 0)), arr _ _ encS _ _, powA]) (res0 rfl) (by repeat (first | exact Frm.nil | exact Take.here | apply Take.there | apply Frm.cons)) ?_
    exact ⟨_, rfl, rfl⟩
  · refine to_e rfl (eff_call rfl rfl body_10 rfl (by repeat (first | exact Frm.nil | exact Take.here | apply Take.there | apply Frm.cons)) (Itoa_ct n hn.1 hn.2)) (by rintro _ _ ⟨_, _, ⟨rfl, rfl⟩, rfl, rfl⟩; exact (fun _ h => hold_sub (by repeat (first | exact Frm.nil | exact Take.here | apply Take.there | apply Frm.cons)) h)) ?_
    rintro _ _ ⟨v9, _, ⟨rfl, rfl⟩, rfl, rfl⟩
    refine tr_q 5 rfl (by kernel_rfl) (by kernel_rfl) (by kernel_rfl) rfl (fun _ h => hold_sub (by repeat (first | exact Frm.nil | exact Take.here | apply Take.there | apply Frm.cons)) h) (ev_sadd rfl rfl (by rw [ByteArray.size_append, size_l1]; omega)) ?_
    refine tr_any [0, 6] (by kernel_rfl) (by simp) (all_cons ?_ (all_cons ?_ (all_nil)))
    · refine to_e rfl (eff_ev rfl (ev_load sc_38 rfl (by first | (left; (repeat (first | exact List.Mem.head _ | apply List.Mem.tail)); done) | (right; (repeat (first | exact List.Mem.head _ | apply List.Mem.tail)); done)) rfl)) (by rintro _ _ ⟨rfl, rfl⟩; exact (fun _ h => hold_sub (by repeat (first | exact Frm.nil | exact Take.here | apply Take.there | apply Frm.cons)) h)) ?_
      rintro _ _ ⟨rfl, rfl⟩
      refine tr_e 6 rfl (by kernel_rfl) (eff_buildSl rfl bs_38_1 rfl (by repeat (first | exact FillR.nil | exact LPut.nil | apply LPut.cons | apply LPut.succ | apply FillR.cons rfl rfl rfl))) (by rintro _ _ ⟨_, rfl, rfl⟩; exact (fun _ h => hold_sub (by repeat (first | exact Frm.nil | exact Take.here | apply Take.there | apply Frm.cons)) h)) ?_
      rintro _ _ ⟨b11, rfl, rfl⟩
      refine tr_e 7 rfl (by kernel_rfl) (eff_append (ys := [s ++ ⟨#[32]⟩ ++ itoaB n]) rfl sl_38 Tryz.underlying38 zero_9 rfl by_9 rfl rfl (by repeat (first | exact Take.here | apply Take.there)) (HasArr.lit (by first | (left; (repeat (first | exact List.Mem.head _ | apply List.Mem.tail)); done) | (right; (repeat (first | exact List.Mem.head _ | apply List.Mem.tail)); done)) rfl rfl) (by intro _; rfl) flatS (by simp only [List.length_cons, List.length_nil]; omega) (by decide)) (by rintro _ _ ⟨_, rfl, rfl⟩; exact (fun _ h => hold_sub (by repeat (first | exact Frm.nil | exact Take.here | apply Take.there | apply Frm.cons)) h)) ?_
      rintro _ _ ⟨v12, rfl, rfl⟩
      refine tr_shape (enc := encS) (sz := 1) (v := v12) (by first | exact HasArr.own (by repeat (first | exact List.Mem.head _ | apply List.Mem.tail)) | exact HasArr.sh (by repeat (first | exact List.Mem.head _ | apply List.Mem.tail))) (by intro _; rfl) (fun hsh2 => ?_)
      obtain ⟨p2, q2, c2, rfl⟩ := shape_sl hsh2
      refine tr_e 8 rfl (by kernel_rfl) (eff_store rfl rfl rfl rfl sz_38 (by first | (simp [Flat]; done) | exact flatS _ | exact flatB _ | exact flatTick _ | exact flatRow _ | exact flatEvt _ | exact flatI _) (by repeat (first | exact Upd.here | apply Upd.there)) (by repeat (first | exact LPut.nil | apply LPut.cons | apply LPut.succ))) (by rintro _ _ ⟨rfl, rfl⟩; exact (fun _ h => hold_sub (by repeat (first | exact Frm.nil | exact Take.here | apply Take.there | apply Frm.cons)) h)) ?_
      rintro _ _ ⟨rfl, rfl⟩
      refine tr_done (by kernel_rfl) ?_
      refine te_end_k (pre := [blk b3 (.cells [_].toArray 38 (0, 0)), arr _ _ encS _ _, powA]) (res0 rfl) (by repeat (first | exact Frm.nil | exact Take.here | apply Take.there | apply Frm.cons)) ?_
      exact ⟨_, rfl, rfl⟩
    · refine to_e rfl (eff_buildSl rfl bs_38_1 rfl (by repeat (first | exact FillR.nil | exact LPut.nil | apply LPut.cons | apply LPut.succ | apply FillR.cons rfl rfl rfl))) (by rintro _ _ ⟨_, rfl, rfl⟩; exact (fun _ h => hold_sub (by repeat (first | exact Frm.nil | exact Take.here | apply Take.there | apply Frm.cons)) h)) ?_
      rintro _ _ ⟨b11, rfl, rfl⟩
      refine tr_e 0 rfl (by kernel_rfl) (eff_ev rfl (ev_load sc_38 rfl (by first | (left; (repeat (first | exact List.Mem.head _ | apply List.Mem.tail)); done) | (right; (repeat (first | exact List.Mem.head _ | apply List.Mem.tail)); done)) rfl)) (by rintro _ _ ⟨rfl, rfl⟩; exact (fun _ h => hold_sub (by repeat (first | exact Frm.nil | exact Take.here | apply Take.there | apply Frm.cons)) h)) ?_
      rintro _ _ ⟨rfl, rfl⟩
      refine tr_e 7 rfl (by kernel_rfl) (eff_append (ys := [s ++ ⟨#[32]⟩ ++ itoaB n]) rfl sl_38 Tryz.underlying38 zero_9 rfl by_9 rfl rfl (by repeat (first | exact Take.here | apply Take.there)) (HasArr.lit (by first | (left; (repeat (first | exact List.Mem.head _ | apply List.Mem.tail)); done) | (right; (repeat (first | exact List.Mem.head _ | apply List.Mem.tail)); done)) rfl rfl) (by intro _; rfl) flatS (by simp only [List.length_cons, List.length_nil]; omega) (by decide)) (by rintro _ _ ⟨_, rfl, rfl⟩; exact (fun _ h => hold_sub (by repeat (first | exact Frm.nil | exact Take.here | apply Take.there | apply Frm.cons)) h)) ?_
      rintro _ _ ⟨v12, rfl, rfl⟩
      refine tr_shape (enc := encS) (sz := 1) (v := v12) (by first | exact HasArr.own (by repeat (first | exact List.Mem.head _ | apply List.Mem.tail)) | exact HasArr.sh (by repeat (first | exact List.Mem.head _ | apply List.Mem.tail))) (by intro _; rfl) (fun hsh2 => ?_)
      obtain ⟨p2, q2, c2, rfl⟩ := shape_sl hsh2
      refine tr_e 8 rfl (by kernel_rfl) (eff_store rfl rfl rfl rfl sz_38 (by first | (simp [Flat]; done) | exact flatS _ | exact flatB _ | exact flatTick _ | exact flatRow _ | exact flatEvt _ | exact flatI _) (by repeat (first | exact Upd.here | apply Upd.there)) (by repeat (first | exact LPut.nil | apply LPut.cons | apply LPut.succ))) (by rintro _ _ ⟨rfl, rfl⟩; exact (fun _ h => hold_sub (by repeat (first | exact Frm.nil | exact Take.here | apply Take.there | apply Frm.cons)) h)) ?_
      rintro _ _ ⟨rfl, rfl⟩
      refine tr_done (by kernel_rfl) ?_
      refine te_end_k (pre := [blk b3 (.cells [_].toArray 38 (0, 0)), arr _ _ encS _ _, powA]) (res0 rfl) (by repeat (first | exact Frm.nil | exact Take.here | apply Take.there | apply Frm.cons)) ?_
      exact ⟨_, rfl, rfl⟩

end Go.SL
