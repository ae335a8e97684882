/- Contracts of filter.rows and lines. -/
import Derived.Test.YtimhhegebkganaaGreatDoorProg
import Derived.Test.YtimhhegebkganaaGreatDoorGZA
set_option linter.unusedSimpArgs false
set_option linter.unusedVariables false
set_option maxRecDepth 4000
namespace Go.SL
open Go.Proofs

theorem body_138 : (Tryz.prog.funcs[138]?).map (fun fn => fn.body.isSome && !(fn.name == "runtime.NumGoroutine")) = some true := by kernel_rfl
theorem body_8 : (Tryz.prog.funcs[8]?).map (fun fn => fn.body.isSome && !(fn.name == "runtime.NumGoroutine")) = some true := by kernel_rfl
theorem body_86 : (Tryz.prog.funcs[86]?).map (fun fn => fn.body.isSome && !(fn.name == "runtime.NumGoroutine")) = some true := by kernel_rfl
theorem body_11 : (Tryz.prog.funcs[11]?).map (fun fn => fn.body.isSome && !(fn.name == "runtime.NumGoroutine")) = some true := by kernel_rfl

theorem rows_ct (tA : Asrt) (tv : Value) (p : Row → Bool) (hC : ∀ b7 r, CT Tryz.prog 138 #[tv, .func (.func 139) #[] #[.pointer (some ⟨b7, 0, none⟩)]] [blk b7 (.cells (encRow r).toArray 45 (0, 0)), tA] (fun v M => v = .bool (!p r) ∧ M = [blk b7 (.cells (encRow r).toArray 45 (0, 0)), tA])) (bf k : Nat) (nF : Row → Int) (hk : ∀ r, CT Tryz.prog k #[.agg (encRow r).toArray] [] (fun v M => v = .int .i64 (nF r) ∧ M = [])) (hbk : (Tryz.prog.funcs[k]?).map (fun fn => fn.body.isSome && !(fn.name == "runtime.NumGoroutine")) = some true) (lim : Int) (rv : Value) (xs : List Row) (hl : xs.length ≤ 1000000) (hlim : lim < 0 ∨ (xs.length : Int) ≤ lim) : CT Tryz.prog 86 #[.agg #[tv, .func (.func 131) #[] #[.pointer (some ⟨bf, 0, none⟩)], .int .i64 lim], rv] [arr 45 11 encRow rv xs, tA, imm bf (.cells #[.func (.func k) #[] #[]] 183 (0, 0))] (fun v M => ∃ (sv : Value) (ys : List Row), v = sv ∧ ys.Perm (xs.filter p) ∧ ys.Pairwise (byLe nF) ∧ M = [arr 45 11 encRow sv ys, arr 45 11 encRow rv xs, tA, imm bf (.cells #[.func (.func k) #[] #[]] 183 (0, 0))]) := by
  refine t_fun (vs := [.agg #[tv, .func (.func 131) #[] #[.pointer (some ⟨bf, 0, none⟩)], .int .i64 lim], rv]) (n := 43) Tryz.func86 rfl Tryz.ntmps86 rfl fun w0 F => ?_
  refine t_shape (enc := encRow) (sz := 11) (v := rv) (xs := xs) (by first | exact HasArr.own (by repeat (first | exact List.Mem.head _ | apply List.Mem.tail)) | exact HasArr.sh (by repeat (first | exact List.Mem.head _ | apply List.Mem.tail))) (by intro _; rfl) (fun hsh => ?_)
  have hfx := List.length_filter_le p xs
  refine t_nil_arr 45 11 encRow ?_
  refine t_seq ?_
  refine t_region ?_
  refine tl_e (eff_box rfl rfl rfl) ?_
  rintro _ _ ⟨b2, rfl, rfl⟩
  refine tl_q rfl (ev_assign rfl) ?_
  refine tl_nil ?_
  refine te_code ?_
  refine t_seq ?_
  refine t_region ?_
  refine tl_q rfl (ev_assign rfl) ?_
  refine tl_nil ?_
  refine te_code ?_
  refine t_seq ?_
  refine t_seq ?_
  refine t_region ?_
  refine tl_q rfl (ev_move rfl) ?_
  refine tl_q rfl (ev_len_sh sl_22 rfl (by assumption)) ?_
  refine tl_q rfl (ev_move rfl) ?_
  refine tl_nil ?_
  refine te_code ?_
  refine t_block ?_
  refine t_loop (α := Nat × Value) (fun q => [(10, .int .i64 (q.1 : Int)), (9, .int .i64 (xs.length : Int)), (8, rv), (5, q.2), (2, .pointer (some ⟨b2, 0, none⟩))]) (fun q => [arr 45 11 encRow rv xs, arr 45 11 encRow q.2 ((xs.take q.1).filter p), blk b2 (.cells [tv, .func (.func 131) #[] #[.pointer (some ⟨bf, 0, none⟩)], .int .i64 lim].toArray 142 (0, 0)), tA, imm bf (.cells #[.func (.func k) #[] #[]] 183 (0, 0))]) (fun q => xs.length - q.1) (fun q => q.1 ≤ xs.length) (0, .slice none 0 0) (by simp) (by exact sub_cons rfl (sub_cons rfl (sub_cons rfl (sub_cons rfl (sub_cons rfl (sub_nil)))))) (fun _ h => hold_keep (by repeat (first | exact Frm.nil | exact Take.here | apply Take.there | apply Frm.cons)) h) ?_
  rintro ⟨i, ov⟩ hi
  try dsimp only
  dsimp only at hi
  refine t_seq ?_
  refine t_region ?_
  refine tl_q rfl (ev_lss rfl rfl) ?_
  refine tl_nil ?_
  refine te_code ?_
  refine t_seq ?_
  refine t_cond_dec rfl (fun h0 => ?_) (fun h0 => ?_)
  · obtain ⟨u, hu⟩ := get_ex (show (i : Int) < xs.length by omega)
    have hfl := List.length_filter_le p (xs.take i)
    rw [List.length_take] at hfl
    refine t_skip ?_
    refine te_code ?_
    refine t_seq ?_
    refine t_block ?_
    refine t_seq ?_
    refine t_region ?_
    refine tl_q rfl (ev_at_sh sl_22 rfl rfl (by assumption) (by omega)) ?_
    refine tl_q rfl (ev_load_at_agg ag_45 rfl (by first | exact HasArr.own (by repeat (first | exact List.Mem.head _ | apply List.Mem.tail)) | exact HasArr.sh (by repeat (first | exact List.Mem.head _ | apply List.Mem.tail))) (by intro _; rfl) (by assumption) (by rfl)) ?_
    refine tl_e (eff_alloc rfl zero_45 rfl) ?_
    rintro _ _ ⟨b7, rfl, rfl⟩
    refine tl_e (eff_store rfl rfl rfl rfl sz_45 (by first | (simp [Flat]; done) | exact flatS _ | exact flatB _ | exact flatTick _ | exact flatRow _ | exact flatEvt _ | exact flatI _) (by repeat (first | exact Upd.here | apply Upd.there)) (by repeat (first | exact LPut.nil | apply LPut.cons | apply LPut.succ))) ?_
    rintro _ _ ⟨rfl, rfl⟩
    refine tl_nil ?_
    refine te_code ?_
    refine t_seq ?_
    refine t_region ?_
    refine tl_q rfl (ev_fieldAddr fa_142_0 rfl rfl) ?_
    refine tl_q rfl (ev_load sc_140 rfl (by first | (left; (repeat (first | exact List.Mem.head _ | apply List.Mem.tail)); done) | (right; (repeat (first | exact List.Mem.head _ | apply List.Mem.tail)); done)) rfl) ?_
    refine tl_q rfl (ev_makeFunc rfl rfl) ?_
    refine tl_e (eff_call rfl rfl body_138 rfl (by repeat (first | exact Frm.nil | exact Take.here | apply Take.there | apply Frm.cons)) (hC _ u)) ?_
    rintro _ _ ⟨v17, _, ⟨rfl, rfl⟩, rfl, rfl⟩
    refine tl_q rfl (ev_not rfl) ?_
    refine tl_nil ?_
    refine te_code ?_
    refine t_cond rfl (fun h1 => ?_) (fun h1 => ?_)
    · refine t_region ?_
      refine tl_q rfl (ev_move rfl) ?_
      refine tl_q rfl (ev_load_agg ag_45 rfl (by first | (left; (repeat (first | exact List.Mem.head _ | apply List.Mem.tail)); done) | (right; (repeat (first | exact List.Mem.head _ | apply List.Mem.tail)); done)) (by repeat (first | exact LDrop.zero | apply LDrop.succ)) (by repeat (first | exact LTake.zero | apply LTake.succ))) ?_
      refine tl_e (eff_buildSl rfl bs_22_1 rfl (by repeat (first | exact FillR.nil | exact LPut.nil | apply LPut.cons | apply LPut.succ | apply FillR.cons rfl rfl rfl))) ?_
      rintro _ _ ⟨b21, rfl, rfl⟩
      refine tl_e (eff_append (ys := [u]) rfl sl_22 Tryz.underlying22 zero_45 rfl by_45 rfl rfl (by repeat (first | exact Take.here | apply Take.there)) (HasArr.lit (by first | (left; (repeat (first | exact List.Mem.head _ | apply List.Mem.tail)); done) | (right; (repeat (first | exact List.Mem.head _ | apply List.Mem.tail)); done)) rfl rfl) (by intro _; rfl) flatRow (by simp only [List.length_cons, List.length_nil]; omega) (by decide)) ?_
      rintro _ _ ⟨v22, rfl, rfl⟩
      rw [show (xs.take i).filter p ++ [u] = (xs.take (i + 1)).filter p from by rw [take_filter p hu]; simp at h1; simp [h1]]
      refine tl_q rfl (ev_assign rfl) ?_
      refine tl_nil ?_
      refine te_blk ?_
      refine te_code ?_
      refine t_region ?_
      refine tl_q rfl (ev_add' rfl rfl (by omega)) ?_
      refine tl_q rfl (ev_move rfl) ?_
      refine tl_nil ?_
      exact te_round (i + 1, _) (by exact sub_cons rfl (sub_cons rfl (sub_cons rfl (sub_cons rfl (sub_cons rfl (sub_nil)))))) (fun _ h => hold_keep (by repeat (first | exact Frm.nil | exact Take.here | apply Take.there | apply Frm.cons)) h) (by dsimp only; omega) (by dsimp only; omega)
    · rw [show (xs.take i).filter p = (xs.take (i + 1)).filter p from by rw [take_filter p hu]; simp at h1; simp [h1]]
      refine t_skip ?_
      refine te_blk ?_
      refine te_code ?_
      refine t_region ?_
      refine tl_q rfl (ev_add' rfl rfl (by omega)) ?_
      refine tl_q rfl (ev_move rfl) ?_
      refine tl_nil ?_
      exact te_round (i + 1, _) (by exact sub_cons rfl (sub_cons rfl (sub_cons rfl (sub_cons rfl (sub_cons rfl (sub_nil)))))) (fun _ h => hold_keep (by repeat (first | exact Frm.nil | exact Take.here | apply Take.there | apply Frm.cons)) h) (by dsimp only; omega) (by dsimp only; omega)
  · obtain rfl : i = xs.length := by omega
    simp only [List.take_length]
    refine t_exit ?_
    refine te_exit_code ?_
    refine te_exit_rnd ?_
    refine te_exit_here ?_
    refine te_code ?_
    refine t_seq ?_
    refine t_region ?_
    refine tl_q rfl (ev_move rfl) ?_
    refine tl_q rfl (ev_fieldAddr fa_142_1 rfl rfl) ?_
    refine tl_q rfl (ev_load sc_95 rfl (by first | (left; (repeat (first | exact List.Mem.head _ | apply List.Mem.tail)); done) | (right; (repeat (first | exact List.Mem.head _ | apply List.Mem.tail)); done)) rfl) ?_
    refine tl_e (eff_call rfl rfl body_45 rfl (by repeat (first | exact Frm.nil | exact Take.here | apply Take.there | apply Frm.cons)) (SortBy_ct bf k nF hk hbk _ _ (by omega))) ?_
    rintro _ _ ⟨v27, _, ⟨rfl, ys, hys1, hys2, rfl⟩, rfl, rfl⟩
    have hyl : ys.length ≤ xs.length := by have := hys1.length_eq; omega
    refine tl_nil ?_
    refine te_code ?_
    refine t_seq ?_
    refine t_seq ?_
    refine t_region ?_
    refine tl_q rfl (ev_fieldAddr fa_142_2 rfl rfl) ?_
    refine tl_q rfl (ev_load sc_3 rfl (by first | (left; (repeat (first | exact List.Mem.head _ | apply List.Mem.tail)); done) | (right; (repeat (first | exact List.Mem.head _ | apply List.Mem.tail)); done)) rfl) ?_
    refine tl_q rfl (ev_geq rfl rfl) ?_
    refine tl_q rfl (ev_move rfl) ?_
    refine tl_split_dec 31 rfl (fun g9 => ?_) (fun g9 => ?_)
    · refine tl_guard rfl rfl rfl ?_
      refine tl_q rfl (ev_fieldAddr fa_142_2 rfl rfl) ?_
      refine tl_guard rfl rfl rfl ?_
      refine tl_q rfl (ev_load sc_3 rfl (by first | (left; (repeat (first | exact List.Mem.head _ | apply List.Mem.tail)); done) | (right; (repeat (first | exact List.Mem.head _ | apply List.Mem.tail)); done)) rfl) ?_
      refine tl_guard rfl rfl rfl ?_
      refine tl_q rfl (ev_move rfl) ?_
      refine tl_guard rfl rfl rfl ?_
      refine tl_q rfl (ev_len_arr sl_22 rfl (by first | exact HasArr.own (by repeat (first | exact List.Mem.head _ | apply List.Mem.tail)) | exact HasArr.sh (by repeat (first | exact List.Mem.head _ | apply List.Mem.tail))) (by intro _; rfl)) ?_
      refine tl_guard rfl rfl rfl ?_
      refine tl_q rfl (ev_lss rfl rfl) ?_
      refine tl_q rfl (ev_pick_true rfl rfl) ?_
      refine tl_nil ?_
      refine te_code ?_
      refine t_cond_no rfl (by first | rfl | (simp; done) | (simp; omega) | simp_all) ?_
      refine t_skip ?_
      refine te_code ?_
      refine t_seq ?_
      refine t_region ?_
      refine tl_q rfl (ev_move rfl) ?_
      refine tl_q rfl (ev_assign rfl) ?_
      refine tl_nil ?_
      refine te_code ?_
      refine t_ret ?_
      refine te_ret_k (pre := [arr 45 11 encRow _ ys, arr 45 11 encRow rv xs, tA, imm bf (.cells #[.func (.func k) #[] #[]] 183 (0, 0))]) (res1 rfl rfl) (by repeat (first | exact Frm.nil | exact Take.here | apply Take.there | apply Frm.cons)) ?_
      exact ⟨_, ys, rfl, hys1, hys2, rfl⟩
    · refine tl_guard_no rfl rfl rfl rfl ?_
      refine tl_guard_no rfl rfl rfl rfl ?_
      refine tl_guard_no rfl rfl rfl rfl ?_
      refine tl_guard_no rfl rfl rfl rfl ?_
      refine tl_guard_no rfl rfl rfl rfl ?_
      refine tl_q rfl (ev_pick_false rfl rfl) ?_
      refine tl_nil ?_
      refine te_code ?_
      refine t_cond_false rfl ?_
      refine t_skip ?_
      refine te_code ?_
      refine t_seq ?_
      refine t_region ?_
      refine tl_q rfl (ev_move rfl) ?_
      refine tl_q rfl (ev_assign rfl) ?_
      refine tl_nil ?_
      refine te_code ?_
      refine t_ret ?_
      refine te_ret_k (pre := [arr 45 11 encRow _ ys, arr 45 11 encRow rv xs, tA, imm bf (.cells #[.func (.func k) #[] #[]] 183 (0, 0))]) (res1 rfl rfl) (by repeat (first | exact Frm.nil | exact Take.here | apply Take.there | apply Frm.cons)) ?_
      exact ⟨_, ys, rfl, hys1, hys2, rfl⟩

theorem lines_ct (tA : Asrt) (tv : Value) (p : Row → Bool) (hC : ∀ b7 r, CT Tryz.prog 138 #[tv, .func (.func 139) #[] #[.pointer (some ⟨b7, 0, none⟩)]] [blk b7 (.cells (encRow r).toArray 45 (0, 0)), tA] (fun v M => v = .bool (!p r) ∧ M = [blk b7 (.cells (encRow r).toArray 45 (0, 0)), tA])) (bf k : Nat) (nF : Row → Int) (hk : ∀ r, CT Tryz.prog k #[.agg (encRow r).toArray] [] (fun v M => v = .int .i64 (nF r) ∧ M = [])) (hbk : (Tryz.prog.funcs[k]?).map (fun fn => fn.body.isSome && !(fn.name == "runtime.NumGoroutine")) = some true) (lim : Int) (q : TypeId × (Nat × Nat)) (sb eb ob bb hh m1 m2 : Nat) (next : Int) (rows : List (Int × Row)) (hl : rows.length ≤ 1000) (hr : ∀ r ∈ rows.map (·.2), okRow r ∧ intRow r) (hlim : lim < 0 ∨ (rows.length : Int) ≤ lim) : CTm false Tryz.prog 50 #[.agg #[tv, .func (.func 131) #[] #[.pointer (some ⟨bf, 0, none⟩)], .int .i64 lim], .pointer (some ⟨sb, 0, none⟩)] [stB sb eb ob, engB eb bb hh, boardB bb m1 m2 40 next, mp iI rowV m1 rows, tA, imm bf (.cells #[.func (.func k) #[] #[]] 183 (0, 0)), powA, aheadI q] (fun v M => ∃ (sv : Value) (ys : List Row), v = .tuple #[sv, .int .i64 0] ∧ ys.Perm ((rows.map (·.2)).filter p) ∧ ys.Pairwise (byLe nF) ∧ M = [arr 9 1 encS sv (ys.map lineF), stB sb eb ob, engB eb bb hh, boardB bb m1 m2 40 next, mp iI rowV m1 rows, tA, imm bf (.cells #[.func (.func k) #[] #[]] 183 (0, 0)), powA, aheadI q]) := by
  refine t_fun (vs := [.agg #[tv, .func (.func 131) #[] #[.pointer (some ⟨bf, 0, none⟩)], .int .i64 lim], .pointer (some ⟨sb, 0, none⟩)]) (n := 29) Tryz.func50 rfl Tryz.ntmps50 rfl fun w0 F => ?_
  
  refine t_seq ?_
  refine t_region ?_
  refine tl_e (eff_box rfl rfl rfl) ?_
  rintro _ _ ⟨b2, rfl, rfl⟩
  refine tl_q rfl (ev_assign rfl) ?_
  refine tl_q rfl (ev_assign rfl) ?_
  refine tl_nil ?_
  refine te_code ?_
  refine t_seq ?_
  refine t_region ?_
  refine tl_nil_arr 9 1 encS ?_
  refine tl_q rfl (ev_assign rfl) ?_
  refine tl_nil ?_
  refine te_code ?_
  refine t_seq ?_
  refine t_seq ?_
  refine t_drawn_frm (pre := [engB eb bb hh, boardB bb m1 m2 40 next, mp iI rowV m1 rows, tA, imm bf (.cells #[.func (.func k) #[] #[]] 183 (0, 0))]) (by repeat (first | exact Frm.nil | exact Take.here | apply Take.there | apply Frm.cons)) follows ?_
  refine tr_q 0 rfl (by kernel_rfl) (by kernel_rfl) (by kernel_rfl) rfl (fun _ h => hold_sub (by repeat (first | exact Frm.nil | exact Take.here | apply Take.there | apply Frm.cons)) h) (ev_load_agg ag_142 rfl (by first | (left; (repeat (first | exact List.Mem.head _ | apply List.Mem.tail)); done) | (right; (repeat (first | exact List.Mem.head _ | apply List.Mem.tail)); done)) (by repeat (first | exact LDrop.zero | apply LDrop.succ)) (by repeat (first | exact LTake.zero | apply LTake.succ))) ?_
  refine tr_q 1 rfl (by kernel_rfl) (by kernel_rfl) (by kernel_rfl) rfl (fun _ h => hold_sub (by repeat (first | exact Frm.nil | exact Take.here | apply Take.there | apply Frm.cons)) h) (ev_move rfl) ?_
  refine tr_q 2 rfl (by kernel_rfl) (by kernel_rfl) (by kernel_rfl) rfl (fun _ h => hold_sub (by repeat (first | exact Frm.nil | exact Take.here | apply Take.there | apply Frm.cons)) h) (ev_nil_ptr rfl) ?_
  refine tr_q 3 rfl (by kernel_rfl) (by kernel_rfl) (by kernel_rfl) rfl (fun _ h => hold_sub (by repeat (first | exact Frm.nil | exact Take.here | apply Take.there | apply Frm.cons)) h) (ev_fieldAddr fa_35_0 rfl rfl) ?_
  refine tr_q 4 rfl (by kernel_rfl) (by kernel_rfl) (by kernel_rfl) rfl (fun _ h => hold_sub (by repeat (first | exact Frm.nil | exact Take.here | apply Take.there | apply Frm.cons)) h) (ev_load sc_30 rfl (by first | (left; (repeat (first | exact List.Mem.head _ | apply List.Mem.tail)); done) | (right; (repeat (first | exact List.Mem.head _ | apply List.Mem.tail)); done)) rfl) ?_
  refine tr_q 9 rfl (by kernel_rfl) (by kernel_rfl) (by kernel_rfl) rfl (fun _ h => hold_sub (by repeat (first | exact Frm.nil | exact Take.here | apply Take.there | apply Frm.cons)) h) (ev_move rfl) ?_
  refine tr_e 5 rfl (by kernel_rfl) (eff_call rfl rfl body_7 rfl (by repeat (first | exact Frm.nil | exact Take.here | apply Take.there | apply Frm.cons)) (eng_Board_ct _ _ _)) (by rintro _ _ ⟨_, _, ⟨rfl, rfl⟩, rfl, rfl⟩; exact (fun _ h => hold_sub (by repeat (first | exact Frm.nil | exact Take.here | apply Take.there | apply Frm.cons)) h)) ?_
  rintro _ _ ⟨v14, _, ⟨rfl, rfl⟩, rfl, rfl⟩
  refine tr_e 6 rfl (by kernel_rfl) (eff_call rfl rfl body_8 rfl (by repeat (first | exact Frm.nil | exact Take.here | apply Take.there | apply Frm.cons)) (All_ct bb m1 m2 40 next rows (by omega))) (by rintro _ _ ⟨_, _, ⟨ys, hys1, hys2, rfl⟩, rfl, rfl⟩; exact (fun _ h => hold_sub (by repeat (first | exact Frm.nil | exact Take.here | apply Take.there | apply Frm.cons)) h)) ?_
  rintro _ _ ⟨v15, _, ⟨ys, hys1, hys2, rfl⟩, rfl, rfl⟩
  have hyl : ys.length = rows.length := by have := hys1.length_eq; simpa using this
  refine tr_e 7 rfl (by kernel_rfl) (eff_call rfl rfl body_86 rfl (by repeat (first | exact Frm.nil | exact Take.here | apply Take.there | apply Frm.cons)) (rows_ct tA tv p hC bf k nF hk hbk lim _ _ (by omega) (by omega))) (by rintro _ _ ⟨_, _, ⟨sv, ys2, rfl, hp1, hp2, rfl⟩, rfl, rfl⟩; exact (fun _ h => hold_sub (by repeat (first | exact Frm.nil | exact Take.here | apply Take.there | apply Frm.cons)) h)) ?_
  rintro _ _ ⟨v16, _, ⟨sv, ys2, rfl, hp1, hp2, rfl⟩, rfl, rfl⟩
  refine tr_shape (enc := encRow) (sz := 11) (v := v16) (xs := ys2) (by first | exact HasArr.own (by repeat (first | exact List.Mem.head _ | apply List.Mem.tail)) | exact HasArr.sh (by repeat (first | exact List.Mem.head _ | apply List.Mem.tail))) (by intro _; rfl) (fun hsh => ?_)
  have hyl2 : ys2.length ≤ rows.length := by
    have h1 := hp1.length_eq
    have h2 := List.length_filter_le p ys
    omega
  have hpp : ys2.Perm ((rows.map (·.2)).filter p) := hp1.trans (hys1.filter p)
  refine tr_q 8 rfl (by kernel_rfl) (by kernel_rfl) (by kernel_rfl) rfl (fun _ h => hold_sub (by repeat (first | exact Frm.nil | exact Take.here | apply Take.there | apply Frm.cons)) h) (ev_len_sh sl_22 rfl (by assumption)) ?_
  refine tr_done (by kernel_rfl) ?_
  refine te_code ?_
  refine t_block ?_
  refine t_loop (α := Nat × Value) (fun w => [(18, .int .i64 (w.1 : Int)), (17, .int .i64 (ys2.length : Int)), (16, v16), (6, w.2)]) (fun w => [arr 45 11 encRow v16 ys2, arr 9 1 encS w.2 ((ys2.take w.1).map lineF), stB sb eb ob, engB eb bb hh, boardB bb m1 m2 40 next, mp iI rowV m1 rows, tA, imm bf (.cells #[.func (.func k) #[] #[]] 183 (0, 0)), powA, aheadI q]) (fun w => ys2.length - w.1) (fun w => w.1 ≤ ys2.length) (0, .slice none 0 0) (by simp) (by exact sub_cons rfl (sub_cons rfl (sub_cons rfl (sub_cons rfl (sub_nil))))) (fun _ h => hold_keep (by repeat (first | exact Frm.nil | exact Take.here | apply Take.there | apply Frm.cons)) h) ?_
  rintro ⟨i, ov⟩ hi
  try dsimp only
  dsimp only at hi
  refine t_seq ?_
  refine t_region ?_
  refine tl_q rfl (ev_lss rfl rfl) ?_
  refine tl_nil ?_
  refine te_code ?_
  refine t_seq ?_
  refine t_cond_dec rfl (fun h0 => ?_) (fun h0 => ?_)
  · obtain ⟨u, hu⟩ := get_ex (show (i : Int) < ys2.length by omega)
    have hru : okRow u ∧ intRow u := hr u (List.mem_filter.1 (hpp.subset (List.mem_of_getElem? hu))).1
    refine t_skip ?_
    refine te_code ?_
    refine t_seq ?_
    refine t_block ?_
    refine t_seq ?_
    refine t_region ?_
    refine tl_q rfl (ev_at_sh sl_22 rfl rfl (by assumption) (by omega)) ?_
    refine tl_q rfl (ev_load_at_agg ag_45 rfl (by first | exact HasArr.own (by repeat (first | exact List.Mem.head _ | apply List.Mem.tail)) | exact HasArr.sh (by repeat (first | exact List.Mem.head _ | apply List.Mem.tail))) (by intro _; rfl) (by assumption) (by rfl)) ?_
    refine tl_e (eff_alloc rfl zero_45 rfl) ?_
    rintro _ _ ⟨b8, rfl, rfl⟩
    refine tl_e (eff_store rfl rfl rfl rfl sz_45 (by first | (simp [Flat]; done) | exact flatS _ | exact flatB _ | exact flatTick _ | exact flatRow _ | exact flatEvt _ | exact flatI _) (by repeat (first | exact Upd.here | apply Upd.there)) (by repeat (first | exact LPut.nil | apply LPut.cons | apply LPut.succ))) ?_
    rintro _ _ ⟨rfl, rfl⟩
    refine tl_nil ?_
    refine te_code ?_
    refine t_region ?_
    refine tl_q rfl (ev_move rfl) ?_
    refine tl_q rfl (ev_load_agg ag_45 rfl (by first | (left; (repeat (first | exact List.Mem.head _ | apply List.Mem.tail)); done) | (right; (repeat (first | exact List.Mem.head _ | apply List.Mem.tail)); done)) (by repeat (first | exact LDrop.zero | apply LDrop.succ)) (by repeat (first | exact LTake.zero | apply LTake.succ))) ?_
    refine tl_e (eff_call rfl rfl body_11 rfl (by repeat (first | exact Frm.nil | exact Take.here | apply Take.there | apply Frm.cons)) (Line_ct q _ hru.1 hru.2)) ?_
    rintro _ _ ⟨v24, _, ⟨rfl, rfl⟩, rfl, rfl⟩
    refine tl_e (eff_buildSl rfl bs_38_1 rfl (by repeat (first | exact FillR.nil | exact LPut.nil | apply LPut.cons | apply LPut.succ | apply FillR.cons rfl rfl rfl))) ?_
    rintro _ _ ⟨b25, rfl, rfl⟩
    refine tl_e (eff_append (ys := [lineF u]) rfl sl_38 Tryz.underlying38 zero_9 rfl by_9 rfl rfl (by repeat (first | exact Take.here | apply Take.there)) (HasArr.lit (by first | (left; (repeat (first | exact List.Mem.head _ | apply List.Mem.tail)); done) | (right; (repeat (first | exact List.Mem.head _ | apply List.Mem.tail)); done)) rfl rfl) (by intro _; rfl) flatS (by simp only [List.length_cons, List.length_nil, List.length_map, List.length_take]; omega) (by decide)) ?_
    rintro _ _ ⟨v26, rfl, rfl⟩
    rw [show (ys2.take i).map lineF ++ [lineF u] = (ys2.take (i + 1)).map lineF from by rw [List.take_succ_eq_append_getElem (List.getElem?_eq_some_iff.1 hu).1, (List.getElem?_eq_some_iff.1 hu).2, List.map_append]; rfl]
    refine tl_q rfl (ev_assign rfl) ?_
    refine tl_nil ?_
    refine te_blk ?_
    refine te_code ?_
    refine t_region ?_
    refine tl_q rfl (ev_add' rfl rfl (by omega)) ?_
    refine tl_q rfl (ev_move rfl) ?_
    refine tl_nil ?_
    exact te_round (i + 1, _) (by exact sub_cons rfl (sub_cons rfl (sub_cons rfl (sub_cons rfl (sub_nil))))) (fun _ h => hold_keep (by repeat (first | exact Frm.nil | exact Take.here | apply Take.there | apply Frm.cons)) h) (by dsimp only; omega) (by dsimp only; omega)
  · obtain rfl : i = ys2.length := by omega
    simp only [List.take_length]
    refine t_exit ?_
    refine te_exit_code ?_
    refine te_exit_rnd ?_
    refine te_exit_here ?_
    refine te_code ?_
    refine t_seq ?_
    refine t_region ?_
    refine tl_q rfl (ev_move rfl) ?_
    refine tl_q rfl (ev_assign rfl) ?_
    refine tl_q rfl (ev_assign rfl) ?_
    refine tl_nil ?_
    refine te_code ?_
    refine t_ret ?_
    refine te_ret_k (pre := [arr _ _ encS _ _, stB sb eb ob, engB eb bb hh, boardB bb m1 m2 40 next, mp iI rowV m1 rows, tA, imm bf (.cells #[.func (.func k) #[] #[]] 183 (0, 0)), powA, aheadI q]) (res2 rfl rfl rfl) (by repeat (first | exact Frm.nil | exact Take.here | apply Take.there | apply Frm.cons)) ?_
    exact ⟨_, ys2, rfl, hpp, hp2, rfl⟩

end Go.SL
