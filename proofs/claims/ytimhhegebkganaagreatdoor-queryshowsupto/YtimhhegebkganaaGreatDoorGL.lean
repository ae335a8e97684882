/- Contract of the document's board.Load. -/
import Derived.Test.YtimhhegebkganaaGreatDoorProg
import Derived.Test.YtimhhegebkganaaGreatDoorGO
set_option linter.unusedSimpArgs false
set_option linter.unusedVariables false
set_option maxRecDepth 4000
namespace Go.SL
open Go.Proofs

theorem body_39 : (Tryz.prog.funcs[39]?).map (fun fn => fn.body.isSome && !(fn.name == "runtime.NumGoroutine")) = some true := by kernel_rfl
theorem by_45 : ∀ w, ∃ i, (typeInfo 45).run Tryz.prog w = .ok i w ∧ i.bytes = 128 := bytes_of info_45 rfl
theorem bs_22_1 : SliceIs Tryz.prog 22 1 45 11 [.int .i64 0, .string ⟨#[]⟩, .string ⟨#[]⟩, .string ⟨#[]⟩, .int .i64 0, .string ⟨#[]⟩, .int .i64 0, .int .i64 0, .int .i64 0, .bool false, .string ⟨#[]⟩] := sliceIs_of Tryz.underlying22 info_45 rfl rfl (by decide) (by kernel_rfl)
theorem fa_122_0 : FldAt Tryz.prog 122 0 0 := fun a w => by kernel_rfl
theorem fa_122_2 : FldAt Tryz.prog 122 2 2 := fun a w => by kernel_rfl
theorem sz_22 : SizeIs Tryz.prog 22 1 := sizeIs_of info_22 rfl
theorem fa_122_1 : FldAt Tryz.prog 122 1 1 := fun a w => by kernel_rfl

theorem get_ex {α : Type} {l : List α} {i : Nat} (h : (i : Int) < (l.length : Int)) : ∃ u, l[i]? = some u := ⟨l[i]'(by omega), by simp [show i < l.length by omega]⟩
theorem mem_take {α : Type} {l : List α} {k i : Nat} {u : α} (h : l[k]? = some u) (hk : k < i) : u ∈ l.take i := List.mem_of_getElem? (by rw [List.getElem?_take_of_lt hk]; exact h)
theorem b20_Load_ct (bb : Nat) (next : Int) (sv rv : Value) (xs : List Row) (n : Int) (hx : ∀ r ∈ xs, okRow r) (hl : xs.length ≤ 1000) : CT Tryz.prog 19 #[.pointer (some ⟨bb, 0, none⟩), rv, .int .i64 n] [b20 bb 40 next sv, arr 45 11 encRow rv xs] (fun v M => ∃ c next' sv', v = .int .i64 c ∧ M = [b20 bb 40 next' sv', arr 45 11 encRow rv xs] ∧ (goodL xs n 40 → c = 0)) := by
  refine t_fun (vs := [.pointer (some ⟨bb, 0, none⟩), rv, .int .i64 n]) (n := 119) Tryz.func19 rfl Tryz.ntmps19 rfl fun w0 F => ?_
  refine t_shape (enc := encRow) (sz := 11) (xs := xs) (by first | exact HasArr.own (by repeat (first | exact List.Mem.head _ | apply List.Mem.tail)) | exact HasArr.sh (by repeat (first | exact List.Mem.head _ | apply List.Mem.tail))) (by intro _; rfl) (fun hsh => ?_)
  refine t_seq ?_
  refine t_region ?_
  refine tl_q rfl (ev_assign rfl) ?_
  refine tl_nil ?_
  refine te_code ?_
  refine t_seq ?_
  refine t_seq ?_
  refine t_region ?_
  refine tl_q rfl (ev_move rfl) ?_
  refine tl_q rfl (ev_lss rfl rfl) ?_
  refine tl_q rfl (ev_move rfl) ?_
  refine tl_split_dec 14 rfl (fun g1_2 => ?_) (fun g1_2 => ?_)
  · refine tl_guard_no rfl rfl rfl rfl ?_
    refine tl_guard_no rfl rfl rfl rfl ?_
    refine tl_q rfl (ev_pick_true rfl rfl) ?_
    refine tl_nil ?_
    refine te_code ?_
    refine t_cond_true rfl ?_
    refine t_seq ?_
    refine t_region ?_
    refine tl_q rfl (ev_assign rfl) ?_
    refine tl_nil ?_
    refine te_code ?_
    refine t_ret ?_
    refine te_ret_k (pre := [b20 bb 40 _ _, arr _ _ _ rv xs]) (res1 rfl rfl) (by repeat (first | exact Frm.nil | exact Take.here | apply Take.there | apply Frm.cons)) ?_
    refine ⟨_, _, _, rfl, rfl, fun g => ?_⟩
    obtain ⟨q1, q2, q3, q4, q5, q6⟩ := g
    first | rfl | (exfalso; omega) | (exfalso; have hu1 := q1 u (List.mem_of_getElem? hu); first | exact g7_6 (hcg hu1.1) | omega | exact goodL_fresh (·.id) hu q2 u2 (mem_take hu2 (by omega)) g12_11 | exact goodL_fresh (fun r => signOf r.e) hu q3 u2 (mem_take hu2 (by omega)) (hsg h4))
  · refine tl_guard rfl rfl rfl ?_
    refine tl_q rfl (ev_move rfl) ?_
    refine tl_guard rfl rfl rfl ?_
    refine tl_q rfl (ev_gtr rfl rfl) ?_
    refine tl_q rfl (ev_pick_false rfl rfl) ?_
    refine tl_nil ?_
    refine te_code ?_
    refine t_cond_dec rfl (fun h0 => ?_) (fun h0 => ?_)
    · refine t_seq ?_
      refine t_region ?_
      refine tl_q rfl (ev_assign rfl) ?_
      refine tl_nil ?_
      refine te_code ?_
      refine t_ret ?_
      refine te_ret_k (pre := [b20 bb 40 _ _, arr _ _ _ rv xs]) (res1 rfl rfl) (by repeat (first | exact Frm.nil | exact Take.here | apply Take.there | apply Frm.cons)) ?_
      refine ⟨_, _, _, rfl, rfl, fun g => ?_⟩
      obtain ⟨q1, q2, q3, q4, q5, q6⟩ := g
      first | rfl | (exfalso; omega) | (exfalso; have hu1 := q1 u (List.mem_of_getElem? hu); first | exact g7_6 (hcg hu1.1) | omega | exact goodL_fresh (·.id) hu q2 u2 (mem_take hu2 (by omega)) g12_11 | exact goodL_fresh (fun r => signOf r.e) hu q3 u2 (mem_take hu2 (by omega)) (hsg h4))
    · refine t_skip ?_
      refine te_code ?_
      refine t_seq ?_
      refine t_region ?_
      refine tl_nil_arr 45 11 encRow ?_
      refine tl_q rfl (ev_assign rfl) ?_
      refine tl_nil ?_
      refine te_code ?_
      refine t_seq ?_
      refine t_seq ?_
      refine t_region ?_
      refine tl_q rfl (ev_assign rfl) ?_
      refine tl_nil ?_
      refine te_code ?_
      refine t_block ?_
      refine t_loop (α := Nat × Value × List Row) (fun q => [(8, .int .i64 (q.1 : Int)), (7, q.2.1), (1, rv), (0, .pointer (some ⟨bb, 0, none⟩)), (2, .int .i64 n)]) (fun q => [arr 45 11 encRow q.2.1 q.2.2, b20 bb 40 next sv, arr 45 11 encRow rv xs]) (fun q => xs.length - q.1) (fun q => q.1 ≤ xs.length ∧ q.2.2.length ≤ q.1) (0, .slice none 0 0, []) (by simp) (by exact sub_cons rfl (sub_cons rfl (sub_cons rfl (sub_cons rfl (sub_cons rfl (sub_nil)))))) (fun _ h => hold_keep (by repeat (first | exact Frm.nil | exact Take.here | apply Take.there | apply Frm.cons)) h) ?_
      rintro ⟨i, ov, os⟩ hI
      try dsimp only
      dsimp only at hI
      refine t_shape (v := ov) (xs := os) (enc := encRow) (sz := 11) (by first | exact HasArr.own (by repeat (first | exact List.Mem.head _ | apply List.Mem.tail)) | exact HasArr.sh (by repeat (first | exact List.Mem.head _ | apply List.Mem.tail))) (by intro _; rfl) (fun hsh2 => ?_)
      refine t_seq ?_
      refine t_seq ?_
      refine t_region ?_
      refine tl_q rfl (ev_move rfl) ?_
      refine tl_q rfl (ev_move rfl) ?_
      refine tl_q rfl (ev_len_sh sl_22 rfl (by assumption)) ?_
      refine tl_q rfl (ev_lss rfl rfl) ?_
      refine tl_nil ?_
      refine te_code ?_
      refine t_cond_dec rfl (fun h0 => ?_) (fun h0 => ?_)
      · obtain ⟨u, hu⟩ : ∃ u, xs[i]? = some u := ⟨xs[i], by simp [show i < xs.length by omega]⟩
        have huok : okRow u := hx u (List.mem_of_getElem? hu)
        refine t_skip ?_
        refine te_code ?_
        refine t_seq ?_
        refine t_block ?_
        refine t_seq ?_
        refine t_seq ?_
        refine t_region ?_
        refine tl_q rfl (ev_move rfl) ?_
        refine tl_q rfl (ev_move rfl) ?_
        refine tl_q rfl (ev_at_sh sl_22 rfl rfl (by assumption) (by omega)) ?_
        refine tl_q rfl (ev_load_at_agg ag_45 rfl (by first | exact HasArr.own (by repeat (first | exact List.Mem.head _ | apply List.Mem.tail)) | exact HasArr.sh (by repeat (first | exact List.Mem.head _ | apply List.Mem.tail))) (by intro _; rfl) (by assumption) (by rfl)) ?_
        refine tl_e (eff_call rfl rfl body_38 rfl (by repeat (first | exact Frm.nil | exact Take.here | apply Take.there | apply Frm.cons)) (Check20_ct _ (by assumption))) ?_
        rintro _ _ ⟨v28, _, ⟨c, rfl, rfl, hcg⟩, rfl, rfl⟩
        refine tl_q rfl (ev_neq rfl rfl) ?_
        refine tl_q rfl (ev_move rfl) ?_
        refine tl_split_dec 30 rfl (fun g7_6 => ?_) (fun g7_6 => ?_)
        · refine tl_guard_no rfl rfl rfl rfl ?_
          refine tl_guard_no rfl rfl rfl rfl ?_
          refine tl_guard_no rfl rfl rfl rfl ?_
          refine tl_guard_no rfl rfl rfl rfl ?_
          refine tl_guard_no rfl rfl rfl rfl ?_
          refine tl_guard_no rfl rfl rfl rfl ?_
          refine tl_guard_no rfl rfl rfl rfl ?_
          refine tl_q rfl (ev_pick_true rfl rfl) ?_
          refine tl_nil ?_
          refine te_code ?_
          refine t_cond_true rfl ?_
          refine t_seq ?_
          refine t_region ?_
          refine tl_q rfl (ev_assign rfl) ?_
          refine tl_nil ?_
          refine te_code ?_
          refine t_ret ?_
          refine te_ret_k (pre := [b20 bb 40 _ _, arr _ _ _ rv xs]) (res1 rfl rfl) (by repeat (first | exact Frm.nil | exact Take.here | apply Take.there | apply Frm.cons)) ?_
          refine ⟨_, _, _, rfl, rfl, fun g => ?_⟩
          obtain ⟨q1, q2, q3, q4, q5, q6⟩ := g
          first | rfl | (exfalso; omega) | (exfalso; have hu1 := q1 u (List.mem_of_getElem? hu); first | exact g7_6 (hcg hu1.1) | omega | exact goodL_fresh (·.id) hu q2 u2 (mem_take hu2 (by omega)) g12_11 | exact goodL_fresh (fun r => signOf r.e) hu q3 u2 (mem_take hu2 (by omega)) (hsg h4))
        · refine tl_guard rfl rfl rfl ?_
          refine tl_q rfl (ev_move rfl) ?_
          refine tl_guard rfl rfl rfl ?_
          refine tl_q rfl (ev_move rfl) ?_
          refine tl_guard rfl rfl rfl ?_
          refine tl_q rfl (ev_at_sh sl_22 rfl rfl (by assumption) (by omega)) ?_
          refine tl_guard rfl rfl rfl ?_
          refine tl_q rfl (ev_fld_sh fa_45_0 rfl (by assumption) (by omega)) ?_
          refine tl_guard rfl rfl rfl ?_
          refine tl_q rfl (ev_load_at0 sc_3 rfl (by first | exact HasArr.own (by repeat (first | exact List.Mem.head _ | apply List.Mem.tail)) | exact HasArr.sh (by repeat (first | exact List.Mem.head _ | apply List.Mem.tail))) (by intro _; rfl) (by assumption) (by rfl)) ?_
          refine tl_guard rfl rfl rfl ?_
          refine tl_q rfl (ev_move rfl) ?_
          refine tl_guard rfl rfl rfl ?_
          refine tl_q rfl (ev_geq rfl rfl) ?_
          refine tl_q rfl (ev_pick_false rfl rfl) ?_
          refine tl_nil ?_
          refine te_code ?_
          refine t_cond_dec rfl (fun h2 => ?_) (fun h2 => ?_)
          · refine t_seq ?_
            refine t_region ?_
            refine tl_q rfl (ev_assign rfl) ?_
            refine tl_nil ?_
            refine te_code ?_
            refine t_ret ?_
            refine te_ret_k (pre := [b20 bb 40 _ _, arr _ _ _ rv xs]) (res1 rfl rfl) (by repeat (first | exact Frm.nil | exact Take.here | apply Take.there | apply Frm.cons)) ?_
            refine ⟨_, _, _, rfl, rfl, fun g => ?_⟩
            obtain ⟨q1, q2, q3, q4, q5, q6⟩ := g
            first | rfl | (exfalso; omega) | (exfalso; have hu1 := q1 u (List.mem_of_getElem? hu); first | exact g7_6 (hcg hu1.1) | omega | exact goodL_fresh (·.id) hu q2 u2 (mem_take hu2 (by omega)) g12_11 | exact goodL_fresh (fun r => signOf r.e) hu q3 u2 (mem_take hu2 (by omega)) (hsg h4))
          · refine t_skip ?_
            refine te_code ?_
            refine t_seq ?_
            refine t_seq ?_
            refine t_region ?_
            refine tl_q rfl (ev_assign rfl) ?_
            refine tl_nil ?_
            refine te_code ?_
            refine t_block ?_
            refine t_loop (α := Nat) (fun q => [(9, .int .i64 (q : Int)), (8, .int .i64 (i : Int)), (7, ov), (1, rv), (0, .pointer (some ⟨bb, 0, none⟩)), (2, .int .i64 n)]) (fun q => [arr 45 11 encRow ov os, b20 bb 40 next sv, arr 45 11 encRow rv xs]) (fun q => i - q) (fun q => q ≤ i) 0 (by omega) (by exact sub_cons rfl (sub_cons rfl (sub_cons rfl (sub_cons rfl (sub_cons rfl (sub_cons rfl (sub_nil))))))) (fun _ h => hold_keep (by repeat (first | exact Frm.nil | exact Take.here | apply Take.there | apply Frm.cons)) h) ?_
            rintro k2 hk2
            try dsimp only
            refine t_seq ?_
            refine t_seq ?_
            refine t_region ?_
            refine tl_q rfl (ev_move rfl) ?_
            refine tl_q rfl (ev_move rfl) ?_
            refine tl_q rfl (ev_lss rfl rfl) ?_
            refine tl_nil ?_
            refine te_code ?_
            refine t_cond_dec rfl (fun h3 => ?_) (fun h3 => ?_)
            · obtain ⟨u2, hu2⟩ : ∃ u, xs[k2]? = some u := ⟨xs[k2], by simp [show k2 < xs.length by omega]⟩
              refine t_skip ?_
              refine te_code ?_
              refine t_seq ?_
              refine t_block ?_
              refine t_seq ?_
              refine t_drawn_all follows ?_
              refine tr_q 0 rfl (by kernel_rfl) (by kernel_rfl) (by kernel_rfl) rfl (by intro _ h; repeat (first | exact h | replace h := Hold.drop h)) (ev_move rfl) ?_
              refine tr_q 1 rfl (by kernel_rfl) (by kernel_rfl) (by kernel_rfl) rfl (by intro _ h; repeat (first | exact h | replace h := Hold.drop h)) (ev_move rfl) ?_
              refine tr_q 2 rfl (by kernel_rfl) (by kernel_rfl) (by kernel_rfl) rfl (by intro _ h; repeat (first | exact h | replace h := Hold.drop h)) (ev_at_sh sl_22 rfl rfl (by assumption) (by omega)) ?_
              refine tr_q 3 rfl (by kernel_rfl) (by kernel_rfl) (by kernel_rfl) rfl (by intro _ h; repeat (first | exact h | replace h := Hold.drop h)) (ev_fld_sh fa_45_0 rfl (by assumption) (by omega)) ?_
              refine tr_q 4 rfl (by kernel_rfl) (by kernel_rfl) (by kernel_rfl) rfl (by intro _ h; repeat (first | exact h | replace h := Hold.drop h)) (ev_load_at0 sc_3 rfl (by first | exact HasArr.own (by repeat (first | exact List.Mem.head _ | apply List.Mem.tail)) | exact HasArr.sh (by repeat (first | exact List.Mem.head _ | apply List.Mem.tail))) (by intro _; rfl) (by assumption) (by rfl)) ?_
              refine tr_q 5 rfl (by kernel_rfl) (by kernel_rfl) (by kernel_rfl) rfl (by intro _ h; repeat (first | exact h | replace h := Hold.drop h)) (ev_move rfl) ?_
              refine tr_q 6 rfl (by kernel_rfl) (by kernel_rfl) (by kernel_rfl) rfl (by intro _ h; repeat (first | exact h | replace h := Hold.drop h)) (ev_move rfl) ?_
              refine tr_q 7 rfl (by kernel_rfl) (by kernel_rfl) (by kernel_rfl) rfl (by intro _ h; repeat (first | exact h | replace h := Hold.drop h)) (ev_at_sh sl_22 rfl rfl (by assumption) (by omega)) ?_
              refine tr_q 8 rfl (by kernel_rfl) (by kernel_rfl) (by kernel_rfl) rfl (by intro _ h; repeat (first | exact h | replace h := Hold.drop h)) (ev_fld_sh fa_45_0 rfl (by assumption) (by omega)) ?_
              refine tr_q 9 rfl (by kernel_rfl) (by kernel_rfl) (by kernel_rfl) rfl (by intro _ h; repeat (first | exact h | replace h := Hold.drop h)) (ev_load_at0 sc_3 rfl (by first | exact HasArr.own (by repeat (first | exact List.Mem.head _ | apply List.Mem.tail)) | exact HasArr.sh (by repeat (first | exact List.Mem.head _ | apply List.Mem.tail))) (by intro _; rfl) (by assumption) (by rfl)) ?_
              refine tr_q 10 rfl (by kernel_rfl) (by kernel_rfl) (by kernel_rfl) rfl (by intro _ h; repeat (first | exact h | replace h := Hold.drop h)) (ev_eql rfl rfl) ?_
              refine tr_q 11 rfl (by kernel_rfl) (by kernel_rfl) (by kernel_rfl) rfl (by intro _ h; repeat (first | exact h | replace h := Hold.drop h)) (ev_move rfl) ?_
              refine tr_split_dec 55 rfl (fun g12_11 => ?_) (fun g12_11 => ?_)
              · refine tr_no 12 rfl (by kernel_rfl) (by kernel_rfl) (by kernel_rfl) rfl rfl rfl rfl (by intro _ h; repeat (first | exact h | replace h := Hold.drop h)) ?_
                refine tr_no 13 rfl (by kernel_rfl) (by kernel_rfl) (by kernel_rfl) rfl rfl rfl rfl (by intro _ h; repeat (first | exact h | replace h := Hold.drop h)) ?_
                refine tr_no 14 rfl (by kernel_rfl) (by kernel_rfl) (by kernel_rfl) rfl rfl rfl rfl (by intro _ h; repeat (first | exact h | replace h := Hold.drop h)) ?_
                refine tr_no 15 rfl (by kernel_rfl) (by kernel_rfl) (by kernel_rfl) rfl rfl rfl rfl (by intro _ h; repeat (first | exact h | replace h := Hold.drop h)) ?_
                refine tr_no 16 rfl (by kernel_rfl) (by kernel_rfl) (by kernel_rfl) rfl rfl rfl rfl (by intro _ h; repeat (first | exact h | replace h := Hold.drop h)) ?_
                refine tr_no 17 rfl (by kernel_rfl) (by kernel_rfl) (by kernel_rfl) rfl rfl rfl rfl (by intro _ h; repeat (first | exact h | replace h := Hold.drop h)) ?_
                refine tr_no 18 rfl (by kernel_rfl) (by kernel_rfl) (by kernel_rfl) rfl rfl rfl rfl (by intro _ h; repeat (first | exact h | replace h := Hold.drop h)) ?_
                refine tr_no 19 rfl (by kernel_rfl) (by kernel_rfl) (by kernel_rfl) rfl rfl rfl rfl (by intro _ h; repeat (first | exact h | replace h := Hold.drop h)) ?_
                refine tr_no 20 rfl (by kernel_rfl) (by kernel_rfl) (by kernel_rfl) rfl rfl rfl rfl (by intro _ h; repeat (first | exact h | replace h := Hold.drop h)) ?_
                refine tr_no 21 rfl (by kernel_rfl) (by kernel_rfl) (by kernel_rfl) rfl rfl rfl rfl (by intro _ h; repeat (first | exact h | replace h := Hold.drop h)) ?_
                refine tr_no 22 rfl (by kernel_rfl) (by kernel_rfl) (by kernel_rfl) rfl rfl rfl rfl (by intro _ h; repeat (first | exact h | replace h := Hold.drop h)) ?_
                refine tr_q 23 rfl (by kernel_rfl) (by kernel_rfl) (by kernel_rfl) rfl (by intro _ h; repeat (first | exact h | replace h := Hold.drop h)) (ev_pick_true rfl rfl) ?_
                refine tr_done (by kernel_rfl) ?_
                refine te_code ?_
                refine t_cond_true rfl ?_
                refine t_seq ?_
                refine t_region ?_
                refine tl_q rfl (ev_assign rfl) ?_
                refine tl_nil ?_
                refine te_code ?_
                refine t_ret ?_
                refine te_ret_k (pre := [b20 bb 40 _ _, arr _ _ _ rv xs]) (res1 rfl rfl) (by repeat (first | exact Frm.nil | exact Take.here | apply Take.there | apply Frm.cons)) ?_
                refine ⟨_, _, _, rfl, rfl, fun g => ?_⟩
                obtain ⟨q1, q2, q3, q4, q5, q6⟩ := g
                first | rfl | (exfalso; omega) | (exfalso; have hu1 := q1 u (List.mem_of_getElem? hu); first | exact g7_6 (hcg hu1.1) | omega | exact goodL_fresh (·.id) hu q2 u2 (mem_take hu2 (by omega)) g12_11 | exact goodL_fresh (fun r => signOf r.e) hu q3 u2 (mem_take hu2 (by omega)) (hsg h4))
              · refine tr_qg 12 rfl (by kernel_rfl) (by kernel_rfl) (by kernel_rfl) rfl rfl rfl rfl (by intro _ h; repeat (first | exact h | replace h := Hold.drop h)) (ev_move rfl) ?_
                refine tr_qg 13 rfl (by kernel_rfl) (by kernel_rfl) (by kernel_rfl) rfl rfl rfl rfl (by intro _ h; repeat (first | exact h | replace h := Hold.drop h)) (ev_move rfl) ?_
                refine tr_qg 14 rfl (by kernel_rfl) (by kernel_rfl) (by kernel_rfl) rfl rfl rfl rfl (by intro _ h; repeat (first | exact h | replace h := Hold.drop h)) (ev_at_sh sl_22 rfl rfl (by assumption) (by omega)) ?_
                refine tr_qg 15 rfl (by kernel_rfl) (by kernel_rfl) (by kernel_rfl) rfl rfl rfl rfl (by intro _ h; repeat (first | exact h | replace h := Hold.drop h)) (ev_fld_sh fa_45_1 rfl (by assumption) (by omega)) ?_
                refine tr_qg 16 rfl (by kernel_rfl) (by kernel_rfl) (by kernel_rfl) rfl rfl rfl rfl (by intro _ h; repeat (first | exact h | replace h := Hold.drop h)) (ev_load_at_part ag_43 rfl (by first | exact HasArr.own (by repeat (first | exact List.Mem.head _ | apply List.Mem.tail)) | exact HasArr.sh (by repeat (first | exact List.Mem.head _ | apply List.Mem.tail))) (by intro _; rfl) (by assumption) (by omega) (by rfl)) ?_
                refine tr_qg 17 rfl (by kernel_rfl) (by kernel_rfl) (by kernel_rfl) rfl rfl rfl rfl (by intro _ h; repeat (first | exact h | replace h := Hold.drop h)) (ev_move rfl) ?_
                refine tr_qg 18 rfl (by kernel_rfl) (by kernel_rfl) (by kernel_rfl) rfl rfl rfl rfl (by intro _ h; repeat (first | exact h | replace h := Hold.drop h)) (ev_move rfl) ?_
                refine tr_qg 19 rfl (by kernel_rfl) (by kernel_rfl) (by kernel_rfl) rfl rfl rfl rfl (by intro _ h; repeat (first | exact h | replace h := Hold.drop h)) (ev_at_sh sl_22 rfl rfl (by assumption) (by omega)) ?_
                refine tr_qg 20 rfl (by kernel_rfl) (by kernel_rfl) (by kernel_rfl) rfl rfl rfl rfl (by intro _ h; repeat (first | exact h | replace h := Hold.drop h)) (ev_fld_sh fa_45_1 rfl (by assumption) (by omega)) ?_
                refine tr_qg 21 rfl (by kernel_rfl) (by kernel_rfl) (by kernel_rfl) rfl rfl rfl rfl (by intro _ h; repeat (first | exact h | replace h := Hold.drop h)) (ev_load_at_part ag_43 rfl (by first | exact HasArr.own (by repeat (first | exact List.Mem.head _ | apply List.Mem.tail)) | exact HasArr.sh (by repeat (first | exact List.Mem.head _ | apply List.Mem.tail))) (by intro _; rfl) (by assumption) (by omega) (by rfl)) ?_
                refine tr_eg 22 rfl (by kernel_rfl) rfl rfl rfl (eff_call rfl rfl body_39 rfl (by repeat (first | exact Frm.nil | exact Take.here | apply Take.there | apply Frm.cons)) (Sign20_ct _ _)) (by rintro _ _ ⟨_, _, ⟨b, rfl, rfl, hsg⟩, rfl, rfl⟩; exact (by intro _ h; repeat (first | exact h | replace h := Hold.drop h))) ?_
                rintro _ _ ⟨v66, _, ⟨b, rfl, rfl, hsg⟩, rfl, rfl⟩
                refine tr_q 23 rfl (by kernel_rfl) (by kernel_rfl) (by kernel_rfl) rfl (by intro _ h; repeat (first | exact h | replace h := Hold.drop h)) (ev_pick_false rfl rfl) ?_
                refine tr_done (by kernel_rfl) ?_
                refine te_code ?_
                refine t_cond rfl (fun h4 => ?_) (fun h4 => ?_)
                · refine t_seq ?_
                  refine t_region ?_
                  refine tl_q rfl (ev_assign rfl) ?_
                  refine tl_nil ?_
                  refine te_code ?_
                  refine t_ret ?_
                  refine te_ret_k (pre := [b20 bb 40 _ _, arr _ _ _ rv xs]) (res1 rfl rfl) (by repeat (first | exact Frm.nil | exact Take.here | apply Take.there | apply Frm.cons)) ?_
                  refine ⟨_, _, _, rfl, rfl, fun g => ?_⟩
                  obtain ⟨q1, q2, q3, q4, q5, q6⟩ := g
                  first | rfl | (exfalso; omega) | (exfalso; have hu1 := q1 u (List.mem_of_getElem? hu); first | exact g7_6 (hcg hu1.1) | omega | exact goodL_fresh (·.id) hu q2 u2 (mem_take hu2 (by omega)) g12_11 | exact goodL_fresh (fun r => signOf r.e) hu q3 u2 (mem_take hu2 (by omega)) (hsg h4))
                · refine t_skip ?_
                  refine te_blk ?_
                  refine te_code ?_
                  refine t_region ?_
                  refine tl_q rfl (ev_move rfl) ?_
                  refine tl_q rfl (ev_add' rfl rfl (by omega)) ?_
                  refine tl_q rfl (ev_assign rfl) ?_
                  refine tl_nil ?_
                  exact te_round (k2 + 1) (by exact sub_cons rfl (sub_cons rfl (sub_cons rfl (sub_cons rfl (sub_cons rfl (sub_cons rfl (sub_nil))))))) (fun _ h => hold_keep (by repeat (first | exact Frm.nil | exact Take.here | apply Take.there | apply Frm.cons)) h) (by omega) (by omega)
            · refine t_exit ?_
              refine te_exit_code ?_
              refine te_exit_rnd ?_
              refine te_exit_here ?_
              refine te_code ?_
              refine t_seq ?_
              refine t_region ?_
              refine tl_q rfl (ev_assign rfl) ?_
              refine tl_nil ?_
              refine te_code ?_
              refine t_seq ?_
              refine t_block ?_
              refine t_loop (α := Nat) (fun q => [(10, .int .i64 (q : Int)), (8, .int .i64 (i : Int)), (7, ov), (1, rv), (0, .pointer (some ⟨bb, 0, none⟩)), (2, .int .i64 n)]) (fun q => [arr 45 11 encRow ov os, b20 bb 40 next sv, arr 45 11 encRow rv xs]) (fun q => os.length - q) (fun q => q ≤ os.length) 0 (by omega) (by exact sub_cons rfl (sub_cons rfl (sub_cons rfl (sub_cons rfl (sub_cons rfl (sub_cons rfl (sub_nil))))))) (fun _ h => hold_keep (by repeat (first | exact Frm.nil | exact Take.here | apply Take.there | apply Frm.cons)) h) ?_
              rintro k3 hk3
              try dsimp only
              refine t_seq ?_
              refine t_seq ?_
              refine t_drawn_all follows ?_
              refine tr_q 0 rfl (by kernel_rfl) (by kernel_rfl) (by kernel_rfl) rfl (by intro _ h; repeat (first | exact h | replace h := Hold.drop h)) (ev_move rfl) ?_
              refine tr_q 1 rfl (by kernel_rfl) (by kernel_rfl) (by kernel_rfl) rfl (by intro _ h; repeat (first | exact h | replace h := Hold.drop h)) (ev_move rfl) ?_
              refine tr_q 2 rfl (by kernel_rfl) (by kernel_rfl) (by kernel_rfl) rfl (by intro _ h; repeat (first | exact h | replace h := Hold.drop h)) (ev_len_sh sl_22 rfl (by assumption)) ?_
              refine tr_q 3 rfl (by kernel_rfl) (by kernel_rfl) (by kernel_rfl) rfl (by intro _ h; repeat (first | exact h | replace h := Hold.drop h)) (ev_lss rfl rfl) ?_
              refine tr_q 4 rfl (by kernel_rfl) (by kernel_rfl) (by kernel_rfl) rfl (by intro _ h; repeat (first | exact h | replace h := Hold.drop h)) (ev_move rfl) ?_
              refine tr_split_dec 72 rfl (fun h4 => ?_) (fun h4 => ?_)
              · refine tr_qg 5 rfl (by kernel_rfl) (by kernel_rfl) (by kernel_rfl) rfl rfl rfl rfl (by intro _ h; repeat (first | exact h | replace h := Hold.drop h)) (ev_move rfl) ?_
                refine tr_qg 6 rfl (by kernel_rfl) (by kernel_rfl) (by kernel_rfl) rfl rfl rfl rfl (by intro _ h; repeat (first | exact h | replace h := Hold.drop h)) (ev_move rfl) ?_
                refine tr_qg 7 rfl (by kernel_rfl) (by kernel_rfl) (by kernel_rfl) rfl rfl rfl rfl (by intro _ h; repeat (first | exact h | replace h := Hold.drop h)) (ev_at_sh sl_22 rfl rfl (by assumption) (by omega)) ?_
                refine tr_qg 8 rfl (by kernel_rfl) (by kernel_rfl) (by kernel_rfl) rfl rfl rfl rfl (by intro _ h; repeat (first | exact h | replace h := Hold.drop h)) (ev_fld_sh fa_45_0 rfl (by assumption) (by omega)) ?_
                refine tr_qg 9 rfl (by kernel_rfl) (by kernel_rfl) (by kernel_rfl) rfl rfl rfl rfl (by intro _ h; repeat (first | exact h | replace h := Hold.drop h)) (ev_load_at0 sc_3 rfl (by first | exact HasArr.own (by repeat (first | exact List.Mem.head _ | apply List.Mem.tail)) | exact HasArr.sh (by repeat (first | exact List.Mem.head _ | apply List.Mem.tail))) (by intro _; rfl) (List.getElem?_eq_getElem (show k3 < os.length by omega)) (by rfl)) ?_
                refine tr_qg 10 rfl (by kernel_rfl) (by kernel_rfl) (by kernel_rfl) rfl rfl rfl rfl (by intro _ h; repeat (first | exact h | replace h := Hold.drop h)) (ev_move rfl) ?_
                refine tr_qg 11 rfl (by kernel_rfl) (by kernel_rfl) (by kernel_rfl) rfl rfl rfl rfl (by intro _ h; repeat (first | exact h | replace h := Hold.drop h)) (ev_move rfl) ?_
                refine tr_qg 12 rfl (by kernel_rfl) (by kernel_rfl) (by kernel_rfl) rfl rfl rfl rfl (by intro _ h; repeat (first | exact h | replace h := Hold.drop h)) (ev_at_sh sl_22 rfl rfl (by assumption) (by omega)) ?_
                refine tr_qg 13 rfl (by kernel_rfl) (by kernel_rfl) (by kernel_rfl) rfl rfl rfl rfl (by intro _ h; repeat (first | exact h | replace h := Hold.drop h)) (ev_fld_sh fa_45_0 rfl (by assumption) (by omega)) ?_
                refine tr_qg 14 rfl (by kernel_rfl) (by kernel_rfl) (by kernel_rfl) rfl rfl rfl rfl (by intro _ h; repeat (first | exact h | replace h := Hold.drop h)) (ev_load_at0 sc_3 rfl (by first | exact HasArr.own (by repeat (first | exact List.Mem.head _ | apply List.Mem.tail)) | exact HasArr.sh (by repeat (first | exact List.Mem.head _ | apply List.Mem.tail))) (by intro _; rfl) (by assumption) (by rfl)) ?_
                refine tr_qg 15 rfl (by kernel_rfl) (by kernel_rfl) (by kernel_rfl) rfl rfl rfl rfl (by intro _ h; repeat (first | exact h | replace h := Hold.drop h)) (ev_lss rfl rfl) ?_
                refine tr_q 16 rfl (by kernel_rfl) (by kernel_rfl) (by kernel_rfl) rfl (by intro _ h; repeat (first | exact h | replace h := Hold.drop h)) (ev_pick_true rfl rfl) ?_
                refine tr_done (by kernel_rfl) ?_
                refine te_code ?_
                refine t_cond_dec rfl (fun h5 => ?_) (fun h5 => ?_)
                · refine t_skip ?_
                  refine te_code ?_
                  refine t_block ?_
                  refine t_region ?_
                  refine tl_q rfl (ev_move rfl) ?_
                  refine tl_q rfl (ev_add' rfl rfl (by omega)) ?_
                  refine tl_q rfl (ev_assign rfl) ?_
                  refine tl_nil ?_
                  refine te_blk ?_
                  exact te_round (k3 + 1) (by exact sub_cons rfl (sub_cons rfl (sub_cons rfl (sub_cons rfl (sub_cons rfl (sub_cons rfl (sub_nil))))))) (fun _ h => hold_keep (by repeat (first | exact Frm.nil | exact Take.here | apply Take.there | apply Frm.cons)) h) (by omega) (by omega)
                · refine t_exit ?_
                  refine te_exit_code ?_
                  refine te_exit_rnd ?_
                  refine te_exit_here ?_
                  refine te_code ?_
                  refine t_seq ?_
                  refine t_region ?_
                  refine tl_q rfl (ev_assign rfl) ?_
                  refine tl_nil ?_
                  refine te_code ?_
                  refine t_seq ?_
                  refine t_region ?_
                  refine tl_nil_arr 45 11 encRow ?_
                  refine tl_shape2 (v := ov) (xs := os) (T := 45) (sz := 11) (enc := encRow) (by repeat (first | exact List.Mem.head _ | apply List.Mem.tail)) (fun pa pc hov hpc => ?_)
                  subst hov
                  refine tl_q rfl (ev_move rfl) ?_
                  refine tl_q rfl (ev_move rfl) ?_
                  refine tl_q rfl (ev_move rfl) ?_
                  refine tl_q rfl (ev_sliceArr sl_22 rfl rfl ⟨_, rfl⟩ (by omega) (by omega)) ?_
                  refine tl_e (eff_append (ys := ((os.take k3).drop 0)) rfl sl_22 Tryz.underlying22 zero_45 rfl by_45 rfl rfl (by repeat (first | exact Take.here | apply Take.there)) (HasArr.sub (by first | exact HasArr.own (by repeat (first | exact List.Mem.head _ | apply List.Mem.tail)) | exact HasArr.sh (by repeat (first | exact List.Mem.head _ | apply List.Mem.tail))) (by omega) (by omega) (by omega)) (by intro _; rfl) flatRow (by simp; omega) (by decide)) ?_
                  rintro _ _ ⟨v91, rfl, rfl⟩
                  refine tl_q rfl (ev_assign rfl) ?_
                  refine tl_nil ?_
                  refine te_code ?_
                  refine t_seq ?_
                  refine t_region ?_
                  refine tl_q rfl (ev_move rfl) ?_
                  refine tl_q rfl (ev_move rfl) ?_
                  refine tl_q rfl (ev_move rfl) ?_
                  refine tl_q rfl (ev_at_sh sl_22 rfl rfl (by assumption) (by omega)) ?_
                  refine tl_q rfl (ev_load_at_agg ag_45 rfl (by first | exact HasArr.own (by repeat (first | exact List.Mem.head _ | apply List.Mem.tail)) | exact HasArr.sh (by repeat (first | exact List.Mem.head _ | apply List.Mem.tail))) (by intro _; rfl) (by assumption) (by rfl)) ?_
                  refine tl_e (eff_buildSl rfl bs_22_1 rfl (by repeat (first | exact FillR.nil | exact LPut.nil | apply LPut.cons | apply LPut.succ | apply FillR.cons rfl rfl rfl))) ?_
                  rintro _ _ ⟨b97, rfl, rfl⟩
                  refine tl_e (eff_append (ys := [u]) rfl sl_22 Tryz.underlying22 zero_45 rfl by_45 rfl rfl (by repeat (first | exact Take.here | apply Take.there)) (HasArr.lit (by first | (left; (repeat (first | exact List.Mem.head _ | apply List.Mem.tail)); done) | (right; (repeat (first | exact List.Mem.head _ | apply List.Mem.tail)); done)) rfl rfl) (by intro _; rfl) flatRow (by simp; omega) (by decide)) ?_
                  rintro _ _ ⟨v98, rfl, rfl⟩
                  refine tl_q rfl (ev_assign rfl) ?_
                  refine tl_nil ?_
                  refine te_code ?_
                  refine t_region ?_
                  refine tl_q rfl (ev_move rfl) ?_
                  refine tl_q rfl (ev_move rfl) ?_
                  refine tl_q rfl (ev_move rfl) ?_
                  refine tl_q rfl (ev_sliceArr sl_22 rfl ⟨_, rfl⟩ rfl (by omega) (by omega)) ?_
                  refine tl_e (eff_append (ys := ((os.take os.length).drop k3)) rfl sl_22 Tryz.underlying22 zero_45 rfl by_45 rfl rfl (by repeat (first | exact Take.here | apply Take.there)) (HasArr.sub (by first | exact HasArr.own (by repeat (first | exact List.Mem.head _ | apply List.Mem.tail)) | exact HasArr.sh (by repeat (first | exact List.Mem.head _ | apply List.Mem.tail))) (by omega) (by omega) (by omega)) (by intro _; rfl) flatRow (by simp; omega) (by decide)) ?_
                  rintro _ _ ⟨v103, rfl, rfl⟩
                  refine tl_q rfl (ev_assign rfl) ?_
                  refine tl_nil ?_
                  refine te_blk ?_
                  refine te_code ?_
                  refine t_region ?_
                  refine tl_q rfl (ev_move rfl) ?_
                  refine tl_q rfl (ev_add' rfl rfl (by omega)) ?_
                  refine tl_q rfl (ev_assign rfl) ?_
                  refine tl_nil ?_
                  exact te_round (i + 1, _, _) (by exact sub_cons rfl (sub_cons rfl (sub_cons rfl (sub_cons rfl (sub_cons rfl (sub_nil)))))) (fun _ h => hold_keep (by repeat (first | exact Frm.nil | exact Take.here | apply Take.there | apply Frm.cons)) h) (by dsimp only; simp; omega) (by dsimp only; omega)
              · refine tr_no 5 rfl (by kernel_rfl) (by kernel_rfl) (by kernel_rfl) rfl rfl rfl rfl (by intro _ h; repeat (first | exact h | replace h := Hold.drop h)) ?_
                refine tr_no 6 rfl (by kernel_rfl) (by kernel_rfl) (by kernel_rfl) rfl rfl rfl rfl (by intro _ h; repeat (first | exact h | replace h := Hold.drop h)) ?_
                refine tr_no 7 rfl (by kernel_rfl) (by kernel_rfl) (by kernel_rfl) rfl rfl rfl rfl (by intro _ h; repeat (first | exact h | replace h := Hold.drop h)) ?_
                refine tr_no 8 rfl (by kernel_rfl) (by kernel_rfl) (by kernel_rfl) rfl rfl rfl rfl (by intro _ h; repeat (first | exact h | replace h := Hold.drop h)) ?_
                refine tr_no 9 rfl (by kernel_rfl) (by kernel_rfl) (by kernel_rfl) rfl rfl rfl rfl (by intro _ h; repeat (first | exact h | replace h := Hold.drop h)) ?_
                refine tr_no 10 rfl (by kernel_rfl) (by kernel_rfl) (by kernel_rfl) rfl rfl rfl rfl (by intro _ h; repeat (first | exact h | replace h := Hold.drop h)) ?_
                refine tr_no 11 rfl (by kernel_rfl) (by kernel_rfl) (by kernel_rfl) rfl rfl rfl rfl (by intro _ h; repeat (first | exact h | replace h := Hold.drop h)) ?_
                refine tr_no 12 rfl (by kernel_rfl) (by kernel_rfl) (by kernel_rfl) rfl rfl rfl rfl (by intro _ h; repeat (first | exact h | replace h := Hold.drop h)) ?_
                refine tr_no 13 rfl (by kernel_rfl) (by kernel_rfl) (by kernel_rfl) rfl rfl rfl rfl (by intro _ h; repeat (first | exact h | replace h := Hold.drop h)) ?_
                refine tr_no 14 rfl (by kernel_rfl) (by kernel_rfl) (by kernel_rfl) rfl rfl rfl rfl (by intro _ h; repeat (first | exact h | replace h := Hold.drop h)) ?_
                refine tr_no 15 rfl (by kernel_rfl) (by kernel_rfl) (by kernel_rfl) rfl rfl rfl rfl (by intro _ h; repeat (first | exact h | replace h := Hold.drop h)) ?_
                refine tr_q 16 rfl (by kernel_rfl) (by kernel_rfl) (by kernel_rfl) rfl (by intro _ h; repeat (first | exact h | replace h := Hold.drop h)) (ev_pick_false rfl rfl) ?_
                refine tr_done (by kernel_rfl) ?_
                refine te_code ?_
                refine t_cond_false rfl ?_
                refine t_exit ?_
                refine te_exit_code ?_
                refine te_exit_rnd ?_
                refine te_exit_here ?_
                refine te_code ?_
                refine t_seq ?_
                refine t_region ?_
                refine tl_q rfl (ev_assign rfl) ?_
                refine tl_nil ?_
                refine te_code ?_
                refine t_seq ?_
                refine t_region ?_
                refine tl_nil_arr 45 11 encRow ?_
                refine tl_shape2 (v := ov) (xs := os) (T := 45) (sz := 11) (enc := encRow) (by repeat (first | exact List.Mem.head _ | apply List.Mem.tail)) (fun pa pc hov hpc => ?_)
                subst hov
                refine tl_q rfl (ev_move rfl) ?_
                refine tl_q rfl (ev_move rfl) ?_
                refine tl_q rfl (ev_move rfl) ?_
                refine tl_q rfl (ev_sliceArr sl_22 rfl rfl ⟨_, rfl⟩ (by omega) (by omega)) ?_
                refine tl_e (eff_append (ys := ((os.take k3).drop 0)) rfl sl_22 Tryz.underlying22 zero_45 rfl by_45 rfl rfl (by repeat (first | exact Take.here | apply Take.there)) (HasArr.sub (by first | exact HasArr.own (by repeat (first | exact List.Mem.head _ | apply List.Mem.tail)) | exact HasArr.sh (by repeat (first | exact List.Mem.head _ | apply List.Mem.tail))) (by omega) (by omega) (by omega)) (by intro _; rfl) flatRow (by simp; omega) (by decide)) ?_
                rintro _ _ ⟨v91, rfl, rfl⟩
                refine tl_q rfl (ev_assign rfl) ?_
                refine tl_nil ?_
                refine te_code ?_
                refine t_seq ?_
                refine t_region ?_
                refine tl_q rfl (ev_move rfl) ?_
                refine tl_q rfl (ev_move rfl) ?_
                refine tl_q rfl (ev_move rfl) ?_
                refine tl_q rfl (ev_at_sh sl_22 rfl rfl (by assumption) (by omega)) ?_
                refine tl_q rfl (ev_load_at_agg ag_45 rfl (by first | exact HasArr.own (by repeat (first | exact List.Mem.head _ | apply List.Mem.tail)) | exact HasArr.sh (by repeat (first | exact List.Mem.head _ | apply List.Mem.tail))) (by intro _; rfl) (by assumption) (by rfl)) ?_
                refine tl_e (eff_buildSl rfl bs_22_1 rfl (by repeat (first | exact FillR.nil | exact LPut.nil | apply LPut.cons | apply LPut.succ | apply FillR.cons rfl rfl rfl))) ?_
                rintro _ _ ⟨b97, rfl, rfl⟩
                refine tl_e (eff_append (ys := [u]) rfl sl_22 Tryz.underlying22 zero_45 rfl by_45 rfl rfl (by repeat (first | exact Take.here | apply Take.there)) (HasArr.lit (by first | (left; (repeat (first | exact List.Mem.head _ | apply List.Mem.tail)); done) | (right; (repeat (first | exact List.Mem.head _ | apply List.Mem.tail)); done)) rfl rfl) (by intro _; rfl) flatRow (by simp; omega) (by decide)) ?_
                rintro _ _ ⟨v98, rfl, rfl⟩
                refine tl_q rfl (ev_assign rfl) ?_
                refine tl_nil ?_
                refine te_code ?_
                refine t_region ?_
                refine tl_q rfl (ev_move rfl) ?_
                refine tl_q rfl (ev_move rfl) ?_
                refine tl_q rfl (ev_move rfl) ?_
                refine tl_q rfl (ev_sliceArr sl_22 rfl ⟨_, rfl⟩ rfl (by omega) (by omega)) ?_
                refine tl_e (eff_append (ys := ((os.take os.length).drop k3)) rfl sl_22 Tryz.underlying22 zero_45 rfl by_45 rfl rfl (by repeat (first | exact Take.here | apply Take.there)) (HasArr.sub (by first | exact HasArr.own (by repeat (first | exact List.Mem.head _ | apply List.Mem.tail)) | exact HasArr.sh (by repeat (first | exact List.Mem.head _ | apply List.Mem.tail))) (by omega) (by omega) (by omega)) (by intro _; rfl) flatRow (by simp; omega) (by decide)) ?_
                rintro _ _ ⟨v103, rfl, rfl⟩
                refine tl_q rfl (ev_assign rfl) ?_
                refine tl_nil ?_
                refine te_blk ?_
                refine te_code ?_
                refine t_region ?_
                refine tl_q rfl (ev_move rfl) ?_
                refine tl_q rfl (ev_add' rfl rfl (by omega)) ?_
                refine tl_q rfl (ev_assign rfl) ?_
                refine tl_nil ?_
                exact te_round (i + 1, _, _) (by exact sub_cons rfl (sub_cons rfl (sub_cons rfl (sub_cons rfl (sub_cons rfl (sub_nil)))))) (fun _ h => hold_keep (by repeat (first | exact Frm.nil | exact Take.here | apply Take.there | apply Frm.cons)) h) (by dsimp only; simp; omega) (by dsimp only; omega)
      · 
        refine t_exit ?_
        refine te_exit_code ?_
        refine te_exit_rnd ?_
        refine te_exit_here ?_
        refine te_code ?_
        refine t_seq ?_
        refine t_seq ?_
        refine t_region ?_
        refine tl_q rfl (ev_move rfl) ?_
        refine tl_q rfl (ev_len_sh sl_22 rfl (by assumption)) ?_
        refine tl_q rfl (ev_move rfl) ?_
        refine tl_q rfl (ev_nil_ptr rfl) ?_
        refine tl_q rfl (ev_fieldAddr fa_122_0 rfl rfl) ?_
        refine tl_q rfl (ev_load sc_3 rfl (by first | (left; (repeat (first | exact List.Mem.head _ | apply List.Mem.tail)); done) | (right; (repeat (first | exact List.Mem.head _ | apply List.Mem.tail)); done)) rfl) ?_
        refine tl_q rfl (ev_gtr rfl rfl) ?_
        refine tl_nil ?_
        refine te_code ?_
        refine t_cond_dec rfl (fun h6 => ?_) (fun h6 => ?_)
        · refine t_seq ?_
          refine t_region ?_
          refine tl_q rfl (ev_assign rfl) ?_
          refine tl_nil ?_
          refine te_code ?_
          refine t_ret ?_
          refine te_ret_k (pre := [b20 bb 40 _ _, arr _ _ _ rv xs]) (res1 rfl rfl) (by repeat (first | exact Frm.nil | exact Take.here | apply Take.there | apply Frm.cons)) ?_
          refine ⟨_, _, _, rfl, rfl, fun g => ?_⟩
          obtain ⟨q1, q2, q3, q4, q5, q6⟩ := g
          first | rfl | (exfalso; omega) | (exfalso; have hu1 := q1 u (List.mem_of_getElem? hu); first | exact g7_6 (hcg hu1.1) | omega | exact goodL_fresh (·.id) hu q2 u2 (mem_take hu2 (by omega)) g12_11 | exact goodL_fresh (fun r => signOf r.e) hu q3 u2 (mem_take hu2 (by omega)) (hsg h4))
        · refine t_skip ?_
          refine te_code ?_
          refine t_seq ?_
          refine t_region ?_
          obtain ⟨pa, pb, pc, rfl⟩ := shape_sl hsh2
          refine tl_q rfl (ev_move rfl) ?_
          refine tl_q rfl (ev_move rfl) ?_
          refine tl_q rfl (ev_nil_ptr rfl) ?_
          refine tl_q rfl (ev_fieldAddr fa_122_2 rfl rfl) ?_
          refine tl_e (eff_store rfl rfl rfl rfl sz_22 (by first | (simp [Flat]; done) | exact flatTick _ | exact flatRow _ | exact flatEvt _ | exact flatI _) (by repeat (first | exact Upd.here | apply Upd.there)) (by repeat (first | exact LPut.nil | apply LPut.cons | apply LPut.succ))) ?_
          rintro _ _ ⟨rfl, rfl⟩
          refine tl_nil ?_
          refine te_code ?_
          refine t_seq ?_
          refine t_region ?_
          refine tl_q rfl (ev_move rfl) ?_
          refine tl_q rfl (ev_move rfl) ?_
          refine tl_q rfl (ev_nil_ptr rfl) ?_
          refine tl_q rfl (ev_fieldAddr fa_122_1 rfl rfl) ?_
          refine tl_e (eff_store rfl rfl rfl rfl sz_3 (by first | (simp [Flat]; done) | exact flatTick _ | exact flatRow _ | exact flatEvt _ | exact flatI _) (by repeat (first | exact Upd.here | apply Upd.there)) (by repeat (first | exact LPut.nil | apply LPut.cons | apply LPut.succ))) ?_
          rintro _ _ ⟨rfl, rfl⟩
          refine tl_nil ?_
          refine te_code ?_
          refine t_seq ?_
          refine t_region ?_
          refine tl_q rfl (ev_assign rfl) ?_
          refine tl_nil ?_
          refine te_code ?_
          refine t_ret ?_
          refine te_ret_k (pre := [b20 bb 40 _ _, arr _ _ _ rv xs]) (res1 rfl rfl) (by repeat (first | exact Frm.nil | exact Take.here | apply Take.there | apply Frm.cons)) ?_
          refine ⟨_, _, _, rfl, rfl, fun g => ?_⟩
          obtain ⟨q1, q2, q3, q4, q5, q6⟩ := g
          first | rfl | (exfalso; omega) | (exfalso; have hu1 := q1 u (List.mem_of_getElem? hu); first | exact g7_6 (hcg hu1.1) | omega | exact goodL_fresh (·.id) hu q2 u2 (mem_take hu2 (by omega)) g12_11 | exact goodL_fresh (fun r => signOf r.e) hu q3 u2 (mem_take hu2 (by omega)) (hsg h4))

end Go.SL
