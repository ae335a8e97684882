/- Contract of gonglaw30.short. -/
import Derived.Test.YtimhhegebkganaaGreatDoorProg
import Derived.Test.YtimhhegebkganaaGreatDoorGO
import Derived.Test.YtimhhegebkganaaGreatDoorGL
set_option linter.unusedSimpArgs false
set_option linter.unusedVariables false
set_option maxRecDepth 4000
namespace Go.SL
open Go.Proofs




/-- a row's texts are not beyond what came in -/
def bigRow (r : Row) : Prop := r.e.node.size ≤ 2000000 ∧ r.e.cls.size ≤ 2000000 ∧ r.e.key.size ≤ 2000000 ∧ r.e.text.size ≤ 2000000 ∧ r.by_.size ≤ 2000000

theorem short_ct (rv : Value) (xs : List Row) (hx : ∀ r ∈ xs, bigRow r) (hl : xs.length ≤ 2000000) : CT Tryz.prog 5 #[rv] [iarr 11 encRow rv xs] (fun v M => ∃ b : Bool, v = .bool b ∧ M = [iarr 11 encRow rv xs] ∧ (b = true → ∀ i r, i < 30 → xs[i]? = some r → okRow r)) := by
  refine t_fun (vs := [rv]) (n := 53) Tryz.func5 rfl Tryz.ntmps5 rfl fun w0 F => ?_
  refine t_shape (enc := encRow) (sz := 11) (xs := xs) (by first | exact HasArr.own (by repeat (first | exact List.Mem.head _ | apply List.Mem.tail)) | exact HasArr.sh (by repeat (first | exact List.Mem.head _ | apply List.Mem.tail))) (by intro _; rfl) (fun hsh => ?_)
  refine t_seq ?_
  refine t_region ?_
  refine tl_q rfl (ev_assign rfl) ?_
  refine tl_nil ?_
  refine te_code ?_
  refine t_seq ?_
  refine t_seq ?_
  refine t_region ?_
  refine tl_q rfl (ev_assign rfl) ?_
  refine tl_nil ?_
  refine te_code ?_
  refine t_block ?_
  refine t_loop (α := Nat) (fun q => [(3, .int .i64 (q : Int)), (0, rv)]) (fun q => [iarr 11 encRow rv xs]) (fun q => xs.length - q) (fun q => q ≤ xs.length ∧ q ≤ 30 ∧ ∀ i r, i < q → xs[i]? = some r → okRow r) 0 (by simp) (by exact sub_cons rfl (sub_cons rfl (sub_nil))) (fun _ h => hold_keep (by repeat (first | exact Frm.nil | exact Take.here | apply Take.there | apply Frm.cons)) h) ?_
  rintro i ⟨hi, hi30, hz⟩
  try dsimp only
  refine t_seq ?_
  refine t_seq ?_
  refine t_region ?_
  refine tl_q rfl (ev_move rfl) ?_
  refine tl_q rfl (ev_move rfl) ?_
  refine tl_q rfl (ev_len_sh sl_22 rfl (by assumption)) ?_
  refine tl_q rfl (ev_lss rfl rfl) ?_
  refine tl_q rfl (ev_move rfl) ?_
  refine tl_split_dec 8 rfl (fun g2_4 => ?_) (fun g2_4 => ?_)
  · refine tl_guard rfl rfl rfl ?_
    refine tl_q rfl (ev_move rfl) ?_
    refine tl_guard rfl rfl rfl ?_
    refine tl_q rfl (ev_lss rfl rfl) ?_
    refine tl_q rfl (ev_pick_true rfl rfl) ?_
    refine tl_nil ?_
    refine te_code ?_
    refine t_cond_dec rfl (fun h0 => ?_) (fun h0 => ?_)
    · obtain ⟨u, hu⟩ := get_ex (show (i : Int) < xs.length by omega)
      obtain ⟨hu1, hu2, hu3, hu4, hu5⟩ := hx u (List.mem_of_getElem? hu)
      refine t_skip ?_
      refine te_code ?_
      refine t_seq ?_
      refine t_block ?_
      refine t_seq ?_
      refine t_drawn_all follows ?_
      refine tr_q 0 rfl (by kernel_rfl) (by kernel_rfl) (by kernel_rfl) rfl (by intro _ h; repeat (first | exact h | replace h := Hold.drop h)) (ev_move rfl) ?_
      refine tr_q 1 rfl (by kernel_rfl) (by kernel_rfl) (by kernel_rfl) rfl (by intro _ h; repeat (first | exact h | replace h := Hold.drop h)) (ev_move rfl) ?_
      refine tr_q 2 rfl (by kernel_rfl) (by kernel_rfl) (by kernel_rfl) rfl (by intro _ h; repeat (first | exact h | replace h := Hold.drop h)) (ev_at_sh sl_22 rfl rfl (by assumption) (by omega)) ?_
      refine tr_q 3 rfl (by kernel_rfl) (by kernel_rfl) (by kernel_rfl) rfl (by intro _ h; repeat (first | exact h | replace h := Hold.drop h)) (ev_fld_sh fa_45_1 rfl (by assumption) (by omega)) ?_
      refine tr_q 4 rfl (by kernel_rfl) (by kernel_rfl) (by kernel_rfl) rfl (by intro _ h; repeat (first | exact h | replace h := Hold.drop h)) (ev_fld_sh fa_43_4 rfl (by assumption) (by omega)) ?_
      refine tr_q 5 rfl (by kernel_rfl) (by kernel_rfl) (by kernel_rfl) rfl (by intro _ h; repeat (first | exact h | replace h := Hold.drop h)) (ev_load_at (k := 5) sc_9 rfl (by first | exact HasArr.own (by repeat (first | exact List.Mem.head _ | apply List.Mem.tail)) | exact HasArr.sh (by repeat (first | exact List.Mem.head _ | apply List.Mem.tail))) (by intro _; rfl) (by assumption) (by rfl)) ?_
      refine tr_q 6 rfl (by kernel_rfl) (by kernel_rfl) (by kernel_rfl) rfl (by intro _ h; repeat (first | exact h | replace h := Hold.drop h)) (ev_len_str str_9 rfl) ?_
      refine tr_q 7 rfl (by kernel_rfl) (by kernel_rfl) (by kernel_rfl) rfl (by intro _ h; repeat (first | exact h | replace h := Hold.drop h)) (ev_move rfl) ?_
      refine tr_q 8 rfl (by kernel_rfl) (by kernel_rfl) (by kernel_rfl) rfl (by intro _ h; repeat (first | exact h | replace h := Hold.drop h)) (ev_move rfl) ?_
      refine tr_q 9 rfl (by kernel_rfl) (by kernel_rfl) (by kernel_rfl) rfl (by intro _ h; repeat (first | exact h | replace h := Hold.drop h)) (ev_at_sh sl_22 rfl rfl (by assumption) (by omega)) ?_
      refine tr_q 10 rfl (by kernel_rfl) (by kernel_rfl) (by kernel_rfl) rfl (by intro _ h; repeat (first | exact h | replace h := Hold.drop h)) (ev_fld_sh fa_45_1 rfl (by assumption) (by omega)) ?_
      refine tr_q 11 rfl (by kernel_rfl) (by kernel_rfl) (by kernel_rfl) rfl (by intro _ h; repeat (first | exact h | replace h := Hold.drop h)) (ev_fld_sh fa_43_0 rfl (by assumption) (by omega)) ?_
      refine tr_q 12 rfl (by kernel_rfl) (by kernel_rfl) (by kernel_rfl) rfl (by intro _ h; repeat (first | exact h | replace h := Hold.drop h)) (ev_load_at (k := 1) sc_9 rfl (by first | exact HasArr.own (by repeat (first | exact List.Mem.head _ | apply List.Mem.tail)) | exact HasArr.sh (by repeat (first | exact List.Mem.head _ | apply List.Mem.tail))) (by intro _; rfl) (by assumption) (by rfl)) ?_
      refine tr_q 13 rfl (by kernel_rfl) (by kernel_rfl) (by kernel_rfl) rfl (by intro _ h; repeat (first | exact h | replace h := Hold.drop h)) (ev_len_str str_9 rfl) ?_
      refine tr_q 14 rfl (by kernel_rfl) (by kernel_rfl) (by kernel_rfl) rfl (by intro _ h; repeat (first | exact h | replace h := Hold.drop h)) (ev_add' rfl rfl (by omega)) ?_
      refine tr_q 15 rfl (by kernel_rfl) (by kernel_rfl) (by kernel_rfl) rfl (by intro _ h; repeat (first | exact h | replace h := Hold.drop h)) (ev_move rfl) ?_
      refine tr_q 16 rfl (by kernel_rfl) (by kernel_rfl) (by kernel_rfl) rfl (by intro _ h; repeat (first | exact h | replace h := Hold.drop h)) (ev_move rfl) ?_
      refine tr_q 17 rfl (by kernel_rfl) (by kernel_rfl) (by kernel_rfl) rfl (by intro _ h; repeat (first | exact h | replace h := Hold.drop h)) (ev_at_sh sl_22 rfl rfl (by assumption) (by omega)) ?_
      refine tr_q 18 rfl (by kernel_rfl) (by kernel_rfl) (by kernel_rfl) rfl (by intro _ h; repeat (first | exact h | replace h := Hold.drop h)) (ev_fld_sh fa_45_1 rfl (by assumption) (by omega)) ?_
      refine tr_q 19 rfl (by kernel_rfl) (by kernel_rfl) (by kernel_rfl) rfl (by intro _ h; repeat (first | exact h | replace h := Hold.drop h)) (ev_fld_sh fa_43_1 rfl (by assumption) (by omega)) ?_
      refine tr_q 20 rfl (by kernel_rfl) (by kernel_rfl) (by kernel_rfl) rfl (by intro _ h; repeat (first | exact h | replace h := Hold.drop h)) (ev_load_at (k := 2) sc_9 rfl (by first | exact HasArr.own (by repeat (first | exact List.Mem.head _ | apply List.Mem.tail)) | exact HasArr.sh (by repeat (first | exact List.Mem.head _ | apply List.Mem.tail))) (by intro _; rfl) (by assumption) (by rfl)) ?_
      refine tr_q 21 rfl (by kernel_rfl) (by kernel_rfl) (by kernel_rfl) rfl (by intro _ h; repeat (first | exact h | replace h := Hold.drop h)) (ev_len_str str_9 rfl) ?_
      refine tr_q 22 rfl (by kernel_rfl) (by kernel_rfl) (by kernel_rfl) rfl (by intro _ h; repeat (first | exact h | replace h := Hold.drop h)) (ev_add' rfl rfl (by omega)) ?_
      refine tr_q 23 rfl (by kernel_rfl) (by kernel_rfl) (by kernel_rfl) rfl (by intro _ h; repeat (first | exact h | replace h := Hold.drop h)) (ev_move rfl) ?_
      refine tr_q 24 rfl (by kernel_rfl) (by kernel_rfl) (by kernel_rfl) rfl (by intro _ h; repeat (first | exact h | replace h := Hold.drop h)) (ev_move rfl) ?_
      refine tr_q 25 rfl (by kernel_rfl) (by kernel_rfl) (by kernel_rfl) rfl (by intro _ h; repeat (first | exact h | replace h := Hold.drop h)) (ev_at_sh sl_22 rfl rfl (by assumption) (by omega)) ?_
      refine tr_q 26 rfl (by kernel_rfl) (by kernel_rfl) (by kernel_rfl) rfl (by intro _ h; repeat (first | exact h | replace h := Hold.drop h)) (ev_fld_sh fa_45_1 rfl (by assumption) (by omega)) ?_
      refine tr_q 27 rfl (by kernel_rfl) (by kernel_rfl) (by kernel_rfl) rfl (by intro _ h; repeat (first | exact h | replace h := Hold.drop h)) (ev_fld_sh fa_43_2 rfl (by assumption) (by omega)) ?_
      refine tr_q 28 rfl (by kernel_rfl) (by kernel_rfl) (by kernel_rfl) rfl (by intro _ h; repeat (first | exact h | replace h := Hold.drop h)) (ev_load_at (k := 3) sc_9 rfl (by first | exact HasArr.own (by repeat (first | exact List.Mem.head _ | apply List.Mem.tail)) | exact HasArr.sh (by repeat (first | exact List.Mem.head _ | apply List.Mem.tail))) (by intro _; rfl) (by assumption) (by rfl)) ?_
      refine tr_q 29 rfl (by kernel_rfl) (by kernel_rfl) (by kernel_rfl) rfl (by intro _ h; repeat (first | exact h | replace h := Hold.drop h)) (ev_len_str str_9 rfl) ?_
      refine tr_q 30 rfl (by kernel_rfl) (by kernel_rfl) (by kernel_rfl) rfl (by intro _ h; repeat (first | exact h | replace h := Hold.drop h)) (ev_add' rfl rfl (by omega)) ?_
      refine tr_q 31 rfl (by kernel_rfl) (by kernel_rfl) (by kernel_rfl) rfl (by intro _ h; repeat (first | exact h | replace h := Hold.drop h)) (ev_move rfl) ?_
      refine tr_q 32 rfl (by kernel_rfl) (by kernel_rfl) (by kernel_rfl) rfl (by intro _ h; repeat (first | exact h | replace h := Hold.drop h)) (ev_move rfl) ?_
      refine tr_q 33 rfl (by kernel_rfl) (by kernel_rfl) (by kernel_rfl) rfl (by intro _ h; repeat (first | exact h | replace h := Hold.drop h)) (ev_at_sh sl_22 rfl rfl (by assumption) (by omega)) ?_
      refine tr_q 34 rfl (by kernel_rfl) (by kernel_rfl) (by kernel_rfl) rfl (by intro _ h; repeat (first | exact h | replace h := Hold.drop h)) (ev_fld_sh fa_45_6 rfl (by assumption) (by omega)) ?_
      refine tr_q 35 rfl (by kernel_rfl) (by kernel_rfl) (by kernel_rfl) rfl (by intro _ h; repeat (first | exact h | replace h := Hold.drop h)) (ev_load_at sc_9 rfl (by first | exact HasArr.own (by repeat (first | exact List.Mem.head _ | apply List.Mem.tail)) | exact HasArr.sh (by repeat (first | exact List.Mem.head _ | apply List.Mem.tail))) (by intro _; rfl) (by assumption) (by rfl)) ?_
      refine tr_q 36 rfl (by kernel_rfl) (by kernel_rfl) (by kernel_rfl) rfl (by intro _ h; repeat (first | exact h | replace h := Hold.drop h)) (ev_len_str str_9 rfl) ?_
      refine tr_q 37 rfl (by kernel_rfl) (by kernel_rfl) (by kernel_rfl) rfl (by intro _ h; repeat (first | exact h | replace h := Hold.drop h)) (ev_add' rfl rfl (by omega)) ?_
      refine tr_q 38 rfl (by kernel_rfl) (by kernel_rfl) (by kernel_rfl) rfl (by intro _ h; repeat (first | exact h | replace h := Hold.drop h)) (ev_gtr rfl rfl) ?_
      refine tr_done (by kernel_rfl) ?_
      refine te_code ?_
      refine t_cond_dec rfl (fun h1 => ?_) (fun h1 => ?_)
      · refine t_seq ?_
        refine t_region ?_
        refine tl_q rfl (ev_assign rfl) ?_
        refine tl_nil ?_
        refine te_code ?_
        refine t_ret ?_
        refine te_ret_k (pre := [iarr 11 encRow rv xs]) (res1 rfl rfl) (by repeat (first | exact Frm.nil | exact Take.here | apply Take.there | apply Frm.cons)) ?_
        refine ⟨_, rfl, rfl, ?_⟩
        first | (intro h; exact absurd h (by decide)) | (intro _ m r hm hr; exact hz m r (by have := (List.getElem?_eq_some_iff.1 hr).1; omega) hr)
      · refine t_skip ?_
        refine te_blk ?_
        refine te_code ?_
        refine t_region ?_
        refine tl_q rfl (ev_move rfl) ?_
        refine tl_q rfl (ev_add' rfl rfl (by omega)) ?_
        refine tl_q rfl (ev_assign rfl) ?_
        refine tl_nil ?_
        exact te_round (i + 1) (by exact sub_cons rfl (sub_cons rfl (sub_nil))) (fun _ h => hold_keep (by repeat (first | exact Frm.nil | exact Take.here | apply Take.there | apply Frm.cons)) h) ⟨by omega, by omega, fun m r hm hr => by
              by_cases e : m = i
              · subst e; rw [hu] at hr; cases hr; exact ⟨by omega, by omega, by omega, by omega, by omega⟩
              · exact hz m r (by omega) hr⟩ (by omega)
    · refine t_exit ?_
      refine te_exit_code ?_
      refine te_exit_rnd ?_
      refine te_exit_here ?_
      refine te_code ?_
      refine t_seq ?_
      refine t_region ?_
      refine tl_q rfl (ev_assign rfl) ?_
      refine tl_nil ?_
      refine te_code ?_
      refine t_ret ?_
      refine te_ret_k (pre := [iarr 11 encRow rv xs]) (res1 rfl rfl) (by repeat (first | exact Frm.nil | exact Take.here | apply Take.there | apply Frm.cons)) ?_
      refine ⟨_, rfl, rfl, ?_⟩
      first | (intro h; exact absurd h (by decide)) | (intro _ m r hm hr; exact hz m r (by have := (List.getElem?_eq_some_iff.1 hr).1; omega) hr)
  · refine tl_guard_no rfl rfl rfl rfl ?_
    refine tl_guard_no rfl rfl rfl rfl ?_
    refine tl_q rfl (ev_pick_false rfl rfl) ?_
    refine tl_nil ?_
    refine te_code ?_
    refine t_cond_false rfl ?_
    refine t_exit ?_
    refine te_exit_code ?_
    refine te_exit_rnd ?_
    refine te_exit_here ?_
    refine te_code ?_
    refine t_seq ?_
    refine t_region ?_
    refine tl_q rfl (ev_assign rfl) ?_
    refine tl_nil ?_
    refine te_code ?_
    refine t_ret ?_
    refine te_ret_k (pre := [iarr 11 encRow rv xs]) (res1 rfl rfl) (by repeat (first | exact Frm.nil | exact Take.here | apply Take.there | apply Frm.cons)) ?_
    refine ⟨_, rfl, rfl, ?_⟩
    first | (intro h; exact absurd h (by decide)) | (intro _ m r hm hr; exact hz m r (by have := (List.getElem?_eq_some_iff.1 hr).1; omega) hr)

end Go.SL
