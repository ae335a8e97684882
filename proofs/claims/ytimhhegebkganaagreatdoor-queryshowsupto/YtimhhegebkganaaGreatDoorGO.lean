/- Contract of the document's outbox. -/
import Derived.Test.YtimhhegebkganaaGreatDoorProg
import Derived.Test.YtimhhegebkganaaGreatDoorGC
set_option linter.unusedSimpArgs false
set_option linter.unusedVariables false
set_option maxRecDepth 4000
namespace Go.SL
open Go.Proofs

theorem body_38 : (Tryz.prog.funcs[38]?).map (fun fn => fn.body.isSome && !(fn.name == "runtime.NumGoroutine")) = some true := by kernel_rfl
theorem fa_133_6 : FldAt Tryz.prog 133 6 6 := fun a w => by kernel_rfl
theorem sc_131 : IsSc Tryz.prog 131 := isSc_of Tryz.underlying131 rfl
theorem info_135 : Tryz.prog.info? 135 = some Tryz.t135 := by kernel_rfl
theorem sl_131 : SliceOf Tryz.prog 131 135 15 := sliceOf_of Tryz.underlying131 info_135 rfl
theorem fa_133_0 : FldAt Tryz.prog 133 0 0 := fun a w => by kernel_rfl
theorem fa_133_4 : FldAt Tryz.prog 133 4 4 := fun a w => by kernel_rfl
theorem fa_133_3 : FldAt Tryz.prog 133 3 3 := fun a w => by kernel_rfl
theorem bs_131_0 : SliceIs Tryz.prog 131 0 135 15 [] := sliceIs_of Tryz.underlying131 info_135 rfl rfl (by decide) (by kernel_rfl)
theorem zero_135 : ZeroIs Tryz.prog 135 (.agg #[.int .i64 0, .int .i64 0, .int .i64 0, .string ⟨#[]⟩, .string ⟨#[]⟩, .string ⟨#[]⟩, .int .i64 0, .string ⟨#[]⟩, .int .i64 0, .int .i64 0, .int .i64 0, .bool false, .string ⟨#[]⟩, .int .i64 0, .int .i64 0]) := zeroIs_of info_135 rfl
theorem by_135 : ∀ w, ∃ i, (typeInfo 135).run Tryz.prog w = .ok i w ∧ i.bytes = 160 := bytes_of info_135 rfl
theorem st_135 : StructIs Tryz.prog 135 (fun j => ([(0, 13), (13, 1), (14, 1)] : List (Nat × Nat))[j]?) [.int .i64 0, .int .i64 0, .int .i64 0, .string ⟨#[]⟩, .string ⟨#[]⟩, .string ⟨#[]⟩, .int .i64 0, .string ⟨#[]⟩, .int .i64 0, .int .i64 0, .int .i64 0, .bool false, .string ⟨#[]⟩, .int .i64 0, .int .i64 0] := structIs_of (ss := [13, 1, 1]) Tryz.underlying135 info_135 rfl (by kernel_rfl)
theorem bs_131_1 : SliceIs Tryz.prog 131 1 135 15 [.int .i64 0, .int .i64 0, .int .i64 0, .string ⟨#[]⟩, .string ⟨#[]⟩, .string ⟨#[]⟩, .int .i64 0, .string ⟨#[]⟩, .int .i64 0, .int .i64 0, .int .i64 0, .bool false, .string ⟨#[]⟩, .int .i64 0, .int .i64 0] := sliceIs_of Tryz.underlying131 info_135 rfl rfl (by decide) (by kernel_rfl)
theorem sz_131 : SizeIs Tryz.prog 131 1 := sizeIs_of info_131 rfl

theorem flatLet : ∀ x, ∀ c ∈ encLet x, Flat c := by intro x c hc; simp [encLet] at hc; rcases hc with rfl | rfl | rfl | rfl | rfl | rfl | rfl | rfl | rfl | rfl | rfl | rfl | rfl | rfl | rfl <;> trivial
theorem o24_Put_ct (ob : Nat) (last ref : Int) (sv : Value) (ls : List Letter) (hl : ls.length ≤ 1000) (r : Row) (hr : okRow r) (h1 : 0 ≤ last ∧ last ≤ 1000) (h2 : 0 ≤ ref ∧ ref ≤ 1000) : CT Tryz.prog 22 #[.pointer (some ⟨ob, 0, none⟩), .int .i64 1, .agg (encRow r).toArray] [o24 ob 40 1 9 last ref 0 sv, arr 135 15 encLet sv ls] (fun v M => ∃ seq c last' ref' sv' ls', v = .tuple #[.int .i64 seq, .int .i64 c] ∧ M = [o24 ob 40 1 9 last' ref' 0 sv', arr 135 15 encLet sv' ls'] ∧ (0 ≤ last' ∧ last' ≤ last + 1) ∧ (0 ≤ ref' ∧ ref' ≤ ref + 1) ∧ ls'.length ≤ ls.length + 1) := by
  refine t_fun (vs := [.pointer (some ⟨ob, 0, none⟩), .int .i64 1, .agg (encRow r).toArray]) (n := 68) Tryz.func22 rfl Tryz.ntmps22 rfl fun w0 F => ?_
  refine t_shape (enc := encLet) (sz := 15) (xs := ls) (by first | exact HasArr.own (by repeat (first | exact List.Mem.head _ | apply List.Mem.tail)) | exact HasArr.sh (by repeat (first | exact List.Mem.head _ | apply List.Mem.tail))) (by intro _; rfl) (fun hsh => ?_)
  refine t_seq ?_
  refine t_region ?_
  refine tl_e (eff_box rfl rfl rfl) ?_
  rintro _ _ ⟨b5, rfl, rfl⟩
  refine tl_q rfl (ev_assign rfl) ?_
  refine tl_q rfl (ev_assign rfl) ?_
  refine tl_nil ?_
  refine te_code ?_
  refine t_seq ?_
  refine t_seq ?_
  refine t_region ?_
  refine tl_q rfl (ev_move rfl) ?_
  refine tl_q rfl (ev_lss rfl rfl) ?_
  refine tl_q rfl (ev_move rfl) ?_
  refine tl_is 10 (c := false) rfl (by first | rfl | (simp; done) | (simp; omega) | simp_all) ?_
  refine tl_guard rfl rfl rfl ?_
  refine tl_q rfl (ev_move rfl) ?_
  refine tl_guard rfl rfl rfl ?_
  refine tl_q rfl (ev_gtr rfl rfl) ?_
  refine tl_q rfl (ev_pick_false rfl rfl) ?_
  refine tl_q rfl (ev_move rfl) ?_
  refine tl_is 14 (c := false) rfl (by first | rfl | (simp; done) | (simp; omega) | simp_all) ?_
  refine tl_guard rfl rfl rfl ?_
  refine tl_q rfl (ev_load_agg ag_45 rfl (by first | (left; (repeat (first | exact List.Mem.head _ | apply List.Mem.tail)); done) | (right; (repeat (first | exact List.Mem.head _ | apply List.Mem.tail)); done)) (by repeat (first | exact LDrop.zero | apply LDrop.succ)) (by repeat (first | exact LTake.zero | apply LTake.succ))) ?_
  refine tl_guard rfl rfl rfl ?_
  refine tl_e (eff_call rfl rfl body_38 rfl (by repeat (first | exact Frm.nil | exact Take.here | apply Take.there | apply Frm.cons)) (Check20_ct _ (by assumption))) ?_
  rintro _ _ ⟨v16, _, ⟨c, rfl, rfl, hcg⟩, rfl, rfl⟩
  refine tl_guard rfl rfl rfl ?_
  refine tl_q rfl (ev_neq rfl rfl) ?_
  refine tl_q rfl (ev_pick_false rfl rfl) ?_
  refine tl_nil ?_
  refine te_code ?_
  refine t_cond_dec rfl (fun h0 => ?_) (fun h0 => ?_)
  · refine t_seq ?_
    refine t_region ?_
    refine tl_q rfl (ev_assign rfl) ?_
    refine tl_q rfl (ev_assign rfl) ?_
    refine tl_nil ?_
    refine te_code ?_
    refine t_ret ?_
    refine te_ret_k (pre := [o24 ob 40 1 9 _ _ 0 _, arr _ _ encLet _ _]) (res2 rfl rfl rfl) (by repeat (first | exact Frm.nil | exact Take.here | apply Take.there | apply Frm.cons)) ?_
    exact ⟨_, _, _, _, _, _, rfl, rfl, by omega, by omega, by simp⟩
  · refine t_skip ?_
    refine te_code ?_
    refine t_seq ?_
    refine t_seq ?_
    refine t_drawn_all follows ?_
    refine tr_q 0 rfl (by kernel_rfl) (by kernel_rfl) (by kernel_rfl) rfl (by intro _ h; repeat (first | exact h | replace h := Hold.drop h)) (ev_move rfl) ?_
    refine tr_q 1 rfl (by kernel_rfl) (by kernel_rfl) (by kernel_rfl) rfl (by intro _ h; repeat (first | exact h | replace h := Hold.drop h)) (ev_nil_ptr rfl) ?_
    refine tr_q 2 rfl (by kernel_rfl) (by kernel_rfl) (by kernel_rfl) rfl (by intro _ h; repeat (first | exact h | replace h := Hold.drop h)) (ev_fieldAddr fa_133_6 rfl rfl) ?_
    refine tr_q 3 rfl (by kernel_rfl) (by kernel_rfl) (by kernel_rfl) rfl (by intro _ h; repeat (first | exact h | replace h := Hold.drop h)) (ev_load sc_131 rfl (by first | (left; (repeat (first | exact List.Mem.head _ | apply List.Mem.tail)); done) | (right; (repeat (first | exact List.Mem.head _ | apply List.Mem.tail)); done)) rfl) ?_
    refine tr_q 4 rfl (by kernel_rfl) (by kernel_rfl) (by kernel_rfl) rfl (by intro _ h; repeat (first | exact h | replace h := Hold.drop h)) (ev_len_sh sl_131 rfl (by assumption)) ?_
    refine tr_q 5 rfl (by kernel_rfl) (by kernel_rfl) (by kernel_rfl) rfl (by intro _ h; repeat (first | exact h | replace h := Hold.drop h)) (ev_move rfl) ?_
    refine tr_q 6 rfl (by kernel_rfl) (by kernel_rfl) (by kernel_rfl) rfl (by intro _ h; repeat (first | exact h | replace h := Hold.drop h)) (ev_nil_ptr rfl) ?_
    refine tr_q 7 rfl (by kernel_rfl) (by kernel_rfl) (by kernel_rfl) rfl (by intro _ h; repeat (first | exact h | replace h := Hold.drop h)) (ev_fieldAddr fa_133_0 rfl rfl) ?_
    refine tr_q 8 rfl (by kernel_rfl) (by kernel_rfl) (by kernel_rfl) rfl (by intro _ h; repeat (first | exact h | replace h := Hold.drop h)) (ev_load sc_3 rfl (by first | (left; (repeat (first | exact List.Mem.head _ | apply List.Mem.tail)); done) | (right; (repeat (first | exact List.Mem.head _ | apply List.Mem.tail)); done)) rfl) ?_
    refine tr_q 9 rfl (by kernel_rfl) (by kernel_rfl) (by kernel_rfl) rfl (by intro _ h; repeat (first | exact h | replace h := Hold.drop h)) (ev_geq rfl rfl) ?_
    refine tr_done (by kernel_rfl) ?_
    refine te_code ?_
    refine t_cond_dec rfl (fun h1 => ?_) (fun h1 => ?_)
    · refine t_seq ?_
      refine t_region ?_
      refine tl_q rfl (ev_move rfl) ?_
      refine tl_q rfl (ev_move rfl) ?_
      refine tl_q rfl (ev_nil_ptr rfl) ?_
      refine tl_q rfl (ev_fieldAddr fa_133_4 rfl rfl) ?_
      refine tl_q rfl (ev_load sc_3 rfl (by first | (left; (repeat (first | exact List.Mem.head _ | apply List.Mem.tail)); done) | (right; (repeat (first | exact List.Mem.head _ | apply List.Mem.tail)); done)) rfl) ?_
      refine tl_q rfl (ev_add' rfl rfl (by omega)) ?_
      refine tl_q rfl (ev_nil_ptr rfl) ?_
      refine tl_q rfl (ev_fieldAddr fa_133_4 rfl rfl) ?_
      refine tl_e (eff_store rfl rfl rfl rfl sz_3 (by first | (simp [Flat]; done) | exact flatLet _ | exact flatTick _ | exact flatRow _ | exact flatEvt _ | exact flatI _) (by repeat (first | exact Upd.here | apply Upd.there)) (by repeat (first | exact LPut.nil | apply LPut.cons | apply LPut.succ))) ?_
      rintro _ _ ⟨rfl, rfl⟩
      refine tl_nil ?_
      refine te_code ?_
      refine t_seq ?_
      refine t_region ?_
      refine tl_q rfl (ev_assign rfl) ?_
      refine tl_q rfl (ev_assign rfl) ?_
      refine tl_nil ?_
      refine te_code ?_
      refine t_ret ?_
      refine te_ret_k (pre := [o24 ob 40 1 9 _ _ 0 _, arr _ _ encLet _ _]) (res2 rfl rfl rfl) (by repeat (first | exact Frm.nil | exact Take.here | apply Take.there | apply Frm.cons)) ?_
      exact ⟨_, _, _, _, _, _, rfl, rfl, by omega, by omega, by simp⟩
    · refine t_skip ?_
      refine te_code ?_
      refine t_seq ?_
      refine t_region ?_
      refine tl_q rfl (ev_move rfl) ?_
      refine tl_q rfl (ev_move rfl) ?_
      refine tl_q rfl (ev_nil_ptr rfl) ?_
      refine tl_q rfl (ev_fieldAddr fa_133_3 rfl rfl) ?_
      refine tl_q rfl (ev_load sc_3 rfl (by first | (left; (repeat (first | exact List.Mem.head _ | apply List.Mem.tail)); done) | (right; (repeat (first | exact List.Mem.head _ | apply List.Mem.tail)); done)) rfl) ?_
      refine tl_q rfl (ev_add' rfl rfl (by omega)) ?_
      refine tl_q rfl (ev_nil_ptr rfl) ?_
      refine tl_q rfl (ev_fieldAddr fa_133_3 rfl rfl) ?_
      refine tl_e (eff_store rfl rfl rfl rfl sz_3 (by first | (simp [Flat]; done) | exact flatLet _ | exact flatTick _ | exact flatRow _ | exact flatEvt _ | exact flatI _) (by repeat (first | exact Upd.here | apply Upd.there)) (by repeat (first | exact LPut.nil | apply LPut.cons | apply LPut.succ))) ?_
      rintro _ _ ⟨rfl, rfl⟩
      refine tl_nil ?_
      refine te_code ?_
      refine t_seq ?_
      refine t_drawn_wo (A := (o24 ob 40 1 9 (last + 1) ref 0 sv)) (by repeat (first | exact Take.here | apply Take.there)) follows ?_
      refine tr_q 0 rfl (by kernel_rfl) (by kernel_rfl) (by kernel_rfl) rfl (fun _ h => hold_sub (by repeat (first | exact Frm.nil | exact Take.here | apply Take.there | apply Frm.cons)) h) (ev_move rfl) ?_
      refine tr_q 2 rfl (by kernel_rfl) (by kernel_rfl) (by kernel_rfl) rfl (fun _ h => hold_sub (by repeat (first | exact Frm.nil | exact Take.here | apply Take.there | apply Frm.cons)) h) (ev_move rfl) ?_
      refine tr_q 3 rfl (by kernel_rfl) (by kernel_rfl) (by kernel_rfl) rfl (fun _ h => hold_sub (by repeat (first | exact Frm.nil | exact Take.here | apply Take.there | apply Frm.cons)) h) (ev_nil_ptr rfl) ?_
      refine tr_q 4 rfl (by kernel_rfl) (by kernel_rfl) (by kernel_rfl) rfl (fun _ h => hold_sub (by repeat (first | exact Frm.nil | exact Take.here | apply Take.there | apply Frm.cons)) h) (ev_fieldAddr fa_133_6 rfl rfl) ?_
      refine tr_q 7 rfl (by kernel_rfl) (by kernel_rfl) (by kernel_rfl) rfl (fun _ h => hold_sub (by repeat (first | exact Frm.nil | exact Take.here | apply Take.there | apply Frm.cons)) h) (ev_move rfl) ?_
      refine tr_q 8 rfl (by kernel_rfl) (by kernel_rfl) (by kernel_rfl) rfl (fun _ h => hold_sub (by repeat (first | exact Frm.nil | exact Take.here | apply Take.there | apply Frm.cons)) h) (ev_nil_ptr rfl) ?_
      refine tr_q 9 rfl (by kernel_rfl) (by kernel_rfl) (by kernel_rfl) rfl (fun _ h => hold_sub (by repeat (first | exact Frm.nil | exact Take.here | apply Take.there | apply Frm.cons)) h) (ev_fieldAddr fa_133_3 rfl rfl) ?_
      refine tr_q 11 rfl (by kernel_rfl) (by kernel_rfl) (by kernel_rfl) rfl (fun _ h => hold_sub (by repeat (first | exact Frm.nil | exact Take.here | apply Take.there | apply Frm.cons)) h) (ev_move rfl) ?_
      refine tr_q 12 rfl (by kernel_rfl) (by kernel_rfl) (by kernel_rfl) rfl (fun _ h => hold_sub (by repeat (first | exact Frm.nil | exact Take.here | apply Take.there | apply Frm.cons)) h) (ev_load_agg ag_45 rfl (by first | (left; (repeat (first | exact List.Mem.head _ | apply List.Mem.tail)); done) | (right; (repeat (first | exact List.Mem.head _ | apply List.Mem.tail)); done)) (by repeat (first | exact LDrop.zero | apply LDrop.succ)) (by repeat (first | exact LTake.zero | apply LTake.succ))) ?_
      refine tr_any [1, 5, 10] (by kernel_rfl) (by simp) (all_cons ?_ (all_cons ?_ (all_cons ?_ (all_nil))))
      · refine to_e rfl (eff_buildSl rfl bs_131_0 rfl (by repeat (first | exact FillR.nil | exact LPut.nil | apply LPut.cons | apply LPut.succ | apply FillR.cons rfl rfl rfl))) (by rintro _ _ ⟨_, rfl, rfl⟩; exact (fun _ h => hold_sub (by repeat (first | exact Frm.nil | exact Take.here | apply Take.there | apply Frm.cons)) h)) ?_
        rintro _ _ ⟨b46, rfl, rfl⟩
        refine tr_lit (T := 135) (sz := 15) (enc := encLet) [] rfl rfl rfl ?_
        refine tr_any [5, 10] (by kernel_rfl) (by simp) (all_cons ?_ (all_cons ?_ (all_nil)))
        · refine to_e rfl (eff_ev rfl (ev_load sc_131 rfl (by first | (left; (repeat (first | exact List.Mem.head _ | apply List.Mem.tail)); done) | (right; (repeat (first | exact List.Mem.head _ | apply List.Mem.tail)); done)) rfl)) (by rintro _ _ ⟨rfl, rfl⟩; exact (fun _ h => hold_sub (by repeat (first | exact Frm.nil | exact Take.here | apply Take.there | apply Frm.cons)) h)) ?_
          rintro _ _ ⟨rfl, rfl⟩
          refine tr_any [6, 10] (by kernel_rfl) (by simp) (all_cons ?_ (all_cons ?_ (all_nil)))
          · refine to_e rfl (eff_append (ys := ls) rfl sl_131 Tryz.underlying131 zero_135 rfl by_135 rfl rfl (by repeat (first | exact Take.here | apply Take.there)) ((by first | exact HasArr.own (by repeat (first | exact List.Mem.head _ | apply List.Mem.tail)) | exact HasArr.sh (by repeat (first | exact List.Mem.head _ | apply List.Mem.tail)))) (by intro _; rfl) flatLet (by simp; omega) (by decide)) (by rintro _ _ ⟨_, rfl, rfl⟩; exact (fun _ h => hold_sub (by repeat (first | exact Frm.nil | exact Take.here | apply Take.there | apply Frm.cons)) h)) ?_
            rintro _ _ ⟨v51, rfl, rfl⟩
            refine tr_e 10 rfl (by kernel_rfl) (eff_ev rfl (ev_load sc_3 rfl (by first | (left; (repeat (first | exact List.Mem.head _ | apply List.Mem.tail)); done) | (right; (repeat (first | exact List.Mem.head _ | apply List.Mem.tail)); done)) rfl)) (by rintro _ _ ⟨rfl, rfl⟩; exact (fun _ h => hold_sub (by repeat (first | exact Frm.nil | exact Take.here | apply Take.there | apply Frm.cons)) h)) ?_
            rintro _ _ ⟨rfl, rfl⟩
            refine tr_q 13 rfl (by kernel_rfl) (by kernel_rfl) (by kernel_rfl) rfl (fun _ h => hold_sub (by repeat (first | exact Frm.nil | exact Take.here | apply Take.there | apply Frm.cons)) h) (ev_build st_130 rfl (by repeat (first | exact FillR.nil | exact LPut.nil | apply LPut.cons | apply LPut.succ | apply FillR.cons rfl rfl rfl))) ?_
            refine tr_q 14 rfl (by kernel_rfl) (by kernel_rfl) (by kernel_rfl) rfl (fun _ h => hold_sub (by repeat (first | exact Frm.nil | exact Take.here | apply Take.there | apply Frm.cons)) h) (ev_build st_135 rfl (by repeat (first | exact FillR.nil | exact LPut.nil | apply LPut.cons | apply LPut.succ | apply FillR.cons rfl rfl rfl))) ?_
            refine tr_e 15 rfl (by kernel_rfl) (eff_buildSl rfl bs_131_1 rfl (by repeat (first | exact FillR.nil | exact LPut.nil | apply LPut.cons | apply LPut.succ | apply FillR.cons rfl rfl rfl))) (by rintro _ _ ⟨_, rfl, rfl⟩; exact (fun _ h => hold_sub (by repeat (first | exact Frm.nil | exact Take.here | apply Take.there | apply Frm.cons)) h)) ?_
            rintro _ _ ⟨b60, rfl, rfl⟩
            refine tr_e 16 rfl (by kernel_rfl) (eff_append (ys := [⟨last + 1, 1, r, 0, 0⟩]) rfl sl_131 Tryz.underlying131 zero_135 rfl by_135 rfl rfl (by repeat (first | exact Take.here | apply Take.there)) (HasArr.lit (by first | (left; (repeat (first | exact List.Mem.head _ | apply List.Mem.tail)); done) | (right; (repeat (first | exact List.Mem.head _ | apply List.Mem.tail)); done)) rfl rfl) (by intro _; rfl) flatLet (by simp; omega) (by decide)) (by rintro _ _ ⟨_, rfl, rfl⟩; exact (fun _ h => hold_sub (by repeat (first | exact Frm.nil | exact Take.here | apply Take.there | apply Frm.cons)) h)) ?_
            rintro _ _ ⟨v61, rfl, rfl⟩
            refine tr_shape (enc := encLet) (sz := 15) (v := v61) (by first | exact HasArr.own (by repeat (first | exact List.Mem.head _ | apply List.Mem.tail)) | exact HasArr.sh (by repeat (first | exact List.Mem.head _ | apply List.Mem.tail))) (by intro _; rfl) (fun hsh2 => ?_)
            obtain ⟨p2, q2, c2, rfl⟩ := shape_sl hsh2
            refine tr_q 17 rfl (by kernel_rfl) (by kernel_rfl) (by kernel_rfl) rfl (fun _ h => hold_sub (by repeat (first | exact Frm.nil | exact Take.here | apply Take.there | apply Frm.cons)) h) (ev_nil_ptr rfl) ?_
            refine tr_q 18 rfl (by kernel_rfl) (by kernel_rfl) (by kernel_rfl) rfl (fun _ h => hold_sub (by repeat (first | exact Frm.nil | exact Take.here | apply Take.there | apply Frm.cons)) h) (ev_fieldAddr fa_133_6 rfl rfl) ?_
            refine tr_e 19 rfl (by kernel_rfl) (eff_store rfl rfl rfl rfl sz_131 (by first | (simp [Flat]; done) | exact flatLet _ | exact flatTick _ | exact flatRow _ | exact flatEvt _ | exact flatI _) (by repeat (first | exact Upd.here | apply Upd.there)) (by repeat (first | exact LPut.nil | apply LPut.cons | apply LPut.succ))) (by rintro _ _ ⟨rfl, rfl⟩; exact (fun _ h => hold_sub (by repeat (first | exact Frm.nil | exact Take.here | apply Take.there | apply Frm.cons)) h)) ?_
            rintro _ _ ⟨rfl, rfl⟩
            refine tr_done (by kernel_rfl) ?_
            refine te_code ?_
            refine t_seq ?_
            refine t_region ?_
            refine tl_q rfl (ev_move rfl) ?_
            refine tl_q rfl (ev_nil_ptr rfl) ?_
            refine tl_q rfl (ev_fieldAddr fa_133_3 rfl rfl) ?_
            refine tl_q rfl (ev_load sc_3 rfl (by first | (left; (repeat (first | exact List.Mem.head _ | apply List.Mem.tail)); done) | (right; (repeat (first | exact List.Mem.head _ | apply List.Mem.tail)); done)) rfl) ?_
            refine tl_q rfl (ev_assign rfl) ?_
            refine tl_q rfl (ev_assign rfl) ?_
            refine tl_nil ?_
            refine te_code ?_
            refine t_ret ?_
            refine te_ret_k (pre := [o24 ob 40 1 9 _ _ 0 _, arr _ _ encLet _ _]) (res2 rfl rfl rfl) (by repeat (first | exact Frm.nil | exact Take.here | apply Take.there | apply Frm.cons)) ?_
            exact ⟨_, _, _, _, _, _, rfl, rfl, by omega, by omega, by simp⟩
          · refine to_e rfl (eff_ev rfl (ev_load sc_3 rfl (by first | (left; (repeat (first | exact List.Mem.head _ | apply List.Mem.tail)); done) | (right; (repeat (first | exact List.Mem.head _ | apply List.Mem.tail)); done)) rfl)) (by rintro _ _ ⟨rfl, rfl⟩; exact (fun _ h => hold_sub (by repeat (first | exact Frm.nil | exact Take.here | apply Take.there | apply Frm.cons)) h)) ?_
            rintro _ _ ⟨rfl, rfl⟩
            refine tr_q 13 rfl (by kernel_rfl) (by kernel_rfl) (by kernel_rfl) rfl (fun _ h => hold_sub (by repeat (first | exact Frm.nil | exact Take.here | apply Take.there | apply Frm.cons)) h) (ev_build st_130 rfl (by repeat (first | exact FillR.nil | exact LPut.nil | apply LPut.cons | apply LPut.succ | apply FillR.cons rfl rfl rfl))) ?_
            refine tr_q 14 rfl (by kernel_rfl) (by kernel_rfl) (by kernel_rfl) rfl (fun _ h => hold_sub (by repeat (first | exact Frm.nil | exact Take.here | apply Take.there | apply Frm.cons)) h) (ev_build st_135 rfl (by repeat (first | exact FillR.nil | exact LPut.nil | apply LPut.cons | apply LPut.succ | apply FillR.cons rfl rfl rfl))) ?_
            refine tr_any [6, 15] (by kernel_rfl) (by simp) (all_cons ?_ (all_cons ?_ (all_nil)))
            · refine to_e rfl (eff_append (ys := ls) rfl sl_131 Tryz.underlying131 zero_135 rfl by_135 rfl rfl (by repeat (first | exact Take.here | apply Take.there)) ((by first | exact HasArr.own (by repeat (first | exact List.Mem.head _ | apply List.Mem.tail)) | exact HasArr.sh (by repeat (first | exact List.Mem.head _ | apply List.Mem.tail)))) (by intro _; rfl) flatLet (by simp; omega) (by decide)) (by rintro _ _ ⟨_, rfl, rfl⟩; exact (fun _ h => hold_sub (by repeat (first | exact Frm.nil | exact Take.here | apply Take.there | apply Frm.cons)) h)) ?_
              rintro _ _ ⟨v51, rfl, rfl⟩
              refine tr_e 15 rfl (by kernel_rfl) (eff_buildSl rfl bs_131_1 rfl (by repeat (first | exact FillR.nil | exact LPut.nil | apply LPut.cons | apply LPut.succ | apply FillR.cons rfl rfl rfl))) (by rintro _ _ ⟨_, rfl, rfl⟩; exact (fun _ h => hold_sub (by repeat (first | exact Frm.nil | exact Take.here | apply Take.there | apply Frm.cons)) h)) ?_
              rintro _ _ ⟨b60, rfl, rfl⟩
              refine tr_e 16 rfl (by kernel_rfl) (eff_append (ys := [⟨last + 1, 1, r, 0, 0⟩]) rfl sl_131 Tryz.underlying131 zero_135 rfl by_135 rfl rfl (by repeat (first | exact Take.here | apply Take.there)) (HasArr.lit (by first | (left; (repeat (first | exact List.Mem.head _ | apply List.Mem.tail)); done) | (right; (repeat (first | exact List.Mem.head _ | apply List.Mem.tail)); done)) rfl rfl) (by intro _; rfl) flatLet (by simp; omega) (by decide)) (by rintro _ _ ⟨_, rfl, rfl⟩; exact (fun _ h => hold_sub (by repeat (first | exact Frm.nil | exact Take.here | apply Take.there | apply Frm.cons)) h)) ?_
              rintro _ _ ⟨v61, rfl, rfl⟩
              refine tr_shape (enc := encLet) (sz := 15) (v := v61) (by first | exact HasArr.own (by repeat (first | exact List.Mem.head _ | apply List.Mem.tail)) | exact HasArr.sh (by repeat (first | exact List.Mem.head _ | apply List.Mem.tail))) (by intro _; rfl) (fun hsh2 => ?_)
              obtain ⟨p2, q2, c2, rfl⟩ := shape_sl hsh2
              refine tr_q 17 rfl (by kernel_rfl) (by kernel_rfl) (by kernel_rfl) rfl (fun _ h => hold_sub (by repeat (first | exact Frm.nil | exact Take.here | apply Take.there | apply Frm.cons)) h) (ev_nil_ptr rfl) ?_
              refine tr_q 18 rfl (by kernel_rfl) (by kernel_rfl) (by kernel_rfl) rfl (fun _ h => hold_sub (by repeat (first | exact Frm.nil | exact Take.here | apply Take.there | apply Frm.cons)) h) (ev_fieldAddr fa_133_6 rfl rfl) ?_
              refine tr_e 19 rfl (by kernel_rfl) (eff_store rfl rfl rfl rfl sz_131 (by first | (simp [Flat]; done) | exact flatLet _ | exact flatTick _ | exact flatRow _ | exact flatEvt _ | exact flatI _) (by repeat (first | exact Upd.here | apply Upd.there)) (by repeat (first | exact LPut.nil | apply LPut.cons | apply LPut.succ))) (by rintro _ _ ⟨rfl, rfl⟩; exact (fun _ h => hold_sub (by repeat (first | exact Frm.nil | exact Take.here | apply Take.there | apply Frm.cons)) h)) ?_
              rintro _ _ ⟨rfl, rfl⟩
              refine tr_done (by kernel_rfl) ?_
              refine te_code ?_
              refine t_seq ?_
              refine t_region ?_
              refine tl_q rfl (ev_move rfl) ?_
              refine tl_q rfl (ev_nil_ptr rfl) ?_
              refine tl_q rfl (ev_fieldAddr fa_133_3 rfl rfl) ?_
              refine tl_q rfl (ev_load sc_3 rfl (by first | (left; (repeat (first | exact List.Mem.head _ | apply List.Mem.tail)); done) | (right; (repeat (first | exact List.Mem.head _ | apply List.Mem.tail)); done)) rfl) ?_
              refine tl_q rfl (ev_assign rfl) ?_
              refine tl_q rfl (ev_assign rfl) ?_
              refine tl_nil ?_
              refine te_code ?_
              refine t_ret ?_
              refine te_ret_k (pre := [o24 ob 40 1 9 _ _ 0 _, arr _ _ encLet _ _]) (res2 rfl rfl rfl) (by repeat (first | exact Frm.nil | exact Take.here | apply Take.there | apply Frm.cons)) ?_
              exact ⟨_, _, _, _, _, _, rfl, rfl, by omega, by omega, by simp⟩
            · refine to_e rfl (eff_buildSl rfl bs_131_1 rfl (by repeat (first | exact FillR.nil | exact LPut.nil | apply LPut.cons | apply LPut.succ | apply FillR.cons rfl rfl rfl))) (by rintro _ _ ⟨_, rfl, rfl⟩; exact (fun _ h => hold_sub (by repeat (first | exact Frm.nil | exact Take.here | apply Take.there | apply Frm.cons)) h)) ?_
              rintro _ _ ⟨b60, rfl, rfl⟩
              refine tr_e 6 rfl (by kernel_rfl) (eff_append (ys := ls) rfl sl_131 Tryz.underlying131 zero_135 rfl by_135 rfl rfl (by repeat (first | exact Take.here | apply Take.there)) ((by first | exact HasArr.own (by repeat (first | exact List.Mem.head _ | apply List.Mem.tail)) | exact HasArr.sh (by repeat (first | exact List.Mem.head _ | apply List.Mem.tail)))) (by intro _; rfl) flatLet (by simp; omega) (by decide)) (by rintro _ _ ⟨_, rfl, rfl⟩; exact (fun _ h => hold_sub (by repeat (first | exact Frm.nil | exact Take.here | apply Take.there | apply Frm.cons)) h)) ?_
              rintro _ _ ⟨v51, rfl, rfl⟩
              refine tr_e 16 rfl (by kernel_rfl) (eff_append (ys := [⟨last + 1, 1, r, 0, 0⟩]) rfl sl_131 Tryz.underlying131 zero_135 rfl by_135 rfl rfl (by repeat (first | exact Take.here | apply Take.there)) (HasArr.lit (by first | (left; (repeat (first | exact List.Mem.head _ | apply List.Mem.tail)); done) | (right; (repeat (first | exact List.Mem.head _ | apply List.Mem.tail)); done)) rfl rfl) (by intro _; rfl) flatLet (by simp; omega) (by decide)) (by rintro _ _ ⟨_, rfl, rfl⟩; exact (fun _ h => hold_sub (by repeat (first | exact Frm.nil | exact Take.here | apply Take.there | apply Frm.cons)) h)) ?_
              rintro _ _ ⟨v61, rfl, rfl⟩
              refine tr_shape (enc := encLet) (sz := 15) (v := v61) (by first | exact HasArr.own (by repeat (first | exact List.Mem.head _ | apply List.Mem.tail)) | exact HasArr.sh (by repeat (first | exact List.Mem.head _ | apply List.Mem.tail))) (by intro _; rfl) (fun hsh2 => ?_)
              obtain ⟨p2, q2, c2, rfl⟩ := shape_sl hsh2
              refine tr_q 17 rfl (by kernel_rfl) (by kernel_rfl) (by kernel_rfl) rfl (fun _ h => hold_sub (by repeat (first | exact Frm.nil | exact Take.here | apply Take.there | apply Frm.cons)) h) (ev_nil_ptr rfl) ?_
              refine tr_q 18 rfl (by kernel_rfl) (by kernel_rfl) (by kernel_rfl) rfl (fun _ h => hold_sub (by repeat (first | exact Frm.nil | exact Take.here | apply Take.there | apply Frm.cons)) h) (ev_fieldAddr fa_133_6 rfl rfl) ?_
              refine tr_e 19 rfl (by kernel_rfl) (eff_store rfl rfl rfl rfl sz_131 (by first | (simp [Flat]; done) | exact flatLet _ | exact flatTick _ | exact flatRow _ | exact flatEvt _ | exact flatI _) (by repeat (first | exact Upd.here | apply Upd.there)) (by repeat (first | exact LPut.nil | apply LPut.cons | apply LPut.succ))) (by rintro _ _ ⟨rfl, rfl⟩; exact (fun _ h => hold_sub (by repeat (first | exact Frm.nil | exact Take.here | apply Take.there | apply Frm.cons)) h)) ?_
              rintro _ _ ⟨rfl, rfl⟩
              refine tr_done (by kernel_rfl) ?_
              refine te_code ?_
              refine t_seq ?_
              refine t_region ?_
              refine tl_q rfl (ev_move rfl) ?_
              refine tl_q rfl (ev_nil_ptr rfl) ?_
              refine tl_q rfl (ev_fieldAddr fa_133_3 rfl rfl) ?_
              refine tl_q rfl (ev_load sc_3 rfl (by first | (left; (repeat (first | exact List.Mem.head _ | apply List.Mem.tail)); done) | (right; (repeat (first | exact List.Mem.head _ | apply List.Mem.tail)); done)) rfl) ?_
              refine tl_q rfl (ev_assign rfl) ?_
              refine tl_q rfl (ev_assign rfl) ?_
              refine tl_nil ?_
              refine te_code ?_
              refine t_ret ?_
              refine te_ret_k (pre := [o24 ob 40 1 9 _ _ 0 _, arr _ _ encLet _ _]) (res2 rfl rfl rfl) (by repeat (first | exact Frm.nil | exact Take.here | apply Take.there | apply Frm.cons)) ?_
              exact ⟨_, _, _, _, _, _, rfl, rfl, by omega, by omega, by simp⟩
        · refine to_e rfl (eff_ev rfl (ev_load sc_3 rfl (by first | (left; (repeat (first | exact List.Mem.head _ | apply List.Mem.tail)); done) | (right; (repeat (first | exact List.Mem.head _ | apply List.Mem.tail)); done)) rfl)) (by rintro _ _ ⟨rfl, rfl⟩; exact (fun _ h => hold_sub (by repeat (first | exact Frm.nil | exact Take.here | apply Take.there | apply Frm.cons)) h)) ?_
          rintro _ _ ⟨rfl, rfl⟩
          refine tr_q 13 rfl (by kernel_rfl) (by kernel_rfl) (by kernel_rfl) rfl (fun _ h => hold_sub (by repeat (first | exact Frm.nil | exact Take.here | apply Take.there | apply Frm.cons)) h) (ev_build st_130 rfl (by repeat (first | exact FillR.nil | exact LPut.nil | apply LPut.cons | apply LPut.succ | apply FillR.cons rfl rfl rfl))) ?_
          refine tr_q 14 rfl (by kernel_rfl) (by kernel_rfl) (by kernel_rfl) rfl (fun _ h => hold_sub (by repeat (first | exact Frm.nil | exact Take.here | apply Take.there | apply Frm.cons)) h) (ev_build st_135 rfl (by repeat (first | exact FillR.nil | exact LPut.nil | apply LPut.cons | apply LPut.succ | apply FillR.cons rfl rfl rfl))) ?_
          refine tr_any [5, 15] (by kernel_rfl) (by simp) (all_cons ?_ (all_cons ?_ (all_nil)))
          · refine to_e rfl (eff_ev rfl (ev_load sc_131 rfl (by first | (left; (repeat (first | exact List.Mem.head _ | apply List.Mem.tail)); done) | (right; (repeat (first | exact List.Mem.head _ | apply List.Mem.tail)); done)) rfl)) (by rintro _ _ ⟨rfl, rfl⟩; exact (fun _ h => hold_sub (by repeat (first | exact Frm.nil | exact Take.here | apply Take.there | apply Frm.cons)) h)) ?_
            rintro _ _ ⟨rfl, rfl⟩
            refine tr_any [6, 15] (by kernel_rfl) (by simp) (all_cons ?_ (all_cons ?_ (all_nil)))
            · refine to_e rfl (eff_append (ys := ls) rfl sl_131 Tryz.underlying131 zero_135 rfl by_135 rfl rfl (by repeat (first | exact Take.here | apply Take.there)) ((by first | exact HasArr.own (by repeat (first | exact List.Mem.head _ | apply List.Mem.tail)) | exact HasArr.sh (by repeat (first | exact List.Mem.head _ | apply List.Mem.tail)))) (by intro _; rfl) flatLet (by simp; omega) (by decide)) (by rintro _ _ ⟨_, rfl, rfl⟩; exact (fun _ h => hold_sub (by repeat (first | exact Frm.nil | exact Take.here | apply Take.there | apply Frm.cons)) h)) ?_
              rintro _ _ ⟨v51, rfl, rfl⟩
              refine tr_e 15 rfl (by kernel_rfl) (eff_buildSl rfl bs_131_1 rfl (by repeat (first | exact FillR.nil | exact LPut.nil | apply LPut.cons | apply LPut.succ | apply FillR.cons rfl rfl rfl))) (by rintro _ _ ⟨_, rfl, rfl⟩; exact (fun _ h => hold_sub (by repeat (first | exact Frm.nil | exact Take.here | apply Take.there | apply Frm.cons)) h)) ?_
              rintro _ _ ⟨b60, rfl, rfl⟩
              refine tr_e 16 rfl (by kernel_rfl) (eff_append (ys := [⟨last + 1, 1, r, 0, 0⟩]) rfl sl_131 Tryz.underlying131 zero_135 rfl by_135 rfl rfl (by repeat (first | exact Take.here | apply Take.there)) (HasArr.lit (by first | (left; (repeat (first | exact List.Mem.head _ | apply List.Mem.tail)); done) | (right; (repeat (first | exact List.Mem.head _ | apply List.Mem.tail)); done)) rfl rfl) (by intro _; rfl) flatLet (by simp; omega) (by decide)) (by rintro _ _ ⟨_, rfl, rfl⟩; exact (fun _ h => hold_sub (by repeat (first | exact Frm.nil | exact Take.here | apply Take.there | apply Frm.cons)) h)) ?_
              rintro _ _ ⟨v61, rfl, rfl⟩
              refine tr_shape (enc := encLet) (sz := 15) (v := v61) (by first | exact HasArr.own (by repeat (first | exact List.Mem.head _ | apply List.Mem.tail)) | exact HasArr.sh (by repeat (first | exact List.Mem.head _ | apply List.Mem.tail))) (by intro _; rfl) (fun hsh2 => ?_)
              obtain ⟨p2, q2, c2, rfl⟩ := shape_sl hsh2
              refine tr_q 17 rfl (by kernel_rfl) (by kernel_rfl) (by kernel_rfl) rfl (fun _ h => hold_sub (by repeat (first | exact Frm.nil | exact Take.here | apply Take.there | apply Frm.cons)) h) (ev_nil_ptr rfl) ?_
              refine tr_q 18 rfl (by kernel_rfl) (by kernel_rfl) (by kernel_rfl) rfl (fun _ h => hold_sub (by repeat (first | exact Frm.nil | exact Take.here | apply Take.there | apply Frm.cons)) h) (ev_fieldAddr fa_133_6 rfl rfl) ?_
              refine tr_e 19 rfl (by kernel_rfl) (eff_store rfl rfl rfl rfl sz_131 (by first | (simp [Flat]; done) | exact flatLet _ | exact flatTick _ | exact flatRow _ | exact flatEvt _ | exact flatI _) (by repeat (first | exact Upd.here | apply Upd.there)) (by repeat (first | exact LPut.nil | apply LPut.cons | apply LPut.succ))) (by rintro _ _ ⟨rfl, rfl⟩; exact (fun _ h => hold_sub (by repeat (first | exact Frm.nil | exact Take.here | apply Take.there | apply Frm.cons)) h)) ?_
              rintro _ _ ⟨rfl, rfl⟩
              refine tr_done (by kernel_rfl) ?_
              refine te_code ?_
              refine t_seq ?_
              refine t_region ?_
              refine tl_q rfl (ev_move rfl) ?_
              refine tl_q rfl (ev_nil_ptr rfl) ?_
              refine tl_q rfl (ev_fieldAddr fa_133_3 rfl rfl) ?_
              refine tl_q rfl (ev_load sc_3 rfl (by first | (left; (repeat (first | exact List.Mem.head _ | apply List.Mem.tail)); done) | (right; (repeat (first | exact List.Mem.head _ | apply List.Mem.tail)); done)) rfl) ?_
              refine tl_q rfl (ev_assign rfl) ?_
              refine tl_q rfl (ev_assign rfl) ?_
              refine tl_nil ?_
              refine te_code ?_
              refine t_ret ?_
              refine te_ret_k (pre := [o24 ob 40 1 9 _ _ 0 _, arr _ _ encLet _ _]) (res2 rfl rfl rfl) (by repeat (first | exact Frm.nil | exact Take.here | apply Take.there | apply Frm.cons)) ?_
              exact ⟨_, _, _, _, _, _, rfl, rfl, by omega, by omega, by simp⟩
            · refine to_e rfl (eff_buildSl rfl bs_131_1 rfl (by repeat (first | exact FillR.nil | exact LPut.nil | apply LPut.cons | apply LPut.succ | apply FillR.cons rfl rfl rfl))) (by rintro _ _ ⟨_, rfl, rfl⟩; exact (fun _ h => hold_sub (by repeat (first | exact Frm.nil | exact Take.here | apply Take.there | apply Frm.cons)) h)) ?_
              rintro _ _ ⟨b60, rfl, rfl⟩
              refine tr_e 6 rfl (by kernel_rfl) (eff_append (ys := ls) rfl sl_131 Tryz.underlying131 zero_135 rfl by_135 rfl rfl (by repeat (first | exact Take.here | apply Take.there)) ((by first | exact HasArr.own (by repeat (first | exact List.Mem.head _ | apply List.Mem.tail)) | exact HasArr.sh (by repeat (first | exact List.Mem.head _ | apply List.Mem.tail)))) (by intro _; rfl) flatLet (by simp; omega) (by decide)) (by rintro _ _ ⟨_, rfl, rfl⟩; exact (fun _ h => hold_sub (by repeat (first | exact Frm.nil | exact Take.here | apply Take.there | apply Frm.cons)) h)) ?_
              rintro _ _ ⟨v51, rfl, rfl⟩
              refine tr_e 16 rfl (by kernel_rfl) (eff_append (ys := [⟨last + 1, 1, r, 0, 0⟩]) rfl sl_131 Tryz.underlying131 zero_135 rfl by_135 rfl rfl (by repeat (first | exact Take.here | apply Take.there)) (HasArr.lit (by first | (left; (repeat (first | exact List.Mem.head _ | apply List.Mem.tail)); done) | (right; (repeat (first | exact List.Mem.head _ | apply List.Mem.tail)); done)) rfl rfl) (by intro _; rfl) flatLet (by simp; omega) (by decide)) (by rintro _ _ ⟨_, rfl, rfl⟩; exact (fun _ h => hold_sub (by repeat (first | exact Frm.nil | exact Take.here | apply Take.there | apply Frm.cons)) h)) ?_
              rintro _ _ ⟨v61, rfl, rfl⟩
              refine tr_shape (enc := encLet) (sz := 15) (v := v61) (by first | exact HasArr.own (by repeat (first | exact List.Mem.head _ | apply List.Mem.tail)) | exact HasArr.sh (by repeat (first | exact List.Mem.head _ | apply List.Mem.tail))) (by intro _; rfl) (fun hsh2 => ?_)
              obtain ⟨p2, q2, c2, rfl⟩ := shape_sl hsh2
              refine tr_q 17 rfl (by kernel_rfl) (by kernel_rfl) (by kernel_rfl) rfl (fun _ h => hold_sub (by repeat (first | exact Frm.nil | exact Take.here | apply Take.there | apply Frm.cons)) h) (ev_nil_ptr rfl) ?_
              refine tr_q 18 rfl (by kernel_rfl) (by kernel_rfl) (by kernel_rfl) rfl (fun _ h => hold_sub (by repeat (first | exact Frm.nil | exact Take.here | apply Take.there | apply Frm.cons)) h) (ev_fieldAddr fa_133_6 rfl rfl) ?_
              refine tr_e 19 rfl (by kernel_rfl) (eff_store rfl rfl rfl rfl sz_131 (by first | (simp [Flat]; done) | exact flatLet _ | exact flatTick _ | exact flatRow _ | exact flatEvt _ | exact flatI _) (by repeat (first | exact Upd.here | apply Upd.there)) (by repeat (first | exact LPut.nil | apply LPut.cons | apply LPut.succ))) (by rintro _ _ ⟨rfl, rfl⟩; exact (fun _ h => hold_sub (by repeat (first | exact Frm.nil | exact Take.here | apply Take.there | apply Frm.cons)) h)) ?_
              rintro _ _ ⟨rfl, rfl⟩
              refine tr_done (by kernel_rfl) ?_
              refine te_code ?_
              refine t_seq ?_
              refine t_region ?_
              refine tl_q rfl (ev_move rfl) ?_
              refine tl_q rfl (ev_nil_ptr rfl) ?_
              refine tl_q rfl (ev_fieldAddr fa_133_3 rfl rfl) ?_
              refine tl_q rfl (ev_load sc_3 rfl (by first | (left; (repeat (first | exact List.Mem.head _ | apply List.Mem.tail)); done) | (right; (repeat (first | exact List.Mem.head _ | apply List.Mem.tail)); done)) rfl) ?_
              refine tl_q rfl (ev_assign rfl) ?_
              refine tl_q rfl (ev_assign rfl) ?_
              refine tl_nil ?_
              refine te_code ?_
              refine t_ret ?_
              refine te_ret_k (pre := [o24 ob 40 1 9 _ _ 0 _, arr _ _ encLet _ _]) (res2 rfl rfl rfl) (by repeat (first | exact Frm.nil | exact Take.here | apply Take.there | apply Frm.cons)) ?_
              exact ⟨_, _, _, _, _, _, rfl, rfl, by omega, by omega, by simp⟩
          · refine to_e rfl (eff_buildSl rfl bs_131_1 rfl (by repeat (first | exact FillR.nil | exact LPut.nil | apply LPut.cons | apply LPut.succ | apply FillR.cons rfl rfl rfl))) (by rintro _ _ ⟨_, rfl, rfl⟩; exact (fun _ h => hold_sub (by repeat (first | exact Frm.nil | exact Take.here | apply Take.there | apply Frm.cons)) h)) ?_
            rintro _ _ ⟨b60, rfl, rfl⟩
            refine tr_e 5 rfl (by kernel_rfl) (eff_ev rfl (ev_load sc_131 rfl (by first | (left; (repeat (first | exact List.Mem.head _ | apply List.Mem.tail)); done) | (right; (repeat (first | exact List.Mem.head _ | apply List.Mem.tail)); done)) rfl)) (by rintro _ _ ⟨rfl, rfl⟩; exact (fun _ h => hold_sub (by repeat (first | exact Frm.nil | exact Take.here | apply Take.there | apply Frm.cons)) h)) ?_
            rintro _ _ ⟨rfl, rfl⟩
            refine tr_e 6 rfl (by kernel_rfl) (eff_append (ys := ls) rfl sl_131 Tryz.underlying131 zero_135 rfl by_135 rfl rfl (by repeat (first | exact Take.here | apply Take.there)) ((by first | exact HasArr.own (by repeat (first | exact List.Mem.head _ | apply List.Mem.tail)) | exact HasArr.sh (by repeat (first | exact List.Mem.head _ | apply List.Mem.tail)))) (by intro _; rfl) flatLet (by simp; omega) (by decide)) (by rintro _ _ ⟨_, rfl, rfl⟩; exact (fun _ h => hold_sub (by repeat (first | exact Frm.nil | exact Take.here | apply Take.there | apply Frm.cons)) h)) ?_
            rintro _ _ ⟨v51, rfl, rfl⟩
            refine tr_e 16 rfl (by kernel_rfl) (eff_append (ys := [⟨last + 1, 1, r, 0, 0⟩]) rfl sl_131 Tryz.underlying131 zero_135 rfl by_135 rfl rfl (by repeat (first | exact Take.here | apply Take.there)) (HasArr.lit (by first | (left; (repeat (first | exact List.Mem.head _ | apply List.Mem.tail)); done) | (right; (repeat (first | exact List.Mem.head _ | apply List.Mem.tail)); done)) rfl rfl) (by intro _; rfl) flatLet (by simp; omega) (by decide)) (by rintro _ _ ⟨_, rfl, rfl⟩; exact (fun _ h => hold_sub (by repeat (first | exact Frm.nil | exact Take.here | apply Take.there | apply Frm.cons)) h)) ?_
            rintro _ _ ⟨v61, rfl, rfl⟩
            refine tr_shape (enc := encLet) (sz := 15) (v := v61) (by first | exact HasArr.own (by repeat (first | exact List.Mem.head _ | apply List.Mem.tail)) | exact HasArr.sh (by repeat (first | exact List.Mem.head _ | apply List.Mem.tail))) (by intro _; rfl) (fun hsh2 => ?_)
            obtain ⟨p2, q2, c2, rfl⟩ := shape_sl hsh2
            refine tr_q 17 rfl (by kernel_rfl) (by kernel_rfl) (by kernel_rfl) rfl (fun _ h => hold_sub (by repeat (first | exact Frm.nil | exact Take.here | apply Take.there | apply Frm.cons)) h) (ev_nil_ptr rfl) ?_
            refine tr_q 18 rfl (by kernel_rfl) (by kernel_rfl) (by kernel_rfl) rfl (fun _ h => hold_sub (by repeat (first | exact Frm.nil | exact Take.here | apply Take.there | apply Frm.cons)) h) (ev_fieldAddr fa_133_6 rfl rfl) ?_
            refine tr_e 19 rfl (by kernel_rfl) (eff_store rfl rfl rfl rfl sz_131 (by first | (simp [Flat]; done) | exact flatLet _ | exact flatTick _ | exact flatRow _ | exact flatEvt _ | exact flatI _) (by repeat (first | exact Upd.here | apply Upd.there)) (by repeat (first | exact LPut.nil | apply LPut.cons | apply LPut.succ))) (by rintro _ _ ⟨rfl, rfl⟩; exact (fun _ h => hold_sub (by repeat (first | exact Frm.nil | exact Take.here | apply Take.there | apply Frm.cons)) h)) ?_
            rintro _ _ ⟨rfl, rfl⟩
            refine tr_done (by kernel_rfl) ?_
            refine te_code ?_
            refine t_seq ?_
            refine t_region ?_
            refine tl_q rfl (ev_move rfl) ?_
            refine tl_q rfl (ev_nil_ptr rfl) ?_
            refine tl_q rfl (ev_fieldAddr fa_133_3 rfl rfl) ?_
            refine tl_q rfl (ev_load sc_3 rfl (by first | (left; (repeat (first | exact List.Mem.head _ | apply List.Mem.tail)); done) | (right; (repeat (first | exact List.Mem.head _ | apply List.Mem.tail)); done)) rfl) ?_
            refine tl_q rfl (ev_assign rfl) ?_
            refine tl_q rfl (ev_assign rfl) ?_
            refine tl_nil ?_
            refine te_code ?_
            refine t_ret ?_
            refine te_ret_k (pre := [o24 ob 40 1 9 _ _ 0 _, arr _ _ encLet _ _]) (res2 rfl rfl rfl) (by repeat (first | exact Frm.nil | exact Take.here | apply Take.there | apply Frm.cons)) ?_
            exact ⟨_, _, _, _, _, _, rfl, rfl, by omega, by omega, by simp⟩
      · refine to_e rfl (eff_ev rfl (ev_load sc_131 rfl (by first | (left; (repeat (first | exact List.Mem.head _ | apply List.Mem.tail)); done) | (right; (repeat (first | exact List.Mem.head _ | apply List.Mem.tail)); done)) rfl)) (by rintro _ _ ⟨rfl, rfl⟩; exact (fun _ h => hold_sub (by repeat (first | exact Frm.nil | exact Take.here | apply Take.there | apply Frm.cons)) h)) ?_
        rintro _ _ ⟨rfl, rfl⟩
        refine tr_any [1, 10] (by kernel_rfl) (by simp) (all_cons ?_ (all_cons ?_ (all_nil)))
        · refine to_e rfl (eff_buildSl rfl bs_131_0 rfl (by repeat (first | exact FillR.nil | exact LPut.nil | apply LPut.cons | apply LPut.succ | apply FillR.cons rfl rfl rfl))) (by rintro _ _ ⟨_, rfl, rfl⟩; exact (fun _ h => hold_sub (by repeat (first | exact Frm.nil | exact Take.here | apply Take.there | apply Frm.cons)) h)) ?_
          rintro _ _ ⟨b46, rfl, rfl⟩
          refine tr_lit (T := 135) (sz := 15) (enc := encLet) [] rfl rfl rfl ?_
          refine tr_any [6, 10] (by kernel_rfl) (by simp) (all_cons ?_ (all_cons ?_ (all_nil)))
          · refine to_e rfl (eff_append (ys := ls) rfl sl_131 Tryz.underlying131 zero_135 rfl by_135 rfl rfl (by repeat (first | exact Take.here | apply Take.there)) ((by first | exact HasArr.own (by repeat (first | exact List.Mem.head _ | apply List.Mem.tail)) | exact HasArr.sh (by repeat (first | exact List.Mem.head _ | apply List.Mem.tail)))) (by intro _; rfl) flatLet (by simp; omega) (by decide)) (by rintro _ _ ⟨_, rfl, rfl⟩; exact (fun _ h => hold_sub (by repeat (first | exact Frm.nil | exact Take.here | apply Take.there | apply Frm.cons)) h)) ?_
            rintro _ _ ⟨v51, rfl, rfl⟩
            refine tr_e 10 rfl (by kernel_rfl) (eff_ev rfl (ev_load sc_3 rfl (by first | (left; (repeat (first | exact List.Mem.head _ | apply List.Mem.tail)); done) | (right; (repeat (first | exact List.Mem.head _ | apply List.Mem.tail)); done)) rfl)) (by rintro _ _ ⟨rfl, rfl⟩; exact (fun _ h => hold_sub (by repeat (first | exact Frm.nil | exact Take.here | apply Take.there | apply Frm.cons)) h)) ?_
            rintro _ _ ⟨rfl, rfl⟩
            refine tr_q 13 rfl (by kernel_rfl) (by kernel_rfl) (by kernel_rfl) rfl (fun _ h => hold_sub (by repeat (first | exact Frm.nil | exact Take.here | apply Take.there | apply Frm.cons)) h) (ev_build st_130 rfl (by repeat (first | exact FillR.nil | exact LPut.nil | apply LPut.cons | apply LPut.succ | apply FillR.cons rfl rfl rfl))) ?_
            refine tr_q 14 rfl (by kernel_rfl) (by kernel_rfl) (by kernel_rfl) rfl (fun _ h => hold_sub (by repeat (first | exact Frm.nil | exact Take.here | apply Take.there | apply Frm.cons)) h) (ev_build st_135 rfl (by repeat (first | exact FillR.nil | exact LPut.nil | apply LPut.cons | apply LPut.succ | apply FillR.cons rfl rfl rfl))) ?_
            refine tr_e 15 rfl (by kernel_rfl) (eff_buildSl rfl bs_131_1 rfl (by repeat (first | exact FillR.nil | exact LPut.nil | apply LPut.cons | apply LPut.succ | apply FillR.cons rfl rfl rfl))) (by rintro _ _ ⟨_, rfl, rfl⟩; exact (fun _ h => hold_sub (by repeat (first | exact Frm.nil | exact Take.here | apply Take.there | apply Frm.cons)) h)) ?_
            rintro _ _ ⟨b60, rfl, rfl⟩
            refine tr_e 16 rfl (by kernel_rfl) (eff_append (ys := [⟨last + 1, 1, r, 0, 0⟩]) rfl sl_131 Tryz.underlying131 zero_135 rfl by_135 rfl rfl (by repeat (first | exact Take.here | apply Take.there)) (HasArr.lit (by first | (left; (repeat (first | exact List.Mem.head _ | apply List.Mem.tail)); done) | (right; (repeat (first | exact List.Mem.head _ | apply List.Mem.tail)); done)) rfl rfl) (by intro _; rfl) flatLet (by simp; omega) (by decide)) (by rintro _ _ ⟨_, rfl, rfl⟩; exact (fun _ h => hold_sub (by repeat (first | exact Frm.nil | exact Take.here | apply Take.there | apply Frm.cons)) h)) ?_
            rintro _ _ ⟨v61, rfl, rfl⟩
            refine tr_shape (enc := encLet) (sz := 15) (v := v61) (by first | exact HasArr.own (by repeat (first | exact List.Mem.head _ | apply List.Mem.tail)) | exact HasArr.sh (by repeat (first | exact List.Mem.head _ | apply List.Mem.tail))) (by intro _; rfl) (fun hsh2 => ?_)
            obtain ⟨p2, q2, c2, rfl⟩ := shape_sl hsh2
            refine tr_q 17 rfl (by kernel_rfl) (by kernel_rfl) (by kernel_rfl) rfl (fun _ h => hold_sub (by repeat (first | exact Frm.nil | exact Take.here | apply Take.there | apply Frm.cons)) h) (ev_nil_ptr rfl) ?_
            refine tr_q 18 rfl (by kernel_rfl) (by kernel_rfl) (by kernel_rfl) rfl (fun _ h => hold_sub (by repeat (first | exact Frm.nil | exact Take.here | apply Take.there | apply Frm.cons)) h) (ev_fieldAddr fa_133_6 rfl rfl) ?_
            refine tr_e 19 rfl (by kernel_rfl) (eff_store rfl rfl rfl rfl sz_131 (by first | (simp [Flat]; done) | exact flatLet _ | exact flatTick _ | exact flatRow _ | exact flatEvt _ | exact flatI _) (by repeat (first | exact Upd.here | apply Upd.there)) (by repeat (first | exact LPut.nil | apply LPut.cons | apply LPut.succ))) (by rintro _ _ ⟨rfl, rfl⟩; exact (fun _ h => hold_sub (by repeat (first | exact Frm.nil | exact Take.here | apply Take.there | apply Frm.cons)) h)) ?_
            rintro _ _ ⟨rfl, rfl⟩
            refine tr_done (by kernel_rfl) ?_
            refine te_code ?_
            refine t_seq ?_
            refine t_region ?_
            refine tl_q rfl (ev_move rfl) ?_
            refine tl_q rfl (ev_nil_ptr rfl) ?_
            refine tl_q rfl (ev_fieldAddr fa_133_3 rfl rfl) ?_
            refine tl_q rfl (ev_load sc_3 rfl (by first | (left; (repeat (first | exact List.Mem.head _ | apply List.Mem.tail)); done) | (right; (repeat (first | exact List.Mem.head _ | apply List.Mem.tail)); done)) rfl) ?_
            refine tl_q rfl (ev_assign rfl) ?_
            refine tl_q rfl (ev_assign rfl) ?_
            refine tl_nil ?_
            refine te_code ?_
            refine t_ret ?_
            refine te_ret_k (pre := [o24 ob 40 1 9 _ _ 0 _, arr _ _ encLet _ _]) (res2 rfl rfl rfl) (by repeat (first | exact Frm.nil | exact Take.here | apply Take.there | apply Frm.cons)) ?_
            exact ⟨_, _, _, _, _, _, rfl, rfl, by omega, by omega, by simp⟩
          · refine to_e rfl (eff_ev rfl (ev_load sc_3 rfl (by first | (left; (repeat (first | exact List.Mem.head _ | apply List.Mem.tail)); done) | (right; (repeat (first | exact List.Mem.head _ | apply List.Mem.tail)); done)) rfl)) (by rintro _ _ ⟨rfl, rfl⟩; exact (fun _ h => hold_sub (by repeat (first | exact Frm.nil | exact Take.here | apply Take.there | apply Frm.cons)) h)) ?_
            rintro _ _ ⟨rfl, rfl⟩
            refine tr_q 13 rfl (by kernel_rfl) (by kernel_rfl) (by kernel_rfl) rfl (fun _ h => hold_sub (by repeat (first | exact Frm.nil | exact Take.here | apply Take.there | apply Frm.cons)) h) (ev_build st_130 rfl (by repeat (first | exact FillR.nil | exact LPut.nil | apply LPut.cons | apply LPut.succ | apply FillR.cons rfl rfl rfl))) ?_
            refine tr_q 14 rfl (by kernel_rfl) (by kernel_rfl) (by kernel_rfl) rfl (fun _ h => hold_sub (by repeat (first | exact Frm.nil | exact Take.here | apply Take.there | apply Frm.cons)) h) (ev_build st_135 rfl (by repeat (first | exact FillR.nil | exact LPut.nil | apply LPut.cons | apply LPut.succ | apply FillR.cons rfl rfl rfl))) ?_
            refine tr_any [6, 15] (by kernel_rfl) (by simp) (all_cons ?_ (all_cons ?_ (all_nil)))
            · refine to_e rfl (eff_append (ys := ls) rfl sl_131 Tryz.underlying131 zero_135 rfl by_135 rfl rfl (by repeat (first | exact Take.here | apply Take.there)) ((by first | exact HasArr.own (by repeat (first | exact List.Mem.head _ | apply List.Mem.tail)) | exact HasArr.sh (by repeat (first | exact List.Mem.head _ | apply List.Mem.tail)))) (by intro _; rfl) flatLet (by simp; omega) (by decide)) (by rintro _ _ ⟨_, rfl, rfl⟩; exact (fun _ h => hold_sub (by repeat (first | exact Frm.nil | exact Take.here | apply Take.there | apply Frm.cons)) h)) ?_
              rintro _ _ ⟨v51, rfl, rfl⟩
              refine tr_e 15 rfl (by kernel_rfl) (eff_buildSl rfl bs_131_1 rfl (by repeat (first | exact FillR.nil | exact LPut.nil | apply LPut.cons | apply LPut.succ | apply FillR.cons rfl rfl rfl))) (by rintro _ _ ⟨_, rfl, rfl⟩; exact (fun _ h => hold_sub (by repeat (first | exact Frm.nil | exact Take.here | apply Take.there | apply Frm.cons)) h)) ?_
              rintro _ _ ⟨b60, rfl, rfl⟩
              refine tr_e 16 rfl (by kernel_rfl) (eff_append (ys := [⟨last + 1, 1, r, 0, 0⟩]) rfl sl_131 Tryz.underlying131 zero_135 rfl by_135 rfl rfl (by repeat (first | exact Take.here | apply Take.there)) (HasArr.lit (by first | (left; (repeat (first | exact List.Mem.head _ | apply List.Mem.tail)); done) | (right; (repeat (first | exact List.Mem.head _ | apply List.Mem.tail)); done)) rfl rfl) (by intro _; rfl) flatLet (by simp; omega) (by decide)) (by rintro _ _ ⟨_, rfl, rfl⟩; exact (fun _ h => hold_sub (by repeat (first | exact Frm.nil | exact Take.here | apply Take.there | apply Frm.cons)) h)) ?_
              rintro _ _ ⟨v61, rfl, rfl⟩
              refine tr_shape (enc := encLet) (sz := 15) (v := v61) (by first | exact HasArr.own (by repeat (first | exact List.Mem.head _ | apply List.Mem.tail)) | exact HasArr.sh (by repeat (first | exact List.Mem.head _ | apply List.Mem.tail))) (by intro _; rfl) (fun hsh2 => ?_)
              obtain ⟨p2, q2, c2, rfl⟩ := shape_sl hsh2
              refine tr_q 17 rfl (by kernel_rfl) (by kernel_rfl) (by kernel_rfl) rfl (fun _ h => hold_sub (by repeat (first | exact Frm.nil | exact Take.here | apply Take.there | apply Frm.cons)) h) (ev_nil_ptr rfl) ?_
              refine tr_q 18 rfl (by kernel_rfl) (by kernel_rfl) (by kernel_rfl) rfl (fun _ h => hold_sub (by repeat (first | exact Frm.nil | exact Take.here | apply Take.there | apply Frm.cons)) h) (ev_fieldAddr fa_133_6 rfl rfl) ?_
              refine tr_e 19 rfl (by kernel_rfl) (eff_store rfl rfl rfl rfl sz_131 (by first | (simp [Flat]; done) | exact flatLet _ | exact flatTick _ | exact flatRow _ | exact flatEvt _ | exact flatI _) (by repeat (first | exact Upd.here | apply Upd.there)) (by repeat (first | exact LPut.nil | apply LPut.cons | apply LPut.succ))) (by rintro _ _ ⟨rfl, rfl⟩; exact (fun _ h => hold_sub (by repeat (first | exact Frm.nil | exact Take.here | apply Take.there | apply Frm.cons)) h)) ?_
              rintro _ _ ⟨rfl, rfl⟩
              refine tr_done (by kernel_rfl) ?_
              refine te_code ?_
              refine t_seq ?_
              refine t_region ?_
              refine tl_q rfl (ev_move rfl) ?_
              refine tl_q rfl (ev_nil_ptr rfl) ?_
              refine tl_q rfl (ev_fieldAddr fa_133_3 rfl rfl) ?_
              refine tl_q rfl (ev_load sc_3 rfl (by first | (left; (repeat (first | exact List.Mem.head _ | apply List.Mem.tail)); done) | (right; (repeat (first | exact List.Mem.head _ | apply List.Mem.tail)); done)) rfl) ?_
              refine tl_q rfl (ev_assign rfl) ?_
              refine tl_q rfl (ev_assign rfl) ?_
              refine tl_nil ?_
              refine te_code ?_
              refine t_ret ?_
              refine te_ret_k (pre := [o24 ob 40 1 9 _ _ 0 _, arr _ _ encLet _ _]) (res2 rfl rfl rfl) (by repeat (first | exact Frm.nil | exact Take.here | apply Take.there | apply Frm.cons)) ?_
              exact ⟨_, _, _, _, _, _, rfl, rfl, by omega, by omega, by simp⟩
            · refine to_e rfl (eff_buildSl rfl bs_131_1 rfl (by repeat (first | exact FillR.nil | exact LPut.nil | apply LPut.cons | apply LPut.succ | apply FillR.cons rfl rfl rfl))) (by rintro _ _ ⟨_, rfl, rfl⟩; exact (fun _ h => hold_sub (by repeat (first | exact Frm.nil | exact Take.here | apply Take.there | apply Frm.cons)) h)) ?_
              rintro _ _ ⟨b60, rfl, rfl⟩
              refine tr_e 6 rfl (by kernel_rfl) (eff_append (ys := ls) rfl sl_131 Tryz.underlying131 zero_135 rfl by_135 rfl rfl (by repeat (first | exact Take.here | apply Take.there)) ((by first | exact HasArr.own (by repeat (first | exact List.Mem.head _ | apply List.Mem.tail)) | exact HasArr.sh (by repeat (first | exact List.Mem.head _ | apply List.Mem.tail)))) (by intro _; rfl) flatLet (by simp; omega) (by decide)) (by rintro _ _ ⟨_, rfl, rfl⟩; exact (fun _ h => hold_sub (by repeat (first | exact Frm.nil | exact Take.here | apply Take.there | apply Frm.cons)) h)) ?_
              rintro _ _ ⟨v51, rfl, rfl⟩
              refine tr_e 16 rfl (by kernel_rfl) (eff_append (ys := [⟨last + 1, 1, r, 0, 0⟩]) rfl sl_131 Tryz.underlying131 zero_135 rfl by_135 rfl rfl (by repeat (first | exact Take.here | apply Take.there)) (HasArr.lit (by first | (left; (repeat (first | exact List.Mem.head _ | apply List.Mem.tail)); done) | (right; (repeat (first | exact List.Mem.head _ | apply List.Mem.tail)); done)) rfl rfl) (by intro _; rfl) flatLet (by simp; omega) (by decide)) (by rintro _ _ ⟨_, rfl, rfl⟩; exact (fun _ h => hold_sub (by repeat (first | exact Frm.nil | exact Take.here | apply Take.there | apply Frm.cons)) h)) ?_
              rintro _ _ ⟨v61, rfl, rfl⟩
              refine tr_shape (enc := encLet) (sz := 15) (v := v61) (by first | exact HasArr.own (by repeat (first | exact List.Mem.head _ | apply List.Mem.tail)) | exact HasArr.sh (by repeat (first | exact List.Mem.head _ | apply List.Mem.tail))) (by intro _; rfl) (fun hsh2 => ?_)
              obtain ⟨p2, q2, c2, rfl⟩ := shape_sl hsh2
              refine tr_q 17 rfl (by kernel_rfl) (by kernel_rfl) (by kernel_rfl) rfl (fun _ h => hold_sub (by repeat (first | exact Frm.nil | exact Take.here | apply Take.there | apply Frm.cons)) h) (ev_nil_ptr rfl) ?_
              refine tr_q 18 rfl (by kernel_rfl) (by kernel_rfl) (by kernel_rfl) rfl (fun _ h => hold_sub (by repeat (first | exact Frm.nil | exact Take.here | apply Take.there | apply Frm.cons)) h) (ev_fieldAddr fa_133_6 rfl rfl) ?_
              refine tr_e 19 rfl (by kernel_rfl) (eff_store rfl rfl rfl rfl sz_131 (by first | (simp [Flat]; done) | exact flatLet _ | exact flatTick _ | exact flatRow _ | exact flatEvt _ | exact flatI _) (by repeat (first | exact Upd.here | apply Upd.there)) (by repeat (first | exact LPut.nil | apply LPut.cons | apply LPut.succ))) (by rintro _ _ ⟨rfl, rfl⟩; exact (fun _ h => hold_sub (by repeat (first | exact Frm.nil | exact Take.here | apply Take.there | apply Frm.cons)) h)) ?_
              rintro _ _ ⟨rfl, rfl⟩
              refine tr_done (by kernel_rfl) ?_
              refine te_code ?_
              refine t_seq ?_
              refine t_region ?_
              refine tl_q rfl (ev_move rfl) ?_
              refine tl_q rfl (ev_nil_ptr rfl) ?_
              refine tl_q rfl (ev_fieldAddr fa_133_3 rfl rfl) ?_
              refine tl_q rfl (ev_load sc_3 rfl (by first | (left; (repeat (first | exact List.Mem.head _ | apply List.Mem.tail)); done) | (right; (repeat (first | exact List.Mem.head _ | apply List.Mem.tail)); done)) rfl) ?_
              refine tl_q rfl (ev_assign rfl) ?_
              refine tl_q rfl (ev_assign rfl) ?_
              refine tl_nil ?_
              refine te_code ?_
              refine t_ret ?_
              refine te_ret_k (pre := [o24 ob 40 1 9 _ _ 0 _, arr _ _ encLet _ _]) (res2 rfl rfl rfl) (by repeat (first | exact Frm.nil | exact Take.here | apply Take.there | apply Frm.cons)) ?_
              exact ⟨_, _, _, _, _, _, rfl, rfl, by omega, by omega, by simp⟩
        · refine to_e rfl (eff_ev rfl (ev_load sc_3 rfl (by first | (left; (repeat (first | exact List.Mem.head _ | apply List.Mem.tail)); done) | (right; (repeat (first | exact List.Mem.head _ | apply List.Mem.tail)); done)) rfl)) (by rintro _ _ ⟨rfl, rfl⟩; exact (fun _ h => hold_sub (by repeat (first | exact Frm.nil | exact Take.here | apply Take.there | apply Frm.cons)) h)) ?_
          rintro _ _ ⟨rfl, rfl⟩
          refine tr_q 13 rfl (by kernel_rfl) (by kernel_rfl) (by kernel_rfl) rfl (fun _ h => hold_sub (by repeat (first | exact Frm.nil | exact Take.here | apply Take.there | apply Frm.cons)) h) (ev_build st_130 rfl (by repeat (first | exact FillR.nil | exact LPut.nil | apply LPut.cons | apply LPut.succ | apply FillR.cons rfl rfl rfl))) ?_
          refine tr_q 14 rfl (by kernel_rfl) (by kernel_rfl) (by kernel_rfl) rfl (fun _ h => hold_sub (by repeat (first | exact Frm.nil | exact Take.here | apply Take.there | apply Frm.cons)) h) (ev_build st_135 rfl (by repeat (first | exact FillR.nil | exact LPut.nil | apply LPut.cons | apply LPut.succ | apply FillR.cons rfl rfl rfl))) ?_
          refine tr_any [1, 15] (by kernel_rfl) (by simp) (all_cons ?_ (all_cons ?_ (all_nil)))
          · refine to_e rfl (eff_buildSl rfl bs_131_0 rfl (by repeat (first | exact FillR.nil | exact LPut.nil | apply LPut.cons | apply LPut.succ | apply FillR.cons rfl rfl rfl))) (by rintro _ _ ⟨_, rfl, rfl⟩; exact (fun _ h => hold_sub (by repeat (first | exact Frm.nil | exact Take.here | apply Take.there | apply Frm.cons)) h)) ?_
            rintro _ _ ⟨b46, rfl, rfl⟩
            refine tr_lit (T := 135) (sz := 15) (enc := encLet) [] rfl rfl rfl ?_
            refine tr_any [6, 15] (by kernel_rfl) (by simp) (all_cons ?_ (all_cons ?_ (all_nil)))
            · refine to_e rfl (eff_append (ys := ls) rfl sl_131 Tryz.underlying131 zero_135 rfl by_135 rfl rfl (by repeat (first | exact Take.here | apply Take.there)) ((by first | exact HasArr.own (by repeat (first | exact List.Mem.head _ | apply List.Mem.tail)) | exact HasArr.sh (by repeat (first | exact List.Mem.head _ | apply List.Mem.tail)))) (by intro _; rfl) flatLet (by simp; omega) (by decide)) (by rintro _ _ ⟨_, rfl, rfl⟩; exact (fun _ h => hold_sub (by repeat (first | exact Frm.nil | exact Take.here | apply Take.there | apply Frm.cons)) h)) ?_
              rintro _ _ ⟨v51, rfl, rfl⟩
              refine tr_e 15 rfl (by kernel_rfl) (eff_buildSl rfl bs_131_1 rfl (by repeat (first | exact FillR.nil | exact LPut.nil | apply LPut.cons | apply LPut.succ | apply FillR.cons rfl rfl rfl))) (by rintro _ _ ⟨_, rfl, rfl⟩; exact (fun _ h => hold_sub (by repeat (first | exact Frm.nil | exact Take.here | apply Take.there | apply Frm.cons)) h)) ?_
              rintro _ _ ⟨b60, rfl, rfl⟩
              refine tr_e 16 rfl (by kernel_rfl) (eff_append (ys := [⟨last + 1, 1, r, 0, 0⟩]) rfl sl_131 Tryz.underlying131 zero_135 rfl by_135 rfl rfl (by repeat (first | exact Take.here | apply Take.there)) (HasArr.lit (by first | (left; (repeat (first | exact List.Mem.head _ | apply List.Mem.tail)); done) | (right; (repeat (first | exact List.Mem.head _ | apply List.Mem.tail)); done)) rfl rfl) (by intro _; rfl) flatLet (by simp; omega) (by decide)) (by rintro _ _ ⟨_, rfl, rfl⟩; exact (fun _ h => hold_sub (by repeat (first | exact Frm.nil | exact Take.here | apply Take.there | apply Frm.cons)) h)) ?_
              rintro _ _ ⟨v61, rfl, rfl⟩
              refine tr_shape (enc := encLet) (sz := 15) (v := v61) (by first | exact HasArr.own (by repeat (first | exact List.Mem.head _ | apply List.Mem.tail)) | exact HasArr.sh (by repeat (first | exact List.Mem.head _ | apply List.Mem.tail))) (by intro _; rfl) (fun hsh2 => ?_)
              obtain ⟨p2, q2, c2, rfl⟩ := shape_sl hsh2
              refine tr_q 17 rfl (by kernel_rfl) (by kernel_rfl) (by kernel_rfl) rfl (fun _ h => hold_sub (by repeat (first | exact Frm.nil | exact Take.here | apply Take.there | apply Frm.cons)) h) (ev_nil_ptr rfl) ?_
              refine tr_q 18 rfl (by kernel_rfl) (by kernel_rfl) (by kernel_rfl) rfl (fun _ h => hold_sub (by repeat (first | exact Frm.nil | exact Take.here | apply Take.there | apply Frm.cons)) h) (ev_fieldAddr fa_133_6 rfl rfl) ?_
              refine tr_e 19 rfl (by kernel_rfl) (eff_store rfl rfl rfl rfl sz_131 (by first | (simp [Flat]; done) | exact flatLet _ | exact flatTick _ | exact flatRow _ | exact flatEvt _ | exact flatI _) (by repeat (first | exact Upd.here | apply Upd.there)) (by repeat (first | exact LPut.nil | apply LPut.cons | apply LPut.succ))) (by rintro _ _ ⟨rfl, rfl⟩; exact (fun _ h => hold_sub (by repeat (first | exact Frm.nil | exact Take.here | apply Take.there | apply Frm.cons)) h)) ?_
              rintro _ _ ⟨rfl, rfl⟩
              refine tr_done (by kernel_rfl) ?_
              refine te_code ?_
              refine t_seq ?_
              refine t_region ?_
              refine tl_q rfl (ev_move rfl) ?_
              refine tl_q rfl (ev_nil_ptr rfl) ?_
              refine tl_q rfl (ev_fieldAddr fa_133_3 rfl rfl) ?_
              refine tl_q rfl (ev_load sc_3 rfl (by first | (left; (repeat (first | exact List.Mem.head _ | apply List.Mem.tail)); done) | (right; (repeat (first | exact List.Mem.head _ | apply List.Mem.tail)); done)) rfl) ?_
              refine tl_q rfl (ev_assign rfl) ?_
              refine tl_q rfl (ev_assign rfl) ?_
              refine tl_nil ?_
              refine te_code ?_
              refine t_ret ?_
              refine te_ret_k (pre := [o24 ob 40 1 9 _ _ 0 _, arr _ _ encLet _ _]) (res2 rfl rfl rfl) (by repeat (first | exact Frm.nil | exact Take.here | apply Take.there | apply Frm.cons)) ?_
              exact ⟨_, _, _, _, _, _, rfl, rfl, by omega, by omega, by simp⟩
            · refine to_e rfl (eff_buildSl rfl bs_131_1 rfl (by repeat (first | exact FillR.nil | exact LPut.nil | apply LPut.cons | apply LPut.succ | apply FillR.cons rfl rfl rfl))) (by rintro _ _ ⟨_, rfl, rfl⟩; exact (fun _ h => hold_sub (by repeat (first | exact Frm.nil | exact Take.here | apply Take.there | apply Frm.cons)) h)) ?_
              rintro _ _ ⟨b60, rfl, rfl⟩
              refine tr_e 6 rfl (by kernel_rfl) (eff_append (ys := ls) rfl sl_131 Tryz.underlying131 zero_135 rfl by_135 rfl rfl (by repeat (first | exact Take.here | apply Take.there)) ((by first | exact HasArr.own (by repeat (first | exact List.Mem.head _ | apply List.Mem.tail)) | exact HasArr.sh (by repeat (first | exact List.Mem.head _ | apply List.Mem.tail)))) (by intro _; rfl) flatLet (by simp; omega) (by decide)) (by rintro _ _ ⟨_, rfl, rfl⟩; exact (fun _ h => hold_sub (by repeat (first | exact Frm.nil | exact Take.here | apply Take.there | apply Frm.cons)) h)) ?_
              rintro _ _ ⟨v51, rfl, rfl⟩
              refine tr_e 16 rfl (by kernel_rfl) (eff_append (ys := [⟨last + 1, 1, r, 0, 0⟩]) rfl sl_131 Tryz.underlying131 zero_135 rfl by_135 rfl rfl (by repeat (first | exact Take.here | apply Take.there)) (HasArr.lit (by first | (left; (repeat (first | exact List.Mem.head _ | apply List.Mem.tail)); done) | (right; (repeat (first | exact List.Mem.head _ | apply List.Mem.tail)); done)) rfl rfl) (by intro _; rfl) flatLet (by simp; omega) (by decide)) (by rintro _ _ ⟨_, rfl, rfl⟩; exact (fun _ h => hold_sub (by repeat (first | exact Frm.nil | exact Take.here | apply Take.there | apply Frm.cons)) h)) ?_
              rintro _ _ ⟨v61, rfl, rfl⟩
              refine tr_shape (enc := encLet) (sz := 15) (v := v61) (by first | exact HasArr.own (by repeat (first | exact List.Mem.head _ | apply List.Mem.tail)) | exact HasArr.sh (by repeat (first | exact List.Mem.head _ | apply List.Mem.tail))) (by intro _; rfl) (fun hsh2 => ?_)
              obtain ⟨p2, q2, c2, rfl⟩ := shape_sl hsh2
              refine tr_q 17 rfl (by kernel_rfl) (by kernel_rfl) (by kernel_rfl) rfl (fun _ h => hold_sub (by repeat (first | exact Frm.nil | exact Take.here | apply Take.there | apply Frm.cons)) h) (ev_nil_ptr rfl) ?_
              refine tr_q 18 rfl (by kernel_rfl) (by kernel_rfl) (by kernel_rfl) rfl (fun _ h => hold_sub (by repeat (first | exact Frm.nil | exact Take.here | apply Take.there | apply Frm.cons)) h) (ev_fieldAddr fa_133_6 rfl rfl) ?_
              refine tr_e 19 rfl (by kernel_rfl) (eff_store rfl rfl rfl rfl sz_131 (by first | (simp [Flat]; done) | exact flatLet _ | exact flatTick _ | exact flatRow _ | exact flatEvt _ | exact flatI _) (by repeat (first | exact Upd.here | apply Upd.there)) (by repeat (first | exact LPut.nil | apply LPut.cons | apply LPut.succ))) (by rintro _ _ ⟨rfl, rfl⟩; exact (fun _ h => hold_sub (by repeat (first | exact Frm.nil | exact Take.here | apply Take.there | apply Frm.cons)) h)) ?_
              rintro _ _ ⟨rfl, rfl⟩
              refine tr_done (by kernel_rfl) ?_
              refine te_code ?_
              refine t_seq ?_
              refine t_region ?_
              refine tl_q rfl (ev_move rfl) ?_
              refine tl_q rfl (ev_nil_ptr rfl) ?_
              refine tl_q rfl (ev_fieldAddr fa_133_3 rfl rfl) ?_
              refine tl_q rfl (ev_load sc_3 rfl (by first | (left; (repeat (first | exact List.Mem.head _ | apply List.Mem.tail)); done) | (right; (repeat (first | exact List.Mem.head _ | apply List.Mem.tail)); done)) rfl) ?_
              refine tl_q rfl (ev_assign rfl) ?_
              refine tl_q rfl (ev_assign rfl) ?_
              refine tl_nil ?_
              refine te_code ?_
              refine t_ret ?_
              refine te_ret_k (pre := [o24 ob 40 1 9 _ _ 0 _, arr _ _ encLet _ _]) (res2 rfl rfl rfl) (by repeat (first | exact Frm.nil | exact Take.here | apply Take.there | apply Frm.cons)) ?_
              exact ⟨_, _, _, _, _, _, rfl, rfl, by omega, by omega, by simp⟩
          · refine to_e rfl (eff_buildSl rfl bs_131_1 rfl (by repeat (first | exact FillR.nil | exact LPut.nil | apply LPut.cons | apply LPut.succ | apply FillR.cons rfl rfl rfl))) (by rintro _ _ ⟨_, rfl, rfl⟩; exact (fun _ h => hold_sub (by repeat (first | exact Frm.nil | exact Take.here | apply Take.there | apply Frm.cons)) h)) ?_
            rintro _ _ ⟨b60, rfl, rfl⟩
            refine tr_e 1 rfl (by kernel_rfl) (eff_buildSl rfl bs_131_0 rfl (by repeat (first | exact FillR.nil | exact LPut.nil | apply LPut.cons | apply LPut.succ | apply FillR.cons rfl rfl rfl))) (by rintro _ _ ⟨_, rfl, rfl⟩; exact (fun _ h => hold_sub (by repeat (first | exact Frm.nil | exact Take.here | apply Take.there | apply Frm.cons)) h)) ?_
            rintro _ _ ⟨b46, rfl, rfl⟩
            refine tr_lit (T := 135) (sz := 15) (enc := encLet) [] rfl rfl rfl ?_
            refine tr_e 6 rfl (by kernel_rfl) (eff_append (ys := ls) rfl sl_131 Tryz.underlying131 zero_135 rfl by_135 rfl rfl (by repeat (first | exact Take.here | apply Take.there)) ((by first | exact HasArr.own (by repeat (first | exact List.Mem.head _ | apply List.Mem.tail)) | exact HasArr.sh (by repeat (first | exact List.Mem.head _ | apply List.Mem.tail)))) (by intro _; rfl) flatLet (by simp; omega) (by decide)) (by rintro _ _ ⟨_, rfl, rfl⟩; exact (fun _ h => hold_sub (by repeat (first | exact Frm.nil | exact Take.here | apply Take.there | apply Frm.cons)) h)) ?_
            rintro _ _ ⟨v51, rfl, rfl⟩
            refine tr_e 16 rfl (by kernel_rfl) (eff_append (ys := [⟨last + 1, 1, r, 0, 0⟩]) rfl sl_131 Tryz.underlying131 zero_135 rfl by_135 rfl rfl (by repeat (first | exact Take.here | apply Take.there)) (HasArr.lit (by first | (left; (repeat (first | exact List.Mem.head _ | apply List.Mem.tail)); done) | (right; (repeat (first | exact List.Mem.head _ | apply List.Mem.tail)); done)) rfl rfl) (by intro _; rfl) flatLet (by simp; omega) (by decide)) (by rintro _ _ ⟨_, rfl, rfl⟩; exact (fun _ h => hold_sub (by repeat (first | exact Frm.nil | exact Take.here | apply Take.there | apply Frm.cons)) h)) ?_
            rintro _ _ ⟨v61, rfl, rfl⟩
            refine tr_shape (enc := encLet) (sz := 15) (v := v61) (by first | exact HasArr.own (by repeat (first | exact List.Mem.head _ | apply List.Mem.tail)) | exact HasArr.sh (by repeat (first | exact List.Mem.head _ | apply List.Mem.tail))) (by intro _; rfl) (fun hsh2 => ?_)
            obtain ⟨p2, q2, c2, rfl⟩ := shape_sl hsh2
            refine tr_q 17 rfl (by kernel_rfl) (by kernel_rfl) (by kernel_rfl) rfl (fun _ h => hold_sub (by repeat (first | exact Frm.nil | exact Take.here | apply Take.there | apply Frm.cons)) h) (ev_nil_ptr rfl) ?_
            refine tr_q 18 rfl (by kernel_rfl) (by kernel_rfl) (by kernel_rfl) rfl (fun _ h => hold_sub (by repeat (first | exact Frm.nil | exact Take.here | apply Take.there | apply Frm.cons)) h) (ev_fieldAddr fa_133_6 rfl rfl) ?_
            refine tr_e 19 rfl (by kernel_rfl) (eff_store rfl rfl rfl rfl sz_131 (by first | (simp [Flat]; done) | exact flatLet _ | exact flatTick _ | exact flatRow _ | exact flatEvt _ | exact flatI _) (by repeat (first | exact Upd.here | apply Upd.there)) (by repeat (first | exact LPut.nil | apply LPut.cons | apply LPut.succ))) (by rintro _ _ ⟨rfl, rfl⟩; exact (fun _ h => hold_sub (by repeat (first | exact Frm.nil | exact Take.here | apply Take.there | apply Frm.cons)) h)) ?_
            rintro _ _ ⟨rfl, rfl⟩
            refine tr_done (by kernel_rfl) ?_
            refine te_code ?_
            refine t_seq ?_
            refine t_region ?_
            refine tl_q rfl (ev_move rfl) ?_
            refine tl_q rfl (ev_nil_ptr rfl) ?_
            refine tl_q rfl (ev_fieldAddr fa_133_3 rfl rfl) ?_
            refine tl_q rfl (ev_load sc_3 rfl (by first | (left; (repeat (first | exact List.Mem.head _ | apply List.Mem.tail)); done) | (right; (repeat (first | exact List.Mem.head _ | apply List.Mem.tail)); done)) rfl) ?_
            refine tl_q rfl (ev_assign rfl) ?_
            refine tl_q rfl (ev_assign rfl) ?_
            refine tl_nil ?_
            refine te_code ?_
            refine t_ret ?_
            refine te_ret_k (pre := [o24 ob 40 1 9 _ _ 0 _, arr _ _ encLet _ _]) (res2 rfl rfl rfl) (by repeat (first | exact Frm.nil | exact Take.here | apply Take.there | apply Frm.cons)) ?_
            exact ⟨_, _, _, _, _, _, rfl, rfl, by omega, by omega, by simp⟩
      · refine to_e rfl (eff_ev rfl (ev_load sc_3 rfl (by first | (left; (repeat (first | exact List.Mem.head _ | apply List.Mem.tail)); done) | (right; (repeat (first | exact List.Mem.head _ | apply List.Mem.tail)); done)) rfl)) (by rintro _ _ ⟨rfl, rfl⟩; exact (fun _ h => hold_sub (by repeat (first | exact Frm.nil | exact Take.here | apply Take.there | apply Frm.cons)) h)) ?_
        rintro _ _ ⟨rfl, rfl⟩
        refine tr_q 13 rfl (by kernel_rfl) (by kernel_rfl) (by kernel_rfl) rfl (fun _ h => hold_sub (by repeat (first | exact Frm.nil | exact Take.here | apply Take.there | apply Frm.cons)) h) (ev_build st_130 rfl (by repeat (first | exact FillR.nil | exact LPut.nil | apply LPut.cons | apply LPut.succ | apply FillR.cons rfl rfl rfl))) ?_
        refine tr_q 14 rfl (by kernel_rfl) (by kernel_rfl) (by kernel_rfl) rfl (fun _ h => hold_sub (by repeat (first | exact Frm.nil | exact Take.here | apply Take.there | apply Frm.cons)) h) (ev_build st_135 rfl (by repeat (first | exact FillR.nil | exact LPut.nil | apply LPut.cons | apply LPut.succ | apply FillR.cons rfl rfl rfl))) ?_
        refine tr_any [1, 5, 15] (by kernel_rfl) (by simp) (all_cons ?_ (all_cons ?_ (all_cons ?_ (all_nil))))
        · refine to_e rfl (eff_buildSl rfl bs_131_0 rfl (by repeat (first | exact FillR.nil | exact LPut.nil | apply LPut.cons | apply LPut.succ | apply FillR.cons rfl rfl rfl))) (by rintro _ _ ⟨_, rfl, rfl⟩; exact (fun _ h => hold_sub (by repeat (first | exact Frm.nil | exact Take.here | apply Take.there | apply Frm.cons)) h)) ?_
          rintro _ _ ⟨b46, rfl, rfl⟩
          refine tr_lit (T := 135) (sz := 15) (enc := encLet) [] rfl rfl rfl ?_
          refine tr_any [5, 15] (by kernel_rfl) (by simp) (all_cons ?_ (all_cons ?_ (all_nil)))
          · refine to_e rfl (eff_ev rfl (ev_load sc_131 rfl (by first | (left; (repeat (first | exact List.Mem.head _ | apply List.Mem.tail)); done) | (right; (repeat (first | exact List.Mem.head _ | apply List.Mem.tail)); done)) rfl)) (by rintro _ _ ⟨rfl, rfl⟩; exact (fun _ h => hold_sub (by repeat (first | exact Frm.nil | exact Take.here | apply Take.there | apply Frm.cons)) h)) ?_
            rintro _ _ ⟨rfl, rfl⟩
            refine tr_any [6, 15] (by kernel_rfl) (by simp) (all_cons ?_ (all_cons ?_ (all_nil)))
            · refine to_e rfl (eff_append (ys := ls) rfl sl_131 Tryz.underlying131 zero_135 rfl by_135 rfl rfl (by repeat (first | exact Take.here | apply Take.there)) ((by first | exact HasArr.own (by repeat (first | exact List.Mem.head _ | apply List.Mem.tail)) | exact HasArr.sh (by repeat (first | exact List.Mem.head _ | apply List.Mem.tail)))) (by intro _; rfl) flatLet (by simp; omega) (by decide)) (by rintro _ _ ⟨_, rfl, rfl⟩; exact (fun _ h => hold_sub (by repeat (first | exact Frm.nil | exact Take.here | apply Take.there | apply Frm.cons)) h)) ?_
              rintro _ _ ⟨v51, rfl, rfl⟩
              refine tr_e 15 rfl (by kernel_rfl) (eff_buildSl rfl bs_131_1 rfl (by repeat (first | exact FillR.nil | exact LPut.nil | apply LPut.cons | apply LPut.succ | apply FillR.cons rfl rfl rfl))) (by rintro _ _ ⟨_, rfl, rfl⟩; exact (fun _ h => hold_sub (by repeat (first | exact Frm.nil | exact Take.here | apply Take.there | apply Frm.cons)) h)) ?_
              rintro _ _ ⟨b60, rfl, rfl⟩
              refine tr_e 16 rfl (by kernel_rfl) (eff_append (ys := [⟨last + 1, 1, r, 0, 0⟩]) rfl sl_131 Tryz.underlying131 zero_135 rfl by_135 rfl rfl (by repeat (first | exact Take.here | apply Take.there)) (HasArr.lit (by first | (left; (repeat (first | exact List.Mem.head _ | apply List.Mem.tail)); done) | (right; (repeat (first | exact List.Mem.head _ | apply List.Mem.tail)); done)) rfl rfl) (by intro _; rfl) flatLet (by simp; omega) (by decide)) (by rintro _ _ ⟨_, rfl, rfl⟩; exact (fun _ h => hold_sub (by repeat (first | exact Frm.nil | exact Take.here | apply Take.there | apply Frm.cons)) h)) ?_
              rintro _ _ ⟨v61, rfl, rfl⟩
              refine tr_shape (enc := encLet) (sz := 15) (v := v61) (by first | exact HasArr.own (by repeat (first | exact List.Mem.head _ | apply List.Mem.tail)) | exact HasArr.sh (by repeat (first | exact List.Mem.head _ | apply List.Mem.tail))) (by intro _; rfl) (fun hsh2 => ?_)
              obtain ⟨p2, q2, c2, rfl⟩ := shape_sl hsh2
              refine tr_q 17 rfl (by kernel_rfl) (by kernel_rfl) (by kernel_rfl) rfl (fun _ h => hold_sub (by repeat (first | exact Frm.nil | exact Take.here | apply Take.there | apply Frm.cons)) h) (ev_nil_ptr rfl) ?_
              refine tr_q 18 rfl (by kernel_rfl) (by kernel_rfl) (by kernel_rfl) rfl (fun _ h => hold_sub (by repeat (first | exact Frm.nil | exact Take.here | apply Take.there | apply Frm.cons)) h) (ev_fieldAddr fa_133_6 rfl rfl) ?_
              refine tr_e 19 rfl (by kernel_rfl) (eff_store rfl rfl rfl rfl sz_131 (by first | (simp [Flat]; done) | exact flatLet _ | exact flatTick _ | exact flatRow _ | exact flatEvt _ | exact flatI _) (by repeat (first | exact Upd.here | apply Upd.there)) (by repeat (first | exact LPut.nil | apply LPut.cons | apply LPut.succ))) (by rintro _ _ ⟨rfl, rfl⟩; exact (fun _ h => hold_sub (by repeat (first | exact Frm.nil | exact Take.here | apply Take.there | apply Frm.cons)) h)) ?_
              rintro _ _ ⟨rfl, rfl⟩
              refine tr_done (by kernel_rfl) ?_
              refine te_code ?_
              refine t_seq ?_
              refine t_region ?_
              refine tl_q rfl (ev_move rfl) ?_
              refine tl_q rfl (ev_nil_ptr rfl) ?_
              refine tl_q rfl (ev_fieldAddr fa_133_3 rfl rfl) ?_
              refine tl_q rfl (ev_load sc_3 rfl (by first | (left; (repeat (first | exact List.Mem.head _ | apply List.Mem.tail)); done) | (right; (repeat (first | exact List.Mem.head _ | apply List.Mem.tail)); done)) rfl) ?_
              refine tl_q rfl (ev_assign rfl) ?_
              refine tl_q rfl (ev_assign rfl) ?_
              refine tl_nil ?_
              refine te_code ?_
              refine t_ret ?_
              refine te_ret_k (pre := [o24 ob 40 1 9 _ _ 0 _, arr _ _ encLet _ _]) (res2 rfl rfl rfl) (by repeat (first | exact Frm.nil | exact Take.here | apply Take.there | apply Frm.cons)) ?_
              exact ⟨_, _, _, _, _, _, rfl, rfl, by omega, by omega, by simp⟩
            · refine to_e rfl (eff_buildSl rfl bs_131_1 rfl (by repeat (first | exact FillR.nil | exact LPut.nil | apply LPut.cons | apply LPut.succ | apply FillR.cons rfl rfl rfl))) (by rintro _ _ ⟨_, rfl, rfl⟩; exact (fun _ h => hold_sub (by repeat (first | exact Frm.nil | exact Take.here | apply Take.there | apply Frm.cons)) h)) ?_
              rintro _ _ ⟨b60, rfl, rfl⟩
              refine tr_e 6 rfl (by kernel_rfl) (eff_append (ys := ls) rfl sl_131 Tryz.underlying131 zero_135 rfl by_135 rfl rfl (by repeat (first | exact Take.here | apply Take.there)) ((by first | exact HasArr.own (by repeat (first | exact List.Mem.head _ | apply List.Mem.tail)) | exact HasArr.sh (by repeat (first | exact List.Mem.head _ | apply List.Mem.tail)))) (by intro _; rfl) flatLet (by simp; omega) (by decide)) (by rintro _ _ ⟨_, rfl, rfl⟩; exact (fun _ h => hold_sub (by repeat (first | exact Frm.nil | exact Take.here | apply Take.there | apply Frm.cons)) h)) ?_
              rintro _ _ ⟨v51, rfl, rfl⟩
              refine tr_e 16 rfl (by kernel_rfl) (eff_append (ys := [⟨last + 1, 1, r, 0, 0⟩]) rfl sl_131 Tryz.underlying131 zero_135 rfl by_135 rfl rfl (by repeat (first | exact Take.here | apply Take.there)) (HasArr.lit (by first | (left; (repeat (first | exact List.Mem.head _ | apply List.Mem.tail)); done) | (right; (repeat (first | exact List.Mem.head _ | apply List.Mem.tail)); done)) rfl rfl) (by intro _; rfl) flatLet (by simp; omega) (by decide)) (by rintro _ _ ⟨_, rfl, rfl⟩; exact (fun _ h => hold_sub (by repeat (first | exact Frm.nil | exact Take.here | apply Take.there | apply Frm.cons)) h)) ?_
              rintro _ _ ⟨v61, rfl, rfl⟩
              refine tr_shape (enc := encLet) (sz := 15) (v := v61) (by first | exact HasArr.own (by repeat (first | exact List.Mem.head _ | apply List.Mem.tail)) | exact HasArr.sh (by repeat (first | exact List.Mem.head _ | apply List.Mem.tail))) (by intro _; rfl) (fun hsh2 => ?_)
              obtain ⟨p2, q2, c2, rfl⟩ := shape_sl hsh2
              refine tr_q 17 rfl (by kernel_rfl) (by kernel_rfl) (by kernel_rfl) rfl (fun _ h => hold_sub (by repeat (first | exact Frm.nil | exact Take.here | apply Take.there | apply Frm.cons)) h) (ev_nil_ptr rfl) ?_
              refine tr_q 18 rfl (by kernel_rfl) (by kernel_rfl) (by kernel_rfl) rfl (fun _ h => hold_sub (by repeat (first | exact Frm.nil | exact Take.here | apply Take.there | apply Frm.cons)) h) (ev_fieldAddr fa_133_6 rfl rfl) ?_
              refine tr_e 19 rfl (by kernel_rfl) (eff_store rfl rfl rfl rfl sz_131 (by first | (simp [Flat]; done) | exact flatLet _ | exact flatTick _ | exact flatRow _ | exact flatEvt _ | exact flatI _) (by repeat (first | exact Upd.here | apply Upd.there)) (by repeat (first | exact LPut.nil | apply LPut.cons | apply LPut.succ))) (by rintro _ _ ⟨rfl, rfl⟩; exact (fun _ h => hold_sub (by repeat (first | exact Frm.nil | exact Take.here | apply Take.there | apply Frm.cons)) h)) ?_
              rintro _ _ ⟨rfl, rfl⟩
              refine tr_done (by kernel_rfl) ?_
              refine te_code ?_
              refine t_seq ?_
              refine t_region ?_
              refine tl_q rfl (ev_move rfl) ?_
              refine tl_q rfl (ev_nil_ptr rfl) ?_
              refine tl_q rfl (ev_fieldAddr fa_133_3 rfl rfl) ?_
              refine tl_q rfl (ev_load sc_3 rfl (by first | (left; (repeat (first | exact List.Mem.head _ | apply List.Mem.tail)); done) | (right; (repeat (first | exact List.Mem.head _ | apply List.Mem.tail)); done)) rfl) ?_
              refine tl_q rfl (ev_assign rfl) ?_
              refine tl_q rfl (ev_assign rfl) ?_
              refine tl_nil ?_
              refine te_code ?_
              refine t_ret ?_
              refine te_ret_k (pre := [o24 ob 40 1 9 _ _ 0 _, arr _ _ encLet _ _]) (res2 rfl rfl rfl) (by repeat (first | exact Frm.nil | exact Take.here | apply Take.there | apply Frm.cons)) ?_
              exact ⟨_, _, _, _, _, _, rfl, rfl, by omega, by omega, by simp⟩
          · refine to_e rfl (eff_buildSl rfl bs_131_1 rfl (by repeat (first | exact FillR.nil | exact LPut.nil | apply LPut.cons | apply LPut.succ | apply FillR.cons rfl rfl rfl))) (by rintro _ _ ⟨_, rfl, rfl⟩; exact (fun _ h => hold_sub (by repeat (first | exact Frm.nil | exact Take.here | apply Take.there | apply Frm.cons)) h)) ?_
            rintro _ _ ⟨b60, rfl, rfl⟩
            refine tr_e 5 rfl (by kernel_rfl) (eff_ev rfl (ev_load sc_131 rfl (by first | (left; (repeat (first | exact List.Mem.head _ | apply List.Mem.tail)); done) | (right; (repeat (first | exact List.Mem.head _ | apply List.Mem.tail)); done)) rfl)) (by rintro _ _ ⟨rfl, rfl⟩; exact (fun _ h => hold_sub (by repeat (first | exact Frm.nil | exact Take.here | apply Take.there | apply Frm.cons)) h)) ?_
            rintro _ _ ⟨rfl, rfl⟩
            refine tr_e 6 rfl (by kernel_rfl) (eff_append (ys := ls) rfl sl_131 Tryz.underlying131 zero_135 rfl by_135 rfl rfl (by repeat (first | exact Take.here | apply Take.there)) ((by first | exact HasArr.own (by repeat (first | exact List.Mem.head _ | apply List.Mem.tail)) | exact HasArr.sh (by repeat (first | exact List.Mem.head _ | apply List.Mem.tail)))) (by intro _; rfl) flatLet (by simp; omega) (by decide)) (by rintro _ _ ⟨_, rfl, rfl⟩; exact (fun _ h => hold_sub (by repeat (first | exact Frm.nil | exact Take.here | apply Take.there | apply Frm.cons)) h)) ?_
            rintro _ _ ⟨v51, rfl, rfl⟩
            refine tr_e 16 rfl (by kernel_rfl) (eff_append (ys := [⟨last + 1, 1, r, 0, 0⟩]) rfl sl_131 Tryz.underlying131 zero_135 rfl by_135 rfl rfl (by repeat (first | exact Take.here | apply Take.there)) (HasArr.lit (by first | (left; (repeat (first | exact List.Mem.head _ | apply List.Mem.tail)); done) | (right; (repeat (first | exact List.Mem.head _ | apply List.Mem.tail)); done)) rfl rfl) (by intro _; rfl) flatLet (by simp; omega) (by decide)) (by rintro _ _ ⟨_, rfl, rfl⟩; exact (fun _ h => hold_sub (by repeat (first | exact Frm.nil | exact Take.here | apply Take.there | apply Frm.cons)) h)) ?_
            rintro _ _ ⟨v61, rfl, rfl⟩
            refine tr_shape (enc := encLet) (sz := 15) (v := v61) (by first | exact HasArr.own (by repeat (first | exact List.Mem.head _ | apply List.Mem.tail)) | exact HasArr.sh (by repeat (first | exact List.Mem.head _ | apply List.Mem.tail))) (by intro _; rfl) (fun hsh2 => ?_)
            obtain ⟨p2, q2, c2, rfl⟩ := shape_sl hsh2
            refine tr_q 17 rfl (by kernel_rfl) (by kernel_rfl) (by kernel_rfl) rfl (fun _ h => hold_sub (by repeat (first | exact Frm.nil | exact Take.here | apply Take.there | apply Frm.cons)) h) (ev_nil_ptr rfl) ?_
            refine tr_q 18 rfl (by kernel_rfl) (by kernel_rfl) (by kernel_rfl) rfl (fun _ h => hold_sub (by repeat (first | exact Frm.nil | exact Take.here | apply Take.there | apply Frm.cons)) h) (ev_fieldAddr fa_133_6 rfl rfl) ?_
            refine tr_e 19 rfl (by kernel_rfl) (eff_store rfl rfl rfl rfl sz_131 (by first | (simp [Flat]; done) | exact flatLet _ | exact flatTick _ | exact flatRow _ | exact flatEvt _ | exact flatI _) (by repeat (first | exact Upd.here | apply Upd.there)) (by repeat (first | exact LPut.nil | apply LPut.cons | apply LPut.succ))) (by rintro _ _ ⟨rfl, rfl⟩; exact (fun _ h => hold_sub (by repeat (first | exact Frm.nil | exact Take.here | apply Take.there | apply Frm.cons)) h)) ?_
            rintro _ _ ⟨rfl, rfl⟩
            refine tr_done (by kernel_rfl) ?_
            refine te_code ?_
            refine t_seq ?_
            refine t_region ?_
            refine tl_q rfl (ev_move rfl) ?_
            refine tl_q rfl (ev_nil_ptr rfl) ?_
            refine tl_q rfl (ev_fieldAddr fa_133_3 rfl rfl) ?_
            refine tl_q rfl (ev_load sc_3 rfl (by first | (left; (repeat (first | exact List.Mem.head _ | apply List.Mem.tail)); done) | (right; (repeat (first | exact List.Mem.head _ | apply List.Mem.tail)); done)) rfl) ?_
            refine tl_q rfl (ev_assign rfl) ?_
            refine tl_q rfl (ev_assign rfl) ?_
            refine tl_nil ?_
            refine te_code ?_
            refine t_ret ?_
            refine te_ret_k (pre := [o24 ob 40 1 9 _ _ 0 _, arr _ _ encLet _ _]) (res2 rfl rfl rfl) (by repeat (first | exact Frm.nil | exact Take.here | apply Take.there | apply Frm.cons)) ?_
            exact ⟨_, _, _, _, _, _, rfl, rfl, by omega, by omega, by simp⟩
        · refine to_e rfl (eff_ev rfl (ev_load sc_131 rfl (by first | (left; (repeat (first | exact List.Mem.head _ | apply List.Mem.tail)); done) | (right; (repeat (first | exact List.Mem.head _ | apply List.Mem.tail)); done)) rfl)) (by rintro _ _ ⟨rfl, rfl⟩; exact (fun _ h => hold_sub (by repeat (first | exact Frm.nil | exact Take.here | apply Take.there | apply Frm.cons)) h)) ?_
          rintro _ _ ⟨rfl, rfl⟩
          refine tr_any [1, 15] (by kernel_rfl) (by simp) (all_cons ?_ (all_cons ?_ (all_nil)))
          · refine to_e rfl (eff_buildSl rfl bs_131_0 rfl (by repeat (first | exact FillR.nil | exact LPut.nil | apply LPut.cons | apply LPut.succ | apply FillR.cons rfl rfl rfl))) (by rintro _ _ ⟨_, rfl, rfl⟩; exact (fun _ h => hold_sub (by repeat (first | exact Frm.nil | exact Take.here | apply Take.there | apply Frm.cons)) h)) ?_
            rintro _ _ ⟨b46, rfl, rfl⟩
            refine tr_lit (T := 135) (sz := 15) (enc := encLet) [] rfl rfl rfl ?_
            refine tr_any [6, 15] (by kernel_rfl) (by simp) (all_cons ?_ (all_cons ?_ (all_nil)))
            · refine to_e rfl (eff_append (ys := ls) rfl sl_131 Tryz.underlying131 zero_135 rfl by_135 rfl rfl (by repeat (first | exact Take.here | apply Take.there)) ((by first | exact HasArr.own (by repeat (first | exact List.Mem.head _ | apply List.Mem.tail)) | exact HasArr.sh (by repeat (first | exact List.Mem.head _ | apply List.Mem.tail)))) (by intro _; rfl) flatLet (by simp; omega) (by decide)) (by rintro _ _ ⟨_, rfl, rfl⟩; exact (fun _ h => hold_sub (by repeat (first | exact Frm.nil | exact Take.here | apply Take.there | apply Frm.cons)) h)) ?_
              rintro _ _ ⟨v51, rfl, rfl⟩
              refine tr_e 15 rfl (by kernel_rfl) (eff_buildSl rfl bs_131_1 rfl (by repeat (first | exact FillR.nil | exact LPut.nil | apply LPut.cons | apply LPut.succ | apply FillR.cons rfl rfl rfl))) (by rintro _ _ ⟨_, rfl, rfl⟩; exact (fun _ h => hold_sub (by repeat (first | exact Frm.nil | exact Take.here | apply Take.there | apply Frm.cons)) h)) ?_
              rintro _ _ ⟨b60, rfl, rfl⟩
              refine tr_e 16 rfl (by kernel_rfl) (eff_append (ys := [⟨last + 1, 1, r, 0, 0⟩]) rfl sl_131 Tryz.underlying131 zero_135 rfl by_135 rfl rfl (by repeat (first | exact Take.here | apply Take.there)) (HasArr.lit (by first | (left; (repeat (first | exact List.Mem.head _ | apply List.Mem.tail)); done) | (right; (repeat (first | exact List.Mem.head _ | apply List.Mem.tail)); done)) rfl rfl) (by intro _; rfl) flatLet (by simp; omega) (by decide)) (by rintro _ _ ⟨_, rfl, rfl⟩; exact (fun _ h => hold_sub (by repeat (first | exact Frm.nil | exact Take.here | apply Take.there | apply Frm.cons)) h)) ?_
              rintro _ _ ⟨v61, rfl, rfl⟩
              refine tr_shape (enc := encLet) (sz := 15) (v := v61) (by first | exact HasArr.own (by repeat (first | exact List.Mem.head _ | apply List.Mem.tail)) | exact HasArr.sh (by repeat (first | exact List.Mem.head _ | apply List.Mem.tail))) (by intro _; rfl) (fun hsh2 => ?_)
              obtain ⟨p2, q2, c2, rfl⟩ := shape_sl hsh2
              refine tr_q 17 rfl (by kernel_rfl) (by kernel_rfl) (by kernel_rfl) rfl (fun _ h => hold_sub (by repeat (first | exact Frm.nil | exact Take.here | apply Take.there | apply Frm.cons)) h) (ev_nil_ptr rfl) ?_
              refine tr_q 18 rfl (by kernel_rfl) (by kernel_rfl) (by kernel_rfl) rfl (fun _ h => hold_sub (by repeat (first | exact Frm.nil | exact Take.here | apply Take.there | apply Frm.cons)) h) (ev_fieldAddr fa_133_6 rfl rfl) ?_
              refine tr_e 19 rfl (by kernel_rfl) (eff_store rfl rfl rfl rfl sz_131 (by first | (simp [Flat]; done) | exact flatLet _ | exact flatTick _ | exact flatRow _ | exact flatEvt _ | exact flatI _) (by repeat (first | exact Upd.here | apply Upd.there)) (by repeat (first | exact LPut.nil | apply LPut.cons | apply LPut.succ))) (by rintro _ _ ⟨rfl, rfl⟩; exact (fun _ h => hold_sub (by repeat (first | exact Frm.nil | exact Take.here | apply Take.there | apply Frm.cons)) h)) ?_
              rintro _ _ ⟨rfl, rfl⟩
              refine tr_done (by kernel_rfl) ?_
              refine te_code ?_
              refine t_seq ?_
              refine t_region ?_
              refine tl_q rfl (ev_move rfl) ?_
              refine tl_q rfl (ev_nil_ptr rfl) ?_
              refine tl_q rfl (ev_fieldAddr fa_133_3 rfl rfl) ?_
              refine tl_q rfl (ev_load sc_3 rfl (by first | (left; (repeat (first | exact List.Mem.head _ | apply List.Mem.tail)); done) | (right; (repeat (first | exact List.Mem.head _ | apply List.Mem.tail)); done)) rfl) ?_
              refine tl_q rfl (ev_assign rfl) ?_
              refine tl_q rfl (ev_assign rfl) ?_
              refine tl_nil ?_
              refine te_code ?_
              refine t_ret ?_
              refine te_ret_k (pre := [o24 ob 40 1 9 _ _ 0 _, arr _ _ encLet _ _]) (res2 rfl rfl rfl) (by repeat (first | exact Frm.nil | exact Take.here | apply Take.there | apply Frm.cons)) ?_
              exact ⟨_, _, _, _, _, _, rfl, rfl, by omega, by omega, by simp⟩
            · refine to_e rfl (eff_buildSl rfl bs_131_1 rfl (by repeat (first | exact FillR.nil | exact LPut.nil | apply LPut.cons | apply LPut.succ | apply FillR.cons rfl rfl rfl))) (by rintro _ _ ⟨_, rfl, rfl⟩; exact (fun _ h => hold_sub (by repeat (first | exact Frm.nil | exact Take.here | apply Take.there | apply Frm.cons)) h)) ?_
              rintro _ _ ⟨b60, rfl, rfl⟩
              refine tr_e 6 rfl (by kernel_rfl) (eff_append (ys := ls) rfl sl_131 Tryz.underlying131 zero_135 rfl by_135 rfl rfl (by repeat (first | exact Take.here | apply Take.there)) ((by first | exact HasArr.own (by repeat (first | exact List.Mem.head _ | apply List.Mem.tail)) | exact HasArr.sh (by repeat (first | exact List.Mem.head _ | apply List.Mem.tail)))) (by intro _; rfl) flatLet (by simp; omega) (by decide)) (by rintro _ _ ⟨_, rfl, rfl⟩; exact (fun _ h => hold_sub (by repeat (first | exact Frm.nil | exact Take.here | apply Take.there | apply Frm.cons)) h)) ?_
              rintro _ _ ⟨v51, rfl, rfl⟩
              refine tr_e 16 rfl (by kernel_rfl) (eff_append (ys := [⟨last + 1, 1, r, 0, 0⟩]) rfl sl_131 Tryz.underlying131 zero_135 rfl by_135 rfl rfl (by repeat (first | exact Take.here | apply Take.there)) (HasArr.lit (by first | (left; (repeat (first | exact List.Mem.head _ | apply List.Mem.tail)); done) | (right; (repeat (first | exact List.Mem.head _ | apply List.Mem.tail)); done)) rfl rfl) (by intro _; rfl) flatLet (by simp; omega) (by decide)) (by rintro _ _ ⟨_, rfl, rfl⟩; exact (fun _ h => hold_sub (by repeat (first | exact Frm.nil | exact Take.here | apply Take.there | apply Frm.cons)) h)) ?_
              rintro _ _ ⟨v61, rfl, rfl⟩
              refine tr_shape (enc := encLet) (sz := 15) (v := v61) (by first | exact HasArr.own (by repeat (first | exact List.Mem.head _ | apply List.Mem.tail)) | exact HasArr.sh (by repeat (first | exact List.Mem.head _ | apply List.Mem.tail))) (by intro _; rfl) (fun hsh2 => ?_)
              obtain ⟨p2, q2, c2, rfl⟩ := shape_sl hsh2
              refine tr_q 17 rfl (by kernel_rfl) (by kernel_rfl) (by kernel_rfl) rfl (fun _ h => hold_sub (by repeat (first | exact Frm.nil | exact Take.here | apply Take.there | apply Frm.cons)) h) (ev_nil_ptr rfl) ?_
              refine tr_q 18 rfl (by kernel_rfl) (by kernel_rfl) (by kernel_rfl) rfl (fun _ h => hold_sub (by repeat (first | exact Frm.nil | exact Take.here | apply Take.there | apply Frm.cons)) h) (ev_fieldAddr fa_133_6 rfl rfl) ?_
              refine tr_e 19 rfl (by kernel_rfl) (eff_store rfl rfl rfl rfl sz_131 (by first | (simp [Flat]; done) | exact flatLet _ | exact flatTick _ | exact flatRow _ | exact flatEvt _ | exact flatI _) (by repeat (first | exact Upd.here | apply Upd.there)) (by repeat (first | exact LPut.nil | apply LPut.cons | apply LPut.succ))) (by rintro _ _ ⟨rfl, rfl⟩; exact (fun _ h => hold_sub (by repeat (first | exact Frm.nil | exact Take.here | apply Take.there | apply Frm.cons)) h)) ?_
              rintro _ _ ⟨rfl, rfl⟩
              refine tr_done (by kernel_rfl) ?_
              refine te_code ?_
              refine t_seq ?_
              refine t_region ?_
              refine tl_q rfl (ev_move rfl) ?_
              refine tl_q rfl (ev_nil_ptr rfl) ?_
              refine tl_q rfl (ev_fieldAddr fa_133_3 rfl rfl) ?_
              refine tl_q rfl (ev_load sc_3 rfl (by first | (left; (repeat (first | exact List.Mem.head _ | apply List.Mem.tail)); done) | (right; (repeat (first | exact List.Mem.head _ | apply List.Mem.tail)); done)) rfl) ?_
              refine tl_q rfl (ev_assign rfl) ?_
              refine tl_q rfl (ev_assign rfl) ?_
              refine tl_nil ?_
              refine te_code ?_
              refine t_ret ?_
              refine te_ret_k (pre := [o24 ob 40 1 9 _ _ 0 _, arr _ _ encLet _ _]) (res2 rfl rfl rfl) (by repeat (first | exact Frm.nil | exact Take.here | apply Take.there | apply Frm.cons)) ?_
              exact ⟨_, _, _, _, _, _, rfl, rfl, by omega, by omega, by simp⟩
          · refine to_e rfl (eff_buildSl rfl bs_131_1 rfl (by repeat (first | exact FillR.nil | exact LPut.nil | apply LPut.cons | apply LPut.succ | apply FillR.cons rfl rfl rfl))) (by rintro _ _ ⟨_, rfl, rfl⟩; exact (fun _ h => hold_sub (by repeat (first | exact Frm.nil | exact Take.here | apply Take.there | apply Frm.cons)) h)) ?_
            rintro _ _ ⟨b60, rfl, rfl⟩
            refine tr_e 1 rfl (by kernel_rfl) (eff_buildSl rfl bs_131_0 rfl (by repeat (first | exact FillR.nil | exact LPut.nil | apply LPut.cons | apply LPut.succ | apply FillR.cons rfl rfl rfl))) (by rintro _ _ ⟨_, rfl, rfl⟩; exact (fun _ h => hold_sub (by repeat (first | exact Frm.nil | exact Take.here | apply Take.there | apply Frm.cons)) h)) ?_
            rintro _ _ ⟨b46, rfl, rfl⟩
            refine tr_lit (T := 135) (sz := 15) (enc := encLet) [] rfl rfl rfl ?_
            refine tr_e 6 rfl (by kernel_rfl) (eff_append (ys := ls) rfl sl_131 Tryz.underlying131 zero_135 rfl by_135 rfl rfl (by repeat (first | exact Take.here | apply Take.there)) ((by first | exact HasArr.own (by repeat (first | exact List.Mem.head _ | apply List.Mem.tail)) | exact HasArr.sh (by repeat (first | exact List.Mem.head _ | apply List.Mem.tail)))) (by intro _; rfl) flatLet (by simp; omega) (by decide)) (by rintro _ _ ⟨_, rfl, rfl⟩; exact (fun _ h => hold_sub (by repeat (first | exact Frm.nil | exact Take.here | apply Take.there | apply Frm.cons)) h)) ?_
            rintro _ _ ⟨v51, rfl, rfl⟩
            refine tr_e 16 rfl (by kernel_rfl) (eff_append (ys := [⟨last + 1, 1, r, 0, 0⟩]) rfl sl_131 Tryz.underlying131 zero_135 rfl by_135 rfl rfl (by repeat (first | exact Take.here | apply Take.there)) (HasArr.lit (by first | (left; (repeat (first | exact List.Mem.head _ | apply List.Mem.tail)); done) | (right; (repeat (first | exact List.Mem.head _ | apply List.Mem.tail)); done)) rfl rfl) (by intro _; rfl) flatLet (by simp; omega) (by decide)) (by rintro _ _ ⟨_, rfl, rfl⟩; exact (fun _ h => hold_sub (by repeat (first | exact Frm.nil | exact Take.here | apply Take.there | apply Frm.cons)) h)) ?_
            rintro _ _ ⟨v61, rfl, rfl⟩
            refine tr_shape (enc := encLet) (sz := 15) (v := v61) (by first | exact HasArr.own (by repeat (first | exact List.Mem.head _ | apply List.Mem.tail)) | exact HasArr.sh (by repeat (first | exact List.Mem.head _ | apply List.Mem.tail))) (by intro _; rfl) (fun hsh2 => ?_)
            obtain ⟨p2, q2, c2, rfl⟩ := shape_sl hsh2
            refine tr_q 17 rfl (by kernel_rfl) (by kernel_rfl) (by kernel_rfl) rfl (fun _ h => hold_sub (by repeat (first | exact Frm.nil | exact Take.here | apply Take.there | apply Frm.cons)) h) (ev_nil_ptr rfl) ?_
            refine tr_q 18 rfl (by kernel_rfl) (by kernel_rfl) (by kernel_rfl) rfl (fun _ h => hold_sub (by repeat (first | exact Frm.nil | exact Take.here | apply Take.there | apply Frm.cons)) h) (ev_fieldAddr fa_133_6 rfl rfl) ?_
            refine tr_e 19 rfl (by kernel_rfl) (eff_store rfl rfl rfl rfl sz_131 (by first | (simp [Flat]; done) | exact flatLet _ | exact flatTick _ | exact flatRow _ | exact flatEvt _ | exact flatI _) (by repeat (first | exact Upd.here | apply Upd.there)) (by repeat (first | exact LPut.nil | apply LPut.cons | apply LPut.succ))) (by rintro _ _ ⟨rfl, rfl⟩; exact (fun _ h => hold_sub (by repeat (first | exact Frm.nil | exact Take.here | apply Take.there | apply Frm.cons)) h)) ?_
            rintro _ _ ⟨rfl, rfl⟩
            refine tr_done (by kernel_rfl) ?_
            refine te_code ?_
            refine t_seq ?_
            refine t_region ?_
            refine tl_q rfl (ev_move rfl) ?_
            refine tl_q rfl (ev_nil_ptr rfl) ?_
            refine tl_q rfl (ev_fieldAddr fa_133_3 rfl rfl) ?_
            refine tl_q rfl (ev_load sc_3 rfl (by first | (left; (repeat (first | exact List.Mem.head _ | apply List.Mem.tail)); done) | (right; (repeat (first | exact List.Mem.head _ | apply List.Mem.tail)); done)) rfl) ?_
            refine tl_q rfl (ev_assign rfl) ?_
            refine tl_q rfl (ev_assign rfl) ?_
            refine tl_nil ?_
            refine te_code ?_
            refine t_ret ?_
            refine te_ret_k (pre := [o24 ob 40 1 9 _ _ 0 _, arr _ _ encLet _ _]) (res2 rfl rfl rfl) (by repeat (first | exact Frm.nil | exact Take.here | apply Take.there | apply Frm.cons)) ?_
            exact ⟨_, _, _, _, _, _, rfl, rfl, by omega, by omega, by simp⟩
        · refine to_e rfl (eff_buildSl rfl bs_131_1 rfl (by repeat (first | exact FillR.nil | exact LPut.nil | apply LPut.cons | apply LPut.succ | apply FillR.cons rfl rfl rfl))) (by rintro _ _ ⟨_, rfl, rfl⟩; exact (fun _ h => hold_sub (by repeat (first | exact Frm.nil | exact Take.here | apply Take.there | apply Frm.cons)) h)) ?_
          rintro _ _ ⟨b60, rfl, rfl⟩
          refine tr_any [1, 5] (by kernel_rfl) (by simp) (all_cons ?_ (all_cons ?_ (all_nil)))
          · refine to_e rfl (eff_buildSl rfl bs_131_0 rfl (by repeat (first | exact FillR.nil | exact LPut.nil | apply LPut.cons | apply LPut.succ | apply FillR.cons rfl rfl rfl))) (by rintro _ _ ⟨_, rfl, rfl⟩; exact (fun _ h => hold_sub (by repeat (first | exact Frm.nil | exact Take.here | apply Take.there | apply Frm.cons)) h)) ?_
            rintro _ _ ⟨b46, rfl, rfl⟩
            refine tr_lit (T := 135) (sz := 15) (enc := encLet) [] rfl rfl rfl ?_
            refine tr_e 5 rfl (by kernel_rfl) (eff_ev rfl (ev_load sc_131 rfl (by first | (left; (repeat (first | exact List.Mem.head _ | apply List.Mem.tail)); done) | (right; (repeat (first | exact List.Mem.head _ | apply List.Mem.tail)); done)) rfl)) (by rintro _ _ ⟨rfl, rfl⟩; exact (fun _ h => hold_sub (by repeat (first | exact Frm.nil | exact Take.here | apply Take.there | apply Frm.cons)) h)) ?_
            rintro _ _ ⟨rfl, rfl⟩
            refine tr_e 6 rfl (by kernel_rfl) (eff_append (ys := ls) rfl sl_131 Tryz.underlying131 zero_135 rfl by_135 rfl rfl (by repeat (first | exact Take.here | apply Take.there)) ((by first | exact HasArr.own (by repeat (first | exact List.Mem.head _ | apply List.Mem.tail)) | exact HasArr.sh (by repeat (first | exact List.Mem.head _ | apply List.Mem.tail)))) (by intro _; rfl) flatLet (by simp; omega) (by decide)) (by rintro _ _ ⟨_, rfl, rfl⟩; exact (fun _ h => hold_sub (by repeat (first | exact Frm.nil | exact Take.here | apply Take.there | apply Frm.cons)) h)) ?_
            rintro _ _ ⟨v51, rfl, rfl⟩
            refine tr_e 16 rfl (by kernel_rfl) (eff_append (ys := [⟨last + 1, 1, r, 0, 0⟩]) rfl sl_131 Tryz.underlying131 zero_135 rfl by_135 rfl rfl (by repeat (first | exact Take.here | apply Take.there)) (HasArr.lit (by first | (left; (repeat (first | exact List.Mem.head _ | apply List.Mem.tail)); done) | (right; (repeat (first | exact List.Mem.head _ | apply List.Mem.tail)); done)) rfl rfl) (by intro _; rfl) flatLet (by simp; omega) (by decide)) (by rintro _ _ ⟨_, rfl, rfl⟩; exact (fun _ h => hold_sub (by repeat (first | exact Frm.nil | exact Take.here | apply Take.there | apply Frm.cons)) h)) ?_
            rintro _ _ ⟨v61, rfl, rfl⟩
            refine tr_shape (enc := encLet) (sz := 15) (v := v61) (by first | exact HasArr.own (by repeat (first | exact List.Mem.head _ | apply List.Mem.tail)) | exact HasArr.sh (by repeat (first | exact List.Mem.head _ | apply List.Mem.tail))) (by intro _; rfl) (fun hsh2 => ?_)
            obtain ⟨p2, q2, c2, rfl⟩ := shape_sl hsh2
            refine tr_q 17 rfl (by kernel_rfl) (by kernel_rfl) (by kernel_rfl) rfl (fun _ h => hold_sub (by repeat (first | exact Frm.nil | exact Take.here | apply Take.there | apply Frm.cons)) h) (ev_nil_ptr rfl) ?_
            refine tr_q 18 rfl (by kernel_rfl) (by kernel_rfl) (by kernel_rfl) rfl (fun _ h => hold_sub (by repeat (first | exact Frm.nil | exact Take.here | apply Take.there | apply Frm.cons)) h) (ev_fieldAddr fa_133_6 rfl rfl) ?_
            refine tr_e 19 rfl (by kernel_rfl) (eff_store rfl rfl rfl rfl sz_131 (by first | (simp [Flat]; done) | exact flatLet _ | exact flatTick _ | exact flatRow _ | exact flatEvt _ | exact flatI _) (by repeat (first | exact Upd.here | apply Upd.there)) (by repeat (first | exact LPut.nil | apply LPut.cons | apply LPut.succ))) (by rintro _ _ ⟨rfl, rfl⟩; exact (fun _ h => hold_sub (by repeat (first | exact Frm.nil | exact Take.here | apply Take.there | apply Frm.cons)) h)) ?_
            rintro _ _ ⟨rfl, rfl⟩
            refine tr_done (by kernel_rfl) ?_
            refine te_code ?_
            refine t_seq ?_
            refine t_region ?_
            refine tl_q rfl (ev_move rfl) ?_
            refine tl_q rfl (ev_nil_ptr rfl) ?_
            refine tl_q rfl (ev_fieldAddr fa_133_3 rfl rfl) ?_
            refine tl_q rfl (ev_load sc_3 rfl (by first | (left; (repeat (first | exact List.Mem.head _ | apply List.Mem.tail)); done) | (right; (repeat (first | exact List.Mem.head _ | apply List.Mem.tail)); done)) rfl) ?_
            refine tl_q rfl (ev_assign rfl) ?_
            refine tl_q rfl (ev_assign rfl) ?_
            refine tl_nil ?_
            refine te_code ?_
            refine t_ret ?_
            refine te_ret_k (pre := [o24 ob 40 1 9 _ _ 0 _, arr _ _ encLet _ _]) (res2 rfl rfl rfl) (by repeat (first | exact Frm.nil | exact Take.here | apply Take.there | apply Frm.cons)) ?_
            exact ⟨_, _, _, _, _, _, rfl, rfl, by omega, by omega, by simp⟩
          · refine to_e rfl (eff_ev rfl (ev_load sc_131 rfl (by first | (left; (repeat (first | exact List.Mem.head _ | apply List.Mem.tail)); done) | (right; (repeat (first | exact List.Mem.head _ | apply List.Mem.tail)); done)) rfl)) (by rintro _ _ ⟨rfl, rfl⟩; exact (fun _ h => hold_sub (by repeat (first | exact Frm.nil | exact Take.here | apply Take.there | apply Frm.cons)) h)) ?_
            rintro _ _ ⟨rfl, rfl⟩
            refine tr_e 1 rfl (by kernel_rfl) (eff_buildSl rfl bs_131_0 rfl (by repeat (first | exact FillR.nil | exact LPut.nil | apply LPut.cons | apply LPut.succ | apply FillR.cons rfl rfl rfl))) (by rintro _ _ ⟨_, rfl, rfl⟩; exact (fun _ h => hold_sub (by repeat (first | exact Frm.nil | exact Take.here | apply Take.there | apply Frm.cons)) h)) ?_
            rintro _ _ ⟨b46, rfl, rfl⟩
            refine tr_lit (T := 135) (sz := 15) (enc := encLet) [] rfl rfl rfl ?_
            refine tr_e 6 rfl (by kernel_rfl) (eff_append (ys := ls) rfl sl_131 Tryz.underlying131 zero_135 rfl by_135 rfl rfl (by repeat (first | exact Take.here | apply Take.there)) ((by first | exact HasArr.own (by repeat (first | exact List.Mem.head _ | apply List.Mem.tail)) | exact HasArr.sh (by repeat (first | exact List.Mem.head _ | apply List.Mem.tail)))) (by intro _; rfl) flatLet (by simp; omega) (by decide)) (by rintro _ _ ⟨_, rfl, rfl⟩; exact (fun _ h => hold_sub (by repeat (first | exact Frm.nil | exact Take.here | apply Take.there | apply Frm.cons)) h)) ?_
            rintro _ _ ⟨v51, rfl, rfl⟩
            refine tr_e 16 rfl (by kernel_rfl) (eff_append (ys := [⟨last + 1, 1, r, 0, 0⟩]) rfl sl_131 Tryz.underlying131 zero_135 rfl by_135 rfl rfl (by repeat (first | exact Take.here | apply Take.there)) (HasArr.lit (by first | (left; (repeat (first | exact List.Mem.head _ | apply List.Mem.tail)); done) | (right; (repeat (first | exact List.Mem.head _ | apply List.Mem.tail)); done)) rfl rfl) (by intro _; rfl) flatLet (by simp; omega) (by decide)) (by rintro _ _ ⟨_, rfl, rfl⟩; exact (fun _ h => hold_sub (by repeat (first | exact Frm.nil | exact Take.here | apply Take.there | apply Frm.cons)) h)) ?_
            rintro _ _ ⟨v61, rfl, rfl⟩
            refine tr_shape (enc := encLet) (sz := 15) (v := v61) (by first | exact HasArr.own (by repeat (first | exact List.Mem.head _ | apply List.Mem.tail)) | exact HasArr.sh (by repeat (first | exact List.Mem.head _ | apply List.Mem.tail))) (by intro _; rfl) (fun hsh2 => ?_)
            obtain ⟨p2, q2, c2, rfl⟩ := shape_sl hsh2
            refine tr_q 17 rfl (by kernel_rfl) (by kernel_rfl) (by kernel_rfl) rfl (fun _ h => hold_sub (by repeat (first | exact Frm.nil | exact Take.here | apply Take.there | apply Frm.cons)) h) (ev_nil_ptr rfl) ?_
            refine tr_q 18 rfl (by kernel_rfl) (by kernel_rfl) (by kernel_rfl) rfl (fun _ h => hold_sub (by repeat (first | exact Frm.nil | exact Take.here | apply Take.there | apply Frm.cons)) h) (ev_fieldAddr fa_133_6 rfl rfl) ?_
            refine tr_e 19 rfl (by kernel_rfl) (eff_store rfl rfl rfl rfl sz_131 (by first | (simp [Flat]; done) | exact flatLet _ | exact flatTick _ | exact flatRow _ | exact flatEvt _ | exact flatI _) (by repeat (first | exact Upd.here | apply Upd.there)) (by repeat (first | exact LPut.nil | apply LPut.cons | apply LPut.succ))) (by rintro _ _ ⟨rfl, rfl⟩; exact (fun _ h => hold_sub (by repeat (first | exact Frm.nil | exact Take.here | apply Take.there | apply Frm.cons)) h)) ?_
            rintro _ _ ⟨rfl, rfl⟩
            refine tr_done (by kernel_rfl) ?_
            refine te_code ?_
            refine t_seq ?_
            refine t_region ?_
            refine tl_q rfl (ev_move rfl) ?_
            refine tl_q rfl (ev_nil_ptr rfl) ?_
            refine tl_q rfl (ev_fieldAddr fa_133_3 rfl rfl) ?_
            refine tl_q rfl (ev_load sc_3 rfl (by first | (left; (repeat (first | exact List.Mem.head _ | apply List.Mem.tail)); done) | (right; (repeat (first | exact List.Mem.head _ | apply List.Mem.tail)); done)) rfl) ?_
            refine tl_q rfl (ev_assign rfl) ?_
            refine tl_q rfl (ev_assign rfl) ?_
            refine tl_nil ?_
            refine te_code ?_
            refine t_ret ?_
            refine te_ret_k (pre := [o24 ob 40 1 9 _ _ 0 _, arr _ _ encLet _ _]) (res2 rfl rfl rfl) (by repeat (first | exact Frm.nil | exact Take.here | apply Take.there | apply Frm.cons)) ?_
            exact ⟨_, _, _, _, _, _, rfl, rfl, by omega, by omega, by simp⟩

end Go.SL
