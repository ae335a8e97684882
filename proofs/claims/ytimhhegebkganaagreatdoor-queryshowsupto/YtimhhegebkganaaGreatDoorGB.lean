/- Contracts of outbox.Put and of small readers. -/
import Derived.Test.YtimhhegebkganaaGreatDoorProg
import Derived.Test.YtimhhegebkganaaGreatDoorGG
import Derived.Test.YtimhhegebkganaaGreatDoorSl10
set_option linter.unusedSimpArgs false
set_option linter.unusedVariables false
set_option maxRecDepth 4000
namespace Go.SL
open Go.Proofs

theorem fa_109_6 : FldAt Tryz.prog 109 6 6 := fun a w => by kernel_rfl
theorem sc_107 : IsSc Tryz.prog 107 := isSc_of Tryz.underlying107 rfl
theorem fa_130_0 : FldAt Tryz.prog 130 0 0 := fun a w => by kernel_rfl
theorem info_130 : Tryz.prog.info? 130 = some Tryz.t130 := by kernel_rfl
theorem ag_130 : IsAg Tryz.prog 130 13 := isAg_of Tryz.underlying130 rfl info_130 rfl
theorem fa_109_1 : FldAt Tryz.prog 109 1 1 := fun a w => by kernel_rfl
theorem info_178 : Tryz.prog.info? 178 = some Tryz.t178 := by kernel_rfl
theorem st_178 : StructIs Tryz.prog 178 (fun j => ([(0, 13), (13, 1), (14, 1)] : List (Nat × Nat))[j]?) [.int .i64 0, .int .i64 0, .int .i64 0, .string ⟨#[]⟩, .string ⟨#[]⟩, .string ⟨#[]⟩, .int .i64 0, .string ⟨#[]⟩, .int .i64 0, .int .i64 0, .int .i64 0, .bool false, .string ⟨#[]⟩, .int .i64 0, .int .i64 0] := structIs_of (ss := [13, 1, 1]) Tryz.underlying178 info_178 rfl (by kernel_rfl)
theorem map_107 : IsMap Tryz.prog 107 3 178 := isMap_of Tryz.underlying107
theorem fa_109_0 : FldAt Tryz.prog 109 0 0 := fun a w => by kernel_rfl
theorem fa_109_4 : FldAt Tryz.prog 109 4 4 := fun a w => by kernel_rfl
theorem fa_109_3 : FldAt Tryz.prog 109 3 3 := fun a w => by kernel_rfl
theorem st_130 : StructIs Tryz.prog 130 (fun j => ([(0, 1), (1, 1), (2, 11)] : List (Nat × Nat))[j]?) [.int .i64 0, .int .i64 0, .int .i64 0, .string ⟨#[]⟩, .string ⟨#[]⟩, .string ⟨#[]⟩, .int .i64 0, .string ⟨#[]⟩, .int .i64 0, .int .i64 0, .int .i64 0, .bool false, .string ⟨#[]⟩] := structIs_of (ss := [1, 1, 11]) Tryz.underlying130 info_130 rfl (by kernel_rfl)
theorem body_43 : (Tryz.prog.funcs[43]?).map (fun fn => fn.body.isSome && !(fn.name == "runtime.NumGoroutine")) = some true := by kernel_rfl
theorem fa_86_1 : FldAt Tryz.prog 86 1 1 := fun a w => by kernel_rfl
theorem sc_29 : IsSc Tryz.prog 29 := isSc_of Tryz.underlying29 rfl
theorem fa_86_2 : FldAt Tryz.prog 86 2 2 := fun a w => by kernel_rfl
theorem sc_83 : IsSc Tryz.prog 83 := isSc_of Tryz.underlying83 rfl
theorem fa_86_4 : FldAt Tryz.prog 86 4 4 := fun a w => by kernel_rfl
theorem zero_84 : ZeroIs Tryz.prog 84 (.agg #[.int .i64 0, .int .i64 0, .int .i64 0, .int .i64 0, .int .i64 0, .int .i64 0, .int .i64 0]) := zeroIs_of info_84 rfl
theorem fa_86_5 : FldAt Tryz.prog 86 5 5 := fun a w => by kernel_rfl
theorem ag_84 : IsAg Tryz.prog 84 7 := isAg_of Tryz.underlying84 rfl info_84 rfl
theorem sz_84 : SizeIs Tryz.prog 84 7 := sizeIs_of info_84 rfl
theorem fa_252_3 : FldAt Tryz.prog 252 3 3 := fun a w => by kernel_rfl
theorem sc_249 : IsSc Tryz.prog 249 := isSc_of Tryz.underlying249 rfl
theorem map_249 : IsMap Tryz.prog 249 3 410 := isMap_of Tryz.underlying249


def tickL (seq what : Int) (r : Row) : List Value := [.int .i64 seq, .int .i64 what, .int .i64 r.id, .string r.e.node, .string r.e.cls, .string r.e.key, .int .i64 r.e.level, .string r.e.text, .int .i64 r.tally, .int .i64 r.first, .int .i64 r.last, .bool r.acked, .string r.by_]
def tickV (seq what : Int) (r : Row) : Value := .agg (tickL seq what r).toArray
theorem flatTick {seq what : Int} {r : Row} : ∀ c ∈ tickL seq what r, Flat c := by intro c hc; simp [tickL] at hc; rcases hc with rfl | rfl | rfl | rfl | rfl | rfl | rfl | rfl | rfl | rfl | rfl | rfl | rfl <;> trivial

theorem aset_len {K V : Type} [DecidableEq K] : ∀ (al : List (K × V)) (k : K) (u : V), (aset al k u).length ≤ al.length + 1
  | [], _, _ => by simp [aset]
  | (a, v) :: r, k, u => by
    have := aset_len r k u
    by_cases h : a = k <;> simp [aset, h] <;> omega

theorem outbox_put_ct (ob mo : Nat) (last refused : Int) (ls : List (Int × Letter)) (seq what : Int) (r : Row) : CT Tryz.prog 43 #[.pointer (some ⟨ob, 0, none⟩), .agg (tickL seq what r).toArray] [boxB ob mo last refused, mp iI letV mo ls] (fun v M => v = .tuple #[] ∧ M = [boxB ob mo last refused, mp iI letV mo (aset ls seq ⟨seq, what, r, 1, 0⟩)]) := by
  refine t_fun (vs := [.pointer (some ⟨ob, 0, none⟩), .agg (tickL seq what r).toArray]) (n := 16) Tryz.func43 rfl Tryz.ntmps43 rfl fun w0 F => ?_
  refine t_seq ?_
  refine t_region ?_
  refine tl_e (eff_box rfl rfl rfl) ?_
  rintro _ _ ⟨b3, rfl, rfl⟩
  refine tl_nil ?_
  refine te_code ?_
  refine t_drawn_wo (A := mp _ _ mo _) (by repeat (first | exact Take.here | apply Take.there)) follows ?_
  refine tr_q 0 rfl (by kernel_rfl) (by kernel_rfl) (by kernel_rfl) rfl (fun _ h => hold_wo (by repeat (first | exact Take.here | apply Take.there)) h) (ev_move rfl) ?_
  refine tr_q 1 rfl (by kernel_rfl) (by kernel_rfl) (by kernel_rfl) rfl (fun _ h => hold_wo (by repeat (first | exact Take.here | apply Take.there)) h) (ev_nil_ptr rfl) ?_
  refine tr_q 2 rfl (by kernel_rfl) (by kernel_rfl) (by kernel_rfl) rfl (fun _ h => hold_wo (by repeat (first | exact Take.here | apply Take.there)) h) (ev_fieldAddr fa_109_6 rfl rfl) ?_
  refine tr_q 3 rfl (by kernel_rfl) (by kernel_rfl) (by kernel_rfl) rfl (fun _ h => hold_wo (by repeat (first | exact Take.here | apply Take.there)) h) (ev_load sc_107 rfl (by first | (left; (repeat (first | exact List.Mem.head _ | apply List.Mem.tail)); done) | (right; (repeat (first | exact List.Mem.head _ | apply List.Mem.tail)); done)) rfl) ?_
  refine tr_q 4 rfl (by kernel_rfl) (by kernel_rfl) (by kernel_rfl) rfl (fun _ h => hold_wo (by repeat (first | exact Take.here | apply Take.there)) h) (ev_fieldAddr fa_130_0 rfl rfl) ?_
  refine tr_q 5 rfl (by kernel_rfl) (by kernel_rfl) (by kernel_rfl) rfl (fun _ h => hold_wo (by repeat (first | exact Take.here | apply Take.there)) h) (ev_load sc_3 rfl (by first | (left; (repeat (first | exact List.Mem.head _ | apply List.Mem.tail)); done) | (right; (repeat (first | exact List.Mem.head _ | apply List.Mem.tail)); done)) rfl) ?_
  refine tr_q 6 rfl (by kernel_rfl) (by kernel_rfl) (by kernel_rfl) rfl (fun _ h => hold_wo (by repeat (first | exact Take.here | apply Take.there)) h) (ev_load_agg ag_130 rfl (by first | (left; (repeat (first | exact List.Mem.head _ | apply List.Mem.tail)); done) | (right; (repeat (first | exact List.Mem.head _ | apply List.Mem.tail)); done)) (by repeat (first | exact LDrop.zero | apply LDrop.succ)) (by repeat (first | exact LTake.zero | apply LTake.succ))) ?_
  refine tr_q 7 rfl (by kernel_rfl) (by kernel_rfl) (by kernel_rfl) rfl (fun _ h => hold_wo (by repeat (first | exact Take.here | apply Take.there)) h) (ev_move rfl) ?_
  refine tr_q 8 rfl (by kernel_rfl) (by kernel_rfl) (by kernel_rfl) rfl (fun _ h => hold_wo (by repeat (first | exact Take.here | apply Take.there)) h) (ev_nil_ptr rfl) ?_
  refine tr_q 9 rfl (by kernel_rfl) (by kernel_rfl) (by kernel_rfl) rfl (fun _ h => hold_wo (by repeat (first | exact Take.here | apply Take.there)) h) (ev_fieldAddr fa_109_1 rfl rfl) ?_
  refine tr_q 10 rfl (by kernel_rfl) (by kernel_rfl) (by kernel_rfl) rfl (fun _ h => hold_wo (by repeat (first | exact Take.here | apply Take.there)) h) (ev_load sc_3 rfl (by first | (left; (repeat (first | exact List.Mem.head _ | apply List.Mem.tail)); done) | (right; (repeat (first | exact List.Mem.head _ | apply List.Mem.tail)); done)) rfl) ?_
  refine tr_q 11 rfl (by kernel_rfl) (by kernel_rfl) (by kernel_rfl) rfl (fun _ h => hold_wo (by repeat (first | exact Take.here | apply Take.there)) h) (ev_build st_178 rfl (by repeat (first | exact FillR.nil | exact LPut.nil | apply LPut.cons | apply LPut.succ | apply FillR.cons rfl rfl rfl))) ?_
  refine tr_e 12 rfl (by kernel_rfl) (eff_mapUpdate (k := seq) (v := (⟨seq, what, r, 1, 0⟩ : Letter)) ko_3 map_107 rfl (by repeat (first | exact Upd.here | apply Upd.there)) (by rfl) (by rfl)) (by rintro _ _ ⟨rfl, rfl⟩; exact (fun _ h => hold_wo (by repeat (first | exact Take.here | apply Take.there)) h)) ?_
  rintro _ _ ⟨rfl, rfl⟩
  refine tr_done (by kernel_rfl) ?_
  refine te_end_k (pre := [boxB ob mo last refused, mp _ _ mo _]) (res0 rfl) (by repeat (first | exact Frm.nil | exact Take.here | apply Take.there | apply Frm.cons)) ?_
  exact ⟨rfl, rfl⟩

theorem outbox_Put_ct (ob mo : Nat) (last refused : Int) (ls : List (Int × Letter)) (r : Row) (hr : okRow r) (h1 : 0 ≤ last ∧ last ≤ 1000) (h2 : 0 ≤ refused ∧ refused ≤ 1000) : CT Tryz.prog 21 #[.pointer (some ⟨ob, 0, none⟩), .int .i64 1, .agg (encRow r).toArray] [boxB ob mo last refused, mp iI letV mo ls] (fun v M => ∃ seq c last' ref' ls', v = .tuple #[.int .i64 seq, .int .i64 c] ∧ M = [boxB ob mo last' ref', mp iI letV mo ls'] ∧ (0 ≤ last' ∧ last' ≤ last + 1) ∧ (0 ≤ ref' ∧ ref' ≤ refused + 1) ∧ ls'.length ≤ ls.length + 1) := by
  refine t_fun (vs := [.pointer (some ⟨ob, 0, none⟩), .int .i64 1, .agg (encRow r).toArray]) (n := 58) Tryz.func21 rfl Tryz.ntmps21 rfl fun w0 F => ?_
  refine t_seq ?_
  refine t_region ?_
  refine tl_e (eff_box rfl rfl rfl) ?_
  rintro _ _ ⟨b5, rfl, rfl⟩
  refine tl_q rfl (ev_assign rfl) ?_
  refine tl_q rfl (ev_assign rfl) ?_
  refine tl_nil ?_
  refine te_code ?_
  refine t_seq ?_
  refine t_block ?_
  refine t_seq ?_
  refine t_region ?_
  refine tl_q rfl (ev_move rfl) ?_
  refine tl_q rfl (ev_lss rfl rfl) ?_
  refine tl_q rfl (ev_move rfl) ?_
  refine tl_is 11 (c := false) rfl (by first | rfl | (simp; done) | (simp; omega) | simp_all) ?_
  refine tl_guard rfl rfl rfl ?_
  refine tl_q rfl (ev_move rfl) ?_
  refine tl_guard rfl rfl rfl ?_
  refine tl_q rfl (ev_gtr rfl rfl) ?_
  refine tl_q rfl (ev_pick_false rfl rfl) ?_
  refine tl_q rfl (ev_move rfl) ?_
  refine tl_is 15 (c := false) rfl (by first | rfl | (simp; done) | (simp; omega) | simp_all) ?_
  refine tl_guard rfl rfl rfl ?_
  refine tl_q rfl (ev_load_agg ag_45 rfl (by first | (left; (repeat (first | exact List.Mem.head _ | apply List.Mem.tail)); done) | (right; (repeat (first | exact List.Mem.head _ | apply List.Mem.tail)); done)) (by repeat (first | exact LDrop.zero | apply LDrop.succ)) (by repeat (first | exact LTake.zero | apply LTake.succ))) ?_
  refine tl_guard rfl rfl rfl ?_
  refine tl_e (eff_call rfl rfl body_41 rfl (by repeat (first | exact Frm.nil | exact Take.here | apply Take.there | apply Frm.cons)) (board_Check_ct _ (by assumption))) ?_
  rintro _ _ ⟨v17, _, ⟨c, rfl, rfl, hc, hcid, hcg⟩, rfl, rfl⟩
  refine tl_guard rfl rfl rfl ?_
  refine tl_q rfl (ev_neq rfl rfl) ?_
  refine tl_q rfl (ev_pick_false rfl rfl) ?_
  refine tl_q rfl (ev_assign rfl) ?_
  refine tl_nil ?_
  refine te_code ?_
  refine t_cond_dec rfl (fun h0 => ?_) (fun h0 => ?_)
  · refine t_seq ?_
    refine t_region ?_
    refine tl_q rfl (ev_assign rfl) ?_
    refine tl_q rfl (ev_assign rfl) ?_
    refine tl_nil ?_
    refine te_code ?_
    refine t_ret ?_
    refine te_ret_k (pre := [boxB ob mo _ _, mp _ _ mo _]) (res2 rfl rfl rfl) (by repeat (first | exact Frm.nil | exact Take.here | apply Take.there | apply Frm.cons)) ?_
    exact ⟨_, _, _, _, _, rfl, rfl, by omega, by omega, by first | exact aset_len _ _ _ | omega⟩
  · refine t_seq ?_
    refine t_drawn_all follows ?_
    refine tr_q 0 rfl (by kernel_rfl) (by kernel_rfl) (by kernel_rfl) rfl (by intro _ h; repeat (first | exact h | replace h := Hold.drop h)) (ev_move rfl) ?_
    refine tr_q 1 rfl (by kernel_rfl) (by kernel_rfl) (by kernel_rfl) rfl (by intro _ h; repeat (first | exact h | replace h := Hold.drop h)) (ev_nil_ptr rfl) ?_
    refine tr_q 2 rfl (by kernel_rfl) (by kernel_rfl) (by kernel_rfl) rfl (by intro _ h; repeat (first | exact h | replace h := Hold.drop h)) (ev_fieldAddr fa_109_6 rfl rfl) ?_
    refine tr_q 3 rfl (by kernel_rfl) (by kernel_rfl) (by kernel_rfl) rfl (by intro _ h; repeat (first | exact h | replace h := Hold.drop h)) (ev_load sc_107 rfl (by first | (left; (repeat (first | exact List.Mem.head _ | apply List.Mem.tail)); done) | (right; (repeat (first | exact List.Mem.head _ | apply List.Mem.tail)); done)) rfl) ?_
    refine tr_q 4 rfl (by kernel_rfl) (by kernel_rfl) (by kernel_rfl) rfl (by intro _ h; repeat (first | exact h | replace h := Hold.drop h)) (ev_len_map map_107 rfl (by repeat (first | exact List.Mem.head _ | apply List.Mem.tail))) ?_
    refine tr_q 5 rfl (by kernel_rfl) (by kernel_rfl) (by kernel_rfl) rfl (by intro _ h; repeat (first | exact h | replace h := Hold.drop h)) (ev_move rfl) ?_
    refine tr_q 6 rfl (by kernel_rfl) (by kernel_rfl) (by kernel_rfl) rfl (by intro _ h; repeat (first | exact h | replace h := Hold.drop h)) (ev_nil_ptr rfl) ?_
    refine tr_q 7 rfl (by kernel_rfl) (by kernel_rfl) (by kernel_rfl) rfl (by intro _ h; repeat (first | exact h | replace h := Hold.drop h)) (ev_fieldAddr fa_109_0 rfl rfl) ?_
    refine tr_q 8 rfl (by kernel_rfl) (by kernel_rfl) (by kernel_rfl) rfl (by intro _ h; repeat (first | exact h | replace h := Hold.drop h)) (ev_load sc_3 rfl (by first | (left; (repeat (first | exact List.Mem.head _ | apply List.Mem.tail)); done) | (right; (repeat (first | exact List.Mem.head _ | apply List.Mem.tail)); done)) rfl) ?_
    refine tr_q 9 rfl (by kernel_rfl) (by kernel_rfl) (by kernel_rfl) rfl (by intro _ h; repeat (first | exact h | replace h := Hold.drop h)) (ev_geq rfl rfl) ?_
    refine tr_q 10 rfl (by kernel_rfl) (by kernel_rfl) (by kernel_rfl) rfl (by intro _ h; repeat (first | exact h | replace h := Hold.drop h)) (ev_assign rfl) ?_
    refine tr_done (by kernel_rfl) ?_
    refine te_code ?_
    refine t_cond_dec rfl (fun h1 => ?_) (fun h1 => ?_)
    · refine t_seq ?_
      refine t_region ?_
      refine tl_q rfl (ev_move rfl) ?_
      refine tl_q rfl (ev_nil_ptr rfl) ?_
      refine tl_q rfl (ev_fieldAddr fa_109_4 rfl rfl) ?_
      refine tl_q rfl (ev_load sc_3 rfl (by first | (left; (repeat (first | exact List.Mem.head _ | apply List.Mem.tail)); done) | (right; (repeat (first | exact List.Mem.head _ | apply List.Mem.tail)); done)) rfl) ?_
      refine tl_q rfl (ev_add' rfl rfl (by omega)) ?_
      refine tl_q rfl (ev_nil_ptr rfl) ?_
      refine tl_q rfl (ev_fieldAddr fa_109_4 rfl rfl) ?_
      refine tl_e (eff_store rfl rfl rfl rfl sz_3 (by first | (simp [Flat]; done) | exact flatTick _ | exact flatRow _ | exact flatEvt _ | exact flatI _) (by repeat (first | exact Upd.here | apply Upd.there)) (by repeat (first | exact LPut.nil | apply LPut.cons | apply LPut.succ))) ?_
      rintro _ _ ⟨rfl, rfl⟩
      refine tl_nil ?_
      refine te_code ?_
      refine t_seq ?_
      refine t_region ?_
      refine tl_q rfl (ev_assign rfl) ?_
      refine tl_q rfl (ev_assign rfl) ?_
      refine tl_nil ?_
      refine te_code ?_
      refine t_ret ?_
      refine te_ret_k (pre := [boxB ob mo _ _, mp _ _ mo _]) (res2 rfl rfl rfl) (by repeat (first | exact Frm.nil | exact Take.here | apply Take.there | apply Frm.cons)) ?_
      exact ⟨_, _, _, _, _, rfl, rfl, by omega, by omega, by first | exact aset_len _ _ _ | omega⟩
    · refine t_skip ?_
      refine te_blk ?_
      refine te_code ?_
      refine t_seq ?_
      refine t_region ?_
      refine tl_q rfl (ev_move rfl) ?_
      refine tl_q rfl (ev_nil_ptr rfl) ?_
      refine tl_q rfl (ev_fieldAddr fa_109_3 rfl rfl) ?_
      refine tl_q rfl (ev_load sc_3 rfl (by first | (left; (repeat (first | exact List.Mem.head _ | apply List.Mem.tail)); done) | (right; (repeat (first | exact List.Mem.head _ | apply List.Mem.tail)); done)) rfl) ?_
      refine tl_q rfl (ev_add' rfl rfl (by omega)) ?_
      refine tl_q rfl (ev_nil_ptr rfl) ?_
      refine tl_q rfl (ev_fieldAddr fa_109_3 rfl rfl) ?_
      refine tl_e (eff_store rfl rfl rfl rfl sz_3 (by first | (simp [Flat]; done) | exact flatTick _ | exact flatRow _ | exact flatEvt _ | exact flatI _) (by repeat (first | exact Upd.here | apply Upd.there)) (by repeat (first | exact LPut.nil | apply LPut.cons | apply LPut.succ))) ?_
      rintro _ _ ⟨rfl, rfl⟩
      refine tl_nil ?_
      refine te_code ?_
      refine t_seq ?_
      refine t_drawn_wo (A := mp _ _ mo _) (by repeat (first | exact Take.here | apply Take.there)) follows ?_
      refine tr_q 0 rfl (by kernel_rfl) (by kernel_rfl) (by kernel_rfl) rfl (fun _ h => hold_sub (by repeat (first | exact Frm.nil | exact Take.here | apply Take.there | apply Frm.cons)) h) (ev_move rfl) ?_
      refine tr_q 1 rfl (by kernel_rfl) (by kernel_rfl) (by kernel_rfl) rfl (fun _ h => hold_sub (by repeat (first | exact Frm.nil | exact Take.here | apply Take.there | apply Frm.cons)) h) (ev_move rfl) ?_
      refine tr_q 2 rfl (by kernel_rfl) (by kernel_rfl) (by kernel_rfl) rfl (fun _ h => hold_sub (by repeat (first | exact Frm.nil | exact Take.here | apply Take.there | apply Frm.cons)) h) (ev_nil_ptr rfl) ?_
      refine tr_q 3 rfl (by kernel_rfl) (by kernel_rfl) (by kernel_rfl) rfl (fun _ h => hold_sub (by repeat (first | exact Frm.nil | exact Take.here | apply Take.there | apply Frm.cons)) h) (ev_fieldAddr fa_109_3 rfl rfl) ?_
      refine tr_q 4 rfl (by kernel_rfl) (by kernel_rfl) (by kernel_rfl) rfl (fun _ h => hold_sub (by repeat (first | exact Frm.nil | exact Take.here | apply Take.there | apply Frm.cons)) h) (ev_load sc_3 rfl (by first | (left; (repeat (first | exact List.Mem.head _ | apply List.Mem.tail)); done) | (right; (repeat (first | exact List.Mem.head _ | apply List.Mem.tail)); done)) rfl) ?_
      refine tr_q 5 rfl (by kernel_rfl) (by kernel_rfl) (by kernel_rfl) rfl (fun _ h => hold_sub (by repeat (first | exact Frm.nil | exact Take.here | apply Take.there | apply Frm.cons)) h) (ev_move rfl) ?_
      refine tr_q 6 rfl (by kernel_rfl) (by kernel_rfl) (by kernel_rfl) rfl (fun _ h => hold_sub (by repeat (first | exact Frm.nil | exact Take.here | apply Take.there | apply Frm.cons)) h) (ev_load_agg ag_45 rfl (by first | (left; (repeat (first | exact List.Mem.head _ | apply List.Mem.tail)); done) | (right; (repeat (first | exact List.Mem.head _ | apply List.Mem.tail)); done)) (by repeat (first | exact LDrop.zero | apply LDrop.succ)) (by repeat (first | exact LTake.zero | apply LTake.succ))) ?_
      refine tr_q 7 rfl (by kernel_rfl) (by kernel_rfl) (by kernel_rfl) rfl (fun _ h => hold_sub (by repeat (first | exact Frm.nil | exact Take.here | apply Take.there | apply Frm.cons)) h) (ev_build st_130 rfl (by repeat (first | exact FillR.nil | exact LPut.nil | apply LPut.cons | apply LPut.succ | apply FillR.cons rfl rfl rfl))) ?_
      refine tr_e 8 rfl (by kernel_rfl) (eff_call rfl rfl body_43 rfl (by repeat (first | exact Frm.nil | exact Take.here | apply Take.there | apply Frm.cons)) (outbox_put_ct _ _ _ _ _ _ _ _)) (by rintro _ _ ⟨_, _, ⟨rfl, rfl⟩, rfl, rfl⟩; exact (fun _ h => hold_sub (by repeat (first | exact Frm.nil | exact Take.here | apply Take.there | apply Frm.cons)) h)) ?_
      rintro _ _ ⟨v53, _, ⟨rfl, rfl⟩, rfl, rfl⟩
      refine tr_done (by kernel_rfl) ?_
      refine te_code ?_
      refine t_seq ?_
      refine t_region ?_
      refine tl_q rfl (ev_move rfl) ?_
      refine tl_q rfl (ev_nil_ptr rfl) ?_
      refine tl_q rfl (ev_fieldAddr fa_109_3 rfl rfl) ?_
      refine tl_q rfl (ev_load sc_3 rfl (by first | (left; (repeat (first | exact List.Mem.head _ | apply List.Mem.tail)); done) | (right; (repeat (first | exact List.Mem.head _ | apply List.Mem.tail)); done)) rfl) ?_
      refine tl_q rfl (ev_assign rfl) ?_
      refine tl_q rfl (ev_assign rfl) ?_
      refine tl_nil ?_
      refine te_code ?_
      refine t_ret ?_
      refine te_ret_k (pre := [boxB ob mo _ _, mp _ _ mo _]) (res2 rfl rfl rfl) (by repeat (first | exact Frm.nil | exact Take.here | apply Take.there | apply Frm.cons)) ?_
      exact ⟨_, _, _, _, _, rfl, rfl, by omega, by omega, by first | exact aset_len _ _ _ | omega⟩


def engB (eb bb hh : Nat) : Asrt := blk eb (.cells [.slice none 0 0, .pointer (some ⟨bb, 0, none⟩), .pointer (some ⟨hh, 0, none⟩), .int .i64 0, .int .i64 0, .int .i64 0, .int .i64 0, .int .i64 0, .int .i64 0, .int .i64 0, .int .i64 0, .int .i64 0].toArray 86 (0, 0))
def holdB (hh hb m2 m3 : Nat) : Asrt := blk hh (.cells [.pointer (some ⟨hb, 0, none⟩), .int .i64 5, .int .i64 1, .map (some m2), .map (some m3)].toArray 252 (0, 0))

theorem eng_Board_ct (eb bb hh : Nat) : CT Tryz.prog 7 #[.pointer (some ⟨eb, 0, none⟩)] [engB eb bb hh] (fun v M => v = .pointer (some ⟨bb, 0, none⟩) ∧ M = [engB eb bb hh]) := by
  refine t_fun (vs := [.pointer (some ⟨eb, 0, none⟩)]) (n := 7) Tryz.func7 rfl Tryz.ntmps7 rfl fun w0 F => ?_
  refine t_seq ?_
  refine t_region ?_
  refine tl_q rfl (ev_assign rfl) ?_
  refine tl_nil ?_
  refine te_code ?_
  refine t_seq ?_
  refine t_region ?_
  refine tl_q rfl (ev_move rfl) ?_
  refine tl_q rfl (ev_nil_ptr rfl) ?_
  refine tl_q rfl (ev_fieldAddr fa_86_1 rfl rfl) ?_
  refine tl_q rfl (ev_load sc_29 rfl (by first | (left; (repeat (first | exact List.Mem.head _ | apply List.Mem.tail)); done) | (right; (repeat (first | exact List.Mem.head _ | apply List.Mem.tail)); done)) rfl) ?_
  refine tl_q rfl (ev_assign rfl) ?_
  refine tl_nil ?_
  refine te_code ?_
  refine t_ret ?_
  refine te_ret_k (pre := [engB eb bb hh]) (res1 rfl rfl) (by repeat (first | exact Frm.nil | exact Take.here | apply Take.there | apply Frm.cons)) ?_
  exact ⟨rfl, rfl⟩

theorem eng_Hold_ct (eb bb hh : Nat) : CT Tryz.prog 92 #[.pointer (some ⟨eb, 0, none⟩)] [engB eb bb hh] (fun v M => v = .pointer (some ⟨hh, 0, none⟩) ∧ M = [engB eb bb hh]) := by
  refine t_fun (vs := [.pointer (some ⟨eb, 0, none⟩)]) (n := 7) Tryz.func92 rfl Tryz.ntmps92 rfl fun w0 F => ?_
  refine t_seq ?_
  refine t_region ?_
  refine tl_q rfl (ev_assign rfl) ?_
  refine tl_nil ?_
  refine te_code ?_
  refine t_seq ?_
  refine t_region ?_
  refine tl_q rfl (ev_move rfl) ?_
  refine tl_q rfl (ev_nil_ptr rfl) ?_
  refine tl_q rfl (ev_fieldAddr fa_86_2 rfl rfl) ?_
  refine tl_q rfl (ev_load sc_83 rfl (by first | (left; (repeat (first | exact List.Mem.head _ | apply List.Mem.tail)); done) | (right; (repeat (first | exact List.Mem.head _ | apply List.Mem.tail)); done)) rfl) ?_
  refine tl_q rfl (ev_assign rfl) ?_
  refine tl_nil ?_
  refine te_code ?_
  refine t_ret ?_
  refine te_ret_k (pre := [engB eb bb hh]) (res1 rfl rfl) (by repeat (first | exact Frm.nil | exact Take.here | apply Take.there | apply Frm.cons)) ?_
  exact ⟨rfl, rfl⟩

theorem eng_Now_ct (eb bb hh : Nat) : CT Tryz.prog 90 #[.pointer (some ⟨eb, 0, none⟩)] [engB eb bb hh] (fun v M => v = .int .i64 0 ∧ M = [engB eb bb hh]) := by
  refine t_fun (vs := [.pointer (some ⟨eb, 0, none⟩)]) (n := 7) Tryz.func90 rfl Tryz.ntmps90 rfl fun w0 F => ?_
  refine t_seq ?_
  refine t_region ?_
  refine tl_q rfl (ev_assign rfl) ?_
  refine tl_nil ?_
  refine te_code ?_
  refine t_seq ?_
  refine t_region ?_
  refine tl_q rfl (ev_move rfl) ?_
  refine tl_q rfl (ev_nil_ptr rfl) ?_
  refine tl_q rfl (ev_fieldAddr fa_86_4 rfl rfl) ?_
  refine tl_q rfl (ev_load sc_3 rfl (by first | (left; (repeat (first | exact List.Mem.head _ | apply List.Mem.tail)); done) | (right; (repeat (first | exact List.Mem.head _ | apply List.Mem.tail)); done)) rfl) ?_
  refine tl_q rfl (ev_assign rfl) ?_
  refine tl_nil ?_
  refine te_code ?_
  refine t_ret ?_
  refine te_ret_k (pre := [engB eb bb hh]) (res1 rfl rfl) (by repeat (first | exact Frm.nil | exact Take.here | apply Take.there | apply Frm.cons)) ?_
  exact ⟨rfl, rfl⟩

theorem eng_Tally_ct (eb bb hh : Nat) : CT Tryz.prog 89 #[.pointer (some ⟨eb, 0, none⟩)] [engB eb bb hh] (fun v M => v = .agg #[.int .i64 0, .int .i64 0, .int .i64 0, .int .i64 0, .int .i64 0, .int .i64 0, .int .i64 0] ∧ M = [engB eb bb hh]) := by
  refine t_fun (vs := [.pointer (some ⟨eb, 0, none⟩)]) (n := 7) Tryz.func89 rfl Tryz.ntmps89 rfl fun w0 F => ?_
  refine t_seq ?_
  refine t_region ?_
  refine tl_e (eff_alloc rfl zero_84 rfl) ?_
  rintro _ _ ⟨b2, rfl, rfl⟩
  refine tl_nil ?_
  refine te_code ?_
  refine t_seq ?_
  refine t_region ?_
  refine tl_q rfl (ev_move rfl) ?_
  refine tl_q rfl (ev_nil_ptr rfl) ?_
  refine tl_q rfl (ev_fieldAddr fa_86_5 rfl rfl) ?_
  refine tl_q rfl (ev_load_agg ag_84 rfl (by first | (left; (repeat (first | exact List.Mem.head _ | apply List.Mem.tail)); done) | (right; (repeat (first | exact List.Mem.head _ | apply List.Mem.tail)); done)) (by repeat (first | exact LDrop.zero | apply LDrop.succ)) (by repeat (first | exact LTake.zero | apply LTake.succ))) ?_
  refine tl_e (eff_store rfl rfl rfl rfl sz_84 (by first | (simp [Flat]; done) | exact flatTick _ | exact flatRow _ | exact flatEvt _ | exact flatI _) (by repeat (first | exact Upd.here | apply Upd.there)) (by repeat (first | exact LPut.nil | apply LPut.cons | apply LPut.succ))) ?_
  rintro _ _ ⟨rfl, rfl⟩
  refine tl_nil ?_
  refine te_code ?_
  refine t_ret ?_
  refine te_ret_k (pre := [engB eb bb hh]) (resx rfl (RL.cons (resIs_cell (x := .tmp 0) (ev_load_agg ag_84 rfl (by first | (left; (repeat (first | exact List.Mem.head _ | apply List.Mem.tail)); done) | (right; (repeat (first | exact List.Mem.head _ | apply List.Mem.tail)); done)) (by repeat (first | exact LDrop.zero | apply LDrop.succ)) (by repeat (first | exact LTake.zero | apply LTake.succ))) _ rfl) (RL.nil))) (by repeat (first | exact Frm.nil | exact Take.here | apply Take.there | apply Frm.cons)) ?_
  exact ⟨rfl, rfl⟩

theorem hold_Len_ct (hh hb m2 m3 : Nat) : CT Tryz.prog 93 #[.pointer (some ⟨hh, 0, none⟩)] [holdB hh hb m2 m3, mp iI (fun x : Value => x) m2 []] (fun v M => v = .int .i64 0 ∧ M = [holdB hh hb m2 m3, mp iI (fun x : Value => x) m2 []]) := by
  refine t_fun (vs := [.pointer (some ⟨hh, 0, none⟩)]) (n := 8) Tryz.func93 rfl Tryz.ntmps93 rfl fun w0 F => ?_
  refine t_seq ?_
  refine t_region ?_
  refine tl_q rfl (ev_assign rfl) ?_
  refine tl_nil ?_
  refine te_code ?_
  refine t_seq ?_
  refine t_region ?_
  refine tl_q rfl (ev_move rfl) ?_
  refine tl_q rfl (ev_nil_ptr rfl) ?_
  refine tl_q rfl (ev_fieldAddr fa_252_3 rfl rfl) ?_
  refine tl_q rfl (ev_load sc_249 rfl (by first | (left; (repeat (first | exact List.Mem.head _ | apply List.Mem.tail)); done) | (right; (repeat (first | exact List.Mem.head _ | apply List.Mem.tail)); done)) rfl) ?_
  refine tl_q rfl (ev_len_map map_249 rfl (by repeat (first | exact List.Mem.head _ | apply List.Mem.tail))) ?_
  refine tl_q rfl (ev_assign rfl) ?_
  refine tl_nil ?_
  refine te_code ?_
  refine t_ret ?_
  refine te_ret_k (pre := [holdB hh hb m2 m3, mp _ _ m2 _]) (res1 rfl rfl) (by repeat (first | exact Frm.nil | exact Take.here | apply Take.there | apply Frm.cons)) ?_
  exact ⟨rfl, rfl⟩

theorem board_Len_ct (bb m1 m2 : Nat) (most next : Int) (rows : List (Int × Row)) : CT Tryz.prog 91 #[.pointer (some ⟨bb, 0, none⟩)] [boardB bb m1 m2 most next, mp iI rowV m1 rows] (fun v M => v = .int .i64 (rows.length : Int) ∧ M = [boardB bb m1 m2 most next, mp iI rowV m1 rows]) := by
  refine t_fun (vs := [.pointer (some ⟨bb, 0, none⟩)]) (n := 8) Tryz.func91 rfl Tryz.ntmps91 rfl fun w0 F => ?_
  refine t_seq ?_
  refine t_region ?_
  refine tl_q rfl (ev_assign rfl) ?_
  refine tl_nil ?_
  refine te_code ?_
  refine t_seq ?_
  refine t_region ?_
  refine tl_q rfl (ev_move rfl) ?_
  refine tl_q rfl (ev_nil_ptr rfl) ?_
  refine tl_q rfl (ev_fieldAddr fa_94_2 rfl rfl) ?_
  refine tl_q rfl (ev_load sc_91 rfl (by first | (left; (repeat (first | exact List.Mem.head _ | apply List.Mem.tail)); done) | (right; (repeat (first | exact List.Mem.head _ | apply List.Mem.tail)); done)) rfl) ?_
  refine tl_q rfl (ev_len_map map_91 rfl (by repeat (first | exact List.Mem.head _ | apply List.Mem.tail))) ?_
  refine tl_q rfl (ev_assign rfl) ?_
  refine tl_nil ?_
  refine te_code ?_
  refine t_ret ?_
  refine te_ret_k (pre := [boardB bb m1 m2 most next, mp _ _ m1 _]) (res1 rfl rfl) (by repeat (first | exact Frm.nil | exact Take.here | apply Take.there | apply Frm.cons)) ?_
  exact ⟨rfl, rfl⟩

theorem outbox_Len_ct (ob mo : Nat) (last refused : Int) (ls : List (Int × Letter)) : CT Tryz.prog 15 #[.pointer (some ⟨ob, 0, none⟩)] [boxB ob mo last refused, mp iI letV mo ls] (fun v M => v = .int .i64 (ls.length : Int) ∧ M = [boxB ob mo last refused, mp iI letV mo ls]) := by
  refine t_fun (vs := [.pointer (some ⟨ob, 0, none⟩)]) (n := 8) Tryz.func15 rfl Tryz.ntmps15 rfl fun w0 F => ?_
  refine t_seq ?_
  refine t_region ?_
  refine tl_q rfl (ev_assign rfl) ?_
  refine tl_nil ?_
  refine te_code ?_
  refine t_seq ?_
  refine t_region ?_
  refine tl_q rfl (ev_move rfl) ?_
  refine tl_q rfl (ev_nil_ptr rfl) ?_
  refine tl_q rfl (ev_fieldAddr fa_109_6 rfl rfl) ?_
  refine tl_q rfl (ev_load sc_107 rfl (by first | (left; (repeat (first | exact List.Mem.head _ | apply List.Mem.tail)); done) | (right; (repeat (first | exact List.Mem.head _ | apply List.Mem.tail)); done)) rfl) ?_
  refine tl_q rfl (ev_len_map map_107 rfl (by repeat (first | exact List.Mem.head _ | apply List.Mem.tail))) ?_
  refine tl_q rfl (ev_assign rfl) ?_
  refine tl_nil ?_
  refine te_code ?_
  refine t_ret ?_
  refine te_ret_k (pre := [boxB ob mo last refused, mp _ _ mo _]) (res1 rfl rfl) (by repeat (first | exact Frm.nil | exact Take.here | apply Take.there | apply Frm.cons)) ?_
  exact ⟨rfl, rfl⟩

theorem outbox_Last_ct (ob mo : Nat) (last refused : Int) : CT Tryz.prog 94 #[.pointer (some ⟨ob, 0, none⟩)] [boxB ob mo last refused] (fun v M => v = .int .i64 last ∧ M = [boxB ob mo last refused]) := by
  refine t_fun (vs := [.pointer (some ⟨ob, 0, none⟩)]) (n := 7) Tryz.func94 rfl Tryz.ntmps94 rfl fun w0 F => ?_
  refine t_seq ?_
  refine t_region ?_
  refine tl_q rfl (ev_assign rfl) ?_
  refine tl_nil ?_
  refine te_code ?_
  refine t_seq ?_
  refine t_region ?_
  refine tl_q rfl (ev_move rfl) ?_
  refine tl_q rfl (ev_nil_ptr rfl) ?_
  refine tl_q rfl (ev_fieldAddr fa_109_3 rfl rfl) ?_
  refine tl_q rfl (ev_load sc_3 rfl (by first | (left; (repeat (first | exact List.Mem.head _ | apply List.Mem.tail)); done) | (right; (repeat (first | exact List.Mem.head _ | apply List.Mem.tail)); done)) rfl) ?_
  refine tl_q rfl (ev_assign rfl) ?_
  refine tl_nil ?_
  refine te_code ?_
  refine t_ret ?_
  refine te_ret_k (pre := [boxB ob mo last refused]) (res1 rfl rfl) (by repeat (first | exact Frm.nil | exact Take.here | apply Take.there | apply Frm.cons)) ?_
  exact ⟨rfl, rfl⟩

theorem outbox_Refused_ct (ob mo : Nat) (last refused : Int) : CT Tryz.prog 95 #[.pointer (some ⟨ob, 0, none⟩)] [boxB ob mo last refused] (fun v M => v = .int .i64 refused ∧ M = [boxB ob mo last refused]) := by
  refine t_fun (vs := [.pointer (some ⟨ob, 0, none⟩)]) (n := 7) Tryz.func95 rfl Tryz.ntmps95 rfl fun w0 F => ?_
  refine t_seq ?_
  refine t_region ?_
  refine tl_q rfl (ev_assign rfl) ?_
  refine tl_nil ?_
  refine te_code ?_
  refine t_seq ?_
  refine t_region ?_
  refine tl_q rfl (ev_move rfl) ?_
  refine tl_q rfl (ev_nil_ptr rfl) ?_
  refine tl_q rfl (ev_fieldAddr fa_109_4 rfl rfl) ?_
  refine tl_q rfl (ev_load sc_3 rfl (by first | (left; (repeat (first | exact List.Mem.head _ | apply List.Mem.tail)); done) | (right; (repeat (first | exact List.Mem.head _ | apply List.Mem.tail)); done)) rfl) ?_
  refine tl_q rfl (ev_assign rfl) ?_
  refine tl_nil ?_
  refine te_code ?_
  refine t_ret ?_
  refine te_ret_k (pre := [boxB ob mo last refused]) (res1 rfl rfl) (by repeat (first | exact Frm.nil | exact Take.here | apply Take.there | apply Frm.cons)) ?_
  exact ⟨rfl, rfl⟩

end Go.SL
