/- Contracts of the board's walk in order. -/
import Derived.Test.YtimhhegebkganaaGreatDoorProg
import Derived.Test.YtimhhegebkganaaGreatDoorGS
import Derived.Test.YtimhhegebkganaaGreatDoorSB
set_option linter.unusedSimpArgs false
set_option linter.unusedVariables false
set_option maxRecDepth 4000
namespace Go.SL
open Go.Proofs

theorem body_80 : (Tryz.prog.funcs[80]?).map (fun fn => fn.body.isSome && !(fn.name == "runtime.NumGoroutine")) = some true := by kernel_rfl
theorem body_47 : (Tryz.prog.funcs[47]?).map (fun fn => fn.body.isSome && !(fn.name == "runtime.NumGoroutine")) = some true := by kernel_rfl
theorem sc_183 : IsSc Tryz.prog 183 := isSc_of Tryz.underlying183 rfl
theorem bs_269_2 : SliceIs Tryz.prog 269 2 3 1 [.int .i64 0, .int .i64 0] := sliceIs_of Tryz.underlying269 info_3 rfl rfl (by decide) (by kernel_rfl)
theorem body_132 : (Tryz.prog.funcs[132]?).map (fun fn => fn.body.isSome && !(fn.name == "runtime.NumGoroutine")) = some true := by kernel_rfl
theorem body_77 : (Tryz.prog.funcs[77]?).map (fun fn => fn.body.isSome && !(fn.name == "runtime.NumGoroutine")) = some true := by kernel_rfl
theorem body_116 : (Tryz.prog.funcs[116]?).map (fun fn => fn.body.isSome && !(fn.name == "runtime.NumGoroutine")) = some true := by kernel_rfl
theorem ti_3_158 : ToInt Tryz.prog 3 158 .u64 := toInt_of Tryz.underlying3 Tryz.underlying158
theorem body_79 : (Tryz.prog.funcs[79]?).map (fun fn => fn.body.isSome && !(fn.name == "runtime.NumGoroutine")) = some true := by kernel_rfl
theorem body_78 : (Tryz.prog.funcs[78]?).map (fun fn => fn.body.isSome && !(fn.name == "runtime.NumGoroutine")) = some true := by kernel_rfl


instance : Inhabited Row := ⟨⟨0, ⟨⟨#[]⟩, ⟨#[]⟩, ⟨#[]⟩, 0, ⟨#[]⟩⟩, 0, 0, 0, false, ⟨#[]⟩⟩⟩
def cmpI (x y : Int) : Int := if x < y then -1 else if y < x then 1 else 0
def orI : List Int → Int
  | [] => 0
  | x :: r => if x ≠ 0 then x else orI r
theorem orI_drop (xs : List Int) (i : Nat) (h : ∀ j, j < i → xs[j]? = some 0) : orI xs = orI (xs.drop i) := by
  induction i generalizing xs with
  | zero => rfl
  | succ i ih =>
    cases xs with
    | nil => rfl
    | cons x r =>
      have h0 := h 0 (by omega)
      simp at h0; subst h0
      simp only [orI, List.drop_succ_cons]
      exact ih r fun j hj => by have := h (j + 1) (by omega); simpa using this

theorem isNaN_ct (x : Int) : CT Tryz.prog 80 #[.int .i64 x] [] (fun v M => v = .bool false ∧ M = []) := by
  refine t_fun (vs := [.int .i64 x]) (n := 6) Tryz.func80 rfl Tryz.ntmps80 rfl fun w0 F => ?_
  refine t_seq ?_
  refine t_region ?_
  refine tl_q rfl (ev_assign rfl) ?_
  refine tl_nil ?_
  refine te_code ?_
  refine t_seq ?_
  refine t_region ?_
  refine tl_q rfl (ev_move rfl) ?_
  refine tl_q rfl (ev_move rfl) ?_
  refine tl_q rfl (ev_neq rfl rfl) ?_
  refine tl_q rfl (ev_assign rfl) ?_
  refine tl_nil ?_
  refine te_code ?_
  refine t_ret ?_
  refine te_ret_k (pre := []) (res1 rfl rfl) (by repeat (first | exact Frm.nil | exact Take.here | apply Take.there | apply Frm.cons)) ?_
  exact ⟨by simp, rfl⟩

theorem compare_ct (x y : Int) : CT Tryz.prog 47 #[.int .i64 x, .int .i64 y] [] (fun v M => v = .int .i64 (cmpI x y) ∧ M = []) := by
  refine t_fun (vs := [.int .i64 x, .int .i64 y]) (n := 20) Tryz.func47 rfl Tryz.ntmps47 rfl fun w0 F => ?_
  refine t_seq ?_
  refine t_region ?_
  refine tl_q rfl (ev_assign rfl) ?_
  refine tl_nil ?_
  refine te_code ?_
  refine t_seq ?_
  refine t_region ?_
  refine tl_q rfl (ev_move rfl) ?_
  refine tl_e (eff_call rfl rfl body_80 rfl (by repeat (first | exact Frm.nil | exact Take.here | apply Take.there | apply Frm.cons)) (isNaN_ct _)) ?_
  rintro _ _ ⟨v8, _, ⟨rfl, rfl⟩, rfl, rfl⟩
  refine tl_q rfl (ev_assign rfl) ?_
  refine tl_nil ?_
  refine te_code ?_
  refine t_seq ?_
  refine t_region ?_
  refine tl_q rfl (ev_move rfl) ?_
  refine tl_e (eff_call rfl rfl body_80 rfl (by repeat (first | exact Frm.nil | exact Take.here | apply Take.there | apply Frm.cons)) (isNaN_ct _)) ?_
  rintro _ _ ⟨v10, _, ⟨rfl, rfl⟩, rfl, rfl⟩
  refine tl_q rfl (ev_assign rfl) ?_
  refine tl_nil ?_
  refine te_code ?_
  refine t_seq ?_
  refine t_seq ?_
  refine t_region ?_
  refine tl_q rfl (ev_move rfl) ?_
  refine tl_nil ?_
  refine te_code ?_
  refine t_cond_no rfl (by first | rfl | (simp; done) | (simp; omega) | simp_all) ?_
  refine t_skip ?_
  refine te_code ?_
  refine t_seq ?_
  refine t_seq ?_
  refine t_region ?_
  refine tl_q rfl (ev_move rfl) ?_
  refine tl_nil ?_
  refine te_code ?_
  refine t_cond_no rfl (by first | rfl | (simp; done) | (simp; omega) | simp_all) ?_
  refine t_skip ?_
  refine te_code ?_
  refine t_seq ?_
  refine t_seq ?_
  refine t_region ?_
  refine tl_q rfl (ev_move rfl) ?_
  refine tl_q rfl (ev_move rfl) ?_
  refine tl_q rfl (ev_lss rfl rfl) ?_
  refine tl_nil ?_
  refine te_code ?_
  refine t_cond_dec rfl (fun h => ?_) (fun h => ?_)
  · refine t_seq ?_
    refine t_region ?_
    refine tl_q rfl (ev_assign rfl) ?_
    refine tl_nil ?_
    refine te_code ?_
    refine t_ret ?_
    refine te_ret_k (pre := []) (res1 rfl rfl) (by repeat (first | exact Frm.nil | exact Take.here | apply Take.there | apply Frm.cons)) ?_
    exact ⟨by simp [cmpI, *]; try omega, rfl⟩
  · refine t_skip ?_
    refine te_code ?_
    refine t_seq ?_
    refine t_seq ?_
    refine t_region ?_
    refine tl_q rfl (ev_move rfl) ?_
    refine tl_q rfl (ev_move rfl) ?_
    refine tl_q rfl (ev_gtr rfl rfl) ?_
    refine tl_nil ?_
    refine te_code ?_
    refine t_cond_dec rfl (fun k => ?_) (fun k => ?_)
    · refine t_seq ?_
      refine t_region ?_
      refine tl_q rfl (ev_assign rfl) ?_
      refine tl_nil ?_
      refine te_code ?_
      refine t_ret ?_
      refine te_ret_k (pre := []) (res1 rfl rfl) (by repeat (first | exact Frm.nil | exact Take.here | apply Take.there | apply Frm.cons)) ?_
      exact ⟨by simp [cmpI, *]; try omega, rfl⟩
    · refine t_skip ?_
      refine te_code ?_
      refine t_seq ?_
      refine t_region ?_
      refine tl_q rfl (ev_assign rfl) ?_
      refine tl_nil ?_
      refine te_code ?_
      refine t_ret ?_
      refine te_ret_k (pre := []) (res1 rfl rfl) (by repeat (first | exact Frm.nil | exact Take.here | apply Take.there | apply Frm.cons)) ?_
      exact ⟨by simp [cmpI, *]; try omega, rfl⟩

theorem or_ct (xs : List Int) (v : Value) (hlen : xs.length ≤ 1000) : CT Tryz.prog 132 #[v] [arr 3 1 encI v xs] (fun v M => v = .int .i64 (orI xs) ∧ M = []) := by
  refine t_fun (vs := [v]) (n := 18) Tryz.func132 rfl Tryz.ntmps132 rfl fun w0 F => ?_
  refine t_shape (enc := encI) (sz := 1) (xs := xs) (by first | exact HasArr.own (by repeat (first | exact List.Mem.head _ | apply List.Mem.tail)) | exact HasArr.sh (by repeat (first | exact List.Mem.head _ | apply List.Mem.tail))) (by intro _; rfl) (fun hsh => ?_)
  refine t_seq ?_
  refine t_region ?_
  refine tl_q rfl (ev_assign rfl) ?_
  refine tl_nil ?_
  refine te_code ?_
  refine t_seq ?_
  refine t_region ?_
  refine tl_q rfl (ev_assign rfl) ?_
  refine tl_nil ?_
  refine te_code ?_
  refine t_seq ?_
  refine t_seq ?_
  refine t_region ?_
  refine tl_q rfl (ev_move rfl) ?_
  refine tl_q rfl (ev_len_sh sl_269 rfl (by assumption)) ?_
  refine tl_q rfl (ev_move rfl) ?_
  refine tl_nil ?_
  refine te_code ?_
  refine t_block ?_
  refine t_loop (α := Nat) (fun i => [(8, .int .i64 (i : Int)), (6, v), (7, .int .i64 (xs.length : Int)), (3, .int .i64 0)]) (fun _ => [arr 3 1 encI v xs]) (fun i => xs.length - i) (fun i => i ≤ xs.length ∧ ∀ j, j < i → xs[j]? = some 0) 0 ⟨by omega, by omega⟩ (by exact sub_cons rfl (sub_cons rfl (sub_cons rfl (sub_cons rfl (sub_nil))))) (fun _ h => hold_keep (by repeat (first | exact Frm.nil | exact Take.here | apply Take.there | apply Frm.cons)) h) ?_
  rintro i ⟨hi, hz⟩
  try dsimp only
  refine t_seq ?_
  refine t_region ?_
  refine tl_q rfl (ev_lss rfl rfl) ?_
  refine tl_nil ?_
  refine te_code ?_
  refine t_seq ?_
  refine t_cond_dec rfl (fun h0 => ?_) (fun h0 => ?_)
  · obtain ⟨u, hu⟩ := get_ex (show (i : Int) < xs.length by omega)
    refine t_skip ?_
    refine te_code ?_
    refine t_seq ?_
    refine t_block ?_
    refine t_seq ?_
    refine t_region ?_
    refine tl_q rfl (ev_at_sh sl_269 rfl rfl (by assumption) (by omega)) ?_
    refine tl_q rfl (ev_load_at0 sc_3 rfl (by first | exact HasArr.own (by repeat (first | exact List.Mem.head _ | apply List.Mem.tail)) | exact HasArr.sh (by repeat (first | exact List.Mem.head _ | apply List.Mem.tail))) (by intro _; rfl) (by assumption) (by rfl)) ?_
    refine tl_q rfl (ev_assign rfl) ?_
    refine tl_nil ?_
    refine te_code ?_
    refine t_seq ?_
    refine t_region ?_
    refine tl_q rfl (ev_move rfl) ?_
    refine tl_q rfl (ev_move rfl) ?_
    refine tl_q rfl (ev_neq rfl rfl) ?_
    refine tl_nil ?_
    refine te_code ?_
    refine t_cond_dec rfl (fun h1 => ?_) (fun h1 => ?_)
    · refine t_seq ?_
      refine t_region ?_
      refine tl_q rfl (ev_move rfl) ?_
      refine tl_q rfl (ev_assign rfl) ?_
      refine tl_nil ?_
      refine te_code ?_
      refine t_ret ?_
      refine te_ret_k (pre := []) (res1 rfl rfl) (by repeat (first | exact Frm.nil | exact Take.here | apply Take.there | apply Frm.cons)) ?_
      refine ⟨?_, rfl⟩
      rw [orI_drop xs i hz, List.drop_eq_getElem_cons (by omega)]
      have e : xs[i]'(by omega) = u := by have := List.getElem?_eq_getElem (show i < xs.length by omega); rw [hu] at this; simpa using this.symm
      simp [orI, e, h1]
    · refine t_skip ?_
      refine te_blk ?_
      refine te_code ?_
      refine t_region ?_
      refine tl_q rfl (ev_add' rfl rfl (by omega)) ?_
      refine tl_q rfl (ev_move rfl) ?_
      refine tl_nil ?_
      exact te_round (i + 1) (by exact sub_cons rfl (sub_cons rfl (sub_cons rfl (sub_cons rfl (sub_nil))))) (fun _ h => hold_keep (by repeat (first | exact Frm.nil | exact Take.here | apply Take.there | apply Frm.cons)) h) ⟨by omega, fun j hj => by by_cases e : j = i <;> simp_all <;> exact hz j (by omega)⟩ (by omega)
  · refine t_exit ?_
    refine te_exit_code ?_
    refine te_exit_rnd ?_
    refine te_exit_here ?_
    refine te_code ?_
    refine t_seq ?_
    refine t_region ?_
    refine tl_q rfl (ev_move rfl) ?_
    refine tl_q rfl (ev_assign rfl) ?_
    refine tl_nil ?_
    refine te_code ?_
    refine t_ret ?_
    refine te_ret_k (pre := []) (res1 rfl rfl) (by repeat (first | exact Frm.nil | exact Take.here | apply Take.there | apply Frm.cons)) ?_
    refine ⟨?_, rfl⟩
    rw [orI_drop xs i hz, List.drop_eq_nil_of_le (by omega)]; rfl

theorem byId_ct (x y : Row) : CT Tryz.prog 25 #[.agg (encRow x).toArray, .agg (encRow y).toArray] [] (fun v M => v = .int .i64 (cmpI x.id y.id) ∧ M = []) := by
  refine t_fun (vs := [.agg (encRow x).toArray, .agg (encRow y).toArray]) (n := 10) Tryz.func25 rfl Tryz.ntmps25 rfl fun w0 F => ?_
  refine t_seq ?_
  refine t_region ?_
  refine tl_e (eff_box rfl rfl rfl) ?_
  rintro _ _ ⟨b2, rfl, rfl⟩
  refine tl_e (eff_box rfl rfl rfl) ?_
  rintro _ _ ⟨b3, rfl, rfl⟩
  refine tl_q rfl (ev_assign rfl) ?_
  refine tl_nil ?_
  refine te_code ?_
  refine t_seq ?_
  refine t_region ?_
  refine tl_q rfl (ev_fieldAddr fa_45_0 rfl rfl) ?_
  refine tl_q rfl (ev_load sc_3 rfl (by first | (left; (repeat (first | exact List.Mem.head _ | apply List.Mem.tail)); done) | (right; (repeat (first | exact List.Mem.head _ | apply List.Mem.tail)); done)) rfl) ?_
  refine tl_q rfl (ev_fieldAddr fa_45_0 rfl rfl) ?_
  refine tl_q rfl (ev_load sc_3 rfl (by first | (left; (repeat (first | exact List.Mem.head _ | apply List.Mem.tail)); done) | (right; (repeat (first | exact List.Mem.head _ | apply List.Mem.tail)); done)) rfl) ?_
  refine tl_e (eff_call rfl rfl body_47 rfl (by repeat (first | exact Frm.nil | exact Take.here | apply Take.there | apply Frm.cons)) (compare_ct _ _)) ?_
  rintro _ _ ⟨v9, _, ⟨rfl, rfl⟩, rfl, rfl⟩
  refine tl_q rfl (ev_assign rfl) ?_
  refine tl_nil ?_
  refine te_code ?_
  refine t_ret ?_
  refine te_ret_k (pre := []) (res1 rfl rfl) (by repeat (first | exact Frm.nil | exact Take.here | apply Take.there | apply Frm.cons)) ?_
  exact ⟨rfl, rfl⟩


/-- by a number, the greatest first; then by the Ids -/
def byF (nF : Row → Int) (x y : Row) : Int := orI [cmpI (nF y) (nF x), cmpI x.id y.id]

theorem by1_ct (bf : Nat) (k : Nat) (nF : Row → Int) (hk : ∀ r, CT Tryz.prog k #[.agg (encRow r).toArray] [] (fun v M => v = .int .i64 (nF r) ∧ M = [])) (hbk : (Tryz.prog.funcs[k]?).map (fun fn => fn.body.isSome && !(fn.name == "runtime.NumGoroutine")) = some true) (x y : Row) : CT Tryz.prog 131 #[.agg (encRow x).toArray, .agg (encRow y).toArray, .pointer (some ⟨bf, 0, none⟩)] [imm bf (.cells #[.func (.func k) #[] #[]] 183 (0, 0))] (fun v M => v = .int .i64 (byF nF x y) ∧ M = [imm bf (.cells #[.func (.func k) #[] #[]] 183 (0, 0))]) := by
  refine t_fun (vs := [.agg (encRow x).toArray, .agg (encRow y).toArray, .pointer (some ⟨bf, 0, none⟩)]) (n := 20) Tryz.func131 rfl Tryz.ntmps131 rfl fun w0 F => ?_
  refine t_seq ?_
  refine t_region ?_
  refine tl_e (eff_box rfl rfl rfl) ?_
  rintro _ _ ⟨b3, rfl, rfl⟩
  refine tl_e (eff_box rfl rfl rfl) ?_
  rintro _ _ ⟨b4, rfl, rfl⟩
  refine tl_q rfl (ev_assign rfl) ?_
  refine tl_nil ?_
  refine te_code ?_
  refine t_seq ?_
  refine t_drawn_all follows ?_
  refine tr_q 0 rfl (by kernel_rfl) (by kernel_rfl) (by kernel_rfl) rfl (by intro _ h; repeat (first | exact h | replace h := Hold.drop h)) (ev_load sc_183 rfl (by first | (left; (repeat (first | exact List.Mem.head _ | apply List.Mem.tail)); done) | (right; (repeat (first | exact List.Mem.head _ | apply List.Mem.tail)); done)) rfl) ?_
  refine tr_q 1 rfl (by kernel_rfl) (by kernel_rfl) (by kernel_rfl) rfl (by intro _ h; repeat (first | exact h | replace h := Hold.drop h)) (ev_load_agg ag_45 rfl (by first | (left; (repeat (first | exact List.Mem.head _ | apply List.Mem.tail)); done) | (right; (repeat (first | exact List.Mem.head _ | apply List.Mem.tail)); done)) (by repeat (first | exact LDrop.zero | apply LDrop.succ)) (by repeat (first | exact LTake.zero | apply LTake.succ))) ?_
  refine tr_q 3 rfl (by kernel_rfl) (by kernel_rfl) (by kernel_rfl) rfl (by intro _ h; repeat (first | exact h | replace h := Hold.drop h)) (ev_load sc_183 rfl (by first | (left; (repeat (first | exact List.Mem.head _ | apply List.Mem.tail)); done) | (right; (repeat (first | exact List.Mem.head _ | apply List.Mem.tail)); done)) rfl) ?_
  refine tr_q 4 rfl (by kernel_rfl) (by kernel_rfl) (by kernel_rfl) rfl (by intro _ h; repeat (first | exact h | replace h := Hold.drop h)) (ev_load_agg ag_45 rfl (by first | (left; (repeat (first | exact List.Mem.head _ | apply List.Mem.tail)); done) | (right; (repeat (first | exact List.Mem.head _ | apply List.Mem.tail)); done)) (by repeat (first | exact LDrop.zero | apply LDrop.succ)) (by repeat (first | exact LTake.zero | apply LTake.succ))) ?_
  refine tr_q 7 rfl (by kernel_rfl) (by kernel_rfl) (by kernel_rfl) rfl (by intro _ h; repeat (first | exact h | replace h := Hold.drop h)) (ev_fieldAddr fa_45_0 rfl rfl) ?_
  refine tr_q 8 rfl (by kernel_rfl) (by kernel_rfl) (by kernel_rfl) rfl (by intro _ h; repeat (first | exact h | replace h := Hold.drop h)) (ev_load sc_3 rfl (by first | (left; (repeat (first | exact List.Mem.head _ | apply List.Mem.tail)); done) | (right; (repeat (first | exact List.Mem.head _ | apply List.Mem.tail)); done)) rfl) ?_
  refine tr_q 9 rfl (by kernel_rfl) (by kernel_rfl) (by kernel_rfl) rfl (by intro _ h; repeat (first | exact h | replace h := Hold.drop h)) (ev_fieldAddr fa_45_0 rfl rfl) ?_
  refine tr_q 10 rfl (by kernel_rfl) (by kernel_rfl) (by kernel_rfl) rfl (by intro _ h; repeat (first | exact h | replace h := Hold.drop h)) (ev_load sc_3 rfl (by first | (left; (repeat (first | exact List.Mem.head _ | apply List.Mem.tail)); done) | (right; (repeat (first | exact List.Mem.head _ | apply List.Mem.tail)); done)) rfl) ?_
  refine tr_e 2 rfl (by kernel_rfl) (eff_callv rfl rfl rfl hbk rfl (by repeat (first | exact Frm.nil | exact Take.here | apply Take.there | apply Frm.cons)) (hk y)) (by rintro _ _ ⟨_, _, ⟨rfl, rfl⟩, rfl, rfl⟩; exact (by intro _ h; repeat (first | exact h | replace h := Hold.drop h))) ?_
  rintro _ _ ⟨_, _, ⟨rfl, rfl⟩, rfl, rfl⟩
  refine tr_e 5 rfl (by kernel_rfl) (eff_callv rfl rfl rfl hbk rfl (by repeat (first | exact Frm.nil | exact Take.here | apply Take.there | apply Frm.cons)) (hk x)) (by rintro _ _ ⟨_, _, ⟨rfl, rfl⟩, rfl, rfl⟩; exact (by intro _ h; repeat (first | exact h | replace h := Hold.drop h))) ?_
  rintro _ _ ⟨_, _, ⟨rfl, rfl⟩, rfl, rfl⟩
  refine tr_e 6 rfl (by kernel_rfl) (eff_call rfl rfl body_47 rfl (by repeat (first | exact Frm.nil | exact Take.here | apply Take.there | apply Frm.cons)) (compare_ct _ _)) (by rintro _ _ ⟨_, _, ⟨rfl, rfl⟩, rfl, rfl⟩; exact (by intro _ h; repeat (first | exact h | replace h := Hold.drop h))) ?_
  rintro _ _ ⟨v12, _, ⟨rfl, rfl⟩, rfl, rfl⟩
  refine tr_e 11 rfl (by kernel_rfl) (eff_call rfl rfl body_47 rfl (by repeat (first | exact Frm.nil | exact Take.here | apply Take.there | apply Frm.cons)) (compare_ct _ _)) (by rintro _ _ ⟨_, _, ⟨rfl, rfl⟩, rfl, rfl⟩; exact (by intro _ h; repeat (first | exact h | replace h := Hold.drop h))) ?_
  rintro _ _ ⟨v17, _, ⟨rfl, rfl⟩, rfl, rfl⟩
  refine tr_e 12 rfl (by kernel_rfl) (eff_buildSl rfl bs_269_2 rfl (by repeat (first | exact FillR.nil | exact LPut.nil | apply LPut.cons | apply LPut.succ | apply FillR.cons rfl rfl rfl))) (by rintro _ _ ⟨_, rfl, rfl⟩; exact (by intro _ h; repeat (first | exact h | replace h := Hold.drop h))) ?_
  rintro _ _ ⟨b18, rfl, rfl⟩
  refine tr_lit (T := 3) (sz := 1) (enc := encI) [cmpI (nF y) (nF x), cmpI x.id y.id] rfl rfl rfl ?_
  refine tr_e 13 rfl (by kernel_rfl) (eff_call rfl rfl body_132 rfl (by repeat (first | exact Frm.nil | exact Take.here | apply Take.there | apply Frm.cons)) (or_ct _ _ (by simp))) (by rintro _ _ ⟨_, _, ⟨rfl, rfl⟩, rfl, rfl⟩; exact (by intro _ h; repeat (first | exact h | replace h := Hold.drop h))) ?_
  rintro _ _ ⟨v19, _, ⟨rfl, rfl⟩, rfl, rfl⟩
  refine tr_q 14 rfl (by kernel_rfl) (by kernel_rfl) (by kernel_rfl) rfl (by intro _ h; repeat (first | exact h | replace h := Hold.drop h)) (ev_assign rfl) ?_
  refine tr_done (by kernel_rfl) ?_
  refine te_code ?_
  refine t_ret ?_
  refine te_ret_k (pre := [imm bf (.cells #[.func (.func k) #[] #[]] 183 (0, 0))]) (res1 rfl rfl) (by repeat (first | exact Frm.nil | exact Take.here | apply Take.there | apply Frm.cons)) ?_
  exact ⟨rfl, rfl⟩

theorem Values_ct (m : Nat) : CT Tryz.prog 24 #[.map (some m)] [] (fun v M => ∃ mb, v = .func (.func 46) #[] #[.pointer (some ⟨mb, 0, none⟩)] ∧ M = [blk mb (.cells [.map (some m)].toArray 91 (0, 0))]) := by
  refine t_fun (vs := [.map (some m)]) (n := 4) Tryz.func24 rfl Tryz.ntmps24 rfl fun w0 F => ?_
  refine t_seq ?_
  refine t_region ?_
  refine tl_e (eff_box rfl rfl rfl) ?_
  rintro _ _ ⟨b1, rfl, rfl⟩
  refine tl_q rfl (ev_assign rfl) ?_
  refine tl_nil ?_
  refine te_code ?_
  refine t_seq ?_
  refine t_region ?_
  refine tl_q rfl (ev_makeFunc rfl rfl) ?_
  refine tl_q rfl (ev_assign rfl) ?_
  refine tl_nil ?_
  refine te_code ?_
  refine t_ret ?_
  refine te_ret (res1 rfl rfl) ?_
  exact ⟨_, rfl, rfl⟩

theorem Collect_ct (mb m : Nat) (rows : List (Int × Row)) (hl : rows.length ≤ 1000000) : CT Tryz.prog 44 #[.func (.func 46) #[] #[.pointer (some ⟨mb, 0, none⟩)]] [mp iI rowV m rows, blk mb (.cells [.map (some m)].toArray 91 (0, 0))] (fun v M => ∃ xs, xs.Perm (rows.map (·.2)) ∧ M = [arr 45 11 encRow v xs, mp iI rowV m rows, blk mb (.cells [.map (some m)].toArray 91 (0, 0))]) := by
  refine t_fun (vs := [.func (.func 46) #[] #[.pointer (some ⟨mb, 0, none⟩)]]) (n := 5) Tryz.func44 rfl Tryz.ntmps44 rfl fun w0 F => ?_
  refine t_seq ?_
  refine t_region ?_
  refine tl_q rfl (ev_assign rfl) ?_
  refine tl_nil ?_
  refine te_code ?_
  refine t_seq ?_
  refine t_region ?_
  refine tl_q rfl (ev_move rfl) ?_
  refine tl_e (eff_call rfl rfl body_77 rfl (by repeat (first | exact Frm.nil | exact Take.here | apply Take.there | apply Frm.cons)) (AppendSeq_ct _ _ _ (by omega))) ?_
  rintro _ _ ⟨v4, _, ⟨xs, hperm, rfl⟩, rfl, rfl⟩
  refine tl_q rfl (ev_assign rfl) ?_
  refine tl_nil ?_
  refine te_code ?_
  refine t_ret ?_
  refine te_ret_k (pre := [arr _ _ encRow _ xs, mp iI rowV m rows, blk mb (.cells [.map (some m)].toArray 91 (0, 0))]) (res1 rfl rfl) (by repeat (first | exact Frm.nil | exact Take.here | apply Take.there | apply Frm.cons)) ?_
  exact ⟨xs, hperm, rfl⟩


theorem bitsLen0_ct : CT Tryz.prog 79 #[.int .u64 0] [] (fun u M => u = .int .i64 0 ∧ M = []) := ct_same fun w F h => by
  have := Any.bits_Len (SlLaysF0.n15.bits (P := Tryz.prog) (ρ := Tryz.laysSort_ren) { Tryz.laysSort with }) 0 w (by omega) (by omega)
  exact this

theorem ins0_ct (a : Option Addr) (f : Value) : CT Tryz.prog 116 #[.slice a 0 0, .int .i64 0, .int .i64 0, f] [] (fun v M => v = .tuple #[] ∧ M = []) := by
  refine t_fun (vs := [.slice a 0 0, .int .i64 0, .int .i64 0, f]) (n := 53) Tryz.func116 rfl Tryz.ntmps116 rfl fun w0 F => ?_
  refine t_seq ?_
  refine t_region ?_
  refine tl_q rfl (ev_move rfl) ?_
  refine tl_q rfl (ev_add' rfl rfl (by omega)) ?_
  refine tl_q rfl (ev_assign rfl) ?_
  refine tl_nil ?_
  refine te_code ?_
  refine t_block ?_
  refine t_loop0 ?_
  refine t_seq ?_
  refine t_seq ?_
  refine t_region ?_
  refine tl_q rfl (ev_move rfl) ?_
  refine tl_q rfl (ev_move rfl) ?_
  refine tl_q rfl (ev_lss rfl rfl) ?_
  refine tl_nil ?_
  refine te_code ?_
  refine t_cond_no rfl (by first | rfl | (simp; done) | (simp; omega) | simp_all) ?_
  refine t_exit ?_
  refine te_exit_code ?_
  refine te_exit_rnd ?_
  refine te_exit_here ?_
  refine te_end_k (pre := []) (res0 rfl) (by repeat (first | exact Frm.nil | exact Take.here | apply Take.there | apply Frm.cons)) ?_
  exact ⟨rfl, rfl⟩

theorem pdq0_ct (a : Option Addr) (f : Value) : CT Tryz.prog 78 #[.slice a 0 0, .int .i64 0, .int .i64 0, .int .i64 0, f] [] (fun v M => v = .tuple #[] ∧ M = []) := by
  refine t_fun (vs := [.slice a 0 0, .int .i64 0, .int .i64 0, .int .i64 0, f]) (n := 148) Tryz.func78 rfl Tryz.ntmps78 rfl fun w0 F => ?_
  refine t_seq ?_
  refine t_region ?_
  refine tl_q rfl (ev_assign rfl) ?_
  refine tl_nil ?_
  refine te_code ?_
  refine t_seq ?_
  refine t_region ?_
  refine tl_q rfl (ev_assign rfl) ?_
  refine tl_nil ?_
  refine te_code ?_
  refine t_block ?_
  refine t_loop0 ?_
  refine t_block ?_
  refine t_seq ?_
  refine t_region ?_
  refine tl_q rfl (ev_move rfl) ?_
  refine tl_q rfl (ev_move rfl) ?_
  refine tl_q rfl (ev_sub' rfl rfl (by omega)) ?_
  refine tl_q rfl (ev_assign rfl) ?_
  refine tl_nil ?_
  refine te_code ?_
  refine t_seq ?_
  refine t_seq ?_
  refine t_region ?_
  refine tl_q rfl (ev_move rfl) ?_
  refine tl_q rfl (ev_leq rfl rfl) ?_
  refine tl_nil ?_
  refine te_code ?_
  refine t_cond_yes rfl (by first | rfl | (simp; done) | (simp; omega) | simp_all) ?_
  refine t_seq ?_
  refine t_region ?_
  refine tl_q rfl (ev_move rfl) ?_
  refine tl_q rfl (ev_move rfl) ?_
  refine tl_q rfl (ev_move rfl) ?_
  refine tl_q rfl (ev_move rfl) ?_
  refine tl_e (eff_call rfl rfl body_116 rfl (by repeat (first | exact Frm.nil | exact Take.here | apply Take.there | apply Frm.cons)) (ins0_ct _ _)) ?_
  rintro _ _ ⟨v30, _, ⟨rfl, rfl⟩, rfl, rfl⟩
  refine tl_nil ?_
  refine te_code ?_
  refine t_ret ?_
  refine te_ret_k (pre := []) (res0 rfl) (by repeat (first | exact Frm.nil | exact Take.here | apply Take.there | apply Frm.cons)) ?_
  exact ⟨rfl, rfl⟩

theorem Sort0_ct (a : Option Addr) (f : Value) : CT Tryz.prog 45 #[.slice a 0 0, f] [] (fun v M => v = .tuple #[] ∧ M = []) := by
  refine t_fun (vs := [.slice a 0 0, f]) (n := 14) Tryz.func45 rfl Tryz.ntmps45 rfl fun w0 F => ?_
  refine t_seq ?_
  refine t_region ?_
  refine tl_q rfl (ev_move rfl) ?_
  refine tl_q rfl (ev_len_slice ⟨_, sl_22.1⟩ rfl) ?_
  refine tl_q rfl (ev_assign rfl) ?_
  refine tl_nil ?_
  refine te_code ?_
  refine t_region ?_
  refine tl_q rfl (ev_move rfl) ?_
  refine tl_q rfl (ev_move rfl) ?_
  refine tl_q rfl (ev_move rfl) ?_
  refine tl_q rfl (ev_toInt ti_3_158 rfl) ?_
  refine tl_e (eff_call rfl rfl body_79 rfl (by repeat (first | exact Frm.nil | exact Take.here | apply Take.there | apply Frm.cons)) (bitsLen0_ct)) ?_
  rintro _ _ ⟨v11, _, ⟨rfl, rfl⟩, rfl, rfl⟩
  refine tl_q rfl (ev_move rfl) ?_
  refine tl_e (eff_call rfl rfl body_78 rfl (by repeat (first | exact Frm.nil | exact Take.here | apply Take.there | apply Frm.cons)) (pdq0_ct _ _)) ?_
  rintro _ _ ⟨v13, _, ⟨rfl, rfl⟩, rfl, rfl⟩
  refine tl_nil ?_
  refine te_end_k (pre := []) (res0 rfl) (by repeat (first | exact Frm.nil | exact Take.here | apply Take.there | apply Frm.cons)) ?_
  exact ⟨rfl, rfl⟩

end Go.SL
