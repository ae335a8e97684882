/- Contracts of norm. -/
import Derived.Test.YtimhhegebkganaaGreatDoorProg
import Derived.Test.YtimhhegebkganaaGreatDoorGD
set_option linter.unusedSimpArgs false
set_option linter.unusedVariables false
set_option maxRecDepth 4000
namespace Go.SL
open Go.Proofs

theorem body_215 : (Tryz.prog.funcs[215]?).map (fun fn => fn.body.isSome && !(fn.name == "runtime.NumGoroutine")) = some true := by kernel_rfl
theorem body_169 : (Tryz.prog.funcs[169]?).map (fun fn => fn.body.isSome && !(fn.name == "runtime.NumGoroutine")) = some true := by kernel_rfl
theorem body_167 : (Tryz.prog.funcs[167]?).map (fun fn => fn.body.isSome && !(fn.name == "runtime.NumGoroutine")) = some true := by kernel_rfl
theorem body_168 : (Tryz.prog.funcs[168]?).map (fun fn => fn.body.isSome && !(fn.name == "runtime.NumGoroutine")) = some true := by kernel_rfl
theorem fa_43_0 : FldAt Tryz.prog 43 0 0 := fun a w => by kernel_rfl
theorem sc_9 : IsSc Tryz.prog 9 := isSc_of Tryz.underlying9 rfl
theorem fa_43_1 : FldAt Tryz.prog 43 1 1 := fun a w => by kernel_rfl
theorem body_115 : (Tryz.prog.funcs[115]?).map (fun fn => fn.body.isSome && !(fn.name == "runtime.NumGoroutine")) = some true := by kernel_rfl
theorem fa_43_2 : FldAt Tryz.prog 43 2 2 := fun a w => by kernel_rfl
theorem fa_43_4 : FldAt Tryz.prog 43 4 4 := fun a w => by kernel_rfl
theorem fa_43_3 : FldAt Tryz.prog 43 3 3 := fun a w => by kernel_rfl


def idxOf (p : Int → Bool) : List Int → Nat → Int
  | [], _ => -1
  | x :: r, i => if p x = true then (i : Int) else idxOf p r (i + 1)
theorem idxOf_drop (p : Int → Bool) (xs : List Int) (i j : Nat) (h : ∀ m, m < i → ∀ x, xs[m]? = some x → p x = false) (hi : i ≤ xs.length) : idxOf p xs j = idxOf p (xs.drop i) (j + i) := by
  induction i generalizing xs j with
  | zero => rfl
  | succ i ih =>
    cases xs with
    | nil => simp at hi
    | cons x r =>
      have h0 := h 0 (by omega) x rfl
      simp only [idxOf, h0, Bool.false_eq_true, if_false, List.drop_succ_cons]
      rw [ih r (j + 1) (fun m hm y hy => h (m + 1) (by omega) y (by simpa using hy)) (by simpa using hi)]
      congr 1; omega
theorem idxOf_any (p : Int → Bool) : ∀ (xs : List Int) (i : Nat), decide (idxOf p xs i ≥ 0) = xs.any p
  | [], _ => by simp [idxOf]
  | x :: r, i => by
    unfold idxOf
    cases hp : p x with
    | true => simp [hp]
    | false => simp only [Bool.false_eq_true, if_false]; rw [idxOf_any p r (i + 1)]; simp [hp]
def ctlF (c : Int) : Bool := decide (c < 32 ∨ c = 127)
theorem ctlF_no {xs : List Int} (h : ∀ x ∈ xs, 32 ≤ x ∧ x < 127) : xs.any ctlF = false := by
  rw [List.any_eq_false]; intro x hx; have := h x hx; simp [ctlF]; omega
theorem sz_ne {s : ByteArray} (h : 1 ≤ s.size) : s ≠ ⟨#[]⟩ := by rintro rfl; exact absurd h (by decide)
def goodE (e : Evt) : Prop := (goodS e.node ∧ 1 ≤ e.node.size ∧ e.node.size ≤ 8) ∧ (goodS e.cls ∧ 1 ≤ e.cls.size ∧ e.cls.size ≤ 8) ∧ (goodS e.key ∧ e.key.size ≤ 8) ∧ (goodS e.text ∧ e.text.size ≤ 8) ∧ 0 ≤ e.level ∧ e.level ≤ 4

theorem plain1_ct (c : Int) : CT Tryz.prog 169 #[.int .i64 c] [] (fun v M => v = .bool (ctlF c) ∧ M = []) := by
  refine t_fun (vs := [.int .i64 c]) (n := 9) Tryz.func169 rfl Tryz.ntmps169 rfl fun w0 F => ?_
  refine t_seq ?_
  refine t_region ?_
  refine tl_q rfl (ev_assign rfl) ?_
  refine tl_nil ?_
  refine te_code ?_
  refine t_seq ?_
  refine t_region ?_
  refine tl_q rfl (ev_move rfl) ?_
  refine tl_q rfl (ev_lss rfl rfl) ?_
  refine tl_q rfl (ev_move rfl) ?_
  refine tl_split_dec 5 rfl (fun g1_2 => ?_) (fun g1_2 => ?_)
  · refine tl_guard_no rfl rfl rfl rfl ?_
    refine tl_guard_no rfl rfl rfl rfl ?_
    refine tl_q rfl (ev_pick_true rfl rfl) ?_
    refine tl_q rfl (ev_assign rfl) ?_
    refine tl_nil ?_
    refine te_code ?_
    refine t_ret ?_
    refine te_ret (res1 rfl rfl) ?_
    refine ⟨congrArg Value.bool (Bool.eq_iff_iff.2 ?_), rfl⟩
    first | (simp [ctlF]; done) | (simp [ctlF]; omega)
  · refine tl_guard rfl rfl rfl ?_
    refine tl_q rfl (ev_move rfl) ?_
    refine tl_guard rfl rfl rfl ?_
    refine tl_q rfl (ev_eql rfl rfl) ?_
    refine tl_q rfl (ev_pick_false rfl rfl) ?_
    refine tl_q rfl (ev_assign rfl) ?_
    refine tl_nil ?_
    refine te_code ?_
    refine t_ret ?_
    refine te_ret (res1 rfl rfl) ?_
    refine ⟨congrArg Value.bool (Bool.eq_iff_iff.2 ?_), rfl⟩
    first | (simp [ctlF]; done) | (simp [ctlF]; omega)

theorem IndexFuncI_ct (sv : Value) (xs : List Int) (hl : xs.length ≤ 1000000000) (g : Nat) (p : Int → Bool) (hg : ∀ x, CT Tryz.prog g #[.int .i64 x] [] (fun v M => v = .bool (p x) ∧ M = [])) (hb : (Tryz.prog.funcs[g]?).map (fun fn => fn.body.isSome && !(fn.name == "runtime.NumGoroutine")) = some true) : CT Tryz.prog 215 #[sv, .func (.func g) #[] #[]] [arr 3 1 encI sv xs] (fun v M => v = .int .i64 (idxOf p xs 0) ∧ M = [arr 3 1 encI sv xs]) := by
  refine t_fun (vs := [sv, .func (.func g) #[] #[]]) (n := 19) Tryz.func215 rfl Tryz.ntmps215 rfl fun w0 F => ?_
  refine t_shape (enc := encI) (sz := 1) (xs := xs) (by first | exact HasArr.own (by repeat (first | exact List.Mem.head _ | apply List.Mem.tail)) | exact HasArr.sh (by repeat (first | exact List.Mem.head _ | apply List.Mem.tail))) (by intro _; rfl) (fun hsh => ?_)
  refine t_seq ?_
  refine t_region ?_
  refine tl_q rfl (ev_assign rfl) ?_
  refine tl_nil ?_
  refine te_code ?_
  refine t_seq ?_
  refine t_seq ?_
  refine t_region ?_
  refine tl_q rfl (ev_move rfl) ?_
  refine tl_q rfl (ev_len_sh sl_269 rfl (by assumption)) ?_
  refine tl_q rfl (ev_move rfl) ?_
  refine tl_nil ?_
  refine te_code ?_
  refine t_block ?_
  refine t_loop (α := Nat) (fun i => [(8, .int .i64 (i : Int)), (7, .int .i64 (xs.length : Int)), (0, sv), (1, .func (.func g) #[] #[])]) (fun _ => [arr 3 1 encI sv xs]) (fun i => xs.length - i) (fun i => i ≤ xs.length ∧ ∀ m, m < i → ∀ x, xs[m]? = some x → p x = false) 0 ⟨by omega, by omega⟩ (by exact sub_cons rfl (sub_cons rfl (sub_cons rfl (sub_cons rfl (sub_nil))))) (fun _ h => hold_keep (by repeat (first | exact Frm.nil | exact Take.here | apply Take.there | apply Frm.cons)) h) ?_
  rintro i ⟨hi, hz⟩
  try dsimp only
  refine t_seq ?_
  refine t_region ?_
  refine tl_q rfl (ev_lss rfl rfl) ?_
  refine tl_nil ?_
  refine te_code ?_
  refine t_seq ?_
  refine t_cond_dec rfl (fun h0 => ?_) (fun h0 => ?_)
  · obtain ⟨u, hu⟩ : ∃ u, xs[i]? = some u := ⟨xs[i], by simp [show i < xs.length by omega]⟩
    refine t_skip ?_
    refine te_code ?_
    refine t_seq ?_
    refine t_block ?_
    refine t_seq ?_
    refine t_region ?_
    refine tl_q rfl (ev_move rfl) ?_
    refine tl_q rfl (ev_assign rfl) ?_
    refine tl_nil ?_
    refine te_code ?_
    refine t_seq ?_
    refine t_region ?_
    refine tl_q rfl (ev_move rfl) ?_
    refine tl_q rfl (ev_move rfl) ?_
    refine tl_q rfl (ev_move rfl) ?_
    refine tl_q rfl (ev_at_sh sl_269 rfl rfl (by assumption) (by omega)) ?_
    refine tl_q rfl (ev_load_at0 sc_3 rfl (by first | exact HasArr.own (by repeat (first | exact List.Mem.head _ | apply List.Mem.tail)) | exact HasArr.sh (by repeat (first | exact List.Mem.head _ | apply List.Mem.tail))) (by intro _; rfl) (by assumption) (by rfl)) ?_
    refine tl_e (eff_callv rfl rfl rfl hb rfl (by repeat (first | exact Frm.nil | exact Take.here | apply Take.there | apply Frm.cons)) (hg u)) ?_
    rintro _ _ ⟨_, _, ⟨rfl, rfl⟩, rfl, rfl⟩
    refine tl_nil ?_
    refine te_code ?_
    refine t_cond rfl (fun h1 => ?_) (fun h1 => ?_)
    · refine t_seq ?_
      refine t_region ?_
      refine tl_q rfl (ev_move rfl) ?_
      refine tl_q rfl (ev_assign rfl) ?_
      refine tl_nil ?_
      refine te_code ?_
      refine t_ret ?_
      refine te_ret (res1 rfl rfl) ?_
      refine ⟨?_, rfl⟩
      rw [idxOf_drop p xs i 0 hz hi, List.drop_eq_getElem_cons (by omega)]
      have e : xs[i]'(by omega) = u := by have := List.getElem?_eq_getElem (show i < xs.length by omega); rw [hu] at this; simpa using this.symm
      simp [idxOf, e, h1]
    · refine t_skip ?_
      refine te_blk ?_
      refine te_code ?_
      refine t_region ?_
      refine tl_q rfl (ev_add' rfl rfl (by omega)) ?_
      refine tl_q rfl (ev_move rfl) ?_
      refine tl_nil ?_
      exact te_round (i + 1) (by exact sub_cons rfl (sub_cons rfl (sub_cons rfl (sub_cons rfl (sub_nil))))) (fun _ h => hold_keep (by repeat (first | exact Frm.nil | exact Take.here | apply Take.there | apply Frm.cons)) h) ⟨by omega, fun m hm x hx => by by_cases e : m = i <;> simp_all <;> exact hz m (by omega) x hx⟩ (by omega)
  · refine t_exit ?_
    refine te_exit_code ?_
    refine te_exit_rnd ?_
    refine te_exit_here ?_
    refine te_code ?_
    refine t_seq ?_
    refine t_region ?_
    refine tl_q rfl (ev_assign rfl) ?_
    refine tl_nil ?_
    refine te_code ?_
    refine t_ret ?_
    refine te_ret (res1 rfl rfl) ?_
    refine ⟨?_, rfl⟩
    rw [idxOf_drop p xs i 0 hz hi, List.drop_eq_nil_of_le (by omega)]; rfl

theorem ContainsFuncI_ct (sv : Value) (xs : List Int) (hl : xs.length ≤ 1000000000) (g : Nat) (p : Int → Bool) (hg : ∀ x, CT Tryz.prog g #[.int .i64 x] [] (fun v M => v = .bool (p x) ∧ M = [])) (hb : (Tryz.prog.funcs[g]?).map (fun fn => fn.body.isSome && !(fn.name == "runtime.NumGoroutine")) = some true) : CT Tryz.prog 168 #[sv, .func (.func g) #[] #[]] [arr 3 1 encI sv xs] (fun v M => v = .bool (xs.any p) ∧ M = [arr 3 1 encI sv xs]) := by
  refine t_fun (vs := [sv, .func (.func g) #[] #[]]) (n := 9) Tryz.func168 rfl Tryz.ntmps168 rfl fun w0 F => ?_
  refine t_seq ?_
  refine t_region ?_
  refine tl_q rfl (ev_assign rfl) ?_
  refine tl_nil ?_
  refine te_code ?_
  refine t_seq ?_
  refine t_region ?_
  refine tl_q rfl (ev_move rfl) ?_
  refine tl_q rfl (ev_move rfl) ?_
  refine tl_e (eff_call rfl rfl body_215 rfl (by repeat (first | exact Frm.nil | exact Take.here | apply Take.there | apply Frm.cons)) (IndexFuncI_ct _ _ (by omega) _ _ hg hb)) ?_
  rintro _ _ ⟨v7, _, ⟨rfl, rfl⟩, rfl, rfl⟩
  refine tl_q rfl (ev_geq rfl rfl) ?_
  refine tl_q rfl (ev_assign rfl) ?_
  refine tl_nil ?_
  refine te_code ?_
  refine t_ret ?_
  refine te_ret (res1 rfl rfl) ?_
  exact ⟨congrArg Value.bool (idxOf_any p xs 0), rfl⟩

theorem plain_ct (s : ByteArray) (n : Int) (hs : s.size ≤ 1000000) : CT Tryz.prog 115 #[.string s, .int .i64 n] [] (fun v M => ∃ b : Bool, v = .bool b ∧ M = [] ∧ (goodS s → s.size ≤ n → b = true)) := by
  refine t_fun (vs := [.string s, .int .i64 n]) (n := 27) Tryz.func115 rfl Tryz.ntmps115 rfl fun w0 F => ?_
  refine t_seq ?_
  refine t_region ?_
  refine tl_q rfl (ev_assign rfl) ?_
  refine tl_nil ?_
  refine te_code ?_
  refine t_seq ?_
  refine t_region ?_
  refine tl_q rfl (ev_move rfl) ?_
  refine tl_e (eff_call rfl rfl body_167 rfl (by repeat (first | exact Frm.nil | exact Take.here | apply Take.there | apply Frm.cons)) (Chars_ct _ (by omega))) ?_
  rintro _ _ ⟨v10, _, ⟨sv, xs, e, rfl, rfl, hce, hcx, hcg⟩, rfl, rfl⟩
  refine tl_q rfl (ev_move rfl) ?_
  refine tl_q rfl (ev_extract rfl rfl) ?_
  refine tl_q rfl (ev_extract rfl rfl) ?_
  refine tl_q rfl (ev_assign rfl) ?_
  refine tl_q rfl (ev_assign rfl) ?_
  refine tl_nil ?_
  refine te_code ?_
  refine t_seq ?_
  refine t_region ?_
  refine tl_q rfl (ev_move rfl) ?_
  refine tl_e (eff_call rfl rfl body_168 rfl (by repeat (first | exact Frm.nil | exact Take.here | apply Take.there | apply Frm.cons)) (ContainsFuncI_ct _ _ (by omega) _ _ plain1_ct body_169)) ?_
  rintro _ _ ⟨v14, _, ⟨rfl, rfl⟩, rfl, rfl⟩
  refine tl_q rfl (ev_assign rfl) ?_
  refine tl_nil ?_
  refine te_code ?_
  refine t_seq ?_
  refine t_region ?_
  refine tl_q rfl (ev_move rfl) ?_
  refine tl_q rfl (ev_eql rfl rfl) ?_
  refine tl_q rfl (ev_move rfl) ?_
  refine tl_split_dec 17 rfl (fun g3_2 => ?_) (fun g3_2 => ?_)
  · refine tl_guard rfl rfl rfl ?_
    refine tl_q rfl (ev_move rfl) ?_
    refine tl_guard rfl rfl rfl ?_
    refine tl_q rfl (ev_not rfl) ?_
    refine tl_q rfl (ev_pick_true rfl rfl) ?_
    refine tl_q rfl (ev_move rfl) ?_
    refine tl_split 21 rfl (fun g3_6 => ?_) (fun g3_6 => ?_)
    · refine tl_guard rfl rfl rfl ?_
      refine tl_q rfl (ev_move rfl) ?_
      refine tl_guard rfl rfl rfl ?_
      refine tl_q rfl (ev_len_str str_9 rfl) ?_
      refine tl_guard rfl rfl rfl ?_
      refine tl_q rfl (ev_move rfl) ?_
      refine tl_guard rfl rfl rfl ?_
      refine tl_q rfl (ev_leq rfl rfl) ?_
      refine tl_q rfl (ev_pick_true rfl rfl) ?_
      refine tl_q rfl (ev_assign rfl) ?_
      refine tl_nil ?_
      refine te_code ?_
      refine t_ret ?_
      refine te_ret_k (pre := []) (res1 rfl rfl) (by repeat (first | exact Frm.nil | exact Take.here | apply Take.there | apply Frm.cons)) ?_
      refine ⟨_, rfl, rfl, fun g hn => ?_⟩
      obtain ⟨a1, a2⟩ := hcg g
      first | exact absurd a1 (by assumption) | (simpa using hn) | (rw [ctlF_no a2] at g3_6; simp at g3_6)
    · refine tl_guard_no rfl rfl rfl rfl ?_
      refine tl_guard_no rfl rfl rfl rfl ?_
      refine tl_guard_no rfl rfl rfl rfl ?_
      refine tl_guard_no rfl rfl rfl rfl ?_
      refine tl_q rfl (ev_pick_false rfl rfl) ?_
      refine tl_q rfl (ev_assign rfl) ?_
      refine tl_nil ?_
      refine te_code ?_
      refine t_ret ?_
      refine te_ret_k (pre := []) (res1 rfl rfl) (by repeat (first | exact Frm.nil | exact Take.here | apply Take.there | apply Frm.cons)) ?_
      refine ⟨_, rfl, rfl, fun g hn => ?_⟩
      obtain ⟨a1, a2⟩ := hcg g
      first | exact absurd a1 (by assumption) | (simpa using hn) | (rw [ctlF_no a2] at g3_6; simp at g3_6)
  · refine tl_guard_no rfl rfl rfl rfl ?_
    refine tl_guard_no rfl rfl rfl rfl ?_
    refine tl_q rfl (ev_pick_false rfl rfl) ?_
    refine tl_q rfl (ev_move rfl) ?_
    refine tl_guard_no rfl rfl rfl rfl ?_
    refine tl_guard_no rfl rfl rfl rfl ?_
    refine tl_guard_no rfl rfl rfl rfl ?_
    refine tl_guard_no rfl rfl rfl rfl ?_
    refine tl_q rfl (ev_pick_false rfl rfl) ?_
    refine tl_q rfl (ev_assign rfl) ?_
    refine tl_nil ?_
    refine te_code ?_
    refine t_ret ?_
    refine te_ret_k (pre := []) (res1 rfl rfl) (by repeat (first | exact Frm.nil | exact Take.here | apply Take.there | apply Frm.cons)) ?_
    refine ⟨_, rfl, rfl, fun g hn => ?_⟩
    obtain ⟨a1, a2⟩ := hcg g
    first | exact absurd a1 (by assumption) | (simpa using hn) | (rw [ctlF_no a2] at g3_6; simp at g3_6)

theorem norm_Check_ct (e : Evt) (hn : e.node.size ≤ 1000000) (hc : e.cls.size ≤ 1000000) (hk : e.key.size ≤ 1000000) (ht : e.text.size ≤ 1000000) : CT Tryz.prog 76 #[.agg (encEvt e).toArray] [] (fun v M => ∃ c, v = .int .i64 c ∧ M = [] ∧ (c = 0 ∨ c = 180) ∧ (goodE e → c = 0)) := by
  refine t_fun (vs := [.agg (encEvt e).toArray]) (n := 46) Tryz.func76 rfl Tryz.ntmps76 rfl fun w0 F => ?_
  refine t_seq ?_
  refine t_region ?_
  refine tl_e (eff_box rfl rfl rfl) ?_
  rintro _ _ ⟨b1, rfl, rfl⟩
  refine tl_q rfl (ev_assign rfl) ?_
  refine tl_nil ?_
  refine te_code ?_
  refine t_seq ?_
  refine t_region ?_
  refine tl_q rfl (ev_fieldAddr fa_43_0 rfl rfl) ?_
  refine tl_q rfl (ev_load sc_9 rfl (by first | (left; (repeat (first | exact List.Mem.head _ | apply List.Mem.tail)); done) | (right; (repeat (first | exact List.Mem.head _ | apply List.Mem.tail)); done)) rfl) ?_
  refine tl_q rfl (ev_sneq rfl rfl) ?_
  refine tl_q rfl (ev_move rfl) ?_
  refine tl_split_dec 7 rfl (fun g1_3 => ?_) (fun g1_3 => ?_)
  · refine tl_guard rfl rfl rfl ?_
    refine tl_q rfl (ev_fieldAddr fa_43_1 rfl rfl) ?_
    refine tl_guard rfl rfl rfl ?_
    refine tl_q rfl (ev_load sc_9 rfl (by first | (left; (repeat (first | exact List.Mem.head _ | apply List.Mem.tail)); done) | (right; (repeat (first | exact List.Mem.head _ | apply List.Mem.tail)); done)) rfl) ?_
    refine tl_guard rfl rfl rfl ?_
    refine tl_q rfl (ev_sneq rfl rfl) ?_
    refine tl_q rfl (ev_pick_true rfl rfl) ?_
    refine tl_q rfl (ev_move rfl) ?_
    refine tl_split_dec 12 rfl (fun g1_8 => ?_) (fun g1_8 => ?_)
    · refine tl_guard rfl rfl rfl ?_
      refine tl_q rfl (ev_fieldAddr fa_43_0 rfl rfl) ?_
      refine tl_guard rfl rfl rfl ?_
      refine tl_q rfl (ev_load sc_9 rfl (by first | (left; (repeat (first | exact List.Mem.head _ | apply List.Mem.tail)); done) | (right; (repeat (first | exact List.Mem.head _ | apply List.Mem.tail)); done)) rfl) ?_
      refine tl_guard rfl rfl rfl ?_
      refine tl_e (eff_call rfl rfl body_115 rfl (by repeat (first | exact Frm.nil | exact Take.here | apply Take.there | apply Frm.cons)) (plain_ct _ _ (by omega))) ?_
      rintro _ _ ⟨v15, _, ⟨b, rfl, rfl, hpl⟩, rfl, rfl⟩
      refine tl_q rfl (ev_pick_true rfl rfl) ?_
      refine tl_q rfl (ev_move rfl) ?_
      refine tl_split 17 rfl (fun g1_13 => ?_) (fun g1_13 => ?_)
      · refine tl_guard rfl rfl rfl ?_
        refine tl_q rfl (ev_fieldAddr fa_43_1 rfl rfl) ?_
        refine tl_guard rfl rfl rfl ?_
        refine tl_q rfl (ev_load sc_9 rfl (by first | (left; (repeat (first | exact List.Mem.head _ | apply List.Mem.tail)); done) | (right; (repeat (first | exact List.Mem.head _ | apply List.Mem.tail)); done)) rfl) ?_
        refine tl_guard rfl rfl rfl ?_
        refine tl_e (eff_call rfl rfl body_115 rfl (by repeat (first | exact Frm.nil | exact Take.here | apply Take.there | apply Frm.cons)) (plain_ct _ _ (by omega))) ?_
        rintro _ _ ⟨v20, _, ⟨b, rfl, rfl, hpl⟩, rfl, rfl⟩
        refine tl_q rfl (ev_pick_true rfl rfl) ?_
        refine tl_q rfl (ev_assign rfl) ?_
        refine tl_nil ?_
        refine te_code ?_
        refine t_seq ?_
        refine t_seq ?_
        refine t_region ?_
        refine tl_q rfl (ev_move rfl) ?_
        refine tl_q rfl (ev_not rfl) ?_
        refine tl_q rfl (ev_move rfl) ?_
        refine tl_split 24 rfl (fun g2_2 => ?_) (fun g2_2 => ?_)
        · refine tl_guard_no rfl rfl rfl rfl ?_
          refine tl_guard_no rfl rfl rfl rfl ?_
          refine tl_guard_no rfl rfl rfl rfl ?_
          refine tl_guard_no rfl rfl rfl rfl ?_
          refine tl_q rfl (ev_pick_true rfl rfl) ?_
          refine tl_q rfl (ev_move rfl) ?_
          refine tl_guard_no rfl rfl rfl rfl ?_
          refine tl_guard_no rfl rfl rfl rfl ?_
          refine tl_guard_no rfl rfl rfl rfl ?_
          refine tl_guard_no rfl rfl rfl rfl ?_
          refine tl_q rfl (ev_pick_true rfl rfl) ?_
          refine tl_q rfl (ev_move rfl) ?_
          refine tl_guard_no rfl rfl rfl rfl ?_
          refine tl_guard_no rfl rfl rfl rfl ?_
          refine tl_guard_no rfl rfl rfl rfl ?_
          refine tl_q rfl (ev_pick_true rfl rfl) ?_
          refine tl_q rfl (ev_move rfl) ?_
          refine tl_guard_no rfl rfl rfl rfl ?_
          refine tl_guard_no rfl rfl rfl rfl ?_
          refine tl_guard_no rfl rfl rfl rfl ?_
          refine tl_q rfl (ev_pick_true rfl rfl) ?_
          refine tl_nil ?_
          refine te_code ?_
          refine t_cond_true rfl ?_
          refine t_seq ?_
          refine t_region ?_
          refine tl_q rfl (ev_assign rfl) ?_
          refine tl_nil ?_
          refine te_code ?_
          refine t_ret ?_
          refine te_ret_k (pre := []) (res1 rfl rfl) (by repeat (first | exact Frm.nil | exact Take.here | apply Take.there | apply Frm.cons)) ?_
          refine ⟨_, rfl, rfl, by first | exact .inl rfl | exact .inr rfl, fun g => ?_⟩
          obtain ⟨⟨a1, a2, a3⟩, ⟨q1, q2, q3⟩, ⟨k1, k2⟩, ⟨d1, d2⟩, l1, l2⟩ := g
          have n1 : (e.node.size : Int) ≤ 64 := (by omega)
          have n2 : (e.cls.size : Int) ≤ 64 := (by omega)
          have n3 : (e.key.size : Int) ≤ 128 := (by omega)
          have n4 : (e.text.size : Int) ≤ 1024 := (by omega)
          have z1 := sz_ne a2
          have z2 := sz_ne q2
          first | rfl | (exfalso; omega) | (exfalso; simp_all)
        · refine tl_guard rfl rfl rfl ?_
          refine tl_q rfl (ev_fieldAddr fa_43_2 rfl rfl) ?_
          refine tl_guard rfl rfl rfl ?_
          refine tl_q rfl (ev_load sc_9 rfl (by first | (left; (repeat (first | exact List.Mem.head _ | apply List.Mem.tail)); done) | (right; (repeat (first | exact List.Mem.head _ | apply List.Mem.tail)); done)) rfl) ?_
          refine tl_guard rfl rfl rfl ?_
          refine tl_e (eff_call rfl rfl body_115 rfl (by repeat (first | exact Frm.nil | exact Take.here | apply Take.there | apply Frm.cons)) (plain_ct _ _ (by omega))) ?_
          rintro _ _ ⟨v27, _, ⟨b, rfl, rfl, hpl⟩, rfl, rfl⟩
          refine tl_guard rfl rfl rfl ?_
          refine tl_q rfl (ev_not rfl) ?_
          refine tl_q rfl (ev_pick_false rfl rfl) ?_
          refine tl_q rfl (ev_move rfl) ?_
          refine tl_split 30 rfl (fun g2_8 => ?_) (fun g2_8 => ?_)
          · refine tl_guard_no rfl rfl rfl rfl ?_
            refine tl_guard_no rfl rfl rfl rfl ?_
            refine tl_guard_no rfl rfl rfl rfl ?_
            refine tl_guard_no rfl rfl rfl rfl ?_
            refine tl_q rfl (ev_pick_true rfl rfl) ?_
            refine tl_q rfl (ev_move rfl) ?_
            refine tl_guard_no rfl rfl rfl rfl ?_
            refine tl_guard_no rfl rfl rfl rfl ?_
            refine tl_guard_no rfl rfl rfl rfl ?_
            refine tl_q rfl (ev_pick_true rfl rfl) ?_
            refine tl_q rfl (ev_move rfl) ?_
            refine tl_guard_no rfl rfl rfl rfl ?_
            refine tl_guard_no rfl rfl rfl rfl ?_
            refine tl_guard_no rfl rfl rfl rfl ?_
            refine tl_q rfl (ev_pick_true rfl rfl) ?_
            refine tl_nil ?_
            refine te_code ?_
            refine t_cond_true rfl ?_
            refine t_seq ?_
            refine t_region ?_
            refine tl_q rfl (ev_assign rfl) ?_
            refine tl_nil ?_
            refine te_code ?_
            refine t_ret ?_
            refine te_ret_k (pre := []) (res1 rfl rfl) (by repeat (first | exact Frm.nil | exact Take.here | apply Take.there | apply Frm.cons)) ?_
            refine ⟨_, rfl, rfl, by first | exact .inl rfl | exact .inr rfl, fun g => ?_⟩
            obtain ⟨⟨a1, a2, a3⟩, ⟨q1, q2, q3⟩, ⟨k1, k2⟩, ⟨d1, d2⟩, l1, l2⟩ := g
            have n1 : (e.node.size : Int) ≤ 64 := (by omega)
            have n2 : (e.cls.size : Int) ≤ 64 := (by omega)
            have n3 : (e.key.size : Int) ≤ 128 := (by omega)
            have n4 : (e.text.size : Int) ≤ 1024 := (by omega)
            have z1 := sz_ne a2
            have z2 := sz_ne q2
            first | rfl | (exfalso; omega) | (exfalso; simp_all)
          · refine tl_guard rfl rfl rfl ?_
            refine tl_q rfl (ev_fieldAddr fa_43_4 rfl rfl) ?_
            refine tl_guard rfl rfl rfl ?_
            refine tl_q rfl (ev_load sc_9 rfl (by first | (left; (repeat (first | exact List.Mem.head _ | apply List.Mem.tail)); done) | (right; (repeat (first | exact List.Mem.head _ | apply List.Mem.tail)); done)) rfl) ?_
            refine tl_guard rfl rfl rfl ?_
            refine tl_e (eff_call rfl rfl body_115 rfl (by repeat (first | exact Frm.nil | exact Take.here | apply Take.there | apply Frm.cons)) (plain_ct _ _ (by omega))) ?_
            rintro _ _ ⟨v33, _, ⟨b, rfl, rfl, hpl⟩, rfl, rfl⟩
            refine tl_guard rfl rfl rfl ?_
            refine tl_q rfl (ev_not rfl) ?_
            refine tl_q rfl (ev_pick_false rfl rfl) ?_
            refine tl_q rfl (ev_move rfl) ?_
            refine tl_split 36 rfl (fun g2_14 => ?_) (fun g2_14 => ?_)
            · refine tl_guard_no rfl rfl rfl rfl ?_
              refine tl_guard_no rfl rfl rfl rfl ?_
              refine tl_guard_no rfl rfl rfl rfl ?_
              refine tl_q rfl (ev_pick_true rfl rfl) ?_
              refine tl_q rfl (ev_move rfl) ?_
              refine tl_guard_no rfl rfl rfl rfl ?_
              refine tl_guard_no rfl rfl rfl rfl ?_
              refine tl_guard_no rfl rfl rfl rfl ?_
              refine tl_q rfl (ev_pick_true rfl rfl) ?_
              refine tl_nil ?_
              refine te_code ?_
              refine t_cond_true rfl ?_
              refine t_seq ?_
              refine t_region ?_
              refine tl_q rfl (ev_assign rfl) ?_
              refine tl_nil ?_
              refine te_code ?_
              refine t_ret ?_
              refine te_ret_k (pre := []) (res1 rfl rfl) (by repeat (first | exact Frm.nil | exact Take.here | apply Take.there | apply Frm.cons)) ?_
              refine ⟨_, rfl, rfl, by first | exact .inl rfl | exact .inr rfl, fun g => ?_⟩
              obtain ⟨⟨a1, a2, a3⟩, ⟨q1, q2, q3⟩, ⟨k1, k2⟩, ⟨d1, d2⟩, l1, l2⟩ := g
              have n1 : (e.node.size : Int) ≤ 64 := (by omega)
              have n2 : (e.cls.size : Int) ≤ 64 := (by omega)
              have n3 : (e.key.size : Int) ≤ 128 := (by omega)
              have n4 : (e.text.size : Int) ≤ 1024 := (by omega)
              have z1 := sz_ne a2
              have z2 := sz_ne q2
              first | rfl | (exfalso; omega) | (exfalso; simp_all)
            · refine tl_guard rfl rfl rfl ?_
              refine tl_q rfl (ev_fieldAddr fa_43_3 rfl rfl) ?_
              refine tl_guard rfl rfl rfl ?_
              refine tl_q rfl (ev_load sc_3 rfl (by first | (left; (repeat (first | exact List.Mem.head _ | apply List.Mem.tail)); done) | (right; (repeat (first | exact List.Mem.head _ | apply List.Mem.tail)); done)) rfl) ?_
              refine tl_guard rfl rfl rfl ?_
              refine tl_q rfl (ev_lss rfl rfl) ?_
              refine tl_q rfl (ev_pick_false rfl rfl) ?_
              refine tl_q rfl (ev_move rfl) ?_
              refine tl_split_dec 41 rfl (fun g2_19 => ?_) (fun g2_19 => ?_)
              · refine tl_guard_no rfl rfl rfl rfl ?_
                refine tl_guard_no rfl rfl rfl rfl ?_
                refine tl_guard_no rfl rfl rfl rfl ?_
                refine tl_q rfl (ev_pick_true rfl rfl) ?_
                refine tl_nil ?_
                refine te_code ?_
                refine t_cond_true rfl ?_
                refine t_seq ?_
                refine t_region ?_
                refine tl_q rfl (ev_assign rfl) ?_
                refine tl_nil ?_
                refine te_code ?_
                refine t_ret ?_
                refine te_ret_k (pre := []) (res1 rfl rfl) (by repeat (first | exact Frm.nil | exact Take.here | apply Take.there | apply Frm.cons)) ?_
                refine ⟨_, rfl, rfl, by first | exact .inl rfl | exact .inr rfl, fun g => ?_⟩
                obtain ⟨⟨a1, a2, a3⟩, ⟨q1, q2, q3⟩, ⟨k1, k2⟩, ⟨d1, d2⟩, l1, l2⟩ := g
                have n1 : (e.node.size : Int) ≤ 64 := (by omega)
                have n2 : (e.cls.size : Int) ≤ 64 := (by omega)
                have n3 : (e.key.size : Int) ≤ 128 := (by omega)
                have n4 : (e.text.size : Int) ≤ 1024 := (by omega)
                have z1 := sz_ne a2
                have z2 := sz_ne q2
                first | rfl | (exfalso; omega) | (exfalso; simp_all)
              · refine tl_guard rfl rfl rfl ?_
                refine tl_q rfl (ev_fieldAddr fa_43_3 rfl rfl) ?_
                refine tl_guard rfl rfl rfl ?_
                refine tl_q rfl (ev_load sc_3 rfl (by first | (left; (repeat (first | exact List.Mem.head _ | apply List.Mem.tail)); done) | (right; (repeat (first | exact List.Mem.head _ | apply List.Mem.tail)); done)) rfl) ?_
                refine tl_guard rfl rfl rfl ?_
                refine tl_q rfl (ev_gtr rfl rfl) ?_
                refine tl_q rfl (ev_pick_false rfl rfl) ?_
                refine tl_nil ?_
                refine te_code ?_
                refine t_cond_dec rfl (fun h0 => ?_) (fun h0 => ?_)
                · refine t_seq ?_
                  refine t_region ?_
                  refine tl_q rfl (ev_assign rfl) ?_
                  refine tl_nil ?_
                  refine te_code ?_
                  refine t_ret ?_
                  refine te_ret_k (pre := []) (res1 rfl rfl) (by repeat (first | exact Frm.nil | exact Take.here | apply Take.there | apply Frm.cons)) ?_
                  refine ⟨_, rfl, rfl, by first | exact .inl rfl | exact .inr rfl, fun g => ?_⟩
                  obtain ⟨⟨a1, a2, a3⟩, ⟨q1, q2, q3⟩, ⟨k1, k2⟩, ⟨d1, d2⟩, l1, l2⟩ := g
                  have n1 : (e.node.size : Int) ≤ 64 := (by omega)
                  have n2 : (e.cls.size : Int) ≤ 64 := (by omega)
                  have n3 : (e.key.size : Int) ≤ 128 := (by omega)
                  have n4 : (e.text.size : Int) ≤ 1024 := (by omega)
                  have z1 := sz_ne a2
                  have z2 := sz_ne q2
                  first | rfl | (exfalso; omega) | (exfalso; simp_all)
                · refine t_skip ?_
                  refine te_code ?_
                  refine t_seq ?_
                  refine t_region ?_
                  refine tl_q rfl (ev_assign rfl) ?_
                  refine tl_nil ?_
                  refine te_code ?_
                  refine t_ret ?_
                  refine te_ret_k (pre := []) (res1 rfl rfl) (by repeat (first | exact Frm.nil | exact Take.here | apply Take.there | apply Frm.cons)) ?_
                  refine ⟨_, rfl, rfl, by first | exact .inl rfl | exact .inr rfl, fun g => ?_⟩
                  obtain ⟨⟨a1, a2, a3⟩, ⟨q1, q2, q3⟩, ⟨k1, k2⟩, ⟨d1, d2⟩, l1, l2⟩ := g
                  have n1 : (e.node.size : Int) ≤ 64 := (by omega)
                  have n2 : (e.cls.size : Int) ≤ 64 := (by omega)
                  have n3 : (e.key.size : Int) ≤ 128 := (by omega)
                  have n4 : (e.text.size : Int) ≤ 1024 := (by omega)
                  have z1 := sz_ne a2
                  have z2 := sz_ne q2
                  first | rfl | (exfalso; omega) | (exfalso; simp_all)
      · refine tl_guard_no rfl rfl rfl rfl ?_
        refine tl_guard_no rfl rfl rfl rfl ?_
        refine tl_guard_no rfl rfl rfl rfl ?_
        refine tl_q rfl (ev_pick_false rfl rfl) ?_
        refine tl_q rfl (ev_assign rfl) ?_
        refine tl_nil ?_
        refine te_code ?_
        refine t_seq ?_
        refine t_seq ?_
        refine t_region ?_
        refine tl_q rfl (ev_move rfl) ?_
        refine tl_q rfl (ev_not rfl) ?_
        refine tl_q rfl (ev_move rfl) ?_
        refine tl_guard_no rfl rfl rfl rfl ?_
        refine tl_guard_no rfl rfl rfl rfl ?_
        refine tl_guard_no rfl rfl rfl rfl ?_
        refine tl_guard_no rfl rfl rfl rfl ?_
        refine tl_q rfl (ev_pick_true rfl rfl) ?_
        refine tl_q rfl (ev_move rfl) ?_
        refine tl_guard_no rfl rfl rfl rfl ?_
        refine tl_guard_no rfl rfl rfl rfl ?_
        refine tl_guard_no rfl rfl rfl rfl ?_
        refine tl_guard_no rfl rfl rfl rfl ?_
        refine tl_q rfl (ev_pick_true rfl rfl) ?_
        refine tl_q rfl (ev_move rfl) ?_
        refine tl_guard_no rfl rfl rfl rfl ?_
        refine tl_guard_no rfl rfl rfl rfl ?_
        refine tl_guard_no rfl rfl rfl rfl ?_
        refine tl_q rfl (ev_pick_true rfl rfl) ?_
        refine tl_q rfl (ev_move rfl) ?_
        refine tl_guard_no rfl rfl rfl rfl ?_
        refine tl_guard_no rfl rfl rfl rfl ?_
        refine tl_guard_no rfl rfl rfl rfl ?_
        refine tl_q rfl (ev_pick_true rfl rfl) ?_
        refine tl_nil ?_
        refine te_code ?_
        refine t_cond_true rfl ?_
        refine t_seq ?_
        refine t_region ?_
        refine tl_q rfl (ev_assign rfl) ?_
        refine tl_nil ?_
        refine te_code ?_
        refine t_ret ?_
        refine te_ret_k (pre := []) (res1 rfl rfl) (by repeat (first | exact Frm.nil | exact Take.here | apply Take.there | apply Frm.cons)) ?_
        refine ⟨_, rfl, rfl, by first | exact .inl rfl | exact .inr rfl, fun g => ?_⟩
        obtain ⟨⟨a1, a2, a3⟩, ⟨q1, q2, q3⟩, ⟨k1, k2⟩, ⟨d1, d2⟩, l1, l2⟩ := g
        have n1 : (e.node.size : Int) ≤ 64 := (by omega)
        have n2 : (e.cls.size : Int) ≤ 64 := (by omega)
        have n3 : (e.key.size : Int) ≤ 128 := (by omega)
        have n4 : (e.text.size : Int) ≤ 1024 := (by omega)
        have z1 := sz_ne a2
        have z2 := sz_ne q2
        first | rfl | (exfalso; omega) | (exfalso; simp_all)
    · refine tl_guard_no rfl rfl rfl rfl ?_
      refine tl_guard_no rfl rfl rfl rfl ?_
      refine tl_guard_no rfl rfl rfl rfl ?_
      refine tl_q rfl (ev_pick_false rfl rfl) ?_
      refine tl_q rfl (ev_move rfl) ?_
      refine tl_guard_no rfl rfl rfl rfl ?_
      refine tl_guard_no rfl rfl rfl rfl ?_
      refine tl_guard_no rfl rfl rfl rfl ?_
      refine tl_q rfl (ev_pick_false rfl rfl) ?_
      refine tl_q rfl (ev_assign rfl) ?_
      refine tl_nil ?_
      refine te_code ?_
      refine t_seq ?_
      refine t_seq ?_
      refine t_region ?_
      refine tl_q rfl (ev_move rfl) ?_
      refine tl_q rfl (ev_not rfl) ?_
      refine tl_q rfl (ev_move rfl) ?_
      refine tl_guard_no rfl rfl rfl rfl ?_
      refine tl_guard_no rfl rfl rfl rfl ?_
      refine tl_guard_no rfl rfl rfl rfl ?_
      refine tl_guard_no rfl rfl rfl rfl ?_
      refine tl_q rfl (ev_pick_true rfl rfl) ?_
      refine tl_q rfl (ev_move rfl) ?_
      refine tl_guard_no rfl rfl rfl rfl ?_
      refine tl_guard_no rfl rfl rfl rfl ?_
      refine tl_guard_no rfl rfl rfl rfl ?_
      refine tl_guard_no rfl rfl rfl rfl ?_
      refine tl_q rfl (ev_pick_true rfl rfl) ?_
      refine tl_q rfl (ev_move rfl) ?_
      refine tl_guard_no rfl rfl rfl rfl ?_
      refine tl_guard_no rfl rfl rfl rfl ?_
      refine tl_guard_no rfl rfl rfl rfl ?_
      refine tl_q rfl (ev_pick_true rfl rfl) ?_
      refine tl_q rfl (ev_move rfl) ?_
      refine tl_guard_no rfl rfl rfl rfl ?_
      refine tl_guard_no rfl rfl rfl rfl ?_
      refine tl_guard_no rfl rfl rfl rfl ?_
      refine tl_q rfl (ev_pick_true rfl rfl) ?_
      refine tl_nil ?_
      refine te_code ?_
      refine t_cond_true rfl ?_
      refine t_seq ?_
      refine t_region ?_
      refine tl_q rfl (ev_assign rfl) ?_
      refine tl_nil ?_
      refine te_code ?_
      refine t_ret ?_
      refine te_ret_k (pre := []) (res1 rfl rfl) (by repeat (first | exact Frm.nil | exact Take.here | apply Take.there | apply Frm.cons)) ?_
      refine ⟨_, rfl, rfl, by first | exact .inl rfl | exact .inr rfl, fun g => ?_⟩
      obtain ⟨⟨a1, a2, a3⟩, ⟨q1, q2, q3⟩, ⟨k1, k2⟩, ⟨d1, d2⟩, l1, l2⟩ := g
      have n1 : (e.node.size : Int) ≤ 64 := (by omega)
      have n2 : (e.cls.size : Int) ≤ 64 := (by omega)
      have n3 : (e.key.size : Int) ≤ 128 := (by omega)
      have n4 : (e.text.size : Int) ≤ 1024 := (by omega)
      have z1 := sz_ne a2
      have z2 := sz_ne q2
      first | rfl | (exfalso; omega) | (exfalso; simp_all)
  · refine tl_guard_no rfl rfl rfl rfl ?_
    refine tl_guard_no rfl rfl rfl rfl ?_
    refine tl_guard_no rfl rfl rfl rfl ?_
    refine tl_q rfl (ev_pick_false rfl rfl) ?_
    refine tl_q rfl (ev_move rfl) ?_
    refine tl_guard_no rfl rfl rfl rfl ?_
    refine tl_guard_no rfl rfl rfl rfl ?_
    refine tl_guard_no rfl rfl rfl rfl ?_
    refine tl_q rfl (ev_pick_false rfl rfl) ?_
    refine tl_q rfl (ev_move rfl) ?_
    refine tl_guard_no rfl rfl rfl rfl ?_
    refine tl_guard_no rfl rfl rfl rfl ?_
    refine tl_guard_no rfl rfl rfl rfl ?_
    refine tl_q rfl (ev_pick_false rfl rfl) ?_
    refine tl_q rfl (ev_assign rfl) ?_
    refine tl_nil ?_
    refine te_code ?_
    refine t_seq ?_
    refine t_seq ?_
    refine t_region ?_
    refine tl_q rfl (ev_move rfl) ?_
    refine tl_q rfl (ev_not rfl) ?_
    refine tl_q rfl (ev_move rfl) ?_
    refine tl_guard_no rfl rfl rfl rfl ?_
    refine tl_guard_no rfl rfl rfl rfl ?_
    refine tl_guard_no rfl rfl rfl rfl ?_
    refine tl_guard_no rfl rfl rfl rfl ?_
    refine tl_q rfl (ev_pick_true rfl rfl) ?_
    refine tl_q rfl (ev_move rfl) ?_
    refine tl_guard_no rfl rfl rfl rfl ?_
    refine tl_guard_no rfl rfl rfl rfl ?_
    refine tl_guard_no rfl rfl rfl rfl ?_
    refine tl_guard_no rfl rfl rfl rfl ?_
    refine tl_q rfl (ev_pick_true rfl rfl) ?_
    refine tl_q rfl (ev_move rfl) ?_
    refine tl_guard_no rfl rfl rfl rfl ?_
    refine tl_guard_no rfl rfl rfl rfl ?_
    refine tl_guard_no rfl rfl rfl rfl ?_
    refine tl_q rfl (ev_pick_true rfl rfl) ?_
    refine tl_q rfl (ev_move rfl) ?_
    refine tl_guard_no rfl rfl rfl rfl ?_
    refine tl_guard_no rfl rfl rfl rfl ?_
    refine tl_guard_no rfl rfl rfl rfl ?_
    refine tl_q rfl (ev_pick_true rfl rfl) ?_
    refine tl_nil ?_
    refine te_code ?_
    refine t_cond_true rfl ?_
    refine t_seq ?_
    refine t_region ?_
    refine tl_q rfl (ev_assign rfl) ?_
    refine tl_nil ?_
    refine te_code ?_
    refine t_ret ?_
    refine te_ret_k (pre := []) (res1 rfl rfl) (by repeat (first | exact Frm.nil | exact Take.here | apply Take.there | apply Frm.cons)) ?_
    refine ⟨_, rfl, rfl, by first | exact .inl rfl | exact .inr rfl, fun g => ?_⟩
    obtain ⟨⟨a1, a2, a3⟩, ⟨q1, q2, q3⟩, ⟨k1, k2⟩, ⟨d1, d2⟩, l1, l2⟩ := g
    have n1 : (e.node.size : Int) ≤ 64 := (by omega)
    have n2 : (e.cls.size : Int) ≤ 64 := (by omega)
    have n3 : (e.key.size : Int) ≤ 128 := (by omega)
    have n4 : (e.text.size : Int) ≤ 1024 := (by omega)
    have z1 := sz_ne a2
    have z2 := sz_ne q2
    first | rfl | (exfalso; omega) | (exfalso; simp_all)

end Go.SL
