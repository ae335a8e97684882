/- Contracts of gongbook.Below and of the filters' small functions. -/
import Derived.Test.YtimhhegebkganaaGreatDoorProg
import Derived.Test.YtimhhegebkganaaGreatDoorGQ
set_option linter.unusedSimpArgs false
set_option linter.unusedVariables false
set_option maxRecDepth 4000
namespace Go.SL
open Go.Proofs

theorem body_82 : (Tryz.prog.funcs[82]?).map (fun fn => fn.body.isSome && !(fn.name == "runtime.NumGoroutine")) = some true := by kernel_rfl
theorem info_183 : Tryz.prog.info? 183 = some Tryz.t183 := by kernel_rfl
theorem zero_183 : ZeroIs Tryz.prog 183 (.nilFunc) := zeroIs_of info_183 rfl
theorem sz_183 : SizeIs Tryz.prog 183 1 := sizeIs_of info_183 rfl


theorem tmod30b (x : Int) : -30 < x.tmod 30 ∧ x.tmod 30 < 30 := by
  rcases Int.le_total 0 x with h | h
  · rw [Int.tmod_eq_emod_of_nonneg h]; omega
  · have e : x.tmod 30 = -((-x).tmod 30) := by rw [Int.neg_tmod, Int.neg_neg]
    rw [e, Int.tmod_eq_emod_of_nonneg (by omega)]; omega

theorem Below30_ct (x : Int) : CT Tryz.prog 12 #[.int .i64 x, .int .i64 30] [] (fun v M => ∃ c, v = .int .i64 c ∧ M = [] ∧ 0 ≤ c ∧ c < 30) := by
  refine t_fun (vs := [.int .i64 x, .int .i64 30]) (n := 12) Tryz.func12 rfl Tryz.ntmps12 rfl fun w0 F => ?_
  refine t_seq ?_
  refine t_region ?_
  refine tl_q rfl (ev_assign rfl) ?_
  refine tl_nil ?_
  refine te_code ?_
  refine t_seq ?_
  refine t_region ?_
  refine tl_q rfl (ev_move rfl) ?_
  refine tl_q rfl (ev_move rfl) ?_
  refine tl_q rfl (ev_rem rfl rfl (by omega)) ?_
  refine tl_q rfl (ev_move rfl) ?_
  have hb30 := tmod30b x
  refine tl_q rfl (ev_add' rfl rfl (by omega)) ?_
  refine tl_q rfl (ev_move rfl) ?_
  refine tl_q rfl (ev_rem' rfl rfl (by omega) (by omega)) ?_
  refine tl_q rfl (ev_assign rfl) ?_
  refine tl_nil ?_
  refine te_code ?_
  refine t_ret ?_
  refine te_ret_k (pre := []) (res1 rfl rfl) (by repeat (first | exact Frm.nil | exact Take.here | apply Take.there | apply Frm.cons)) ?_
  exact ⟨_, rfl, rfl, by omega, by omega⟩

theorem first1_ct (r : Row) : CT Tryz.prog 127 #[.agg (encRow r).toArray] [] (fun v M => v = .int .i64 0 ∧ M = []) := by
  refine t_fun (vs := [.agg (encRow r).toArray]) (n := 3) Tryz.func127 rfl Tryz.ntmps127 rfl fun w0 F => ?_
  refine t_seq ?_
  refine t_region ?_
  refine tl_e (eff_box rfl rfl rfl) ?_
  rintro _ _ ⟨b1, rfl, rfl⟩
  refine tl_q rfl (ev_assign rfl) ?_
  refine tl_nil ?_
  refine te_code ?_
  refine t_seq ?_
  refine t_region ?_
  refine tl_q rfl (ev_assign rfl) ?_
  refine tl_nil ?_
  refine te_code ?_
  refine t_ret ?_
  refine te_ret_k (pre := []) (res1 rfl rfl) (by repeat (first | exact Frm.nil | exact Take.here | apply Take.there | apply Frm.cons)) ?_
  exact ⟨rfl, rfl⟩

theorem first2_ct (r : Row) : CT Tryz.prog 128 #[.agg (encRow r).toArray] [] (fun v M => v = .int .i64 r.last ∧ M = []) := by
  refine t_fun (vs := [.agg (encRow r).toArray]) (n := 5) Tryz.func128 rfl Tryz.ntmps128 rfl fun w0 F => ?_
  refine t_seq ?_
  refine t_region ?_
  refine tl_e (eff_box rfl rfl rfl) ?_
  rintro _ _ ⟨b1, rfl, rfl⟩
  refine tl_q rfl (ev_assign rfl) ?_
  refine tl_nil ?_
  refine te_code ?_
  refine t_seq ?_
  refine t_region ?_
  refine tl_q rfl (ev_fieldAddr fa_45_4 rfl rfl) ?_
  refine tl_q rfl (ev_load sc_3 rfl (by first | (left; (repeat (first | exact List.Mem.head _ | apply List.Mem.tail)); done) | (right; (repeat (first | exact List.Mem.head _ | apply List.Mem.tail)); done)) rfl) ?_
  refine tl_q rfl (ev_assign rfl) ?_
  refine tl_nil ?_
  refine te_code ?_
  refine t_ret ?_
  refine te_ret_k (pre := []) (res1 rfl rfl) (by repeat (first | exact Frm.nil | exact Take.here | apply Take.there | apply Frm.cons)) ?_
  exact ⟨rfl, rfl⟩

theorem first3_ct (r : Row) : CT Tryz.prog 129 #[.agg (encRow r).toArray] [] (fun v M => v = .int .i64 r.e.level ∧ M = []) := by
  refine t_fun (vs := [.agg (encRow r).toArray]) (n := 6) Tryz.func129 rfl Tryz.ntmps129 rfl fun w0 F => ?_
  refine t_seq ?_
  refine t_region ?_
  refine tl_e (eff_box rfl rfl rfl) ?_
  rintro _ _ ⟨b1, rfl, rfl⟩
  refine tl_q rfl (ev_assign rfl) ?_
  refine tl_nil ?_
  refine te_code ?_
  refine t_seq ?_
  refine t_region ?_
  refine tl_q rfl (ev_fieldAddr fa_45_1 rfl rfl) ?_
  refine tl_q rfl (ev_fieldAddr fa_43_3 rfl rfl) ?_
  refine tl_q rfl (ev_load sc_3 rfl (by first | (left; (repeat (first | exact List.Mem.head _ | apply List.Mem.tail)); done) | (right; (repeat (first | exact List.Mem.head _ | apply List.Mem.tail)); done)) rfl) ?_
  refine tl_q rfl (ev_assign rfl) ?_
  refine tl_nil ?_
  refine te_code ?_
  refine t_ret ?_
  refine te_ret_k (pre := []) (res1 rfl rfl) (by repeat (first | exact Frm.nil | exact Take.here | apply Take.there | apply Frm.cons)) ?_
  exact ⟨rfl, rfl⟩

theorem first4_ct (r : Row) : CT Tryz.prog 130 #[.agg (encRow r).toArray] [] (fun v M => v = .int .i64 r.tally ∧ M = []) := by
  refine t_fun (vs := [.agg (encRow r).toArray]) (n := 5) Tryz.func130 rfl Tryz.ntmps130 rfl fun w0 F => ?_
  refine t_seq ?_
  refine t_region ?_
  refine tl_e (eff_box rfl rfl rfl) ?_
  rintro _ _ ⟨b1, rfl, rfl⟩
  refine tl_q rfl (ev_assign rfl) ?_
  refine tl_nil ?_
  refine te_code ?_
  refine t_seq ?_
  refine t_region ?_
  refine tl_q rfl (ev_fieldAddr fa_45_2 rfl rfl) ?_
  refine tl_q rfl (ev_load sc_3 rfl (by first | (left; (repeat (first | exact List.Mem.head _ | apply List.Mem.tail)); done) | (right; (repeat (first | exact List.Mem.head _ | apply List.Mem.tail)); done)) rfl) ?_
  refine tl_q rfl (ev_assign rfl) ?_
  refine tl_nil ?_
  refine te_code ?_
  refine t_ret ?_
  refine te_ret_k (pre := []) (res1 rfl rfl) (by repeat (first | exact Frm.nil | exact Take.here | apply Take.there | apply Frm.cons)) ?_
  exact ⟨rfl, rfl⟩


def firstF (s : ByteArray) : Value :=
  if s = ⟨#[105, 100]⟩ then .func (.func 127) #[] #[] else if s = ⟨#[108, 97, 115, 116]⟩ then .func (.func 128) #[] #[] else
  if s = ⟨#[108, 101, 118, 101, 108]⟩ then .func (.func 129) #[] #[] else if s = ⟨#[116, 97, 108, 108, 121]⟩ then .func (.func 130) #[] #[] else .nilFunc

theorem first_ct (s : ByteArray) : CT Tryz.prog 82 #[.string s] [] (fun v M => v = firstF s ∧ M = []) := by
  refine t_fun (vs := [.string s]) (n := 12) Tryz.func82 rfl Tryz.ntmps82 rfl fun w0 F => ?_
  refine t_seq ?_
  refine t_region ?_
  refine tl_q rfl (ev_assign rfl) ?_
  refine tl_nil ?_
  refine te_code ?_
  refine t_seq ?_
  refine t_seq ?_
  refine t_region ?_
  refine tl_q rfl (ev_move rfl) ?_
  refine tl_nil ?_
  refine te_code ?_
  refine t_block ?_
  refine t_seq ?_
  refine t_region ?_
  refine tl_q rfl (ev_seql rfl rfl) ?_
  refine tl_q rfl (ev_assign rfl) ?_
  refine tl_nil ?_
  refine te_code ?_
  refine t_cond_dec rfl (fun h1 => ?_) (fun h1 => ?_)
  · refine t_seq ?_
    refine t_region ?_
    refine tl_q rfl (ev_assign rfl) ?_
    refine tl_nil ?_
    refine te_code ?_
    refine t_ret ?_
    refine te_ret_k (pre := []) (res1 rfl rfl) (by repeat (first | exact Frm.nil | exact Take.here | apply Take.there | apply Frm.cons)) ?_
    refine ⟨?_, rfl⟩
    first | (rw [firstF, if_pos h1]; done) | (rw [firstF, if_neg h1, if_pos h2]; done) | (rw [firstF, if_neg h1, if_neg h2, if_pos h3]; done) | (rw [firstF, if_neg h1, if_neg h2, if_neg h3, if_pos h4]; done) | (rw [firstF, if_neg h1, if_neg h2, if_neg h3, if_neg h4]; done)
  · refine t_seq ?_
    refine t_region ?_
    refine tl_q rfl (ev_seql rfl rfl) ?_
    refine tl_q rfl (ev_assign rfl) ?_
    refine tl_nil ?_
    refine te_code ?_
    refine t_cond_dec rfl (fun h2 => ?_) (fun h2 => ?_)
    · refine t_seq ?_
      refine t_region ?_
      refine tl_q rfl (ev_assign rfl) ?_
      refine tl_nil ?_
      refine te_code ?_
      refine t_ret ?_
      refine te_ret_k (pre := []) (res1 rfl rfl) (by repeat (first | exact Frm.nil | exact Take.here | apply Take.there | apply Frm.cons)) ?_
      refine ⟨?_, rfl⟩
      first | (rw [firstF, if_pos h1]; done) | (rw [firstF, if_neg h1, if_pos h2]; done) | (rw [firstF, if_neg h1, if_neg h2, if_pos h3]; done) | (rw [firstF, if_neg h1, if_neg h2, if_neg h3, if_pos h4]; done) | (rw [firstF, if_neg h1, if_neg h2, if_neg h3, if_neg h4]; done)
    · refine t_seq ?_
      refine t_region ?_
      refine tl_q rfl (ev_seql rfl rfl) ?_
      refine tl_q rfl (ev_assign rfl) ?_
      refine tl_nil ?_
      refine te_code ?_
      refine t_cond_dec rfl (fun h3 => ?_) (fun h3 => ?_)
      · refine t_seq ?_
        refine t_region ?_
        refine tl_q rfl (ev_assign rfl) ?_
        refine tl_nil ?_
        refine te_code ?_
        refine t_ret ?_
        refine te_ret_k (pre := []) (res1 rfl rfl) (by repeat (first | exact Frm.nil | exact Take.here | apply Take.there | apply Frm.cons)) ?_
        refine ⟨?_, rfl⟩
        first | (rw [firstF, if_pos h1]; done) | (rw [firstF, if_neg h1, if_pos h2]; done) | (rw [firstF, if_neg h1, if_neg h2, if_pos h3]; done) | (rw [firstF, if_neg h1, if_neg h2, if_neg h3, if_pos h4]; done) | (rw [firstF, if_neg h1, if_neg h2, if_neg h3, if_neg h4]; done)
      · refine t_seq ?_
        refine t_region ?_
        refine tl_q rfl (ev_seql rfl rfl) ?_
        refine tl_q rfl (ev_assign rfl) ?_
        refine tl_nil ?_
        refine te_code ?_
        refine t_cond_dec rfl (fun h4 => ?_) (fun h4 => ?_)
        · refine t_seq ?_
          refine t_region ?_
          refine tl_q rfl (ev_assign rfl) ?_
          refine tl_nil ?_
          refine te_code ?_
          refine t_ret ?_
          refine te_ret_k (pre := []) (res1 rfl rfl) (by repeat (first | exact Frm.nil | exact Take.here | apply Take.there | apply Frm.cons)) ?_
          refine ⟨?_, rfl⟩
          first | (rw [firstF, if_pos h1]; done) | (rw [firstF, if_neg h1, if_pos h2]; done) | (rw [firstF, if_neg h1, if_neg h2, if_pos h3]; done) | (rw [firstF, if_neg h1, if_neg h2, if_neg h3, if_pos h4]; done) | (rw [firstF, if_neg h1, if_neg h2, if_neg h3, if_neg h4]; done)
        · refine t_skip ?_
          refine te_blk ?_
          refine te_code ?_
          refine t_seq ?_
          refine t_region ?_
          refine tl_q rfl (ev_assign rfl) ?_
          refine tl_nil ?_
          refine te_code ?_
          refine t_ret ?_
          refine te_ret_k (pre := []) (res1 rfl rfl) (by repeat (first | exact Frm.nil | exact Take.here | apply Take.there | apply Frm.cons)) ?_
          refine ⟨?_, rfl⟩
          first | (rw [firstF, if_pos h1]; done) | (rw [firstF, if_neg h1, if_pos h2]; done) | (rw [firstF, if_neg h1, if_neg h2, if_pos h3]; done) | (rw [firstF, if_neg h1, if_neg h2, if_neg h3, if_pos h4]; done) | (rw [firstF, if_neg h1, if_neg h2, if_neg h3, if_neg h4]; done)

theorem by_ct (s : ByteArray) (k : Nat) (hk : firstF s = .func (.func k) #[] #[]) : CT Tryz.prog 83 #[.string s] [] (fun v M => ∃ b, v = .func (.func 131) #[] #[.pointer (some ⟨b, 0, none⟩)] ∧ M = [blk b (.cells #[.func (.func k) #[] #[]] 183 (0, 0))]) := by
  refine t_fun (vs := [.string s]) (n := 7) Tryz.func83 rfl Tryz.ntmps83 rfl fun w0 F => ?_
  refine t_seq ?_
  refine t_region ?_
  refine tl_q rfl (ev_assign rfl) ?_
  refine tl_nil ?_
  refine te_code ?_
  refine t_seq ?_
  refine t_region ?_
  refine tl_q rfl (ev_move rfl) ?_
  refine tl_e (eff_call rfl rfl body_82 rfl (by repeat (first | exact Frm.nil | exact Take.here | apply Take.there | apply Frm.cons)) (first_ct _)) ?_
  rintro _ _ ⟨v5, _, ⟨rfl, rfl⟩, rfl, rfl⟩
  rw [hk]
  refine tl_e (eff_alloc rfl zero_183 rfl) ?_
  rintro _ _ ⟨b3, rfl, rfl⟩
  refine tl_e (eff_store rfl rfl rfl rfl sz_183 (by first | (simp [Flat]; done) | exact flatS _ | exact flatTick _ | exact flatRow _ | exact flatEvt _ | exact flatI _) (by repeat (first | exact Upd.here | apply Upd.there)) (by repeat (first | exact LPut.nil | apply LPut.cons | apply LPut.succ))) ?_
  rintro _ _ ⟨rfl, rfl⟩
  refine tl_nil ?_
  refine te_code ?_
  refine t_seq ?_
  refine t_region ?_
  refine tl_q rfl (ev_makeFunc rfl rfl) ?_
  refine tl_q rfl (ev_assign rfl) ?_
  refine tl_nil ?_
  refine te_code ?_
  refine t_ret ?_
  refine te_ret (res1 rfl rfl) ?_
  exact ⟨_, rfl, rfl⟩

end Go.SL
