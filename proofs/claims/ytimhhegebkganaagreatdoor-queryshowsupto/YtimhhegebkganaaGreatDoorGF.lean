/- Contracts of board.Check, put, Get. -/
import Derived.Test.YtimhhegebkganaaGreatDoorProg
import Derived.Test.YtimhhegebkganaaGreatDoorGE
set_option linter.unusedSimpArgs false
set_option linter.unusedVariables false
set_option maxRecDepth 4000
namespace Go.SL
open Go.Proofs

theorem body_76 : (Tryz.prog.funcs[76]?).map (fun fn => fn.body.isSome && !(fn.name == "runtime.NumGoroutine")) = some true := by kernel_rfl
theorem info_43 : Tryz.prog.info? 43 = some Tryz.t43 := by kernel_rfl
theorem st_43 : StructIs Tryz.prog 43 (fun j => ([(0, 1), (1, 1), (2, 1), (3, 1), (4, 1)] : List (Nat × Nat))[j]?) [.string ⟨#[]⟩, .string ⟨#[]⟩, .string ⟨#[]⟩, .int .i64 0, .string ⟨#[]⟩] := structIs_of (ss := [1, 1, 1, 1, 1]) Tryz.underlying43 info_43 rfl (by kernel_rfl)
theorem fa_45_3 : FldAt Tryz.prog 45 3 7 := fun a w => by kernel_rfl
theorem body_74 : (Tryz.prog.funcs[74]?).map (fun fn => fn.body.isSome && !(fn.name == "runtime.NumGoroutine")) = some true := by kernel_rfl
theorem fa_45_4 : FldAt Tryz.prog 45 4 8 := fun a w => by kernel_rfl
theorem fa_45_5 : FldAt Tryz.prog 45 5 9 := fun a w => by kernel_rfl
theorem sc_4 : IsSc Tryz.prog 4 := isSc_of Tryz.underlying4 rfl
theorem fa_45_6 : FldAt Tryz.prog 45 6 10 := fun a w => by kernel_rfl
theorem body_75 : (Tryz.prog.funcs[75]?).map (fun fn => fn.body.isSome && !(fn.name == "runtime.NumGoroutine")) = some true := by kernel_rfl
theorem fa_45_0 : FldAt Tryz.prog 45 0 0 := fun a w => by kernel_rfl
theorem fa_45_1 : FldAt Tryz.prog 45 1 1 := fun a w => by kernel_rfl
theorem fa_45_2 : FldAt Tryz.prog 45 2 6 := fun a w => by kernel_rfl
theorem ag_43 : IsAg Tryz.prog 43 5 := isAg_of Tryz.underlying43 rfl info_43 rfl
theorem info_125 : Tryz.prog.info? 125 = some Tryz.t125 := by kernel_rfl
theorem zero_125 : ZeroIs Tryz.prog 125 (.agg #[.string ⟨#[]⟩, .string ⟨#[]⟩, .string ⟨#[]⟩]) := zeroIs_of info_125 rfl
theorem st_125 : StructIs Tryz.prog 125 (fun j => ([(0, 1), (1, 1), (2, 1)] : List (Nat × Nat))[j]?) [.string ⟨#[]⟩, .string ⟨#[]⟩, .string ⟨#[]⟩] := structIs_of (ss := [1, 1, 1]) Tryz.underlying125 info_125 rfl (by kernel_rfl)
theorem sz_125 : SizeIs Tryz.prog 125 3 := sizeIs_of info_125 rfl
theorem ag_125 : IsAg Tryz.prog 125 3 := isAg_of Tryz.underlying125 rfl info_125 rfl
theorem body_40 : (Tryz.prog.funcs[40]?).map (fun fn => fn.body.isSome && !(fn.name == "runtime.NumGoroutine")) = some true := by kernel_rfl
theorem follows : Tryz.prog.follows .mixedOrders = true := by kernel_rfl
theorem fa_94_2 : FldAt Tryz.prog 94 2 2 := fun a w => by kernel_rfl
theorem sc_91 : IsSc Tryz.prog 91 := isSc_of Tryz.underlying91 rfl
theorem info_45 : Tryz.prog.info? 45 = some Tryz.t45 := by kernel_rfl
theorem ag_45 : IsAg Tryz.prog 45 11 := isAg_of Tryz.underlying45 rfl info_45 rfl
theorem map_91 : IsMap Tryz.prog 91 3 45 := isMap_of Tryz.underlying91
theorem fa_94_3 : FldAt Tryz.prog 94 3 3 := fun a w => by kernel_rfl
theorem sc_92 : IsSc Tryz.prog 92 := isSc_of Tryz.underlying92 rfl
theorem map_92 : IsMap Tryz.prog 92 125 3 := isMap_of Tryz.underlying92
theorem sz_45 : SizeIs Tryz.prog 45 11 := sizeIs_of info_45 rfl
theorem zero_45 : ZeroIs Tryz.prog 45 (.agg #[.int .i64 0, .string ⟨#[]⟩, .string ⟨#[]⟩, .string ⟨#[]⟩, .int .i64 0, .string ⟨#[]⟩, .int .i64 0, .int .i64 0, .int .i64 0, .bool false, .string ⟨#[]⟩]) := zeroIs_of info_45 rfl


def okRow (r : Row) : Prop := r.e.node.size ≤ 1000000 ∧ r.e.cls.size ≤ 1000000 ∧ r.e.key.size ≤ 1000000 ∧ r.e.text.size ≤ 1000000 ∧ r.by_.size ≤ 1000000
theorem ko_3 : KeyOk Tryz.prog 3 (Value.int .i64) := keyOk_int Tryz.underlying3
theorem stood_sign : Tryz.prog.stoodInHeld 125 = false := by kernel_rfl
theorem ko_125 : KeyOk Tryz.prog 125 signV where
  eq a b w := by
    have hu := run_underlying Tryz.underlying125 w
    unfold Op.equal Op.maxDepth
    rw [show (10000 : Nat) = 9999 + 1 from rfl]
    unfold Op.equalIn
    obtain ⟨a1, a2, a3⟩ := a
    obtain ⟨b1, b2, b3⟩ := b
    simp [hu, program, Sem.run, stood_sign, run_part sc_9, run_eq_str Tryz.underlying9, signV]
    by_cases h1 : a1 = b1 <;> by_cases h2 : a2 = b2 <;> by_cases h3 : a3 = b3 <;> simp [h1, h2, h3, run_part sc_9, run_eq_str Tryz.underlying9]
  chk e a w := by
    have hu := run_underlying Tryz.underlying125 w
    rw [show (10000 : Nat) = 9999 + 1 from rfl]
    unfold Instr.checkKey
    obtain ⟨a1, a2, a3⟩ := a
    simp [hu, run_part sc_9, run_chk_sc Tryz.underlying9 rfl, signV]
  und := ⟨_, fun w => run_underlying Tryz.underlying125 w, .inr fun a b => by simp [Instr.sameNow, signV]⟩
  bits a := by
    rw [show (10000 : Nat) = 9998 + 1 + 1 from rfl]
    simp [Instr.sameBits, signV, beq_ba]
def signOf (e : Evt) : Sign := (e.node, e.cls, e.key)
/-- a row that no check turns away -/
def goodR (r : Row) : Prop := 1 ≤ r.id ∧ 1 ≤ r.e.level ∧ 1 ≤ r.tally ∧ r.tally ≤ 1000 ∧ r.first = 0 ∧ r.last = 0 ∧ r.acked = false ∧ r.by_ = ⟨#[]⟩ ∧ goodE r.e

theorem isWho_ct (s : ByteArray) (hs : s.size ≤ 1000000) : CT Tryz.prog 75 #[.string s] [] (fun v M => ∃ b : Bool, v = .bool b ∧ M = []) := by
  refine t_fun (vs := [.string s]) (n := 7) Tryz.func75 rfl Tryz.ntmps75 rfl fun w0 F => ?_
  refine t_seq ?_
  refine t_region ?_
  refine tl_q rfl (ev_assign rfl) ?_
  refine tl_nil ?_
  refine te_code ?_
  refine t_seq ?_
  refine t_region ?_
  refine tl_q rfl (ev_move rfl) ?_
  refine tl_q rfl (ev_build st_43 rfl (by repeat (first | exact FillR.nil | exact LPut.nil | apply LPut.cons | apply LPut.succ | apply FillR.cons rfl rfl rfl))) ?_
  refine tl_e (eff_call rfl rfl body_76 rfl (by repeat (first | exact Frm.nil | exact Take.here | apply Take.there | apply Frm.cons)) (norm_Check_ct ⟨s, ⟨#[99]⟩, ⟨#[]⟩, 0, ⟨#[]⟩⟩ hs (by show (1:Nat) ≤ _; omega) (by show (0:Nat) ≤ _; omega) (by show (0:Nat) ≤ _; omega))) ?_
  rintro _ _ ⟨_, _, ⟨c, rfl, rfl, hc, hcg⟩, rfl, rfl⟩
  refine tl_q rfl (ev_eql rfl rfl) ?_
  refine tl_q rfl (ev_assign rfl) ?_
  refine tl_nil ?_
  refine te_code ?_
  refine t_ret ?_
  refine te_ret (res1 rfl rfl) ?_
  exact ⟨_, rfl, rfl⟩

theorem board_Check_ct (r : Row) (hr : okRow r) : CT Tryz.prog 41 #[.agg (encRow r).toArray] [] (fun v M => ∃ c, v = .int .i64 c ∧ M = [] ∧ (c = 0 ∨ c = 4) ∧ (c = 0 → 1 ≤ r.id) ∧ (goodR r → c = 0)) := by
  refine t_fun (vs := [.agg (encRow r).toArray]) (n := 70) Tryz.func41 rfl Tryz.ntmps41 rfl fun w0 F => ?_
  obtain ⟨hr1, hr2, hr3, hr4, hr5⟩ := hr
  refine t_seq ?_
  refine t_region ?_
  refine tl_e (eff_box rfl rfl rfl) ?_
  rintro _ _ ⟨b1, rfl, rfl⟩
  refine tl_q rfl (ev_assign rfl) ?_
  refine tl_nil ?_
  refine te_code ?_
  refine t_join (α := Bool) (fun b => [(3, .bool b), (1, .pointer (some ⟨b1, 0, none⟩))]) (fun _ => [blk b1 (.cells (encRow r).toArray 45 (0, 0))]) (fun b => goodR r → b = true) ?_ ?_
  · refine t_region ?_
    refine tl_q rfl (ev_fieldAddr fa_45_3 rfl rfl) ?_
    refine tl_q rfl (ev_load sc_3 rfl (by first | (left; (repeat (first | exact List.Mem.head _ | apply List.Mem.tail)); done) | (right; (repeat (first | exact List.Mem.head _ | apply List.Mem.tail)); done)) rfl) ?_
    refine tl_e (eff_call rfl rfl body_74 rfl (by repeat (first | exact Frm.nil | exact Take.here | apply Take.there | apply Frm.cons)) (board_isTime_ct _)) ?_
    rintro _ _ ⟨v7, _, ⟨rfl, rfl⟩, rfl, rfl⟩
    refine tl_q rfl (ev_move rfl) ?_
    refine tl_split_dec 8 rfl (fun g1_3 => ?_) (fun g1_3 => ?_)
    · refine tl_guard rfl rfl rfl ?_
      refine tl_q rfl (ev_fieldAddr fa_45_4 rfl rfl) ?_
      refine tl_guard rfl rfl rfl ?_
      refine tl_q rfl (ev_load sc_3 rfl (by first | (left; (repeat (first | exact List.Mem.head _ | apply List.Mem.tail)); done) | (right; (repeat (first | exact List.Mem.head _ | apply List.Mem.tail)); done)) rfl) ?_
      refine tl_guard rfl rfl rfl ?_
      refine tl_e (eff_call rfl rfl body_74 rfl (by repeat (first | exact Frm.nil | exact Take.here | apply Take.there | apply Frm.cons)) (board_isTime_ct _)) ?_
      rintro _ _ ⟨v11, _, ⟨rfl, rfl⟩, rfl, rfl⟩
      refine tl_q rfl (ev_pick_true rfl rfl) ?_
      refine tl_q rfl (ev_move rfl) ?_
      refine tl_split_dec 13 rfl (fun g1_8 => ?_) (fun g1_8 => ?_)
      · refine tl_guard rfl rfl rfl ?_
        refine tl_q rfl (ev_fieldAddr fa_45_3 rfl rfl) ?_
        refine tl_guard rfl rfl rfl ?_
        refine tl_q rfl (ev_load sc_3 rfl (by first | (left; (repeat (first | exact List.Mem.head _ | apply List.Mem.tail)); done) | (right; (repeat (first | exact List.Mem.head _ | apply List.Mem.tail)); done)) rfl) ?_
        refine tl_guard rfl rfl rfl ?_
        refine tl_q rfl (ev_fieldAddr fa_45_4 rfl rfl) ?_
        refine tl_guard rfl rfl rfl ?_
        refine tl_q rfl (ev_load sc_3 rfl (by first | (left; (repeat (first | exact List.Mem.head _ | apply List.Mem.tail)); done) | (right; (repeat (first | exact List.Mem.head _ | apply List.Mem.tail)); done)) rfl) ?_
        refine tl_guard rfl rfl rfl ?_
        refine tl_q rfl (ev_leq rfl rfl) ?_
        refine tl_q rfl (ev_pick_true rfl rfl) ?_
        refine tl_q rfl (ev_assign rfl) ?_
        refine tl_nil ?_
        refine te_join _ (by exact sub_cons rfl (sub_cons rfl (sub_nil))) (fun _ h => hold_keep (by repeat (first | exact Frm.nil | exact Take.here | apply Take.there | apply Frm.cons)) h) ?_
        intro g; obtain ⟨f1, f2, f3, f4, f5, f6, f7, f8, f9⟩ := g; first | (simp [f5, f6]; done) | (exfalso; omega) | (simp_all; done)
      · refine tl_guard_no rfl rfl rfl rfl ?_
        refine tl_guard_no rfl rfl rfl rfl ?_
        refine tl_guard_no rfl rfl rfl rfl ?_
        refine tl_guard_no rfl rfl rfl rfl ?_
        refine tl_guard_no rfl rfl rfl rfl ?_
        refine tl_q rfl (ev_pick_false rfl rfl) ?_
        refine tl_q rfl (ev_assign rfl) ?_
        refine tl_nil ?_
        refine te_join _ (by exact sub_cons rfl (sub_cons rfl (sub_nil))) (fun _ h => hold_keep (by repeat (first | exact Frm.nil | exact Take.here | apply Take.there | apply Frm.cons)) h) ?_
        intro g; obtain ⟨f1, f2, f3, f4, f5, f6, f7, f8, f9⟩ := g; first | (simp [f5, f6]; done) | (exfalso; omega) | (simp_all; done)
    · refine tl_guard_no rfl rfl rfl rfl ?_
      refine tl_guard_no rfl rfl rfl rfl ?_
      refine tl_guard_no rfl rfl rfl rfl ?_
      refine tl_q rfl (ev_pick_false rfl rfl) ?_
      refine tl_q rfl (ev_move rfl) ?_
      refine tl_guard_no rfl rfl rfl rfl ?_
      refine tl_guard_no rfl rfl rfl rfl ?_
      refine tl_guard_no rfl rfl rfl rfl ?_
      refine tl_guard_no rfl rfl rfl rfl ?_
      refine tl_guard_no rfl rfl rfl rfl ?_
      refine tl_q rfl (ev_pick_false rfl rfl) ?_
      refine tl_q rfl (ev_assign rfl) ?_
      refine tl_nil ?_
      refine te_join _ (by exact sub_cons rfl (sub_cons rfl (sub_nil))) (fun _ h => hold_keep (by repeat (first | exact Frm.nil | exact Take.here | apply Take.there | apply Frm.cons)) h) ?_
      intro g; obtain ⟨f1, f2, f3, f4, f5, f6, f7, f8, f9⟩ := g; first | (simp [f5, f6]; done) | (exfalso; omega) | (simp_all; done)
  · rintro t3 hj3
    refine t_join (α := Bool) (fun b => [(4, .bool b), (3, .bool t3), (1, .pointer (some ⟨b1, 0, none⟩))]) (fun _ => [blk b1 (.cells (encRow r).toArray 45 (0, 0))]) (fun b => goodR r → b = true) ?_ ?_
    · refine t_region ?_
      refine tl_q rfl (ev_fieldAddr fa_45_5 rfl rfl) ?_
      refine tl_q rfl (ev_load sc_4 rfl (by first | (left; (repeat (first | exact List.Mem.head _ | apply List.Mem.tail)); done) | (right; (repeat (first | exact List.Mem.head _ | apply List.Mem.tail)); done)) rfl) ?_
      refine tl_q rfl (ev_move rfl) ?_
      refine tl_split 22 rfl (fun g2_2 => ?_) (fun g2_2 => ?_)
      · refine tl_guard rfl rfl rfl ?_
        refine tl_q rfl (ev_fieldAddr fa_45_6 rfl rfl) ?_
        refine tl_guard rfl rfl rfl ?_
        refine tl_q rfl (ev_load sc_9 rfl (by first | (left; (repeat (first | exact List.Mem.head _ | apply List.Mem.tail)); done) | (right; (repeat (first | exact List.Mem.head _ | apply List.Mem.tail)); done)) rfl) ?_
        refine tl_guard rfl rfl rfl ?_
        refine tl_e (eff_call rfl rfl body_75 rfl (by repeat (first | exact Frm.nil | exact Take.here | apply Take.there | apply Frm.cons)) (isWho_ct _ (by omega))) ?_
        rintro _ _ ⟨v25, _, ⟨b, rfl, rfl⟩, rfl, rfl⟩
        refine tl_q rfl (ev_pick_true rfl rfl) ?_
        refine tl_q rfl (ev_move rfl) ?_
        refine tl_split 27 rfl (fun g2_7 => ?_) (fun g2_7 => ?_)
        · refine tl_guard_no rfl rfl rfl rfl ?_
          refine tl_guard_no rfl rfl rfl rfl ?_
          refine tl_guard_no rfl rfl rfl rfl ?_
          refine tl_guard_no rfl rfl rfl rfl ?_
          refine tl_guard_un rfl rfl rfl ?_
          refine tl_guard_un rfl rfl rfl ?_
          refine tl_guard_un rfl rfl rfl ?_
          refine tl_guard_no rfl rfl rfl rfl ?_
          refine tl_q rfl (ev_pick_true rfl rfl) ?_
          refine tl_q rfl (ev_assign rfl) ?_
          refine tl_nil ?_
          refine te_join _ (by exact sub_cons rfl (sub_cons rfl (sub_cons rfl (sub_nil)))) (fun _ h => hold_keep (by repeat (first | exact Frm.nil | exact Take.here | apply Take.there | apply Frm.cons)) h) ?_
          intro g; obtain ⟨f1, f2, f3, f4, f5, f6, f7, f8, f9⟩ := g; first | (simp [f5, f6]; done) | (exfalso; omega) | (simp_all; done)
        · refine tl_guard rfl rfl rfl ?_
          refine tl_q rfl (ev_fieldAddr fa_45_5 rfl rfl) ?_
          refine tl_guard rfl rfl rfl ?_
          refine tl_q rfl (ev_load sc_4 rfl (by first | (left; (repeat (first | exact List.Mem.head _ | apply List.Mem.tail)); done) | (right; (repeat (first | exact List.Mem.head _ | apply List.Mem.tail)); done)) rfl) ?_
          refine tl_guard rfl rfl rfl ?_
          refine tl_q rfl (ev_not rfl) ?_
          refine tl_guard rfl rfl rfl ?_
          refine tl_q rfl (ev_move rfl) ?_
          refine tl_split 31 rfl (fun g2_11 => ?_) (fun g2_11 => ?_)
          · refine tl_guard rfl rfl rfl ?_
            refine tl_q rfl (ev_fieldAddr fa_45_6 rfl rfl) ?_
            refine tl_guard rfl rfl rfl ?_
            refine tl_q rfl (ev_load sc_9 rfl (by first | (left; (repeat (first | exact List.Mem.head _ | apply List.Mem.tail)); done) | (right; (repeat (first | exact List.Mem.head _ | apply List.Mem.tail)); done)) rfl) ?_
            refine tl_guard rfl rfl rfl ?_
            refine tl_q rfl (ev_seql rfl rfl) ?_
            refine tl_guard rfl rfl rfl ?_
            refine tl_q rfl (ev_pick_true rfl rfl) ?_
            refine tl_q rfl (ev_pick_false rfl rfl) ?_
            refine tl_q rfl (ev_assign rfl) ?_
            refine tl_nil ?_
            refine te_join _ (by exact sub_cons rfl (sub_cons rfl (sub_cons rfl (sub_nil)))) (fun _ h => hold_keep (by repeat (first | exact Frm.nil | exact Take.here | apply Take.there | apply Frm.cons)) h) ?_
            intro g; obtain ⟨f1, f2, f3, f4, f5, f6, f7, f8, f9⟩ := g; first | (simp [f5, f6]; done) | (exfalso; omega) | (simp_all; done)
          · refine tl_guard_no rfl rfl rfl rfl ?_
            refine tl_guard_no rfl rfl rfl rfl ?_
            refine tl_guard_no rfl rfl rfl rfl ?_
            refine tl_guard rfl rfl rfl ?_
            refine tl_q rfl (ev_pick_false rfl rfl) ?_
            refine tl_q rfl (ev_pick_false rfl rfl) ?_
            refine tl_q rfl (ev_assign rfl) ?_
            refine tl_nil ?_
            refine te_join _ (by exact sub_cons rfl (sub_cons rfl (sub_cons rfl (sub_nil)))) (fun _ h => hold_keep (by repeat (first | exact Frm.nil | exact Take.here | apply Take.there | apply Frm.cons)) h) ?_
            intro g; obtain ⟨f1, f2, f3, f4, f5, f6, f7, f8, f9⟩ := g; first | (simp [f5, f6]; done) | (exfalso; omega) | (simp_all; done)
      · refine tl_guard_no rfl rfl rfl rfl ?_
        refine tl_guard_no rfl rfl rfl rfl ?_
        refine tl_guard_no rfl rfl rfl rfl ?_
        refine tl_q rfl (ev_pick_false rfl rfl) ?_
        refine tl_q rfl (ev_move rfl) ?_
        refine tl_guard rfl rfl rfl ?_
        refine tl_q rfl (ev_fieldAddr fa_45_5 rfl rfl) ?_
        refine tl_guard rfl rfl rfl ?_
        refine tl_q rfl (ev_load sc_4 rfl (by first | (left; (repeat (first | exact List.Mem.head _ | apply List.Mem.tail)); done) | (right; (repeat (first | exact List.Mem.head _ | apply List.Mem.tail)); done)) rfl) ?_
        refine tl_guard rfl rfl rfl ?_
        refine tl_q rfl (ev_not rfl) ?_
        refine tl_guard rfl rfl rfl ?_
        refine tl_q rfl (ev_move rfl) ?_
        refine tl_split 31 rfl (fun g2_11 => ?_) (fun g2_11 => ?_)
        · refine tl_guard rfl rfl rfl ?_
          refine tl_q rfl (ev_fieldAddr fa_45_6 rfl rfl) ?_
          refine tl_guard rfl rfl rfl ?_
          refine tl_q rfl (ev_load sc_9 rfl (by first | (left; (repeat (first | exact List.Mem.head _ | apply List.Mem.tail)); done) | (right; (repeat (first | exact List.Mem.head _ | apply List.Mem.tail)); done)) rfl) ?_
          refine tl_guard rfl rfl rfl ?_
          refine tl_q rfl (ev_seql rfl rfl) ?_
          refine tl_guard rfl rfl rfl ?_
          refine tl_q rfl (ev_pick_true rfl rfl) ?_
          refine tl_q rfl (ev_pick_false rfl rfl) ?_
          refine tl_q rfl (ev_assign rfl) ?_
          refine tl_nil ?_
          refine te_join _ (by exact sub_cons rfl (sub_cons rfl (sub_cons rfl (sub_nil)))) (fun _ h => hold_keep (by repeat (first | exact Frm.nil | exact Take.here | apply Take.there | apply Frm.cons)) h) ?_
          intro g; obtain ⟨f1, f2, f3, f4, f5, f6, f7, f8, f9⟩ := g; first | (simp [f5, f6]; done) | (exfalso; omega) | (simp_all; done)
        · refine tl_guard_no rfl rfl rfl rfl ?_
          refine tl_guard_no rfl rfl rfl rfl ?_
          refine tl_guard_no rfl rfl rfl rfl ?_
          refine tl_guard rfl rfl rfl ?_
          refine tl_q rfl (ev_pick_false rfl rfl) ?_
          refine tl_q rfl (ev_pick_false rfl rfl) ?_
          refine tl_q rfl (ev_assign rfl) ?_
          refine tl_nil ?_
          refine te_join _ (by exact sub_cons rfl (sub_cons rfl (sub_cons rfl (sub_nil)))) (fun _ h => hold_keep (by repeat (first | exact Frm.nil | exact Take.here | apply Take.there | apply Frm.cons)) h) ?_
          intro g; obtain ⟨f1, f2, f3, f4, f5, f6, f7, f8, f9⟩ := g; first | (simp [f5, f6]; done) | (exfalso; omega) | (simp_all; done)
    · rintro t4 hj4
      refine t_seq ?_
      refine t_seq ?_
      refine t_region ?_
      refine tl_q rfl (ev_fieldAddr fa_45_0 rfl rfl) ?_
      refine tl_q rfl (ev_load sc_3 rfl (by first | (left; (repeat (first | exact List.Mem.head _ | apply List.Mem.tail)); done) | (right; (repeat (first | exact List.Mem.head _ | apply List.Mem.tail)); done)) rfl) ?_
      refine tl_q rfl (ev_lss rfl rfl) ?_
      refine tl_q rfl (ev_move rfl) ?_
      refine tl_split_dec 40 rfl (fun g3_3 => ?_) (fun g3_3 => ?_)
      · refine tl_guard_no rfl rfl rfl rfl ?_
        refine tl_guard_no rfl rfl rfl rfl ?_
        refine tl_guard_no rfl rfl rfl rfl ?_
        refine tl_guard_no rfl rfl rfl rfl ?_
        refine tl_q rfl (ev_pick_true rfl rfl) ?_
        refine tl_q rfl (ev_move rfl) ?_
        refine tl_guard_no rfl rfl rfl rfl ?_
        refine tl_guard_no rfl rfl rfl rfl ?_
        refine tl_guard_no rfl rfl rfl rfl ?_
        refine tl_q rfl (ev_pick_true rfl rfl) ?_
        refine tl_q rfl (ev_move rfl) ?_
        refine tl_guard_no rfl rfl rfl rfl ?_
        refine tl_guard_no rfl rfl rfl rfl ?_
        refine tl_guard_no rfl rfl rfl rfl ?_
        refine tl_q rfl (ev_pick_true rfl rfl) ?_
        refine tl_q rfl (ev_move rfl) ?_
        refine tl_guard_no rfl rfl rfl rfl ?_
        refine tl_guard_no rfl rfl rfl rfl ?_
        refine tl_q rfl (ev_pick_true rfl rfl) ?_
        refine tl_q rfl (ev_move rfl) ?_
        refine tl_guard_no rfl rfl rfl rfl ?_
        refine tl_guard_no rfl rfl rfl rfl ?_
        refine tl_q rfl (ev_pick_true rfl rfl) ?_
        refine tl_q rfl (ev_move rfl) ?_
        refine tl_guard_no rfl rfl rfl rfl ?_
        refine tl_guard_no rfl rfl rfl rfl ?_
        refine tl_guard_no rfl rfl rfl rfl ?_
        refine tl_guard_no rfl rfl rfl rfl ?_
        refine tl_q rfl (ev_pick_true rfl rfl) ?_
        refine tl_nil ?_
        refine te_code ?_
        refine t_cond_true rfl ?_
        refine t_seq ?_
        refine t_region ?_
        refine tl_q rfl (ev_assign rfl) ?_
        refine tl_nil ?_
        refine te_code ?_
        refine t_ret ?_
        refine te_ret_k (pre := []) (res1 rfl rfl) (by repeat (first | exact Frm.nil | exact Take.here | apply Take.there | apply Frm.cons)) ?_
        refine ⟨_, rfl, rfl, by first | exact .inl rfl | exact .inr rfl, ?_, fun g => ?_⟩
        · first | (intro h; exact absurd h (by decide)) | (intro _; omega)
        · have a3 := hj3 g
          have a4 := hj4 g
          obtain ⟨f1, f2, f3, f4, f5, f6, f7, f8, f9⟩ := g
          first | rfl | omega | (subst a3; simp at g3_23; done) | (subst a4; simp at g3_27; done) | exact absurd (hcg f9) (by assumption)
      · refine tl_guard rfl rfl rfl ?_
        refine tl_q rfl (ev_fieldAddr fa_45_1 rfl rfl) ?_
        refine tl_guard rfl rfl rfl ?_
        refine tl_q rfl (ev_fieldAddr fa_43_3 rfl rfl) ?_
        refine tl_guard rfl rfl rfl ?_
        refine tl_q rfl (ev_load sc_3 rfl (by first | (left; (repeat (first | exact List.Mem.head _ | apply List.Mem.tail)); done) | (right; (repeat (first | exact List.Mem.head _ | apply List.Mem.tail)); done)) rfl) ?_
        refine tl_guard rfl rfl rfl ?_
        refine tl_q rfl (ev_lss rfl rfl) ?_
        refine tl_q rfl (ev_pick_false rfl rfl) ?_
        refine tl_q rfl (ev_move rfl) ?_
        refine tl_split_dec 46 rfl (fun g3_9 => ?_) (fun g3_9 => ?_)
        · refine tl_guard_no rfl rfl rfl rfl ?_
          refine tl_guard_no rfl rfl rfl rfl ?_
          refine tl_guard_no rfl rfl rfl rfl ?_
          refine tl_q rfl (ev_pick_true rfl rfl) ?_
          refine tl_q rfl (ev_move rfl) ?_
          refine tl_guard_no rfl rfl rfl rfl ?_
          refine tl_guard_no rfl rfl rfl rfl ?_
          refine tl_guard_no rfl rfl rfl rfl ?_
          refine tl_q rfl (ev_pick_true rfl rfl) ?_
          refine tl_q rfl (ev_move rfl) ?_
          refine tl_guard_no rfl rfl rfl rfl ?_
          refine tl_guard_no rfl rfl rfl rfl ?_
          refine tl_q rfl (ev_pick_true rfl rfl) ?_
          refine tl_q rfl (ev_move rfl) ?_
          refine tl_guard_no rfl rfl rfl rfl ?_
          refine tl_guard_no rfl rfl rfl rfl ?_
          refine tl_q rfl (ev_pick_true rfl rfl) ?_
          refine tl_q rfl (ev_move rfl) ?_
          refine tl_guard_no rfl rfl rfl rfl ?_
          refine tl_guard_no rfl rfl rfl rfl ?_
          refine tl_guard_no rfl rfl rfl rfl ?_
          refine tl_guard_no rfl rfl rfl rfl ?_
          refine tl_q rfl (ev_pick_true rfl rfl) ?_
          refine tl_nil ?_
          refine te_code ?_
          refine t_cond_true rfl ?_
          refine t_seq ?_
          refine t_region ?_
          refine tl_q rfl (ev_assign rfl) ?_
          refine tl_nil ?_
          refine te_code ?_
          refine t_ret ?_
          refine te_ret_k (pre := []) (res1 rfl rfl) (by repeat (first | exact Frm.nil | exact Take.here | apply Take.there | apply Frm.cons)) ?_
          refine ⟨_, rfl, rfl, by first | exact .inl rfl | exact .inr rfl, ?_, fun g => ?_⟩
          · first | (intro h; exact absurd h (by decide)) | (intro _; omega)
          · have a3 := hj3 g
            have a4 := hj4 g
            obtain ⟨f1, f2, f3, f4, f5, f6, f7, f8, f9⟩ := g
            first | rfl | omega | (subst a3; simp at g3_23; done) | (subst a4; simp at g3_27; done) | exact absurd (hcg f9) (by assumption)
        · refine tl_guard rfl rfl rfl ?_
          refine tl_q rfl (ev_fieldAddr fa_45_2 rfl rfl) ?_
          refine tl_guard rfl rfl rfl ?_
          refine tl_q rfl (ev_load sc_3 rfl (by first | (left; (repeat (first | exact List.Mem.head _ | apply List.Mem.tail)); done) | (right; (repeat (first | exact List.Mem.head _ | apply List.Mem.tail)); done)) rfl) ?_
          refine tl_guard rfl rfl rfl ?_
          refine tl_q rfl (ev_lss rfl rfl) ?_
          refine tl_q rfl (ev_pick_false rfl rfl) ?_
          refine tl_q rfl (ev_move rfl) ?_
          refine tl_split_dec 51 rfl (fun g3_14 => ?_) (fun g3_14 => ?_)
          · refine tl_guard_no rfl rfl rfl rfl ?_
            refine tl_guard_no rfl rfl rfl rfl ?_
            refine tl_guard_no rfl rfl rfl rfl ?_
            refine tl_q rfl (ev_pick_true rfl rfl) ?_
            refine tl_q rfl (ev_move rfl) ?_
            refine tl_guard_no rfl rfl rfl rfl ?_
            refine tl_guard_no rfl rfl rfl rfl ?_
            refine tl_q rfl (ev_pick_true rfl rfl) ?_
            refine tl_q rfl (ev_move rfl) ?_
            refine tl_guard_no rfl rfl rfl rfl ?_
            refine tl_guard_no rfl rfl rfl rfl ?_
            refine tl_q rfl (ev_pick_true rfl rfl) ?_
            refine tl_q rfl (ev_move rfl) ?_
            refine tl_guard_no rfl rfl rfl rfl ?_
            refine tl_guard_no rfl rfl rfl rfl ?_
            refine tl_guard_no rfl rfl rfl rfl ?_
            refine tl_guard_no rfl rfl rfl rfl ?_
            refine tl_q rfl (ev_pick_true rfl rfl) ?_
            refine tl_nil ?_
            refine te_code ?_
            refine t_cond_true rfl ?_
            refine t_seq ?_
            refine t_region ?_
            refine tl_q rfl (ev_assign rfl) ?_
            refine tl_nil ?_
            refine te_code ?_
            refine t_ret ?_
            refine te_ret_k (pre := []) (res1 rfl rfl) (by repeat (first | exact Frm.nil | exact Take.here | apply Take.there | apply Frm.cons)) ?_
            refine ⟨_, rfl, rfl, by first | exact .inl rfl | exact .inr rfl, ?_, fun g => ?_⟩
            · first | (intro h; exact absurd h (by decide)) | (intro _; omega)
            · have a3 := hj3 g
              have a4 := hj4 g
              obtain ⟨f1, f2, f3, f4, f5, f6, f7, f8, f9⟩ := g
              first | rfl | omega | (subst a3; simp at g3_23; done) | (subst a4; simp at g3_27; done) | exact absurd (hcg f9) (by assumption)
          · refine tl_guard rfl rfl rfl ?_
            refine tl_q rfl (ev_fieldAddr fa_45_2 rfl rfl) ?_
            refine tl_guard rfl rfl rfl ?_
            refine tl_q rfl (ev_load sc_3 rfl (by first | (left; (repeat (first | exact List.Mem.head _ | apply List.Mem.tail)); done) | (right; (repeat (first | exact List.Mem.head _ | apply List.Mem.tail)); done)) rfl) ?_
            refine tl_guard rfl rfl rfl ?_
            refine tl_q rfl (ev_gtr rfl rfl) ?_
            refine tl_q rfl (ev_pick_false rfl rfl) ?_
            refine tl_q rfl (ev_move rfl) ?_
            refine tl_split_dec 56 rfl (fun g3_19 => ?_) (fun g3_19 => ?_)
            · refine tl_guard_no rfl rfl rfl rfl ?_
              refine tl_guard_no rfl rfl rfl rfl ?_
              refine tl_q rfl (ev_pick_true rfl rfl) ?_
              refine tl_q rfl (ev_move rfl) ?_
              refine tl_guard_no rfl rfl rfl rfl ?_
              refine tl_guard_no rfl rfl rfl rfl ?_
              refine tl_q rfl (ev_pick_true rfl rfl) ?_
              refine tl_q rfl (ev_move rfl) ?_
              refine tl_guard_no rfl rfl rfl rfl ?_
              refine tl_guard_no rfl rfl rfl rfl ?_
              refine tl_guard_no rfl rfl rfl rfl ?_
              refine tl_guard_no rfl rfl rfl rfl ?_
              refine tl_q rfl (ev_pick_true rfl rfl) ?_
              refine tl_nil ?_
              refine te_code ?_
              refine t_cond_true rfl ?_
              refine t_seq ?_
              refine t_region ?_
              refine tl_q rfl (ev_assign rfl) ?_
              refine tl_nil ?_
              refine te_code ?_
              refine t_ret ?_
              refine te_ret_k (pre := []) (res1 rfl rfl) (by repeat (first | exact Frm.nil | exact Take.here | apply Take.there | apply Frm.cons)) ?_
              refine ⟨_, rfl, rfl, by first | exact .inl rfl | exact .inr rfl, ?_, fun g => ?_⟩
              · first | (intro h; exact absurd h (by decide)) | (intro _; omega)
              · have a3 := hj3 g
                have a4 := hj4 g
                obtain ⟨f1, f2, f3, f4, f5, f6, f7, f8, f9⟩ := g
                first | rfl | omega | (subst a3; simp at g3_23; done) | (subst a4; simp at g3_27; done) | exact absurd (hcg f9) (by assumption)
            · refine tl_guard rfl rfl rfl ?_
              refine tl_q rfl (ev_move rfl) ?_
              refine tl_guard rfl rfl rfl ?_
              refine tl_q rfl (ev_not rfl) ?_
              refine tl_q rfl (ev_pick_false rfl rfl) ?_
              refine tl_q rfl (ev_move rfl) ?_
              refine tl_split 60 rfl (fun g3_23 => ?_) (fun g3_23 => ?_)
              · refine tl_guard_no rfl rfl rfl rfl ?_
                refine tl_guard_no rfl rfl rfl rfl ?_
                refine tl_q rfl (ev_pick_true rfl rfl) ?_
                refine tl_q rfl (ev_move rfl) ?_
                refine tl_guard_no rfl rfl rfl rfl ?_
                refine tl_guard_no rfl rfl rfl rfl ?_
                refine tl_guard_no rfl rfl rfl rfl ?_
                refine tl_guard_no rfl rfl rfl rfl ?_
                refine tl_q rfl (ev_pick_true rfl rfl) ?_
                refine tl_nil ?_
                refine te_code ?_
                refine t_cond_true rfl ?_
                refine t_seq ?_
                refine t_region ?_
                refine tl_q rfl (ev_assign rfl) ?_
                refine tl_nil ?_
                refine te_code ?_
                refine t_ret ?_
                refine te_ret_k (pre := []) (res1 rfl rfl) (by repeat (first | exact Frm.nil | exact Take.here | apply Take.there | apply Frm.cons)) ?_
                refine ⟨_, rfl, rfl, by first | exact .inl rfl | exact .inr rfl, ?_, fun g => ?_⟩
                · first | (intro h; exact absurd h (by decide)) | (intro _; omega)
                · have a3 := hj3 g
                  have a4 := hj4 g
                  obtain ⟨f1, f2, f3, f4, f5, f6, f7, f8, f9⟩ := g
                  first | rfl | omega | (subst a3; simp at g3_23; done) | (subst a4; simp at g3_27; done) | exact absurd (hcg f9) (by assumption)
              · refine tl_guard rfl rfl rfl ?_
                refine tl_q rfl (ev_move rfl) ?_
                refine tl_guard rfl rfl rfl ?_
                refine tl_q rfl (ev_not rfl) ?_
                refine tl_q rfl (ev_pick_false rfl rfl) ?_
                refine tl_q rfl (ev_move rfl) ?_
                refine tl_split 64 rfl (fun g3_27 => ?_) (fun g3_27 => ?_)
                · refine tl_guard_no rfl rfl rfl rfl ?_
                  refine tl_guard_no rfl rfl rfl rfl ?_
                  refine tl_guard_no rfl rfl rfl rfl ?_
                  refine tl_guard_no rfl rfl rfl rfl ?_
                  refine tl_q rfl (ev_pick_true rfl rfl) ?_
                  refine tl_nil ?_
                  refine te_code ?_
                  refine t_cond_true rfl ?_
                  refine t_seq ?_
                  refine t_region ?_
                  refine tl_q rfl (ev_assign rfl) ?_
                  refine tl_nil ?_
                  refine te_code ?_
                  refine t_ret ?_
                  refine te_ret_k (pre := []) (res1 rfl rfl) (by repeat (first | exact Frm.nil | exact Take.here | apply Take.there | apply Frm.cons)) ?_
                  refine ⟨_, rfl, rfl, by first | exact .inl rfl | exact .inr rfl, ?_, fun g => ?_⟩
                  · first | (intro h; exact absurd h (by decide)) | (intro _; omega)
                  · have a3 := hj3 g
                    have a4 := hj4 g
                    obtain ⟨f1, f2, f3, f4, f5, f6, f7, f8, f9⟩ := g
                    first | rfl | omega | (subst a3; simp at g3_23; done) | (subst a4; simp at g3_27; done) | exact absurd (hcg f9) (by assumption)
                · refine tl_guard rfl rfl rfl ?_
                  refine tl_q rfl (ev_fieldAddr fa_45_1 rfl rfl) ?_
                  refine tl_guard rfl rfl rfl ?_
                  refine tl_q rfl (ev_load_agg ag_43 rfl (by first | (left; (repeat (first | exact List.Mem.head _ | apply List.Mem.tail)); done) | (right; (repeat (first | exact List.Mem.head _ | apply List.Mem.tail)); done)) (by repeat (first | exact LDrop.zero | apply LDrop.succ)) (by repeat (first | exact LTake.zero | apply LTake.succ))) ?_
                  refine tl_guard rfl rfl rfl ?_
                  refine tl_e (eff_call rfl rfl body_76 rfl (by repeat (first | exact Frm.nil | exact Take.here | apply Take.there | apply Frm.cons)) (norm_Check_ct r.e hr1 hr2 hr3 hr4)) ?_
                  rintro _ _ ⟨_, _, ⟨c, rfl, rfl, hc, hcg⟩, rfl, rfl⟩
                  refine tl_guard rfl rfl rfl ?_
                  refine tl_q rfl (ev_neq rfl rfl) ?_
                  refine tl_q rfl (ev_pick_false rfl rfl) ?_
                  refine tl_nil ?_
                  refine te_code ?_
                  refine t_cond_dec rfl (fun h0 => ?_) (fun h0 => ?_)
                  · refine t_seq ?_
                    refine t_region ?_
                    refine tl_q rfl (ev_assign rfl) ?_
                    refine tl_nil ?_
                    refine te_code ?_
                    refine t_ret ?_
                    refine te_ret_k (pre := []) (res1 rfl rfl) (by repeat (first | exact Frm.nil | exact Take.here | apply Take.there | apply Frm.cons)) ?_
                    refine ⟨_, rfl, rfl, by first | exact .inl rfl | exact .inr rfl, ?_, fun g => ?_⟩
                    · first | (intro h; exact absurd h (by decide)) | (intro _; omega)
                    · have a3 := hj3 g
                      have a4 := hj4 g
                      obtain ⟨f1, f2, f3, f4, f5, f6, f7, f8, f9⟩ := g
                      first | rfl | omega | (subst a3; simp at g3_23; done) | (subst a4; simp at g3_27; done) | exact absurd (hcg f9) (by assumption)
                  · refine t_skip ?_
                    refine te_code ?_
                    refine t_seq ?_
                    refine t_region ?_
                    refine tl_q rfl (ev_assign rfl) ?_
                    refine tl_nil ?_
                    refine te_code ?_
                    refine t_ret ?_
                    refine te_ret_k (pre := []) (res1 rfl rfl) (by repeat (first | exact Frm.nil | exact Take.here | apply Take.there | apply Frm.cons)) ?_
                    refine ⟨_, rfl, rfl, by first | exact .inl rfl | exact .inr rfl, ?_, fun g => ?_⟩
                    · first | (intro h; exact absurd h (by decide)) | (intro _; omega)
                    · have a3 := hj3 g
                      have a4 := hj4 g
                      obtain ⟨f1, f2, f3, f4, f5, f6, f7, f8, f9⟩ := g
                      first | rfl | omega | (subst a3; simp at g3_23; done) | (subst a4; simp at g3_27; done) | exact absurd (hcg f9) (by assumption)

theorem board_of_ct (e : Evt) : CT Tryz.prog 40 #[.agg (encEvt e).toArray] [] (fun v M => v = signV (signOf e) ∧ M = []) := by
  refine t_fun (vs := [.agg (encEvt e).toArray]) (n := 10) Tryz.func40 rfl Tryz.ntmps40 rfl fun w0 F => ?_
  refine t_seq ?_
  refine t_region ?_
  refine tl_e (eff_box rfl rfl rfl) ?_
  rintro _ _ ⟨b1, rfl, rfl⟩
  refine tl_e (eff_alloc rfl zero_125 rfl) ?_
  rintro _ _ ⟨b2, rfl, rfl⟩
  refine tl_nil ?_
  refine te_code ?_
  refine t_seq ?_
  refine t_region ?_
  refine tl_q rfl (ev_fieldAddr fa_43_0 rfl rfl) ?_
  refine tl_q rfl (ev_load sc_9 rfl (by first | (left; (repeat (first | exact List.Mem.head _ | apply List.Mem.tail)); done) | (right; (repeat (first | exact List.Mem.head _ | apply List.Mem.tail)); done)) rfl) ?_
  refine tl_q rfl (ev_fieldAddr fa_43_1 rfl rfl) ?_
  refine tl_q rfl (ev_load sc_9 rfl (by first | (left; (repeat (first | exact List.Mem.head _ | apply List.Mem.tail)); done) | (right; (repeat (first | exact List.Mem.head _ | apply List.Mem.tail)); done)) rfl) ?_
  refine tl_q rfl (ev_fieldAddr fa_43_2 rfl rfl) ?_
  refine tl_q rfl (ev_load sc_9 rfl (by first | (left; (repeat (first | exact List.Mem.head _ | apply List.Mem.tail)); done) | (right; (repeat (first | exact List.Mem.head _ | apply List.Mem.tail)); done)) rfl) ?_
  refine tl_q rfl (ev_build st_125 rfl (by repeat (first | exact FillR.nil | exact LPut.nil | apply LPut.cons | apply LPut.succ | apply FillR.cons rfl rfl rfl))) ?_
  refine tl_e (eff_store rfl rfl rfl rfl sz_125 (by first | (simp [Flat]; done) | exact flatRow _ | exact flatEvt _ | exact flatI _) (by repeat (first | exact Upd.here | apply Upd.there)) (by repeat (first | exact LPut.nil | apply LPut.cons | apply LPut.succ))) ?_
  rintro _ _ ⟨rfl, rfl⟩
  refine tl_nil ?_
  refine te_code ?_
  refine t_ret ?_
  refine te_ret_k (pre := []) (resx rfl (RL.cons (resIs_cell (x := .tmp 0) (ev_load_agg ag_125 rfl (by first | (left; (repeat (first | exact List.Mem.head _ | apply List.Mem.tail)); done) | (right; (repeat (first | exact List.Mem.head _ | apply List.Mem.tail)); done)) (by repeat (first | exact LDrop.zero | apply LDrop.succ)) (by repeat (first | exact LTake.zero | apply LTake.succ))) _ rfl) (RL.nil))) (by repeat (first | exact Frm.nil | exact Take.here | apply Take.there | apply Frm.cons)) ?_
  exact ⟨rfl, rfl⟩


abbrev boardB (bb m1 m2 : Nat) (most next : Int) : Asrt := blk bb (.cells [.int .i64 most, .int .i64 next, .map (some m1), .map (some m2)].toArray 94 (0, 0))

theorem board_put_ct (bb m1 m2 : Nat) (most next : Int) (rows : List (Int × Row)) (ids : List (Sign × Int)) (r : Row) : CT Tryz.prog 42 #[.pointer (some ⟨bb, 0, none⟩), .agg (encRow r).toArray] [boardB bb m1 m2 most next, mp iI rowV m1 rows, mp signV iI m2 ids] (fun v M => v = .tuple #[] ∧ M = [boardB bb m1 m2 most next, mp iI rowV m1 (aset rows r.id r), mp signV iI m2 (aset ids (signOf r.e) r.id)]) := by
  refine t_fun (vs := [.pointer (some ⟨bb, 0, none⟩), .agg (encRow r).toArray]) (n := 20) Tryz.func42 rfl Tryz.ntmps42 rfl fun w0 F => ?_
  refine t_seq ?_
  refine t_region ?_
  refine tl_e (eff_box rfl rfl rfl) ?_
  rintro _ _ ⟨b3, rfl, rfl⟩
  refine tl_nil ?_
  refine te_code ?_
  refine t_seq ?_
  refine t_drawn_wo (A := mp _ _ m1 _) (by repeat (first | exact Take.here | apply Take.there)) follows ?_
  refine tr_q 0 rfl (by kernel_rfl) (by kernel_rfl) (by kernel_rfl) rfl (fun _ h => hold_wo (by repeat (first | exact Take.here | apply Take.there)) h) (ev_move rfl) ?_
  refine tr_q 1 rfl (by kernel_rfl) (by kernel_rfl) (by kernel_rfl) rfl (fun _ h => hold_wo (by repeat (first | exact Take.here | apply Take.there)) h) (ev_nil_ptr rfl) ?_
  refine tr_q 2 rfl (by kernel_rfl) (by kernel_rfl) (by kernel_rfl) rfl (fun _ h => hold_wo (by repeat (first | exact Take.here | apply Take.there)) h) (ev_fieldAddr fa_94_2 rfl rfl) ?_
  refine tr_q 3 rfl (by kernel_rfl) (by kernel_rfl) (by kernel_rfl) rfl (fun _ h => hold_wo (by repeat (first | exact Take.here | apply Take.there)) h) (ev_load sc_91 rfl (by first | (left; (repeat (first | exact List.Mem.head _ | apply List.Mem.tail)); done) | (right; (repeat (first | exact List.Mem.head _ | apply List.Mem.tail)); done)) rfl) ?_
  refine tr_q 4 rfl (by kernel_rfl) (by kernel_rfl) (by kernel_rfl) rfl (fun _ h => hold_wo (by repeat (first | exact Take.here | apply Take.there)) h) (ev_fieldAddr fa_45_0 rfl rfl) ?_
  refine tr_q 5 rfl (by kernel_rfl) (by kernel_rfl) (by kernel_rfl) rfl (fun _ h => hold_wo (by repeat (first | exact Take.here | apply Take.there)) h) (ev_load sc_3 rfl (by first | (left; (repeat (first | exact List.Mem.head _ | apply List.Mem.tail)); done) | (right; (repeat (first | exact List.Mem.head _ | apply List.Mem.tail)); done)) rfl) ?_
  refine tr_q 6 rfl (by kernel_rfl) (by kernel_rfl) (by kernel_rfl) rfl (fun _ h => hold_wo (by repeat (first | exact Take.here | apply Take.there)) h) (ev_load_agg ag_45 rfl (by first | (left; (repeat (first | exact List.Mem.head _ | apply List.Mem.tail)); done) | (right; (repeat (first | exact List.Mem.head _ | apply List.Mem.tail)); done)) (by repeat (first | exact LDrop.zero | apply LDrop.succ)) (by repeat (first | exact LTake.zero | apply LTake.succ))) ?_
  refine tr_e 7 rfl (by kernel_rfl) (eff_mapUpdate (k := r.id) (v := r) ko_3 map_91 rfl (by repeat (first | exact Upd.here | apply Upd.there)) (by rfl) (by rfl)) (by rintro _ _ ⟨rfl, rfl⟩; exact (fun _ h => hold_wo (by repeat (first | exact Take.here | apply Take.there)) h)) ?_
  rintro _ _ ⟨rfl, rfl⟩
  refine tr_done (by kernel_rfl) ?_
  refine te_code ?_
  refine t_drawn_wo (A := mp _ _ m2 _) (by repeat (first | exact Take.here | apply Take.there)) follows ?_
  refine tr_q 0 rfl (by kernel_rfl) (by kernel_rfl) (by kernel_rfl) rfl (fun _ h => hold_wo (by repeat (first | exact Take.here | apply Take.there)) h) (ev_move rfl) ?_
  refine tr_q 1 rfl (by kernel_rfl) (by kernel_rfl) (by kernel_rfl) rfl (fun _ h => hold_wo (by repeat (first | exact Take.here | apply Take.there)) h) (ev_nil_ptr rfl) ?_
  refine tr_q 2 rfl (by kernel_rfl) (by kernel_rfl) (by kernel_rfl) rfl (fun _ h => hold_wo (by repeat (first | exact Take.here | apply Take.there)) h) (ev_fieldAddr fa_94_3 rfl rfl) ?_
  refine tr_q 3 rfl (by kernel_rfl) (by kernel_rfl) (by kernel_rfl) rfl (fun _ h => hold_wo (by repeat (first | exact Take.here | apply Take.there)) h) (ev_load sc_92 rfl (by first | (left; (repeat (first | exact List.Mem.head _ | apply List.Mem.tail)); done) | (right; (repeat (first | exact List.Mem.head _ | apply List.Mem.tail)); done)) rfl) ?_
  refine tr_q 4 rfl (by kernel_rfl) (by kernel_rfl) (by kernel_rfl) rfl (fun _ h => hold_wo (by repeat (first | exact Take.here | apply Take.there)) h) (ev_fieldAddr fa_45_1 rfl rfl) ?_
  refine tr_q 5 rfl (by kernel_rfl) (by kernel_rfl) (by kernel_rfl) rfl (fun _ h => hold_wo (by repeat (first | exact Take.here | apply Take.there)) h) (ev_load_agg ag_43 rfl (by first | (left; (repeat (first | exact List.Mem.head _ | apply List.Mem.tail)); done) | (right; (repeat (first | exact List.Mem.head _ | apply List.Mem.tail)); done)) (by repeat (first | exact LDrop.zero | apply LDrop.succ)) (by repeat (first | exact LTake.zero | apply LTake.succ))) ?_
  refine tr_q 7 rfl (by kernel_rfl) (by kernel_rfl) (by kernel_rfl) rfl (fun _ h => hold_wo (by repeat (first | exact Take.here | apply Take.there)) h) (ev_fieldAddr fa_45_0 rfl rfl) ?_
  refine tr_q 8 rfl (by kernel_rfl) (by kernel_rfl) (by kernel_rfl) rfl (fun _ h => hold_wo (by repeat (first | exact Take.here | apply Take.there)) h) (ev_load sc_3 rfl (by first | (left; (repeat (first | exact List.Mem.head _ | apply List.Mem.tail)); done) | (right; (repeat (first | exact List.Mem.head _ | apply List.Mem.tail)); done)) rfl) ?_
  refine tr_e 6 rfl (by kernel_rfl) (eff_call rfl rfl body_40 rfl (by repeat (first | exact Frm.nil | exact Take.here | apply Take.there | apply Frm.cons)) (board_of_ct r.e)) (by rintro _ _ ⟨_, _, ⟨rfl, rfl⟩, rfl, rfl⟩; exact (fun _ h => hold_wo (by repeat (first | exact Take.here | apply Take.there)) h)) ?_
  rintro _ _ ⟨_, _, ⟨rfl, rfl⟩, rfl, rfl⟩
  refine tr_e 9 rfl (by kernel_rfl) (eff_mapUpdate (k := signOf r.e) (v := r.id) ko_125 map_92 rfl (by repeat (first | exact Upd.here | apply Upd.there)) (by rfl) (by rfl)) (by rintro _ _ ⟨rfl, rfl⟩; exact (fun _ h => hold_wo (by repeat (first | exact Take.here | apply Take.there)) h)) ?_
  rintro _ _ ⟨rfl, rfl⟩
  refine tr_done (by kernel_rfl) ?_
  refine te_end_k (pre := [boardB bb m1 m2 most next, mp _ _ m1 _, mp _ _ m2 _]) (res0 rfl) (by repeat (first | exact Frm.nil | exact Take.here | apply Take.there | apply Frm.cons)) ?_
  exact ⟨rfl, rfl⟩

theorem board_Get_ct (bb m1 m2 : Nat) (most next : Int) (rows : List (Int × Row)) (ids : List (Sign × Int)) (id : Int) : CT Tryz.prog 13 #[.pointer (some ⟨bb, 0, none⟩), .int .i64 id] [boardB bb m1 m2 most next, mp iI rowV m1 rows] (fun v M => v = .tuple #[((alook rows id).map rowV).getD (rowV ⟨0, ⟨⟨#[]⟩, ⟨#[]⟩, ⟨#[]⟩, 0, ⟨#[]⟩⟩, 0, 0, 0, false, ⟨#[]⟩⟩), .bool (alook rows id).isSome] ∧ M = [boardB bb m1 m2 most next, mp iI rowV m1 rows]) := by
  refine t_fun (vs := [.pointer (some ⟨bb, 0, none⟩), .int .i64 id]) (n := 19) Tryz.func13 rfl Tryz.ntmps13 rfl fun w0 F => ?_
  refine t_seq ?_
  refine t_region ?_
  refine tl_e (eff_alloc rfl zero_45 rfl) ?_
  rintro _ _ ⟨b4, rfl, rfl⟩
  refine tl_q rfl (ev_assign rfl) ?_
  refine tl_nil ?_
  refine te_code ?_
  refine t_seq ?_
  refine t_region ?_
  refine tl_q rfl (ev_move rfl) ?_
  refine tl_q rfl (ev_nil_ptr rfl) ?_
  refine tl_q rfl (ev_fieldAddr fa_94_2 rfl rfl) ?_
  refine tl_q rfl (ev_load sc_91 rfl (by first | (left; (repeat (first | exact List.Mem.head _ | apply List.Mem.tail)); done) | (right; (repeat (first | exact List.Mem.head _ | apply List.Mem.tail)); done)) rfl) ?_
  refine tl_q rfl (ev_move rfl) ?_
  refine tl_q rfl (ev_lookup_ok ko_3 map_91 zero_45 rfl (by repeat (first | exact List.Mem.head _ | apply List.Mem.tail)) (by rfl)) ?_
  refine tl_q rfl (ev_move rfl) ?_
  refine tl_q rfl (ev_extract rfl rfl) ?_
  refine tl_q rfl (ev_extract rfl rfl) ?_
  refine tl_e (eff_alloc rfl zero_45 rfl) ?_
  rintro _ _ ⟨b6, rfl, rfl⟩
  obtain ⟨q, hq⟩ : ∃ q : Row, ((alook rows id).map rowV).getD (rowV ⟨0, ⟨⟨#[]⟩, ⟨#[]⟩, ⟨#[]⟩, 0, ⟨#[]⟩⟩, 0, 0, 0, false, ⟨#[]⟩⟩) = rowV q := by
    cases alook rows id with
    | none => exact ⟨_, rfl⟩
    | some q => exact ⟨q, rfl⟩
  refine tl_e (eff_store (v := rowV q) rfl rfl (by rw [← hq]; rfl) rfl sz_45 (flatRow q) (by repeat (first | exact Upd.here | apply Upd.there)) (by repeat (first | exact LPut.nil | apply LPut.cons | apply LPut.succ))) ?_
  rintro _ _ ⟨rfl, rfl⟩
  refine tl_q rfl (ev_assign rfl) ?_
  refine tl_nil ?_
  refine te_code ?_
  refine t_seq ?_
  refine t_region ?_
  refine tl_q rfl (ev_load_agg ag_45 rfl (by first | (left; (repeat (first | exact List.Mem.head _ | apply List.Mem.tail)); done) | (right; (repeat (first | exact List.Mem.head _ | apply List.Mem.tail)); done)) (by repeat (first | exact LDrop.zero | apply LDrop.succ)) (by repeat (first | exact LTake.zero | apply LTake.succ))) ?_
  refine tl_q rfl (ev_move rfl) ?_
  refine tl_e (eff_store rfl rfl rfl rfl sz_45 (by first | (simp [Flat]; done) | exact flatRow _ | exact flatEvt _ | exact flatI _) (by repeat (first | exact Upd.here | apply Upd.there)) (by repeat (first | exact LPut.nil | apply LPut.cons | apply LPut.succ))) ?_
  rintro _ _ ⟨rfl, rfl⟩
  refine tl_q rfl (ev_assign rfl) ?_
  refine tl_nil ?_
  refine te_code ?_
  refine t_ret ?_
  refine te_ret_k (pre := [boardB bb m1 m2 most next, mp _ _ m1 _]) (resx rfl (RL.cons (resIs_cell (x := .tmp 0) (ev_load_agg ag_45 rfl (by first | (left; (repeat (first | exact List.Mem.head _ | apply List.Mem.tail)); done) | (right; (repeat (first | exact List.Mem.head _ | apply List.Mem.tail)); done)) (by repeat (first | exact LDrop.zero | apply LDrop.succ)) (by repeat (first | exact LTake.zero | apply LTake.succ))) _ rfl) (RL.cons (resIs_tmp rfl) (RL.nil)))) (by repeat (first | exact Frm.nil | exact Take.here | apply Take.there | apply Frm.cons)) ?_
  exact ⟨by rw [hq]; rfl, rfl⟩

end Go.SL
