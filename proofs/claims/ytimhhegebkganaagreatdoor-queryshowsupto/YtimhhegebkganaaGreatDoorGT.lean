/- Contracts of stamp. -/
import Derived.Test.YtimhhegebkganaaGreatDoorProg
import Derived.Test.YtimhhegebkganaaGreatDoorGV
import Derived.Test.YtimhhegebkganaaGreatDoorSC
set_option linter.unusedSimpArgs false
set_option linter.unusedVariables false
set_option maxRecDepth 4000
namespace Go.SL
open Go.Proofs

theorem ao_302 : ArrayOf Tryz.prog 302 14 3 1 := arrayOf_of Tryz.underlying302 info_3 rfl
theorem body_189 : (Tryz.prog.funcs[189]?).map (fun fn => fn.body.isSome && !(fn.name == "runtime.NumGoroutine")) = some true := by kernel_rfl
theorem body_144 : (Tryz.prog.funcs[144]?).map (fun fn => fn.body.isSome && !(fn.name == "runtime.NumGoroutine")) = some true := by kernel_rfl
theorem body_145 : (Tryz.prog.funcs[145]?).map (fun fn => fn.body.isSome && !(fn.name == "runtime.NumGoroutine")) = some true := by kernel_rfl
theorem body_146 : (Tryz.prog.funcs[146]?).map (fun fn => fn.body.isSome && !(fn.name == "runtime.NumGoroutine")) = some true := by kernel_rfl


theorem size_l1 (x : UInt8) : (⟨#[x]⟩ : ByteArray).size = 1 := rfl
theorem size_l2 (x y : UInt8) : (⟨#[x, y]⟩ : ByteArray).size = 2 := rfl
def leapF (y : Int) : Int := if y % 4 = 0 ∧ (y % 100 ≠ 0 ∨ y % 400 = 0) then 1 else 0
def aheadL : List Int := [0, 0, 31, 59, 90, 120, 151, 181, 212, 243, 273, 304, 334, 365]
def aheadF (m : Nat) : Int := (aheadL[m]?).getD 0
/-- how many days of a year are ahead of each month -/
abbrev aheadI (q : TypeId × (Nat × Nat)) : Asrt := imm 1 (.cells [.int .i64 0, .int .i64 0, .int .i64 31, .int .i64 59, .int .i64 90, .int .i64 120, .int .i64 151, .int .i64 181, .int .i64 212, .int .i64 243, .int .i64 273, .int .i64 304, .int .i64 334, .int .i64 365].toArray q.1 q.2)
theorem ahead_get (m : Nat) (h : m ≤ 13) : ([.int .i64 0, .int .i64 0, .int .i64 31, .int .i64 59, .int .i64 90, .int .i64 120, .int .i64 151, .int .i64 181, .int .i64 212, .int .i64 243, .int .i64 273, .int .i64 304, .int .i64 334, .int .i64 365] : List Value)[m]? = some (.int .i64 (aheadF m)) := by
  have : m = 0 ∨ m = 1 ∨ m = 2 ∨ m = 3 ∨ m = 4 ∨ m = 5 ∨ m = 6 ∨ m = 7 ∨ m = 8 ∨ m = 9 ∨ m = 10 ∨ m = 11 ∨ m = 12 ∨ m = 13 := by omega
  rcases this with rfl | rfl | rfl | rfl | rfl | rfl | rfl | rfl | rfl | rfl | rfl | rfl | rfl | rfl <;> rfl
theorem ahead_le (m : Nat) : 0 ≤ aheadF m ∧ aheadF m ≤ 365 := by
  by_cases h : m ≤ 13
  · have : m = 0 ∨ m = 1 ∨ m = 2 ∨ m = 3 ∨ m = 4 ∨ m = 5 ∨ m = 6 ∨ m = 7 ∨ m = 8 ∨ m = 9 ∨ m = 10 ∨ m = 11 ∨ m = 12 ∨ m = 13 := by omega
    rcases this with rfl | rfl | rfl | rfl | rfl | rfl | rfl | rfl | rfl | rfl | rfl | rfl | rfl | rfl <;> decide
  · unfold aheadF
    rw [List.getElem?_eq_none (by simp [aheadL]; omega)]; decide
theorem leap_le (y : Int) : 0 ≤ leapF y ∧ leapF y ≤ 1 := by unfold leapF; split <;> omega
def beforeF (y : Int) (m : Nat) : Int := if 2 < m then aheadF m + leapF y else aheadF m
theorem before_le (y : Int) (m : Nat) : 0 ≤ beforeF y m ∧ beforeF y m ≤ 366 := by
  have := ahead_le m; have := leap_le y; unfold beforeF; split <;> omega
def sinceF (y : Int) : Int := (y - 1) * 365 + (y - 1) / 4 - (y - 1) / 100 + (y - 1) / 400 - 719162
theorem since_succ (y : Int) (h : 1 ≤ y) : sinceF (y + 1) = sinceF y + 365 + leapF y := by
  unfold sinceF leapF; split <;> omega
def yearL (d : Int) : Nat → Int → Int
  | 0, y => y
  | f + 1, y => if sinceF (y + 1) ≤ d then yearL d f (y + 1) else y
def yearF (d : Int) : Int := yearL d (2200 - (1970 + d / 366)).toNat (1970 + d / 366)
def monthL (y d : Int) : Nat → Nat → Nat
  | 0, m => m
  | f + 1, m => if beforeF y (m + 1) ≤ d then monthL y d f (m + 1) else m
def monthF (y d : Int) : Nat := monthL y d 12 1
def twoF (n : Int) : ByteArray := strOfNums [IntKind.u8.wrap (48 + n / 10), IntKind.u8.wrap (48 + n % 10)]
theorem two_size (n : Int) : (twoF n).size = 2 := strOfNums_size _
def dayF (t : Int) : Int := t / 86400 - sinceF (yearF (t / 86400))
def dateF (t : Int) : ByteArray := twoF (yearF (t / 86400) / 100) ++ twoF (yearF (t / 86400) % 100) ++ ⟨#[45]⟩ ++ twoF (monthF (yearF (t / 86400)) (dayF t)) ++ ⟨#[45]⟩ ++ twoF (dayF t - beforeF (yearF (t / 86400)) (monthF (yearF (t / 86400)) (dayF t)) + 1)
def showF (t : Int) : ByteArray := dateF t ++ ⟨#[84]⟩ ++ twoF (t % 86400 / 3600) ++ ⟨#[58]⟩ ++ twoF (t % 86400 / 60 % 60) ++ ⟨#[58]⟩ ++ twoF (t % 86400 % 60)
theorem show_size (t : Int) : (showF t).size = 19 := by unfold showF dateF; simp only [ByteArray.size_append, two_size, size_l1]

theorem leap_ct (y : Int) (hy : 0 ≤ y ∧ y ≤ 100000) : CT Tryz.prog 189 #[.int .i64 y] [] (fun v M => v = .int .i64 (leapF y) ∧ M = []) := by
  refine t_fun (vs := [.int .i64 y]) (n := 16) Tryz.func189 rfl Tryz.ntmps189 rfl fun w0 F => ?_
  refine t_seq ?_
  refine t_region ?_
  refine tl_q rfl (ev_assign rfl) ?_
  refine tl_nil ?_
  refine te_code ?_
  refine t_seq ?_
  refine t_seq ?_
  refine t_region ?_
  refine tl_q rfl (ev_move rfl) ?_
  refine tl_q rfl (ev_rem' rfl rfl (by omega) (by omega)) ?_
  refine tl_q rfl (ev_eql rfl rfl) ?_
  refine tl_q rfl (ev_move rfl) ?_
  refine tl_split_dec 6 rfl (fun g1_3 => ?_) (fun g1_3 => ?_)
  · refine tl_guard rfl rfl rfl ?_
    refine tl_q rfl (ev_move rfl) ?_
    refine tl_guard rfl rfl rfl ?_
    refine tl_q rfl (ev_rem' rfl rfl (by omega) (by omega)) ?_
    refine tl_guard rfl rfl rfl ?_
    refine tl_q rfl (ev_neq rfl rfl) ?_
    refine tl_guard rfl rfl rfl ?_
    refine tl_q rfl (ev_move rfl) ?_
    refine tl_split_dec 10 rfl (fun g1_7 => ?_) (fun g1_7 => ?_)
    · refine tl_guard_no rfl rfl rfl rfl ?_
      refine tl_guard_no rfl rfl rfl rfl ?_
      refine tl_guard_no rfl rfl rfl rfl ?_
      refine tl_guard rfl rfl rfl ?_
      refine tl_q rfl (ev_pick_true rfl rfl) ?_
      refine tl_q rfl (ev_pick_true rfl rfl) ?_
      refine tl_nil ?_
      refine te_code ?_
      refine t_cond_true rfl ?_
      refine t_seq ?_
      refine t_region ?_
      refine tl_q rfl (ev_assign rfl) ?_
      refine tl_nil ?_
      refine te_code ?_
      refine t_ret ?_
      refine te_ret_k (pre := []) (res1 rfl rfl) (by repeat (first | exact Frm.nil | exact Take.here | apply Take.there | apply Frm.cons)) ?_
      refine ⟨?_, rfl⟩
      congr 1
      unfold leapF
      split <;> first | rfl | (exfalso; omega)
    · refine tl_guard rfl rfl rfl ?_
      refine tl_q rfl (ev_move rfl) ?_
      refine tl_guard rfl rfl rfl ?_
      refine tl_q rfl (ev_rem' rfl rfl (by omega) (by omega)) ?_
      refine tl_guard rfl rfl rfl ?_
      refine tl_q rfl (ev_eql rfl rfl) ?_
      refine tl_guard rfl rfl rfl ?_
      refine tl_q rfl (ev_pick_false rfl rfl) ?_
      refine tl_q rfl (ev_pick_true rfl rfl) ?_
      refine tl_nil ?_
      refine te_code ?_
      refine t_cond_dec rfl (fun h0 => ?_) (fun h0 => ?_)
      · refine t_seq ?_
        refine t_region ?_
        refine tl_q rfl (ev_assign rfl) ?_
        refine tl_nil ?_
        refine te_code ?_
        refine t_ret ?_
        refine te_ret_k (pre := []) (res1 rfl rfl) (by repeat (first | exact Frm.nil | exact Take.here | apply Take.there | apply Frm.cons)) ?_
        refine ⟨?_, rfl⟩
        congr 1
        unfold leapF
        split <;> first | rfl | (exfalso; omega)
      · refine t_skip ?_
        refine te_code ?_
        refine t_seq ?_
        refine t_region ?_
        refine tl_q rfl (ev_assign rfl) ?_
        refine tl_nil ?_
        refine te_code ?_
        refine t_ret ?_
        refine te_ret_k (pre := []) (res1 rfl rfl) (by repeat (first | exact Frm.nil | exact Take.here | apply Take.there | apply Frm.cons)) ?_
        refine ⟨?_, rfl⟩
        congr 1
        unfold leapF
        split <;> first | rfl | (exfalso; omega)
  · refine tl_guard_no rfl rfl rfl rfl ?_
    refine tl_guard_no rfl rfl rfl rfl ?_
    refine tl_guard_no rfl rfl rfl rfl ?_
    refine tl_guard_no rfl rfl rfl rfl ?_
    refine tl_guard_un rfl rfl rfl ?_
    refine tl_guard_un rfl rfl rfl ?_
    refine tl_guard_un rfl rfl rfl ?_
    refine tl_guard_no rfl rfl rfl rfl ?_
    refine tl_q rfl (ev_pick_false rfl rfl) ?_
    refine tl_nil ?_
    refine te_code ?_
    refine t_cond_false rfl ?_
    refine t_skip ?_
    refine te_code ?_
    refine t_seq ?_
    refine t_region ?_
    refine tl_q rfl (ev_assign rfl) ?_
    refine tl_nil ?_
    refine te_code ?_
    refine t_ret ?_
    refine te_ret_k (pre := []) (res1 rfl rfl) (by repeat (first | exact Frm.nil | exact Take.here | apply Take.there | apply Frm.cons)) ?_
    refine ⟨?_, rfl⟩
    congr 1
    unfold leapF
    split <;> first | rfl | (exfalso; omega)

theorem before_ct (q : TypeId × (Nat × Nat)) (y : Int) (m : Nat) (hy : 0 ≤ y ∧ y ≤ 100000) (hm : m ≤ 13) : CT Tryz.prog 145 #[.int .i64 y, .int .i64 (m : Int)] [aheadI q] (fun v M => v = .int .i64 (beforeF y m) ∧ M = [aheadI q]) := by
  refine t_fun (vs := [.int .i64 y, .int .i64 (m : Int)]) (n := 16) Tryz.func145 rfl Tryz.ntmps145 rfl fun w0 F => ?_
  have hal := ahead_le m
  have hll := leap_le y
  refine t_seq ?_
  refine t_region ?_
  refine tl_q rfl (ev_assign rfl) ?_
  refine tl_nil ?_
  refine te_code ?_
  refine t_seq ?_
  refine t_seq ?_
  refine t_region ?_
  refine tl_q rfl (ev_move rfl) ?_
  refine tl_q rfl (ev_gtr rfl rfl) ?_
  refine tl_nil ?_
  refine te_code ?_
  refine t_cond_dec rfl (fun h0 => ?_) (fun h0 => ?_)
  · refine t_seq ?_
    refine t_drawn_all follows ?_
    refine tr_q 0 rfl (by kernel_rfl) (by kernel_rfl) (by kernel_rfl) rfl (by intro _ h; repeat (first | exact h | replace h := Hold.drop h)) (ev_move rfl) ?_
    refine tr_q 1 rfl (by kernel_rfl) (by kernel_rfl) (by kernel_rfl) rfl (by intro _ h; repeat (first | exact h | replace h := Hold.drop h)) (ev_indexArr ao_302 rfl rfl (by omega) rfl) ?_
    refine tr_q 2 rfl (by kernel_rfl) (by kernel_rfl) (by kernel_rfl) rfl (by intro _ h; repeat (first | exact h | replace h := Hold.drop h)) (ev_load sc_3 (v := .int .i64 (aheadF m)) rfl (by first | (left; (repeat (first | exact List.Mem.head _ | apply List.Mem.tail)); done) | (right; (repeat (first | exact List.Mem.head _ | apply List.Mem.tail)); done)) (by rw [Nat.zero_add, Nat.mul_one]; exact ahead_get m hm)) ?_
    refine tr_q 3 rfl (by kernel_rfl) (by kernel_rfl) (by kernel_rfl) rfl (by intro _ h; repeat (first | exact h | replace h := Hold.drop h)) (ev_move rfl) ?_
    refine tr_e 4 rfl (by kernel_rfl) (eff_call rfl rfl body_189 rfl (by repeat (first | exact Frm.nil | exact Take.here | apply Take.there | apply Frm.cons)) (leap_ct _ (by omega))) (by rintro _ _ ⟨_, _, ⟨rfl, rfl⟩, rfl, rfl⟩; exact (by intro _ h; repeat (first | exact h | replace h := Hold.drop h))) ?_
    rintro _ _ ⟨v11, _, ⟨rfl, rfl⟩, rfl, rfl⟩
    refine tr_q 5 rfl (by kernel_rfl) (by kernel_rfl) (by kernel_rfl) rfl (by intro _ h; repeat (first | exact h | replace h := Hold.drop h)) (ev_add' rfl rfl (by omega)) ?_
    refine tr_q 6 rfl (by kernel_rfl) (by kernel_rfl) (by kernel_rfl) rfl (by intro _ h; repeat (first | exact h | replace h := Hold.drop h)) (ev_assign rfl) ?_
    refine tr_done (by kernel_rfl) ?_
    refine te_code ?_
    refine t_ret ?_
    refine te_ret_k (pre := [aheadI q]) (res1 rfl rfl) (by repeat (first | exact Frm.nil | exact Take.here | apply Take.there | apply Frm.cons)) ?_
    refine ⟨?_, rfl⟩
    unfold beforeF; rw [if_pos (by omega)]
  · refine t_skip ?_
    refine te_code ?_
    refine t_seq ?_
    refine t_region ?_
    refine tl_q rfl (ev_move rfl) ?_
    refine tl_q rfl (ev_indexArr ao_302 rfl rfl (by omega) rfl) ?_
    refine tl_q rfl (ev_load sc_3 (v := .int .i64 (aheadF m)) rfl (by first | (left; (repeat (first | exact List.Mem.head _ | apply List.Mem.tail)); done) | (right; (repeat (first | exact List.Mem.head _ | apply List.Mem.tail)); done)) (by rw [Nat.zero_add, Nat.mul_one]; exact ahead_get m hm)) ?_
    refine tl_q rfl (ev_assign rfl) ?_
    refine tl_nil ?_
    refine te_code ?_
    refine t_ret ?_
    refine te_ret_k (pre := [aheadI q]) (res1 rfl rfl) (by repeat (first | exact Frm.nil | exact Take.here | apply Take.there | apply Frm.cons)) ?_
    refine ⟨?_, rfl⟩
    unfold beforeF; rw [if_neg (by omega)]

theorem since_ct (y : Int) (hy : 1 ≤ y ∧ y ≤ 100000) : CT Tryz.prog 144 #[.int .i64 y] [] (fun v M => v = .int .i64 (sinceF y) ∧ M = []) := by
  refine t_fun (vs := [.int .i64 y]) (n := 18) Tryz.func144 rfl Tryz.ntmps144 rfl fun w0 F => ?_
  refine t_seq ?_
  refine t_region ?_
  refine tl_q rfl (ev_assign rfl) ?_
  refine tl_nil ?_
  refine te_code ?_
  refine t_seq ?_
  refine t_region ?_
  refine tl_q rfl (ev_move rfl) ?_
  refine tl_q rfl (ev_sub' rfl rfl (by omega)) ?_
  refine tl_q rfl (ev_assign rfl) ?_
  refine tl_nil ?_
  refine te_code ?_
  refine t_seq ?_
  refine t_region ?_
  refine tl_q rfl (ev_move rfl) ?_
  refine tl_q rfl (ev_mul' rfl rfl (by omega)) ?_
  refine tl_q rfl (ev_move rfl) ?_
  refine tl_q rfl (ev_quo' rfl rfl (by omega) (by omega)) ?_
  refine tl_q rfl (ev_add' rfl rfl (by omega)) ?_
  refine tl_q rfl (ev_move rfl) ?_
  refine tl_q rfl (ev_quo' rfl rfl (by omega) (by omega)) ?_
  refine tl_q rfl (ev_sub' rfl rfl (by omega)) ?_
  refine tl_q rfl (ev_move rfl) ?_
  refine tl_q rfl (ev_quo' rfl rfl (by omega) (by omega)) ?_
  refine tl_q rfl (ev_add' rfl rfl (by omega)) ?_
  refine tl_q rfl (ev_sub' rfl rfl (by omega)) ?_
  refine tl_q rfl (ev_assign rfl) ?_
  refine tl_nil ?_
  refine te_code ?_
  refine t_ret ?_
  refine te_ret_k (pre := []) (res1 rfl rfl) (by repeat (first | exact Frm.nil | exact Take.here | apply Take.there | apply Frm.cons)) ?_
  exact ⟨rfl, rfl⟩

theorem two_ct (n : Int) (hn : 0 ≤ n ∧ n ≤ 1000000000) : CT Tryz.prog 146 #[.int .i64 n] [] (fun v M => v = .string (twoF n) ∧ M = []) := by
  refine t_fun (vs := [.int .i64 n]) (n := 13) Tryz.func146 rfl Tryz.ntmps146 rfl fun w0 F => ?_
  refine t_seq ?_
  refine t_region ?_
  refine tl_q rfl (ev_assign rfl) ?_
  refine tl_nil ?_
  refine te_code ?_
  refine t_seq ?_
  refine t_region ?_
  refine tl_q rfl (ev_move rfl) ?_
  refine tl_q rfl (ev_quo' rfl rfl (by omega) (by omega)) ?_
  refine tl_q rfl (ev_add' rfl rfl (by omega)) ?_
  refine tl_q rfl (ev_toInt ti_3_5 rfl) ?_
  refine tl_q rfl (ev_move rfl) ?_
  refine tl_q rfl (ev_rem' rfl rfl (by omega) (by omega)) ?_
  refine tl_q rfl (ev_add' rfl rfl (by omega)) ?_
  refine tl_q rfl (ev_toInt ti_3_5 rfl) ?_
  refine tl_e (eff_buildSl rfl bs_150_2 rfl (by repeat (first | exact FillR.nil | exact LPut.nil | apply LPut.cons | apply LPut.succ | apply FillR.cons rfl rfl rfl))) ?_
  rintro _ _ ⟨b11, rfl, rfl⟩
  refine tl_q rfl (ev_bytesStr bst_150_9 rfl (u8_2 (by first | (left; (repeat (first | exact List.Mem.head _ | apply List.Mem.tail)); done) | (right; (repeat (first | exact List.Mem.head _ | apply List.Mem.tail)); done)))) ?_
  refine tl_q rfl (ev_assign rfl) ?_
  refine tl_nil ?_
  refine te_code ?_
  refine t_ret ?_
  refine te_ret_k (pre := []) (res1 rfl rfl) (by repeat (first | exact Frm.nil | exact Take.here | apply Take.there | apply Frm.cons)) ?_
  exact ⟨rfl, rfl⟩

theorem show_ct (q : TypeId × (Nat × Nat)) (t : Int) (ht : 0 ≤ t ∧ t ≤ 2305843010) : CT Tryz.prog 100 #[.int .i64 t] [aheadI q] (fun v M => v = .string (showF t) ∧ M = [aheadI q]) := by
  refine t_fun (vs := [.int .i64 t]) (n := 71) Tryz.func100 rfl Tryz.ntmps100 rfl fun w0 F => ?_
  obtain ⟨d, hd⟩ : ∃ d, d = t / 86400 := ⟨_, rfl⟩
  have hdb : 0 ≤ d ∧ d ≤ 26688 := by omega
  have hds : sinceF (1970 + d / 366) ≤ d := by unfold sinceF; omega
  refine t_seq ?_
  refine t_region ?_
  refine tl_q rfl (ev_assign rfl) ?_
  refine tl_nil ?_
  refine te_code ?_
  refine t_seq ?_
  refine t_region ?_
  refine tl_q rfl (ev_move rfl) ?_
  refine tl_q rfl (ev_quo' rfl rfl (by omega) (by omega)) ?_
  refine tl_q rfl (ev_move rfl) ?_
  refine tl_q rfl (ev_rem' rfl rfl (by omega) (by omega)) ?_
  refine tl_q rfl (ev_assign rfl) ?_
  refine tl_q rfl (ev_assign rfl) ?_
  refine tl_nil ?_
  refine te_code ?_
  refine t_seq ?_
  refine t_region ?_
  refine tl_q rfl (ev_move rfl) ?_
  refine tl_q rfl (ev_quo' rfl rfl (by omega) (by omega)) ?_
  refine tl_q rfl (ev_add' rfl rfl (by omega)) ?_
  refine tl_q rfl (ev_assign rfl) ?_
  refine tl_nil ?_
  refine te_code ?_
  refine t_seq ?_
  refine t_block ?_
  refine t_loop (α := Int) (fun y => [(5, .int .i64 y), (3, .int .i64 (t / 86400)), (4, .int .i64 (t % 86400))]) (fun _ => [aheadI q]) (fun y => (2200 - y).toNat) (fun y => 1970 ≤ y ∧ y ≤ 2100 ∧ sinceF y ≤ t / 86400 ∧ yearF (t / 86400) = yearL (t / 86400) (2200 - y).toNat y) (1970 + t / 86400 / 366) ⟨by omega, by omega, by rw [← hd]; exact hds, rfl⟩ (by exact sub_cons rfl (sub_cons rfl (sub_cons rfl (sub_nil)))) (fun _ h => hold_keep (by repeat (first | exact Frm.nil | exact Take.here | apply Take.there | apply Frm.cons)) h) ?_
  rintro y ⟨hy1, hy2, hy3, hy4⟩
  try dsimp only
  refine t_seq ?_
  refine t_seq ?_
  refine t_region ?_
  refine tl_q rfl (ev_move rfl) ?_
  refine tl_q rfl (ev_add' rfl rfl (by omega)) ?_
  refine tl_e (eff_call rfl rfl body_144 rfl (by repeat (first | exact Frm.nil | exact Take.here | apply Take.there | apply Frm.cons)) (since_ct _ (by omega))) ?_
  rintro _ _ ⟨v17, _, ⟨rfl, rfl⟩, rfl, rfl⟩
  refine tl_q rfl (ev_move rfl) ?_
  refine tl_q rfl (ev_leq rfl rfl) ?_
  refine tl_nil ?_
  refine te_code ?_
  refine t_cond_dec rfl (fun h0 => ?_) (fun h0 => ?_)
  · refine t_skip ?_
    refine te_code ?_
    refine t_block ?_
    refine t_region ?_
    refine tl_q rfl (ev_move rfl) ?_
    refine tl_q rfl (ev_add' rfl rfl (by omega)) ?_
    refine tl_q rfl (ev_assign rfl) ?_
    refine tl_nil ?_
    refine te_blk ?_
    exact te_round (y + 1) (by exact sub_cons rfl (sub_cons rfl (sub_cons rfl (sub_nil)))) (fun _ h => hold_keep (by repeat (first | exact Frm.nil | exact Take.here | apply Take.there | apply Frm.cons)) h) ⟨by omega, by unfold sinceF at h0; omega, by omega, by rw [hy4, show (2200 - y).toNat = (2200 - (y + 1)).toNat + 1 by omega, yearL, if_pos h0]⟩ (by omega)
  · have hy5 : yearF (t / 86400) = y := by rw [hy4, show (2200 - y).toNat = (2199 - y).toNat + 1 by omega, yearL, if_neg h0]
    subst hy5
    have hss := since_succ (yearF (t / 86400)) (by omega)
    have hlp := leap_le (yearF (t / 86400))
    refine t_exit ?_
    refine te_exit_code ?_
    refine te_exit_rnd ?_
    refine te_exit_here ?_
    refine te_code ?_
    refine t_seq ?_
    refine t_region ?_
    refine tl_q rfl (ev_move rfl) ?_
    refine tl_q rfl (ev_move rfl) ?_
    refine tl_e (eff_call rfl rfl body_144 rfl (by repeat (first | exact Frm.nil | exact Take.here | apply Take.there | apply Frm.cons)) (since_ct _ (by omega))) ?_
    rintro _ _ ⟨v24, _, ⟨rfl, rfl⟩, rfl, rfl⟩
    refine tl_q rfl (ev_sub' rfl rfl (by omega)) ?_
    refine tl_q rfl (ev_assign rfl) ?_
    refine tl_nil ?_
    refine te_code ?_
    refine t_seq ?_
    refine t_region ?_
    refine tl_q rfl (ev_assign rfl) ?_
    refine tl_nil ?_
    refine te_code ?_
    refine t_seq ?_
    refine t_block ?_
    refine t_loop (α := Nat) (fun m => [(6, .int .i64 (m : Int)), (5, .int .i64 (yearF (t / 86400))), (3, .int .i64 (dayF t)), (4, .int .i64 (t % 86400))]) (fun _ => [aheadI q]) (fun m => 13 - m) (fun m => 1 ≤ m ∧ m ≤ 12 ∧ beforeF (yearF (t / 86400)) m ≤ dayF t ∧ monthF (yearF (t / 86400)) (dayF t) = monthL (yearF (t / 86400)) (dayF t) (13 - m) m) 1 ⟨by omega, by omega, by show (0 : Int) ≤ _; unfold dayF; omega, rfl⟩ (by exact sub_cons rfl (sub_cons rfl (sub_cons rfl (sub_cons rfl (sub_nil))))) (fun _ h => hold_keep (by repeat (first | exact Frm.nil | exact Take.here | apply Take.there | apply Frm.cons)) h) ?_
    rintro m ⟨hm1, hm2, hm3, hm4⟩
    try dsimp only
    refine t_seq ?_
    refine t_seq ?_
    refine t_region ?_
    refine tl_q rfl (ev_move rfl) ?_
    refine tl_q rfl (ev_move rfl) ?_
    refine tl_q rfl (ev_add' rfl rfl (by omega)) ?_
    refine tl_e (eff_call rfl rfl body_145 rfl (by repeat (first | exact Frm.nil | exact Take.here | apply Take.there | apply Frm.cons)) (before_ct q _ (m + 1) (by omega) (by omega))) ?_
    rintro _ _ ⟨v29, _, ⟨rfl, rfl⟩, rfl, rfl⟩
    refine tl_q rfl (ev_move rfl) ?_
    refine tl_q rfl (ev_leq rfl rfl) ?_
    refine tl_nil ?_
    refine te_code ?_
    refine t_cond_dec rfl (fun h1 => ?_) (fun h1 => ?_)
    · have hm5 : m + 1 ≤ 12 := by
        rcases Nat.lt_or_ge m 12 with h | h
        · omega
        · exfalso
          obtain rfl : m = 12 := by omega
          have e : beforeF (yearF (t / 86400)) (12 + 1) = 365 + leapF (yearF (t / 86400)) := rfl
          rw [e] at h1
          unfold dayF at h1
          omega
      refine t_skip ?_
      refine te_code ?_
      refine t_block ?_
      refine t_region ?_
      refine tl_q rfl (ev_move rfl) ?_
      refine tl_q rfl (ev_add' rfl rfl (by omega)) ?_
      refine tl_q rfl (ev_assign rfl) ?_
      refine tl_nil ?_
      refine te_blk ?_
      exact te_round (m + 1) (by exact sub_cons rfl (sub_cons rfl (sub_cons rfl (sub_cons rfl (sub_nil))))) (fun _ h => hold_keep (by repeat (first | exact Frm.nil | exact Take.here | apply Take.there | apply Frm.cons)) h) ⟨by omega, hm5, h1, by rw [hm4, show 13 - m = (13 - (m + 1)) + 1 by omega, monthL, if_pos h1]⟩ (by omega)
    · have hm5 : monthF (yearF (t / 86400)) (dayF t) = m := by rw [hm4, show 13 - m = (12 - m) + 1 by omega, monthL, if_neg h1]
      subst hm5
      have hbl := before_le (yearF (t / 86400)) (monthF (yearF (t / 86400)) (dayF t))
      have hday : dayF t ≤ 366 := by unfold dayF; omega
      refine t_exit ?_
      refine te_exit_code ?_
      refine te_exit_rnd ?_
      refine te_exit_here ?_
      refine te_code ?_
      refine t_seq ?_
      refine t_region ?_
      refine tl_q rfl (ev_move rfl) ?_
      refine tl_q rfl (ev_quo' rfl rfl (by omega) (by omega)) ?_
      refine tl_e (eff_call rfl rfl body_146 rfl (by repeat (first | exact Frm.nil | exact Take.here | apply Take.there | apply Frm.cons)) (two_ct _ (by omega))) ?_
      rintro _ _ ⟨v36, _, ⟨rfl, rfl⟩, rfl, rfl⟩
      refine tl_q rfl (ev_move rfl) ?_
      refine tl_q rfl (ev_rem' rfl rfl (by omega) (by omega)) ?_
      refine tl_e (eff_call rfl rfl body_146 rfl (by repeat (first | exact Frm.nil | exact Take.here | apply Take.there | apply Frm.cons)) (two_ct _ (by omega))) ?_
      rintro _ _ ⟨v39, _, ⟨rfl, rfl⟩, rfl, rfl⟩
      refine tl_q rfl (ev_sadd rfl rfl (by first | omega | (simp only [ByteArray.size_append, size_l1, size_l2, two_size, show_size]; omega))) ?_
      refine tl_q rfl (ev_sadd rfl rfl (by first | omega | (simp only [ByteArray.size_append, size_l1, size_l2, two_size, show_size]; omega))) ?_
      refine tl_q rfl (ev_move rfl) ?_
      refine tl_e (eff_call rfl rfl body_146 rfl (by repeat (first | exact Frm.nil | exact Take.here | apply Take.there | apply Frm.cons)) (two_ct _ (by omega))) ?_
      rintro _ _ ⟨v43, _, ⟨rfl, rfl⟩, rfl, rfl⟩
      refine tl_q rfl (ev_sadd rfl rfl (by first | omega | (simp only [ByteArray.size_append, size_l1, size_l2, two_size, show_size]; omega))) ?_
      refine tl_q rfl (ev_sadd rfl rfl (by first | omega | (simp only [ByteArray.size_append, size_l1, size_l2, two_size, show_size]; omega))) ?_
      refine tl_q rfl (ev_move rfl) ?_
      refine tl_q rfl (ev_move rfl) ?_
      refine tl_q rfl (ev_move rfl) ?_
      refine tl_e (eff_call rfl rfl body_145 rfl (by repeat (first | exact Frm.nil | exact Take.here | apply Take.there | apply Frm.cons)) (before_ct q _ _ (by omega) (by omega))) ?_
      rintro _ _ ⟨v49, _, ⟨rfl, rfl⟩, rfl, rfl⟩
      refine tl_q rfl (ev_sub' rfl rfl (by omega)) ?_
      refine tl_q rfl (ev_add' rfl rfl (by omega)) ?_
      refine tl_e (eff_call rfl rfl body_146 rfl (by repeat (first | exact Frm.nil | exact Take.here | apply Take.there | apply Frm.cons)) (two_ct _ (by omega))) ?_
      rintro _ _ ⟨v52, _, ⟨rfl, rfl⟩, rfl, rfl⟩
      refine tl_q rfl (ev_sadd rfl rfl (by first | omega | (simp only [ByteArray.size_append, size_l1, size_l2, two_size, show_size]; omega))) ?_
      refine tl_q rfl (ev_assign rfl) ?_
      refine tl_nil ?_
      refine te_code ?_
      refine t_seq ?_
      refine t_region ?_
      refine tl_q rfl (ev_move rfl) ?_
      refine tl_q rfl (ev_sadd rfl rfl (by first | omega | (simp only [ByteArray.size_append, size_l1, size_l2, two_size, show_size]; omega))) ?_
      refine tl_q rfl (ev_move rfl) ?_
      refine tl_q rfl (ev_quo' rfl rfl (by omega) (by omega)) ?_
      refine tl_e (eff_call rfl rfl body_146 rfl (by repeat (first | exact Frm.nil | exact Take.here | apply Take.there | apply Frm.cons)) (two_ct _ (by omega))) ?_
      rintro _ _ ⟨v58, _, ⟨rfl, rfl⟩, rfl, rfl⟩
      refine tl_q rfl (ev_sadd rfl rfl (by first | omega | (simp only [ByteArray.size_append, size_l1, size_l2, two_size, show_size]; omega))) ?_
      refine tl_q rfl (ev_sadd rfl rfl (by first | omega | (simp only [ByteArray.size_append, size_l1, size_l2, two_size, show_size]; omega))) ?_
      refine tl_q rfl (ev_move rfl) ?_
      refine tl_q rfl (ev_quo' rfl rfl (by omega) (by omega)) ?_
      refine tl_q rfl (ev_rem' rfl rfl (by omega) (by omega)) ?_
      refine tl_e (eff_call rfl rfl body_146 rfl (by repeat (first | exact Frm.nil | exact Take.here | apply Take.there | apply Frm.cons)) (two_ct _ (by omega))) ?_
      rintro _ _ ⟨v64, _, ⟨rfl, rfl⟩, rfl, rfl⟩
      refine tl_q rfl (ev_sadd rfl rfl (by first | omega | (simp only [ByteArray.size_append, size_l1, size_l2, two_size, show_size]; omega))) ?_
      refine tl_q rfl (ev_sadd rfl rfl (by first | omega | (simp only [ByteArray.size_append, size_l1, size_l2, two_size, show_size]; omega))) ?_
      refine tl_q rfl (ev_move rfl) ?_
      refine tl_q rfl (ev_rem' rfl rfl (by omega) (by omega)) ?_
      refine tl_e (eff_call rfl rfl body_146 rfl (by repeat (first | exact Frm.nil | exact Take.here | apply Take.there | apply Frm.cons)) (two_ct _ (by omega))) ?_
      rintro _ _ ⟨v69, _, ⟨rfl, rfl⟩, rfl, rfl⟩
      refine tl_q rfl (ev_sadd rfl rfl (by first | omega | (simp only [ByteArray.size_append, size_l1, size_l2, two_size, show_size]; omega))) ?_
      refine tl_q rfl (ev_assign rfl) ?_
      refine tl_nil ?_
      refine te_code ?_
      refine t_ret ?_
      refine te_ret_k (pre := [aheadI q]) (res1 rfl rfl) (by repeat (first | exact Frm.nil | exact Take.here | apply Take.there | apply Frm.cons)) ?_
      exact ⟨rfl, rfl⟩

end Go.SL
