/- Contracts of utf. -/
import Derived.Test.YtimhhegebkganaaGreatDoorProg
import Derived.Test.YtimhhegebkganaaGreatDoorGA
set_option linter.unusedSimpArgs false
set_option linter.unusedVariables false
set_option maxRecDepth 4000
namespace Go.SL
open Go.Proofs

theorem ti_5_3 : ToInt Tryz.prog 5 3 .i64 := toInt_of Tryz.underlying5 Tryz.underlying3
theorem body_252 : (Tryz.prog.funcs[252]?).map (fun fn => fn.body.isSome && !(fn.name == "runtime.NumGoroutine")) = some true := by kernel_rfl
theorem str_9 : IsStr Tryz.prog 9 := isStr_of Tryz.underlying9
theorem body_253 : (Tryz.prog.funcs[253]?).map (fun fn => fn.body.isSome && !(fn.name == "runtime.NumGoroutine")) = some true := by kernel_rfl
theorem body_254 : (Tryz.prog.funcs[254]?).map (fun fn => fn.body.isSome && !(fn.name == "runtime.NumGoroutine")) = some true := by kernel_rfl
theorem body_214 : (Tryz.prog.funcs[214]?).map (fun fn => fn.body.isSome && !(fn.name == "runtime.NumGoroutine")) = some true := by kernel_rfl
theorem bs_269_1 : SliceIs Tryz.prog 269 1 3 1 [.int .i64 0] := sliceIs_of Tryz.underlying269 info_3 rfl rfl (by decide) (by kernel_rfl)
theorem sl_269 : SliceOf Tryz.prog 269 3 1 := sliceOf_of Tryz.underlying269 info_3 rfl
theorem zero_3 : ZeroIs Tryz.prog 3 (.int .i64 0) := zeroIs_of info_3 rfl
theorem by_3 : ∀ w, ∃ i, (typeInfo 3).run Tryz.prog w = .ok i w ∧ i.bytes = 8 := bytes_of info_3 rfl


def encI (x : Int) : List Value := [.int .i64 x]
theorem flatI : ∀ x, ∀ c ∈ encI x, Flat c := by intro x c hc; simp [encI] at hc; subst hc; trivial
def longF (b : Int) : Int × Int :=
  if b < 128 then (1, b) else
  if b.fdiv (2 ^ (min (5 : Int).toNat IntKind.u8.bits)) = 6 then (2, IntKind.i64.wrap (bitsOf .and .u8 b 31)) else
  if b.fdiv (2 ^ (min (4 : Int).toNat IntKind.u8.bits)) = 14 then (3, IntKind.i64.wrap (bitsOf .and .u8 b 15)) else
  if b.fdiv (2 ^ (min (3 : Int).toNat IntKind.u8.bits)) = 30 then (4, IntKind.i64.wrap (bitsOf .and .u8 b 7)) else (0, 0)
def isCharF (c : Int) : Bool := decide (0 ≤ c ∧ c ≤ 1114111 ∧ (c < 55296 ∨ 57343 < c))
def leastF (n : Int) : Int := if n = 2 then 128 else if n = 3 then 2048 else if n = 4 then 65536 else 0
def isTimeF (t : Int) : Bool := decide (0 ≤ t ∧ t ≤ 2305843009213693952)
theorem longF_cases (b : Int) : (longF b).1 = 0 ∨ (longF b).1 = 1 ∨ (longF b).1 = 2 ∨ (longF b).1 = 3 ∨ (longF b).1 = 4 := by
  unfold longF; repeat' split
  all_goals simp

theorem long_ct (b : Int) (hb : 0 ≤ b ∧ b < 256) : CT Tryz.prog 252 #[.int .u8 b] [] (fun v M => v = .tuple #[.int .i64 (longF b).1, .int .i64 (longF b).2] ∧ M = []) := by
  refine t_fun (vs := [.int .u8 b]) (n := 30) Tryz.func252 rfl Tryz.ntmps252 rfl fun w0 F => ?_
  refine t_seq ?_
  refine t_region ?_
  refine tl_q rfl (ev_assign rfl) ?_
  refine tl_q rfl (ev_assign rfl) ?_
  refine tl_nil ?_
  refine te_code ?_
  refine t_seq ?_
  refine t_block ?_
  refine t_seq ?_
  refine t_region ?_
  refine tl_q rfl (ev_move rfl) ?_
  refine tl_q rfl (ev_lss rfl rfl) ?_
  refine tl_q rfl (ev_assign rfl) ?_
  refine tl_nil ?_
  refine te_code ?_
  refine t_cond_dec rfl (fun h0 => ?_) (fun h0 => ?_)
  · refine t_seq ?_
    refine t_region ?_
    refine tl_q rfl (ev_move rfl) ?_
    refine tl_q rfl (ev_toInt64 ti_5_3 rfl (by omega)) ?_
    refine tl_q rfl (ev_assign rfl) ?_
    refine tl_q rfl (ev_assign rfl) ?_
    refine tl_nil ?_
    refine te_code ?_
    refine t_ret ?_
    refine te_ret (res2 rfl rfl rfl) ?_
    refine ⟨?_, rfl⟩
    simp only [longF]; (repeat rw [if_neg (by assumption)]); (try rw [if_pos (by assumption)])
  · refine t_seq ?_
    refine t_region ?_
    refine tl_q rfl (ev_move rfl) ?_
    refine tl_q rfl (ev_shr rfl rfl (by omega)) ?_
    refine tl_q rfl (ev_eql rfl rfl) ?_
    refine tl_q rfl (ev_assign rfl) ?_
    refine tl_nil ?_
    refine te_code ?_
    refine t_cond_dec rfl (fun h1 => ?_) (fun h1 => ?_)
    · refine t_seq ?_
      refine t_region ?_
      refine tl_q rfl (ev_move rfl) ?_
      refine tl_q rfl (ev_and rfl rfl) ?_
      refine tl_q rfl (ev_toInt ti_5_3 rfl) ?_
      refine tl_q rfl (ev_assign rfl) ?_
      refine tl_q rfl (ev_assign rfl) ?_
      refine tl_nil ?_
      refine te_code ?_
      refine t_ret ?_
      refine te_ret (res2 rfl rfl rfl) ?_
      refine ⟨?_, rfl⟩
      simp only [longF]; (repeat rw [if_neg (by assumption)]); (try rw [if_pos (by assumption)])
    · refine t_seq ?_
      refine t_region ?_
      refine tl_q rfl (ev_move rfl) ?_
      refine tl_q rfl (ev_shr rfl rfl (by omega)) ?_
      refine tl_q rfl (ev_eql rfl rfl) ?_
      refine tl_q rfl (ev_assign rfl) ?_
      refine tl_nil ?_
      refine te_code ?_
      refine t_cond_dec rfl (fun h2 => ?_) (fun h2 => ?_)
      · refine t_seq ?_
        refine t_region ?_
        refine tl_q rfl (ev_move rfl) ?_
        refine tl_q rfl (ev_and rfl rfl) ?_
        refine tl_q rfl (ev_toInt ti_5_3 rfl) ?_
        refine tl_q rfl (ev_assign rfl) ?_
        refine tl_q rfl (ev_assign rfl) ?_
        refine tl_nil ?_
        refine te_code ?_
        refine t_ret ?_
        refine te_ret (res2 rfl rfl rfl) ?_
        refine ⟨?_, rfl⟩
        simp only [longF]; (repeat rw [if_neg (by assumption)]); (try rw [if_pos (by assumption)])
      · refine t_seq ?_
        refine t_region ?_
        refine tl_q rfl (ev_move rfl) ?_
        refine tl_q rfl (ev_shr rfl rfl (by omega)) ?_
        refine tl_q rfl (ev_eql rfl rfl) ?_
        refine tl_q rfl (ev_assign rfl) ?_
        refine tl_nil ?_
        refine te_code ?_
        refine t_cond_dec rfl (fun h3 => ?_) (fun h3 => ?_)
        · refine t_seq ?_
          refine t_region ?_
          refine tl_q rfl (ev_move rfl) ?_
          refine tl_q rfl (ev_and rfl rfl) ?_
          refine tl_q rfl (ev_toInt ti_5_3 rfl) ?_
          refine tl_q rfl (ev_assign rfl) ?_
          refine tl_q rfl (ev_assign rfl) ?_
          refine tl_nil ?_
          refine te_code ?_
          refine t_ret ?_
          refine te_ret (res2 rfl rfl rfl) ?_
          refine ⟨?_, rfl⟩
          simp only [longF]; (repeat rw [if_neg (by assumption)]); (try rw [if_pos (by assumption)])
        · refine t_skip ?_
          refine te_blk ?_
          refine te_code ?_
          refine t_seq ?_
          refine t_region ?_
          refine tl_q rfl (ev_assign rfl) ?_
          refine tl_q rfl (ev_assign rfl) ?_
          refine tl_nil ?_
          refine te_code ?_
          refine t_ret ?_
          refine te_ret (res2 rfl rfl rfl) ?_
          refine ⟨?_, rfl⟩
          simp only [longF]; (repeat rw [if_neg (by assumption)]); (try rw [if_pos (by assumption)])

theorem isChar_ct (c : Int) : CT Tryz.prog 253 #[.int .i64 c] [] (fun v M => v = .bool (isCharF c) ∧ M = []) := by
  refine t_fun (vs := [.int .i64 c]) (n := 17) Tryz.func253 rfl Tryz.ntmps253 rfl fun w0 F => ?_
  refine t_seq ?_
  refine t_region ?_
  refine tl_q rfl (ev_assign rfl) ?_
  refine tl_nil ?_
  refine te_code ?_
  refine t_seq ?_
  refine t_region ?_
  refine tl_q rfl (ev_move rfl) ?_
  refine tl_q rfl (ev_geq rfl rfl) ?_
  refine tl_q rfl (ev_move rfl) ?_
  refine tl_split_dec 5 rfl (fun g1_2 => ?_) (fun g1_2 => ?_)
  · refine tl_guard rfl rfl rfl ?_
    refine tl_q rfl (ev_move rfl) ?_
    refine tl_guard rfl rfl rfl ?_
    refine tl_q rfl (ev_leq rfl rfl) ?_
    refine tl_q rfl (ev_pick_true rfl rfl) ?_
    refine tl_q rfl (ev_move rfl) ?_
    refine tl_split_dec 9 rfl (fun g1_6 => ?_) (fun g1_6 => ?_)
    · refine tl_guard rfl rfl rfl ?_
      refine tl_q rfl (ev_move rfl) ?_
      refine tl_guard rfl rfl rfl ?_
      refine tl_q rfl (ev_lss rfl rfl) ?_
      refine tl_guard rfl rfl rfl ?_
      refine tl_q rfl (ev_move rfl) ?_
      refine tl_split_dec 12 rfl (fun g1_9 => ?_) (fun g1_9 => ?_)
      · refine tl_guard_no rfl rfl rfl rfl ?_
        refine tl_guard_no rfl rfl rfl rfl ?_
        refine tl_guard rfl rfl rfl ?_
        refine tl_q rfl (ev_pick_true rfl rfl) ?_
        refine tl_q rfl (ev_pick_true rfl rfl) ?_
        refine tl_q rfl (ev_assign rfl) ?_
        refine tl_nil ?_
        refine te_code ?_
        refine t_ret ?_
        refine te_ret (res1 rfl rfl) ?_
        refine ⟨congrArg Value.bool (Bool.eq_iff_iff.2 ?_), rfl⟩
        first | (exfalso; first | omega | (simp_all; done)) | (simp [isCharF]; done) | (simp [isCharF]; omega)
      · refine tl_guard rfl rfl rfl ?_
        refine tl_q rfl (ev_move rfl) ?_
        refine tl_guard rfl rfl rfl ?_
        refine tl_q rfl (ev_gtr rfl rfl) ?_
        refine tl_guard rfl rfl rfl ?_
        refine tl_q rfl (ev_pick_false rfl rfl) ?_
        refine tl_q rfl (ev_pick_true rfl rfl) ?_
        refine tl_q rfl (ev_assign rfl) ?_
        refine tl_nil ?_
        refine te_code ?_
        refine t_ret ?_
        refine te_ret (res1 rfl rfl) ?_
        refine ⟨congrArg Value.bool (Bool.eq_iff_iff.2 ?_), rfl⟩
        first | (exfalso; first | omega | (simp_all; done)) | (simp [isCharF]; done) | (simp [isCharF]; omega)
    · refine tl_guard_no rfl rfl rfl rfl ?_
      refine tl_guard_no rfl rfl rfl rfl ?_
      refine tl_guard_no rfl rfl rfl rfl ?_
      refine tl_guard_un rfl rfl rfl ?_
      refine tl_guard_un rfl rfl rfl ?_
      refine tl_guard_no rfl rfl rfl rfl ?_
      refine tl_q rfl (ev_pick_false rfl rfl) ?_
      refine tl_q rfl (ev_assign rfl) ?_
      refine tl_nil ?_
      refine te_code ?_
      refine t_ret ?_
      refine te_ret (res1 rfl rfl) ?_
      refine ⟨congrArg Value.bool (Bool.eq_iff_iff.2 ?_), rfl⟩
      first | (exfalso; first | omega | (simp_all; done)) | (simp [isCharF]; done) | (simp [isCharF]; omega)
  · refine tl_guard_no rfl rfl rfl rfl ?_
    refine tl_guard_no rfl rfl rfl rfl ?_
    refine tl_q rfl (ev_pick_false rfl rfl) ?_
    refine tl_q rfl (ev_move rfl) ?_
    refine tl_guard_no rfl rfl rfl rfl ?_
    refine tl_guard_no rfl rfl rfl rfl ?_
    refine tl_guard_no rfl rfl rfl rfl ?_
    refine tl_guard_un rfl rfl rfl ?_
    refine tl_guard_un rfl rfl rfl ?_
    refine tl_guard_no rfl rfl rfl rfl ?_
    refine tl_q rfl (ev_pick_false rfl rfl) ?_
    refine tl_q rfl (ev_assign rfl) ?_
    refine tl_nil ?_
    refine te_code ?_
    refine t_ret ?_
    refine te_ret (res1 rfl rfl) ?_
    refine ⟨congrArg Value.bool (Bool.eq_iff_iff.2 ?_), rfl⟩
    first | (exfalso; first | omega | (simp_all; done)) | (simp [isCharF]; done) | (simp [isCharF]; omega)

theorem least_ct (c : Int) : CT Tryz.prog 254 #[.int .i64 c] [] (fun v M => v = .int .i64 (leastF c) ∧ M = []) := by
  refine t_fun (vs := [.int .i64 c]) (n := 10) Tryz.func254 rfl Tryz.ntmps254 rfl fun w0 F => ?_
  refine t_seq ?_
  refine t_region ?_
  refine tl_q rfl (ev_assign rfl) ?_
  refine tl_nil ?_
  refine te_code ?_
  refine t_seq ?_
  refine t_seq ?_
  refine t_region ?_
  refine tl_q rfl (ev_move rfl) ?_
  refine tl_nil ?_
  refine te_code ?_
  refine t_block ?_
  refine t_seq ?_
  refine t_region ?_
  refine tl_q rfl (ev_eql rfl rfl) ?_
  refine tl_q rfl (ev_assign rfl) ?_
  refine tl_nil ?_
  refine te_code ?_
  refine t_cond_dec rfl (fun h0 => ?_) (fun h0 => ?_)
  · refine t_seq ?_
    refine t_region ?_
    refine tl_q rfl (ev_assign rfl) ?_
    refine tl_nil ?_
    refine te_code ?_
    refine t_ret ?_
    refine te_ret (res1 rfl rfl) ?_
    refine ⟨?_, rfl⟩
    simp [leastF, *]
  · refine t_seq ?_
    refine t_region ?_
    refine tl_q rfl (ev_eql rfl rfl) ?_
    refine tl_q rfl (ev_assign rfl) ?_
    refine tl_nil ?_
    refine te_code ?_
    refine t_cond_dec rfl (fun h1 => ?_) (fun h1 => ?_)
    · refine t_seq ?_
      refine t_region ?_
      refine tl_q rfl (ev_assign rfl) ?_
      refine tl_nil ?_
      refine te_code ?_
      refine t_ret ?_
      refine te_ret (res1 rfl rfl) ?_
      refine ⟨?_, rfl⟩
      simp [leastF, *]
    · refine t_seq ?_
      refine t_region ?_
      refine tl_q rfl (ev_eql rfl rfl) ?_
      refine tl_q rfl (ev_assign rfl) ?_
      refine tl_nil ?_
      refine te_code ?_
      refine t_cond_dec rfl (fun h2 => ?_) (fun h2 => ?_)
      · refine t_seq ?_
        refine t_region ?_
        refine tl_q rfl (ev_assign rfl) ?_
        refine tl_nil ?_
        refine te_code ?_
        refine t_ret ?_
        refine te_ret (res1 rfl rfl) ?_
        refine ⟨?_, rfl⟩
        simp [leastF, *]
      · refine t_skip ?_
        refine te_blk ?_
        refine te_code ?_
        refine t_seq ?_
        refine t_region ?_
        refine tl_q rfl (ev_assign rfl) ?_
        refine tl_nil ?_
        refine te_code ?_
        refine t_ret ?_
        refine te_ret (res1 rfl rfl) ?_
        refine ⟨?_, rfl⟩
        simp [leastF, *]

theorem board_isTime_ct (c : Int) : CT Tryz.prog 74 #[.int .i64 c] [] (fun v M => v = .bool (isTimeF c) ∧ M = []) := by
  refine t_fun (vs := [.int .i64 c]) (n := 9) Tryz.func74 rfl Tryz.ntmps74 rfl fun w0 F => ?_
  refine t_seq ?_
  refine t_region ?_
  refine tl_q rfl (ev_assign rfl) ?_
  refine tl_nil ?_
  refine te_code ?_
  refine t_seq ?_
  refine t_region ?_
  refine tl_q rfl (ev_move rfl) ?_
  refine tl_q rfl (ev_geq rfl rfl) ?_
  refine tl_q rfl (ev_move rfl) ?_
  refine tl_split_dec 5 rfl (fun g1_2 => ?_) (fun g1_2 => ?_)
  · refine tl_guard rfl rfl rfl ?_
    refine tl_q rfl (ev_move rfl) ?_
    refine tl_guard rfl rfl rfl ?_
    refine tl_q rfl (ev_leq rfl rfl) ?_
    refine tl_q rfl (ev_pick_true rfl rfl) ?_
    refine tl_q rfl (ev_assign rfl) ?_
    refine tl_nil ?_
    refine te_code ?_
    refine t_ret ?_
    refine te_ret (res1 rfl rfl) ?_
    refine ⟨congrArg Value.bool (Bool.eq_iff_iff.2 ?_), rfl⟩
    first | (simp [isTimeF]; done) | (simp [isTimeF]; omega)
  · refine tl_guard_no rfl rfl rfl rfl ?_
    refine tl_guard_no rfl rfl rfl rfl ?_
    refine tl_q rfl (ev_pick_false rfl rfl) ?_
    refine tl_q rfl (ev_assign rfl) ?_
    refine tl_nil ?_
    refine te_code ?_
    refine t_ret ?_
    refine te_ret (res1 rfl rfl) ?_
    refine ⟨congrArg Value.bool (Bool.eq_iff_iff.2 ?_), rfl⟩
    first | (simp [isTimeF]; done) | (simp [isTimeF]; omega)


def byteAt (s : ByteArray) (i : Nat) : Int := ((s.data[i]?).getD 0).toNat
theorem byte_get {s : ByteArray} {i : Nat} (h : i < s.size) : ∃ u : UInt8, s.data[i]? = some u := ⟨s.data[i]'h, by simp [h]⟩
theorem u8_lt (u : UInt8) : 0 ≤ (u.toNat : Int) ∧ (u.toNat : Int) < 256 := by
  have := u.toNat_lt; omega
theorem size_ne {s : ByteArray} (h : s ≠ ⟨#[]⟩) : 0 < s.size := by
  rcases Nat.eq_zero_or_pos s.size with h0 | h0
  · exfalso; apply h
    cases s with
    | mk d =>
      have : d.size = 0 := h0
      simp at this; subst this; rfl
  · exact h0


/-- a text of printable signs, one byte each -/
def goodS (s : ByteArray) : Prop := ∀ u ∈ s.data, 32 ≤ u.toNat ∧ u.toNat < 127
theorem goodS_extract {s : ByteArray} (h : goodS s) (i j : Nat) : goodS (s.extract i j) := fun u hu => by
  rw [ByteArray.data_extract] at hu
  obtain ⟨k, hk, e⟩ := Array.mem_iff_getElem.1 hu
  rw [Array.getElem_extract] at e
  exact h u (e ▸ Array.getElem_mem _)
theorem goodS_at {s : ByteArray} (h : goodS s) {i : Nat} {u : UInt8} (hu : s.data[i]? = some u) : 32 ≤ (u.toNat : Int) ∧ (u.toNat : Int) < 127 := by
  have := h u (Array.mem_of_getElem? hu); omega
theorem longF_low {b : Int} (h : b < 128) : longF b = (1, b) := by unfold longF; rw [if_pos h]

theorem First_ct (s : ByteArray) (hs : s.size ≤ 1000000) : CT Tryz.prog 214 #[.string s] [] (fun v M => ∃ c n e, v = .tuple #[.int .i64 c, .int .i64 n, .int .i64 e] ∧ M = [] ∧ (e = 0 ∨ e = 40) ∧ (e = 0 → 1 ≤ n ∧ n ≤ s.size) ∧ (goodS s → 0 < s.size → e = 0 ∧ n = 1 ∧ 32 ≤ c ∧ c < 127)) := by
  refine t_fun (vs := [.string s]) (n := 51) Tryz.func214 rfl Tryz.ntmps214 rfl fun w0 F => ?_
  refine t_seq ?_
  refine t_region ?_
  refine tl_q rfl (ev_assign rfl) ?_
  refine tl_q rfl (ev_assign rfl) ?_
  refine tl_q rfl (ev_assign rfl) ?_
  refine tl_nil ?_
  refine te_code ?_
  refine t_seq ?_
  refine t_seq ?_
  refine t_region ?_
  refine tl_q rfl (ev_move rfl) ?_
  refine tl_q rfl (ev_seql rfl rfl) ?_
  refine tl_nil ?_
  refine te_code ?_
  refine t_cond_dec rfl (fun h0 => ?_) (fun h0 => ?_)
  · refine t_seq ?_
    refine t_region ?_
    refine tl_q rfl (ev_assign rfl) ?_
    refine tl_q rfl (ev_assign rfl) ?_
    refine tl_q rfl (ev_assign rfl) ?_
    refine tl_nil ?_
    refine te_code ?_
    refine t_ret ?_
    refine te_ret (resx rfl (RL.cons (resIs_tmp rfl) (RL.cons (resIs_tmp rfl) (RL.cons (resIs_tmp rfl) (RL.nil))))) ?_
    refine ⟨_, _, _, rfl, rfl, ?_, ?_, ?_⟩
    · first | exact .inl rfl | exact .inr rfl
    · first | (intro h; exact absurd h (by decide)) | (intro _; omega)
    · intro hg hp
      first | (exfalso; subst h0; exact absurd hp (by decide)) | (obtain ⟨a1, a2, a3, a4, a5, a6⟩ := hgd hg; first | omega | (exfalso; have e : c = p.2 := (by omega); rw [e, a5] at g12_3; simp at g12_3; done))
  · refine t_skip ?_
    refine te_code ?_
    refine t_seq ?_
    refine t_region ?_
    have hpos := size_ne h0
    obtain ⟨u, hu⟩ := byte_get hpos
    have hub := u8_lt u
    refine tl_q rfl (ev_move rfl) ?_
    refine tl_q rfl (ev_indexStr str_9 rfl rfl (by omega) hu) ?_
    refine tl_e (eff_call rfl rfl body_252 rfl (by repeat (first | exact Frm.nil | exact Take.here | apply Take.there | apply Frm.cons)) (long_ct _ (by omega))) ?_
    rintro _ _ ⟨v11, _, ⟨rfl, rfl⟩, rfl, rfl⟩
    generalize hl : longF (u.toNat : Int) = p
    have hcs := longF_cases (u.toNat : Int)
    rw [hl] at hcs
    have hgd : goodS s → p.1 = 1 ∧ p.2 = (u.toNat : Int) ∧ 32 ≤ (u.toNat : Int) ∧ (u.toNat : Int) < 127 ∧ isCharF p.2 = true ∧ leastF p.1 = 0 := fun g => by
      have := goodS_at g hu
      have e := longF_low (b := (u.toNat : Int)) (by omega)
      rw [← hl, e]
      exact ⟨rfl, rfl, this.1, this.2, by simp [isCharF]; omega, rfl⟩
    refine tl_q rfl (ev_move rfl) ?_
    refine tl_q rfl (ev_extract rfl rfl) ?_
    refine tl_q rfl (ev_extract rfl rfl) ?_
    refine tl_q rfl (ev_assign rfl) ?_
    refine tl_q rfl (ev_assign rfl) ?_
    refine tl_nil ?_
    refine te_code ?_
    refine t_seq ?_
    refine t_seq ?_
    refine t_region ?_
    refine tl_q rfl (ev_move rfl) ?_
    refine tl_q rfl (ev_eql rfl rfl) ?_
    refine tl_q rfl (ev_move rfl) ?_
    refine tl_split_dec 16 rfl (fun hn0 => ?_) (fun hn0 => ?_)
    · refine tl_guard_no rfl rfl rfl rfl ?_
      refine tl_guard_no rfl rfl rfl rfl ?_
      refine tl_guard_no rfl rfl rfl rfl ?_
      refine tl_guard_no rfl rfl rfl rfl ?_
      refine tl_q rfl (ev_pick_true rfl rfl) ?_
      refine tl_nil ?_
      refine te_code ?_
      refine t_cond_true rfl ?_
      refine t_seq ?_
      refine t_region ?_
      refine tl_q rfl (ev_assign rfl) ?_
      refine tl_q rfl (ev_assign rfl) ?_
      refine tl_q rfl (ev_assign rfl) ?_
      refine tl_nil ?_
      refine te_code ?_
      refine t_ret ?_
      refine te_ret (resx rfl (RL.cons (resIs_tmp rfl) (RL.cons (resIs_tmp rfl) (RL.cons (resIs_tmp rfl) (RL.nil))))) ?_
      refine ⟨_, _, _, rfl, rfl, ?_, ?_, ?_⟩
      · first | exact .inl rfl | exact .inr rfl
      · first | (intro h; exact absurd h (by decide)) | (intro _; omega)
      · intro hg hp
        first | (exfalso; subst h0; exact absurd hp (by decide)) | (obtain ⟨a1, a2, a3, a4, a5, a6⟩ := hgd hg; first | omega | (exfalso; have e : c = p.2 := (by omega); rw [e, a5] at g12_3; simp at g12_3; done))
    · refine tl_guard rfl rfl rfl ?_
      refine tl_q rfl (ev_move rfl) ?_
      refine tl_guard rfl rfl rfl ?_
      refine tl_q rfl (ev_move rfl) ?_
      refine tl_guard rfl rfl rfl ?_
      refine tl_q rfl (ev_len_str str_9 rfl) ?_
      refine tl_guard rfl rfl rfl ?_
      refine tl_q rfl (ev_gtr rfl rfl) ?_
      refine tl_q rfl (ev_pick_false rfl rfl) ?_
      refine tl_nil ?_
      refine te_code ?_
      refine t_cond_dec rfl (fun hn => ?_) (fun hn => ?_)
      · refine t_seq ?_
        refine t_region ?_
        refine tl_q rfl (ev_assign rfl) ?_
        refine tl_q rfl (ev_assign rfl) ?_
        refine tl_q rfl (ev_assign rfl) ?_
        refine tl_nil ?_
        refine te_code ?_
        refine t_ret ?_
        refine te_ret (resx rfl (RL.cons (resIs_tmp rfl) (RL.cons (resIs_tmp rfl) (RL.cons (resIs_tmp rfl) (RL.nil))))) ?_
        refine ⟨_, _, _, rfl, rfl, ?_, ?_, ?_⟩
        · first | exact .inl rfl | exact .inr rfl
        · first | (intro h; exact absurd h (by decide)) | (intro _; omega)
        · intro hg hp
          first | (exfalso; subst h0; exact absurd hp (by decide)) | (obtain ⟨a1, a2, a3, a4, a5, a6⟩ := hgd hg; first | omega | (exfalso; have e : c = p.2 := (by omega); rw [e, a5] at g12_3; simp at g12_3; done))
      · refine t_skip ?_
        refine te_code ?_
        refine t_seq ?_
        refine t_seq ?_
        refine t_region ?_
        refine tl_q rfl (ev_assign rfl) ?_
        refine tl_nil ?_
        refine te_code ?_
        refine t_block ?_
        refine t_loop (α := Int × Int) (fun q => [(5, .int .i64 q.1), (2, .int .i64 q.2), (3, .int .i64 p.1), (0, .string s)]) (fun _ => []) (fun q => (p.1 - q.1).toNat) (fun q => 1 ≤ q.1 ∧ (q.1 ≤ p.1 ∨ q.1 = 1) ∧ (q.1 = 1 → q.2 = p.2)) (1, p.2) (by dsimp only; omega) (by exact sub_cons rfl (sub_cons rfl (sub_cons rfl (sub_cons rfl (sub_nil))))) (fun _ h => hold_keep (by repeat (first | exact Frm.nil | exact Take.here | apply Take.there | apply Frm.cons)) h) ?_
        rintro ⟨i, c⟩ ⟨hi1, hi2, hi3⟩
        try dsimp only
        dsimp only at hi1 hi2 hi3
        refine t_seq ?_
        refine t_seq ?_
        refine t_region ?_
        refine tl_q rfl (ev_move rfl) ?_
        refine tl_q rfl (ev_move rfl) ?_
        refine tl_q rfl (ev_lss rfl rfl) ?_
        refine tl_nil ?_
        refine te_code ?_
        refine t_cond_dec rfl (fun hlt => ?_) (fun hlt => ?_)
        · obtain ⟨j, rfl⟩ := Int.eq_ofNat_of_zero_le (show 0 ≤ i by omega)
          obtain ⟨x, hx⟩ := byte_get (s := s) (i := j) (by omega)
          have hxb := u8_lt x
          refine t_skip ?_
          refine te_code ?_
          refine t_seq ?_
          refine t_block ?_
          refine t_seq ?_
          refine t_seq ?_
          refine t_region ?_
          refine tl_q rfl (ev_move rfl) ?_
          refine tl_q rfl (ev_move rfl) ?_
          refine tl_q rfl (ev_indexStr str_9 rfl rfl (by omega) (by simpa using hx)) ?_
          refine tl_q rfl (ev_shr rfl rfl (by omega)) ?_
          refine tl_q rfl (ev_neq rfl rfl) ?_
          refine tl_nil ?_
          refine te_code ?_
          refine t_cond_dec rfl (fun h3 => ?_) (fun h3 => ?_)
          · refine t_seq ?_
            refine t_region ?_
            refine tl_q rfl (ev_assign rfl) ?_
            refine tl_q rfl (ev_assign rfl) ?_
            refine tl_q rfl (ev_assign rfl) ?_
            refine tl_nil ?_
            refine te_code ?_
            refine t_ret ?_
            refine te_ret (resx rfl (RL.cons (resIs_tmp rfl) (RL.cons (resIs_tmp rfl) (RL.cons (resIs_tmp rfl) (RL.nil))))) ?_
            refine ⟨_, _, _, rfl, rfl, ?_, ?_, ?_⟩
            · first | exact .inl rfl | exact .inr rfl
            · first | (intro h; exact absurd h (by decide)) | (intro _; omega)
            · intro hg hp
              first | (exfalso; subst h0; exact absurd hp (by decide)) | (obtain ⟨a1, a2, a3, a4, a5, a6⟩ := hgd hg; first | omega | (exfalso; have e : c = p.2 := (by omega); rw [e, a5] at g12_3; simp at g12_3; done))
          · refine t_skip ?_
            refine te_code ?_
            refine t_region ?_
            refine tl_q rfl (ev_move rfl) ?_
            refine tl_q rfl (ev_shl rfl rfl (by omega)) ?_
            refine tl_q rfl (ev_move rfl) ?_
            refine tl_q rfl (ev_move rfl) ?_
            refine tl_q rfl (ev_indexStr str_9 rfl rfl (by omega) (by simpa using hx)) ?_
            refine tl_q rfl (ev_and rfl rfl) ?_
            refine tl_q rfl (ev_toInt ti_5_3 rfl) ?_
            refine tl_q rfl (ev_or rfl rfl) ?_
            refine tl_q rfl (ev_assign rfl) ?_
            refine tl_nil ?_
            refine te_blk ?_
            refine te_code ?_
            refine t_region ?_
            refine tl_q rfl (ev_move rfl) ?_
            refine tl_q rfl (ev_add' rfl rfl (by omega)) ?_
            refine tl_q rfl (ev_assign rfl) ?_
            refine tl_nil ?_
            exact te_round (_, _) (by exact sub_cons rfl (sub_cons rfl (sub_cons rfl (sub_cons rfl (sub_nil))))) (fun _ h => hold_keep (by repeat (first | exact Frm.nil | exact Take.here | apply Take.there | apply Frm.cons)) h) (by dsimp only; omega) (by dsimp only; omega)
        · refine t_exit ?_
          refine te_exit_code ?_
          refine te_exit_rnd ?_
          refine te_exit_here ?_
          refine te_code ?_
          refine t_seq ?_
          refine t_seq ?_
          refine t_region ?_
          refine tl_q rfl (ev_move rfl) ?_
          refine tl_e (eff_call rfl rfl body_253 rfl (by repeat (first | exact Frm.nil | exact Take.here | apply Take.there | apply Frm.cons)) (isChar_ct _)) ?_
          rintro _ _ ⟨v41, _, ⟨rfl, rfl⟩, rfl, rfl⟩
          refine tl_q rfl (ev_not rfl) ?_
          refine tl_q rfl (ev_move rfl) ?_
          refine tl_split 43 rfl (fun g12_3 => ?_) (fun g12_3 => ?_)
          · refine tl_guard_no rfl rfl rfl rfl ?_
            refine tl_guard_no rfl rfl rfl rfl ?_
            refine tl_guard_no rfl rfl rfl rfl ?_
            refine tl_guard_no rfl rfl rfl rfl ?_
            refine tl_q rfl (ev_pick_true rfl rfl) ?_
            refine tl_nil ?_
            refine te_code ?_
            refine t_cond_true rfl ?_
            refine t_seq ?_
            refine t_region ?_
            refine tl_q rfl (ev_assign rfl) ?_
            refine tl_q rfl (ev_assign rfl) ?_
            refine tl_q rfl (ev_assign rfl) ?_
            refine tl_nil ?_
            refine te_code ?_
            refine t_ret ?_
            refine te_ret (resx rfl (RL.cons (resIs_tmp rfl) (RL.cons (resIs_tmp rfl) (RL.cons (resIs_tmp rfl) (RL.nil))))) ?_
            refine ⟨_, _, _, rfl, rfl, ?_, ?_, ?_⟩
            · first | exact .inl rfl | exact .inr rfl
            · first | (intro h; exact absurd h (by decide)) | (intro _; omega)
            · intro hg hp
              first | (exfalso; subst h0; exact absurd hp (by decide)) | (obtain ⟨a1, a2, a3, a4, a5, a6⟩ := hgd hg; first | omega | (exfalso; have e : c = p.2 := (by omega); rw [e, a5] at g12_3; simp at g12_3; done))
          · refine tl_guard rfl rfl rfl ?_
            refine tl_q rfl (ev_move rfl) ?_
            refine tl_guard rfl rfl rfl ?_
            refine tl_q rfl (ev_move rfl) ?_
            refine tl_guard rfl rfl rfl ?_
            refine tl_e (eff_call rfl rfl body_254 rfl (by repeat (first | exact Frm.nil | exact Take.here | apply Take.there | apply Frm.cons)) (least_ct _)) ?_
            rintro _ _ ⟨v46, _, ⟨rfl, rfl⟩, rfl, rfl⟩
            refine tl_guard rfl rfl rfl ?_
            refine tl_q rfl (ev_lss rfl rfl) ?_
            refine tl_q rfl (ev_pick_false rfl rfl) ?_
            refine tl_nil ?_
            refine te_code ?_
            refine t_cond_dec rfl (fun h4 => ?_) (fun h4 => ?_)
            · refine t_seq ?_
              refine t_region ?_
              refine tl_q rfl (ev_assign rfl) ?_
              refine tl_q rfl (ev_assign rfl) ?_
              refine tl_q rfl (ev_assign rfl) ?_
              refine tl_nil ?_
              refine te_code ?_
              refine t_ret ?_
              refine te_ret (resx rfl (RL.cons (resIs_tmp rfl) (RL.cons (resIs_tmp rfl) (RL.cons (resIs_tmp rfl) (RL.nil))))) ?_
              refine ⟨_, _, _, rfl, rfl, ?_, ?_, ?_⟩
              · first | exact .inl rfl | exact .inr rfl
              · first | (intro h; exact absurd h (by decide)) | (intro _; omega)
              · intro hg hp
                first | (exfalso; subst h0; exact absurd hp (by decide)) | (obtain ⟨a1, a2, a3, a4, a5, a6⟩ := hgd hg; first | omega | (exfalso; have e : c = p.2 := (by omega); rw [e, a5] at g12_3; simp at g12_3; done))
            · refine t_skip ?_
              refine te_code ?_
              refine t_seq ?_
              refine t_region ?_
              refine tl_q rfl (ev_move rfl) ?_
              refine tl_q rfl (ev_move rfl) ?_
              refine tl_q rfl (ev_assign rfl) ?_
              refine tl_q rfl (ev_assign rfl) ?_
              refine tl_q rfl (ev_assign rfl) ?_
              refine tl_nil ?_
              refine te_code ?_
              refine t_ret ?_
              refine te_ret (resx rfl (RL.cons (resIs_tmp rfl) (RL.cons (resIs_tmp rfl) (RL.cons (resIs_tmp rfl) (RL.nil))))) ?_
              refine ⟨_, _, _, rfl, rfl, ?_, ?_, ?_⟩
              · first | exact .inl rfl | exact .inr rfl
              · first | (intro h; exact absurd h (by decide)) | (intro _; omega)
              · intro hg hp
                first | (exfalso; subst h0; exact absurd hp (by decide)) | (obtain ⟨a1, a2, a3, a4, a5, a6⟩ := hgd hg; first | omega | (exfalso; have e : c = p.2 := (by omega); rw [e, a5] at g12_3; simp at g12_3; done))

theorem Chars_ct (s : ByteArray) (hs : s.size ≤ 1000000) : CT Tryz.prog 167 #[.string s] [] (fun v M => ∃ sv xs e, v = .tuple #[sv, .int .i64 e] ∧ M = [arr 3 1 encI sv xs] ∧ (e = 0 ∨ e = 40) ∧ xs.length ≤ s.size ∧ (goodS s → e = 0 ∧ ∀ x ∈ xs, 32 ≤ x ∧ x < 127)) := by
  refine t_fun (vs := [.string s]) (n := 27) Tryz.func167 rfl Tryz.ntmps167 rfl fun w0 F => ?_
  refine t_nil_arr 3 1 encI ?_
  refine t_seq ?_
  refine t_region ?_
  refine tl_q rfl (ev_assign rfl) ?_
  refine tl_q rfl (ev_assign rfl) ?_
  refine tl_nil ?_
  refine te_code ?_
  refine t_seq ?_
  refine t_region ?_
  refine tl_q rfl (ev_assign rfl) ?_
  refine tl_nil ?_
  refine te_code ?_
  refine t_seq ?_
  refine t_block ?_
  refine t_loop (α := ByteArray × Value × List Int) (fun q => [(0, .string q.1), (4, q.2.1)]) (fun q => [arr 3 1 encI q.2.1 q.2.2]) (fun q => q.1.size) (fun q => q.1.size + q.2.2.length ≤ s.size ∧ (goodS s → goodS q.1 ∧ ∀ x ∈ q.2.2, 32 ≤ x ∧ x < 127)) (s, .slice none 0 0, []) (by simp) (by exact sub_cons rfl (sub_cons rfl (sub_nil))) (fun _ h => hold_keep (by repeat (first | exact Frm.nil | exact Take.here | apply Take.there | apply Frm.cons)) h) ?_
  rintro ⟨t, sv, xs⟩ ⟨hI, hG⟩
  try dsimp only
  dsimp only at hI hG
  refine t_seq ?_
  refine t_seq ?_
  refine t_region ?_
  refine tl_q rfl (ev_move rfl) ?_
  refine tl_q rfl (ev_sneq rfl rfl) ?_
  refine tl_nil ?_
  refine te_code ?_
  refine t_cond_dec rfl (fun h0 => ?_) (fun h0 => ?_)
  · refine t_skip ?_
    refine te_code ?_
    refine t_block ?_
    refine t_seq ?_
    refine t_region ?_
    refine tl_q rfl (ev_move rfl) ?_
    refine tl_e (eff_call rfl rfl body_214 rfl (by repeat (first | exact Frm.nil | exact Take.here | apply Take.there | apply Frm.cons)) (First_ct _ (by omega))) ?_
    rintro _ _ ⟨v12, _, ⟨c, n, e, rfl, rfl, hfe, hfn, hfg⟩, rfl, rfl⟩
    refine tl_q rfl (ev_move rfl) ?_
    refine tl_q rfl (ev_extract rfl rfl) ?_
    refine tl_q rfl (ev_extract rfl rfl) ?_
    refine tl_q rfl (ev_extract rfl rfl) ?_
    refine tl_q rfl (ev_assign rfl) ?_
    refine tl_q rfl (ev_assign rfl) ?_
    refine tl_q rfl (ev_assign rfl) ?_
    refine tl_nil ?_
    refine te_code ?_
    refine t_seq ?_
    refine t_seq ?_
    refine t_region ?_
    refine tl_q rfl (ev_move rfl) ?_
    refine tl_q rfl (ev_neq rfl rfl) ?_
    refine tl_nil ?_
    refine te_code ?_
    refine t_cond_dec rfl (fun he => ?_) (fun he => ?_)
    · refine t_seq ?_
      refine t_region ?_
      refine tl_q rfl (ev_move rfl) ?_
      refine tl_q rfl (ev_assign rfl) ?_
      refine tl_q rfl (ev_assign rfl) ?_
      refine tl_nil ?_
      refine te_code ?_
      refine t_ret ?_
      refine te_nil_arr 3 1 encI ?_
      refine te_ret_k (pre := [arr 3 1 encI _ _]) (res2 rfl rfl rfl) (by repeat (first | exact Frm.nil | exact Take.here | apply Take.there | apply Frm.cons)) ?_
      refine ⟨_, _, _, rfl, rfl, hfe, by simp, fun g => absurd (hfg (hG g).1 (size_ne h0)).1 (by omega)⟩
    · have he0 : e = 0 := by omega
      obtain ⟨m, rfl⟩ := Int.eq_ofNat_of_zero_le (show 0 ≤ n by omega)
      have hmm := hfn he0
      refine t_skip ?_
      refine te_code ?_
      refine t_seq ?_
      refine t_region ?_
      refine tl_q rfl (ev_move rfl) ?_
      refine tl_q rfl (ev_move rfl) ?_
      refine tl_e (eff_buildSl rfl bs_269_1 rfl (by repeat (first | exact FillR.nil | exact LPut.nil | apply LPut.cons | apply LPut.succ | apply FillR.cons rfl rfl rfl))) ?_
      rintro _ _ ⟨b21, rfl, rfl⟩
      refine tl_e (eff_append (ys := [c]) rfl sl_269 Tryz.underlying269 zero_3 rfl by_3 rfl rfl (by repeat (first | exact Take.here | apply Take.there)) (HasArr.lit (by first | (left; (repeat (first | exact List.Mem.head _ | apply List.Mem.tail)); done) | (right; (repeat (first | exact List.Mem.head _ | apply List.Mem.tail)); done)) rfl rfl) (by intro _; rfl) flatI (by simp; omega) (by decide)) ?_
      rintro _ _ ⟨v22, rfl, rfl⟩
      refine tl_q rfl (ev_assign rfl) ?_
      refine tl_nil ?_
      refine te_code ?_
      refine t_region ?_
      refine tl_q rfl (ev_move rfl) ?_
      refine tl_q rfl (ev_move rfl) ?_
      refine tl_q rfl (ev_sliceStr str_9 rfl ⟨_, rfl⟩ rfl (by omega) (Nat.le_refl _)) ?_
      refine tl_q rfl (ev_assign rfl) ?_
      refine tl_nil ?_
      refine te_blk ?_
      exact te_round (t.extract m t.size, _, xs ++ [c]) (by exact sub_cons rfl (sub_cons rfl (sub_nil))) (fun _ h => hold_keep (by repeat (first | exact Frm.nil | exact Take.here | apply Take.there | apply Frm.cons)) h) ⟨by dsimp only; rw [size_extract _ _ _ (Nat.le_refl _)]; simp; omega, fun g => ⟨goodS_extract (hG g).1 _ _, fun x hx => by
            have hc := (hfg (hG g).1 (size_ne h0)).2.2
            have hg := (hG g).2 x
            dsimp only at hx; simp at hx; rcases hx with hx | rfl
            · exact hg hx
            · exact hc⟩⟩ (by dsimp only; rw [size_extract _ _ _ (Nat.le_refl _)]; omega)
  · refine t_exit ?_
    refine te_exit_code ?_
    refine te_exit_rnd ?_
    refine te_exit_here ?_
    refine te_code ?_
    refine t_seq ?_
    refine t_region ?_
    refine tl_q rfl (ev_move rfl) ?_
    refine tl_q rfl (ev_assign rfl) ?_
    refine tl_q rfl (ev_assign rfl) ?_
    refine tl_nil ?_
    refine te_code ?_
    refine t_ret ?_
    refine te_ret_k (pre := [arr 3 1 encI _ _]) (res2 rfl rfl rfl) (by repeat (first | exact Frm.nil | exact Take.here | apply Take.there | apply Frm.cons)) ?_
    exact ⟨_, _, _, rfl, rfl, .inl rfl, by omega, fun g => ⟨rfl, (hG g).2⟩⟩

end Go.SL
