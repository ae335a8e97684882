/- Contracts of stamp.Print and of the Builder. -/
import Derived.Test.YtimhhegebkganaaGreatDoorProg
import Derived.Test.YtimhhegebkganaaGreatDoorGT
import Derived.Lib.ItoaLen
set_option linter.unusedSimpArgs false
set_option linter.unusedVariables false
set_option maxRecDepth 4000
namespace Go.SL
open Go.Proofs

theorem body_100 : (Tryz.prog.funcs[100]?).map (fun fn => fn.body.isSome && !(fn.name == "runtime.NumGoroutine")) = some true := by kernel_rfl
theorem body_10 : (Tryz.prog.funcs[10]?).map (fun fn => fn.body.isSome && !(fn.name == "runtime.NumGoroutine")) = some true := by kernel_rfl
theorem body_101 : (Tryz.prog.funcs[101]?).map (fun fn => fn.body.isSome && !(fn.name == "runtime.NumGoroutine")) = some true := by kernel_rfl
theorem body_56 : (Tryz.prog.funcs[56]?).map (fun fn => fn.body.isSome && !(fn.name == "runtime.NumGoroutine")) = some true := by kernel_rfl
theorem body_102 : (Tryz.prog.funcs[102]?).map (fun fn => fn.body.isSome && !(fn.name == "runtime.NumGoroutine")) = some true := by kernel_rfl
theorem fa_152_1 : FldAt Tryz.prog 152 1 1 := fun a w => by kernel_rfl
theorem sc_150 : IsSc Tryz.prog 150 := isSc_of Tryz.underlying150 rfl
theorem sl_150 : SliceOf Tryz.prog 150 5 1 := sliceOf_of Tryz.underlying150 info_5 rfl
theorem zero_5 : ZeroIs Tryz.prog 5 (.int .u8 0) := zeroIs_of info_5 rfl
theorem by_5 : ∀ w, ∃ i, (typeInfo 5).run Tryz.prog w = .ok i w ∧ i.bytes = 1 := bytes_of info_5 rfl
theorem info_150 : Tryz.prog.info? 150 = some Tryz.t150 := by kernel_rfl
theorem sz_150 : SizeIs Tryz.prog 150 1 := sizeIs_of info_150 rfl
theorem cells1_5 : Tryz.prog.cellsOf 5 = 1 := by kernel_rfl


def trimF (s : ByteArray) : ByteArray := ⟨(Go.Lib.trimRightB s.data.toList 48).toArray⟩
theorem dropWhile_len {α : Type} (p : α → Bool) : ∀ l : List α, (l.dropWhile p).length ≤ l.length
  | [] => by simp
  | a :: l => by
    rw [List.dropWhile_cons]
    split
    · have := dropWhile_len p l; simp; omega
    · simp
theorem trim_size (s : ByteArray) : (trimF s).size ≤ s.size := by
  have h := dropWhile_len (fun b => b == (48 : UInt8)) s.data.toList.reverse
  show ((Go.Lib.trimRightB s.data.toList 48).toArray).size ≤ s.data.size
  unfold Go.Lib.trimRightB
  simp at h ⊢
  exact h
theorem itoa_pos (n : Int) (h : 0 ≤ n) : 1 ≤ (itoaB n).size := by
  show 1 ≤ (Go.Lib.itoa n).toArray.size
  obtain ⟨k, rfl⟩ := Int.eq_ofNat_of_zero_le h
  have e : Go.Lib.itoa (k : Int) = Go.Lib.decDigits k := Go.Lib.itoa_nonneg k
  rw [e, List.size_toArray, Go.Lib.decDigits_length]
  exact Go.Lib.nDigits_pos k
theorem itoa_le (n : Int) (h0 : -9223372036854775808 ≤ n) (h1 : n ≤ 9223372036854775807) : (itoaB n).size ≤ 21 := by
  show (Go.Lib.itoa n).toArray.size ≤ 21
  rw [List.size_toArray]; exact Go.Lib.itoa_length_le n h0 h1
def wholeF (t nano : Int) : ByteArray := if nano = 0 then showF t else showF t ++ ⟨#[46]⟩ ++ trimF ((itoaB (1000000000 + nano)).extract 1 (itoaB (1000000000 + nano)).size)
theorem whole_size (t nano : Int) (h0 : 0 ≤ nano) (h1 : nano < 1000000000) : (wholeF t nano).size ≤ 60 := by
  unfold wholeF
  split
  · rw [show_size]; omega
  · have h2 := itoa_le (1000000000 + nano) (by omega) (by omega)
    have h3 := trim_size ((itoaB (1000000000 + nano)).extract 1 (itoaB (1000000000 + nano)).size)
    rw [size_extract _ _ _ (Nat.le_refl _)] at h3
    simp only [ByteArray.size_append, show_size, size_l1]
    omega
def printF (t : Int) : ByteArray := if t < 0 ∨ 2305843009213693952 < t then ⟨#[]⟩ else wholeF (t / 1000000000) (t % 1000000000) ++ ⟨#[90]⟩
theorem print_size (t : Int) : (printF t).size ≤ 61 := by
  unfold printF
  split
  · show (0 : Nat) ≤ 61; omega
  · have := whole_size (t / 1000000000) (t % 1000000000) (by omega) (by omega)
    simp only [ByteArray.size_append, size_l1]; omega

theorem whole_ct (q : TypeId × (Nat × Nat)) (t nano : Int) (ht : 0 ≤ t ∧ t ≤ 2305843010) (hn : 0 ≤ nano ∧ nano < 1000000000) : CT Tryz.prog 56 #[.int .i64 t, .int .i64 nano] [powA, aheadI q] (fun v M => v = .string (wholeF t nano) ∧ M = [powA, aheadI q]) := by
  refine t_fun (vs := [.int .i64 t, .int .i64 nano]) (n := 21) Tryz.func56 rfl Tryz.ntmps56 rfl fun w0 F => ?_
  refine t_seq ?_
  refine t_region ?_
  refine tl_q rfl (ev_assign rfl) ?_
  refine tl_nil ?_
  refine te_code ?_
  refine t_seq ?_
  refine t_region ?_
  refine tl_q rfl (ev_move rfl) ?_
  refine tl_e (eff_call rfl rfl body_100 rfl (by repeat (first | exact Frm.nil | exact Take.here | apply Take.there | apply Frm.cons)) (show_ct q _ (by omega))) ?_
  rintro _ _ ⟨v8, _, ⟨rfl, rfl⟩, rfl, rfl⟩
  refine tl_q rfl (ev_assign rfl) ?_
  refine tl_nil ?_
  refine te_code ?_
  refine t_seq ?_
  refine t_seq ?_
  refine t_region ?_
  refine tl_q rfl (ev_move rfl) ?_
  refine tl_q rfl (ev_eql rfl rfl) ?_
  refine tl_nil ?_
  refine te_code ?_
  refine t_cond_dec rfl (fun h0 => ?_) (fun h0 => ?_)
  · refine t_seq ?_
    refine t_region ?_
    refine tl_q rfl (ev_move rfl) ?_
    refine tl_q rfl (ev_assign rfl) ?_
    refine tl_nil ?_
    refine te_code ?_
    refine t_ret ?_
    refine te_ret_k (pre := [powA, aheadI q]) (res1 rfl rfl) (by repeat (first | exact Frm.nil | exact Take.here | apply Take.there | apply Frm.cons)) ?_
    refine ⟨?_, rfl⟩
    unfold wholeF; rw [if_pos h0]
  · refine t_skip ?_
    refine te_code ?_
    refine t_seq ?_
    refine t_region ?_
    refine tl_q rfl (ev_move rfl) ?_
    refine tl_q rfl (ev_add' rfl rfl (by omega)) ?_
    refine tl_e (eff_call rfl rfl body_10 rfl (by repeat (first | exact Frm.nil | exact Take.here | apply Take.there | apply Frm.cons)) (Itoa_ct _ (by omega) (by omega))) ?_
    rintro _ _ ⟨v14, _, ⟨rfl, rfl⟩, rfl, rfl⟩
    have hi1 := itoa_pos (1000000000 + nano) (by omega)
    have hi2 := itoa_le (1000000000 + nano) (by omega) (by omega)
    have hi3 := size_extract (itoaB (1000000000 + nano)) 1 (itoaB (1000000000 + nano)).size (Nat.le_refl _)
    have hi4 := trim_size ((itoaB (1000000000 + nano)).extract 1 (itoaB (1000000000 + nano)).size)
    have hi5 := show_size t
    refine tl_q rfl (ev_assign rfl) ?_
    refine tl_nil ?_
    refine te_code ?_
    refine t_seq ?_
    refine t_region ?_
    refine tl_q rfl (ev_move rfl) ?_
    refine tl_q rfl (ev_sadd rfl rfl (by first | omega | (simp only [ByteArray.size_append, size_l1, size_l2, two_size, show_size]; omega))) ?_
    refine tl_q rfl (ev_move rfl) ?_
    refine tl_q rfl (ev_sliceStr (l := 1) str_9 rfl ⟨_, rfl⟩ rfl (by omega) (Nat.le_refl _)) ?_
    refine tl_e (eff_call rfl rfl body_101 rfl (by repeat (first | exact Frm.nil | exact Take.here | apply Take.there | apply Frm.cons)) (TrimRight0_ct _ (by omega))) ?_
    rintro _ _ ⟨v19, _, ⟨rfl, rfl⟩, rfl, rfl⟩
    refine tl_q rfl (ev_sadd rfl rfl (by rw [ByteArray.size_append, size_l1]; unfold trimF at hi4; omega)) ?_
    refine tl_q rfl (ev_assign rfl) ?_
    refine tl_nil ?_
    refine te_code ?_
    refine t_ret ?_
    refine te_ret_k (pre := [powA, aheadI q]) (res1 rfl rfl) (by repeat (first | exact Frm.nil | exact Take.here | apply Take.there | apply Frm.cons)) ?_
    refine ⟨?_, rfl⟩
    unfold wholeF; rw [if_neg h0]; rfl

theorem Print_ct (q : TypeId × (Nat × Nat)) (t : Int) : CT Tryz.prog 28 #[.int .i64 t] [powA, aheadI q] (fun v M => ∃ e, v = .tuple #[.string (printF t), e] ∧ M = [powA, aheadI q]) := by
  refine t_fun (vs := [.int .i64 t]) (n := 16) Tryz.func28 rfl Tryz.ntmps28 rfl fun w0 F => ?_
  refine t_seq ?_
  refine t_region ?_
  refine tl_q rfl (ev_assign rfl) ?_
  refine tl_q rfl (ev_assign rfl) ?_
  refine tl_nil ?_
  refine te_code ?_
  refine t_seq ?_
  refine t_seq ?_
  refine t_region ?_
  refine tl_q rfl (ev_move rfl) ?_
  refine tl_q rfl (ev_lss rfl rfl) ?_
  refine tl_q rfl (ev_move rfl) ?_
  refine tl_split_dec 6 rfl (fun g1_2 => ?_) (fun g1_2 => ?_)
  · refine tl_guard_no rfl rfl rfl rfl ?_
    refine tl_guard_no rfl rfl rfl rfl ?_
    refine tl_q rfl (ev_pick_true rfl rfl) ?_
    refine tl_nil ?_
    refine te_code ?_
    refine t_cond_true rfl ?_
    refine t_seq ?_
    refine t_region ?_
    refine tl_q rfl (ev_assign rfl) ?_
    refine tl_q rfl (ev_assign rfl) ?_
    refine tl_nil ?_
    refine te_code ?_
    refine t_ret ?_
    refine te_ret_k (pre := [powA, aheadI q]) (res2 rfl rfl rfl) (by repeat (first | exact Frm.nil | exact Take.here | apply Take.there | apply Frm.cons)) ?_
    refine ⟨.int .i64 1, ?_, rfl⟩
    unfold printF; rw [if_pos (by omega)]
  · refine tl_guard rfl rfl rfl ?_
    refine tl_q rfl (ev_move rfl) ?_
    refine tl_guard rfl rfl rfl ?_
    refine tl_q rfl (ev_gtr rfl rfl) ?_
    refine tl_q rfl (ev_pick_false rfl rfl) ?_
    refine tl_nil ?_
    refine te_code ?_
    refine t_cond_dec rfl (fun h0 => ?_) (fun h0 => ?_)
    · refine t_seq ?_
      refine t_region ?_
      refine tl_q rfl (ev_assign rfl) ?_
      refine tl_q rfl (ev_assign rfl) ?_
      refine tl_nil ?_
      refine te_code ?_
      refine t_ret ?_
      refine te_ret_k (pre := [powA, aheadI q]) (res2 rfl rfl rfl) (by repeat (first | exact Frm.nil | exact Take.here | apply Take.there | apply Frm.cons)) ?_
      refine ⟨.int .i64 1, ?_, rfl⟩
      unfold printF; rw [if_pos (by omega)]
    · refine t_skip ?_
      refine te_code ?_
      refine t_seq ?_
      refine t_region ?_
      refine tl_q rfl (ev_move rfl) ?_
      refine tl_q rfl (ev_quo' rfl rfl (by omega) (by omega)) ?_
      refine tl_q rfl (ev_move rfl) ?_
      refine tl_q rfl (ev_rem' rfl rfl (by omega) (by omega)) ?_
      refine tl_e (eff_call rfl rfl body_56 rfl (by repeat (first | exact Frm.nil | exact Take.here | apply Take.there | apply Frm.cons)) (whole_ct q _ _ (by omega) (by omega))) ?_
      rintro _ _ ⟨v14, _, ⟨rfl, rfl⟩, rfl, rfl⟩
      refine tl_q rfl (ev_sadd rfl rfl (by have := whole_size (t / 1000000000) (t % 1000000000) (by omega) (by omega); rw [size_l1]; omega)) ?_
      refine tl_q rfl (ev_assign rfl) ?_
      refine tl_q rfl (ev_assign rfl) ?_
      refine tl_nil ?_
      refine te_code ?_
      refine t_ret ?_
      refine te_ret_k (pre := [powA, aheadI q]) (res2 rfl rfl rfl) (by repeat (first | exact Frm.nil | exact Take.here | apply Take.there | apply Frm.cons)) ?_
      refine ⟨.int .i64 0, ?_, rfl⟩
      unfold printF; rw [if_neg (by omega)]

theorem WriteByte0_ct (b : Nat) (n : Int) (c : UInt8) (hn : n = (c.toNat : Int)) : CT Tryz.prog 57 #[.pointer (some ⟨b, 0, none⟩), .int .u8 n] [blk b (.cells [.pointer none, .slice none 0 0].toArray 152 (0, 0))] (fun v M => ∃ sv, v = .nilIface ∧ M = [blk b (.cells [.pointer (some ⟨b, 0, none⟩), sv].toArray 152 (0, 0)), arr 5 1 encB sv [c]]) := by
  refine t_fun (vs := [.pointer (some ⟨b, 0, none⟩), .int .u8 n]) (n := 17) Tryz.func57 rfl Tryz.ntmps57 rfl fun w0 F => ?_
  subst hn
  refine t_nil_arr 5 1 encB ?_
  refine t_seq ?_
  refine t_region ?_
  refine tl_q rfl (ev_assign rfl) ?_
  refine tl_nil ?_
  refine te_code ?_
  refine t_seq ?_
  refine t_region ?_
  refine tl_q rfl (ev_move rfl) ?_
  refine tl_e (eff_call rfl rfl body_102 rfl (by repeat (first | exact Frm.nil | exact Take.here | apply Take.there | apply Frm.cons)) (copyFresh_ct _ _)) ?_
  rintro _ _ ⟨v6, _, ⟨rfl, rfl⟩, rfl, rfl⟩
  refine tl_nil ?_
  refine te_code ?_
  refine t_seq ?_
  refine t_region ?_
  refine tl_q rfl (ev_move rfl) ?_
  refine tl_q rfl (ev_move rfl) ?_
  refine tl_q rfl (ev_nil_ptr rfl) ?_
  refine tl_q rfl (ev_fieldAddr fa_152_1 rfl rfl) ?_
  refine tl_q rfl (ev_load sc_150 rfl (by first | (left; (repeat (first | exact List.Mem.head _ | apply List.Mem.tail)); done) | (right; (repeat (first | exact List.Mem.head _ | apply List.Mem.tail)); done)) rfl) ?_
  refine tl_q rfl (ev_move rfl) ?_
  refine tl_e (eff_buildSl rfl bs_150_1 rfl (by repeat (first | exact FillR.nil | exact LPut.nil | apply LPut.cons | apply LPut.succ | apply FillR.cons rfl rfl rfl))) ?_
  rintro _ _ ⟨b13, rfl, rfl⟩
  refine tl_e (eff_append (ys := [c]) rfl sl_150 Tryz.underlying150 zero_5 rfl by_5 rfl rfl (by repeat (first | exact Take.here | apply Take.there)) ((HasArr.lit (by first | (left; (repeat (first | exact List.Mem.head _ | apply List.Mem.tail)); done) | (right; (repeat (first | exact List.Mem.head _ | apply List.Mem.tail)); done)) (by simp [encB]) rfl)) (by intro _; rfl) flatB (by simp only [List.length_cons, List.length_nil]; omega) (by decide)) ?_
  rintro _ _ ⟨v14, rfl, rfl⟩
  refine tl_shape (enc := encB) (sz := 1) (v := v14) (by first | exact HasArr.own (by repeat (first | exact List.Mem.head _ | apply List.Mem.tail)) | exact HasArr.sh (by repeat (first | exact List.Mem.head _ | apply List.Mem.tail))) (by intro _; rfl) (fun hsh2 => ?_)
  obtain ⟨p2, q2, c2, rfl⟩ := shape_sl hsh2
  refine tl_q rfl (ev_nil_ptr rfl) ?_
  refine tl_q rfl (ev_fieldAddr fa_152_1 rfl rfl) ?_
  refine tl_e (eff_store rfl rfl rfl rfl sz_150 (by first | (simp [Flat]; done) | exact flatS _ | exact flatB _ | exact flatTick _ | exact flatRow _ | exact flatEvt _ | exact flatI _) (by repeat (first | exact Upd.here | apply Upd.there)) (by repeat (first | exact LPut.nil | apply LPut.cons | apply LPut.succ))) ?_
  rintro _ _ ⟨rfl, rfl⟩
  refine tl_nil ?_
  refine te_code ?_
  refine t_seq ?_
  refine t_region ?_
  refine tl_q rfl (ev_assign rfl) ?_
  refine tl_nil ?_
  refine te_code ?_
  refine t_ret ?_
  refine te_ret_k (pre := [blk b (.cells [.pointer (some ⟨b, 0, none⟩), _].toArray 152 (0, 0)), arr _ _ encB _ _]) (res1 rfl rfl) (by repeat (first | exact Frm.nil | exact Take.here | apply Take.there | apply Frm.cons)) ?_
  exact ⟨_, rfl, rfl⟩

theorem WriteByte1_ct (b : Nat) (sv : Value) (l : List UInt8) (hl : l.length ≤ 100000000) (n : Int) (c : UInt8) (hn : n = (c.toNat : Int)) : CT Tryz.prog 57 #[.pointer (some ⟨b, 0, none⟩), .int .u8 n] [blk b (.cells [.pointer (some ⟨b, 0, none⟩), sv].toArray 152 (0, 0)), arr 5 1 encB sv l] (fun v M => ∃ sv', v = .nilIface ∧ M = [blk b (.cells [.pointer (some ⟨b, 0, none⟩), sv'].toArray 152 (0, 0)), arr 5 1 encB sv' (l ++ [c])]) := by
  refine t_fun (vs := [.pointer (some ⟨b, 0, none⟩), .int .u8 n]) (n := 17) Tryz.func57 rfl Tryz.ntmps57 rfl fun w0 F => ?_
  subst hn
  refine t_seq ?_
  refine t_region ?_
  refine tl_q rfl (ev_assign rfl) ?_
  refine tl_nil ?_
  refine te_code ?_
  refine t_seq ?_
  refine t_region ?_
  refine tl_q rfl (ev_move rfl) ?_
  refine tl_e (eff_call rfl rfl body_102 rfl (by repeat (first | exact Frm.nil | exact Take.here | apply Take.there | apply Frm.cons)) (copyUsed_ct _ _)) ?_
  rintro _ _ ⟨v6, _, ⟨rfl, rfl⟩, rfl, rfl⟩
  refine tl_nil ?_
  refine te_code ?_
  refine t_seq ?_
  refine t_region ?_
  refine tl_q rfl (ev_move rfl) ?_
  refine tl_q rfl (ev_move rfl) ?_
  refine tl_q rfl (ev_nil_ptr rfl) ?_
  refine tl_q rfl (ev_fieldAddr fa_152_1 rfl rfl) ?_
  refine tl_q rfl (ev_load sc_150 rfl (by first | (left; (repeat (first | exact List.Mem.head _ | apply List.Mem.tail)); done) | (right; (repeat (first | exact List.Mem.head _ | apply List.Mem.tail)); done)) rfl) ?_
  refine tl_q rfl (ev_move rfl) ?_
  refine tl_e (eff_buildSl rfl bs_150_1 rfl (by repeat (first | exact FillR.nil | exact LPut.nil | apply LPut.cons | apply LPut.succ | apply FillR.cons rfl rfl rfl))) ?_
  rintro _ _ ⟨b13, rfl, rfl⟩
  refine tl_e (eff_append (ys := [c]) rfl sl_150 Tryz.underlying150 zero_5 rfl by_5 rfl rfl (by repeat (first | exact Take.here | apply Take.there)) ((HasArr.lit (by first | (left; (repeat (first | exact List.Mem.head _ | apply List.Mem.tail)); done) | (right; (repeat (first | exact List.Mem.head _ | apply List.Mem.tail)); done)) (by simp [encB]) rfl)) (by intro _; rfl) flatB (by simp only [List.length_cons, List.length_nil]; omega) (by decide)) ?_
  rintro _ _ ⟨v14, rfl, rfl⟩
  refine tl_shape (enc := encB) (sz := 1) (v := v14) (by first | exact HasArr.own (by repeat (first | exact List.Mem.head _ | apply List.Mem.tail)) | exact HasArr.sh (by repeat (first | exact List.Mem.head _ | apply List.Mem.tail))) (by intro _; rfl) (fun hsh2 => ?_)
  obtain ⟨p2, q2, c2, rfl⟩ := shape_sl hsh2
  refine tl_q rfl (ev_nil_ptr rfl) ?_
  refine tl_q rfl (ev_fieldAddr fa_152_1 rfl rfl) ?_
  refine tl_e (eff_store rfl rfl rfl rfl sz_150 (by first | (simp [Flat]; done) | exact flatS _ | exact flatB _ | exact flatTick _ | exact flatRow _ | exact flatEvt _ | exact flatI _) (by repeat (first | exact Upd.here | apply Upd.there)) (by repeat (first | exact LPut.nil | apply LPut.cons | apply LPut.succ))) ?_
  rintro _ _ ⟨rfl, rfl⟩
  refine tl_nil ?_
  refine te_code ?_
  refine t_seq ?_
  refine t_region ?_
  refine tl_q rfl (ev_assign rfl) ?_
  refine tl_nil ?_
  refine te_code ?_
  refine t_ret ?_
  refine te_ret_k (pre := [blk b (.cells [.pointer (some ⟨b, 0, none⟩), _].toArray 152 (0, 0)), arr _ _ encB _ _]) (res1 rfl rfl) (by repeat (first | exact Frm.nil | exact Take.here | apply Take.there | apply Frm.cons)) ?_
  exact ⟨_, rfl, rfl⟩

theorem WriteString1_ct (b : Nat) (sv : Value) (l : List UInt8) (hl : l.length ≤ 100000000) (s : ByteArray) (hs : s.size ≤ 100000000) : CT Tryz.prog 58 #[.pointer (some ⟨b, 0, none⟩), .string s] [blk b (.cells [.pointer (some ⟨b, 0, none⟩), sv].toArray 152 (0, 0)), arr 5 1 encB sv l] (fun v M => ∃ sv' e, v = e ∧ M = [blk b (.cells [.pointer (some ⟨b, 0, none⟩), sv'].toArray 152 (0, 0)), arr 5 1 encB sv' (l ++ s.data.toList)]) := by
  refine t_fun (vs := [.pointer (some ⟨b, 0, none⟩), .string s]) (n := 19) Tryz.func58 rfl Tryz.ntmps58 rfl fun w0 F => ?_
  refine t_seq ?_
  refine t_region ?_
  refine tl_q rfl (ev_assign rfl) ?_
  refine tl_q rfl (ev_assign rfl) ?_
  refine tl_nil ?_
  refine te_code ?_
  refine t_seq ?_
  refine t_region ?_
  refine tl_q rfl (ev_move rfl) ?_
  refine tl_e (eff_call rfl rfl body_102 rfl (by repeat (first | exact Frm.nil | exact Take.here | apply Take.there | apply Frm.cons)) (copyUsed_ct _ _)) ?_
  rintro _ _ ⟨v7, _, ⟨rfl, rfl⟩, rfl, rfl⟩
  refine tl_nil ?_
  refine te_code ?_
  refine t_seq ?_
  refine t_region ?_
  refine tl_q rfl (ev_move rfl) ?_
  refine tl_q rfl (ev_move rfl) ?_
  refine tl_q rfl (ev_nil_ptr rfl) ?_
  refine tl_q rfl (ev_fieldAddr fa_152_1 rfl rfl) ?_
  refine tl_q rfl (ev_load sc_150 rfl (by first | (left; (repeat (first | exact List.Mem.head _ | apply List.Mem.tail)); done) | (right; (repeat (first | exact List.Mem.head _ | apply List.Mem.tail)); done)) rfl) ?_
  refine tl_q rfl (ev_move rfl) ?_
  refine tl_e (eff_append_str rfl sl_150 Tryz.underlying9 zero_5 rfl by_5 rfl rfl (by repeat (first | exact Take.here | apply Take.there)) (by omega) (by decide)) ?_
  rintro _ _ ⟨v14, rfl, rfl⟩
  refine tl_shape (enc := encB) (sz := 1) (v := v14) (by first | exact HasArr.own (by repeat (first | exact List.Mem.head _ | apply List.Mem.tail)) | exact HasArr.sh (by repeat (first | exact List.Mem.head _ | apply List.Mem.tail))) (by intro _; rfl) (fun hsh2 => ?_)
  obtain ⟨p2, q2, c2, rfl⟩ := shape_sl hsh2
  refine tl_q rfl (ev_nil_ptr rfl) ?_
  refine tl_q rfl (ev_fieldAddr fa_152_1 rfl rfl) ?_
  refine tl_e (eff_store rfl rfl rfl rfl sz_150 (by first | (simp [Flat]; done) | exact flatS _ | exact flatB _ | exact flatTick _ | exact flatRow _ | exact flatEvt _ | exact flatI _) (by repeat (first | exact Upd.here | apply Upd.there)) (by repeat (first | exact LPut.nil | apply LPut.cons | apply LPut.succ))) ?_
  rintro _ _ ⟨rfl, rfl⟩
  refine tl_nil ?_
  refine te_code ?_
  refine t_seq ?_
  refine t_region ?_
  refine tl_q rfl (ev_move rfl) ?_
  refine tl_q rfl (ev_len_str str_9 rfl) ?_
  refine tl_q rfl (ev_assign rfl) ?_
  refine tl_q rfl (ev_assign rfl) ?_
  refine tl_nil ?_
  refine te_code ?_
  refine t_ret ?_
  refine te_ret_k (pre := [blk b (.cells [.pointer (some ⟨b, 0, none⟩), _].toArray 152 (0, 0)), arr _ _ encB _ _]) (res2 rfl rfl rfl) (by repeat (first | exact Frm.nil | exact Take.here | apply Take.there | apply Frm.cons)) ?_
  exact ⟨_, _, rfl, rfl⟩

theorem String_ct (b : Nat) (sv : Value) (l : List UInt8) (hl : l.length ≤ 100000000) (h0 : l ≠ []) : CT Tryz.prog 59 #[.pointer (some ⟨b, 0, none⟩)] [blk b (.cells [.pointer (some ⟨b, 0, none⟩), sv].toArray 152 (0, 0)), arr 5 1 encB sv l] (fun v M => v = .string ⟨l.toArray⟩ ∧ M = []) := by
  refine t_fun (vs := [.pointer (some ⟨b, 0, none⟩)]) (n := 14) Tryz.func59 rfl Tryz.ntmps59 rfl fun w0 F => ?_
  have hpos : 0 < l.length := List.length_pos_iff.2 h0
  refine t_open (U := 5) (sz := 1) (enc := encB) (xs := l) (by repeat (first | exact Take.here | apply Take.there)) h0 (fun g cap spare hsv hcap => ?_)
  subst hsv
  refine t_seq ?_
  refine t_region ?_
  refine tl_q rfl (ev_assign rfl) ?_
  refine tl_nil ?_
  refine te_code ?_
  refine t_seq ?_
  refine t_drawn_wo (A := blk g (.cells (l.flatMap encB ++ spare).toArray 5 (0, 0))) (by repeat (first | exact Take.here | apply Take.there)) follows ?_
  refine tr_q 0 rfl (by kernel_rfl) (by kernel_rfl) (by kernel_rfl) rfl (fun _ h => hold_sub (by repeat (first | exact Frm.nil | exact Take.here | apply Take.there | apply Frm.cons)) h) (ev_move rfl) ?_
  refine tr_q 1 rfl (by kernel_rfl) (by kernel_rfl) (by kernel_rfl) rfl (fun _ h => hold_sub (by repeat (first | exact Frm.nil | exact Take.here | apply Take.there | apply Frm.cons)) h) (ev_nil_ptr rfl) ?_
  refine tr_q 2 rfl (by kernel_rfl) (by kernel_rfl) (by kernel_rfl) rfl (fun _ h => hold_sub (by repeat (first | exact Frm.nil | exact Take.here | apply Take.there | apply Frm.cons)) h) (ev_fieldAddr fa_152_1 rfl rfl) ?_
  refine tr_q 3 rfl (by kernel_rfl) (by kernel_rfl) (by kernel_rfl) rfl (fun _ h => hold_sub (by repeat (first | exact Frm.nil | exact Take.here | apply Take.there | apply Frm.cons)) h) (ev_load sc_150 rfl (by first | (left; (repeat (first | exact List.Mem.head _ | apply List.Mem.tail)); done) | (right; (repeat (first | exact List.Mem.head _ | apply List.Mem.tail)); done)) rfl) ?_
  refine tr_q 4 rfl (by kernel_rfl) (by kernel_rfl) (by kernel_rfl) rfl (fun _ h => hold_sub (by repeat (first | exact Frm.nil | exact Take.here | apply Take.there | apply Frm.cons)) h) (ev_sliceData rfl (by omega)) ?_
  refine tr_q 5 rfl (by kernel_rfl) (by kernel_rfl) (by kernel_rfl) rfl (fun _ h => hold_sub (by repeat (first | exact Frm.nil | exact Take.here | apply Take.there | apply Frm.cons)) h) (ev_move rfl) ?_
  refine tr_q 6 rfl (by kernel_rfl) (by kernel_rfl) (by kernel_rfl) rfl (fun _ h => hold_sub (by repeat (first | exact Frm.nil | exact Take.here | apply Take.there | apply Frm.cons)) h) (ev_nil_ptr rfl) ?_
  refine tr_q 7 rfl (by kernel_rfl) (by kernel_rfl) (by kernel_rfl) rfl (fun _ h => hold_sub (by repeat (first | exact Frm.nil | exact Take.here | apply Take.there | apply Frm.cons)) h) (ev_fieldAddr fa_152_1 rfl rfl) ?_
  refine tr_q 8 rfl (by kernel_rfl) (by kernel_rfl) (by kernel_rfl) rfl (fun _ h => hold_sub (by repeat (first | exact Frm.nil | exact Take.here | apply Take.there | apply Frm.cons)) h) (ev_load sc_150 rfl (by first | (left; (repeat (first | exact List.Mem.head _ | apply List.Mem.tail)); done) | (right; (repeat (first | exact List.Mem.head _ | apply List.Mem.tail)); done)) rfl) ?_
  refine tr_q 9 rfl (by kernel_rfl) (by kernel_rfl) (by kernel_rfl) rfl (fun _ h => hold_sub (by repeat (first | exact Frm.nil | exact Take.here | apply Take.there | apply Frm.cons)) h) (ev_len_slice ⟨_, sl_150.1⟩ rfl) ?_
  refine tr_e 10 rfl (by kernel_rfl) (eff_unsafeString rfl Tryz.underlying201 cells1_5 rfl rfl (by assumption) (by omega) (by repeat (first | exact Take.here | apply Take.there))) (by rintro _ _ ⟨rfl, rfl⟩; exact (fun _ h => hold_sub (by repeat (first | exact Frm.nil | exact Take.here | apply Take.there | apply Frm.cons)) h)) ?_
  rintro _ _ ⟨rfl, rfl⟩
  refine tr_q 11 rfl (by kernel_rfl) (by kernel_rfl) (by kernel_rfl) rfl (fun _ h => hold_sub (by repeat (first | exact Frm.nil | exact Take.here | apply Take.there | apply Frm.cons)) h) (ev_assign rfl) ?_
  refine tr_done (by kernel_rfl) ?_
  refine te_code ?_
  refine t_ret ?_
  refine te_ret_k (pre := []) (res1 rfl rfl) (by repeat (first | exact Frm.nil | exact Take.here | apply Take.there | apply Frm.cons)) ?_
  exact ⟨rfl, rfl⟩

end Go.SL
