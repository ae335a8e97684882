/- Contract of query.quote. -/
import Derived.Test.YtimhhegebkganaaGreatDoorProg
import Derived.Test.YtimhhegebkganaaGreatDoorGW
set_option linter.unusedSimpArgs false
set_option linter.unusedVariables false
set_option maxRecDepth 4000
namespace Go.SL
open Go.Proofs

theorem info_152 : Tryz.prog.info? 152 = some Tryz.t152 := by kernel_rfl
theorem zero_152 : ZeroIs Tryz.prog 152 (.agg #[.pointer none, .slice none 0 0]) := zeroIs_of info_152 rfl
theorem body_57 : (Tryz.prog.funcs[57]?).map (fun fn => fn.body.isSome && !(fn.name == "runtime.NumGoroutine")) = some true := by kernel_rfl
theorem sc_5 : IsSc Tryz.prog 5 := isSc_of Tryz.underlying5 rfl
theorem body_58 : (Tryz.prog.funcs[58]?).map (fun fn => fn.body.isSome && !(fn.name == "runtime.NumGoroutine")) = some true := by kernel_rfl
theorem body_59 : (Tryz.prog.funcs[59]?).map (fun fn => fn.body.isSome && !(fn.name == "runtime.NumGoroutine")) = some true := by kernel_rfl


def hexD : ByteArray := ⟨#[48, 49, 50, 51, 52, 53, 54, 55, 56, 57, 97, 98, 99, 100, 101, 102]⟩
def hexU (n : Nat) : UInt8 := (hexD.data[n]?).getD 0
theorem hex_get (n : Nat) (h : n < 16) : hexD.data[n]? = some (hexU n) := by
  have : n = 0 ∨ n = 1 ∨ n = 2 ∨ n = 3 ∨ n = 4 ∨ n = 5 ∨ n = 6 ∨ n = 7 ∨ n = 8 ∨ n = 9 ∨ n = 10 ∨ n = 11 ∨ n = 12 ∨ n = 13 ∨ n = 14 ∨ n = 15 := by omega
  rcases this with rfl | rfl | rfl | rfl | rfl | rfl | rfl | rfl | rfl | rfl | rfl | rfl | rfl | rfl | rfl | rfl <;> rfl
theorem and15 : ∀ u : Fin 256, bitsOf .and .u8 (u.val : Int) 15 = ((u.val % 16 : Nat) : Int) := by decide +kernel
theorem ev_and15 {X : Cx} {fr : Fr} {L : List Asrt} {dst : Option Nat} {ty : TypeId} {pos : String} {af : Array Edge} {x y : Operand} {xt yt : TypeId} {u : UInt8} (hx : ev fr x = some (.int .u8 (u.toNat : Int))) (hy : ev fr y = some (.int .u8 15)) :
    Ev X fr L ⟨dst, .binOp .and xt x y yt, ty, pos, af, none⟩ (.int .u8 ((u.toNat % 16 : Nat) : Int)) := by
  have h := ev_and (X := X) (L := L) (dst := dst) (ty := ty) (pos := pos) (af := af) (xt := xt) (yt := yt) hx hy
  have e := and15 ⟨u.toNat, u.toNat_lt⟩
  simp only at e
  rw [e] at h
  exact h
theorem ev_shr4 {X : Cx} {fr : Fr} {L : List Asrt} {dst : Option Nat} {ty : TypeId} {pos : String} {af : Array Edge} {x y : Operand} {xt yt : TypeId} {k : IntKind} {u : UInt8} (hx : ev fr x = some (.int .u8 (u.toNat : Int))) (hy : ev fr y = some (.int k 4)) :
    Ev X fr L ⟨dst, .binOp .shr xt x y yt, ty, pos, af, none⟩ (.int .u8 ((u.toNat / 16 : Nat) : Int)) := by
  have h := ev_shr (X := X) (L := L) (dst := dst) (ty := ty) (pos := pos) (af := af) (xt := xt) (yt := yt) hx hy (by omega)
  have e : ((u.toNat : Int)).fdiv (2 ^ (min (4 : Int).toNat IntKind.u8.bits)) = ((u.toNat / 16 : Nat) : Int) := by
    rw [show (2 : Int) ^ (min (4 : Int).toNat IntKind.u8.bits) = 16 from rfl, Int.fdiv_eq_ediv_of_nonneg _ (by omega)]
    omega
  rw [e] at h
  exact h
/-- a byte in quotes -/
def qB (u : UInt8) : List UInt8 :=
  if u.toNat = 34 ∨ u.toNat = 92 then [92, u] else if u.toNat = 10 then [92, 110] else if u.toNat = 9 then [92, 116] else
  if u.toNat < 32 ∨ 127 ≤ u.toNat then ((⟨#[92, 120]⟩ : ByteArray) ++ strOfNums [((hexU (u.toNat / 16)).toNat : Int), ((hexU (u.toNat % 16)).toNat : Int)]).data.toList else [u]
theorem qB_len (u : UInt8) : (qB u).length ≤ 4 := by
  unfold qB
  split
  · simp
  split
  · simp
  split
  · simp
  split
  · simp [strOfNums]
  · simp
def quoteL (s : ByteArray) : List UInt8 := 34 :: s.data.toList.flatMap qB
def quoteF (s : ByteArray) : ByteArray := ⟨(quoteL s ++ [34]).toArray⟩
theorem flatq_len : ∀ l : List UInt8, (l.flatMap qB).length ≤ 4 * l.length
  | [] => by simp
  | x :: r => by
    rw [List.flatMap_cons, List.length_append, List.length_cons]
    have := qB_len x; have := flatq_len r; omega
theorem quote_size (s : ByteArray) : (quoteF s).size ≤ 4 * s.size + 2 := by
  show ((quoteL s ++ [34]).toArray).size ≤ 4 * s.data.size + 2
  have := flatq_len s.data.toList
  have e : s.data.toList.length = s.data.size := Array.length_toList
  simp only [quoteL, List.size_toArray, List.length_append, List.length_cons, List.length_nil]
  omega
theorem qstep {l : List UInt8} {i : Nat} {u : UInt8} {q : List UInt8} (h : l[i]? = some u) (hq : qB u = q) : (34 :: (l.take i).flatMap qB) ++ q = 34 :: (l.take (i + 1)).flatMap qB := by
  have hlt := (List.getElem?_eq_some_iff.1 h).1
  have he := (List.getElem?_eq_some_iff.1 h).2
  rw [List.take_succ_eq_append_getElem hlt, he, List.flatMap_append, List.flatMap_cons, List.flatMap_nil, List.append_nil, hq]
  rfl

theorem Quote_ct (s : ByteArray) (hs : s.size ≤ 2000000) : CT Tryz.prog 29 #[.string s] [] (fun v M => v = .string (quoteF s) ∧ M = []) := by
  refine t_fun (vs := [.string s]) (n := 54) Tryz.func29 rfl Tryz.ntmps29 rfl fun w0 F => ?_
  have hsl : s.data.toList.length = s.size := by rw [Array.length_toList]; rfl
  have hfl0 := flatq_len s.data.toList
  refine t_seq ?_
  refine t_region ?_
  refine tl_q rfl (ev_assign rfl) ?_
  refine tl_nil ?_
  refine te_code ?_
  refine t_seq ?_
  refine t_region ?_
  refine tl_e (eff_alloc rfl zero_152 rfl) ?_
  rintro _ _ ⟨b3, rfl, rfl⟩
  refine tl_nil ?_
  refine te_code ?_
  refine t_seq ?_
  refine t_region ?_
  refine tl_e (eff_call rfl rfl body_57 rfl (by repeat (first | exact Frm.nil | exact Take.here | apply Take.there | apply Frm.cons)) (WriteByte0_ct _ _ 34 rfl)) ?_
  rintro _ _ ⟨v6, _, ⟨sv0, rfl, rfl⟩, rfl, rfl⟩
  refine tl_nil ?_
  refine te_code ?_
  refine t_seq ?_
  refine t_seq ?_
  refine t_region ?_
  refine tl_q rfl (ev_move rfl) ?_
  refine tl_e (eff_strBytes rfl Tryz.underlying9 Tryz.underlying150 Tryz.underlying5 rfl) ?_
  rintro _ _ ⟨v8, rfl, rfl⟩
  refine tl_shape (enc := encB) (sz := 1) (v := v8) (xs := s.data.toList) (by first | exact HasArr.own (by repeat (first | exact List.Mem.head _ | apply List.Mem.tail)) | exact HasArr.sh (by repeat (first | exact List.Mem.head _ | apply List.Mem.tail))) (by intro _; rfl) (fun hsh => ?_)
  refine tl_q rfl (ev_len_sh sl_150 rfl (by assumption)) ?_
  refine tl_q rfl (ev_move rfl) ?_
  refine tl_nil ?_
  refine te_code ?_
  refine t_block ?_
  refine t_loop (α := Nat × Value) (fun q => [(10, .int .i64 (q.1 : Int)), (9, .int .i64 (s.data.toList.length : Int)), (8, v8), (3, .pointer (some ⟨b3, 0, none⟩))]) (fun q => [blk b3 (.cells [.pointer (some ⟨b3, 0, none⟩), q.2].toArray 152 (0, 0)), arr 5 1 encB q.2 (34 :: (s.data.toList.take q.1).flatMap qB), iarr 1 encB v8 s.data.toList]) (fun q => s.data.toList.length - q.1) (fun q => q.1 ≤ s.data.toList.length) (0, sv0) (by simp) (by exact sub_cons rfl (sub_cons rfl (sub_cons rfl (sub_cons rfl (sub_nil))))) (fun _ h => hold_keep (by repeat (first | exact Frm.nil | exact Take.here | apply Take.there | apply Frm.cons)) h) ?_
  rintro ⟨i, sw⟩ hi
  try dsimp only
  dsimp only at hi
  refine t_seq ?_
  refine t_region ?_
  refine tl_q rfl (ev_lss rfl rfl) ?_
  refine tl_nil ?_
  refine te_code ?_
  refine t_seq ?_
  refine t_cond_dec rfl (fun h0 => ?_) (fun h0 => ?_)
  · obtain ⟨u, hu⟩ := get_ex (show (i : Int) < s.data.toList.length by omega)
    have hul := u8_lt u
    have hfl := flatq_len (s.data.toList.take i)
    rw [List.length_take] at hfl
    refine t_skip ?_
    refine te_code ?_
    refine t_seq ?_
    refine t_block ?_
    refine t_seq ?_
    refine t_region ?_
    refine tl_q rfl (ev_at_sh sl_150 rfl rfl (by assumption) (by omega)) ?_
    refine tl_q rfl (ev_load_at0 sc_5 rfl (by first | exact HasArr.own (by repeat (first | exact List.Mem.head _ | apply List.Mem.tail)) | exact HasArr.sh (by repeat (first | exact List.Mem.head _ | apply List.Mem.tail))) (by intro _; rfl) (by assumption) (by rfl)) ?_
    refine tl_q rfl (ev_assign rfl) ?_
    refine tl_nil ?_
    refine te_code ?_
    refine t_block ?_
    refine t_seq ?_
    refine t_region ?_
    refine tl_q rfl (ev_move rfl) ?_
    refine tl_q rfl (ev_eql rfl rfl) ?_
    refine tl_q rfl (ev_move rfl) ?_
    refine tl_split_dec 19 rfl (fun g1 => ?_) (fun g1 => ?_)
    · refine tl_guard_no rfl rfl rfl rfl ?_
      refine tl_guard_no rfl rfl rfl rfl ?_
      refine tl_q rfl (ev_pick_true rfl rfl) ?_
      refine tl_q rfl (ev_assign rfl) ?_
      refine tl_nil ?_
      refine te_code ?_
      refine t_cond_true rfl ?_
      refine t_seq ?_
      refine t_region ?_
      refine tl_e (eff_call rfl rfl body_57 rfl (by repeat (first | exact Frm.nil | exact Take.here | apply Take.there | apply Frm.cons)) (WriteByte1_ct _ _ _ (by simp only [List.length_cons, List.length_append, List.length_nil]; omega) _ 92 rfl)) ?_
      rintro _ _ ⟨v23, _, ⟨sv, rfl, rfl⟩, rfl, rfl⟩
      refine tl_nil ?_
      refine te_code ?_
      refine t_region ?_
      refine tl_q rfl (ev_move rfl) ?_
      refine tl_e (eff_call rfl rfl body_57 rfl (by repeat (first | exact Frm.nil | exact Take.here | apply Take.there | apply Frm.cons)) (WriteByte1_ct _ _ _ (by simp only [List.length_cons, List.length_append, List.length_nil]; omega) _ u rfl)) ?_
      rintro _ _ ⟨v25, _, ⟨sv, rfl, rfl⟩, rfl, rfl⟩
      rw [List.append_assoc, qstep hu (by unfold qB; rw [if_pos (by omega)]; rfl)]
      refine tl_nil ?_
      refine te_blk ?_
      refine te_blk ?_
      refine te_code ?_
      refine t_region ?_
      refine tl_q rfl (ev_add' rfl rfl (by omega)) ?_
      refine tl_q rfl (ev_move rfl) ?_
      refine tl_nil ?_
      exact te_round (i + 1, _) (by exact sub_cons rfl (sub_cons rfl (sub_cons rfl (sub_cons rfl (sub_nil))))) (fun _ h => hold_keep (by repeat (first | exact Frm.nil | exact Take.here | apply Take.there | apply Frm.cons)) h) (by dsimp only; omega) (by dsimp only; omega)
    · refine tl_guard rfl rfl rfl ?_
      refine tl_q rfl (ev_move rfl) ?_
      refine tl_guard rfl rfl rfl ?_
      refine tl_q rfl (ev_eql rfl rfl) ?_
      refine tl_q rfl (ev_pick_false rfl rfl) ?_
      refine tl_q rfl (ev_assign rfl) ?_
      refine tl_nil ?_
      refine te_code ?_
      refine t_cond_dec rfl (fun h1 => ?_) (fun h1 => ?_)
      · refine t_seq ?_
        refine t_region ?_
        refine tl_e (eff_call rfl rfl body_57 rfl (by repeat (first | exact Frm.nil | exact Take.here | apply Take.there | apply Frm.cons)) (WriteByte1_ct _ _ _ (by simp only [List.length_cons, List.length_append, List.length_nil]; omega) _ 92 rfl)) ?_
        rintro _ _ ⟨v23, _, ⟨sv, rfl, rfl⟩, rfl, rfl⟩
        refine tl_nil ?_
        refine te_code ?_
        refine t_region ?_
        refine tl_q rfl (ev_move rfl) ?_
        refine tl_e (eff_call rfl rfl body_57 rfl (by repeat (first | exact Frm.nil | exact Take.here | apply Take.there | apply Frm.cons)) (WriteByte1_ct _ _ _ (by simp only [List.length_cons, List.length_append, List.length_nil]; omega) _ u rfl)) ?_
        rintro _ _ ⟨v25, _, ⟨sv, rfl, rfl⟩, rfl, rfl⟩
        rw [List.append_assoc, qstep hu (by unfold qB; rw [if_pos (by omega)]; rfl)]
        refine tl_nil ?_
        refine te_blk ?_
        refine te_blk ?_
        refine te_code ?_
        refine t_region ?_
        refine tl_q rfl (ev_add' rfl rfl (by omega)) ?_
        refine tl_q rfl (ev_move rfl) ?_
        refine tl_nil ?_
        exact te_round (i + 1, _) (by exact sub_cons rfl (sub_cons rfl (sub_cons rfl (sub_cons rfl (sub_nil))))) (fun _ h => hold_keep (by repeat (first | exact Frm.nil | exact Take.here | apply Take.there | apply Frm.cons)) h) (by dsimp only; omega) (by dsimp only; omega)
      · refine t_seq ?_
        refine t_region ?_
        refine tl_q rfl (ev_move rfl) ?_
        refine tl_q rfl (ev_eql rfl rfl) ?_
        refine tl_q rfl (ev_assign rfl) ?_
        refine tl_nil ?_
        refine te_code ?_
        refine t_cond_dec rfl (fun h2 => ?_) (fun h2 => ?_)
        · refine t_region ?_
          refine tl_e (eff_call rfl rfl body_58 rfl (by repeat (first | exact Frm.nil | exact Take.here | apply Take.there | apply Frm.cons)) (WriteString1_ct _ _ _ (by simp only [List.length_cons, List.length_append, List.length_nil]; omega) _ (by first | (rw [ByteArray.size_append, strOfNums_size, size_l2]; show (2 + 2 : Nat) ≤ _; omega) | (show (2 : Nat) ≤ _; omega)))) ?_
          rintro _ _ ⟨v29, _, ⟨sv, e0, rfl, rfl⟩, rfl, rfl⟩
          rw [qstep hu (by unfold qB; rw [if_neg (by omega), if_pos (by omega)])]
          refine tl_nil ?_
          refine te_blk ?_
          refine te_blk ?_
          refine te_code ?_
          refine t_region ?_
          refine tl_q rfl (ev_add' rfl rfl (by omega)) ?_
          refine tl_q rfl (ev_move rfl) ?_
          refine tl_nil ?_
          exact te_round (i + 1, _) (by exact sub_cons rfl (sub_cons rfl (sub_cons rfl (sub_cons rfl (sub_nil))))) (fun _ h => hold_keep (by repeat (first | exact Frm.nil | exact Take.here | apply Take.there | apply Frm.cons)) h) (by dsimp only; omega) (by dsimp only; omega)
        · refine t_seq ?_
          refine t_region ?_
          refine tl_q rfl (ev_move rfl) ?_
          refine tl_q rfl (ev_eql rfl rfl) ?_
          refine tl_q rfl (ev_assign rfl) ?_
          refine tl_nil ?_
          refine te_code ?_
          refine t_cond_dec rfl (fun h3 => ?_) (fun h3 => ?_)
          · refine t_region ?_
            refine tl_e (eff_call rfl rfl body_58 rfl (by repeat (first | exact Frm.nil | exact Take.here | apply Take.there | apply Frm.cons)) (WriteString1_ct _ _ _ (by simp only [List.length_cons, List.length_append, List.length_nil]; omega) _ (by first | (rw [ByteArray.size_append, strOfNums_size, size_l2]; show (2 + 2 : Nat) ≤ _; omega) | (show (2 : Nat) ≤ _; omega)))) ?_
            rintro _ _ ⟨v33, _, ⟨sv, e0, rfl, rfl⟩, rfl, rfl⟩
            rw [qstep hu (by unfold qB; rw [if_neg (by omega), if_neg (by omega), if_pos (by omega)])]
            refine tl_nil ?_
            refine te_blk ?_
            refine te_blk ?_
            refine te_code ?_
            refine t_region ?_
            refine tl_q rfl (ev_add' rfl rfl (by omega)) ?_
            refine tl_q rfl (ev_move rfl) ?_
            refine tl_nil ?_
            exact te_round (i + 1, _) (by exact sub_cons rfl (sub_cons rfl (sub_cons rfl (sub_cons rfl (sub_nil))))) (fun _ h => hold_keep (by repeat (first | exact Frm.nil | exact Take.here | apply Take.there | apply Frm.cons)) h) (by dsimp only; omega) (by dsimp only; omega)
          · refine t_seq ?_
            refine t_region ?_
            refine tl_q rfl (ev_move rfl) ?_
            refine tl_q rfl (ev_lss rfl rfl) ?_
            refine tl_q rfl (ev_move rfl) ?_
            refine tl_split_dec 37 rfl (fun g4 => ?_) (fun g4 => ?_)
            · refine tl_guard_no rfl rfl rfl rfl ?_
              refine tl_guard_no rfl rfl rfl rfl ?_
              refine tl_q rfl (ev_pick_true rfl rfl) ?_
              refine tl_q rfl (ev_assign rfl) ?_
              refine tl_nil ?_
              refine te_code ?_
              refine t_cond_true rfl ?_
              refine t_drawn_frm (pre := [blk b3 (.cells [.pointer (some ⟨b3, 0, none⟩), sw].toArray 152 (0, 0)), arr 5 1 encB sw (34 :: (s.data.toList.take i).flatMap qB)]) (by repeat (first | exact Frm.nil | exact Take.here | apply Take.there | apply Frm.cons)) follows ?_
              refine tr_q 0 rfl (by kernel_rfl) (by kernel_rfl) (by kernel_rfl) rfl (fun _ h => hold_sub (by repeat (first | exact Frm.nil | exact Take.here | apply Take.there | apply Frm.cons)) h) (ev_move rfl) ?_
              refine tr_q 1 rfl (by kernel_rfl) (by kernel_rfl) (by kernel_rfl) rfl (fun _ h => hold_sub (by repeat (first | exact Frm.nil | exact Take.here | apply Take.there | apply Frm.cons)) h) (ev_shr4 rfl rfl) ?_
              refine tr_q 2 rfl (by kernel_rfl) (by kernel_rfl) (by kernel_rfl) rfl (fun _ h => hold_sub (by repeat (first | exact Frm.nil | exact Take.here | apply Take.there | apply Frm.cons)) h) (ev_indexStr (u := hexU (u.toNat / 16)) str_9 rfl rfl (by omega) (by rw [Int.toNat_natCast]; exact hex_get _ (by omega))) ?_
              refine tr_q 3 rfl (by kernel_rfl) (by kernel_rfl) (by kernel_rfl) rfl (fun _ h => hold_sub (by repeat (first | exact Frm.nil | exact Take.here | apply Take.there | apply Frm.cons)) h) (ev_move rfl) ?_
              refine tr_q 4 rfl (by kernel_rfl) (by kernel_rfl) (by kernel_rfl) rfl (fun _ h => hold_sub (by repeat (first | exact Frm.nil | exact Take.here | apply Take.there | apply Frm.cons)) h) (ev_and15 rfl rfl) ?_
              refine tr_q 5 rfl (by kernel_rfl) (by kernel_rfl) (by kernel_rfl) rfl (fun _ h => hold_sub (by repeat (first | exact Frm.nil | exact Take.here | apply Take.there | apply Frm.cons)) h) (ev_indexStr (u := hexU (u.toNat % 16)) str_9 rfl rfl (by omega) (by rw [Int.toNat_natCast]; exact hex_get _ (by omega))) ?_
              refine tr_e 6 rfl (by kernel_rfl) (eff_buildSl rfl bs_150_2 rfl (by repeat (first | exact FillR.nil | exact LPut.nil | apply LPut.cons | apply LPut.succ | apply FillR.cons rfl rfl rfl))) (by rintro _ _ ⟨_, rfl, rfl⟩; exact (fun _ h => hold_sub (by repeat (first | exact Frm.nil | exact Take.here | apply Take.there | apply Frm.cons)) h)) ?_
              rintro _ _ ⟨b47, rfl, rfl⟩
              refine tr_e 7 rfl (by kernel_rfl) (eff_ev rfl (ev_bytesStr bst_150_9 rfl (u8_2 (by first | (left; (repeat (first | exact List.Mem.head _ | apply List.Mem.tail)); done) | (right; (repeat (first | exact List.Mem.head _ | apply List.Mem.tail)); done))))) (by rintro _ _ ⟨rfl, rfl⟩; exact (fun _ h => hold_sub (by repeat (first | exact Frm.nil | exact Take.here | apply Take.there | apply Frm.cons)) h)) ?_
              rintro _ _ ⟨rfl, rfl⟩
              refine tr_q 8 rfl (by kernel_rfl) (by kernel_rfl) (by kernel_rfl) rfl (fun _ h => hold_sub (by repeat (first | exact Frm.nil | exact Take.here | apply Take.there | apply Frm.cons)) h) (ev_sadd rfl rfl (by rw [strOfNums_size, size_l2]; simp)) ?_
              refine tr_e 9 rfl (by kernel_rfl) (eff_call rfl rfl body_58 rfl (by repeat (first | exact Frm.nil | exact Take.here | apply Take.there | apply Frm.cons)) (WriteString1_ct _ _ _ (by simp only [List.length_cons, List.length_append, List.length_nil]; omega) _ (by first | (rw [ByteArray.size_append, strOfNums_size, size_l2]; show (2 + 2 : Nat) ≤ _; omega) | (show (2 : Nat) ≤ _; omega)))) (by rintro _ _ ⟨_, _, ⟨sv, e0, rfl, rfl⟩, rfl, rfl⟩; exact (fun _ h => hold_sub (by repeat (first | exact Frm.nil | exact Take.here | apply Take.there | apply Frm.cons)) h)) ?_
              rintro _ _ ⟨v50, _, ⟨sv, e0, rfl, rfl⟩, rfl, rfl⟩
              rw [qstep hu (by unfold qB; rw [if_neg (by omega), if_neg (by omega), if_neg (by omega), if_pos (by omega)])]
              refine tr_done (by kernel_rfl) ?_
              refine te_blk ?_
              refine te_blk ?_
              refine te_code ?_
              refine t_region ?_
              refine tl_q rfl (ev_add' rfl rfl (by omega)) ?_
              refine tl_q rfl (ev_move rfl) ?_
              refine tl_nil ?_
              exact te_round (i + 1, _) (by exact sub_cons rfl (sub_cons rfl (sub_cons rfl (sub_cons rfl (sub_nil))))) (fun _ h => hold_keep (by repeat (first | exact Frm.nil | exact Take.here | apply Take.there | apply Frm.cons)) h) (by dsimp only; omega) (by dsimp only; omega)
            · refine tl_guard rfl rfl rfl ?_
              refine tl_q rfl (ev_move rfl) ?_
              refine tl_guard rfl rfl rfl ?_
              refine tl_q rfl (ev_geq rfl rfl) ?_
              refine tl_q rfl (ev_pick_false rfl rfl) ?_
              refine tl_q rfl (ev_assign rfl) ?_
              refine tl_nil ?_
              refine te_code ?_
              refine t_cond_dec rfl (fun h4 => ?_) (fun h4 => ?_)
              · refine t_drawn_frm (pre := [blk b3 (.cells [.pointer (some ⟨b3, 0, none⟩), sw].toArray 152 (0, 0)), arr 5 1 encB sw (34 :: (s.data.toList.take i).flatMap qB)]) (by repeat (first | exact Frm.nil | exact Take.here | apply Take.there | apply Frm.cons)) follows ?_
                refine tr_q 0 rfl (by kernel_rfl) (by kernel_rfl) (by kernel_rfl) rfl (fun _ h => hold_sub (by repeat (first | exact Frm.nil | exact Take.here | apply Take.there | apply Frm.cons)) h) (ev_move rfl) ?_
                refine tr_q 1 rfl (by kernel_rfl) (by kernel_rfl) (by kernel_rfl) rfl (fun _ h => hold_sub (by repeat (first | exact Frm.nil | exact Take.here | apply Take.there | apply Frm.cons)) h) (ev_shr4 rfl rfl) ?_
                refine tr_q 2 rfl (by kernel_rfl) (by kernel_rfl) (by kernel_rfl) rfl (fun _ h => hold_sub (by repeat (first | exact Frm.nil | exact Take.here | apply Take.there | apply Frm.cons)) h) (ev_indexStr (u := hexU (u.toNat / 16)) str_9 rfl rfl (by omega) (by rw [Int.toNat_natCast]; exact hex_get _ (by omega))) ?_
                refine tr_q 3 rfl (by kernel_rfl) (by kernel_rfl) (by kernel_rfl) rfl (fun _ h => hold_sub (by repeat (first | exact Frm.nil | exact Take.here | apply Take.there | apply Frm.cons)) h) (ev_move rfl) ?_
                refine tr_q 4 rfl (by kernel_rfl) (by kernel_rfl) (by kernel_rfl) rfl (fun _ h => hold_sub (by repeat (first | exact Frm.nil | exact Take.here | apply Take.there | apply Frm.cons)) h) (ev_and15 rfl rfl) ?_
                refine tr_q 5 rfl (by kernel_rfl) (by kernel_rfl) (by kernel_rfl) rfl (fun _ h => hold_sub (by repeat (first | exact Frm.nil | exact Take.here | apply Take.there | apply Frm.cons)) h) (ev_indexStr (u := hexU (u.toNat % 16)) str_9 rfl rfl (by omega) (by rw [Int.toNat_natCast]; exact hex_get _ (by omega))) ?_
                refine tr_e 6 rfl (by kernel_rfl) (eff_buildSl rfl bs_150_2 rfl (by repeat (first | exact FillR.nil | exact LPut.nil | apply LPut.cons | apply LPut.succ | apply FillR.cons rfl rfl rfl))) (by rintro _ _ ⟨_, rfl, rfl⟩; exact (fun _ h => hold_sub (by repeat (first | exact Frm.nil | exact Take.here | apply Take.there | apply Frm.cons)) h)) ?_
                rintro _ _ ⟨b47, rfl, rfl⟩
                refine tr_e 7 rfl (by kernel_rfl) (eff_ev rfl (ev_bytesStr bst_150_9 rfl (u8_2 (by first | (left; (repeat (first | exact List.Mem.head _ | apply List.Mem.tail)); done) | (right; (repeat (first | exact List.Mem.head _ | apply List.Mem.tail)); done))))) (by rintro _ _ ⟨rfl, rfl⟩; exact (fun _ h => hold_sub (by repeat (first | exact Frm.nil | exact Take.here | apply Take.there | apply Frm.cons)) h)) ?_
                rintro _ _ ⟨rfl, rfl⟩
                refine tr_q 8 rfl (by kernel_rfl) (by kernel_rfl) (by kernel_rfl) rfl (fun _ h => hold_sub (by repeat (first | exact Frm.nil | exact Take.here | apply Take.there | apply Frm.cons)) h) (ev_sadd rfl rfl (by rw [strOfNums_size, size_l2]; simp)) ?_
                refine tr_e 9 rfl (by kernel_rfl) (eff_call rfl rfl body_58 rfl (by repeat (first | exact Frm.nil | exact Take.here | apply Take.there | apply Frm.cons)) (WriteString1_ct _ _ _ (by simp only [List.length_cons, List.length_append, List.length_nil]; omega) _ (by first | (rw [ByteArray.size_append, strOfNums_size, size_l2]; show (2 + 2 : Nat) ≤ _; omega) | (show (2 : Nat) ≤ _; omega)))) (by rintro _ _ ⟨_, _, ⟨sv, e0, rfl, rfl⟩, rfl, rfl⟩; exact (fun _ h => hold_sub (by repeat (first | exact Frm.nil | exact Take.here | apply Take.there | apply Frm.cons)) h)) ?_
                rintro _ _ ⟨v50, _, ⟨sv, e0, rfl, rfl⟩, rfl, rfl⟩
                rw [qstep hu (by unfold qB; rw [if_neg (by omega), if_neg (by omega), if_neg (by omega), if_pos (by omega)])]
                refine tr_done (by kernel_rfl) ?_
                refine te_blk ?_
                refine te_blk ?_
                refine te_code ?_
                refine t_region ?_
                refine tl_q rfl (ev_add' rfl rfl (by omega)) ?_
                refine tl_q rfl (ev_move rfl) ?_
                refine tl_nil ?_
                exact te_round (i + 1, _) (by exact sub_cons rfl (sub_cons rfl (sub_cons rfl (sub_cons rfl (sub_nil))))) (fun _ h => hold_keep (by repeat (first | exact Frm.nil | exact Take.here | apply Take.there | apply Frm.cons)) h) (by dsimp only; omega) (by dsimp only; omega)
              · refine t_region ?_
                refine tl_q rfl (ev_move rfl) ?_
                refine tl_e (eff_call rfl rfl body_57 rfl (by repeat (first | exact Frm.nil | exact Take.here | apply Take.there | apply Frm.cons)) (WriteByte1_ct _ _ _ (by simp only [List.length_cons, List.length_append, List.length_nil]; omega) _ u rfl)) ?_
                rintro _ _ ⟨v15, _, ⟨sv, rfl, rfl⟩, rfl, rfl⟩
                rw [qstep hu (by unfold qB; rw [if_neg (by omega), if_neg (by omega), if_neg (by omega), if_neg (by omega)])]
                refine tl_nil ?_
                refine te_blk ?_
                refine te_blk ?_
                refine te_code ?_
                refine t_region ?_
                refine tl_q rfl (ev_add' rfl rfl (by omega)) ?_
                refine tl_q rfl (ev_move rfl) ?_
                refine tl_nil ?_
                exact te_round (i + 1, _) (by exact sub_cons rfl (sub_cons rfl (sub_cons rfl (sub_cons rfl (sub_nil))))) (fun _ h => hold_keep (by repeat (first | exact Frm.nil | exact Take.here | apply Take.there | apply Frm.cons)) h) (by dsimp only; omega) (by dsimp only; omega)
  · obtain rfl : i = s.data.toList.length := by omega
    simp only [List.take_length]
    refine t_exit ?_
    refine te_exit_code ?_
    refine te_exit_rnd ?_
    refine te_exit_here ?_
    refine te_code ?_
    refine t_seq ?_
    refine t_region ?_
    refine tl_e (eff_call rfl rfl body_57 rfl (by repeat (first | exact Frm.nil | exact Take.here | apply Take.there | apply Frm.cons)) (WriteByte1_ct _ _ _ (by simp only [List.length_cons, List.length_append, List.length_nil]; omega) _ 34 rfl)) ?_
    rintro _ _ ⟨v52, _, ⟨sv, rfl, rfl⟩, rfl, rfl⟩
    refine tl_nil ?_
    refine te_code ?_
    refine t_seq ?_
    refine t_region ?_
    refine tl_e (eff_call rfl rfl body_59 rfl (by repeat (first | exact Frm.nil | exact Take.here | apply Take.there | apply Frm.cons)) (String_ct _ _ _ (by simp only [List.length_cons, List.length_append, List.length_nil]; omega) (by simp))) ?_
    rintro _ _ ⟨v53, _, ⟨rfl, rfl⟩, rfl, rfl⟩
    refine tl_q rfl (ev_assign rfl) ?_
    refine tl_nil ?_
    refine te_code ?_
    refine t_ret ?_
    refine te_ret_k (pre := []) (res1 rfl rfl) (by repeat (first | exact Frm.nil | exact Take.here | apply Take.there | apply Frm.cons)) ?_
    exact ⟨rfl, rfl⟩

end Go.SL
