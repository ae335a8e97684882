/- Contract of query.Line. -/
import Derived.Test.YtimhhegebkganaaGreatDoorProg
import Derived.Test.YtimhhegebkganaaGreatDoorGX
set_option linter.unusedSimpArgs false
set_option linter.unusedVariables false
set_option maxRecDepth 4000
namespace Go.SL
open Go.Proofs

theorem sl_161 : SliceOf Tryz.prog 161 38 1 := sliceOf_of Tryz.underlying161 info_38 rfl
theorem body_61 : (Tryz.prog.funcs[61]?).map (fun fn => fn.body.isSome && !(fn.name == "runtime.NumGoroutine")) = some true := by kernel_rfl
theorem body_28 : (Tryz.prog.funcs[28]?).map (fun fn => fn.body.isSome && !(fn.name == "runtime.NumGoroutine")) = some true := by kernel_rfl
theorem bs_38_6 : SliceIs Tryz.prog 38 6 9 1 [.string ⟨#[]⟩, .string ⟨#[]⟩, .string ⟨#[]⟩, .string ⟨#[]⟩, .string ⟨#[]⟩, .string ⟨#[]⟩] := sliceIs_of Tryz.underlying38 info_9 rfl rfl (by decide) (by kernel_rfl)
theorem body_29 : (Tryz.prog.funcs[29]?).map (fun fn => fn.body.isSome && !(fn.name == "runtime.NumGoroutine")) = some true := by kernel_rfl
theorem bs_38_4 : SliceIs Tryz.prog 38 4 9 1 [.string ⟨#[]⟩, .string ⟨#[]⟩, .string ⟨#[]⟩, .string ⟨#[]⟩] := sliceIs_of Tryz.underlying38 info_9 rfl rfl (by decide) (by kernel_rfl)
theorem bs_161_2 : SliceIs Tryz.prog 161 2 38 1 [.slice none 0 0, .slice none 0 0] := sliceIs_of Tryz.underlying161 info_38 rfl rfl (by decide) (by kernel_rfl)
theorem body_31 : (Tryz.prog.funcs[31]?).map (fun fn => fn.body.isSome && !(fn.name == "runtime.NumGoroutine")) = some true := by kernel_rfl
theorem body_30 : (Tryz.prog.funcs[30]?).map (fun fn => fn.body.isSome && !(fn.name == "runtime.NumGoroutine")) = some true := by kernel_rfl


def encV (v : Value) : List Value := [v]
theorem concat_pick {v1 v2 : Value} {xs ys : List ByteArray} {i : Nat} (h : (i : Int) < 2) : ∃ u zs, ([v1, v2] : List Value)[i]? = some u ∧ ((i = 0 ∧ u = v1 ∧ zs = xs) ∨ (i = 1 ∧ u = v2 ∧ zs = ys)) := by
  have : i = 0 ∨ i = 1 := by omega
  rcases this with rfl | rfl
  · exact ⟨v1, xs, rfl, .inl ⟨rfl, rfl, rfl⟩⟩
  · exact ⟨v2, ys, rfl, .inr ⟨rfl, rfl, rfl⟩⟩
def catN (xs ys : List ByteArray) (i n : Nat) : Prop := (i = 0 ∧ n = 0) ∨ (i = 1 ∧ n = xs.length) ∨ (i = 2 ∧ n = xs.length + ys.length)
def catL (xs ys : List ByteArray) (i : Nat) (os : List ByteArray) : Prop := (i = 0 ∧ os = []) ∨ (i = 1 ∧ os = xs) ∨ (i = 2 ∧ os = xs ++ ys)
theorem catN_step {xs ys zs : List ByteArray} {v1 v2 u : Value} {i n : Nat} (h : catN xs ys i n) (hz : (i = 0 ∧ u = v1 ∧ zs = xs) ∨ (i = 1 ∧ u = v2 ∧ zs = ys)) : catN xs ys (i + 1) (n + zs.length) := by
  unfold catN at *
  rcases hz with ⟨rfl, _, rfl⟩ | ⟨rfl, _, rfl⟩
  · rcases h with ⟨_, rfl⟩ | ⟨h, _⟩ | ⟨h, _⟩
    · exact .inr (.inl ⟨rfl, by omega⟩)
    · omega
    · omega
  · rcases h with ⟨h, _⟩ | ⟨_, rfl⟩ | ⟨h, _⟩
    · omega
    · exact .inr (.inr ⟨rfl, rfl⟩)
    · omega
theorem catL_step {xs ys zs os : List ByteArray} {v1 v2 u : Value} {i : Nat} (h : catL xs ys i os) (hz : (i = 0 ∧ u = v1 ∧ zs = xs) ∨ (i = 1 ∧ u = v2 ∧ zs = ys)) : catL xs ys (i + 1) (os ++ zs) := by
  unfold catL at *
  rcases hz with ⟨rfl, _, rfl⟩ | ⟨rfl, _, rfl⟩
  · rcases h with ⟨_, rfl⟩ | ⟨h, _⟩ | ⟨h, _⟩
    · exact .inr (.inl ⟨rfl, rfl⟩)
    · omega
    · omega
  · rcases h with ⟨h, _⟩ | ⟨_, rfl⟩ | ⟨h, _⟩
    · omega
    · exact .inr (.inr ⟨rfl, rfl⟩)
    · omega
theorem catL_len {xs ys os : List ByteArray} {i : Nat} (h : catL xs ys i os) : os.length ≤ xs.length + ys.length := by
  rcases h with ⟨_, rfl⟩ | ⟨_, rfl⟩ | ⟨_, rfl⟩
  · simp
  · omega
  · simp
theorem cat_zs {xs ys zs : List ByteArray} {v1 v2 u : Value} {i : Nat} (hz : (i = 0 ∧ u = v1 ∧ zs = xs) ∨ (i = 1 ∧ u = v2 ∧ zs = ys)) : zs.length ≤ xs.length + ys.length := by
  rcases hz with ⟨_, _, rfl⟩ | ⟨_, _, rfl⟩ <;> omega
theorem catN_le {xs ys : List ByteArray} {i n : Nat} (h : catN xs ys i n) : i ≤ 2 ∧ n ≤ xs.length + ys.length := by
  rcases h with ⟨h, e⟩ | ⟨h, e⟩ | ⟨h, e⟩ <;> omega
theorem catL_le {xs ys os : List ByteArray} {i : Nat} (h : catL xs ys i os) : i ≤ 2 := by
  rcases h with ⟨h, _⟩ | ⟨h, _⟩ | ⟨h, _⟩ <;> omega

theorem Concat_ct (av v1 v2 : Value) (xs ys : List ByteArray) (h1 : 1 ≤ xs.length + ys.length) (h2 : xs.length + ys.length ≤ 1000) : CT Tryz.prog 31 #[av] [arr 38 1 encV av [v1, v2], arr 9 1 encS v1 xs, arr 9 1 encS v2 ys] (fun v M => ∃ sv, v = sv ∧ M = [arr 9 1 encS sv (xs ++ ys)]) := by
  refine t_fun (vs := [av]) (n := 36) Tryz.func31 rfl Tryz.ntmps31 rfl fun w0 F => ?_
  refine t_shape (enc := encV) (sz := 1) (v := av) (xs := [v1, v2]) (by first | exact HasArr.own (by repeat (first | exact List.Mem.head _ | apply List.Mem.tail)) | exact HasArr.sh (by repeat (first | exact List.Mem.head _ | apply List.Mem.tail))) (by intro _; rfl) (fun hsh => ?_)
  refine t_seq ?_
  refine t_region ?_
  refine tl_q rfl (ev_assign rfl) ?_
  refine tl_nil ?_
  refine te_code ?_
  refine t_seq ?_
  refine t_region ?_
  refine tl_q rfl (ev_assign rfl) ?_
  refine tl_nil ?_
  refine te_code ?_
  refine t_seq ?_
  refine t_seq ?_
  refine t_region ?_
  refine tl_q rfl (ev_move rfl) ?_
  refine tl_q rfl (ev_len_sh sl_161 rfl (by assumption)) ?_
  refine tl_q rfl (ev_move rfl) ?_
  refine tl_nil ?_
  refine te_code ?_
  refine t_block ?_
  refine t_loop (α := Nat × Nat) (fun p => [(11, .int .i64 (p.1 : Int)), (10, .int .i64 2), (9, av), (3, .int .i64 (p.2 : Int)), (0, av)]) (fun _ => [arr 38 1 encV av [v1, v2], arr 9 1 encS v1 xs, arr 9 1 encS v2 ys]) (fun p => 2 - p.1) (fun p => catN xs ys p.1 p.2) (0, 0) (.inl ⟨rfl, rfl⟩) (by exact sub_cons rfl (sub_cons rfl (sub_cons rfl (sub_cons rfl (sub_cons rfl (sub_nil)))))) (fun _ h => hold_keep (by repeat (first | exact Frm.nil | exact Take.here | apply Take.there | apply Frm.cons)) h) ?_
  rintro ⟨i, n⟩ hI
  try dsimp only
  dsimp only at hI
  have hle := catN_le hI
  refine t_seq ?_
  refine t_region ?_
  refine tl_q rfl (ev_lss rfl rfl) ?_
  refine tl_nil ?_
  refine te_code ?_
  refine t_seq ?_
  refine t_cond_dec rfl (fun h0 => ?_) (fun h0 => ?_)
  · obtain ⟨u, zs, hu, hz⟩ := concat_pick (v1 := v1) (v2 := v2) (xs := xs) (ys := ys) h0
    have hzl := cat_zs hz
    refine t_skip ?_
    refine te_code ?_
    refine t_seq ?_
    refine t_block ?_
    refine t_seq ?_
    refine t_region ?_
    refine tl_q rfl (ev_at_int sl_161 rfl rfl (by assumption) (by omega) (by omega)) ?_
    refine tl_q rfl (ev_load_at0 sc_38 rfl (by first | exact HasArr.own (by repeat (first | exact List.Mem.head _ | apply List.Mem.tail)) | exact HasArr.sh (by repeat (first | exact List.Mem.head _ | apply List.Mem.tail))) (by intro _; rfl) (by assumption) (by rfl)) ?_
    refine tl_q rfl (ev_assign rfl) ?_
    refine tl_nil ?_
    refine te_code ?_
    refine t_seq ?_
    refine t_region ?_
    refine tl_q rfl (ev_move rfl) ?_
    refine tl_q rfl (ev_move rfl) ?_
    refine tl_q rfl (ev_len_arr (enc := encS) (sz := 1) (xs := zs) (v := u) sl_38 rfl (by rcases hz with ⟨_, rfl, rfl⟩ | ⟨_, rfl, rfl⟩ <;> exact HasArr.own (by repeat (first | exact List.Mem.head _ | apply List.Mem.tail))) (by intro _; rfl)) ?_
    refine tl_q rfl (ev_add' rfl rfl (by omega)) ?_
    refine tl_q rfl (ev_assign rfl) ?_
    refine tl_nil ?_
    refine te_code ?_
    refine t_seq ?_
    refine t_region ?_
    refine tl_q rfl (ev_move rfl) ?_
    refine tl_q rfl (ev_lss rfl rfl) ?_
    refine tl_nil ?_
    refine te_code ?_
    refine t_cond_no rfl (by first | rfl | (simp; done) | (simp; omega) | simp_all) ?_
    refine t_skip ?_
    refine te_blk ?_
    refine te_code ?_
    refine t_region ?_
    refine tl_q rfl (ev_add' rfl rfl (by omega)) ?_
    refine tl_q rfl (ev_move rfl) ?_
    refine tl_nil ?_
    exact te_round (i + 1, n + zs.length) (by exact sub_cons rfl (sub_cons rfl (sub_cons rfl (sub_cons rfl (sub_cons rfl (sub_nil)))))) (fun _ h => hold_keep (by repeat (first | exact Frm.nil | exact Take.here | apply Take.there | apply Frm.cons)) h) (catN_step hI hz) (by dsimp only; omega)
  · obtain ⟨rfl, rfl⟩ : i = 2 ∧ n = xs.length + ys.length := by unfold catN at hI; omega
    refine t_exit ?_
    refine te_exit_code ?_
    refine te_exit_rnd ?_
    refine te_exit_here ?_
    refine te_code ?_
    refine t_seq ?_
    refine t_region ?_
    refine tl_q rfl (ev_move rfl) ?_
    refine tl_e (eff_call rfl rfl body_61 rfl (by repeat (first | exact Frm.nil | exact Take.here | apply Take.there | apply Frm.cons)) (Grow_ct _ (by omega) (by omega))) ?_
    rintro _ _ ⟨v24, _, ⟨gv, rfl, rfl⟩, rfl, rfl⟩
    refine tl_q rfl (ev_assign rfl) ?_
    refine tl_nil ?_
    refine te_code ?_
    refine t_seq ?_
    refine t_seq ?_
    refine t_region ?_
    refine tl_q rfl (ev_move rfl) ?_
    refine tl_q rfl (ev_len_sh sl_161 rfl (by assumption)) ?_
    refine tl_q rfl (ev_move rfl) ?_
    refine tl_nil ?_
    refine te_code ?_
    refine t_block ?_
    refine t_loop (α := Nat × Value × List ByteArray) (fun p => [(27, .int .i64 (p.1 : Int)), (26, .int .i64 2), (25, av), (6, p.2.1)]) (fun p => [arr 38 1 encV av [v1, v2], arr 9 1 encS v1 xs, arr 9 1 encS v2 ys, arr 9 1 encS p.2.1 p.2.2]) (fun p => 2 - p.1) (fun p => catL xs ys p.1 p.2.2) (0, v24, []) (.inl ⟨rfl, rfl⟩) (by exact sub_cons rfl (sub_cons rfl (sub_cons rfl (sub_cons rfl (sub_nil))))) (fun _ h => hold_keep (by repeat (first | exact Frm.nil | exact Take.here | apply Take.there | apply Frm.cons)) h) ?_
    rintro ⟨i, ov, os⟩ hI
    try dsimp only
    dsimp only at hI
    have hle := catL_le hI
    have hol := catL_len hI
    refine t_seq ?_
    refine t_region ?_
    refine tl_q rfl (ev_lss rfl rfl) ?_
    refine tl_nil ?_
    refine te_code ?_
    refine t_seq ?_
    refine t_cond_dec rfl (fun h0 => ?_) (fun h0 => ?_)
    · obtain ⟨u, zs, hu, hz⟩ := concat_pick (v1 := v1) (v2 := v2) (xs := xs) (ys := ys) h0
      have hzl := cat_zs hz
      refine t_skip ?_
      refine te_code ?_
      refine t_seq ?_
      refine t_block ?_
      refine t_seq ?_
      refine t_region ?_
      refine tl_q rfl (ev_at_int sl_161 rfl rfl (by assumption) (by omega) (by omega)) ?_
      refine tl_q rfl (ev_load_at0 sc_38 rfl (by first | exact HasArr.own (by repeat (first | exact List.Mem.head _ | apply List.Mem.tail)) | exact HasArr.sh (by repeat (first | exact List.Mem.head _ | apply List.Mem.tail))) (by intro _; rfl) (by assumption) (by rfl)) ?_
      refine tl_q rfl (ev_assign rfl) ?_
      refine tl_nil ?_
      refine te_code ?_
      refine t_region ?_
      refine tl_q rfl (ev_move rfl) ?_
      refine tl_q rfl (ev_move rfl) ?_
      refine tl_e (eff_append (ys := zs) rfl sl_38 Tryz.underlying38 zero_9 rfl by_9 rfl rfl (by repeat (first | exact Take.here | apply Take.there)) ((by rcases hz with ⟨_, rfl, rfl⟩ | ⟨_, rfl, rfl⟩ <;> exact HasArr.own (by repeat (first | exact List.Mem.head _ | apply List.Mem.tail)))) (by intro _; rfl) flatS (by omega) (by decide)) ?_
      rintro _ _ ⟨v33, rfl, rfl⟩
      refine tl_q rfl (ev_assign rfl) ?_
      refine tl_nil ?_
      refine te_blk ?_
      refine te_code ?_
      refine t_region ?_
      refine tl_q rfl (ev_add' rfl rfl (by omega)) ?_
      refine tl_q rfl (ev_move rfl) ?_
      refine tl_nil ?_
      exact te_round (i + 1, _, os ++ zs) (by exact sub_cons rfl (sub_cons rfl (sub_cons rfl (sub_cons rfl (sub_nil))))) (fun _ h => hold_keep (by repeat (first | exact Frm.nil | exact Take.here | apply Take.there | apply Frm.cons)) h) (catL_step hI hz) (by dsimp only; omega)
    · obtain ⟨rfl, rfl⟩ : i = 2 ∧ os = xs ++ ys := by
        rcases hI with ⟨h, _⟩ | ⟨h, _⟩ | ⟨h, e⟩
        · omega
        · omega
        · exact ⟨h, e⟩
      refine t_exit ?_
      refine te_exit_code ?_
      refine te_exit_rnd ?_
      refine te_exit_here ?_
      refine te_code ?_
      refine t_seq ?_
      refine t_region ?_
      refine tl_q rfl (ev_move rfl) ?_
      refine tl_q rfl (ev_assign rfl) ?_
      refine tl_nil ?_
      refine te_code ?_
      refine t_ret ?_
      refine te_ret_k (pre := [arr _ _ encS ov _]) (res1 rfl rfl) (by repeat (first | exact Frm.nil | exact Take.here | apply Take.there | apply Frm.cons)) ?_
      exact ⟨_, rfl, rfl⟩


def intRow (r : Row) : Prop := (-9223372036854775808 ≤ r.id ∧ r.id ≤ 9223372036854775807) ∧ (-9223372036854775808 ≤ r.e.level ∧ r.e.level ≤ 9223372036854775807) ∧ (-9223372036854775808 ≤ r.tally ∧ r.tally ≤ 9223372036854775807)
def lineL (r : Row) : List ByteArray := [itoaB r.id, itoaB r.e.level, itoaB r.tally, printF r.first, printF r.last, if r.acked = true then r.by_ else ⟨#[45]⟩] ++ [quoteF r.e.node, quoteF r.e.cls, quoteF r.e.key, quoteF r.e.text]
def lineF (r : Row) : ByteArray := joinF (lineL r) ⟨#[32]⟩
theorem line_size (a b c d e f g h i j : ByteArray) (ha : a.size ≤ 10000000) (hb : b.size ≤ 10000000) (hc : c.size ≤ 10000000) (hd : d.size ≤ 10000000) (he : e.size ≤ 10000000) (hf : f.size ≤ 10000000) (hg : g.size ≤ 10000000) (hh : h.size ≤ 10000000) (hi : i.size ≤ 10000000) (hj : j.size ≤ 10000000) :
    (joinF ([a, b, c, d, e, f] ++ [g, h, i, j]) ⟨#[32]⟩).size ≤ 200000000 := by
  show ((Go.Lib.join (([a, b, c, d, e, f] ++ [g, h, i, j]).map (·.data.toList)) [32]).toArray).size ≤ _
  rw [List.size_toArray]
  have := Go.Lib.join_length a.data.toList ([b, c, d, e, f, g, h, i, j].map (·.data.toList)) [32]
  simp only [List.cons_append, List.nil_append, List.map_cons, List.map_nil] at this ⊢
  rw [this]
  have e0 : ∀ s : ByteArray, s.data.toList.length = s.size := fun s => Array.length_toList
  simp only [Go.Lib.lens, List.map_cons, List.map_nil, List.sum_cons, List.sum_nil, List.length_cons, List.length_nil, e0]
  omega

theorem Line_ct (q : TypeId × (Nat × Nat)) (r : Row) (hr : okRow r) (hi : intRow r) : CTm false Tryz.prog 11 #[.agg (encRow r).toArray] [powA, aheadI q] (fun v M => v = .string (lineF r) ∧ M = [powA, aheadI q]) := by
  refine t_fun (vs := [.agg (encRow r).toArray]) (n := 62) Tryz.func11 rfl Tryz.ntmps11 rfl fun w0 F => ?_
  obtain ⟨hr1, hr2, hr3, hr4, hr5⟩ := hr
  obtain ⟨hi1, hi2, hi3⟩ := hi
  refine t_seq ?_
  refine t_region ?_
  refine tl_e (eff_box rfl rfl rfl) ?_
  rintro _ _ ⟨b1, rfl, rfl⟩
  refine tl_q rfl (ev_assign rfl) ?_
  refine tl_nil ?_
  refine te_code ?_
  refine t_seq ?_
  refine t_region ?_
  refine tl_q rfl (ev_fieldAddr fa_45_3 rfl rfl) ?_
  refine tl_q rfl (ev_load sc_3 rfl (by first | (left; (repeat (first | exact List.Mem.head _ | apply List.Mem.tail)); done) | (right; (repeat (first | exact List.Mem.head _ | apply List.Mem.tail)); done)) rfl) ?_
  refine tl_e (eff_call rfl rfl body_28 rfl (by repeat (first | exact Frm.nil | exact Take.here | apply Take.there | apply Frm.cons)) (Print_ct q _)) ?_
  rintro _ _ ⟨v13, _, ⟨e, rfl, rfl⟩, rfl, rfl⟩
  refine tl_q rfl (ev_move rfl) ?_
  refine tl_q rfl (ev_extract rfl rfl) ?_
  refine tl_q rfl (ev_extract rfl rfl) ?_
  refine tl_q rfl (ev_assign rfl) ?_
  refine tl_q rfl (ev_assign rfl) ?_
  refine tl_nil ?_
  refine te_code ?_
  refine t_seq ?_
  refine t_region ?_
  refine tl_q rfl (ev_fieldAddr fa_45_4 rfl rfl) ?_
  refine tl_q rfl (ev_load sc_3 rfl (by first | (left; (repeat (first | exact List.Mem.head _ | apply List.Mem.tail)); done) | (right; (repeat (first | exact List.Mem.head _ | apply List.Mem.tail)); done)) rfl) ?_
  refine tl_e (eff_call rfl rfl body_28 rfl (by repeat (first | exact Frm.nil | exact Take.here | apply Take.there | apply Frm.cons)) (Print_ct q _)) ?_
  rintro _ _ ⟨v19, _, ⟨e, rfl, rfl⟩, rfl, rfl⟩
  refine tl_q rfl (ev_move rfl) ?_
  refine tl_q rfl (ev_extract rfl rfl) ?_
  refine tl_q rfl (ev_extract rfl rfl) ?_
  refine tl_q rfl (ev_assign rfl) ?_
  refine tl_q rfl (ev_assign rfl) ?_
  refine tl_nil ?_
  refine te_code ?_
  refine t_seq ?_
  refine t_region ?_
  refine tl_q rfl (ev_assign rfl) ?_
  refine tl_nil ?_
  refine te_code ?_
  refine t_seq ?_
  refine t_seq ?_
  refine t_region ?_
  refine tl_q rfl (ev_fieldAddr fa_45_5 rfl rfl) ?_
  refine tl_q rfl (ev_load sc_4 rfl (by first | (left; (repeat (first | exact List.Mem.head _ | apply List.Mem.tail)); done) | (right; (repeat (first | exact List.Mem.head _ | apply List.Mem.tail)); done)) rfl) ?_
  refine tl_nil ?_
  refine te_code ?_
  refine t_cond rfl (fun h0 => ?_) (fun h0 => ?_)
  · refine t_region ?_
    refine tl_q rfl (ev_fieldAddr fa_45_6 rfl rfl) ?_
    refine tl_q rfl (ev_load sc_9 rfl (by first | (left; (repeat (first | exact List.Mem.head _ | apply List.Mem.tail)); done) | (right; (repeat (first | exact List.Mem.head _ | apply List.Mem.tail)); done)) rfl) ?_
    refine tl_q rfl (ev_assign rfl) ?_
    refine tl_nil ?_
    refine te_code ?_
    refine t_seq ?_
    refine t_drawn_wo (A := powA) (by repeat (first | exact Take.here | apply Take.there)) follows ?_
    refine tr_q 0 rfl (by kernel_rfl) (by kernel_rfl) (by kernel_rfl) rfl (fun _ h => hold_sub (by repeat (first | exact Frm.nil | exact Take.here | apply Take.there | apply Frm.cons)) h) (ev_fieldAddr fa_45_0 rfl rfl) ?_
    refine tr_q 1 rfl (by kernel_rfl) (by kernel_rfl) (by kernel_rfl) rfl (fun _ h => hold_sub (by repeat (first | exact Frm.nil | exact Take.here | apply Take.there | apply Frm.cons)) h) (ev_load sc_3 rfl (by first | (left; (repeat (first | exact List.Mem.head _ | apply List.Mem.tail)); done) | (right; (repeat (first | exact List.Mem.head _ | apply List.Mem.tail)); done)) rfl) ?_
    refine tr_q 3 rfl (by kernel_rfl) (by kernel_rfl) (by kernel_rfl) rfl (fun _ h => hold_sub (by repeat (first | exact Frm.nil | exact Take.here | apply Take.there | apply Frm.cons)) h) (ev_fieldAddr fa_45_1 rfl rfl) ?_
    refine tr_q 4 rfl (by kernel_rfl) (by kernel_rfl) (by kernel_rfl) rfl (fun _ h => hold_sub (by repeat (first | exact Frm.nil | exact Take.here | apply Take.there | apply Frm.cons)) h) (ev_fieldAddr fa_43_3 rfl rfl) ?_
    refine tr_q 5 rfl (by kernel_rfl) (by kernel_rfl) (by kernel_rfl) rfl (fun _ h => hold_sub (by repeat (first | exact Frm.nil | exact Take.here | apply Take.there | apply Frm.cons)) h) (ev_load sc_3 rfl (by first | (left; (repeat (first | exact List.Mem.head _ | apply List.Mem.tail)); done) | (right; (repeat (first | exact List.Mem.head _ | apply List.Mem.tail)); done)) rfl) ?_
    refine tr_q 7 rfl (by kernel_rfl) (by kernel_rfl) (by kernel_rfl) rfl (fun _ h => hold_sub (by repeat (first | exact Frm.nil | exact Take.here | apply Take.there | apply Frm.cons)) h) (ev_fieldAddr fa_45_2 rfl rfl) ?_
    refine tr_q 8 rfl (by kernel_rfl) (by kernel_rfl) (by kernel_rfl) rfl (fun _ h => hold_sub (by repeat (first | exact Frm.nil | exact Take.here | apply Take.there | apply Frm.cons)) h) (ev_load sc_3 rfl (by first | (left; (repeat (first | exact List.Mem.head _ | apply List.Mem.tail)); done) | (right; (repeat (first | exact List.Mem.head _ | apply List.Mem.tail)); done)) rfl) ?_
    refine tr_q 10 rfl (by kernel_rfl) (by kernel_rfl) (by kernel_rfl) rfl (fun _ h => hold_sub (by repeat (first | exact Frm.nil | exact Take.here | apply Take.there | apply Frm.cons)) h) (ev_move rfl) ?_
    refine tr_q 11 rfl (by kernel_rfl) (by kernel_rfl) (by kernel_rfl) rfl (fun _ h => hold_sub (by repeat (first | exact Frm.nil | exact Take.here | apply Take.there | apply Frm.cons)) h) (ev_move rfl) ?_
    refine tr_q 12 rfl (by kernel_rfl) (by kernel_rfl) (by kernel_rfl) rfl (fun _ h => hold_sub (by repeat (first | exact Frm.nil | exact Take.here | apply Take.there | apply Frm.cons)) h) (ev_move rfl) ?_
    refine tr_e 2 rfl (by kernel_rfl) (eff_call rfl rfl body_10 rfl (by repeat (first | exact Frm.nil | exact Take.here | apply Take.there | apply Frm.cons)) (Itoa_ct _ (by omega) (by omega))) (by rintro _ _ ⟨_, _, ⟨rfl, rfl⟩, rfl, rfl⟩; exact (fun _ h => hold_sub (by repeat (first | exact Frm.nil | exact Take.here | apply Take.there | apply Frm.cons)) h)) ?_
    rintro _ _ ⟨v28, _, ⟨rfl, rfl⟩, rfl, rfl⟩
    refine tr_e 6 rfl (by kernel_rfl) (eff_call rfl rfl body_10 rfl (by repeat (first | exact Frm.nil | exact Take.here | apply Take.there | apply Frm.cons)) (Itoa_ct _ (by omega) (by omega))) (by rintro _ _ ⟨_, _, ⟨rfl, rfl⟩, rfl, rfl⟩; exact (fun _ h => hold_sub (by repeat (first | exact Frm.nil | exact Take.here | apply Take.there | apply Frm.cons)) h)) ?_
    rintro _ _ ⟨v32, _, ⟨rfl, rfl⟩, rfl, rfl⟩
    refine tr_e 9 rfl (by kernel_rfl) (eff_call rfl rfl body_10 rfl (by repeat (first | exact Frm.nil | exact Take.here | apply Take.there | apply Frm.cons)) (Itoa_ct _ (by omega) (by omega))) (by rintro _ _ ⟨_, _, ⟨rfl, rfl⟩, rfl, rfl⟩; exact (fun _ h => hold_sub (by repeat (first | exact Frm.nil | exact Take.here | apply Take.there | apply Frm.cons)) h)) ?_
    rintro _ _ ⟨v35, _, ⟨rfl, rfl⟩, rfl, rfl⟩
    refine tr_e 13 rfl (by kernel_rfl) (eff_buildSl rfl bs_38_6 rfl (by repeat (first | exact FillR.nil | exact LPut.nil | apply LPut.cons | apply LPut.succ | apply FillR.cons rfl rfl rfl))) (by rintro _ _ ⟨_, rfl, rfl⟩; exact (fun _ h => hold_sub (by repeat (first | exact Frm.nil | exact Take.here | apply Take.there | apply Frm.cons)) h)) ?_
    rintro _ _ ⟨b39, rfl, rfl⟩
    refine tr_lit (T := 9) (sz := 1) (enc := encS) [itoaB r.id, itoaB r.e.level, itoaB r.tally, printF r.first, printF r.last, r.by_] rfl rfl rfl ?_
    refine tr_q 14 rfl (by kernel_rfl) (by kernel_rfl) (by kernel_rfl) rfl (fun _ h => hold_sub (by repeat (first | exact Frm.nil | exact Take.here | apply Take.there | apply Frm.cons)) h) (ev_assign rfl) ?_
    refine tr_done (by kernel_rfl) ?_
    refine te_code ?_
    refine t_seq ?_
    refine t_drawn_wo (A := powA) (by repeat (first | exact Take.here | apply Take.there)) follows ?_
    refine tr_q 0 rfl (by kernel_rfl) (by kernel_rfl) (by kernel_rfl) rfl (fun _ h => hold_sub (by repeat (first | exact Frm.nil | exact Take.here | apply Take.there | apply Frm.cons)) h) (ev_fieldAddr fa_45_1 rfl rfl) ?_
    refine tr_q 1 rfl (by kernel_rfl) (by kernel_rfl) (by kernel_rfl) rfl (fun _ h => hold_sub (by repeat (first | exact Frm.nil | exact Take.here | apply Take.there | apply Frm.cons)) h) (ev_fieldAddr fa_43_0 rfl rfl) ?_
    refine tr_q 2 rfl (by kernel_rfl) (by kernel_rfl) (by kernel_rfl) rfl (fun _ h => hold_sub (by repeat (first | exact Frm.nil | exact Take.here | apply Take.there | apply Frm.cons)) h) (ev_load sc_9 rfl (by first | (left; (repeat (first | exact List.Mem.head _ | apply List.Mem.tail)); done) | (right; (repeat (first | exact List.Mem.head _ | apply List.Mem.tail)); done)) rfl) ?_
    refine tr_q 4 rfl (by kernel_rfl) (by kernel_rfl) (by kernel_rfl) rfl (fun _ h => hold_sub (by repeat (first | exact Frm.nil | exact Take.here | apply Take.there | apply Frm.cons)) h) (ev_fieldAddr fa_45_1 rfl rfl) ?_
    refine tr_q 5 rfl (by kernel_rfl) (by kernel_rfl) (by kernel_rfl) rfl (fun _ h => hold_sub (by repeat (first | exact Frm.nil | exact Take.here | apply Take.there | apply Frm.cons)) h) (ev_fieldAddr fa_43_1 rfl rfl) ?_
    refine tr_q 6 rfl (by kernel_rfl) (by kernel_rfl) (by kernel_rfl) rfl (fun _ h => hold_sub (by repeat (first | exact Frm.nil | exact Take.here | apply Take.there | apply Frm.cons)) h) (ev_load sc_9 rfl (by first | (left; (repeat (first | exact List.Mem.head _ | apply List.Mem.tail)); done) | (right; (repeat (first | exact List.Mem.head _ | apply List.Mem.tail)); done)) rfl) ?_
    refine tr_q 8 rfl (by kernel_rfl) (by kernel_rfl) (by kernel_rfl) rfl (fun _ h => hold_sub (by repeat (first | exact Frm.nil | exact Take.here | apply Take.there | apply Frm.cons)) h) (ev_fieldAddr fa_45_1 rfl rfl) ?_
    refine tr_q 9 rfl (by kernel_rfl) (by kernel_rfl) (by kernel_rfl) rfl (fun _ h => hold_sub (by repeat (first | exact Frm.nil | exact Take.here | apply Take.there | apply Frm.cons)) h) (ev_fieldAddr fa_43_2 rfl rfl) ?_
    refine tr_q 10 rfl (by kernel_rfl) (by kernel_rfl) (by kernel_rfl) rfl (fun _ h => hold_sub (by repeat (first | exact Frm.nil | exact Take.here | apply Take.there | apply Frm.cons)) h) (ev_load sc_9 rfl (by first | (left; (repeat (first | exact List.Mem.head _ | apply List.Mem.tail)); done) | (right; (repeat (first | exact List.Mem.head _ | apply List.Mem.tail)); done)) rfl) ?_
    refine tr_q 12 rfl (by kernel_rfl) (by kernel_rfl) (by kernel_rfl) rfl (fun _ h => hold_sub (by repeat (first | exact Frm.nil | exact Take.here | apply Take.there | apply Frm.cons)) h) (ev_fieldAddr fa_45_1 rfl rfl) ?_
    refine tr_q 13 rfl (by kernel_rfl) (by kernel_rfl) (by kernel_rfl) rfl (fun _ h => hold_sub (by repeat (first | exact Frm.nil | exact Take.here | apply Take.there | apply Frm.cons)) h) (ev_fieldAddr fa_43_4 rfl rfl) ?_
    refine tr_q 14 rfl (by kernel_rfl) (by kernel_rfl) (by kernel_rfl) rfl (fun _ h => hold_sub (by repeat (first | exact Frm.nil | exact Take.here | apply Take.there | apply Frm.cons)) h) (ev_load sc_9 rfl (by first | (left; (repeat (first | exact List.Mem.head _ | apply List.Mem.tail)); done) | (right; (repeat (first | exact List.Mem.head _ | apply List.Mem.tail)); done)) rfl) ?_
    refine tr_e 3 rfl (by kernel_rfl) (eff_call rfl rfl body_29 rfl (by repeat (first | exact Frm.nil | exact Take.here | apply Take.there | apply Frm.cons)) (Quote_ct _ (by omega))) (by rintro _ _ ⟨_, _, ⟨rfl, rfl⟩, rfl, rfl⟩; exact (fun _ h => hold_sub (by repeat (first | exact Frm.nil | exact Take.here | apply Take.there | apply Frm.cons)) h)) ?_
    rintro _ _ ⟨v43, _, ⟨rfl, rfl⟩, rfl, rfl⟩
    refine tr_e 7 rfl (by kernel_rfl) (eff_call rfl rfl body_29 rfl (by repeat (first | exact Frm.nil | exact Take.here | apply Take.there | apply Frm.cons)) (Quote_ct _ (by omega))) (by rintro _ _ ⟨_, _, ⟨rfl, rfl⟩, rfl, rfl⟩; exact (fun _ h => hold_sub (by repeat (first | exact Frm.nil | exact Take.here | apply Take.there | apply Frm.cons)) h)) ?_
    rintro _ _ ⟨v47, _, ⟨rfl, rfl⟩, rfl, rfl⟩
    refine tr_e 11 rfl (by kernel_rfl) (eff_call rfl rfl body_29 rfl (by repeat (first | exact Frm.nil | exact Take.here | apply Take.there | apply Frm.cons)) (Quote_ct _ (by omega))) (by rintro _ _ ⟨_, _, ⟨rfl, rfl⟩, rfl, rfl⟩; exact (fun _ h => hold_sub (by repeat (first | exact Frm.nil | exact Take.here | apply Take.there | apply Frm.cons)) h)) ?_
    rintro _ _ ⟨v51, _, ⟨rfl, rfl⟩, rfl, rfl⟩
    refine tr_e 15 rfl (by kernel_rfl) (eff_call rfl rfl body_29 rfl (by repeat (first | exact Frm.nil | exact Take.here | apply Take.there | apply Frm.cons)) (Quote_ct _ (by omega))) (by rintro _ _ ⟨_, _, ⟨rfl, rfl⟩, rfl, rfl⟩; exact (fun _ h => hold_sub (by repeat (first | exact Frm.nil | exact Take.here | apply Take.there | apply Frm.cons)) h)) ?_
    rintro _ _ ⟨v55, _, ⟨rfl, rfl⟩, rfl, rfl⟩
    refine tr_e 16 rfl (by kernel_rfl) (eff_buildSl rfl bs_38_4 rfl (by repeat (first | exact FillR.nil | exact LPut.nil | apply LPut.cons | apply LPut.succ | apply FillR.cons rfl rfl rfl))) (by rintro _ _ ⟨_, rfl, rfl⟩; exact (fun _ h => hold_sub (by repeat (first | exact Frm.nil | exact Take.here | apply Take.there | apply Frm.cons)) h)) ?_
    rintro _ _ ⟨b56, rfl, rfl⟩
    refine tr_lit (T := 9) (sz := 1) (enc := encS) [quoteF r.e.node, quoteF r.e.cls, quoteF r.e.key, quoteF r.e.text] rfl rfl rfl ?_
    refine tr_q 17 rfl (by kernel_rfl) (by kernel_rfl) (by kernel_rfl) rfl (fun _ h => hold_sub (by repeat (first | exact Frm.nil | exact Take.here | apply Take.there | apply Frm.cons)) h) (ev_assign rfl) ?_
    refine tr_done (by kernel_rfl) ?_
    refine te_code ?_
    refine t_seq ?_
    refine t_region ?_
    refine tl_q rfl (ev_move rfl) ?_
    refine tl_q rfl (ev_move rfl) ?_
    refine tl_e (eff_buildSl rfl bs_161_2 rfl (by repeat (first | exact FillR.nil | exact LPut.nil | apply LPut.cons | apply LPut.succ | apply FillR.cons rfl rfl rfl))) ?_
    rintro _ _ ⟨b59, rfl, rfl⟩
    refine tl_lit (T := 38) (sz := 1) (enc := encV) [_, _] rfl rfl rfl ?_
    refine tl_e (eff_call rfl rfl body_31 rfl (by repeat (first | exact Frm.nil | exact Take.here | apply Take.there | apply Frm.cons)) (Concat_ct _ _ _ _ _ (by simp) (by simp))) ?_
    rintro _ _ ⟨v60, _, ⟨sv, rfl, rfl⟩, rfl, rfl⟩
    refine tl_e (eff_call rfl rfl body_30 rfl (by repeat (first | exact Frm.nil | exact Take.here | apply Take.there | apply Frm.cons)) (Join_ct _ _ _ (by simp) (by simp) (by have hq1 := quote_size r.e.node; have hq2 := quote_size r.e.cls; have hq3 := quote_size r.e.key; have hq4 := quote_size r.e.text; have hp1 := print_size r.first; have hp2 := print_size r.last; have hi1 := itoa_le r.id (by omega) (by omega); have hi2 := itoa_le r.e.level (by omega) (by omega); have hi3 := itoa_le r.tally (by omega) (by omega); exact Nat.le_trans (line_size _ _ _ _ _ _ _ _ _ _ (by omega) (by omega) (by omega) (by omega) (by omega) (by first | omega | (rw [size_l1]; omega)) (by omega) (by omega) (by omega) (by omega)) (by omega)))) ?_
    rintro _ _ ⟨v61, _, ⟨rfl, rfl⟩, rfl, rfl⟩
    refine tl_q rfl (ev_assign rfl) ?_
    refine tl_nil ?_
    refine te_code ?_
    refine t_ret ?_
    refine te_ret_k (pre := [powA, aheadI q]) (res1 rfl rfl) (by repeat (first | exact Frm.nil | exact Take.here | apply Take.there | apply Frm.cons)) ?_
    refine ⟨?_, rfl⟩
    first | (unfold lineF lineL; rw [if_pos h0]; done) | (unfold lineF lineL; rw [if_neg (by simp [h0])]; done)
  · refine t_skip ?_
    refine te_code ?_
    refine t_seq ?_
    refine t_drawn_wo (A := powA) (by repeat (first | exact Take.here | apply Take.there)) follows ?_
    refine tr_q 0 rfl (by kernel_rfl) (by kernel_rfl) (by kernel_rfl) rfl (fun _ h => hold_sub (by repeat (first | exact Frm.nil | exact Take.here | apply Take.there | apply Frm.cons)) h) (ev_fieldAddr fa_45_0 rfl rfl) ?_
    refine tr_q 1 rfl (by kernel_rfl) (by kernel_rfl) (by kernel_rfl) rfl (fun _ h => hold_sub (by repeat (first | exact Frm.nil | exact Take.here | apply Take.there | apply Frm.cons)) h) (ev_load sc_3 rfl (by first | (left; (repeat (first | exact List.Mem.head _ | apply List.Mem.tail)); done) | (right; (repeat (first | exact List.Mem.head _ | apply List.Mem.tail)); done)) rfl) ?_
    refine tr_q 3 rfl (by kernel_rfl) (by kernel_rfl) (by kernel_rfl) rfl (fun _ h => hold_sub (by repeat (first | exact Frm.nil | exact Take.here | apply Take.there | apply Frm.cons)) h) (ev_fieldAddr fa_45_1 rfl rfl) ?_
    refine tr_q 4 rfl (by kernel_rfl) (by kernel_rfl) (by kernel_rfl) rfl (fun _ h => hold_sub (by repeat (first | exact Frm.nil | exact Take.here | apply Take.there | apply Frm.cons)) h) (ev_fieldAddr fa_43_3 rfl rfl) ?_
    refine tr_q 5 rfl (by kernel_rfl) (by kernel_rfl) (by kernel_rfl) rfl (fun _ h => hold_sub (by repeat (first | exact Frm.nil | exact Take.here | apply Take.there | apply Frm.cons)) h) (ev_load sc_3 rfl (by first | (left; (repeat (first | exact List.Mem.head _ | apply List.Mem.tail)); done) | (right; (repeat (first | exact List.Mem.head _ | apply List.Mem.tail)); done)) rfl) ?_
    refine tr_q 7 rfl (by kernel_rfl) (by kernel_rfl) (by kernel_rfl) rfl (fun _ h => hold_sub (by repeat (first | exact Frm.nil | exact Take.here | apply Take.there | apply Frm.cons)) h) (ev_fieldAddr fa_45_2 rfl rfl) ?_
    refine tr_q 8 rfl (by kernel_rfl) (by kernel_rfl) (by kernel_rfl) rfl (fun _ h => hold_sub (by repeat (first | exact Frm.nil | exact Take.here | apply Take.there | apply Frm.cons)) h) (ev_load sc_3 rfl (by first | (left; (repeat (first | exact List.Mem.head _ | apply List.Mem.tail)); done) | (right; (repeat (first | exact List.Mem.head _ | apply List.Mem.tail)); done)) rfl) ?_
    refine tr_q 10 rfl (by kernel_rfl) (by kernel_rfl) (by kernel_rfl) rfl (fun _ h => hold_sub (by repeat (first | exact Frm.nil | exact Take.here | apply Take.there | apply Frm.cons)) h) (ev_move rfl) ?_
    refine tr_q 11 rfl (by kernel_rfl) (by kernel_rfl) (by kernel_rfl) rfl (fun _ h => hold_sub (by repeat (first | exact Frm.nil | exact Take.here | apply Take.there | apply Frm.cons)) h) (ev_move rfl) ?_
    refine tr_q 12 rfl (by kernel_rfl) (by kernel_rfl) (by kernel_rfl) rfl (fun _ h => hold_sub (by repeat (first | exact Frm.nil | exact Take.here | apply Take.there | apply Frm.cons)) h) (ev_move rfl) ?_
    refine tr_e 2 rfl (by kernel_rfl) (eff_call rfl rfl body_10 rfl (by repeat (first | exact Frm.nil | exact Take.here | apply Take.there | apply Frm.cons)) (Itoa_ct _ (by omega) (by omega))) (by rintro _ _ ⟨_, _, ⟨rfl, rfl⟩, rfl, rfl⟩; exact (fun _ h => hold_sub (by repeat (first | exact Frm.nil | exact Take.here | apply Take.there | apply Frm.cons)) h)) ?_
    rintro _ _ ⟨v28, _, ⟨rfl, rfl⟩, rfl, rfl⟩
    refine tr_e 6 rfl (by kernel_rfl) (eff_call rfl rfl body_10 rfl (by repeat (first | exact Frm.nil | exact Take.here | apply Take.there | apply Frm.cons)) (Itoa_ct _ (by omega) (by omega))) (by rintro _ _ ⟨_, _, ⟨rfl, rfl⟩, rfl, rfl⟩; exact (fun _ h => hold_sub (by repeat (first | exact Frm.nil | exact Take.here | apply Take.there | apply Frm.cons)) h)) ?_
    rintro _ _ ⟨v32, _, ⟨rfl, rfl⟩, rfl, rfl⟩
    refine tr_e 9 rfl (by kernel_rfl) (eff_call rfl rfl body_10 rfl (by repeat (first | exact Frm.nil | exact Take.here | apply Take.there | apply Frm.cons)) (Itoa_ct _ (by omega) (by omega))) (by rintro _ _ ⟨_, _, ⟨rfl, rfl⟩, rfl, rfl⟩; exact (fun _ h => hold_sub (by repeat (first | exact Frm.nil | exact Take.here | apply Take.there | apply Frm.cons)) h)) ?_
    rintro _ _ ⟨v35, _, ⟨rfl, rfl⟩, rfl, rfl⟩
    refine tr_e 13 rfl (by kernel_rfl) (eff_buildSl rfl bs_38_6 rfl (by repeat (first | exact FillR.nil | exact LPut.nil | apply LPut.cons | apply LPut.succ | apply FillR.cons rfl rfl rfl))) (by rintro _ _ ⟨_, rfl, rfl⟩; exact (fun _ h => hold_sub (by repeat (first | exact Frm.nil | exact Take.here | apply Take.there | apply Frm.cons)) h)) ?_
    rintro _ _ ⟨b39, rfl, rfl⟩
    refine tr_lit (T := 9) (sz := 1) (enc := encS) [itoaB r.id, itoaB r.e.level, itoaB r.tally, printF r.first, printF r.last, ⟨#[45]⟩] rfl rfl rfl ?_
    refine tr_q 14 rfl (by kernel_rfl) (by kernel_rfl) (by kernel_rfl) rfl (fun _ h => hold_sub (by repeat (first | exact Frm.nil | exact Take.here | apply Take.there | apply Frm.cons)) h) (ev_assign rfl) ?_
    refine tr_done (by kernel_rfl) ?_
    refine te_code ?_
    refine t_seq ?_
    refine t_drawn_wo (A := powA) (by repeat (first | exact Take.here | apply Take.there)) follows ?_
    refine tr_q 0 rfl (by kernel_rfl) (by kernel_rfl) (by kernel_rfl) rfl (fun _ h => hold_sub (by repeat (first | exact Frm.nil | exact Take.here | apply Take.there | apply Frm.cons)) h) (ev_fieldAddr fa_45_1 rfl rfl) ?_
    refine tr_q 1 rfl (by kernel_rfl) (by kernel_rfl) (by kernel_rfl) rfl (fun _ h => hold_sub (by repeat (first | exact Frm.nil | exact Take.here | apply Take.there | apply Frm.cons)) h) (ev_fieldAddr fa_43_0 rfl rfl) ?_
    refine tr_q 2 rfl (by kernel_rfl) (by kernel_rfl) (by kernel_rfl) rfl (fun _ h => hold_sub (by repeat (first | exact Frm.nil | exact Take.here | apply Take.there | apply Frm.cons)) h) (ev_load sc_9 rfl (by first | (left; (repeat (first | exact List.Mem.head _ | apply List.Mem.tail)); done) | (right; (repeat (first | exact List.Mem.head _ | apply List.Mem.tail)); done)) rfl) ?_
    refine tr_q 4 rfl (by kernel_rfl) (by kernel_rfl) (by kernel_rfl) rfl (fun _ h => hold_sub (by repeat (first | exact Frm.nil | exact Take.here | apply Take.there | apply Frm.cons)) h) (ev_fieldAddr fa_45_1 rfl rfl) ?_
    refine tr_q 5 rfl (by kernel_rfl) (by kernel_rfl) (by kernel_rfl) rfl (fun _ h => hold_sub (by repeat (first | exact Frm.nil | exact Take.here | apply Take.there | apply Frm.cons)) h) (ev_fieldAddr fa_43_1 rfl rfl) ?_
    refine tr_q 6 rfl (by kernel_rfl) (by kernel_rfl) (by kernel_rfl) rfl (fun _ h => hold_sub (by repeat (first | exact Frm.nil | exact Take.here | apply Take.there | apply Frm.cons)) h) (ev_load sc_9 rfl (by first | (left; (repeat (first | exact List.Mem.head _ | apply List.Mem.tail)); done) | (right; (repeat (first | exact List.Mem.head _ | apply List.Mem.tail)); done)) rfl) ?_
    refine tr_q 8 rfl (by kernel_rfl) (by kernel_rfl) (by kernel_rfl) rfl (fun _ h => hold_sub (by repeat (first | exact Frm.nil | exact Take.here | apply Take.there | apply Frm.cons)) h) (ev_fieldAddr fa_45_1 rfl rfl) ?_
    refine tr_q 9 rfl (by kernel_rfl) (by kernel_rfl) (by kernel_rfl) rfl (fun _ h => hold_sub (by repeat (first | exact Frm.nil | exact Take.here | apply Take.there | apply Frm.cons)) h) (ev_fieldAddr fa_43_2 rfl rfl) ?_
    refine tr_q 10 rfl (by kernel_rfl) (by kernel_rfl) (by kernel_rfl) rfl (fun _ h => hold_sub (by repeat (first | exact Frm.nil | exact Take.here | apply Take.there | apply Frm.cons)) h) (ev_load sc_9 rfl (by first | (left; (repeat (first | exact List.Mem.head _ | apply List.Mem.tail)); done) | (right; (repeat (first | exact List.Mem.head _ | apply List.Mem.tail)); done)) rfl) ?_
    refine tr_q 12 rfl (by kernel_rfl) (by kernel_rfl) (by kernel_rfl) rfl (fun _ h => hold_sub (by repeat (first | exact Frm.nil | exact Take.here | apply Take.there | apply Frm.cons)) h) (ev_fieldAddr fa_45_1 rfl rfl) ?_
    refine tr_q 13 rfl (by kernel_rfl) (by kernel_rfl) (by kernel_rfl) rfl (fun _ h => hold_sub (by repeat (first | exact Frm.nil | exact Take.here | apply Take.there | apply Frm.cons)) h) (ev_fieldAddr fa_43_4 rfl rfl) ?_
    refine tr_q 14 rfl (by kernel_rfl) (by kernel_rfl) (by kernel_rfl) rfl (fun _ h => hold_sub (by repeat (first | exact Frm.nil | exact Take.here | apply Take.there | apply Frm.cons)) h) (ev_load sc_9 rfl (by first | (left; (repeat (first | exact List.Mem.head _ | apply List.Mem.tail)); done) | (right; (repeat (first | exact List.Mem.head _ | apply List.Mem.tail)); done)) rfl) ?_
    refine tr_e 3 rfl (by kernel_rfl) (eff_call rfl rfl body_29 rfl (by repeat (first | exact Frm.nil | exact Take.here | apply Take.there | apply Frm.cons)) (Quote_ct _ (by omega))) (by rintro _ _ ⟨_, _, ⟨rfl, rfl⟩, rfl, rfl⟩; exact (fun _ h => hold_sub (by repeat (first | exact Frm.nil | exact Take.here | apply Take.there | apply Frm.cons)) h)) ?_
    rintro _ _ ⟨v43, _, ⟨rfl, rfl⟩, rfl, rfl⟩
    refine tr_e 7 rfl (by kernel_rfl) (eff_call rfl rfl body_29 rfl (by repeat (first | exact Frm.nil | exact Take.here | apply Take.there | apply Frm.cons)) (Quote_ct _ (by omega))) (by rintro _ _ ⟨_, _, ⟨rfl, rfl⟩, rfl, rfl⟩; exact (fun _ h => hold_sub (by repeat (first | exact Frm.nil | exact Take.here | apply Take.there | apply Frm.cons)) h)) ?_
    rintro _ _ ⟨v47, _, ⟨rfl, rfl⟩, rfl, rfl⟩
    refine tr_e 11 rfl (by kernel_rfl) (eff_call rfl rfl body_29 rfl (by repeat (first | exact Frm.nil | exact Take.here | apply Take.there | apply Frm.cons)) (Quote_ct _ (by omega))) (by rintro _ _ ⟨_, _, ⟨rfl, rfl⟩, rfl, rfl⟩; exact (fun _ h => hold_sub (by repeat (first | exact Frm.nil | exact Take.here | apply Take.there | apply Frm.cons)) h)) ?_
    rintro _ _ ⟨v51, _, ⟨rfl, rfl⟩, rfl, rfl⟩
    refine tr_e 15 rfl (by kernel_rfl) (eff_call rfl rfl body_29 rfl (by repeat (first | exact Frm.nil | exact Take.here | apply Take.there | apply Frm.cons)) (Quote_ct _ (by omega))) (by rintro _ _ ⟨_, _, ⟨rfl, rfl⟩, rfl, rfl⟩; exact (fun _ h => hold_sub (by repeat (first | exact Frm.nil | exact Take.here | apply Take.there | apply Frm.cons)) h)) ?_
    rintro _ _ ⟨v55, _, ⟨rfl, rfl⟩, rfl, rfl⟩
    refine tr_e 16 rfl (by kernel_rfl) (eff_buildSl rfl bs_38_4 rfl (by repeat (first | exact FillR.nil | exact LPut.nil | apply LPut.cons | apply LPut.succ | apply FillR.cons rfl rfl rfl))) (by rintro _ _ ⟨_, rfl, rfl⟩; exact (fun _ h => hold_sub (by repeat (first | exact Frm.nil | exact Take.here | apply Take.there | apply Frm.cons)) h)) ?_
    rintro _ _ ⟨b56, rfl, rfl⟩
    refine tr_lit (T := 9) (sz := 1) (enc := encS) [quoteF r.e.node, quoteF r.e.cls, quoteF r.e.key, quoteF r.e.text] rfl rfl rfl ?_
    refine tr_q 17 rfl (by kernel_rfl) (by kernel_rfl) (by kernel_rfl) rfl (fun _ h => hold_sub (by repeat (first | exact Frm.nil | exact Take.here | apply Take.there | apply Frm.cons)) h) (ev_assign rfl) ?_
    refine tr_done (by kernel_rfl) ?_
    refine te_code ?_
    refine t_seq ?_
    refine t_region ?_
    refine tl_q rfl (ev_move rfl) ?_
    refine tl_q rfl (ev_move rfl) ?_
    refine tl_e (eff_buildSl rfl bs_161_2 rfl (by repeat (first | exact FillR.nil | exact LPut.nil | apply LPut.cons | apply LPut.succ | apply FillR.cons rfl rfl rfl))) ?_
    rintro _ _ ⟨b59, rfl, rfl⟩
    refine tl_lit (T := 38) (sz := 1) (enc := encV) [_, _] rfl rfl rfl ?_
    refine tl_e (eff_call rfl rfl body_31 rfl (by repeat (first | exact Frm.nil | exact Take.here | apply Take.there | apply Frm.cons)) (Concat_ct _ _ _ _ _ (by simp) (by simp))) ?_
    rintro _ _ ⟨v60, _, ⟨sv, rfl, rfl⟩, rfl, rfl⟩
    refine tl_e (eff_call rfl rfl body_30 rfl (by repeat (first | exact Frm.nil | exact Take.here | apply Take.there | apply Frm.cons)) (Join_ct _ _ _ (by simp) (by simp) (by have hq1 := quote_size r.e.node; have hq2 := quote_size r.e.cls; have hq3 := quote_size r.e.key; have hq4 := quote_size r.e.text; have hp1 := print_size r.first; have hp2 := print_size r.last; have hi1 := itoa_le r.id (by omega) (by omega); have hi2 := itoa_le r.e.level (by omega) (by omega); have hi3 := itoa_le r.tally (by omega) (by omega); exact Nat.le_trans (line_size _ _ _ _ _ _ _ _ _ _ (by omega) (by omega) (by omega) (by omega) (by omega) (by first | omega | (rw [size_l1]; omega)) (by omega) (by omega) (by omega) (by omega)) (by omega)))) ?_
    rintro _ _ ⟨v61, _, ⟨rfl, rfl⟩, rfl, rfl⟩
    refine tl_q rfl (ev_assign rfl) ?_
    refine tl_nil ?_
    refine te_code ?_
    refine t_ret ?_
    refine te_ret_k (pre := [powA, aheadI q]) (res1 rfl rfl) (by repeat (first | exact Frm.nil | exact Take.here | apply Take.there | apply Frm.cons)) ?_
    refine ⟨?_, rfl⟩
    first | (unfold lineF lineL; rw [if_pos h0]; done) | (unfold lineF lineL; rw [if_neg (by simp [h0])]; done)

end Go.SL
