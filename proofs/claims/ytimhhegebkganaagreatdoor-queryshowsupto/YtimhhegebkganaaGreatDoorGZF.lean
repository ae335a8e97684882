/- Contract of gonglaw30.works. -/
import Derived.Test.YtimhhegebkganaaGreatDoorProg
import Derived.Test.YtimhhegebkganaaGreatDoorGZE
set_option linter.unusedSimpArgs false
set_option linter.unusedVariables false
set_option maxRecDepth 4000
namespace Go.SL
open Go.Proofs

theorem info_4 : Tryz.prog.info? 4 = some Tryz.t4 := by kernel_rfl
theorem st_45 : StructIs Tryz.prog 45 (fun j => ([(0, 1), (1, 5), (6, 1), (7, 1), (8, 1), (9, 1), (10, 1)] : List (Nat × Nat))[j]?) [.int .i64 0, .string ⟨#[]⟩, .string ⟨#[]⟩, .string ⟨#[]⟩, .int .i64 0, .string ⟨#[]⟩, .int .i64 0, .int .i64 0, .int .i64 0, .bool false, .string ⟨#[]⟩] := structIs_of (ss := [1, 5, 1, 1, 1, 1, 1]) Tryz.underlying45 info_45 rfl (by kernel_rfl)
theorem bs_22_2 : SliceIs Tryz.prog 22 2 45 11 [.int .i64 0, .string ⟨#[]⟩, .string ⟨#[]⟩, .string ⟨#[]⟩, .int .i64 0, .string ⟨#[]⟩, .int .i64 0, .int .i64 0, .int .i64 0, .bool false, .string ⟨#[]⟩, .int .i64 0, .string ⟨#[]⟩, .string ⟨#[]⟩, .string ⟨#[]⟩, .int .i64 0, .string ⟨#[]⟩, .int .i64 0, .int .i64 0, .int .i64 0, .bool false, .string ⟨#[]⟩] := sliceIs_of Tryz.underlying22 info_45 rfl rfl (by decide) (by kernel_rfl)
theorem body_6 : (Tryz.prog.funcs[6]?).map (fun fn => fn.body.isSome && !(fn.name == "runtime.NumGoroutine")) = some true := by kernel_rfl
theorem body_9 : (Tryz.prog.funcs[9]?).map (fun fn => fn.body.isSome && !(fn.name == "runtime.NumGoroutine")) = some true := by kernel_rfl


theorem tl_ilit {α : Type} {X : Cx} {k : List Kt} {fr : Fr} {L M : List Asrt} {b n T sz : Nat} {enc : α → List Value} {l : List Value} (xs : List α) (hl : l = xs.flatMap enc) (hn : n = xs.length) {ops : Array Oper} {rest : List Oper} (ht : Take L (blk b (.cells l.toArray T (0, 0))) M)
    (h : TL X k ops fr (iarr sz enc (.slice (some ⟨b, 0, none⟩) n n) xs :: M) rest) : TL X k ops fr L rest := h.hold fun w hw => by
  have hh1 : Hold w (blk b (.cells l.toArray T (0, 0)) :: (M ++ X.F)) := by
    have := hw.perm (List.Perm.append_right X.F ht.perm)
    simpa using this
  obtain ⟨I, g, hi, hh, hd, h1, h2, j, p, s⟩ := hh1.freeze
  subst hl; subst hn
  exact ⟨I, g, hi, hh, hd, h1, h2, j, .inr ⟨b, 0, _, rfl, _, _, _, p, fun i _ => by simp⟩, s⟩
theorem rowsOf_snd (ks : List Row) : (rowsOf ks).map (·.2) = ks := by
  unfold rowsOf; rw [List.map_map]; exact List.map_id _
def exR1 : Row := ⟨1, ⟨⟨#[110]⟩, ⟨#[99]⟩, ⟨#[]⟩, 4, ⟨#[]⟩⟩, 1, 0, 0, false, ⟨#[]⟩⟩
def exR2 : Row := ⟨2, ⟨⟨#[109]⟩, ⟨#[99]⟩, ⟨#[]⟩, 3, ⟨#[]⟩⟩, 1, 0, 0, false, ⟨#[]⟩⟩
theorem itoa1 : itoaB 1 = ⟨#[49]⟩ := by
  rw [itoaB_mk, itoa_nat 1 (by omega), show (1 : Int).toNat = 1 from rfl, Lib.decDigits_one (by omega)]; rfl
theorem print0 : printF 0 = ⟨#[49, 57, 55, 48, 45, 48, 49, 45, 48, 49, 84, 48, 48, 58, 48, 48, 58, 48, 48, 90]⟩ := by
  rfl
theorem line_ex : lineF exR1 = ⟨#[49, 32, 52, 32, 49, 32, 49, 57, 55, 48, 45, 48, 49, 45, 48, 49, 84, 48, 48, 58, 48, 48, 58, 48, 48, 90, 32, 49, 57, 55, 48, 45, 48, 49, 45, 48, 49, 84, 48, 48, 58, 48, 48, 58, 48, 48, 90, 32, 45, 32, 34, 110, 34, 32, 34, 99, 34, 32, 34, 34, 32, 34, 34]⟩ := by
  unfold lineF lineL exR1
  simp only [itoa1, itoa4, print0]
  rfl
theorem good1 (n : UInt8) (h : 32 ≤ n.toNat ∧ n.toNat < 127) : goodS ⟨#[n]⟩ := fun u hu => by
  simp at hu; subst hu; exact h
theorem good0 : goodS ⟨#[]⟩ := fun u hu => by simp at hu
theorem ex_good1 : goodR exR1 := ⟨by decide, by decide, by decide, by decide, rfl, rfl, rfl, rfl, ⟨good1 _ (by decide), by decide, by decide⟩, ⟨good1 _ (by decide), by decide, by decide⟩, ⟨good0, by decide⟩, ⟨good0, by decide⟩, by decide, by decide⟩
theorem ex_good2 : goodR exR2 := ⟨by decide, by decide, by decide, by decide, rfl, rfl, rfl, rfl, ⟨good1 _ (by decide), by decide, by decide⟩, ⟨good1 _ (by decide), by decide, by decide⟩, ⟨good0, by decide⟩, ⟨good0, by decide⟩, by decide, by decide⟩
theorem ex_goodL : goodL [exR1, exR2] 1099511627776 40 := by
  refine ⟨fun r hr => ?_, by decide, by decide, by decide, by decide, by decide⟩
  simp at hr
  rcases hr with rfl | rfl
  · exact ⟨ex_good1, by decide⟩
  · exact ⟨ex_good2, by decide⟩
theorem ex_ok : ∀ r ∈ [exR1, exR2], okRow r ∧ intRow r := fun r hr => by
  simp at hr
  rcases hr with rfl | rfl
  · exact ⟨⟨by decide, by decide, by decide, by decide, by decide⟩, ⟨by decide, by decide⟩, ⟨by decide, by decide⟩, ⟨by decide, by decide⟩⟩
  · exact ⟨⟨by decide, by decide, by decide, by decide, by decide⟩, ⟨by decide, by decide⟩, ⟨by decide, by decide⟩, ⟨by decide, by decide⟩⟩

theorem works_ct (q : TypeId × (Nat × Nat)) : CTm false Tryz.prog 4 #[] [powA, aheadI q, varA 2 .i64] (fun v M => v = .bool true ∧ M = [powA, aheadI q, varA 2 .i64]) := by
  refine t_fun (vs := []) (n := 34) Tryz.func4 rfl Tryz.ntmps4 rfl fun w0 F => ?_
  refine t_seq ?_
  refine t_region ?_
  refine tl_q rfl (ev_assign rfl) ?_
  refine tl_nil ?_
  refine te_code ?_
  refine t_seq ?_
  refine t_region ?_
  refine tl_q rfl (ev_build st_43 rfl (by repeat (first | exact FillR.nil | exact LPut.nil | apply LPut.cons | apply LPut.succ | apply FillR.cons rfl rfl rfl))) ?_
  refine tl_q rfl (ev_build st_45 rfl (by repeat (first | exact FillR.nil | exact LPut.nil | apply LPut.cons | apply LPut.succ | apply FillR.cons rfl rfl rfl))) ?_
  refine tl_q rfl (ev_build st_43 rfl (by repeat (first | exact FillR.nil | exact LPut.nil | apply LPut.cons | apply LPut.succ | apply FillR.cons rfl rfl rfl))) ?_
  refine tl_q rfl (ev_build st_45 rfl (by repeat (first | exact FillR.nil | exact LPut.nil | apply LPut.cons | apply LPut.succ | apply FillR.cons rfl rfl rfl))) ?_
  refine tl_e (eff_buildSl rfl bs_22_2 rfl (by repeat (first | exact FillR.nil | exact LPut.nil | apply LPut.cons | apply LPut.succ | apply FillR.cons rfl rfl rfl))) ?_
  rintro _ _ ⟨b10, rfl, rfl⟩
  refine tl_ilit (sz := 11) (enc := encRow) [exR1, exR2] rfl rfl (by repeat (first | exact Take.here | apply Take.there)) ?_
  refine tl_e (eff_call rfl rfl body_6 rfl (by repeat (first | exact Frm.nil | exact Take.here | apply Take.there | apply Frm.cons)) (loaded_ct _ [exR1, exR2] (fun i r _ h => (ex_ok r (List.mem_of_getElem? h)).1) (by simp))) ?_
  rintro _ _ ⟨v11, _, ⟨sb, yb, eb, ob, bb, hh, hb, mo, m1, m2, m4, m5, last, refused, ls, next, ids, ks, rfl, rfl, hkl, hks, hla, hre, hls, hkg⟩, rfl, rfl⟩
  obtain rfl := hkg ex_goodL (by simp)
  refine tl_q rfl (ev_move rfl) ?_
  refine tl_q rfl (ev_extract rfl rfl) ?_
  refine tl_q rfl (ev_extract rfl rfl) ?_
  refine tl_q rfl (ev_assign rfl) ?_
  refine tl_q rfl (ev_assign rfl) ?_
  refine tl_nil ?_
  refine te_code ?_
  refine t_seq ?_
  refine t_seq ?_
  refine t_region ?_
  refine tl_q rfl (ev_move rfl) ?_
  refine tl_q rfl (ev_ptr_eql_nil Tryz.underlying25 rfl rfl) ?_
  refine tl_nil ?_
  refine te_code ?_
  refine t_cond_no rfl (by first | rfl | (simp; done) | (simp; omega) | simp_all) ?_
  refine t_skip ?_
  refine te_code ?_
  refine t_seq ?_
  refine t_region ?_
  refine tl_q rfl (ev_move rfl) ?_
  refine tl_e (eff_call rfl rfl body_9 rfl (by repeat (first | exact Frm.nil | exact Take.here | apply Take.there | apply Frm.cons)) (AskEx_ct exQ (by decide) words_ex q sb eb ob bb hh m1 m2 next (rowsOf [exR1, exR2]) (by simp [rowsOf]) (by rw [rowsOf_snd]; exact ex_ok) (by simp [rowsOf]))) ?_
  rintro _ _ ⟨v18, _, ⟨sv, ys, rfl, hp1, rfl⟩, rfl, rfl⟩
  obtain rfl : ys = [exR1] := List.perm_singleton.1 hp1
  simp only [List.map_cons, List.map_nil]
  refine tl_shape (enc := encS) (sz := 1) (v := sv) (xs := [lineF exR1]) (by first | exact HasArr.own (by repeat (first | exact List.Mem.head _ | apply List.Mem.tail)) | exact HasArr.sh (by repeat (first | exact List.Mem.head _ | apply List.Mem.tail))) (by intro _; rfl) (fun hsh => ?_)
  simp only [List.length_cons, List.length_nil] at hsh
  refine tl_q rfl (ev_move rfl) ?_
  refine tl_q rfl (ev_extract rfl rfl) ?_
  refine tl_q rfl (ev_extract rfl rfl) ?_
  refine tl_q rfl (ev_assign rfl) ?_
  refine tl_q rfl (ev_assign rfl) ?_
  refine tl_nil ?_
  refine te_code ?_
  refine t_seq ?_
  refine t_region ?_
  refine tl_q rfl (ev_move rfl) ?_
  refine tl_q rfl (ev_eql rfl rfl) ?_
  refine tl_q rfl (ev_move rfl) ?_
  refine tl_split_dec 23 rfl (fun g5_2 => ?_) (fun g5_2 => ?_)
  · refine tl_guard rfl rfl rfl ?_
    refine tl_q rfl (ev_move rfl) ?_
    refine tl_guard rfl rfl rfl ?_
    refine tl_q rfl (ev_len_sh sl_38 rfl (by assumption)) ?_
    refine tl_guard rfl rfl rfl ?_
    refine tl_q rfl (ev_eql rfl rfl) ?_
    refine tl_q rfl (ev_pick_true rfl rfl) ?_
    refine tl_q rfl (ev_move rfl) ?_
    refine tl_split_dec 28 rfl (fun g5_7 => ?_) (fun g5_7 => ?_)
    · refine tl_guard rfl rfl rfl ?_
      refine tl_q rfl (ev_move rfl) ?_
      refine tl_guard rfl rfl rfl ?_
      refine tl_q rfl (ev_at_int sl_38 rfl rfl (by assumption) (by omega) (by omega)) ?_
      refine tl_guard rfl rfl rfl ?_
      refine tl_q rfl (ev_load_at0 sc_9 rfl (by first | exact HasArr.own (by repeat (first | exact List.Mem.head _ | apply List.Mem.tail)) | exact HasArr.sh (by repeat (first | exact List.Mem.head _ | apply List.Mem.tail))) (by intro _; rfl) (by rfl) (by rfl)) ?_
      refine tl_guard rfl rfl rfl ?_
      refine tl_q rfl (ev_seql rfl rfl) ?_
      refine tl_q rfl (ev_pick_true rfl rfl) ?_
      refine tl_q rfl (ev_assign rfl) ?_
      refine tl_nil ?_
      refine te_code ?_
      refine t_ret ?_
      refine te_ret_k (pre := [powA, aheadI q, varA 2 .i64]) (res1 rfl rfl) (by repeat (first | exact Frm.nil | exact Take.here | apply Take.there | apply Frm.cons)) ?_
      refine ⟨?_, rfl⟩
      first | (exfalso; simp at *; done) | rw [decide_eq_true line_ex]
    · refine tl_guard_no rfl rfl rfl rfl ?_
      refine tl_guard_no rfl rfl rfl rfl ?_
      refine tl_guard_no rfl rfl rfl rfl ?_
      refine tl_guard_no rfl rfl rfl rfl ?_
      refine tl_q rfl (ev_pick_false rfl rfl) ?_
      refine tl_q rfl (ev_assign rfl) ?_
      refine tl_nil ?_
      refine te_code ?_
      refine t_ret ?_
      refine te_ret_k (pre := [powA, aheadI q, varA 2 .i64]) (res1 rfl rfl) (by repeat (first | exact Frm.nil | exact Take.here | apply Take.there | apply Frm.cons)) ?_
      refine ⟨?_, rfl⟩
      first | (exfalso; simp at *; done) | rw [decide_eq_true line_ex]
  · refine tl_guard_no rfl rfl rfl rfl ?_
    refine tl_guard_no rfl rfl rfl rfl ?_
    refine tl_guard_no rfl rfl rfl rfl ?_
    refine tl_q rfl (ev_pick_false rfl rfl) ?_
    refine tl_q rfl (ev_move rfl) ?_
    refine tl_guard_no rfl rfl rfl rfl ?_
    refine tl_guard_no rfl rfl rfl rfl ?_
    refine tl_guard_no rfl rfl rfl rfl ?_
    refine tl_guard_no rfl rfl rfl rfl ?_
    refine tl_q rfl (ev_pick_false rfl rfl) ?_
    refine tl_q rfl (ev_assign rfl) ?_
    refine tl_nil ?_
    refine te_code ?_
    refine t_ret ?_
    refine te_ret_k (pre := [powA, aheadI q, varA 2 .i64]) (res1 rfl rfl) (by repeat (first | exact Frm.nil | exact Take.here | apply Take.there | apply Frm.cons)) ?_
    refine ⟨?_, rfl⟩
    first | (exfalso; simp at *; done) | rw [decide_eq_true line_ex]

end Go.SL
