/- Contract of gonglaw30.QueryShows. -/
import Derived.Test.YtimhhegebkganaaGreatDoorProg
import Derived.Test.YtimhhegebkganaaGreatDoorGZF
set_option linter.unusedSimpArgs false
set_option linter.unusedVariables false
set_option maxRecDepth 4000
namespace Go.SL
open Go.Proofs

theorem body_4 : (Tryz.prog.funcs[4]?).map (fun fn => fn.body.isSome && !(fn.name == "runtime.NumGoroutine")) = some true := by kernel_rfl
theorem body_5 : (Tryz.prog.funcs[5]?).map (fun fn => fn.body.isSome && !(fn.name == "runtime.NumGoroutine")) = some true := by kernel_rfl
theorem body_12 : (Tryz.prog.funcs[12]?).map (fun fn => fn.body.isSome && !(fn.name == "runtime.NumGoroutine")) = some true := by kernel_rfl
theorem body_14 : (Tryz.prog.funcs[14]?).map (fun fn => fn.body.isSome && !(fn.name == "runtime.NumGoroutine")) = some true := by kernel_rfl


theorem run_equal_bool (a b : Bool) (w : World) : (Op.equal 4 (.bool a) (.bool b)).run Tryz.prog w = .ok (decide (a = b)) w := by
  have hu := run_underlying Tryz.underlying4 w
  unfold Op.equal Op.maxDepth
  rw [show (10000 : Nat) = 9999 + 1 from rfl]
  unfold Op.equalIn
  cases a <;> cases b <;> simp [hu]
theorem ev_beql {X : Cx} (hP : X.P = Tryz.prog) {fr : Fr} {L : List Asrt} {dst : Option Nat} {ty yt : TypeId} {pos : String} {af : Array Edge} {x y : Operand} {a b : Bool} (hx : ev fr x = some (.bool a)) (hy : ev fr y = some (.bool b)) :
    Ev X fr L ⟨dst, .binOp .eql 4 x y yt, ty, pos, af, none⟩ (.bool (decide (a = b))) := fun r w ha _ => by
  have hg : ∀ c d, (eqGuard .eql 4 c d (.bool a) (.bool b)).run X.P w = .ok () w := fun c d => by unfold eqGuard; simp
  have h := run_equal_bool a b w
  rw [← hP] at h
  simp [execOp, ha.ev hx, ha.ev hy, hg, binOp, h]
theorem Hold.drop1 {w : World} {A : Asrt} {L : List Asrt} (h : Hold w (A :: L)) : Hold w L := Hold.drop h
theorem AskShow_ct (s : ByteArray) (hs : s.size ≤ 1000000) (n : Int) (h0 : 0 ≤ n) (h1 : n < 1000000000000000000) (hw : wordsF s = [(⟨#[115, 104, 111, 119]⟩ : ByteArray), itoaB n]) (q : TypeId × (Nat × Nat)) (sb eb ob bb hh m1 m2 : Nat) (next : Int) (rows : List (Int × Row)) (hr : ∀ r, alook rows n = some r → okRow r ∧ intRow r) :
    CTm false Tryz.prog 9 #[.pointer (some ⟨sb, 0, none⟩), .string s] [stB sb eb ob, engB eb bb hh, boardB bb m1 m2 40 next, mp iI rowV m1 rows, powA, aheadI q, varA 2 .i64] (fun v M => ∃ u e, v = .tuple #[u, .int .i64 e] ∧ e = (if (alook rows n).isSome = true then 0 else 5) ∧ M = [stB sb eb ob, engB eb bb hh, boardB bb m1 m2 40 next, mp iI rowV m1 rows, powA, aheadI q, varA 2 .i64]) := by
  cases hf : alook rows n with
  | none => exact CTm.weaken (AskShowN_ct s hs n h0 h1 hw q sb eb ob bb hh m1 m2 next rows hf) fun v M ⟨h2, h3⟩ => ⟨_, _, h2, rfl, h3⟩
  | some r =>
    refine CTm.conv (AskShowF_ct s hs n h0 h1 hw q sb eb ob bb hh m1 m2 next rows r hf (hr r hf)) (fun w F hw => hw) fun v M ⟨sv, h2, h3⟩ => ?_
    subst h3
    exact ⟨_, ⟨_, _, h2, rfl, rfl⟩, fun w F hw => Hold.drop hw⟩
theorem e9_no {th : Bool} {e : Int} (he : e = if th = true then 0 else 5) (h6 : th = false) (h11 : ¬ e = 5) : False := by subst h6; simp at he; exact h11 he
theorem e9_no2 {th : Bool} {e : Int} (he : e = if th = true then 0 else 5) (h4 : ¬ decide (e = 0) = th) : False := by subst he; cases th <;> simp at h4
theorem rows_ids {ks : List Row} (h : ((rowsOf ks).map (·.1)).Nodup) : (ks.map (·.id)).Nodup := by
  have e : (rowsOf ks).map (·.1) = ks.map (·.id) := by unfold rowsOf; rw [List.map_map]; rfl
  rwa [e] at h
theorem rows_look : ∀ {ks : List Row} {r : Row}, (ks.map (·.id)).Nodup → r ∈ ks → alook (rowsOf ks) r.id = some r
  | [], _, _, h => by simp at h
  | k :: ks, r, hn, h => by
    simp only [List.map_cons, List.nodup_cons] at hn
    simp only [rowsOf, List.map_cons, alook]
    by_cases e : k.id = r.id
    · rw [if_pos e]
      rcases List.mem_cons.1 h with h | h
      · rw [h]
      · exact absurd (e ▸ List.mem_map_of_mem (f := (·.id)) h) hn.1
    · rw [if_neg e]
      rcases List.mem_cons.1 h with h | h
      · exact absurd (by rw [h]) e
      · exact rows_look hn.2 h
theorem rows_mem : ∀ {ks : List Row} {n : Int} {r : Row}, alook (rowsOf ks) n = some r → r ∈ ks
  | [], _, _, h => by simp [rowsOf, alook] at h
  | k :: ks, n, r, h => by
    simp only [rowsOf, List.map_cons, alook] at h
    split at h
    · cases h; exact List.mem_cons_self ..
    · exact List.mem_cons_of_mem _ (rows_mem h)

set_option maxHeartbeats 400000
theorem QueryShows_ct (q : TypeId × (Nat × Nat)) (rv : Value) (xs : List Row) (id : Int) (hx : ∀ r ∈ xs, bigRow r ∧ intRow r) (hl : xs.length ≤ 2000000) : CTm false Tryz.prog 3 #[rv, .int .i64 id] [iarr 11 encRow rv xs, powA, aheadI q, varA 2 .i64] (fun v M => v = .bool true) := by
  refine t_fun (vs := [rv, .int .i64 id]) (n := 157) Tryz.func3 rfl Tryz.ntmps3 rfl fun w0 F => ?_
  refine t_seq ?_
  refine t_region ?_
  refine tl_q rfl (ev_assign rfl) ?_
  refine tl_nil ?_
  refine te_code ?_
  refine t_seq ?_
  refine t_seq ?_
  refine t_region ?_
  refine tl_e (eff_call rfl rfl body_4 rfl (by repeat (first | exact Frm.nil | exact Take.here | apply Take.there | apply Frm.cons)) (works_ct q)) ?_
  rintro _ _ ⟨v18, _, ⟨rfl, rfl⟩, rfl, rfl⟩
  refine tl_q rfl (ev_not rfl) ?_
  refine tl_nil ?_
  refine te_code ?_
  refine t_cond_no rfl (by first | rfl | (simp; done) | (simp; omega) | simp_all) ?_
  refine t_skip ?_
  refine te_code ?_
  refine t_seq ?_
  refine t_seq ?_
  refine t_region ?_
  refine tl_q rfl (ev_move rfl) ?_
  refine tl_e (eff_call rfl rfl body_5 rfl (by repeat (first | exact Frm.nil | exact Take.here | apply Take.there | apply Frm.cons)) (short_ct rv xs (fun r hr => (hx r hr).1) hl)) ?_
  rintro _ _ ⟨v21, _, ⟨b, rfl, rfl, hsb⟩, rfl, rfl⟩
  refine tl_q rfl (ev_not rfl) ?_
  refine tl_nil ?_
  refine te_code ?_
  refine t_cond rfl (fun hb => ?_) (fun hb => ?_)
  · refine t_seq ?_
    refine t_region ?_
    refine tl_q rfl (ev_assign rfl) ?_
    refine tl_nil ?_
    refine te_code ?_
    refine t_ret ?_
    refine te_ret_k (pre := []) (res1 rfl rfl) (by repeat (first | exact Frm.nil | exact Take.here | apply Take.there | apply Frm.cons)) ?_
    show Value.bool _ = Value.bool true
    first | rfl | (rw [hx1]; rfl) | (exfalso; rw [hm1] at g23_23; simp at g23_23; done) | (exfalso; rw [hm2] at g23_34; simp at g23_34; done) | (exfalso; simp at g23_15; done) | exact (e9_no he9 g23_6 g23_11).elim | exact (e9_no2 he9 g23_4).elim
  · have hok := hsb (by simpa using hb)
    refine t_skip ?_
    refine te_code ?_
    refine t_seq ?_
    refine t_region ?_
    refine tl_q rfl (ev_move rfl) ?_
    refine tl_e (eff_call rfl rfl body_6 rfl (by repeat (first | exact Frm.nil | exact Take.here | apply Take.there | apply Frm.cons)) (loaded_ct rv xs hok hl)) ?_
    rintro _ _ ⟨v25, _, ⟨sb, yb, eb, ob, bb, hh, hb, mo, m1, m2, m4, m5, last, refused, ls, next, ids, ks, rfl, rfl, hkl, hks, hla, hre, hls, hkg⟩, rfl, rfl⟩
    have hrl : (rowsOf ks).length = ks.length := (by simp [rowsOf])
    have hall : ∀ r ∈ (rowsOf ks).map (·.2), okRow r ∧ intRow r := (by rw [rowsOf_snd]; exact fun r hr => ⟨(hks r hr).1, (hx r (hks r hr).2.1).2⟩)
    refine tl_q rfl (ev_move rfl) ?_
    refine tl_q rfl (ev_extract rfl rfl) ?_
    refine tl_q rfl (ev_extract rfl rfl) ?_
    refine tl_q rfl (ev_assign rfl) ?_
    refine tl_q rfl (ev_assign rfl) ?_
    refine tl_nil ?_
    refine te_code ?_
    refine t_seq ?_
    refine t_seq ?_
    refine t_region ?_
    refine tl_q rfl (ev_move rfl) ?_
    refine tl_q rfl (ev_ptr_eql_nil Tryz.underlying25 rfl rfl) ?_
    refine tl_nil ?_
    refine te_code ?_
    refine t_cond_no rfl (by first | rfl | (simp; done) | (simp; omega) | simp_all) ?_
    refine t_skip ?_
    refine te_code ?_
    refine t_seq ?_
    refine t_region ?_
    refine tl_q rfl (ev_move rfl) ?_
    refine tl_q rfl (ev_nil_ptr rfl) ?_
    refine tl_q rfl (ev_fieldAddr fa_35_0 rfl rfl) ?_
    refine tl_q rfl (ev_load sc_30 rfl (by first | (left; (repeat (first | exact List.Mem.head _ | apply List.Mem.tail)); done) | (right; (repeat (first | exact List.Mem.head _ | apply List.Mem.tail)); done)) rfl) ?_
    refine tl_e (eff_call rfl rfl body_7 rfl (by repeat (first | exact Frm.nil | exact Take.here | apply Take.there | apply Frm.cons)) (eng_Board_ct _ _ _)) ?_
    rintro _ _ ⟨v34, _, ⟨rfl, rfl⟩, rfl, rfl⟩
    refine tl_e (eff_call rfl rfl body_8 rfl (by repeat (first | exact Frm.nil | exact Take.here | apply Take.there | apply Frm.cons)) (All_ct bb m1 m2 40 next (rowsOf ks) (by omega))) ?_
    rintro _ _ ⟨v35, _, ⟨ys, hys1, hys2, rfl⟩, rfl, rfl⟩
    rw [rowsOf_snd] at hys1
    refine tl_q rfl (ev_assign rfl) ?_
    refine tl_nil ?_
    refine te_code ?_
    refine t_seq ?_
    refine t_region ?_
    refine tl_q rfl (ev_move rfl) ?_
    refine tl_e (eff_call rfl rfl body_9 rfl (by repeat (first | exact Frm.nil | exact Take.here | apply Take.there | apply Frm.cons)) (AskList_ct ⟨#[108, 105, 115, 116]⟩ (by decide) words_list q sb eb ob bb hh m1 m2 next (rowsOf ks) (by omega) hall)) ?_
    rintro _ _ ⟨_, _, ⟨sv, zs, rfl, hp1, hp2, rfl⟩, rfl, rfl⟩
    rw [rowsOf_snd] at hp1
    refine tl_q rfl (ev_move rfl) ?_
    refine tl_q rfl (ev_extract rfl rfl) ?_
    refine tl_q rfl (ev_extract rfl rfl) ?_
    refine tl_q rfl (ev_assign rfl) ?_
    refine tl_q rfl (ev_assign rfl) ?_
    refine tl_nil ?_
    refine te_code ?_
    refine t_seq ?_
    refine t_seq ?_
    refine t_region ?_
    refine tl_q rfl (ev_move rfl) ?_
    refine tl_q rfl (ev_neq rfl rfl) ?_
    refine tl_q rfl (ev_move rfl) ?_
    refine tl_is 43 (c := false) rfl (by first | rfl | (simp; done) | (simp; omega) | simp_all) ?_
    refine tl_guard rfl rfl rfl ?_
    refine tl_q rfl (ev_move rfl) ?_
    refine tl_guard rfl rfl rfl ?_
    refine tl_q rfl (ev_len_arr sl_38 rfl (by first | exact HasArr.own (by repeat (first | exact List.Mem.head _ | apply List.Mem.tail)) | exact HasArr.sh (by repeat (first | exact List.Mem.head _ | apply List.Mem.tail))) (by intro _; rfl)) ?_
    refine tl_guard rfl rfl rfl ?_
    refine tl_q rfl (ev_move rfl) ?_
    refine tl_guard rfl rfl rfl ?_
    refine tl_q rfl (ev_len_arr sl_22 rfl (by first | exact HasArr.own (by repeat (first | exact List.Mem.head _ | apply List.Mem.tail)) | exact HasArr.sh (by repeat (first | exact List.Mem.head _ | apply List.Mem.tail))) (by intro _; rfl)) ?_
    refine tl_guard rfl rfl rfl ?_
    refine tl_q rfl (ev_neq rfl rfl) ?_
    refine tl_q rfl (ev_pick_false rfl rfl) ?_
    refine tl_nil ?_
    refine te_code ?_
    refine t_cond_dec rfl (fun h3 => ?_) (fun h3 => ?_)
    · exact absurd (by simp [hp1.length_eq, hys1.length_eq]) h3
    · refine t_nodup (al := rowsOf ks) (b := m1) (by repeat (first | exact List.Mem.head _ | apply List.Mem.tail)) (fun hnd => ?_)
      replace hnd := rows_ids hnd
      obtain rfl : zs = ys := sorted_eq (hp1.trans hys1.symm) hp2 hys2 ((hp1.map _).nodup_iff.2 hnd)
      have hzl : zs.length = ks.length := hp1.length_eq
      refine t_shape (v := v35) (xs := zs) (enc := encRow) (sz := 11) (by first | exact HasArr.own (by repeat (first | exact List.Mem.head _ | apply List.Mem.tail)) | exact HasArr.sh (by repeat (first | exact List.Mem.head _ | apply List.Mem.tail))) (by intro _; rfl) (fun hsh1 => ?_)
      refine t_shape (v := sv) (xs := zs.map lineF) (enc := encS) (sz := 1) (by first | exact HasArr.own (by repeat (first | exact List.Mem.head _ | apply List.Mem.tail)) | exact HasArr.sh (by repeat (first | exact List.Mem.head _ | apply List.Mem.tail))) (by intro _; rfl) (fun hsh2 => ?_)
      rw [List.length_map] at hsh2
      refine t_skip ?_
      refine te_code ?_
      refine t_seq ?_
      refine t_seq ?_
      refine t_region ?_
      refine tl_q rfl (ev_move rfl) ?_
      refine tl_q rfl (ev_len_sh sl_22 rfl (by assumption)) ?_
      refine tl_q rfl (ev_move rfl) ?_
      refine tl_nil ?_
      refine te_code ?_
      refine t_block ?_
      refine t_loop (α := Nat) (fun i => [(52, .int .i64 (i : Int)), (51, .int .i64 (zs.length : Int)), (50, v35), (5, .pointer (some ⟨sb, 0, none⟩)), (8, sv), (7, v35), (1, .int .i64 id)]) (fun _ => [arr 9 1 encS sv (zs.map lineF), arr 45 11 encRow v35 zs, stB sb eb ob, engB eb bb hh, boardB bb m1 m2 40 next, mp iI rowV m1 (rowsOf ks), boxB ob mo last refused, mp iI letV mo ls, holdB hh hb m4 m5, mp iI (fun x : Value => x) m4 [], powA, aheadI q, varA 2 .i64]) (fun i => zs.length - i) (fun i => i ≤ zs.length) 0 (by omega) (by exact sub_cons rfl (sub_cons rfl (sub_cons rfl (sub_cons rfl (sub_cons rfl (sub_cons rfl (sub_cons rfl (sub_nil)))))))) (fun _ h => hold_keep (by repeat (first | exact Frm.nil | exact Take.here | apply Take.there | apply Frm.cons)) h) ?_
      rintro i hi
      try dsimp only
      refine t_seq ?_
      refine t_region ?_
      refine tl_q rfl (ev_lss rfl rfl) ?_
      refine tl_nil ?_
      refine te_code ?_
      refine t_seq ?_
      refine t_cond_dec rfl (fun h4 => ?_) (fun h4 => ?_)
      · obtain ⟨r, hr⟩ := get_ex (show (i : Int) < zs.length by omega)
        have hrm : r ∈ ks := hp1.mem_iff.1 (List.mem_of_getElem? hr)
        have hrb := hks r hrm
        have hrok : okRow r ∧ intRow r := hall r (by rw [rowsOf_snd]; exact hrm)
        have hline : (zs.map lineF)[i]? = some (lineF r) := (by rw [List.getElem?_map, hr]; rfl)
        have hsz := itoaB_18 r.id (by omega) (by omega)
        refine t_skip ?_
        refine te_code ?_
        refine t_seq ?_
        refine t_block ?_
        refine t_seq ?_
        refine t_region ?_
        refine tl_q rfl (ev_move rfl) ?_
        refine tl_q rfl (ev_at_sh sl_22 rfl rfl (by assumption) (by omega)) ?_
        refine tl_q rfl (ev_load_at_agg ag_45 rfl (by first | exact HasArr.own (by repeat (first | exact List.Mem.head _ | apply List.Mem.tail)) | exact HasArr.sh (by repeat (first | exact List.Mem.head _ | apply List.Mem.tail))) (by intro _; rfl) (by assumption) (by rfl)) ?_
        refine tl_e (eff_alloc rfl zero_45 rfl) ?_
        rintro _ _ ⟨b11, rfl, rfl⟩
        refine tl_q rfl (ev_assign rfl) ?_
        refine tl_e (eff_store rfl rfl rfl rfl sz_45 (by first | (simp [Flat]; done) | exact flatS _ | exact flatB _ | exact flatTick _ | exact flatRow _ | exact flatEvt _ | exact flatI _) (by repeat (first | exact Upd.here | apply Upd.there)) (by repeat (first | exact LPut.nil | apply LPut.cons | apply LPut.succ))) ?_
        rintro _ _ ⟨rfl, rfl⟩
        refine tl_nil ?_
        refine te_code ?_
        refine t_seq ?_
        refine t_region ?_
        refine tl_q rfl (ev_move rfl) ?_
        refine tl_q rfl (ev_fieldAddr fa_45_0 rfl rfl) ?_
        refine tl_q rfl (ev_load sc_3 rfl (by first | (left; (repeat (first | exact List.Mem.head _ | apply List.Mem.tail)); done) | (right; (repeat (first | exact List.Mem.head _ | apply List.Mem.tail)); done)) rfl) ?_
        refine tl_e (eff_call rfl rfl body_10 rfl (by repeat (first | exact Frm.nil | exact Take.here | apply Take.there | apply Frm.cons)) (Itoa_ct r.id (by omega) (by omega))) ?_
        rintro _ _ ⟨_, _, ⟨rfl, rfl⟩, rfl, rfl⟩
        refine tl_q rfl (ev_sadd rfl rfl (by show 5 + _ ≤ _; omega)) ?_
        refine tl_e (eff_call rfl rfl body_9 rfl (by repeat (first | exact Frm.nil | exact Take.here | apply Take.there | apply Frm.cons)) (AskShowF_ct ((⟨#[115, 104, 111, 119, 32]⟩ : ByteArray) ++ itoaB r.id) (by rw [ByteArray.size_append]; show 5 + _ ≤ _; omega) r.id (by omega) (by omega) (words_show r.id (by omega)) q sb eb ob bb hh m1 m2 next (rowsOf ks) r (rows_look hnd hrm) hrok)) ?_
        rintro _ _ ⟨_, _, ⟨sv2, rfl, rfl⟩, rfl, rfl⟩
        refine tl_shape (v := sv2) (xs := [lineF r]) (enc := encS) (sz := 1) (by first | exact HasArr.own (by repeat (first | exact List.Mem.head _ | apply List.Mem.tail)) | exact HasArr.sh (by repeat (first | exact List.Mem.head _ | apply List.Mem.tail))) (by intro _; rfl) (fun hsh3 => ?_)
        simp only [List.length_cons, List.length_nil] at hsh3
        refine tl_q rfl (ev_move rfl) ?_
        refine tl_q rfl (ev_extract rfl rfl) ?_
        refine tl_q rfl (ev_extract rfl rfl) ?_
        refine tl_q rfl (ev_assign rfl) ?_
        refine tl_q rfl (ev_assign rfl) ?_
        refine tl_nil ?_
        refine te_code ?_
        refine t_seq ?_
        refine t_drawn_frm (pre := [powA, aheadI q]) (by repeat (first | exact Frm.nil | exact Take.here | apply Take.there | apply Frm.cons)) follows ?_
        refine tr_q 0 rfl (by kernel_rfl) (by kernel_rfl) (by kernel_rfl) rfl (fun _ h => hold_sub (by repeat (first | exact Frm.nil | exact Take.here | apply Take.there | apply Frm.cons)) h) (ev_move rfl) ?_
        refine tr_q 1 rfl (by kernel_rfl) (by kernel_rfl) (by kernel_rfl) rfl (fun _ h => hold_sub (by repeat (first | exact Frm.nil | exact Take.here | apply Take.there | apply Frm.cons)) h) (ev_neq rfl rfl) ?_
        refine tr_q 2 rfl (by kernel_rfl) (by kernel_rfl) (by kernel_rfl) rfl (fun _ h => hold_sub (by repeat (first | exact Frm.nil | exact Take.here | apply Take.there | apply Frm.cons)) h) (ev_move rfl) ?_
        refine tr_is 68 (c := false) rfl (by first | rfl | (simp; done) | (simp; omega) | simp_all) ?_
        refine tr_qg 3 rfl (by kernel_rfl) (by kernel_rfl) (by kernel_rfl) rfl rfl rfl rfl (fun _ h => hold_sub (by repeat (first | exact Frm.nil | exact Take.here | apply Take.there | apply Frm.cons)) h) (ev_move rfl) ?_
        refine tr_qg 4 rfl (by kernel_rfl) (by kernel_rfl) (by kernel_rfl) rfl rfl rfl rfl (fun _ h => hold_sub (by repeat (first | exact Frm.nil | exact Take.here | apply Take.there | apply Frm.cons)) h) (ev_len_sh sl_38 rfl (by assumption)) ?_
        refine tr_qg 5 rfl (by kernel_rfl) (by kernel_rfl) (by kernel_rfl) rfl rfl rfl rfl (fun _ h => hold_sub (by repeat (first | exact Frm.nil | exact Take.here | apply Take.there | apply Frm.cons)) h) (ev_neq rfl rfl) ?_
        refine tr_q 6 rfl (by kernel_rfl) (by kernel_rfl) (by kernel_rfl) rfl (fun _ h => hold_sub (by repeat (first | exact Frm.nil | exact Take.here | apply Take.there | apply Frm.cons)) h) (ev_pick_false rfl rfl) ?_
        refine tr_q 7 rfl (by kernel_rfl) (by kernel_rfl) (by kernel_rfl) rfl (fun _ h => hold_sub (by repeat (first | exact Frm.nil | exact Take.here | apply Take.there | apply Frm.cons)) h) (ev_move rfl) ?_
        refine tr_is 73 (c := false) rfl (by first | rfl | (simp; done) | (simp; omega) | simp_all) ?_
        refine tr_qg 8 rfl (by kernel_rfl) (by kernel_rfl) (by kernel_rfl) rfl rfl rfl rfl (fun _ h => hold_sub (by repeat (first | exact Frm.nil | exact Take.here | apply Take.there | apply Frm.cons)) h) (ev_move rfl) ?_
        refine tr_qg 9 rfl (by kernel_rfl) (by kernel_rfl) (by kernel_rfl) rfl rfl rfl rfl (fun _ h => hold_sub (by repeat (first | exact Frm.nil | exact Take.here | apply Take.there | apply Frm.cons)) h) (ev_at_int sl_38 rfl rfl (by assumption) (by omega) (by omega)) ?_
        refine tr_qg 10 rfl (by kernel_rfl) (by kernel_rfl) (by kernel_rfl) rfl rfl rfl rfl (fun _ h => hold_sub (by repeat (first | exact Frm.nil | exact Take.here | apply Take.there | apply Frm.cons)) h) (ev_load_at0 sc_9 rfl (by first | exact HasArr.own (by repeat (first | exact List.Mem.head _ | apply List.Mem.tail)) | exact HasArr.sh (by repeat (first | exact List.Mem.head _ | apply List.Mem.tail))) (by intro _; rfl) (by rfl) (by rfl)) ?_
        refine tr_qg 11 rfl (by kernel_rfl) (by kernel_rfl) (by kernel_rfl) rfl rfl rfl rfl (fun _ h => hold_sub (by repeat (first | exact Frm.nil | exact Take.here | apply Take.there | apply Frm.cons)) h) (ev_move rfl) ?_
        refine tr_qg 12 rfl (by kernel_rfl) (by kernel_rfl) (by kernel_rfl) rfl rfl rfl rfl (fun _ h => hold_sub (by repeat (first | exact Frm.nil | exact Take.here | apply Take.there | apply Frm.cons)) h) (ev_move rfl) ?_
        refine tr_qg 13 rfl (by kernel_rfl) (by kernel_rfl) (by kernel_rfl) rfl rfl rfl rfl (fun _ h => hold_sub (by repeat (first | exact Frm.nil | exact Take.here | apply Take.there | apply Frm.cons)) h) (ev_at_sh sl_38 rfl rfl (by assumption) (by omega)) ?_
        refine tr_qg 14 rfl (by kernel_rfl) (by kernel_rfl) (by kernel_rfl) rfl rfl rfl rfl (fun _ h => hold_sub (by repeat (first | exact Frm.nil | exact Take.here | apply Take.there | apply Frm.cons)) h) (ev_load_at0 sc_9 rfl (by first | exact HasArr.own (by repeat (first | exact List.Mem.head _ | apply List.Mem.tail)) | exact HasArr.sh (by repeat (first | exact List.Mem.head _ | apply List.Mem.tail))) (by intro _; rfl) hline (by rfl)) ?_
        refine tr_qg 15 rfl (by kernel_rfl) (by kernel_rfl) (by kernel_rfl) rfl rfl rfl rfl (fun _ h => hold_sub (by repeat (first | exact Frm.nil | exact Take.here | apply Take.there | apply Frm.cons)) h) (ev_sneq rfl rfl) ?_
        refine tr_q 16 rfl (by kernel_rfl) (by kernel_rfl) (by kernel_rfl) rfl (fun _ h => hold_sub (by repeat (first | exact Frm.nil | exact Take.here | apply Take.there | apply Frm.cons)) h) (ev_pick_false rfl rfl) ?_
        refine tr_q 17 rfl (by kernel_rfl) (by kernel_rfl) (by kernel_rfl) rfl (fun _ h => hold_sub (by repeat (first | exact Frm.nil | exact Take.here | apply Take.there | apply Frm.cons)) h) (ev_move rfl) ?_
        refine tr_is 83 (c := false) rfl (by first | rfl | (simp; done) | (simp; omega) | simp_all) ?_
        refine tr_qg 18 rfl (by kernel_rfl) (by kernel_rfl) (by kernel_rfl) rfl rfl rfl rfl (fun _ h => hold_sub (by repeat (first | exact Frm.nil | exact Take.here | apply Take.there | apply Frm.cons)) h) (ev_move rfl) ?_
        refine tr_qg 19 rfl (by kernel_rfl) (by kernel_rfl) (by kernel_rfl) rfl rfl rfl rfl (fun _ h => hold_sub (by repeat (first | exact Frm.nil | exact Take.here | apply Take.there | apply Frm.cons)) h) (ev_at_int sl_38 rfl rfl (by assumption) (by omega) (by omega)) ?_
        refine tr_qg 20 rfl (by kernel_rfl) (by kernel_rfl) (by kernel_rfl) rfl rfl rfl rfl (fun _ h => hold_sub (by repeat (first | exact Frm.nil | exact Take.here | apply Take.there | apply Frm.cons)) h) (ev_load_at0 sc_9 rfl (by first | exact HasArr.own (by repeat (first | exact List.Mem.head _ | apply List.Mem.tail)) | exact HasArr.sh (by repeat (first | exact List.Mem.head _ | apply List.Mem.tail))) (by intro _; rfl) (by rfl) (by rfl)) ?_
        refine tr_qg 21 rfl (by kernel_rfl) (by kernel_rfl) (by kernel_rfl) rfl rfl rfl rfl (fun _ h => hold_sub (by repeat (first | exact Frm.nil | exact Take.here | apply Take.there | apply Frm.cons)) h) (ev_load_agg ag_45 rfl (by first | (left; (repeat (first | exact List.Mem.head _ | apply List.Mem.tail)); done) | (right; (repeat (first | exact List.Mem.head _ | apply List.Mem.tail)); done)) (by repeat (first | exact LDrop.zero | apply LDrop.succ)) (by repeat (first | exact LTake.zero | apply LTake.succ))) ?_
        refine tr_eg 22 rfl (by kernel_rfl) rfl rfl rfl (eff_call rfl rfl body_11 rfl (by repeat (first | exact Frm.nil | exact Take.here | apply Take.there | apply Frm.cons)) (Line_ct q r hrok.1 hrok.2)) (by rintro _ _ ⟨_, _, ⟨rfl, rfl⟩, rfl, rfl⟩; exact (fun _ h => hold_sub (by repeat (first | exact Frm.nil | exact Take.here | apply Take.there | apply Frm.cons)) h)) ?_
        rintro _ _ ⟨v88, _, ⟨rfl, rfl⟩, rfl, rfl⟩
        refine tr_qg 23 rfl (by kernel_rfl) (by kernel_rfl) (by kernel_rfl) rfl rfl rfl rfl (fun _ h => hold_sub (by repeat (first | exact Frm.nil | exact Take.here | apply Take.there | apply Frm.cons)) h) (ev_sneq rfl rfl) ?_
        refine tr_q 24 rfl (by kernel_rfl) (by kernel_rfl) (by kernel_rfl) rfl (fun _ h => hold_sub (by repeat (first | exact Frm.nil | exact Take.here | apply Take.there | apply Frm.cons)) h) (ev_pick_false rfl rfl) ?_
        refine tr_done (by kernel_rfl) ?_
        refine te_code ?_
        refine t_cond_no rfl (by first | rfl | (simp; done) | (simp; omega) | simp_all) ?_
        refine t_skip ?_
        refine te_blk ?_
        refine te_code ?_
        refine t_region ?_
        refine tl_q rfl (ev_add' rfl rfl (by omega)) ?_
        refine tl_q rfl (ev_move rfl) ?_
        refine tl_nil ?_
        exact te_round (i + 1) (by exact sub_cons rfl (sub_cons rfl (sub_cons rfl (sub_cons rfl (sub_cons rfl (sub_cons rfl (sub_cons rfl (sub_nil)))))))) (fun _ h => hold_keep (by repeat (first | exact Frm.nil | exact Take.here | apply Take.there | apply Frm.cons)) h) (by omega) (by omega)
      · 
        refine t_exit ?_
        refine te_exit_code ?_
        refine te_exit_rnd ?_
        refine te_exit_here ?_
        refine te_code ?_
        refine t_seq ?_
        refine t_region ?_
        refine tl_q rfl (ev_move rfl) ?_
        refine tl_e (eff_call rfl rfl body_12 rfl (by repeat (first | exact Frm.nil | exact Take.here | apply Take.there | apply Frm.cons)) (Below30_ct _)) ?_
        rintro _ _ ⟨v93, _, ⟨c, rfl, rfl, hc0, hc1⟩, rfl, rfl⟩
        refine tl_q rfl (ev_assign rfl) ?_
        refine tl_nil ?_
        refine te_code ?_
        refine t_seq ?_
        refine t_region ?_
        refine tl_q rfl (ev_move rfl) ?_
        refine tl_q rfl (ev_nil_ptr rfl) ?_
        refine tl_q rfl (ev_fieldAddr fa_35_0 rfl rfl) ?_
        refine tl_q rfl (ev_load sc_30 rfl (by first | (left; (repeat (first | exact List.Mem.head _ | apply List.Mem.tail)); done) | (right; (repeat (first | exact List.Mem.head _ | apply List.Mem.tail)); done)) rfl) ?_
        refine tl_e (eff_call rfl rfl body_7 rfl (by repeat (first | exact Frm.nil | exact Take.here | apply Take.there | apply Frm.cons)) (eng_Board_ct _ _ _)) ?_
        rintro _ _ ⟨v99, _, ⟨rfl, rfl⟩, rfl, rfl⟩
        refine tl_q rfl (ev_move rfl) ?_
        refine tl_e (eff_call rfl rfl body_13 rfl (by repeat (first | exact Frm.nil | exact Take.here | apply Take.there | apply Frm.cons)) (board_Get_ct bb m1 m2 40 next (rowsOf ks) [] c)) ?_
        rintro _ _ ⟨_, _, ⟨rfl, rfl⟩, rfl, rfl⟩
        obtain ⟨q0, hq0⟩ : ∃ q0 : Row, ((alook (rowsOf ks) c).map rowV).getD (rowV ⟨0, ⟨⟨#[]⟩, ⟨#[]⟩, ⟨#[]⟩, 0, ⟨#[]⟩⟩, 0, 0, 0, false, ⟨#[]⟩⟩) = rowV q0 := by
          cases alook (rowsOf ks) c with
          | none => exact ⟨_, rfl⟩
          | some q => exact ⟨q, rfl⟩
        rw [hq0]
        generalize hth : (alook (rowsOf ks) c).isSome = th
        refine tl_q rfl (ev_move rfl) ?_
        refine tl_q rfl (ev_extract rfl rfl) ?_
        refine tl_q rfl (ev_extract rfl rfl) ?_
        refine tl_e (eff_alloc rfl zero_45 rfl) ?_
        rintro _ _ ⟨b14, rfl, rfl⟩
        refine tl_e (eff_store rfl rfl rfl rfl sz_45 (by first | (simp [Flat]; done) | exact flatS _ | exact flatB _ | exact flatTick _ | exact flatRow _ | exact flatEvt _ | exact flatI _) (by repeat (first | exact Upd.here | apply Upd.there)) (by repeat (first | exact LPut.nil | apply LPut.cons | apply LPut.succ))) ?_
        rintro _ _ ⟨rfl, rfl⟩
        refine tl_q rfl (ev_assign rfl) ?_
        refine tl_nil ?_
        refine te_code ?_
        refine t_seq ?_
        refine t_region ?_
        refine tl_q rfl (ev_move rfl) ?_
        refine tl_q rfl (ev_move rfl) ?_
        refine tl_e (eff_call rfl rfl body_10 rfl (by repeat (first | exact Frm.nil | exact Take.here | apply Take.there | apply Frm.cons)) (Itoa_ct c (by omega) (by omega))) ?_
        rintro _ _ ⟨_, _, ⟨rfl, rfl⟩, rfl, rfl⟩
        have hsz2 := itoaB_18 c (by omega) (by omega)
        have hsz3 : ((⟨#[115, 104, 111, 119, 32, 32]⟩ : ByteArray) ++ itoaB c ++ ⟨#[32]⟩).size ≤ 1000000 := by
          have e1 : (⟨#[115, 104, 111, 119, 32, 32]⟩ : ByteArray).size = 6 := rfl
          have e2 : (⟨#[32]⟩ : ByteArray).size = 1 := rfl
          rw [ByteArray.size_append, ByteArray.size_append, e1, e2]
          omega
        have hw9 := words_show2 c hc0
        have hc9 : c < 1000000000000000000 := (by omega)
        have hr9 : ∀ r, alook (rowsOf ks) c = some r → okRow r ∧ intRow r := fun r h => hall r (by rw [rowsOf_snd]; exact rows_mem h)
        have hA := AskShow_ct _ hsz3 c hc0 hc9 hw9 q sb eb ob bb hh m1 m2 next (rowsOf ks) hr9
        refine tl_q rfl (ev_sadd rfl rfl (by show 6 + _ ≤ _; omega)) ?_
        refine tl_q rfl (ev_sadd rfl rfl (by rw [ByteArray.size_append]; show 6 + _ + 1 ≤ _; omega)) ?_
        refine tl_e (eff_call rfl rfl body_9 rfl (by repeat (first | exact Frm.nil | exact Take.here | apply Take.there | apply Frm.cons)) (hA)) ?_
        rintro _ _ ⟨_, _, ⟨u9, e9, rfl, he9, rfl⟩, rfl, rfl⟩
        rw [hth] at he9
        refine tl_q rfl (ev_move rfl) ?_
        refine tl_q rfl (ev_extract rfl rfl) ?_
        refine tl_q rfl (ev_extract rfl rfl) ?_
        refine tl_q rfl (ev_assign rfl) ?_
        refine tl_nil ?_
        refine te_code ?_
        refine t_seq ?_
        refine t_region ?_
        refine tl_q rfl (ev_move rfl) ?_
        refine tl_e (eff_call rfl rfl body_9 rfl (by repeat (first | exact Frm.nil | exact Take.here | apply Take.there | apply Frm.cons)) (AskStats_ct ⟨#[115, 116, 97, 116, 115]⟩ (by decide) words_stats sb eb ob bb hh hb mo m1 m2 m4 m5 next last refused (rowsOf ks) ls (by omega) (by omega) (by omega) (by omega))) ?_
        rintro _ _ ⟨_, _, ⟨sv4, xs4, rfl, hx1, hx2, hx3, rfl⟩, rfl, rfl⟩
        rw [hrl, ← hzl] at hx2
        have hm1 : (xs4.any fun x => decide ((⟨#[114, 111, 119, 115, 32]⟩ : ByteArray) ++ itoaB (zs.length : Int) = x)) = true := List.any_eq_true.2 ⟨_, hx2, decide_eq_true rfl⟩
        have hm2 : (xs4.any fun x => decide ((⟨#[116, 105, 99, 107, 101, 116, 115, 32]⟩ : ByteArray) ++ itoaB (ls.length : Int) = x)) = true := List.any_eq_true.2 ⟨_, hx3, decide_eq_true rfl⟩
        have hz20 := itoaB_18 (zs.length : Int) (by omega) (by omega)
        have hz31 := itoaB_18 (ls.length : Int) (by omega) (by omega)
        refine tl_q rfl (ev_move rfl) ?_
        refine tl_q rfl (ev_extract rfl rfl) ?_
        refine tl_q rfl (ev_extract rfl rfl) ?_
        refine tl_q rfl (ev_assign rfl) ?_
        refine tl_q rfl (ev_assign rfl) ?_
        refine tl_nil ?_
        refine te_code ?_
        refine t_seq ?_
        refine t_region ?_
        refine tl_q rfl (ev_move rfl) ?_
        refine tl_q rfl (ev_eql rfl rfl) ?_
        refine tl_q rfl (ev_move rfl) ?_
        refine tl_q rfl (ev_beql rfl rfl rfl) ?_
        refine tl_q rfl (ev_move rfl) ?_
        refine tl_split_dec 122 rfl (fun g23_4 => ?_) (fun g23_4 => ?_)
        · refine tl_guard rfl rfl rfl ?_
          refine tl_q rfl (ev_move rfl) ?_
          refine tl_guard rfl rfl rfl ?_
          refine tl_q rfl (ev_move rfl) ?_
          refine tl_split 124 rfl (fun g23_6 => ?_) (fun g23_6 => ?_)
          · refine tl_guard_no rfl rfl rfl rfl ?_
            refine tl_guard_no rfl rfl rfl rfl ?_
            refine tl_guard rfl rfl rfl ?_
            refine tl_q rfl (ev_pick_true rfl rfl) ?_
            refine tl_q rfl (ev_pick_true rfl rfl) ?_
            refine tl_q rfl (ev_move rfl) ?_
            refine tl_guard rfl rfl rfl ?_
            refine tl_q rfl (ev_move rfl) ?_
            refine tl_guard rfl rfl rfl ?_
            refine tl_q rfl (ev_eql rfl rfl) ?_
            refine tl_q rfl (ev_pick_true rfl rfl) ?_
            refine tl_q rfl (ev_move rfl) ?_
            refine tl_split_dec 133 rfl (fun g23_15 => ?_) (fun g23_15 => ?_)
            · refine tl_guard rfl rfl rfl ?_
              refine tl_q rfl (ev_move rfl) ?_
              refine tl_guard rfl rfl rfl ?_
              refine tl_q rfl (ev_move rfl) ?_
              refine tl_guard rfl rfl rfl ?_
              refine tl_q rfl (ev_len_sh sl_22 rfl (by assumption)) ?_
              refine tl_guard rfl rfl rfl ?_
              refine tl_e (eff_call rfl rfl body_10 rfl (by repeat (first | exact Frm.nil | exact Take.here | apply Take.there | apply Frm.cons)) (Itoa_ct (zs.length : Int) (by omega) (by omega))) ?_
              rintro _ _ ⟨_, _, ⟨rfl, rfl⟩, rfl, rfl⟩
              refine tl_guard rfl rfl rfl ?_
              refine tl_q rfl (ev_sadd rfl rfl (by show 5 + _ ≤ _; omega)) ?_
              refine tl_guard rfl rfl rfl ?_
              refine tl_e (eff_call rfl rfl body_14 rfl (by repeat (first | exact Frm.nil | exact Take.here | apply Take.there | apply Frm.cons)) (ContainsS_ct _ _ (by omega) _)) ?_
              rintro _ _ ⟨v139, _, ⟨rfl, rfl⟩, rfl, rfl⟩
              refine tl_q rfl (ev_pick_true rfl rfl) ?_
              refine tl_q rfl (ev_move rfl) ?_
              refine tl_split 141 rfl (fun g23_23 => ?_) (fun g23_23 => ?_)
              · refine tl_guard rfl rfl rfl ?_
                refine tl_q rfl (ev_move rfl) ?_
                refine tl_guard rfl rfl rfl ?_
                refine tl_q rfl (ev_move rfl) ?_
                refine tl_guard rfl rfl rfl ?_
                refine tl_q rfl (ev_nil_ptr rfl) ?_
                refine tl_guard rfl rfl rfl ?_
                refine tl_q rfl (ev_fieldAddr fa_35_1 rfl rfl) ?_
                refine tl_guard rfl rfl rfl ?_
                refine tl_q rfl (ev_load sc_31 rfl (by first | (left; (repeat (first | exact List.Mem.head _ | apply List.Mem.tail)); done) | (right; (repeat (first | exact List.Mem.head _ | apply List.Mem.tail)); done)) rfl) ?_
                refine tl_guard rfl rfl rfl ?_
                refine tl_e (eff_call rfl rfl body_15 rfl (by repeat (first | exact Frm.nil | exact Take.here | apply Take.there | apply Frm.cons)) (outbox_Len_ct ob mo last refused ls)) ?_
                rintro _ _ ⟨v147, _, ⟨rfl, rfl⟩, rfl, rfl⟩
                refine tl_guard rfl rfl rfl ?_
                refine tl_e (eff_call rfl rfl body_10 rfl (by repeat (first | exact Frm.nil | exact Take.here | apply Take.there | apply Frm.cons)) (Itoa_ct (ls.length : Int) (by omega) (by omega))) ?_
                rintro _ _ ⟨_, _, ⟨rfl, rfl⟩, rfl, rfl⟩
                refine tl_guard rfl rfl rfl ?_
                refine tl_q rfl (ev_sadd rfl rfl (by show 8 + _ ≤ _; omega)) ?_
                refine tl_guard rfl rfl rfl ?_
                refine tl_e (eff_call rfl rfl body_14 rfl (by repeat (first | exact Frm.nil | exact Take.here | apply Take.there | apply Frm.cons)) (ContainsS_ct _ _ (by omega) _)) ?_
                rintro _ _ ⟨v150, _, ⟨rfl, rfl⟩, rfl, rfl⟩
                refine tl_q rfl (ev_pick_true rfl rfl) ?_
                refine tl_q rfl (ev_move rfl) ?_
                refine tl_split 152 rfl (fun g23_34 => ?_) (fun g23_34 => ?_)
                · refine tl_guard rfl rfl rfl ?_
                  refine tl_q rfl (ev_move rfl) ?_
                  refine tl_guard rfl rfl rfl ?_
                  refine tl_q rfl (ev_len_arr sl_38 rfl (by first | exact HasArr.own (by repeat (first | exact List.Mem.head _ | apply List.Mem.tail)) | exact HasArr.sh (by repeat (first | exact List.Mem.head _ | apply List.Mem.tail))) (by intro _; rfl)) ?_
                  refine tl_guard rfl rfl rfl ?_
                  refine tl_q rfl (ev_eql rfl rfl) ?_
                  refine tl_q rfl (ev_pick_true rfl rfl) ?_
                  refine tl_q rfl (ev_assign rfl) ?_
                  refine tl_nil ?_
                  refine te_code ?_
                  refine t_ret ?_
                  refine te_ret_k (pre := []) (res1 rfl rfl) (by repeat (first | exact Frm.nil | exact Take.here | apply Take.there | apply Frm.cons)) ?_
                  show Value.bool _ = Value.bool true
                  first | rfl | (rw [hx1]; rfl) | (exfalso; rw [hm1] at g23_23; simp at g23_23; done) | (exfalso; rw [hm2] at g23_34; simp at g23_34; done) | (exfalso; simp at g23_15; done) | exact (e9_no he9 g23_6 g23_11).elim | exact (e9_no2 he9 g23_4).elim
                · refine tl_guard_no rfl rfl rfl rfl ?_
                  refine tl_guard_no rfl rfl rfl rfl ?_
                  refine tl_guard_no rfl rfl rfl rfl ?_
                  refine tl_q rfl (ev_pick_false rfl rfl) ?_
                  refine tl_q rfl (ev_assign rfl) ?_
                  refine tl_nil ?_
                  refine te_code ?_
                  refine t_ret ?_
                  refine te_ret_k (pre := []) (res1 rfl rfl) (by repeat (first | exact Frm.nil | exact Take.here | apply Take.there | apply Frm.cons)) ?_
                  show Value.bool _ = Value.bool true
                  first | rfl | (rw [hx1]; rfl) | (exfalso; rw [hm1] at g23_23; simp at g23_23; done) | (exfalso; rw [hm2] at g23_34; simp at g23_34; done) | (exfalso; simp at g23_15; done) | exact (e9_no he9 g23_6 g23_11).elim | exact (e9_no2 he9 g23_4).elim
              · refine tl_guard_no rfl rfl rfl rfl ?_
                refine tl_guard_no rfl rfl rfl rfl ?_
                refine tl_guard_no rfl rfl rfl rfl ?_
                refine tl_guard_no rfl rfl rfl rfl ?_
                refine tl_guard_no rfl rfl rfl rfl ?_
                refine tl_guard_no rfl rfl rfl rfl ?_
                refine tl_guard_no rfl rfl rfl rfl ?_
                refine tl_guard_no rfl rfl rfl rfl ?_
                refine tl_guard_no rfl rfl rfl rfl ?_
                refine tl_q rfl (ev_pick_false rfl rfl) ?_
                refine tl_q rfl (ev_move rfl) ?_
                refine tl_guard_no rfl rfl rfl rfl ?_
                refine tl_guard_no rfl rfl rfl rfl ?_
                refine tl_guard_no rfl rfl rfl rfl ?_
                refine tl_q rfl (ev_pick_false rfl rfl) ?_
                refine tl_q rfl (ev_assign rfl) ?_
                refine tl_nil ?_
                refine te_code ?_
                refine t_ret ?_
                refine te_ret_k (pre := []) (res1 rfl rfl) (by repeat (first | exact Frm.nil | exact Take.here | apply Take.there | apply Frm.cons)) ?_
                show Value.bool _ = Value.bool true
                first | rfl | (rw [hx1]; rfl) | (exfalso; rw [hm1] at g23_23; simp at g23_23; done) | (exfalso; rw [hm2] at g23_34; simp at g23_34; done) | (exfalso; simp at g23_15; done) | exact (e9_no he9 g23_6 g23_11).elim | exact (e9_no2 he9 g23_4).elim
            · refine tl_guard_no rfl rfl rfl rfl ?_
              refine tl_guard_no rfl rfl rfl rfl ?_
              refine tl_guard_no rfl rfl rfl rfl ?_
              refine tl_guard_no rfl rfl rfl rfl ?_
              refine tl_guard_no rfl rfl rfl rfl ?_
              refine tl_guard_no rfl rfl rfl rfl ?_
              refine tl_q rfl (ev_pick_false rfl rfl) ?_
              refine tl_q rfl (ev_move rfl) ?_
              refine tl_guard_no rfl rfl rfl rfl ?_
              refine tl_guard_no rfl rfl rfl rfl ?_
              refine tl_guard_no rfl rfl rfl rfl ?_
              refine tl_guard_no rfl rfl rfl rfl ?_
              refine tl_guard_no rfl rfl rfl rfl ?_
              refine tl_guard_no rfl rfl rfl rfl ?_
              refine tl_guard_no rfl rfl rfl rfl ?_
              refine tl_guard_no rfl rfl rfl rfl ?_
              refine tl_guard_no rfl rfl rfl rfl ?_
              refine tl_q rfl (ev_pick_false rfl rfl) ?_
              refine tl_q rfl (ev_move rfl) ?_
              refine tl_guard_no rfl rfl rfl rfl ?_
              refine tl_guard_no rfl rfl rfl rfl ?_
              refine tl_guard_no rfl rfl rfl rfl ?_
              refine tl_q rfl (ev_pick_false rfl rfl) ?_
              refine tl_q rfl (ev_assign rfl) ?_
              refine tl_nil ?_
              refine te_code ?_
              refine t_ret ?_
              refine te_ret_k (pre := []) (res1 rfl rfl) (by repeat (first | exact Frm.nil | exact Take.here | apply Take.there | apply Frm.cons)) ?_
              show Value.bool _ = Value.bool true
              first | rfl | (rw [hx1]; rfl) | (exfalso; rw [hm1] at g23_23; simp at g23_23; done) | (exfalso; rw [hm2] at g23_34; simp at g23_34; done) | (exfalso; simp at g23_15; done) | exact (e9_no he9 g23_6 g23_11).elim | exact (e9_no2 he9 g23_4).elim
          · refine tl_guard rfl rfl rfl ?_
            refine tl_q rfl (ev_move rfl) ?_
            refine tl_guard rfl rfl rfl ?_
            refine tl_q rfl (ev_eql rfl rfl) ?_
            refine tl_guard rfl rfl rfl ?_
            refine tl_q rfl (ev_pick_false rfl rfl) ?_
            refine tl_q rfl (ev_pick_true rfl rfl) ?_
            refine tl_q rfl (ev_move rfl) ?_
            refine tl_split_dec 129 rfl (fun g23_11 => ?_) (fun g23_11 => ?_)
            · refine tl_guard rfl rfl rfl ?_
              refine tl_q rfl (ev_move rfl) ?_
              refine tl_guard rfl rfl rfl ?_
              refine tl_q rfl (ev_eql rfl rfl) ?_
              refine tl_q rfl (ev_pick_true rfl rfl) ?_
              refine tl_q rfl (ev_move rfl) ?_
              refine tl_split_dec 133 rfl (fun g23_15 => ?_) (fun g23_15 => ?_)
              · refine tl_guard rfl rfl rfl ?_
                refine tl_q rfl (ev_move rfl) ?_
                refine tl_guard rfl rfl rfl ?_
                refine tl_q rfl (ev_move rfl) ?_
                refine tl_guard rfl rfl rfl ?_
                refine tl_q rfl (ev_len_sh sl_22 rfl (by assumption)) ?_
                refine tl_guard rfl rfl rfl ?_
                refine tl_e (eff_call rfl rfl body_10 rfl (by repeat (first | exact Frm.nil | exact Take.here | apply Take.there | apply Frm.cons)) (Itoa_ct (zs.length : Int) (by omega) (by omega))) ?_
                rintro _ _ ⟨_, _, ⟨rfl, rfl⟩, rfl, rfl⟩
                refine tl_guard rfl rfl rfl ?_
                refine tl_q rfl (ev_sadd rfl rfl (by show 5 + _ ≤ _; omega)) ?_
                refine tl_guard rfl rfl rfl ?_
                refine tl_e (eff_call rfl rfl body_14 rfl (by repeat (first | exact Frm.nil | exact Take.here | apply Take.there | apply Frm.cons)) (ContainsS_ct _ _ (by omega) _)) ?_
                rintro _ _ ⟨v139, _, ⟨rfl, rfl⟩, rfl, rfl⟩
                refine tl_q rfl (ev_pick_true rfl rfl) ?_
                refine tl_q rfl (ev_move rfl) ?_
                refine tl_split 141 rfl (fun g23_23 => ?_) (fun g23_23 => ?_)
                · refine tl_guard rfl rfl rfl ?_
                  refine tl_q rfl (ev_move rfl) ?_
                  refine tl_guard rfl rfl rfl ?_
                  refine tl_q rfl (ev_move rfl) ?_
                  refine tl_guard rfl rfl rfl ?_
                  refine tl_q rfl (ev_nil_ptr rfl) ?_
                  refine tl_guard rfl rfl rfl ?_
                  refine tl_q rfl (ev_fieldAddr fa_35_1 rfl rfl) ?_
                  refine tl_guard rfl rfl rfl ?_
                  refine tl_q rfl (ev_load sc_31 rfl (by first | (left; (repeat (first | exact List.Mem.head _ | apply List.Mem.tail)); done) | (right; (repeat (first | exact List.Mem.head _ | apply List.Mem.tail)); done)) rfl) ?_
                  refine tl_guard rfl rfl rfl ?_
                  refine tl_e (eff_call rfl rfl body_15 rfl (by repeat (first | exact Frm.nil | exact Take.here | apply Take.there | apply Frm.cons)) (outbox_Len_ct ob mo last refused ls)) ?_
                  rintro _ _ ⟨v147, _, ⟨rfl, rfl⟩, rfl, rfl⟩
                  refine tl_guard rfl rfl rfl ?_
                  refine tl_e (eff_call rfl rfl body_10 rfl (by repeat (first | exact Frm.nil | exact Take.here | apply Take.there | apply Frm.cons)) (Itoa_ct (ls.length : Int) (by omega) (by omega))) ?_
                  rintro _ _ ⟨_, _, ⟨rfl, rfl⟩, rfl, rfl⟩
                  refine tl_guard rfl rfl rfl ?_
                  refine tl_q rfl (ev_sadd rfl rfl (by show 8 + _ ≤ _; omega)) ?_
                  refine tl_guard rfl rfl rfl ?_
                  refine tl_e (eff_call rfl rfl body_14 rfl (by repeat (first | exact Frm.nil | exact Take.here | apply Take.there | apply Frm.cons)) (ContainsS_ct _ _ (by omega) _)) ?_
                  rintro _ _ ⟨v150, _, ⟨rfl, rfl⟩, rfl, rfl⟩
                  refine tl_q rfl (ev_pick_true rfl rfl) ?_
                  refine tl_q rfl (ev_move rfl) ?_
                  refine tl_split 152 rfl (fun g23_34 => ?_) (fun g23_34 => ?_)
                  · refine tl_guard rfl rfl rfl ?_
                    refine tl_q rfl (ev_move rfl) ?_
                    refine tl_guard rfl rfl rfl ?_
                    refine tl_q rfl (ev_len_arr sl_38 rfl (by first | exact HasArr.own (by repeat (first | exact List.Mem.head _ | apply List.Mem.tail)) | exact HasArr.sh (by repeat (first | exact List.Mem.head _ | apply List.Mem.tail))) (by intro _; rfl)) ?_
                    refine tl_guard rfl rfl rfl ?_
                    refine tl_q rfl (ev_eql rfl rfl) ?_
                    refine tl_q rfl (ev_pick_true rfl rfl) ?_
                    refine tl_q rfl (ev_assign rfl) ?_
                    refine tl_nil ?_
                    refine te_code ?_
                    refine t_ret ?_
                    refine te_ret_k (pre := []) (res1 rfl rfl) (by repeat (first | exact Frm.nil | exact Take.here | apply Take.there | apply Frm.cons)) ?_
                    show Value.bool _ = Value.bool true
                    first | rfl | (rw [hx1]; rfl) | (exfalso; rw [hm1] at g23_23; simp at g23_23; done) | (exfalso; rw [hm2] at g23_34; simp at g23_34; done) | (exfalso; simp at g23_15; done) | exact (e9_no he9 g23_6 g23_11).elim | exact (e9_no2 he9 g23_4).elim
                  · refine tl_guard_no rfl rfl rfl rfl ?_
                    refine tl_guard_no rfl rfl rfl rfl ?_
                    refine tl_guard_no rfl rfl rfl rfl ?_
                    refine tl_q rfl (ev_pick_false rfl rfl) ?_
                    refine tl_q rfl (ev_assign rfl) ?_
                    refine tl_nil ?_
                    refine te_code ?_
                    refine t_ret ?_
                    refine te_ret_k (pre := []) (res1 rfl rfl) (by repeat (first | exact Frm.nil | exact Take.here | apply Take.there | apply Frm.cons)) ?_
                    show Value.bool _ = Value.bool true
                    first | rfl | (rw [hx1]; rfl) | (exfalso; rw [hm1] at g23_23; simp at g23_23; done) | (exfalso; rw [hm2] at g23_34; simp at g23_34; done) | (exfalso; simp at g23_15; done) | exact (e9_no he9 g23_6 g23_11).elim | exact (e9_no2 he9 g23_4).elim
                · refine tl_guard_no rfl rfl rfl rfl ?_
                  refine tl_guard_no rfl rfl rfl rfl ?_
                  refine tl_guard_no rfl rfl rfl rfl ?_
                  refine tl_guard_no rfl rfl rfl rfl ?_
                  refine tl_guard_no rfl rfl rfl rfl ?_
                  refine tl_guard_no rfl rfl rfl rfl ?_
                  refine tl_guard_no rfl rfl rfl rfl ?_
                  refine tl_guard_no rfl rfl rfl rfl ?_
                  refine tl_guard_no rfl rfl rfl rfl ?_
                  refine tl_q rfl (ev_pick_false rfl rfl) ?_
                  refine tl_q rfl (ev_move rfl) ?_
                  refine tl_guard_no rfl rfl rfl rfl ?_
                  refine tl_guard_no rfl rfl rfl rfl ?_
                  refine tl_guard_no rfl rfl rfl rfl ?_
                  refine tl_q rfl (ev_pick_false rfl rfl) ?_
                  refine tl_q rfl (ev_assign rfl) ?_
                  refine tl_nil ?_
                  refine te_code ?_
                  refine t_ret ?_
                  refine te_ret_k (pre := []) (res1 rfl rfl) (by repeat (first | exact Frm.nil | exact Take.here | apply Take.there | apply Frm.cons)) ?_
                  show Value.bool _ = Value.bool true
                  first | rfl | (rw [hx1]; rfl) | (exfalso; rw [hm1] at g23_23; simp at g23_23; done) | (exfalso; rw [hm2] at g23_34; simp at g23_34; done) | (exfalso; simp at g23_15; done) | exact (e9_no he9 g23_6 g23_11).elim | exact (e9_no2 he9 g23_4).elim
              · refine tl_guard_no rfl rfl rfl rfl ?_
                refine tl_guard_no rfl rfl rfl rfl ?_
                refine tl_guard_no rfl rfl rfl rfl ?_
                refine tl_guard_no rfl rfl rfl rfl ?_
                refine tl_guard_no rfl rfl rfl rfl ?_
                refine tl_guard_no rfl rfl rfl rfl ?_
                refine tl_q rfl (ev_pick_false rfl rfl) ?_
                refine tl_q rfl (ev_move rfl) ?_
                refine tl_guard_no rfl rfl rfl rfl ?_
                refine tl_guard_no rfl rfl rfl rfl ?_
                refine tl_guard_no rfl rfl rfl rfl ?_
                refine tl_guard_no rfl rfl rfl rfl ?_
                refine tl_guard_no rfl rfl rfl rfl ?_
                refine tl_guard_no rfl rfl rfl rfl ?_
                refine tl_guard_no rfl rfl rfl rfl ?_
                refine tl_guard_no rfl rfl rfl rfl ?_
                refine tl_guard_no rfl rfl rfl rfl ?_
                refine tl_q rfl (ev_pick_false rfl rfl) ?_
                refine tl_q rfl (ev_move rfl) ?_
                refine tl_guard_no rfl rfl rfl rfl ?_
                refine tl_guard_no rfl rfl rfl rfl ?_
                refine tl_guard_no rfl rfl rfl rfl ?_
                refine tl_q rfl (ev_pick_false rfl rfl) ?_
                refine tl_q rfl (ev_assign rfl) ?_
                refine tl_nil ?_
                refine te_code ?_
                refine t_ret ?_
                refine te_ret_k (pre := []) (res1 rfl rfl) (by repeat (first | exact Frm.nil | exact Take.here | apply Take.there | apply Frm.cons)) ?_
                show Value.bool _ = Value.bool true
                first | rfl | (rw [hx1]; rfl) | (exfalso; rw [hm1] at g23_23; simp at g23_23; done) | (exfalso; rw [hm2] at g23_34; simp at g23_34; done) | (exfalso; simp at g23_15; done) | exact (e9_no he9 g23_6 g23_11).elim | exact (e9_no2 he9 g23_4).elim
            · refine tl_guard_no rfl rfl rfl rfl ?_
              refine tl_guard_no rfl rfl rfl rfl ?_
              refine tl_q rfl (ev_pick_false rfl rfl) ?_
              refine tl_q rfl (ev_move rfl) ?_
              refine tl_guard_no rfl rfl rfl rfl ?_
              refine tl_guard_no rfl rfl rfl rfl ?_
              refine tl_guard_no rfl rfl rfl rfl ?_
              refine tl_guard_no rfl rfl rfl rfl ?_
              refine tl_guard_no rfl rfl rfl rfl ?_
              refine tl_guard_no rfl rfl rfl rfl ?_
              refine tl_q rfl (ev_pick_false rfl rfl) ?_
              refine tl_q rfl (ev_move rfl) ?_
              refine tl_guard_no rfl rfl rfl rfl ?_
              refine tl_guard_no rfl rfl rfl rfl ?_
              refine tl_guard_no rfl rfl rfl rfl ?_
              refine tl_guard_no rfl rfl rfl rfl ?_
              refine tl_guard_no rfl rfl rfl rfl ?_
              refine tl_guard_no rfl rfl rfl rfl ?_
              refine tl_guard_no rfl rfl rfl rfl ?_
              refine tl_guard_no rfl rfl rfl rfl ?_
              refine tl_guard_no rfl rfl rfl rfl ?_
              refine tl_q rfl (ev_pick_false rfl rfl) ?_
              refine tl_q rfl (ev_move rfl) ?_
              refine tl_guard_no rfl rfl rfl rfl ?_
              refine tl_guard_no rfl rfl rfl rfl ?_
              refine tl_guard_no rfl rfl rfl rfl ?_
              refine tl_q rfl (ev_pick_false rfl rfl) ?_
              refine tl_q rfl (ev_assign rfl) ?_
              refine tl_nil ?_
              refine te_code ?_
              refine t_ret ?_
              refine te_ret_k (pre := []) (res1 rfl rfl) (by repeat (first | exact Frm.nil | exact Take.here | apply Take.there | apply Frm.cons)) ?_
              show Value.bool _ = Value.bool true
              first | rfl | (rw [hx1]; rfl) | (exfalso; rw [hm1] at g23_23; simp at g23_23; done) | (exfalso; rw [hm2] at g23_34; simp at g23_34; done) | (exfalso; simp at g23_15; done) | exact (e9_no he9 g23_6 g23_11).elim | exact (e9_no2 he9 g23_4).elim
        · refine tl_guard_no rfl rfl rfl rfl ?_
          refine tl_guard_no rfl rfl rfl rfl ?_
          refine tl_guard_un rfl rfl rfl ?_
          refine tl_guard_un rfl rfl rfl ?_
          refine tl_guard_no rfl rfl rfl rfl ?_
          refine tl_q rfl (ev_pick_false rfl rfl) ?_
          refine tl_q rfl (ev_move rfl) ?_
          refine tl_guard_no rfl rfl rfl rfl ?_
          refine tl_guard_no rfl rfl rfl rfl ?_
          refine tl_q rfl (ev_pick_false rfl rfl) ?_
          refine tl_q rfl (ev_move rfl) ?_
          refine tl_guard_no rfl rfl rfl rfl ?_
          refine tl_guard_no rfl rfl rfl rfl ?_
          refine tl_guard_no rfl rfl rfl rfl ?_
          refine tl_guard_no rfl rfl rfl rfl ?_
          refine tl_guard_no rfl rfl rfl rfl ?_
          refine tl_guard_no rfl rfl rfl rfl ?_
          refine tl_q rfl (ev_pick_false rfl rfl) ?_
          refine tl_q rfl (ev_move rfl) ?_
          refine tl_guard_no rfl rfl rfl rfl ?_
          refine tl_guard_no rfl rfl rfl rfl ?_
          refine tl_guard_no rfl rfl rfl rfl ?_
          refine tl_guard_no rfl rfl rfl rfl ?_
          refine tl_guard_no rfl rfl rfl rfl ?_
          refine tl_guard_no rfl rfl rfl rfl ?_
          refine tl_guard_no rfl rfl rfl rfl ?_
          refine tl_guard_no rfl rfl rfl rfl ?_
          refine tl_guard_no rfl rfl rfl rfl ?_
          refine tl_q rfl (ev_pick_false rfl rfl) ?_
          refine tl_q rfl (ev_move rfl) ?_
          refine tl_guard_no rfl rfl rfl rfl ?_
          refine tl_guard_no rfl rfl rfl rfl ?_
          refine tl_guard_no rfl rfl rfl rfl ?_
          refine tl_q rfl (ev_pick_false rfl rfl) ?_
          refine tl_q rfl (ev_assign rfl) ?_
          refine tl_nil ?_
          refine te_code ?_
          refine t_ret ?_
          refine te_ret_k (pre := []) (res1 rfl rfl) (by repeat (first | exact Frm.nil | exact Take.here | apply Take.there | apply Frm.cons)) ?_
          show Value.bool _ = Value.bool true
          first | rfl | (rw [hx1]; rfl) | (exfalso; rw [hm1] at g23_23; simp at g23_23; done) | (exfalso; rw [hm2] at g23_34; simp at g23_34; done) | (exfalso; simp at g23_15; done) | exact (e9_no he9 g23_6 g23_11).elim | exact (e9_no2 he9 g23_4).elim

end Go.SL
