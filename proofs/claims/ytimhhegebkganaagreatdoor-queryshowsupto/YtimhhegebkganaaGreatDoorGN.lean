/- Contract of gonglaw30.loaded. -/
import Derived.Test.YtimhhegebkganaaGreatDoorProg
import Derived.Test.YtimhhegebkganaaGreatDoorGM
set_option linter.unusedSimpArgs false
set_option linter.unusedVariables false
set_option maxRecDepth 4000
namespace Go.SL
open Go.Proofs

theorem body_16 : (Tryz.prog.funcs[16]?).map (fun fn => fn.body.isSome && !(fn.name == "runtime.NumGoroutine")) = some true := by kernel_rfl
theorem body_17 : (Tryz.prog.funcs[17]?).map (fun fn => fn.body.isSome && !(fn.name == "runtime.NumGoroutine")) = some true := by kernel_rfl
theorem info_66 : Tryz.prog.info? 66 = some Tryz.t66 := by kernel_rfl
theorem st_66 : StructIs Tryz.prog 66 (fun j => ([(0, 3), (3, 1), (4, 1), (5, 1), (6, 1), (7, 1), (8, 1), (9, 1)] : List (Nat × Nat))[j]?) [.slice none 0 0, .slice none 0 0, .slice none 0 0, .int .i64 0, .int .i64 0, .int .i64 0, .int .i64 0, .int .i64 0, .int .i64 0, .slice none 0 0] := structIs_of (ss := [3, 1, 1, 1, 1, 1, 1, 1]) Tryz.underlying66 info_66 rfl (by kernel_rfl)
theorem body_18 : (Tryz.prog.funcs[18]?).map (fun fn => fn.body.isSome && !(fn.name == "runtime.NumGoroutine")) = some true := by kernel_rfl
theorem bs_22_0 : SliceIs Tryz.prog 22 0 45 11 [] := sliceIs_of Tryz.underlying22 info_45 rfl rfl (by decide) (by kernel_rfl)
theorem fa_78_0 : FldAt Tryz.prog 78 0 0 := fun a w => by kernel_rfl
theorem sc_74 : IsSc Tryz.prog 74 := isSc_of Tryz.underlying74 rfl
theorem fa_73_1 : FldAt Tryz.prog 73 1 3 := fun a w => by kernel_rfl
theorem sc_67 : IsSc Tryz.prog 67 := isSc_of Tryz.underlying67 rfl
theorem body_19 : (Tryz.prog.funcs[19]?).map (fun fn => fn.body.isSome && !(fn.name == "runtime.NumGoroutine")) = some true := by kernel_rfl
theorem fa_35_0 : FldAt Tryz.prog 35 0 0 := fun a w => by kernel_rfl
theorem sc_30 : IsSc Tryz.prog 30 := isSc_of Tryz.underlying30 rfl
theorem body_7 : (Tryz.prog.funcs[7]?).map (fun fn => fn.body.isSome && !(fn.name == "runtime.NumGoroutine")) = some true := by kernel_rfl
theorem body_20 : (Tryz.prog.funcs[20]?).map (fun fn => fn.body.isSome && !(fn.name == "runtime.NumGoroutine")) = some true := by kernel_rfl
theorem fa_35_1 : FldAt Tryz.prog 35 1 1 := fun a w => by kernel_rfl
theorem sc_31 : IsSc Tryz.prog 31 := isSc_of Tryz.underlying31 rfl
theorem body_21 : (Tryz.prog.funcs[21]?).map (fun fn => fn.body.isSome && !(fn.name == "runtime.NumGoroutine")) = some true := by kernel_rfl
theorem fa_78_1 : FldAt Tryz.prog 78 1 1 := fun a w => by kernel_rfl
theorem sc_75 : IsSc Tryz.prog 75 := isSc_of Tryz.underlying75 rfl
theorem body_22 : (Tryz.prog.funcs[22]?).map (fun fn => fn.body.isSome && !(fn.name == "runtime.NumGoroutine")) = some true := by kernel_rfl


theorem goodL_take {xs : List Row} {n m : Int} (h : goodL xs n m) (i : Nat) : goodL (xs.take i) n m := by
  obtain ⟨h1, h2, h3, h4, h5, h6⟩ := h
  refine ⟨fun r hr => h1 r (List.mem_of_mem_take hr), ?_, ?_, ?_, h5, h6⟩
  · rw [List.map_take]; exact h2.sublist (List.take_sublist _ _)
  · rw [List.map_take]; exact h3.sublist (List.take_sublist _ _)
  · rw [List.length_take]; omega
theorem take_snoc {α : Type} {xs : List α} {i : Nat} {u : α} (h : xs[i]? = some u) : xs.take i ++ [u] = xs.take (i + 1) := by
  have hlt := (List.getElem?_eq_some_iff.1 h).1
  have he := (List.getElem?_eq_some_iff.1 h).2
  rw [List.take_succ_eq_append_getElem hlt, he]

theorem loaded_ct (rv : Value) (xs : List Row) (hx : ∀ i r, i < 30 → xs[i]? = some r → okRow r) (hl : xs.length ≤ 2000000) : CT Tryz.prog 6 #[rv] [iarr 11 encRow rv xs] (fun v M => ∃ sb yb eb ob bb hh hb mo m1 m2 m4 m5 last refused ls next ids ks, v = .tuple #[.pointer (some ⟨sb, 0, none⟩), .pointer (some ⟨yb, 0, none⟩)] ∧ M = [stB sb eb ob, boxB ob mo last refused, mp iI letV mo ls, engB eb bb hh, holdB hh hb m4 m5, mp iI (fun x : Value => x) m4 [], boardB bb m1 m2 40 next, mp iI rowV m1 (rowsOf ks), mp signV iI m2 ids, iarr 11 encRow rv xs] ∧ ks.length ≤ 30 ∧ (∀ r ∈ ks, okRow r ∧ r ∈ xs ∧ 1 ≤ r.id ∧ r.id < 1099511627776) ∧ (0 ≤ last ∧ last ≤ 30) ∧ (0 ≤ refused ∧ refused ≤ 30) ∧ ls.length ≤ 30 ∧ (goodL xs 1099511627776 40 → xs.length ≤ 30 → ks = xs)) := by
  refine t_fun (vs := [rv]) (n := 122) Tryz.func6 rfl Tryz.ntmps6 rfl fun w0 F => ?_
  refine t_shape (enc := encRow) (sz := 11) (xs := xs) (by first | exact HasArr.own (by repeat (first | exact List.Mem.head _ | apply List.Mem.tail)) | exact HasArr.sh (by repeat (first | exact List.Mem.head _ | apply List.Mem.tail))) (by intro _; rfl) (fun hsh => ?_)
  refine t_seq ?_
  refine t_region ?_
  refine tl_q rfl (ev_assign rfl) ?_
  refine tl_q rfl (ev_assign rfl) ?_
  refine tl_nil ?_
  refine te_code ?_
  refine t_seq ?_
  refine t_region ?_
  refine tl_e (eff_call rfl rfl body_16 rfl (by repeat (first | exact Frm.nil | exact Take.here | apply Take.there | apply Frm.cons)) (setup_ct)) ?_
  rintro _ _ ⟨v13, _, ⟨rfl, rfl⟩, rfl, rfl⟩
  refine tl_e (eff_alloc rfl zero_60 rfl) ?_
  rintro _ _ ⟨b4, rfl, rfl⟩
  refine tl_e (eff_store rfl rfl rfl rfl sz_60 (by first | (simp [Flat]; done) | exact flatTick _ | exact flatRow _ | exact flatEvt _ | exact flatI _) (by repeat (first | exact Upd.here | apply Upd.there)) (by repeat (first | exact LPut.nil | apply LPut.cons | apply LPut.succ))) ?_
  rintro _ _ ⟨rfl, rfl⟩
  refine tl_nil ?_
  refine te_code ?_
  refine t_seq ?_
  refine t_region ?_
  refine tl_q rfl (ev_load_agg ag_60 rfl (by first | (left; (repeat (first | exact List.Mem.head _ | apply List.Mem.tail)); done) | (right; (repeat (first | exact List.Mem.head _ | apply List.Mem.tail)); done)) (by repeat (first | exact LDrop.zero | apply LDrop.succ)) (by repeat (first | exact LTake.zero | apply LTake.succ))) ?_
  refine tl_e (eff_call rfl rfl body_17 rfl (by repeat (first | exact Frm.nil | exact Take.here | apply Take.there | apply Frm.cons)) (state_New_ct)) ?_
  rintro _ _ ⟨v16, _, ⟨sb, ob, mo, eb, bb, m1, m2, hh, hb, m3, m4, m5, rfl, rfl⟩, rfl, rfl⟩
  refine tl_q rfl (ev_move rfl) ?_
  refine tl_q rfl (ev_extract rfl rfl) ?_
  refine tl_q rfl (ev_extract rfl rfl) ?_
  refine tl_q rfl (ev_assign rfl) ?_
  refine tl_q rfl (ev_assign rfl) ?_
  refine tl_nil ?_
  refine te_code ?_
  refine t_seq ?_
  refine t_region ?_
  refine tl_q rfl (ev_fieldAddr fa_60_0 rfl rfl) ?_
  refine tl_q rfl (ev_load_agg ag_58 rfl (by first | (left; (repeat (first | exact List.Mem.head _ | apply List.Mem.tail)); done) | (right; (repeat (first | exact List.Mem.head _ | apply List.Mem.tail)); done)) (by repeat (first | exact LDrop.zero | apply LDrop.succ)) (by repeat (first | exact LTake.zero | apply LTake.succ))) ?_
  refine tl_q rfl (ev_fieldAddr fa_60_1 rfl rfl) ?_
  refine tl_q rfl (ev_load sc_3 rfl (by first | (left; (repeat (first | exact List.Mem.head _ | apply List.Mem.tail)); done) | (right; (repeat (first | exact List.Mem.head _ | apply List.Mem.tail)); done)) rfl) ?_
  refine tl_q rfl (ev_fieldAddr fa_60_2 rfl rfl) ?_
  refine tl_q rfl (ev_load sc_3 rfl (by first | (left; (repeat (first | exact List.Mem.head _ | apply List.Mem.tail)); done) | (right; (repeat (first | exact List.Mem.head _ | apply List.Mem.tail)); done)) rfl) ?_
  refine tl_q rfl (ev_fieldAddr fa_60_4 rfl rfl) ?_
  refine tl_q rfl (ev_load sc_3 rfl (by first | (left; (repeat (first | exact List.Mem.head _ | apply List.Mem.tail)); done) | (right; (repeat (first | exact List.Mem.head _ | apply List.Mem.tail)); done)) rfl) ?_
  refine tl_q rfl (ev_fieldAddr fa_60_5 rfl rfl) ?_
  refine tl_q rfl (ev_load sc_3 rfl (by first | (left; (repeat (first | exact List.Mem.head _ | apply List.Mem.tail)); done) | (right; (repeat (first | exact List.Mem.head _ | apply List.Mem.tail)); done)) rfl) ?_
  refine tl_q rfl (ev_fieldAddr fa_60_6 rfl rfl) ?_
  refine tl_q rfl (ev_load sc_3 rfl (by first | (left; (repeat (first | exact List.Mem.head _ | apply List.Mem.tail)); done) | (right; (repeat (first | exact List.Mem.head _ | apply List.Mem.tail)); done)) rfl) ?_
  refine tl_q rfl (ev_build st_66 rfl (by repeat (first | exact FillR.nil | exact LPut.nil | apply LPut.cons | apply LPut.succ | apply FillR.cons rfl rfl rfl))) ?_
  refine tl_e (eff_call rfl rfl body_18 rfl (by repeat (first | exact Frm.nil | exact Take.here | apply Take.there | apply Frm.cons)) (New28_ct)) ?_
  rintro _ _ ⟨v33, _, ⟨y2, e2, o2, b2, h2, rfl, rfl⟩, rfl, rfl⟩
  refine tl_q rfl (ev_move rfl) ?_
  refine tl_q rfl (ev_extract rfl rfl) ?_
  refine tl_q rfl (ev_extract rfl rfl) ?_
  refine tl_q rfl (ev_assign rfl) ?_
  refine tl_q rfl (ev_assign rfl) ?_
  refine tl_nil ?_
  refine te_code ?_
  refine t_seq ?_
  refine t_seq ?_
  refine t_region ?_
  refine tl_q rfl (ev_move rfl) ?_
  refine tl_q rfl (ev_ptr_eql_nil Tryz.underlying25 rfl rfl) ?_
  refine tl_q rfl (ev_move rfl) ?_
  refine tl_is 38 (c := false) rfl (by first | rfl | (simp; done) | (simp; omega) | simp_all) ?_
  refine tl_guard rfl rfl rfl ?_
  refine tl_q rfl (ev_move rfl) ?_
  refine tl_guard rfl rfl rfl ?_
  refine tl_q rfl (ev_ptr_eql_nil Tryz.underlying26 rfl rfl) ?_
  refine tl_q rfl (ev_pick_false rfl rfl) ?_
  refine tl_q rfl (ev_move rfl) ?_
  refine tl_is 42 (c := false) rfl (by first | rfl | (simp; done) | (simp; omega) | simp_all) ?_
  refine tl_guard rfl rfl rfl ?_
  refine tl_q rfl (ev_move rfl) ?_
  refine tl_guard rfl rfl rfl ?_
  refine tl_q rfl (ev_neq rfl rfl) ?_
  refine tl_q rfl (ev_pick_false rfl rfl) ?_
  refine tl_q rfl (ev_move rfl) ?_
  refine tl_is 46 (c := false) rfl (by first | rfl | (simp; done) | (simp; omega) | simp_all) ?_
  refine tl_guard rfl rfl rfl ?_
  refine tl_q rfl (ev_move rfl) ?_
  refine tl_guard rfl rfl rfl ?_
  refine tl_q rfl (ev_neq rfl rfl) ?_
  refine tl_q rfl (ev_pick_false rfl rfl) ?_
  refine tl_nil ?_
  refine te_code ?_
  refine t_cond_no rfl (by first | rfl | (simp; done) | (simp; omega) | simp_all) ?_
  refine t_skip ?_
  refine te_code ?_
  refine t_seq ?_
  refine t_region ?_
  refine tl_nil_arr 45 11 encRow ?_
  refine tl_q rfl (ev_assign rfl) ?_
  refine tl_nil ?_
  refine te_code ?_
  refine t_seq ?_
  refine t_seq ?_
  refine t_region ?_
  refine tl_q rfl (ev_assign rfl) ?_
  refine tl_nil ?_
  refine te_code ?_
  refine t_block ?_
  refine t_loop (α := Nat × (Value × List Row) × (Int × Value)) (fun q => [(10, .int .i64 (q.1 : Int)), (9, q.2.1.1), (0, rv), (5, .pointer (some ⟨sb, 0, none⟩)), (7, .pointer (some ⟨y2, 0, none⟩))]) (fun q => [arr 45 11 encRow q.2.1.1 q.2.1.2, iarr 11 encRow rv xs, stB sb eb ob, boxB ob mo 0 0, mp iI letV mo [], engB eb bb hh, holdB hh hb m4 m5, mp iI (fun x : Value => x) m4 [], boardB bb m1 m2 40 1, mp iI rowV m1 [], mp signV iI m2 [], st28 y2 e2 o2, e22 e2 b2 h2, b20 b2 40 q.2.2.1 q.2.2.2, o24 o2 40 1 9 0 0 0 (.slice none 0 0)]) (fun q => 30 - q.1) (fun q => q.1 ≤ 30 ∧ q.1 ≤ xs.length ∧ q.2.1.2.length ≤ q.1 ∧ (∀ r ∈ q.2.1.2, okRow r ∧ r ∈ xs) ∧ (goodL xs 1099511627776 40 → q.2.1.2 = xs.take q.1)) (0, (.slice none 0 0, []), (1, .slice none 0 0)) (by simp) (by exact sub_cons rfl (sub_cons rfl (sub_cons rfl (sub_cons rfl (sub_cons rfl (sub_nil)))))) (fun _ h => hold_keep (by repeat (first | exact Frm.nil | exact Take.here | apply Take.there | apply Frm.cons)) h) ?_
  rintro ⟨i, ⟨kv, ks⟩, ⟨nx, sv2⟩⟩ ⟨hi, hi2, hk, hks, hkx⟩
  try dsimp only
  dsimp only at hi hi2 hk hks hkx
  have hksok : ∀ r ∈ ks, okRow r := fun r hr => (hks r hr).1
  refine t_shape (v := kv) (xs := ks) (enc := encRow) (sz := 11) (by first | exact HasArr.own (by repeat (first | exact List.Mem.head _ | apply List.Mem.tail)) | exact HasArr.sh (by repeat (first | exact List.Mem.head _ | apply List.Mem.tail))) (by intro _; rfl) (fun hsh2 => ?_)
  refine t_seq ?_
  refine t_seq ?_
  refine t_region ?_
  refine tl_q rfl (ev_move rfl) ?_
  refine tl_q rfl (ev_move rfl) ?_
  refine tl_q rfl (ev_len_sh sl_22 rfl (by assumption)) ?_
  refine tl_q rfl (ev_lss rfl rfl) ?_
  refine tl_q rfl (ev_move rfl) ?_
  refine tl_split_dec 54 rfl (fun g8 => ?_) (fun g8 => ?_)
  · refine tl_guard rfl rfl rfl ?_
    refine tl_q rfl (ev_move rfl) ?_
    refine tl_guard rfl rfl rfl ?_
    refine tl_q rfl (ev_lss rfl rfl) ?_
    refine tl_q rfl (ev_pick_true rfl rfl) ?_
    refine tl_nil ?_
    refine te_code ?_
    refine t_cond_dec rfl (fun h0 => ?_) (fun h0 => ?_)
    · obtain ⟨u, hu⟩ := get_ex (show (i : Int) < xs.length by omega)
      have huok : okRow u := hx i u (by omega) hu
      have hmore2 : ∀ r ∈ [] ++ ks ++ [u], okRow r ∧ r ∈ xs := by
        intro r hr; simp at hr; rcases hr with hr | rfl
        · exact hks _ hr
        · exact ⟨huok, List.mem_of_getElem? hu⟩
      have hmore : ∀ r ∈ [] ++ ks ++ [u], okRow r := fun r hr => (hmore2 r hr).1
      refine t_skip ?_
      refine te_code ?_
      refine t_seq ?_
      refine t_block ?_
      refine t_seq ?_
      refine t_drawn_all follows ?_
      refine tr_q 1 rfl (by kernel_rfl) (by kernel_rfl) (by kernel_rfl) rfl (by intro _ h; repeat (first | exact h | replace h := Hold.drop h)) (ev_move rfl) ?_
      refine tr_q 3 rfl (by kernel_rfl) (by kernel_rfl) (by kernel_rfl) rfl (by intro _ h; repeat (first | exact h | replace h := Hold.drop h)) (ev_move rfl) ?_
      refine tr_q 4 rfl (by kernel_rfl) (by kernel_rfl) (by kernel_rfl) rfl (by intro _ h; repeat (first | exact h | replace h := Hold.drop h)) (ev_move rfl) ?_
      refine tr_q 5 rfl (by kernel_rfl) (by kernel_rfl) (by kernel_rfl) rfl (by intro _ h; repeat (first | exact h | replace h := Hold.drop h)) (ev_at_sh sl_22 rfl rfl (by assumption) (by omega)) ?_
      refine tr_q 6 rfl (by kernel_rfl) (by kernel_rfl) (by kernel_rfl) rfl (by intro _ h; repeat (first | exact h | replace h := Hold.drop h)) (ev_load_at_agg ag_45 rfl (by first | exact HasArr.own (by repeat (first | exact List.Mem.head _ | apply List.Mem.tail)) | exact HasArr.sh (by repeat (first | exact List.Mem.head _ | apply List.Mem.tail))) (by intro _; rfl) (by assumption) (by rfl)) ?_
      refine tr_any [0, 7] (by kernel_rfl) (by simp) (all_cons ?_ (all_cons ?_ (all_nil)))
      · refine to_e rfl (eff_buildSl rfl bs_22_0 rfl (by repeat (first | exact FillR.nil | exact LPut.nil | apply LPut.cons | apply LPut.succ | apply FillR.cons rfl rfl rfl))) (by rintro _ _ ⟨_, rfl, rfl⟩; exact (by intro _ h; repeat (first | exact h | replace h := Hold.drop h))) ?_
        rintro _ _ ⟨b60, rfl, rfl⟩
        refine tr_lit (T := 45) (sz := 11) (enc := encRow) [] rfl rfl rfl ?_
        refine tr_any [2, 7] (by kernel_rfl) (by simp) (all_cons ?_ (all_cons ?_ (all_nil)))
        · refine to_e rfl (eff_append (ys := ks) rfl sl_22 Tryz.underlying22 zero_45 rfl by_45 rfl rfl (by repeat (first | exact Take.here | apply Take.there)) ((by first | exact HasArr.own (by repeat (first | exact List.Mem.head _ | apply List.Mem.tail)) | exact HasArr.sh (by repeat (first | exact List.Mem.head _ | apply List.Mem.tail)))) (by intro _; rfl) flatRow (by simp; omega) (by decide)) (by rintro _ _ ⟨_, rfl, rfl⟩; exact (by intro _ h; repeat (first | exact h | replace h := Hold.drop h))) ?_
          rintro _ _ ⟨v62, rfl, rfl⟩
          refine tr_e 7 rfl (by kernel_rfl) (eff_buildSl rfl bs_22_1 rfl (by repeat (first | exact FillR.nil | exact LPut.nil | apply LPut.cons | apply LPut.succ | apply FillR.cons rfl rfl rfl))) (by rintro _ _ ⟨_, rfl, rfl⟩; exact (by intro _ h; repeat (first | exact h | replace h := Hold.drop h))) ?_
          rintro _ _ ⟨b67, rfl, rfl⟩
          refine tr_e 8 rfl (by kernel_rfl) (eff_append (ys := [u]) rfl sl_22 Tryz.underlying22 zero_45 rfl by_45 rfl rfl (by repeat (first | exact Take.here | apply Take.there)) (HasArr.lit (by first | (left; (repeat (first | exact List.Mem.head _ | apply List.Mem.tail)); done) | (right; (repeat (first | exact List.Mem.head _ | apply List.Mem.tail)); done)) rfl rfl) (by intro _; rfl) flatRow (by simp; omega) (by decide)) (by rintro _ _ ⟨_, rfl, rfl⟩; exact (by intro _ h; repeat (first | exact h | replace h := Hold.drop h))) ?_
          rintro _ _ ⟨v68, rfl, rfl⟩
          refine tr_q 9 rfl (by kernel_rfl) (by kernel_rfl) (by kernel_rfl) rfl (by intro _ h; repeat (first | exact h | replace h := Hold.drop h)) (ev_assign rfl) ?_
          refine tr_done (by kernel_rfl) ?_
          refine te_code ?_
          refine t_seq ?_
          refine t_region ?_
          refine tl_q rfl (ev_move rfl) ?_
          refine tl_q rfl (ev_nil_ptr rfl) ?_
          refine tl_q rfl (ev_fieldAddr fa_78_0 rfl rfl) ?_
          refine tl_q rfl (ev_load sc_74 rfl (by first | (left; (repeat (first | exact List.Mem.head _ | apply List.Mem.tail)); done) | (right; (repeat (first | exact List.Mem.head _ | apply List.Mem.tail)); done)) rfl) ?_
          refine tl_q rfl (ev_nil_ptr rfl) ?_
          refine tl_q rfl (ev_fieldAddr fa_73_1 rfl rfl) ?_
          refine tl_q rfl (ev_load sc_67 rfl (by first | (left; (repeat (first | exact List.Mem.head _ | apply List.Mem.tail)); done) | (right; (repeat (first | exact List.Mem.head _ | apply List.Mem.tail)); done)) rfl) ?_
          refine tl_q rfl (ev_move rfl) ?_
          refine tl_e (eff_call rfl rfl body_19 rfl (by repeat (first | exact Frm.nil | exact Take.here | apply Take.there | apply Frm.cons)) (b20_Load_ct _ _ _ _ _ _ (by assumption) (by first | omega | (simp; omega)))) ?_
          rintro _ _ ⟨v77, _, ⟨c20, nx2, sv3, rfl, rfl, h20⟩, rfl, rfl⟩
          refine tl_q rfl (ev_eql rfl rfl) ?_
          refine tl_nil ?_
          refine te_code ?_
          refine t_cond_dec rfl (fun h2 => ?_) (fun h2 => ?_)
          · refine t_region ?_
            refine tl_q rfl (ev_move rfl) ?_
            refine tl_q rfl (ev_assign rfl) ?_
            refine tl_nil ?_
            refine te_blk ?_
            refine te_code ?_
            refine t_region ?_
            refine tl_q rfl (ev_move rfl) ?_
            refine tl_q rfl (ev_add' rfl rfl (by omega)) ?_
            refine tl_q rfl (ev_assign rfl) ?_
            refine tl_nil ?_
            exact te_round (i + 1, (_, _), (_, _)) (by exact sub_cons rfl (sub_cons rfl (sub_cons rfl (sub_cons rfl (sub_cons rfl (sub_nil)))))) (fun _ h => hold_keep (by repeat (first | exact Frm.nil | exact Take.here | apply Take.there | apply Frm.cons)) h) ⟨by dsimp only; omega, by dsimp only; omega, by dsimp only; first | omega | (simp; omega), by intro r hr; dsimp only at hr; first | exact hks r hr | exact hmore2 r hr, fun g => by
                  dsimp only
                  have e : [] ++ ks ++ [u] = xs.take (i + 1) := (by rw [hkx g]; simpa using take_snoc hu)
                  first | exact e | exact absurd (h20 (by rw [e]; exact goodL_take g _)) (by assumption)⟩ (by dsimp only; omega)
          · refine t_skip ?_
            refine te_blk ?_
            refine te_code ?_
            refine t_region ?_
            refine tl_q rfl (ev_move rfl) ?_
            refine tl_q rfl (ev_add' rfl rfl (by omega)) ?_
            refine tl_q rfl (ev_assign rfl) ?_
            refine tl_nil ?_
            exact te_round (i + 1, (_, _), (_, _)) (by exact sub_cons rfl (sub_cons rfl (sub_cons rfl (sub_cons rfl (sub_cons rfl (sub_nil)))))) (fun _ h => hold_keep (by repeat (first | exact Frm.nil | exact Take.here | apply Take.there | apply Frm.cons)) h) ⟨by dsimp only; omega, by dsimp only; omega, by dsimp only; first | omega | (simp; omega), by intro r hr; dsimp only at hr; first | exact hks r hr | exact hmore2 r hr, fun g => by
                  dsimp only
                  have e : [] ++ ks ++ [u] = xs.take (i + 1) := (by rw [hkx g]; simpa using take_snoc hu)
                  first | exact e | exact absurd (h20 (by rw [e]; exact goodL_take g _)) (by assumption)⟩ (by dsimp only; omega)
        · refine to_e rfl (eff_buildSl rfl bs_22_1 rfl (by repeat (first | exact FillR.nil | exact LPut.nil | apply LPut.cons | apply LPut.succ | apply FillR.cons rfl rfl rfl))) (by rintro _ _ ⟨_, rfl, rfl⟩; exact (by intro _ h; repeat (first | exact h | replace h := Hold.drop h))) ?_
          rintro _ _ ⟨b67, rfl, rfl⟩
          refine tr_e 2 rfl (by kernel_rfl) (eff_append (ys := ks) rfl sl_22 Tryz.underlying22 zero_45 rfl by_45 rfl rfl (by repeat (first | exact Take.here | apply Take.there)) ((by first | exact HasArr.own (by repeat (first | exact List.Mem.head _ | apply List.Mem.tail)) | exact HasArr.sh (by repeat (first | exact List.Mem.head _ | apply List.Mem.tail)))) (by intro _; rfl) flatRow (by simp; omega) (by decide)) (by rintro _ _ ⟨_, rfl, rfl⟩; exact (by intro _ h; repeat (first | exact h | replace h := Hold.drop h))) ?_
          rintro _ _ ⟨v62, rfl, rfl⟩
          refine tr_e 8 rfl (by kernel_rfl) (eff_append (ys := [u]) rfl sl_22 Tryz.underlying22 zero_45 rfl by_45 rfl rfl (by repeat (first | exact Take.here | apply Take.there)) (HasArr.lit (by first | (left; (repeat (first | exact List.Mem.head _ | apply List.Mem.tail)); done) | (right; (repeat (first | exact List.Mem.head _ | apply List.Mem.tail)); done)) rfl rfl) (by intro _; rfl) flatRow (by simp; omega) (by decide)) (by rintro _ _ ⟨_, rfl, rfl⟩; exact (by intro _ h; repeat (first | exact h | replace h := Hold.drop h))) ?_
          rintro _ _ ⟨v68, rfl, rfl⟩
          refine tr_q 9 rfl (by kernel_rfl) (by kernel_rfl) (by kernel_rfl) rfl (by intro _ h; repeat (first | exact h | replace h := Hold.drop h)) (ev_assign rfl) ?_
          refine tr_done (by kernel_rfl) ?_
          refine te_code ?_
          refine t_seq ?_
          refine t_region ?_
          refine tl_q rfl (ev_move rfl) ?_
          refine tl_q rfl (ev_nil_ptr rfl) ?_
          refine tl_q rfl (ev_fieldAddr fa_78_0 rfl rfl) ?_
          refine tl_q rfl (ev_load sc_74 rfl (by first | (left; (repeat (first | exact List.Mem.head _ | apply List.Mem.tail)); done) | (right; (repeat (first | exact List.Mem.head _ | apply List.Mem.tail)); done)) rfl) ?_
          refine tl_q rfl (ev_nil_ptr rfl) ?_
          refine tl_q rfl (ev_fieldAddr fa_73_1 rfl rfl) ?_
          refine tl_q rfl (ev_load sc_67 rfl (by first | (left; (repeat (first | exact List.Mem.head _ | apply List.Mem.tail)); done) | (right; (repeat (first | exact List.Mem.head _ | apply List.Mem.tail)); done)) rfl) ?_
          refine tl_q rfl (ev_move rfl) ?_
          refine tl_e (eff_call rfl rfl body_19 rfl (by repeat (first | exact Frm.nil | exact Take.here | apply Take.there | apply Frm.cons)) (b20_Load_ct _ _ _ _ _ _ (by assumption) (by first | omega | (simp; omega)))) ?_
          rintro _ _ ⟨v77, _, ⟨c20, nx2, sv3, rfl, rfl, h20⟩, rfl, rfl⟩
          refine tl_q rfl (ev_eql rfl rfl) ?_
          refine tl_nil ?_
          refine te_code ?_
          refine t_cond_dec rfl (fun h2 => ?_) (fun h2 => ?_)
          · refine t_region ?_
            refine tl_q rfl (ev_move rfl) ?_
            refine tl_q rfl (ev_assign rfl) ?_
            refine tl_nil ?_
            refine te_blk ?_
            refine te_code ?_
            refine t_region ?_
            refine tl_q rfl (ev_move rfl) ?_
            refine tl_q rfl (ev_add' rfl rfl (by omega)) ?_
            refine tl_q rfl (ev_assign rfl) ?_
            refine tl_nil ?_
            exact te_round (i + 1, (_, _), (_, _)) (by exact sub_cons rfl (sub_cons rfl (sub_cons rfl (sub_cons rfl (sub_cons rfl (sub_nil)))))) (fun _ h => hold_keep (by repeat (first | exact Frm.nil | exact Take.here | apply Take.there | apply Frm.cons)) h) ⟨by dsimp only; omega, by dsimp only; omega, by dsimp only; first | omega | (simp; omega), by intro r hr; dsimp only at hr; first | exact hks r hr | exact hmore2 r hr, fun g => by
                  dsimp only
                  have e : [] ++ ks ++ [u] = xs.take (i + 1) := (by rw [hkx g]; simpa using take_snoc hu)
                  first | exact e | exact absurd (h20 (by rw [e]; exact goodL_take g _)) (by assumption)⟩ (by dsimp only; omega)
          · refine t_skip ?_
            refine te_blk ?_
            refine te_code ?_
            refine t_region ?_
            refine tl_q rfl (ev_move rfl) ?_
            refine tl_q rfl (ev_add' rfl rfl (by omega)) ?_
            refine tl_q rfl (ev_assign rfl) ?_
            refine tl_nil ?_
            exact te_round (i + 1, (_, _), (_, _)) (by exact sub_cons rfl (sub_cons rfl (sub_cons rfl (sub_cons rfl (sub_cons rfl (sub_nil)))))) (fun _ h => hold_keep (by repeat (first | exact Frm.nil | exact Take.here | apply Take.there | apply Frm.cons)) h) ⟨by dsimp only; omega, by dsimp only; omega, by dsimp only; first | omega | (simp; omega), by intro r hr; dsimp only at hr; first | exact hks r hr | exact hmore2 r hr, fun g => by
                  dsimp only
                  have e : [] ++ ks ++ [u] = xs.take (i + 1) := (by rw [hkx g]; simpa using take_snoc hu)
                  first | exact e | exact absurd (h20 (by rw [e]; exact goodL_take g _)) (by assumption)⟩ (by dsimp only; omega)
      · refine to_e rfl (eff_buildSl rfl bs_22_1 rfl (by repeat (first | exact FillR.nil | exact LPut.nil | apply LPut.cons | apply LPut.succ | apply FillR.cons rfl rfl rfl))) (by rintro _ _ ⟨_, rfl, rfl⟩; exact (by intro _ h; repeat (first | exact h | replace h := Hold.drop h))) ?_
        rintro _ _ ⟨b67, rfl, rfl⟩
        refine tr_e 0 rfl (by kernel_rfl) (eff_buildSl rfl bs_22_0 rfl (by repeat (first | exact FillR.nil | exact LPut.nil | apply LPut.cons | apply LPut.succ | apply FillR.cons rfl rfl rfl))) (by rintro _ _ ⟨_, rfl, rfl⟩; exact (by intro _ h; repeat (first | exact h | replace h := Hold.drop h))) ?_
        rintro _ _ ⟨b60, rfl, rfl⟩
        refine tr_lit (T := 45) (sz := 11) (enc := encRow) [] rfl rfl rfl ?_
        refine tr_e 2 rfl (by kernel_rfl) (eff_append (ys := ks) rfl sl_22 Tryz.underlying22 zero_45 rfl by_45 rfl rfl (by repeat (first | exact Take.here | apply Take.there)) ((by first | exact HasArr.own (by repeat (first | exact List.Mem.head _ | apply List.Mem.tail)) | exact HasArr.sh (by repeat (first | exact List.Mem.head _ | apply List.Mem.tail)))) (by intro _; rfl) flatRow (by simp; omega) (by decide)) (by rintro _ _ ⟨_, rfl, rfl⟩; exact (by intro _ h; repeat (first | exact h | replace h := Hold.drop h))) ?_
        rintro _ _ ⟨v62, rfl, rfl⟩
        refine tr_e 8 rfl (by kernel_rfl) (eff_append (ys := [u]) rfl sl_22 Tryz.underlying22 zero_45 rfl by_45 rfl rfl (by repeat (first | exact Take.here | apply Take.there)) (HasArr.lit (by first | (left; (repeat (first | exact List.Mem.head _ | apply List.Mem.tail)); done) | (right; (repeat (first | exact List.Mem.head _ | apply List.Mem.tail)); done)) rfl rfl) (by intro _; rfl) flatRow (by simp; omega) (by decide)) (by rintro _ _ ⟨_, rfl, rfl⟩; exact (by intro _ h; repeat (first | exact h | replace h := Hold.drop h))) ?_
        rintro _ _ ⟨v68, rfl, rfl⟩
        refine tr_q 9 rfl (by kernel_rfl) (by kernel_rfl) (by kernel_rfl) rfl (by intro _ h; repeat (first | exact h | replace h := Hold.drop h)) (ev_assign rfl) ?_
        refine tr_done (by kernel_rfl) ?_
        refine te_code ?_
        refine t_seq ?_
        refine t_region ?_
        refine tl_q rfl (ev_move rfl) ?_
        refine tl_q rfl (ev_nil_ptr rfl) ?_
        refine tl_q rfl (ev_fieldAddr fa_78_0 rfl rfl) ?_
        refine tl_q rfl (ev_load sc_74 rfl (by first | (left; (repeat (first | exact List.Mem.head _ | apply List.Mem.tail)); done) | (right; (repeat (first | exact List.Mem.head _ | apply List.Mem.tail)); done)) rfl) ?_
        refine tl_q rfl (ev_nil_ptr rfl) ?_
        refine tl_q rfl (ev_fieldAddr fa_73_1 rfl rfl) ?_
        refine tl_q rfl (ev_load sc_67 rfl (by first | (left; (repeat (first | exact List.Mem.head _ | apply List.Mem.tail)); done) | (right; (repeat (first | exact List.Mem.head _ | apply List.Mem.tail)); done)) rfl) ?_
        refine tl_q rfl (ev_move rfl) ?_
        refine tl_e (eff_call rfl rfl body_19 rfl (by repeat (first | exact Frm.nil | exact Take.here | apply Take.there | apply Frm.cons)) (b20_Load_ct _ _ _ _ _ _ (by assumption) (by first | omega | (simp; omega)))) ?_
        rintro _ _ ⟨v77, _, ⟨c20, nx2, sv3, rfl, rfl, h20⟩, rfl, rfl⟩
        refine tl_q rfl (ev_eql rfl rfl) ?_
        refine tl_nil ?_
        refine te_code ?_
        refine t_cond_dec rfl (fun h2 => ?_) (fun h2 => ?_)
        · refine t_region ?_
          refine tl_q rfl (ev_move rfl) ?_
          refine tl_q rfl (ev_assign rfl) ?_
          refine tl_nil ?_
          refine te_blk ?_
          refine te_code ?_
          refine t_region ?_
          refine tl_q rfl (ev_move rfl) ?_
          refine tl_q rfl (ev_add' rfl rfl (by omega)) ?_
          refine tl_q rfl (ev_assign rfl) ?_
          refine tl_nil ?_
          exact te_round (i + 1, (_, _), (_, _)) (by exact sub_cons rfl (sub_cons rfl (sub_cons rfl (sub_cons rfl (sub_cons rfl (sub_nil)))))) (fun _ h => hold_keep (by repeat (first | exact Frm.nil | exact Take.here | apply Take.there | apply Frm.cons)) h) ⟨by dsimp only; omega, by dsimp only; omega, by dsimp only; first | omega | (simp; omega), by intro r hr; dsimp only at hr; first | exact hks r hr | exact hmore2 r hr, fun g => by
                dsimp only
                have e : [] ++ ks ++ [u] = xs.take (i + 1) := (by rw [hkx g]; simpa using take_snoc hu)
                first | exact e | exact absurd (h20 (by rw [e]; exact goodL_take g _)) (by assumption)⟩ (by dsimp only; omega)
        · refine t_skip ?_
          refine te_blk ?_
          refine te_code ?_
          refine t_region ?_
          refine tl_q rfl (ev_move rfl) ?_
          refine tl_q rfl (ev_add' rfl rfl (by omega)) ?_
          refine tl_q rfl (ev_assign rfl) ?_
          refine tl_nil ?_
          exact te_round (i + 1, (_, _), (_, _)) (by exact sub_cons rfl (sub_cons rfl (sub_cons rfl (sub_cons rfl (sub_cons rfl (sub_nil)))))) (fun _ h => hold_keep (by repeat (first | exact Frm.nil | exact Take.here | apply Take.there | apply Frm.cons)) h) ⟨by dsimp only; omega, by dsimp only; omega, by dsimp only; first | omega | (simp; omega), by intro r hr; dsimp only at hr; first | exact hks r hr | exact hmore2 r hr, fun g => by
                dsimp only
                have e : [] ++ ks ++ [u] = xs.take (i + 1) := (by rw [hkx g]; simpa using take_snoc hu)
                first | exact e | exact absurd (h20 (by rw [e]; exact goodL_take g _)) (by assumption)⟩ (by dsimp only; omega)
    · refine t_exit ?_
      refine te_exit_code ?_
      refine te_exit_rnd ?_
      refine te_exit_here ?_
      refine te_code ?_
      refine t_seq ?_
      refine t_region ?_
      refine tl_q rfl (ev_move rfl) ?_
      refine tl_q rfl (ev_nil_ptr rfl) ?_
      refine tl_q rfl (ev_fieldAddr fa_78_0 rfl rfl) ?_
      refine tl_q rfl (ev_load sc_74 rfl (by first | (left; (repeat (first | exact List.Mem.head _ | apply List.Mem.tail)); done) | (right; (repeat (first | exact List.Mem.head _ | apply List.Mem.tail)); done)) rfl) ?_
      refine tl_q rfl (ev_nil_ptr rfl) ?_
      refine tl_q rfl (ev_fieldAddr fa_73_1 rfl rfl) ?_
      refine tl_q rfl (ev_load sc_67 rfl (by first | (left; (repeat (first | exact List.Mem.head _ | apply List.Mem.tail)); done) | (right; (repeat (first | exact List.Mem.head _ | apply List.Mem.tail)); done)) rfl) ?_
      refine tl_q rfl (ev_move rfl) ?_
      refine tl_e (eff_call rfl rfl body_19 rfl (by repeat (first | exact Frm.nil | exact Take.here | apply Take.there | apply Frm.cons)) (b20_Load_ct _ _ _ _ _ _ (by assumption) (by first | omega | (simp; omega)))) ?_
      rintro _ _ ⟨v88, _, ⟨c20, nx2, sv3, rfl, rfl, h20⟩, rfl, rfl⟩
      refine tl_nil ?_
      refine te_code ?_
      refine t_seq ?_
      refine t_region ?_
      refine tl_q rfl (ev_move rfl) ?_
      refine tl_q rfl (ev_nil_ptr rfl) ?_
      refine tl_q rfl (ev_fieldAddr fa_35_0 rfl rfl) ?_
      refine tl_q rfl (ev_load sc_30 rfl (by first | (left; (repeat (first | exact List.Mem.head _ | apply List.Mem.tail)); done) | (right; (repeat (first | exact List.Mem.head _ | apply List.Mem.tail)); done)) rfl) ?_
      refine tl_e (eff_call rfl rfl body_7 rfl (by repeat (first | exact Frm.nil | exact Take.here | apply Take.there | apply Frm.cons)) (eng_Board_ct _ _ _)) ?_
      rintro _ _ ⟨v93, _, ⟨rfl, rfl⟩, rfl, rfl⟩
      refine tl_q rfl (ev_move rfl) ?_
      refine tl_e (eff_call rfl rfl body_20 rfl (by repeat (first | exact Frm.nil | exact Take.here | apply Take.there | apply Frm.cons)) (board_Load_ct _ _ _ _ _ _ _ _ _ _ (by assumption) (by omega))) ?_
      rintro _ _ ⟨v95, _, ⟨c30, nxb, rowsb, idsb, rfl, rfl, hb1, hb2, hb3⟩, rfl, rfl⟩
      refine tl_nil ?_
      refine te_code ?_
      refine t_seq ?_
      refine t_seq ?_
      refine t_region ?_
      obtain ⟨kz, hkz, hkl, hkr, hkg⟩ : ∃ kz, rowsb = rowsOf kz ∧ kz.length ≤ 30 ∧ (∀ r ∈ kz, okRow r ∧ r ∈ xs ∧ 1 ≤ r.id ∧ r.id < 1099511627776) ∧ (goodL xs 1099511627776 40 → xs.length ≤ 30 → kz = xs) := by
        have hall : goodL xs 1099511627776 40 → xs.length ≤ 30 → ks = xs := fun g hl => by
          rw [hkx g]; apply List.take_of_length_le; omega
        by_cases e : c30 = 0
        · exact ⟨ks, (hb2 e).1, by omega, fun r hr => ⟨(hks r hr).1, (hks r hr).2, (hb2 e).2 r hr⟩, hall⟩
        · exact ⟨[], hb1 e, by simp, by simp, fun g hl => absurd (hb3 (by rw [hall g hl]; exact g)) e⟩
      subst hkz
      refine tl_nil_arr 135 15 encLet ?_
      refine tl_q rfl (ev_assign rfl) ?_
      refine tl_nil ?_
      refine te_code ?_
      refine t_block ?_
      refine t_loop (α := Nat × (Int × Int × List (Int × Letter)) × (Int × Int × Value × List Letter)) (fun q => [(12, .int .i64 (q.1 : Int)), (9, kv), (5, .pointer (some ⟨sb, 0, none⟩)), (7, .pointer (some ⟨y2, 0, none⟩))]) (fun q => [arr 45 11 encRow kv ks, iarr 11 encRow rv xs, stB sb eb ob, boxB ob mo q.2.1.1 q.2.1.2.1, mp iI letV mo q.2.1.2.2, engB eb bb hh, holdB hh hb m4 m5, mp iI (fun x : Value => x) m4 [], boardB bb m1 m2 40 nxb, mp iI rowV m1 (rowsOf kz), mp signV iI m2 idsb, st28 y2 e2 o2, e22 e2 b2 h2, b20 b2 40 nx2 sv3, o24 o2 40 1 9 q.2.2.1 q.2.2.2.1 0 q.2.2.2.2.1, arr 135 15 encLet q.2.2.2.2.1 q.2.2.2.2.2]) (fun q => ks.length - q.1) (fun q => q.1 ≤ ks.length ∧ (0 ≤ q.2.1.1 ∧ q.2.1.1 ≤ q.1) ∧ (0 ≤ q.2.1.2.1 ∧ q.2.1.2.1 ≤ q.1) ∧ (0 ≤ q.2.2.1 ∧ q.2.2.1 ≤ q.1) ∧ (0 ≤ q.2.2.2.1 ∧ q.2.2.2.1 ≤ q.1) ∧ q.2.2.2.2.2.length ≤ q.1 ∧ q.2.1.2.2.length ≤ q.1) (0, (0, 0, []), (0, 0, .slice none 0 0, [])) (by simp) (by exact sub_cons rfl (sub_cons rfl (sub_cons rfl (sub_cons rfl (sub_nil))))) (fun _ h => hold_keep (by repeat (first | exact Frm.nil | exact Take.here | apply Take.there | apply Frm.cons)) h) ?_
      rintro ⟨j, ⟨la, re, ls⟩, ⟨lb, rb, so, lo⟩⟩ ⟨hj, hj1, hj2, hj3, hj4, hj5, hj6⟩
      try dsimp only
      dsimp only at hj hj1 hj2 hj3 hj4 hj5 hj6
      refine t_seq ?_
      refine t_seq ?_
      refine t_region ?_
      refine tl_q rfl (ev_move rfl) ?_
      refine tl_q rfl (ev_move rfl) ?_
      refine tl_q rfl (ev_len_sh sl_22 rfl (by assumption)) ?_
      refine tl_q rfl (ev_lss rfl rfl) ?_
      refine tl_nil ?_
      refine te_code ?_
      refine t_cond_dec rfl (fun h3 => ?_) (fun h3 => ?_)
      · obtain ⟨u, hu⟩ := get_ex (show (j : Int) < ks.length by omega)
        have huok : okRow u := (hks u (List.mem_of_getElem? hu)).1
        refine t_skip ?_
        refine te_code ?_
        refine t_seq ?_
        refine t_block ?_
        refine t_seq ?_
        refine t_drawn_frm (pre := [boxB ob mo la re, mp iI letV mo ls]) (by repeat (first | exact Frm.nil | exact Take.here | apply Take.there | apply Frm.cons)) follows ?_
        refine tr_q 0 rfl (by kernel_rfl) (by kernel_rfl) (by kernel_rfl) rfl (fun _ h => hold_frm (pre := [boxB ob mo la re, mp iI letV mo ls]) (by repeat (first | exact Frm.nil | exact Take.here | apply Take.there | apply Frm.cons)) h) (ev_move rfl) ?_
        refine tr_q 1 rfl (by kernel_rfl) (by kernel_rfl) (by kernel_rfl) rfl (fun _ h => hold_frm (pre := [boxB ob mo la re, mp iI letV mo ls]) (by repeat (first | exact Frm.nil | exact Take.here | apply Take.there | apply Frm.cons)) h) (ev_nil_ptr rfl) ?_
        refine tr_q 2 rfl (by kernel_rfl) (by kernel_rfl) (by kernel_rfl) rfl (fun _ h => hold_frm (pre := [boxB ob mo la re, mp iI letV mo ls]) (by repeat (first | exact Frm.nil | exact Take.here | apply Take.there | apply Frm.cons)) h) (ev_fieldAddr fa_35_1 rfl rfl) ?_
        refine tr_q 3 rfl (by kernel_rfl) (by kernel_rfl) (by kernel_rfl) rfl (fun _ h => hold_frm (pre := [boxB ob mo la re, mp iI letV mo ls]) (by repeat (first | exact Frm.nil | exact Take.here | apply Take.there | apply Frm.cons)) h) (ev_load sc_31 rfl (by first | (left; (repeat (first | exact List.Mem.head _ | apply List.Mem.tail)); done) | (right; (repeat (first | exact List.Mem.head _ | apply List.Mem.tail)); done)) rfl) ?_
        refine tr_q 4 rfl (by kernel_rfl) (by kernel_rfl) (by kernel_rfl) rfl (fun _ h => hold_frm (pre := [boxB ob mo la re, mp iI letV mo ls]) (by repeat (first | exact Frm.nil | exact Take.here | apply Take.there | apply Frm.cons)) h) (ev_move rfl) ?_
        refine tr_q 5 rfl (by kernel_rfl) (by kernel_rfl) (by kernel_rfl) rfl (fun _ h => hold_frm (pre := [boxB ob mo la re, mp iI letV mo ls]) (by repeat (first | exact Frm.nil | exact Take.here | apply Take.there | apply Frm.cons)) h) (ev_move rfl) ?_
        refine tr_q 6 rfl (by kernel_rfl) (by kernel_rfl) (by kernel_rfl) rfl (fun _ h => hold_frm (pre := [boxB ob mo la re, mp iI letV mo ls]) (by repeat (first | exact Frm.nil | exact Take.here | apply Take.there | apply Frm.cons)) h) (ev_at_sh sl_22 rfl rfl (by assumption) (by omega)) ?_
        refine tr_q 7 rfl (by kernel_rfl) (by kernel_rfl) (by kernel_rfl) rfl (fun _ h => hold_frm (pre := [boxB ob mo la re, mp iI letV mo ls]) (by repeat (first | exact Frm.nil | exact Take.here | apply Take.there | apply Frm.cons)) h) (ev_load_at_agg ag_45 rfl (by first | exact HasArr.own (by repeat (first | exact List.Mem.head _ | apply List.Mem.tail)) | exact HasArr.sh (by repeat (first | exact List.Mem.head _ | apply List.Mem.tail))) (by intro _; rfl) (by assumption) (by rfl)) ?_
        refine tr_e 8 rfl (by kernel_rfl) (eff_call rfl rfl body_21 rfl (by repeat (first | exact Frm.nil | exact Take.here | apply Take.there | apply Frm.cons)) (outbox_Put_ct _ _ _ _ _ _ (by assumption) (by omega) (by omega))) (by rintro _ _ ⟨_, _, ⟨seq, c, last2, ref2, ls2, rfl, rfl, hl2, hr2, hls3⟩, rfl, rfl⟩; exact (fun _ h => hold_behind h)) ?_
        rintro _ _ ⟨v110, _, ⟨seq, c, last2, ref2, ls2, rfl, rfl, hl2, hr2, hls3⟩, rfl, rfl⟩
        refine tr_done (by kernel_rfl) ?_
        refine te_code ?_
        refine t_drawn_frm (pre := [o24 o2 40 1 9 lb rb 0 so, arr 135 15 encLet so lo]) (by repeat (first | exact Frm.nil | exact Take.here | apply Take.there | apply Frm.cons)) follows ?_
        refine tr_q 0 rfl (by kernel_rfl) (by kernel_rfl) (by kernel_rfl) rfl (fun _ h => hold_frm (pre := [o24 o2 40 1 9 lb rb 0 so, arr 135 15 encLet so lo]) (by repeat (first | exact Frm.nil | exact Take.here | apply Take.there | apply Frm.cons)) h) (ev_move rfl) ?_
        refine tr_q 1 rfl (by kernel_rfl) (by kernel_rfl) (by kernel_rfl) rfl (fun _ h => hold_frm (pre := [o24 o2 40 1 9 lb rb 0 so, arr 135 15 encLet so lo]) (by repeat (first | exact Frm.nil | exact Take.here | apply Take.there | apply Frm.cons)) h) (ev_nil_ptr rfl) ?_
        refine tr_q 2 rfl (by kernel_rfl) (by kernel_rfl) (by kernel_rfl) rfl (fun _ h => hold_frm (pre := [o24 o2 40 1 9 lb rb 0 so, arr 135 15 encLet so lo]) (by repeat (first | exact Frm.nil | exact Take.here | apply Take.there | apply Frm.cons)) h) (ev_fieldAddr fa_78_1 rfl rfl) ?_
        refine tr_q 3 rfl (by kernel_rfl) (by kernel_rfl) (by kernel_rfl) rfl (fun _ h => hold_frm (pre := [o24 o2 40 1 9 lb rb 0 so, arr 135 15 encLet so lo]) (by repeat (first | exact Frm.nil | exact Take.here | apply Take.there | apply Frm.cons)) h) (ev_load sc_75 rfl (by first | (left; (repeat (first | exact List.Mem.head _ | apply List.Mem.tail)); done) | (right; (repeat (first | exact List.Mem.head _ | apply List.Mem.tail)); done)) rfl) ?_
        refine tr_q 4 rfl (by kernel_rfl) (by kernel_rfl) (by kernel_rfl) rfl (fun _ h => hold_frm (pre := [o24 o2 40 1 9 lb rb 0 so, arr 135 15 encLet so lo]) (by repeat (first | exact Frm.nil | exact Take.here | apply Take.there | apply Frm.cons)) h) (ev_move rfl) ?_
        refine tr_q 5 rfl (by kernel_rfl) (by kernel_rfl) (by kernel_rfl) rfl (fun _ h => hold_frm (pre := [o24 o2 40 1 9 lb rb 0 so, arr 135 15 encLet so lo]) (by repeat (first | exact Frm.nil | exact Take.here | apply Take.there | apply Frm.cons)) h) (ev_move rfl) ?_
        refine tr_q 6 rfl (by kernel_rfl) (by kernel_rfl) (by kernel_rfl) rfl (fun _ h => hold_frm (pre := [o24 o2 40 1 9 lb rb 0 so, arr 135 15 encLet so lo]) (by repeat (first | exact Frm.nil | exact Take.here | apply Take.there | apply Frm.cons)) h) (ev_at_sh sl_22 rfl rfl (by assumption) (by omega)) ?_
        refine tr_q 7 rfl (by kernel_rfl) (by kernel_rfl) (by kernel_rfl) rfl (fun _ h => hold_frm (pre := [o24 o2 40 1 9 lb rb 0 so, arr 135 15 encLet so lo]) (by repeat (first | exact Frm.nil | exact Take.here | apply Take.there | apply Frm.cons)) h) (ev_load_at_agg ag_45 rfl (by first | exact HasArr.own (by repeat (first | exact List.Mem.head _ | apply List.Mem.tail)) | exact HasArr.sh (by repeat (first | exact List.Mem.head _ | apply List.Mem.tail))) (by intro _; rfl) (by assumption) (by rfl)) ?_
        refine tr_e 8 rfl (by kernel_rfl) (eff_call rfl rfl body_22 rfl (by repeat (first | exact Frm.nil | exact Take.here | apply Take.there | apply Frm.cons)) (o24_Put_ct _ _ _ _ _ (by omega) _ (by assumption) (by omega) (by omega))) (by rintro _ _ ⟨_, _, ⟨seq, c, last2, ref2, sv2, ls2, rfl, rfl, hl2, hr2, hls2⟩, rfl, rfl⟩; exact (fun _ h => hold_behind h)) ?_
        rintro _ _ ⟨v119, _, ⟨seq, c, last2, ref2, sv2, ls2, rfl, rfl, hl2, hr2, hls2⟩, rfl, rfl⟩
        refine tr_done (by kernel_rfl) ?_
        refine te_blk ?_
        refine te_code ?_
        refine t_region ?_
        refine tl_q rfl (ev_move rfl) ?_
        refine tl_q rfl (ev_add' rfl rfl (by omega)) ?_
        refine tl_q rfl (ev_assign rfl) ?_
        refine tl_nil ?_
        exact te_round (j + 1, (_, _, _), (_, _, _, _)) (by exact sub_cons rfl (sub_cons rfl (sub_cons rfl (sub_cons rfl (sub_nil))))) (fun _ h => hold_keep (by repeat (first | exact Frm.nil | exact Take.here | apply Take.there | apply Frm.cons)) h) ⟨by dsimp only; omega, by dsimp only; omega, by dsimp only; omega, by dsimp only; omega, by dsimp only; omega, by dsimp only; omega, by dsimp only; omega⟩ (by dsimp only; omega)
      · refine t_exit ?_
        refine te_exit_code ?_
        refine te_exit_rnd ?_
        refine te_exit_here ?_
        refine te_code ?_
        refine t_seq ?_
        refine t_region ?_
        refine tl_q rfl (ev_move rfl) ?_
        refine tl_q rfl (ev_move rfl) ?_
        refine tl_q rfl (ev_assign rfl) ?_
        refine tl_q rfl (ev_assign rfl) ?_
        refine tl_nil ?_
        refine te_code ?_
        refine t_ret ?_
        refine te_ret_k (pre := [stB sb eb ob, boxB ob mo _ _, mp iI letV mo _, engB eb bb hh, holdB hh hb m4 m5, mp iI (fun x : Value => x) m4 [], boardB bb m1 m2 40 _, mp iI rowV m1 _, mp signV iI m2 _, iarr 11 encRow rv xs]) (res2 rfl rfl rfl) (by repeat (first | exact Frm.nil | exact Take.here | apply Take.there | apply Frm.cons)) ?_
        exact ⟨_, _, _, _, _, _, _, _, _, _, _, _, _, _, _, _, _, _, rfl, rfl, by omega, by assumption, by omega, by omega, by omega, by assumption⟩
  · refine tl_guard_no rfl rfl rfl rfl ?_
    refine tl_guard_no rfl rfl rfl rfl ?_
    refine tl_q rfl (ev_pick_false rfl rfl) ?_
    refine tl_nil ?_
    refine te_code ?_
    refine t_cond_false rfl ?_
    refine t_exit ?_
    refine te_exit_code ?_
    refine te_exit_rnd ?_
    refine te_exit_here ?_
    refine te_code ?_
    refine t_seq ?_
    refine t_region ?_
    refine tl_q rfl (ev_move rfl) ?_
    refine tl_q rfl (ev_nil_ptr rfl) ?_
    refine tl_q rfl (ev_fieldAddr fa_78_0 rfl rfl) ?_
    refine tl_q rfl (ev_load sc_74 rfl (by first | (left; (repeat (first | exact List.Mem.head _ | apply List.Mem.tail)); done) | (right; (repeat (first | exact List.Mem.head _ | apply List.Mem.tail)); done)) rfl) ?_
    refine tl_q rfl (ev_nil_ptr rfl) ?_
    refine tl_q rfl (ev_fieldAddr fa_73_1 rfl rfl) ?_
    refine tl_q rfl (ev_load sc_67 rfl (by first | (left; (repeat (first | exact List.Mem.head _ | apply List.Mem.tail)); done) | (right; (repeat (first | exact List.Mem.head _ | apply List.Mem.tail)); done)) rfl) ?_
    refine tl_q rfl (ev_move rfl) ?_
    refine tl_e (eff_call rfl rfl body_19 rfl (by repeat (first | exact Frm.nil | exact Take.here | apply Take.there | apply Frm.cons)) (b20_Load_ct _ _ _ _ _ _ (by assumption) (by first | omega | (simp; omega)))) ?_
    rintro _ _ ⟨v88, _, ⟨c20, nx2, sv3, rfl, rfl, h20⟩, rfl, rfl⟩
    refine tl_nil ?_
    refine te_code ?_
    refine t_seq ?_
    refine t_region ?_
    refine tl_q rfl (ev_move rfl) ?_
    refine tl_q rfl (ev_nil_ptr rfl) ?_
    refine tl_q rfl (ev_fieldAddr fa_35_0 rfl rfl) ?_
    refine tl_q rfl (ev_load sc_30 rfl (by first | (left; (repeat (first | exact List.Mem.head _ | apply List.Mem.tail)); done) | (right; (repeat (first | exact List.Mem.head _ | apply List.Mem.tail)); done)) rfl) ?_
    refine tl_e (eff_call rfl rfl body_7 rfl (by repeat (first | exact Frm.nil | exact Take.here | apply Take.there | apply Frm.cons)) (eng_Board_ct _ _ _)) ?_
    rintro _ _ ⟨v93, _, ⟨rfl, rfl⟩, rfl, rfl⟩
    refine tl_q rfl (ev_move rfl) ?_
    refine tl_e (eff_call rfl rfl body_20 rfl (by repeat (first | exact Frm.nil | exact Take.here | apply Take.there | apply Frm.cons)) (board_Load_ct _ _ _ _ _ _ _ _ _ _ (by assumption) (by omega))) ?_
    rintro _ _ ⟨v95, _, ⟨c30, nxb, rowsb, idsb, rfl, rfl, hb1, hb2, hb3⟩, rfl, rfl⟩
    refine tl_nil ?_
    refine te_code ?_
    refine t_seq ?_
    refine t_seq ?_
    refine t_region ?_
    obtain ⟨kz, hkz, hkl, hkr, hkg⟩ : ∃ kz, rowsb = rowsOf kz ∧ kz.length ≤ 30 ∧ (∀ r ∈ kz, okRow r ∧ r ∈ xs ∧ 1 ≤ r.id ∧ r.id < 1099511627776) ∧ (goodL xs 1099511627776 40 → xs.length ≤ 30 → kz = xs) := by
      have hall : goodL xs 1099511627776 40 → xs.length ≤ 30 → ks = xs := fun g hl => by
        rw [hkx g]; apply List.take_of_length_le; omega
      by_cases e : c30 = 0
      · exact ⟨ks, (hb2 e).1, by omega, fun r hr => ⟨(hks r hr).1, (hks r hr).2, (hb2 e).2 r hr⟩, hall⟩
      · exact ⟨[], hb1 e, by simp, by simp, fun g hl => absurd (hb3 (by rw [hall g hl]; exact g)) e⟩
    subst hkz
    refine tl_nil_arr 135 15 encLet ?_
    refine tl_q rfl (ev_assign rfl) ?_
    refine tl_nil ?_
    refine te_code ?_
    refine t_block ?_
    refine t_loop (α := Nat × (Int × Int × List (Int × Letter)) × (Int × Int × Value × List Letter)) (fun q => [(12, .int .i64 (q.1 : Int)), (9, kv), (5, .pointer (some ⟨sb, 0, none⟩)), (7, .pointer (some ⟨y2, 0, none⟩))]) (fun q => [arr 45 11 encRow kv ks, iarr 11 encRow rv xs, stB sb eb ob, boxB ob mo q.2.1.1 q.2.1.2.1, mp iI letV mo q.2.1.2.2, engB eb bb hh, holdB hh hb m4 m5, mp iI (fun x : Value => x) m4 [], boardB bb m1 m2 40 nxb, mp iI rowV m1 (rowsOf kz), mp signV iI m2 idsb, st28 y2 e2 o2, e22 e2 b2 h2, b20 b2 40 nx2 sv3, o24 o2 40 1 9 q.2.2.1 q.2.2.2.1 0 q.2.2.2.2.1, arr 135 15 encLet q.2.2.2.2.1 q.2.2.2.2.2]) (fun q => ks.length - q.1) (fun q => q.1 ≤ ks.length ∧ (0 ≤ q.2.1.1 ∧ q.2.1.1 ≤ q.1) ∧ (0 ≤ q.2.1.2.1 ∧ q.2.1.2.1 ≤ q.1) ∧ (0 ≤ q.2.2.1 ∧ q.2.2.1 ≤ q.1) ∧ (0 ≤ q.2.2.2.1 ∧ q.2.2.2.1 ≤ q.1) ∧ q.2.2.2.2.2.length ≤ q.1 ∧ q.2.1.2.2.length ≤ q.1) (0, (0, 0, []), (0, 0, .slice none 0 0, [])) (by simp) (by exact sub_cons rfl (sub_cons rfl (sub_cons rfl (sub_cons rfl (sub_nil))))) (fun _ h => hold_keep (by repeat (first | exact Frm.nil | exact Take.here | apply Take.there | apply Frm.cons)) h) ?_
    rintro ⟨j, ⟨la, re, ls⟩, ⟨lb, rb, so, lo⟩⟩ ⟨hj, hj1, hj2, hj3, hj4, hj5, hj6⟩
    try dsimp only
    dsimp only at hj hj1 hj2 hj3 hj4 hj5 hj6
    refine t_seq ?_
    refine t_seq ?_
    refine t_region ?_
    refine tl_q rfl (ev_move rfl) ?_
    refine tl_q rfl (ev_move rfl) ?_
    refine tl_q rfl (ev_len_sh sl_22 rfl (by assumption)) ?_
    refine tl_q rfl (ev_lss rfl rfl) ?_
    refine tl_nil ?_
    refine te_code ?_
    refine t_cond_dec rfl (fun h3 => ?_) (fun h3 => ?_)
    · obtain ⟨u, hu⟩ := get_ex (show (j : Int) < ks.length by omega)
      have huok : okRow u := (hks u (List.mem_of_getElem? hu)).1
      refine t_skip ?_
      refine te_code ?_
      refine t_seq ?_
      refine t_block ?_
      refine t_seq ?_
      refine t_drawn_frm (pre := [boxB ob mo la re, mp iI letV mo ls]) (by repeat (first | exact Frm.nil | exact Take.here | apply Take.there | apply Frm.cons)) follows ?_
      refine tr_q 0 rfl (by kernel_rfl) (by kernel_rfl) (by kernel_rfl) rfl (fun _ h => hold_frm (pre := [boxB ob mo la re, mp iI letV mo ls]) (by repeat (first | exact Frm.nil | exact Take.here | apply Take.there | apply Frm.cons)) h) (ev_move rfl) ?_
      refine tr_q 1 rfl (by kernel_rfl) (by kernel_rfl) (by kernel_rfl) rfl (fun _ h => hold_frm (pre := [boxB ob mo la re, mp iI letV mo ls]) (by repeat (first | exact Frm.nil | exact Take.here | apply Take.there | apply Frm.cons)) h) (ev_nil_ptr rfl) ?_
      refine tr_q 2 rfl (by kernel_rfl) (by kernel_rfl) (by kernel_rfl) rfl (fun _ h => hold_frm (pre := [boxB ob mo la re, mp iI letV mo ls]) (by repeat (first | exact Frm.nil | exact Take.here | apply Take.there | apply Frm.cons)) h) (ev_fieldAddr fa_35_1 rfl rfl) ?_
      refine tr_q 3 rfl (by kernel_rfl) (by kernel_rfl) (by kernel_rfl) rfl (fun _ h => hold_frm (pre := [boxB ob mo la re, mp iI letV mo ls]) (by repeat (first | exact Frm.nil | exact Take.here | apply Take.there | apply Frm.cons)) h) (ev_load sc_31 rfl (by first | (left; (repeat (first | exact List.Mem.head _ | apply List.Mem.tail)); done) | (right; (repeat (first | exact List.Mem.head _ | apply List.Mem.tail)); done)) rfl) ?_
      refine tr_q 4 rfl (by kernel_rfl) (by kernel_rfl) (by kernel_rfl) rfl (fun _ h => hold_frm (pre := [boxB ob mo la re, mp iI letV mo ls]) (by repeat (first | exact Frm.nil | exact Take.here | apply Take.there | apply Frm.cons)) h) (ev_move rfl) ?_
      refine tr_q 5 rfl (by kernel_rfl) (by kernel_rfl) (by kernel_rfl) rfl (fun _ h => hold_frm (pre := [boxB ob mo la re, mp iI letV mo ls]) (by repeat (first | exact Frm.nil | exact Take.here | apply Take.there | apply Frm.cons)) h) (ev_move rfl) ?_
      refine tr_q 6 rfl (by kernel_rfl) (by kernel_rfl) (by kernel_rfl) rfl (fun _ h => hold_frm (pre := [boxB ob mo la re, mp iI letV mo ls]) (by repeat (first | exact Frm.nil | exact Take.here | apply Take.there | apply Frm.cons)) h) (ev_at_sh sl_22 rfl rfl (by assumption) (by omega)) ?_
      refine tr_q 7 rfl (by kernel_rfl) (by kernel_rfl) (by kernel_rfl) rfl (fun _ h => hold_frm (pre := [boxB ob mo la re, mp iI letV mo ls]) (by repeat (first | exact Frm.nil | exact Take.here | apply Take.there | apply Frm.cons)) h) (ev_load_at_agg ag_45 rfl (by first | exact HasArr.own (by repeat (first | exact List.Mem.head _ | apply List.Mem.tail)) | exact HasArr.sh (by repeat (first | exact List.Mem.head _ | apply List.Mem.tail))) (by intro _; rfl) (by assumption) (by rfl)) ?_
      refine tr_e 8 rfl (by kernel_rfl) (eff_call rfl rfl body_21 rfl (by repeat (first | exact Frm.nil | exact Take.here | apply Take.there | apply Frm.cons)) (outbox_Put_ct _ _ _ _ _ _ (by assumption) (by omega) (by omega))) (by rintro _ _ ⟨_, _, ⟨seq, c, last2, ref2, ls2, rfl, rfl, hl2, hr2, hls3⟩, rfl, rfl⟩; exact (fun _ h => hold_behind h)) ?_
      rintro _ _ ⟨v110, _, ⟨seq, c, last2, ref2, ls2, rfl, rfl, hl2, hr2, hls3⟩, rfl, rfl⟩
      refine tr_done (by kernel_rfl) ?_
      refine te_code ?_
      refine t_drawn_frm (pre := [o24 o2 40 1 9 lb rb 0 so, arr 135 15 encLet so lo]) (by repeat (first | exact Frm.nil | exact Take.here | apply Take.there | apply Frm.cons)) follows ?_
      refine tr_q 0 rfl (by kernel_rfl) (by kernel_rfl) (by kernel_rfl) rfl (fun _ h => hold_frm (pre := [o24 o2 40 1 9 lb rb 0 so, arr 135 15 encLet so lo]) (by repeat (first | exact Frm.nil | exact Take.here | apply Take.there | apply Frm.cons)) h) (ev_move rfl) ?_
      refine tr_q 1 rfl (by kernel_rfl) (by kernel_rfl) (by kernel_rfl) rfl (fun _ h => hold_frm (pre := [o24 o2 40 1 9 lb rb 0 so, arr 135 15 encLet so lo]) (by repeat (first | exact Frm.nil | exact Take.here | apply Take.there | apply Frm.cons)) h) (ev_nil_ptr rfl) ?_
      refine tr_q 2 rfl (by kernel_rfl) (by kernel_rfl) (by kernel_rfl) rfl (fun _ h => hold_frm (pre := [o24 o2 40 1 9 lb rb 0 so, arr 135 15 encLet so lo]) (by repeat (first | exact Frm.nil | exact Take.here | apply Take.there | apply Frm.cons)) h) (ev_fieldAddr fa_78_1 rfl rfl) ?_
      refine tr_q 3 rfl (by kernel_rfl) (by kernel_rfl) (by kernel_rfl) rfl (fun _ h => hold_frm (pre := [o24 o2 40 1 9 lb rb 0 so, arr 135 15 encLet so lo]) (by repeat (first | exact Frm.nil | exact Take.here | apply Take.there | apply Frm.cons)) h) (ev_load sc_75 rfl (by first | (left; (repeat (first | exact List.Mem.head _ | apply List.Mem.tail)); done) | (right; (repeat (first | exact List.Mem.head _ | apply List.Mem.tail)); done)) rfl) ?_
      refine tr_q 4 rfl (by kernel_rfl) (by kernel_rfl) (by kernel_rfl) rfl (fun _ h => hold_frm (pre := [o24 o2 40 1 9 lb rb 0 so, arr 135 15 encLet so lo]) (by repeat (first | exact Frm.nil | exact Take.here | apply Take.there | apply Frm.cons)) h) (ev_move rfl) ?_
      refine tr_q 5 rfl (by kernel_rfl) (by kernel_rfl) (by kernel_rfl) rfl (fun _ h => hold_frm (pre := [o24 o2 40 1 9 lb rb 0 so, arr 135 15 encLet so lo]) (by repeat (first | exact Frm.nil | exact Take.here | apply Take.there | apply Frm.cons)) h) (ev_move rfl) ?_
      refine tr_q 6 rfl (by kernel_rfl) (by kernel_rfl) (by kernel_rfl) rfl (fun _ h => hold_frm (pre := [o24 o2 40 1 9 lb rb 0 so, arr 135 15 encLet so lo]) (by repeat (first | exact Frm.nil | exact Take.here | apply Take.there | apply Frm.cons)) h) (ev_at_sh sl_22 rfl rfl (by assumption) (by omega)) ?_
      refine tr_q 7 rfl (by kernel_rfl) (by kernel_rfl) (by kernel_rfl) rfl (fun _ h => hold_frm (pre := [o24 o2 40 1 9 lb rb 0 so, arr 135 15 encLet so lo]) (by repeat (first | exact Frm.nil | exact Take.here | apply Take.there | apply Frm.cons)) h) (ev_load_at_agg ag_45 rfl (by first | exact HasArr.own (by repeat (first | exact List.Mem.head _ | apply List.Mem.tail)) | exact HasArr.sh (by repeat (first | exact List.Mem.head _ | apply List.Mem.tail))) (by intro _; rfl) (by assumption) (by rfl)) ?_
      refine tr_e 8 rfl (by kernel_rfl) (eff_call rfl rfl body_22 rfl (by repeat (first | exact Frm.nil | exact Take.here | apply Take.there | apply Frm.cons)) (o24_Put_ct _ _ _ _ _ (by omega) _ (by assumption) (by omega) (by omega))) (by rintro _ _ ⟨_, _, ⟨seq, c, last2, ref2, sv2, ls2, rfl, rfl, hl2, hr2, hls2⟩, rfl, rfl⟩; exact (fun _ h => hold_behind h)) ?_
      rintro _ _ ⟨v119, _, ⟨seq, c, last2, ref2, sv2, ls2, rfl, rfl, hl2, hr2, hls2⟩, rfl, rfl⟩
      refine tr_done (by kernel_rfl) ?_
      refine te_blk ?_
      refine te_code ?_
      refine t_region ?_
      refine tl_q rfl (ev_move rfl) ?_
      refine tl_q rfl (ev_add' rfl rfl (by omega)) ?_
      refine tl_q rfl (ev_assign rfl) ?_
      refine tl_nil ?_
      exact te_round (j + 1, (_, _, _), (_, _, _, _)) (by exact sub_cons rfl (sub_cons rfl (sub_cons rfl (sub_cons rfl (sub_nil))))) (fun _ h => hold_keep (by repeat (first | exact Frm.nil | exact Take.here | apply Take.there | apply Frm.cons)) h) ⟨by dsimp only; omega, by dsimp only; omega, by dsimp only; omega, by dsimp only; omega, by dsimp only; omega, by dsimp only; omega, by dsimp only; omega⟩ (by dsimp only; omega)
    · refine t_exit ?_
      refine te_exit_code ?_
      refine te_exit_rnd ?_
      refine te_exit_here ?_
      refine te_code ?_
      refine t_seq ?_
      refine t_region ?_
      refine tl_q rfl (ev_move rfl) ?_
      refine tl_q rfl (ev_move rfl) ?_
      refine tl_q rfl (ev_assign rfl) ?_
      refine tl_q rfl (ev_assign rfl) ?_
      refine tl_nil ?_
      refine te_code ?_
      refine t_ret ?_
      refine te_ret_k (pre := [stB sb eb ob, boxB ob mo _ _, mp iI letV mo _, engB eb bb hh, holdB hh hb m4 m5, mp iI (fun x : Value => x) m4 [], boardB bb m1 m2 40 _, mp iI rowV m1 _, mp signV iI m2 _, iarr 11 encRow rv xs]) (res2 rfl rfl rfl) (by repeat (first | exact Frm.nil | exact Take.here | apply Take.there | apply Frm.cons)) ?_
      exact ⟨_, _, _, _, _, _, _, _, _, _, _, _, _, _, _, _, _, _, rfl, rfl, by omega, by assumption, by omega, by omega, by omega, by assumption⟩

end Go.SL
