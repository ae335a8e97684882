/- Contract of board.Load. -/
import Derived.Test.YtimhhegebkganaaGreatDoorProg
import Derived.Test.YtimhhegebkganaaGreatDoorGF
set_option linter.unusedSimpArgs false
set_option linter.unusedVariables false
set_option maxRecDepth 4000
namespace Go.SL
open Go.Proofs

theorem fa_94_0 : FldAt Tryz.prog 94 0 0 := fun a w => by kernel_rfl
theorem sl_22 : SliceOf Tryz.prog 22 45 11 := sliceOf_of Tryz.underlying22 info_45 rfl
theorem body_41 : (Tryz.prog.funcs[41]?).map (fun fn => fn.body.isSome && !(fn.name == "runtime.NumGoroutine")) = some true := by kernel_rfl
theorem body_42 : (Tryz.prog.funcs[42]?).map (fun fn => fn.body.isSome && !(fn.name == "runtime.NumGoroutine")) = some true := by kernel_rfl
theorem fa_94_1 : FldAt Tryz.prog 94 1 1 := fun a w => by kernel_rfl
theorem sz_3 : SizeIs Tryz.prog 3 1 := sizeIs_of info_3 rfl


def rowsOf (xs : List Row) : List (Int × Row) := xs.map fun r => (r.id, r)
theorem alook_append {K V : Type} [DecidableEq K] : ∀ (al bl : List (K × V)) (k : K), alook al k = none → alook (al ++ bl) k = alook bl k
  | [], _, _, _ => rfl
  | (a, v) :: r, bl, k, h => by
    by_cases hk : a = k
    · simp [alook, hk] at h
    · simp only [alook, if_neg hk] at h
      simp only [List.cons_append, alook, if_neg hk]
      exact alook_append r bl k h
theorem rowsOf_snoc {xs : List Row} {i : Nat} {r : Row} (h : xs[i]? = some r) (hn : alook (rowsOf (xs.take i)) r.id = none) : aset (rowsOf (xs.take i)) r.id r = rowsOf (xs.take (i + 1)) := by
  rw [aset_new _ _ _ hn]
  unfold rowsOf
  have hlt := (List.getElem?_eq_some_iff.1 h).1
  have he := (List.getElem?_eq_some_iff.1 h).2
  rw [List.take_succ_eq_append_getElem hlt, he]
  simp
theorem rowsOf_fresh {xs : List Row} {i : Nat} {r : Row} (h : xs[i]? = some r) (hn : ((rowsOf xs).map (·.1)).Nodup) : alook (rowsOf (xs.take i)) r.id = none := by
  have key : ∀ (ys : List Row), r.id ∉ ys.map (·.id) → alook (rowsOf ys) r.id = none := by
    intro ys
    induction ys with
    | nil => intro _; rfl
    | cons y ys ih =>
      intro hy
      simp only [List.map_cons, List.mem_cons, not_or] at hy
      simp only [rowsOf, List.map_cons, alook]
      rw [if_neg (fun e => hy.1 e.symm)]
      exact ih hy.2
  apply key
  intro hm
  have hlt := (List.getElem?_eq_some_iff.1 h).1
  have he := (List.getElem?_eq_some_iff.1 h).2
  have h2 : (xs.map (·.id)).Nodup := by
    have e : (rowsOf xs).map (·.1) = xs.map (·.id) := by unfold rowsOf; rw [List.map_map]; rfl
    rwa [e] at hn
  rw [← List.take_append_drop i xs, List.map_append, List.nodup_append] at h2
  have hd : r.id ∈ (xs.drop i).map (·.id) := by
    rw [List.drop_eq_getElem_cons hlt, he]; simp
  exact h2.2.2 _ hm _ hd rfl


/-- rows that a board takes: good ones, no id and no sign twice -/
def goodL (xs : List Row) (n most : Int) : Prop := (∀ r ∈ xs, goodR r ∧ r.id < n) ∧ (xs.map (·.id)).Nodup ∧ (xs.map (fun r => signOf r.e)).Nodup ∧ (xs.length : Int) ≤ most ∧ 1 ≤ n ∧ n ≤ 1099511627776
theorem alook_aset {K V : Type} [DecidableEq K] : ∀ (al : List (K × V)) (k : K) (v : V) (s : K), alook (aset al k v) s = if k = s then some v else alook al s
  | [], k, v, s => by simp [aset, alook]
  | (a, u) :: r, k, v, s => by
    by_cases h : a = k
    · subst h
      by_cases h2 : a = s <;> simp [aset, alook, h2]
    · by_cases h2 : a = s
      · subst h2; simp [aset, alook, h, Ne.symm h]
      · simp [aset, alook, h, h2, alook_aset r k v s]
theorem goodL_fresh {α : Type} (f : Row → α) {xs : List Row} {i : Nat} {r : Row} (h : xs[i]? = some r) (hn : (xs.map f).Nodup) : ∀ q ∈ xs.take i, f q ≠ f r := by
  intro q hq e
  have hlt := (List.getElem?_eq_some_iff.1 h).1
  have he := (List.getElem?_eq_some_iff.1 h).2
  rw [← List.take_append_drop i xs, List.map_append, List.nodup_append] at hn
  have hd : f r ∈ (xs.drop i).map f := by rw [List.drop_eq_getElem_cons hlt, he]; simp
  exact hn.2.2 _ (List.mem_map_of_mem hq) _ hd e
theorem alook_rowsOf : ∀ (ys : List Row) (k : Int), (∀ q ∈ ys, q.id ≠ k) → alook (rowsOf ys) k = none
  | [], _, _ => rfl
  | y :: ys, k, h => by
    simp only [rowsOf, List.map_cons, alook]
    rw [if_neg (h y (List.mem_cons_self ..))]
    exact alook_rowsOf ys k fun q hq => h q (List.mem_cons_of_mem _ hq)

theorem board_Load_ct (bb m1 m2 : Nat) (most next : Int) (rows : List (Int × Row)) (ids : List (Sign × Int)) (sv : Value) (xs : List Row) (n : Int) (hx : ∀ r ∈ xs, okRow r) (hl : xs.length ≤ 1000000) : CT Tryz.prog 20 #[.pointer (some ⟨bb, 0, none⟩), sv, .int .i64 n] [boardB bb m1 m2 most next, mp iI rowV m1 rows, mp signV iI m2 ids, arr 45 11 encRow sv xs] (fun v M => ∃ c next' rows' ids', v = .int .i64 c ∧ M = [boardB bb m1 m2 most next', mp iI rowV m1 rows', mp signV iI m2 ids', arr 45 11 encRow sv xs] ∧ (c ≠ 0 → rows' = rows) ∧ (c = 0 → rows' = rowsOf xs ∧ ∀ r ∈ xs, 1 ≤ r.id ∧ r.id < n) ∧ (goodL xs n most → c = 0)) := by
  refine t_fun (vs := [.pointer (some ⟨bb, 0, none⟩), sv, .int .i64 n]) (n := 106) Tryz.func20 rfl Tryz.ntmps20 rfl fun w0 F => ?_
  refine t_shape (enc := encRow) (sz := 11) (xs := xs) (by first | exact HasArr.own (by repeat (first | exact List.Mem.head _ | apply List.Mem.tail)) | exact HasArr.sh (by repeat (first | exact List.Mem.head _ | apply List.Mem.tail))) (by intro _; rfl) (fun hsh => ?_)
  refine t_seq ?_
  refine t_region ?_
  refine tl_q rfl (ev_assign rfl) ?_
  refine tl_nil ?_
  refine te_code ?_
  refine t_seq ?_
  refine t_seq ?_
  refine t_region ?_
  refine tl_q rfl (ev_move rfl) ?_
  refine tl_q rfl (ev_lss rfl rfl) ?_
  refine tl_q rfl (ev_move rfl) ?_
  refine tl_split_dec 18 rfl (fun g1_2 => ?_) (fun g1_2 => ?_)
  · refine tl_guard_no rfl rfl rfl rfl ?_
    refine tl_guard_no rfl rfl rfl rfl ?_
    refine tl_q rfl (ev_pick_true rfl rfl) ?_
    refine tl_nil ?_
    refine te_code ?_
    refine t_cond_true rfl ?_
    refine t_seq ?_
    refine t_region ?_
    refine tl_q rfl (ev_assign rfl) ?_
    refine tl_nil ?_
    refine te_code ?_
    refine t_ret ?_
    refine te_ret_k (pre := [boardB bb m1 m2 most _, mp _ _ m1 _, mp _ _ m2 _, arr _ _ _ sv _]) (res1 rfl rfl) (by repeat (first | exact Frm.nil | exact Take.here | apply Take.there | apply Frm.cons)) ?_
    refine ⟨_, _, _, _, rfl, rfl, ?_, ?_, ?_⟩
    · first | (intro _; rfl) | (intro h; exact absurd rfl h)
    · first | (intro h; exact absurd h (by decide)) | (intro _; exact ⟨rfl, hz2⟩)
    · intro hg
      obtain ⟨q1, q2, q3, q4, q5, q6⟩ := hg
      first | rfl | (exfalso; omega) | (exfalso; have hu1 := q1 u (List.mem_of_getElem? hu); first | exact g9_3 (hcg hu1.1) | omega | (rw [alook_rowsOf _ _ (goodL_fresh (·.id) hu q2)] at g9_12; simp at g9_12; done) | (have hne : alook fids (signOf u.e) ≠ none := (by intro e; rw [e] at h2; simp at h2); obtain ⟨q, hq, e⟩ := hids _ hne; exact goodL_fresh (fun r => signOf r.e) hu q3 q hq e))
  · refine tl_guard rfl rfl rfl ?_
    refine tl_q rfl (ev_move rfl) ?_
    refine tl_guard rfl rfl rfl ?_
    refine tl_q rfl (ev_gtr rfl rfl) ?_
    refine tl_q rfl (ev_pick_false rfl rfl) ?_
    refine tl_nil ?_
    refine te_code ?_
    refine t_cond_dec rfl (fun h0 => ?_) (fun h0 => ?_)
    · refine t_seq ?_
      refine t_region ?_
      refine tl_q rfl (ev_assign rfl) ?_
      refine tl_nil ?_
      refine te_code ?_
      refine t_ret ?_
      refine te_ret_k (pre := [boardB bb m1 m2 most _, mp _ _ m1 _, mp _ _ m2 _, arr _ _ _ sv _]) (res1 rfl rfl) (by repeat (first | exact Frm.nil | exact Take.here | apply Take.there | apply Frm.cons)) ?_
      refine ⟨_, _, _, _, rfl, rfl, ?_, ?_, ?_⟩
      · first | (intro _; rfl) | (intro h; exact absurd rfl h)
      · first | (intro h; exact absurd h (by decide)) | (intro _; exact ⟨rfl, hz2⟩)
      · intro hg
        obtain ⟨q1, q2, q3, q4, q5, q6⟩ := hg
        first | rfl | (exfalso; omega) | (exfalso; have hu1 := q1 u (List.mem_of_getElem? hu); first | exact g9_3 (hcg hu1.1) | omega | (rw [alook_rowsOf _ _ (goodL_fresh (·.id) hu q2)] at g9_12; simp at g9_12; done) | (have hne : alook fids (signOf u.e) ≠ none := (by intro e; rw [e] at h2; simp at h2); obtain ⟨q, hq, e⟩ := hids _ hne; exact goodL_fresh (fun r => signOf r.e) hu q3 q hq e))
    · refine t_skip ?_
      refine te_code ?_
      refine t_seq ?_
      refine t_region ?_
      refine tl_q rfl (ev_move rfl) ?_
      refine tl_q rfl (ev_nil_ptr rfl) ?_
      refine tl_q rfl (ev_fieldAddr fa_94_0 rfl rfl) ?_
      refine tl_q rfl (ev_load sc_3 rfl (by first | (left; (repeat (first | exact List.Mem.head _ | apply List.Mem.tail)); done) | (right; (repeat (first | exact List.Mem.head _ | apply List.Mem.tail)); done)) rfl) ?_
      refine tl_q rfl (ev_move rfl) ?_
      refine tl_e (eff_makeMap rfl) ?_
      rintro _ _ ⟨b27, rfl, rfl⟩
      refine tl_mpnew iI rowV ?_
      refine tl_e (eff_makeMap rfl) ?_
      rintro _ _ ⟨b28, rfl, rfl⟩
      refine tl_mpnew signV iI ?_
      refine tl_q rfl (ev_build st_94 rfl (by repeat (first | exact FillR.nil | exact LPut.nil | apply LPut.cons | apply LPut.succ | apply FillR.cons rfl rfl rfl))) ?_
      refine tl_e (eff_box rfl rfl rfl) ?_
      rintro _ _ ⟨b30, rfl, rfl⟩
      refine tl_q rfl (ev_assign rfl) ?_
      refine tl_nil ?_
      refine te_code ?_
      refine t_seq ?_
      refine t_seq ?_
      refine t_region ?_
      refine tl_q rfl (ev_move rfl) ?_
      refine tl_q rfl (ev_len_sh sl_22 rfl (by assumption)) ?_
      refine tl_q rfl (ev_move rfl) ?_
      refine tl_nil ?_
      refine te_code ?_
      refine t_block ?_
      refine t_loop (α := Nat × List (Sign × Int)) (fun q => [(33, .int .i64 (q.1 : Int)), (32, .int .i64 (xs.length : Int)), (31, sv), (7, .pointer (some ⟨b30, 0, none⟩)), (0, .pointer (some ⟨bb, 0, none⟩)), (1, sv), (2, .int .i64 n)]) (fun q => [blk b30 (.cells [.int .i64 most, .int .i64 n, .map (some b27), .map (some b28)].toArray 94 (0, 0)), mp iI rowV b27 (rowsOf (xs.take q.1)), mp signV iI b28 q.2, boardB bb m1 m2 most next, mp iI rowV m1 rows, mp signV iI m2 ids, arr 45 11 encRow sv xs]) (fun q => xs.length - q.1) (fun q => q.1 ≤ xs.length ∧ (∀ m, m < q.1 → ∀ r, xs[m]? = some r → 1 ≤ r.id ∧ r.id < n) ∧ (∀ s, alook q.2 s ≠ none → ∃ r ∈ xs.take q.1, signOf r.e = s)) (0, []) ⟨by simp, by simp, by simp [alook]⟩ (by exact sub_cons rfl (sub_cons rfl (sub_cons rfl (sub_cons rfl (sub_cons rfl (sub_cons rfl (sub_cons rfl (sub_nil)))))))) (fun _ h => hold_keep (by repeat (first | exact Frm.nil | exact Take.here | apply Take.there | apply Frm.cons)) h) ?_
      rintro ⟨i, fids⟩ ⟨hi, hz, hids⟩
      try dsimp only
      dsimp only at hi hz hids
      refine t_seq ?_
      refine t_region ?_
      refine tl_q rfl (ev_lss rfl rfl) ?_
      refine tl_nil ?_
      refine te_code ?_
      refine t_seq ?_
      refine t_cond_dec rfl (fun h0 => ?_) (fun h0 => ?_)
      · obtain ⟨u, hu⟩ : ∃ u, xs[i]? = some u := ⟨xs[i], by simp [show i < xs.length by omega]⟩
        have huok : okRow u := hx u (List.mem_of_getElem? hu)
        refine t_skip ?_
        refine te_code ?_
        refine t_seq ?_
        refine t_block ?_
        refine t_seq ?_
        refine t_region ?_
        refine tl_q rfl (ev_at_sh sl_22 rfl rfl (by assumption) (by omega)) ?_
        refine tl_q rfl (ev_load_at_agg ag_45 rfl (by first | exact HasArr.own (by repeat (first | exact List.Mem.head _ | apply List.Mem.tail)) | exact HasArr.sh (by repeat (first | exact List.Mem.head _ | apply List.Mem.tail))) (by intro _; rfl) (by assumption) (by rfl)) ?_
        refine tl_e (eff_alloc rfl zero_45 rfl) ?_
        rintro _ _ ⟨b9, rfl, rfl⟩
        refine tl_e (eff_store rfl rfl rfl rfl sz_45 (by first | (simp [Flat]; done) | exact flatRow _ | exact flatEvt _ | exact flatI _) (by repeat (first | exact Upd.here | apply Upd.there)) (by repeat (first | exact LPut.nil | apply LPut.cons | apply LPut.succ))) ?_
        rintro _ _ ⟨rfl, rfl⟩
        refine tl_nil ?_
        refine te_code ?_
        refine t_seq ?_
        refine t_drawn_all follows ?_
        refine tr_q 0 rfl (by kernel_rfl) (by kernel_rfl) (by kernel_rfl) rfl (by intro _ h; repeat (first | exact h | replace h := Hold.drop h)) (ev_move rfl) ?_
        refine tr_q 1 rfl (by kernel_rfl) (by kernel_rfl) (by kernel_rfl) rfl (by intro _ h; repeat (first | exact h | replace h := Hold.drop h)) (ev_nil_ptr rfl) ?_
        refine tr_q 2 rfl (by kernel_rfl) (by kernel_rfl) (by kernel_rfl) rfl (by intro _ h; repeat (first | exact h | replace h := Hold.drop h)) (ev_fieldAddr fa_94_2 rfl rfl) ?_
        refine tr_q 3 rfl (by kernel_rfl) (by kernel_rfl) (by kernel_rfl) rfl (by intro _ h; repeat (first | exact h | replace h := Hold.drop h)) (ev_load sc_91 rfl (by first | (left; (repeat (first | exact List.Mem.head _ | apply List.Mem.tail)); done) | (right; (repeat (first | exact List.Mem.head _ | apply List.Mem.tail)); done)) rfl) ?_
        refine tr_q 4 rfl (by kernel_rfl) (by kernel_rfl) (by kernel_rfl) rfl (by intro _ h; repeat (first | exact h | replace h := Hold.drop h)) (ev_fieldAddr fa_45_0 rfl rfl) ?_
        refine tr_q 5 rfl (by kernel_rfl) (by kernel_rfl) (by kernel_rfl) rfl (by intro _ h; repeat (first | exact h | replace h := Hold.drop h)) (ev_load sc_3 rfl (by first | (left; (repeat (first | exact List.Mem.head _ | apply List.Mem.tail)); done) | (right; (repeat (first | exact List.Mem.head _ | apply List.Mem.tail)); done)) rfl) ?_
        refine tr_q 6 rfl (by kernel_rfl) (by kernel_rfl) (by kernel_rfl) rfl (by intro _ h; repeat (first | exact h | replace h := Hold.drop h)) (ev_lookup_ok ko_3 map_91 zero_45 rfl (by repeat (first | exact List.Mem.head _ | apply List.Mem.tail)) (by rfl)) ?_
        refine tr_q 7 rfl (by kernel_rfl) (by kernel_rfl) (by kernel_rfl) rfl (by intro _ h; repeat (first | exact h | replace h := Hold.drop h)) (ev_move rfl) ?_
        refine tr_q 8 rfl (by kernel_rfl) (by kernel_rfl) (by kernel_rfl) rfl (by intro _ h; repeat (first | exact h | replace h := Hold.drop h)) (ev_extract rfl rfl) ?_
        refine tr_q 9 rfl (by kernel_rfl) (by kernel_rfl) (by kernel_rfl) rfl (by intro _ h; repeat (first | exact h | replace h := Hold.drop h)) (ev_extract rfl rfl) ?_
        refine tr_e 10 rfl (by kernel_rfl) (eff_alloc rfl zero_45 rfl) (by rintro _ _ ⟨_, rfl, rfl⟩; exact (by intro _ h; repeat (first | exact h | replace h := Hold.drop h))) ?_
        rintro _ _ ⟨b10, rfl, rfl⟩
        obtain ⟨q, hq⟩ : ∃ q : Row, ((alook (rowsOf (xs.take i)) u.id).map rowV).getD (rowV ⟨0, ⟨⟨#[]⟩, ⟨#[]⟩, ⟨#[]⟩, 0, ⟨#[]⟩⟩, 0, 0, 0, false, ⟨#[]⟩⟩) = rowV q := by
          cases alook (rowsOf (xs.take i)) u.id with
          | none => exact ⟨_, rfl⟩
          | some q => exact ⟨q, rfl⟩
        refine tr_e 11 rfl (by kernel_rfl) (eff_store (v := rowV q) rfl rfl (by rw [← hq]; rfl) rfl sz_45 (flatRow q) (by repeat (first | exact Upd.here | apply Upd.there)) (by repeat (first | exact LPut.nil | apply LPut.cons | apply LPut.succ))) (by rintro _ _ ⟨rfl, rfl⟩; exact (by intro _ h; repeat (first | exact h | replace h := Hold.drop h))) ?_
        rintro _ _ ⟨rfl, rfl⟩
        refine tr_q 12 rfl (by kernel_rfl) (by kernel_rfl) (by kernel_rfl) rfl (by intro _ h; repeat (first | exact h | replace h := Hold.drop h)) (ev_assign rfl) ?_
        refine tr_done (by kernel_rfl) ?_
        refine te_code ?_
        refine t_seq ?_
        refine t_drawn_all follows ?_
        refine tr_q 0 rfl (by kernel_rfl) (by kernel_rfl) (by kernel_rfl) rfl (by intro _ h; repeat (first | exact h | replace h := Hold.drop h)) (ev_move rfl) ?_
        refine tr_q 1 rfl (by kernel_rfl) (by kernel_rfl) (by kernel_rfl) rfl (by intro _ h; repeat (first | exact h | replace h := Hold.drop h)) (ev_nil_ptr rfl) ?_
        refine tr_q 2 rfl (by kernel_rfl) (by kernel_rfl) (by kernel_rfl) rfl (by intro _ h; repeat (first | exact h | replace h := Hold.drop h)) (ev_fieldAddr fa_94_3 rfl rfl) ?_
        refine tr_q 3 rfl (by kernel_rfl) (by kernel_rfl) (by kernel_rfl) rfl (by intro _ h; repeat (first | exact h | replace h := Hold.drop h)) (ev_load sc_92 rfl (by first | (left; (repeat (first | exact List.Mem.head _ | apply List.Mem.tail)); done) | (right; (repeat (first | exact List.Mem.head _ | apply List.Mem.tail)); done)) rfl) ?_
        refine tr_q 4 rfl (by kernel_rfl) (by kernel_rfl) (by kernel_rfl) rfl (by intro _ h; repeat (first | exact h | replace h := Hold.drop h)) (ev_fieldAddr fa_45_1 rfl rfl) ?_
        refine tr_q 5 rfl (by kernel_rfl) (by kernel_rfl) (by kernel_rfl) rfl (by intro _ h; repeat (first | exact h | replace h := Hold.drop h)) (ev_load_agg ag_43 rfl (by first | (left; (repeat (first | exact List.Mem.head _ | apply List.Mem.tail)); done) | (right; (repeat (first | exact List.Mem.head _ | apply List.Mem.tail)); done)) (by repeat (first | exact LDrop.zero | apply LDrop.succ)) (by repeat (first | exact LTake.zero | apply LTake.succ))) ?_
        refine tr_e 6 rfl (by kernel_rfl) (eff_call rfl rfl body_40 rfl (by repeat (first | exact Frm.nil | exact Take.here | apply Take.there | apply Frm.cons)) (board_of_ct _)) (by rintro _ _ ⟨_, _, ⟨rfl, rfl⟩, rfl, rfl⟩; exact (by intro _ h; repeat (first | exact h | replace h := Hold.drop h))) ?_
        rintro _ _ ⟨v54, _, ⟨rfl, rfl⟩, rfl, rfl⟩
        refine tr_q 7 rfl (by kernel_rfl) (by kernel_rfl) (by kernel_rfl) rfl (by intro _ h; repeat (first | exact h | replace h := Hold.drop h)) (ev_lookup_ok ko_125 map_92 zero_3 rfl (by repeat (first | exact List.Mem.head _ | apply List.Mem.tail)) (by rfl)) ?_
        refine tr_q 8 rfl (by kernel_rfl) (by kernel_rfl) (by kernel_rfl) rfl (by intro _ h; repeat (first | exact h | replace h := Hold.drop h)) (ev_move rfl) ?_
        refine tr_q 9 rfl (by kernel_rfl) (by kernel_rfl) (by kernel_rfl) rfl (by intro _ h; repeat (first | exact h | replace h := Hold.drop h)) (ev_extract rfl rfl) ?_
        refine tr_q 10 rfl (by kernel_rfl) (by kernel_rfl) (by kernel_rfl) rfl (by intro _ h; repeat (first | exact h | replace h := Hold.drop h)) (ev_extract rfl rfl) ?_
        refine tr_q 11 rfl (by kernel_rfl) (by kernel_rfl) (by kernel_rfl) rfl (by intro _ h; repeat (first | exact h | replace h := Hold.drop h)) (ev_assign rfl) ?_
        refine tr_q 12 rfl (by kernel_rfl) (by kernel_rfl) (by kernel_rfl) rfl (by intro _ h; repeat (first | exact h | replace h := Hold.drop h)) (ev_assign rfl) ?_
        refine tr_done (by kernel_rfl) ?_
        refine te_code ?_
        refine t_seq ?_
        refine t_seq ?_
        refine t_region ?_
        refine tl_q rfl (ev_load_agg ag_45 rfl (by first | (left; (repeat (first | exact List.Mem.head _ | apply List.Mem.tail)); done) | (right; (repeat (first | exact List.Mem.head _ | apply List.Mem.tail)); done)) (by repeat (first | exact LDrop.zero | apply LDrop.succ)) (by repeat (first | exact LTake.zero | apply LTake.succ))) ?_
        refine tl_e (eff_call rfl rfl body_41 rfl (by repeat (first | exact Frm.nil | exact Take.here | apply Take.there | apply Frm.cons)) (board_Check_ct _ (by assumption))) ?_
        rintro _ _ ⟨v59, _, ⟨c, rfl, rfl, hc, hcid, hcg⟩, rfl, rfl⟩
        refine tl_q rfl (ev_neq rfl rfl) ?_
        refine tl_q rfl (ev_move rfl) ?_
        refine tl_split_dec 61 rfl (fun g9_3 => ?_) (fun g9_3 => ?_)
        · refine tl_guard_no rfl rfl rfl rfl ?_
          refine tl_guard_no rfl rfl rfl rfl ?_
          refine tl_guard_no rfl rfl rfl rfl ?_
          refine tl_guard_no rfl rfl rfl rfl ?_
          refine tl_q rfl (ev_pick_true rfl rfl) ?_
          refine tl_q rfl (ev_move rfl) ?_
          refine tl_guard_no rfl rfl rfl rfl ?_
          refine tl_q rfl (ev_pick_true rfl rfl) ?_
          refine tl_q rfl (ev_move rfl) ?_
          refine tl_guard_no rfl rfl rfl rfl ?_
          refine tl_q rfl (ev_pick_true rfl rfl) ?_
          refine tl_nil ?_
          refine te_code ?_
          refine t_cond_true rfl ?_
          refine t_seq ?_
          refine t_region ?_
          refine tl_q rfl (ev_assign rfl) ?_
          refine tl_nil ?_
          refine te_code ?_
          refine t_ret ?_
          refine te_ret_k (pre := [boardB bb m1 m2 most _, mp _ _ m1 _, mp _ _ m2 _, arr _ _ _ sv _]) (res1 rfl rfl) (by repeat (first | exact Frm.nil | exact Take.here | apply Take.there | apply Frm.cons)) ?_
          refine ⟨_, _, _, _, rfl, rfl, ?_, ?_, ?_⟩
          · first | (intro _; rfl) | (intro h; exact absurd rfl h)
          · first | (intro h; exact absurd h (by decide)) | (intro _; exact ⟨rfl, hz2⟩)
          · intro hg
            obtain ⟨q1, q2, q3, q4, q5, q6⟩ := hg
            first | rfl | (exfalso; omega) | (exfalso; have hu1 := q1 u (List.mem_of_getElem? hu); first | exact g9_3 (hcg hu1.1) | omega | (rw [alook_rowsOf _ _ (goodL_fresh (·.id) hu q2)] at g9_12; simp at g9_12; done) | (have hne : alook fids (signOf u.e) ≠ none := (by intro e; rw [e] at h2; simp at h2); obtain ⟨q, hq, e⟩ := hids _ hne; exact goodL_fresh (fun r => signOf r.e) hu q3 q hq e))
        · refine tl_guard rfl rfl rfl ?_
          refine tl_q rfl (ev_fieldAddr fa_45_0 rfl rfl) ?_
          refine tl_guard rfl rfl rfl ?_
          refine tl_q rfl (ev_load sc_3 rfl (by first | (left; (repeat (first | exact List.Mem.head _ | apply List.Mem.tail)); done) | (right; (repeat (first | exact List.Mem.head _ | apply List.Mem.tail)); done)) rfl) ?_
          refine tl_guard rfl rfl rfl ?_
          refine tl_q rfl (ev_move rfl) ?_
          refine tl_guard rfl rfl rfl ?_
          refine tl_q rfl (ev_geq rfl rfl) ?_
          refine tl_q rfl (ev_pick_false rfl rfl) ?_
          refine tl_q rfl (ev_move rfl) ?_
          refine tl_split_dec 67 rfl (fun g9_9 => ?_) (fun g9_9 => ?_)
          · refine tl_guard_no rfl rfl rfl rfl ?_
            refine tl_q rfl (ev_pick_true rfl rfl) ?_
            refine tl_q rfl (ev_move rfl) ?_
            refine tl_guard_no rfl rfl rfl rfl ?_
            refine tl_q rfl (ev_pick_true rfl rfl) ?_
            refine tl_nil ?_
            refine te_code ?_
            refine t_cond_true rfl ?_
            refine t_seq ?_
            refine t_region ?_
            refine tl_q rfl (ev_assign rfl) ?_
            refine tl_nil ?_
            refine te_code ?_
            refine t_ret ?_
            refine te_ret_k (pre := [boardB bb m1 m2 most _, mp _ _ m1 _, mp _ _ m2 _, arr _ _ _ sv _]) (res1 rfl rfl) (by repeat (first | exact Frm.nil | exact Take.here | apply Take.there | apply Frm.cons)) ?_
            refine ⟨_, _, _, _, rfl, rfl, ?_, ?_, ?_⟩
            · first | (intro _; rfl) | (intro h; exact absurd rfl h)
            · first | (intro h; exact absurd h (by decide)) | (intro _; exact ⟨rfl, hz2⟩)
            · intro hg
              obtain ⟨q1, q2, q3, q4, q5, q6⟩ := hg
              first | rfl | (exfalso; omega) | (exfalso; have hu1 := q1 u (List.mem_of_getElem? hu); first | exact g9_3 (hcg hu1.1) | omega | (rw [alook_rowsOf _ _ (goodL_fresh (·.id) hu q2)] at g9_12; simp at g9_12; done) | (have hne : alook fids (signOf u.e) ≠ none := (by intro e; rw [e] at h2; simp at h2); obtain ⟨q, hq, e⟩ := hids _ hne; exact goodL_fresh (fun r => signOf r.e) hu q3 q hq e))
          · refine tl_guard rfl rfl rfl ?_
            refine tl_q rfl (ev_move rfl) ?_
            refine tl_q rfl (ev_pick_false rfl rfl) ?_
            refine tl_q rfl (ev_move rfl) ?_
            refine tl_split 70 rfl (fun g9_12 => ?_) (fun g9_12 => ?_)
            · refine tl_guard_no rfl rfl rfl rfl ?_
              refine tl_q rfl (ev_pick_true rfl rfl) ?_
              refine tl_nil ?_
              refine te_code ?_
              refine t_cond_true rfl ?_
              refine t_seq ?_
              refine t_region ?_
              refine tl_q rfl (ev_assign rfl) ?_
              refine tl_nil ?_
              refine te_code ?_
              refine t_ret ?_
              refine te_ret_k (pre := [boardB bb m1 m2 most _, mp _ _ m1 _, mp _ _ m2 _, arr _ _ _ sv _]) (res1 rfl rfl) (by repeat (first | exact Frm.nil | exact Take.here | apply Take.there | apply Frm.cons)) ?_
              refine ⟨_, _, _, _, rfl, rfl, ?_, ?_, ?_⟩
              · first | (intro _; rfl) | (intro h; exact absurd rfl h)
              · first | (intro h; exact absurd h (by decide)) | (intro _; exact ⟨rfl, hz2⟩)
              · intro hg
                obtain ⟨q1, q2, q3, q4, q5, q6⟩ := hg
                first | rfl | (exfalso; omega) | (exfalso; have hu1 := q1 u (List.mem_of_getElem? hu); first | exact g9_3 (hcg hu1.1) | omega | (rw [alook_rowsOf _ _ (goodL_fresh (·.id) hu q2)] at g9_12; simp at g9_12; done) | (have hne : alook fids (signOf u.e) ≠ none := (by intro e; rw [e] at h2; simp at h2); obtain ⟨q, hq, e⟩ := hids _ hne; exact goodL_fresh (fun r => signOf r.e) hu q3 q hq e))
            · refine tl_guard rfl rfl rfl ?_
              refine tl_q rfl (ev_move rfl) ?_
              refine tl_q rfl (ev_pick_false rfl rfl) ?_
              refine tl_nil ?_
              refine te_code ?_
              refine t_cond rfl (fun h2 => ?_) (fun h2 => ?_)
              · refine t_seq ?_
                refine t_region ?_
                refine tl_q rfl (ev_assign rfl) ?_
                refine tl_nil ?_
                refine te_code ?_
                refine t_ret ?_
                refine te_ret_k (pre := [boardB bb m1 m2 most _, mp _ _ m1 _, mp _ _ m2 _, arr _ _ _ sv _]) (res1 rfl rfl) (by repeat (first | exact Frm.nil | exact Take.here | apply Take.there | apply Frm.cons)) ?_
                refine ⟨_, _, _, _, rfl, rfl, ?_, ?_, ?_⟩
                · first | (intro _; rfl) | (intro h; exact absurd rfl h)
                · first | (intro h; exact absurd h (by decide)) | (intro _; exact ⟨rfl, hz2⟩)
                · intro hg
                  obtain ⟨q1, q2, q3, q4, q5, q6⟩ := hg
                  first | rfl | (exfalso; omega) | (exfalso; have hu1 := q1 u (List.mem_of_getElem? hu); first | exact g9_3 (hcg hu1.1) | omega | (rw [alook_rowsOf _ _ (goodL_fresh (·.id) hu q2)] at g9_12; simp at g9_12; done) | (have hne : alook fids (signOf u.e) ≠ none := (by intro e; rw [e] at h2; simp at h2); obtain ⟨q, hq, e⟩ := hids _ hne; exact goodL_fresh (fun r => signOf r.e) hu q3 q hq e))
              · refine t_skip ?_
                refine te_code ?_
                refine t_region ?_
                refine tl_q rfl (ev_move rfl) ?_
                refine tl_q rfl (ev_load_agg ag_45 rfl (by first | (left; (repeat (first | exact List.Mem.head _ | apply List.Mem.tail)); done) | (right; (repeat (first | exact List.Mem.head _ | apply List.Mem.tail)); done)) (by repeat (first | exact LDrop.zero | apply LDrop.succ)) (by repeat (first | exact LTake.zero | apply LTake.succ))) ?_
                refine tl_e (eff_call rfl rfl body_42 rfl (by repeat (first | exact Frm.nil | exact Take.here | apply Take.there | apply Frm.cons)) (board_put_ct _ _ _ _ _ _ _ _)) ?_
                rintro _ _ ⟨v75, _, ⟨rfl, rfl⟩, rfl, rfl⟩
                rw [rowsOf_snoc hu (by cases h : alook (rowsOf (xs.take i)) u.id with | none => rfl | some _ => simp [h] at g9_12)]
                refine tl_nil ?_
                refine te_blk ?_
                refine te_code ?_
                refine t_region ?_
                refine tl_q rfl (ev_add' rfl rfl (by omega)) ?_
                refine tl_q rfl (ev_move rfl) ?_
                refine tl_nil ?_
                exact te_round (i + 1, _) (by exact sub_cons rfl (sub_cons rfl (sub_cons rfl (sub_cons rfl (sub_cons rfl (sub_cons rfl (sub_cons rfl (sub_nil)))))))) (fun _ h => hold_keep (by repeat (first | exact Frm.nil | exact Take.here | apply Take.there | apply Frm.cons)) h) ⟨by dsimp only; omega, fun m hm x hx => by
                      by_cases e : m = i
                      · subst e; rw [hu] at hx; cases hx; exact ⟨hcid (by omega), by omega⟩
                      · exact hz m (by dsimp only at hm; omega) x hx, fun s hs => by
                      have hlt := (List.getElem?_eq_some_iff.1 hu).1
                      have he := (List.getElem?_eq_some_iff.1 hu).2
                      dsimp only at hs ⊢
                      rw [alook_aset] at hs
                      rw [List.take_succ_eq_append_getElem hlt, he]
                      by_cases e : signOf u.e = s
                      · exact ⟨u, by simp, e⟩
                      · rw [if_neg e] at hs
                        obtain ⟨q, hq, e2⟩ := hids s hs
                        exact ⟨q, by simp [hq], e2⟩⟩ (by dsimp only; omega)
      · obtain rfl : i = xs.length := by omega
        simp only [List.take_length]
        refine t_nodup (al := rowsOf xs) (b := b27) (by repeat (first | exact List.Mem.head _ | apply List.Mem.tail)) (fun hnd => ?_)
        have hz2 : ∀ r ∈ xs, 1 ≤ r.id ∧ r.id < n := fun r hr => by
          obtain ⟨m, hm, e⟩ := List.getElem_of_mem hr
          exact hz m hm r (by rw [List.getElem?_eq_getElem hm, e])
        refine t_exit ?_
        refine te_exit_code ?_
        refine te_exit_rnd ?_
        refine te_exit_here ?_
        refine te_code ?_
        refine t_seq ?_
        refine t_seq ?_
        refine t_region ?_
        refine tl_q rfl (ev_move rfl) ?_
        refine tl_q rfl (ev_len_sh sl_22 rfl (by assumption)) ?_
        refine tl_q rfl (ev_move rfl) ?_
        refine tl_q rfl (ev_nil_ptr rfl) ?_
        refine tl_q rfl (ev_fieldAddr fa_94_0 rfl rfl) ?_
        refine tl_q rfl (ev_load sc_3 rfl (by first | (left; (repeat (first | exact List.Mem.head _ | apply List.Mem.tail)); done) | (right; (repeat (first | exact List.Mem.head _ | apply List.Mem.tail)); done)) rfl) ?_
        refine tl_q rfl (ev_gtr rfl rfl) ?_
        refine tl_nil ?_
        refine te_code ?_
        refine t_cond_dec rfl (fun h3 => ?_) (fun h3 => ?_)
        · refine t_seq ?_
          refine t_region ?_
          refine tl_q rfl (ev_assign rfl) ?_
          refine tl_nil ?_
          refine te_code ?_
          refine t_ret ?_
          refine te_ret_k (pre := [boardB bb m1 m2 most _, mp _ _ m1 _, mp _ _ m2 _, arr _ _ _ sv _]) (res1 rfl rfl) (by repeat (first | exact Frm.nil | exact Take.here | apply Take.there | apply Frm.cons)) ?_
          refine ⟨_, _, _, _, rfl, rfl, ?_, ?_, ?_⟩
          · first | (intro _; rfl) | (intro h; exact absurd rfl h)
          · first | (intro h; exact absurd h (by decide)) | (intro _; exact ⟨rfl, hz2⟩)
          · intro hg
            obtain ⟨q1, q2, q3, q4, q5, q6⟩ := hg
            first | rfl | (exfalso; omega) | (exfalso; have hu1 := q1 u (List.mem_of_getElem? hu); first | exact g9_3 (hcg hu1.1) | omega | (rw [alook_rowsOf _ _ (goodL_fresh (·.id) hu q2)] at g9_12; simp at g9_12; done) | (have hne : alook fids (signOf u.e) ≠ none := (by intro e; rw [e] at h2; simp at h2); obtain ⟨q, hq, e⟩ := hids _ hne; exact goodL_fresh (fun r => signOf r.e) hu q3 q hq e))
        · refine t_skip ?_
          refine te_code ?_
          refine t_seq ?_
          refine t_region ?_
          refine tl_q rfl (ev_move rfl) ?_
          refine tl_q rfl (ev_nil_ptr rfl) ?_
          refine tl_q rfl (ev_fieldAddr fa_94_2 rfl rfl) ?_
          refine tl_q rfl (ev_load sc_91 rfl (by first | (left; (repeat (first | exact List.Mem.head _ | apply List.Mem.tail)); done) | (right; (repeat (first | exact List.Mem.head _ | apply List.Mem.tail)); done)) rfl) ?_
          refine tl_e (eff_clear map_91 rfl (by repeat (first | exact Upd.here | apply Upd.there)) rfl) ?_
          rintro _ _ ⟨rfl, rfl⟩
          refine tl_nil ?_
          refine te_code ?_
          refine t_seq ?_
          refine t_region ?_
          refine tl_q rfl (ev_move rfl) ?_
          refine tl_q rfl (ev_nil_ptr rfl) ?_
          refine tl_q rfl (ev_fieldAddr fa_94_3 rfl rfl) ?_
          refine tl_q rfl (ev_load sc_92 rfl (by first | (left; (repeat (first | exact List.Mem.head _ | apply List.Mem.tail)); done) | (right; (repeat (first | exact List.Mem.head _ | apply List.Mem.tail)); done)) rfl) ?_
          refine tl_e (eff_clear map_92 rfl (by repeat (first | exact Upd.here | apply Upd.there)) rfl) ?_
          rintro _ _ ⟨rfl, rfl⟩
          refine tl_nil ?_
          refine te_code ?_
          refine t_seq ?_
          refine t_seq ?_
          refine t_region ?_
          refine tl_q rfl (ev_move rfl) ?_
          refine tl_q rfl (ev_len_sh sl_22 rfl (by assumption)) ?_
          refine tl_q rfl (ev_move rfl) ?_
          refine tl_nil ?_
          refine te_code ?_
          refine t_block ?_
          refine t_loop (α := Nat × List (Sign × Int)) (fun q => [(94, .int .i64 (q.1 : Int)), (93, .int .i64 (xs.length : Int)), (92, sv), (0, .pointer (some ⟨bb, 0, none⟩)), (2, .int .i64 n)]) (fun q => [boardB bb m1 m2 most next, mp iI rowV m1 (rowsOf (xs.take q.1)), mp signV iI m2 q.2, arr 45 11 encRow sv xs]) (fun q => xs.length - q.1) (fun q => q.1 ≤ xs.length) (0, []) (by simp) (by exact sub_cons rfl (sub_cons rfl (sub_cons rfl (sub_cons rfl (sub_cons rfl (sub_nil)))))) (fun _ h => hold_keep (by repeat (first | exact Frm.nil | exact Take.here | apply Take.there | apply Frm.cons)) h) ?_
          rintro ⟨i, fids⟩ hi
          try dsimp only
          dsimp only at hi
          refine t_seq ?_
          refine t_region ?_
          refine tl_q rfl (ev_lss rfl rfl) ?_
          refine tl_nil ?_
          refine te_code ?_
          refine t_seq ?_
          refine t_cond_dec rfl (fun h0 => ?_) (fun h0 => ?_)
          · obtain ⟨u, hu⟩ : ∃ u, xs[i]? = some u := ⟨xs[i], by simp [show i < xs.length by omega]⟩
            have huok : okRow u := hx u (List.mem_of_getElem? hu)
            refine t_skip ?_
            refine te_code ?_
            refine t_seq ?_
            refine t_block ?_
            refine t_seq ?_
            refine t_region ?_
            refine tl_q rfl (ev_at_sh sl_22 rfl rfl (by assumption) (by omega)) ?_
            refine tl_q rfl (ev_load_at_agg ag_45 rfl (by first | exact HasArr.own (by repeat (first | exact List.Mem.head _ | apply List.Mem.tail)) | exact HasArr.sh (by repeat (first | exact List.Mem.head _ | apply List.Mem.tail))) (by intro _; rfl) (by assumption) (by rfl)) ?_
            refine tl_e (eff_alloc rfl zero_45 rfl) ?_
            rintro _ _ ⟨b15, rfl, rfl⟩
            refine tl_e (eff_store rfl rfl rfl rfl sz_45 (by first | (simp [Flat]; done) | exact flatRow _ | exact flatEvt _ | exact flatI _) (by repeat (first | exact Upd.here | apply Upd.there)) (by repeat (first | exact LPut.nil | apply LPut.cons | apply LPut.succ))) ?_
            rintro _ _ ⟨rfl, rfl⟩
            refine tl_nil ?_
            refine te_code ?_
            refine t_region ?_
            refine tl_q rfl (ev_move rfl) ?_
            refine tl_q rfl (ev_load_agg ag_45 rfl (by first | (left; (repeat (first | exact List.Mem.head _ | apply List.Mem.tail)); done) | (right; (repeat (first | exact List.Mem.head _ | apply List.Mem.tail)); done)) (by repeat (first | exact LDrop.zero | apply LDrop.succ)) (by repeat (first | exact LTake.zero | apply LTake.succ))) ?_
            refine tl_e (eff_call rfl rfl body_42 rfl (by repeat (first | exact Frm.nil | exact Take.here | apply Take.there | apply Frm.cons)) (board_put_ct _ _ _ _ _ _ _ _)) ?_
            rintro _ _ ⟨v100, _, ⟨rfl, rfl⟩, rfl, rfl⟩
            rw [rowsOf_snoc hu (rowsOf_fresh hu hnd)]
            refine tl_nil ?_
            refine te_blk ?_
            refine te_code ?_
            refine t_region ?_
            refine tl_q rfl (ev_add' rfl rfl (by omega)) ?_
            refine tl_q rfl (ev_move rfl) ?_
            refine tl_nil ?_
            exact te_round (i + 1, _) (by exact sub_cons rfl (sub_cons rfl (sub_cons rfl (sub_cons rfl (sub_cons rfl (sub_nil)))))) (fun _ h => hold_keep (by repeat (first | exact Frm.nil | exact Take.here | apply Take.there | apply Frm.cons)) h) (by dsimp only; omega) (by dsimp only; omega)
          · obtain rfl : i = xs.length := by omega
            simp only [List.take_length]
            refine t_exit ?_
            refine te_exit_code ?_
            refine te_exit_rnd ?_
            refine te_exit_here ?_
            refine te_code ?_
            refine t_seq ?_
            refine t_region ?_
            refine tl_q rfl (ev_move rfl) ?_
            refine tl_q rfl (ev_move rfl) ?_
            refine tl_q rfl (ev_nil_ptr rfl) ?_
            refine tl_q rfl (ev_fieldAddr fa_94_1 rfl rfl) ?_
            refine tl_e (eff_store rfl rfl rfl rfl sz_3 (by first | (simp [Flat]; done) | exact flatRow _ | exact flatEvt _ | exact flatI _) (by repeat (first | exact Upd.here | apply Upd.there)) (by repeat (first | exact LPut.nil | apply LPut.cons | apply LPut.succ))) ?_
            rintro _ _ ⟨rfl, rfl⟩
            refine tl_nil ?_
            refine te_code ?_
            refine t_seq ?_
            refine t_region ?_
            refine tl_q rfl (ev_assign rfl) ?_
            refine tl_nil ?_
            refine te_code ?_
            refine t_ret ?_
            refine te_ret_k (pre := [boardB bb m1 m2 most _, mp _ _ m1 _, mp _ _ m2 _, arr _ _ _ sv _]) (res1 rfl rfl) (by repeat (first | exact Frm.nil | exact Take.here | apply Take.there | apply Frm.cons)) ?_
            refine ⟨_, _, _, _, rfl, rfl, ?_, ?_, ?_⟩
            · first | (intro _; rfl) | (intro h; exact absurd rfl h)
            · first | (intro h; exact absurd h (by decide)) | (intro _; exact ⟨rfl, hz2⟩)
            · intro hg
              obtain ⟨q1, q2, q3, q4, q5, q6⟩ := hg
              first | rfl | (exfalso; omega) | (exfalso; have hu1 := q1 u (List.mem_of_getElem? hu); first | exact g9_3 (hcg hu1.1) | omega | (rw [alook_rowsOf _ _ (goodL_fresh (·.id) hu q2)] at g9_12; simp at g9_12; done) | (have hne : alook fids (signOf u.e) ≠ none := (by intro e; rw [e] at h2; simp at h2); obtain ⟨q, hq, e⟩ := hids _ hne; exact goodL_fresh (fun r => signOf r.e) hu q3 q hq e))

end Go.SL
