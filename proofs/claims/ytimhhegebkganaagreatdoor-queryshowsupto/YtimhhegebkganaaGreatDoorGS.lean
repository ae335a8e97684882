/- Contracts of slices.Values and AppendSeq. -/
import Derived.Test.YtimhhegebkganaaGreatDoorProg
import Derived.Test.YtimhhegebkganaaGreatDoorGR
import Derived.Test.YtimhhegebkganaaGreatDoorSl11
set_option linter.unusedSimpArgs false
set_option linter.unusedVariables false
set_option maxRecDepth 4000
namespace Go.SL
open Go.Proofs

theorem body_46 : (Tryz.prog.funcs[46]?).map (fun fn => fn.body.isSome && !(fn.name == "runtime.NumGoroutine")) = some true := by kernel_rfl
theorem sc_22 : IsSc Tryz.prog 22 := isSc_of Tryz.underlying22 rfl


theorem rowV_inj (a b : Row) (h : rowV a = rowV b) : a = b := by
  obtain ⟨i, ⟨n, c, k, lv, t⟩, ta, f, l, ak, by_⟩ := a
  obtain ⟨i', ⟨n', c', k', lv', t'⟩, ta', f', l', ak', by_'⟩ := b
  simp [rowV, encRow] at h
  obtain ⟨rfl, rfl, rfl, rfl, rfl, rfl, rfl, rfl, rfl, rfl, rfl⟩ := h
  rfl

theorem Values1_ct (l bs m mb : Nat) (rec : Loop) (rows : List (Int × Row)) (hl : rows.length ≤ 1000000) (hY : ∀ sv xs x, xs.length ≤ 1000000 → YC Tryz.prog l (rowV x) [blk l (.loop rec), blk bs (.cells [sv].toArray 22 (0, 0)), arr 45 11 encRow sv xs] (fun sv' => [blk l (.loop rec), blk bs (.cells [sv'].toArray 22 (0, 0)), arr 45 11 encRow sv' (xs ++ [x])])) : CT Tryz.prog 46 #[.func (.yield l) #[] #[], .pointer (some ⟨mb, 0, none⟩)] [mp iI rowV m rows, blk l (.loop rec), blk bs (.cells [.slice none 0 0].toArray 22 (0, 0)), arr 45 11 encRow (.slice none 0 0) [], blk mb (.cells [.map (some m)].toArray 91 (0, 0))] (fun v M => ∃ sv xs, v = .tuple #[] ∧ xs.Perm (rows.map (·.2)) ∧ M = [mp iI rowV m rows, blk l (.loop rec), blk bs (.cells [sv].toArray 22 (0, 0)), arr 45 11 encRow sv xs, blk mb (.cells [.map (some m)].toArray 91 (0, 0))]) := by
  refine t_fun (vs := [.func (.yield l) #[] #[], .pointer (some ⟨mb, 0, none⟩)]) (n := 15) Tryz.func46 rfl Tryz.ntmps46 rfl fun w0 F => ?_
  refine t_mp (fun es clk hrep => ?_)
  refine t_seq ?_
  refine t_region ?_
  refine tl_q rfl (ev_load sc_91 rfl (by first | (left; (repeat (first | exact List.Mem.head _ | apply List.Mem.tail)); done) | (right; (repeat (first | exact List.Mem.head _ | apply List.Mem.tail)); done)) rfl) ?_
  refine tl_e (eff_range rfl map_91 rfl (by first | (left; (repeat (first | exact List.Mem.head _ | apply List.Mem.tail)); done) | (right; (repeat (first | exact List.Mem.head _ | apply List.Mem.tail)); done))) ?_
  rintro _ _ ⟨b6, rfl, rfl⟩
  refine tl_nil ?_
  refine te_code ?_
  refine t_block ?_
  refine t_loop (α := Array Nat × Value × List Row) (fun q => [(6, .pointer (some ⟨b6, 0, none⟩)), (0, .func (.yield l) #[] #[])]) (fun q => [blk b6 (.mapIter (some m) clk q.1 clk), blk m (.map es clk), blk l (.loop rec), blk bs (.cells [q.2.1].toArray 22 (0, 0)), arr 45 11 encRow q.2.1 q.2.2, blk mb (.cells [.map (some m)].toArray 91 (0, 0))]) (fun q => (leftOf es q.1).size) (fun q => ∃ ys, es.toList.Perm (ys ++ (leftOf es q.1).toList) ∧ ys.map (·.val) = q.2.2.map rowV) (#[], .slice none 0 0, []) ⟨[], by rw [left_start]; exact List.Perm.refl _, rfl⟩ (by exact sub_cons rfl (sub_cons rfl (sub_nil))) (fun _ h => hold_keep (by repeat (first | exact Frm.nil | exact Take.here | apply Take.there | apply Frm.cons)) h) ?_
  rintro ⟨seen, sv, xs⟩ ⟨ys, hys1, hys2⟩
  try dsimp only
  dsimp only at hys1 hys2
  have hlen : xs.length ≤ 1000000 := by
    have h1 := hys1.length_eq
    have h2 := congrArg List.length hrep.pairs
    have h3 := congrArg List.length hys2
    simp at h1 h2 h3
    omega
  refine t_seq ?_
  refine t_region ?_
  refine tl_e (eff_next (M := fun s => [blk b6 (.mapIter (some m) clk s clk), blk m (.map es clk), blk l (.loop rec), blk bs (.cells [sv].toArray 22 (0, 0)), arr 45 11 encRow sv xs, blk mb (.cells [.map (some m)].toArray 91 (0, 0))]) rfl rfl (by first | (left; (repeat (first | exact List.Mem.head _ | apply List.Mem.tail)); done) | (right; (repeat (first | exact List.Mem.head _ | apply List.Mem.tail)); done)) hrep.old (fun s => (by repeat (first | exact Upd.here | apply Upd.there)))) ?_
  rintro _ _ (⟨h0, rfl, rfl⟩ | ⟨e, he, rfl, rfl⟩)
  · have hle := left_empty h0
    rw [hle, List.append_nil] at hys1
    have hperm : xs.Perm (rows.map (·.2)) := perm_unmap rowV rowV_inj (by rw [← hys2, ← hrep.vals]; exact (hys1.map _).symm)
    refine tl_q rfl (ev_extract rfl rfl) ?_
    refine tl_nil ?_
    refine te_code ?_
    refine t_seq ?_
    refine t_cond_false rfl ?_
    refine t_exit ?_
    refine te_exit_code ?_
    refine te_exit_rnd ?_
    refine te_exit_here ?_
    refine te_keep (pre := [blk m (.map es clk), blk l (.loop rec), blk bs (.cells [sv].toArray 22 (0, 0)), arr 45 11 encRow sv xs, blk mb (.cells [.map (some m)].toArray 91 (0, 0))]) (by repeat (first | exact Frm.nil | exact Take.here | apply Take.there | apply Frm.cons)) ?_
    refine te_mp hrep ?_
    refine te_end (res0 rfl) ?_
    exact ⟨_, _, rfl, hperm, rfl⟩
  · have hes := (mem_left he).1
    obtain ⟨x, hxr, hx⟩ := hrep.val_of hes
    obtain ⟨ek, ev0, eb⟩ := e
    dsimp only at hx he hes
    subst hx
    refine tl_q rfl (ev_extract rfl rfl) ?_
    refine tl_nil ?_
    refine te_code ?_
    refine t_seq ?_
    refine t_cond_true rfl ?_
    refine t_skip ?_
    refine te_code ?_
    refine t_block ?_
    refine t_seq ?_
    refine t_region ?_
    refine tl_q rfl (ev_entry (e := ⟨ek, rowV x, eb⟩) rfl (by first | (left; (repeat (first | exact List.Mem.head _ | apply List.Mem.tail)); done) | (right; (repeat (first | exact List.Mem.head _ | apply List.Mem.tail)); done)) (by first | (left; (repeat (first | exact List.Mem.head _ | apply List.Mem.tail)); done) | (right; (repeat (first | exact List.Mem.head _ | apply List.Mem.tail)); done)) hes hrep.born) ?_
    refine tl_q rfl (ev_extract rfl rfl) ?_
    refine tl_e (eff_alloc rfl zero_45 rfl) ?_
    rintro _ _ ⟨b4, rfl, rfl⟩
    refine tl_e (eff_store rfl rfl rfl rfl sz_45 (by first | (simp [Flat]; done) | exact flatS _ | exact flatTick _ | exact flatRow _ | exact flatEvt _ | exact flatI _) (by repeat (first | exact Upd.here | apply Upd.there)) (by repeat (first | exact LPut.nil | apply LPut.cons | apply LPut.succ))) ?_
    rintro _ _ ⟨rfl, rfl⟩
    refine tl_nil ?_
    refine te_code ?_
    refine t_seq ?_
    refine t_region_s (l := [0, 1, 2, 3]) rfl ?_
    refine ts_q rfl rfl (ev_move rfl) ?_
    refine ts_q rfl rfl (ev_load_agg ag_45 rfl (by first | (left; (repeat (first | exact List.Mem.head _ | apply List.Mem.tail)); done) | (right; (repeat (first | exact List.Mem.head _ | apply List.Mem.tail)); done)) (by repeat (first | exact LDrop.zero | apply LDrop.succ)) (by repeat (first | exact LTake.zero | apply LTake.succ))) ?_
    refine ts_yc (v := rowV x) rfl rfl rfl rfl (by repeat (first | exact Frm.nil | exact Take.here | apply Take.there | apply Frm.cons)) (hY sv xs x hlen) (fun sv' => ?_)
    refine ts_q rfl rfl (ev_not rfl) ?_
    refine ts_nil ?_
    refine te_code ?_
    refine t_cond_no rfl rfl ?_
    refine t_skip ?_
    refine te_blk ?_
    exact te_round (seen.push eb, sv', xs ++ [x]) (by exact sub_cons rfl (sub_cons rfl (sub_nil))) (fun _ h => hold_keep (by repeat (first | exact Frm.nil | exact Take.here | apply Take.there | apply Frm.cons)) h) ⟨ys ++ [⟨ek, rowV x, eb⟩], by dsimp only; rw [List.append_assoc]; exact hys1.trans (List.Perm.append_left _ (left_push he hrep.born)), by dsimp only; simp [hys2]⟩ (left_shrinks es seen ⟨ek, rowV x, eb⟩ he)


theorem enters_46 (args : Array Value) (w : World) : (callFunc 46 args).run Tryz.prog w = .ok (.enter 46 args) w := by
  obtain ⟨fn, hfn, hb⟩ := Option.map_eq_some_iff.1 body_46
  simp only [Bool.and_eq_true, Bool.not_eq_true'] at hb
  have hnone : fn.body ≠ none := by intro h; rw [h] at hb; exact absurd hb.1 (by simp)
  have hname : fn.name ≠ "runtime.NumGoroutine" := by simpa using hb.2
  simp [callFunc, program, Sem.run, hfn, hname, hnone]
theorem AppendSeq_ct (mb m : Nat) (rows : List (Int × Row)) (hl : rows.length ≤ 1000000) : CT Tryz.prog 77 #[.slice none 0 0, .func (.func 46) #[] #[.pointer (some ⟨mb, 0, none⟩)]] [mp iI rowV m rows, blk mb (.cells [.map (some m)].toArray 91 (0, 0))]
    (fun v M => ∃ xs, xs.Perm (rows.map (·.2)) ∧ M = [arr 45 11 encRow v xs, mp iI rowV m rows, blk mb (.cells [.map (some m)].toArray 91 (0, 0))]) := by
  intro w F hw
  let X : Cx := ⟨Tryz.prog, Tryz.f77, ⟨w, true⟩, 13, F, fun _ _ => False⟩
  have hA0 : Agree 13 [(0, .slice none 0 0), (1, .func (.func 46) #[] #[.pointer (some ⟨mb, 0, none⟩)])] ⟨#[.slice none 0 0, .func (.func 46) #[] #[.pointer (some ⟨mb, 0, none⟩)]] ++ Array.replicate (Tryz.f77.ntmps - 2) undef, []⟩ := by
    refine ⟨by rw [Tryz.ntmps77]; rfl, rfl, fun i v e => ?_⟩
    rw [look_cons] at e
    by_cases h0 : 0 = i
    · subst h0; simp at e; subst e; rfl
    · simp only [h0, if_false] at e
      rw [look_cons] at e
      by_cases h1 : 1 = i
      · subst h1; simp at e; subst e; rfl
      · simp [h1, look] at e
  refine (callsIn_wide (n := 0)).1 (callsIn_of_wp_marks Tryz.func77 rfl trivial (wpIn_wide.2 ?_) rfl)
  refine wp_seq ?_
  refine wp_mono (sem_of_T (X := X) rfl (J := fun a w1 => ∃ bs, Agree 13 [(4, .slice none 0 0), (2, .pointer (some ⟨bs, 0, none⟩)), (1, .func (.func 46) #[] #[.pointer (some ⟨mb, 0, none⟩)])] a ∧ Same ⟨w, true⟩ w1 ∧ Hold w1 (blk bs (.cells [.slice none 0 0].toArray 22 (0, 0)) :: ([mp iI rowV m rows, blk mb (.cells [.map (some m)].toArray 91 (0, 0))] ++ F))) (t_region ?_) hA0 (Same.refl w) hw) ?_
  · refine tl_e (eff_box rfl rfl rfl) ?_
    rintro _ _ ⟨bs, rfl, rfl⟩
    refine tl_q rfl (ev_assign rfl) ?_
    refine tl_nil ?_
    exact te_rnd fun a w1 ha hs hw1 => ⟨bs, ha.sub (by exact sub_cons rfl (sub_cons rfl (sub_cons rfl sub_nil))), hs, hw1⟩
  rintro e a w1 ⟨rfl, bs, hA, hS, hw1⟩
  show Code.wp _ _ _ _ _
  refine wp_seq ?_
  refine wp_seq ?_
  refine wp_mono (sem_of_T (X := X) rfl (J := fun a w1 => Agree 13 [(6, .func (.func 46) #[] #[.pointer (some ⟨mb, 0, none⟩)]), (2, .pointer (some ⟨bs, 0, none⟩))] a ∧ Same ⟨w, true⟩ w1 ∧ Hold w1 (blk bs (.cells [.slice none 0 0].toArray 22 (0, 0)) :: ([mp iI rowV m rows, blk mb (.cells [.map (some m)].toArray 91 (0, 0))] ++ F))) (L := [blk bs (.cells [.slice none 0 0].toArray 22 (0, 0)), mp iI rowV m rows, blk mb (.cells [.map (some m)].toArray 91 (0, 0))]) (t_region ?_) hA hS hw1) ?_
  · refine tl_q rfl (ev_move rfl) ?_
    refine tl_nil ?_
    exact te_rnd fun a w1 ha hs hw1 => ⟨ha.sub (by exact sub_cons rfl (sub_cons rfl sub_nil)), hs, hw1⟩
  rintro e a w1 ⟨rfl, hA, hS, hw1⟩
  show Code.wp _ _ _ _ _
  refine wp_block ?_
  refine (wpIn_wide (n := 0)).1 (wpIn_rangeFunc ?_)
  intro fn _
  have hw2 := (Hold.alloc hw1 (.deferred (some [])))
  have hw3 := fun r : Loop => Hold.alloc hw2 (.loop r)
  rw [World.size_alloc] at hw3
  refine ⟨_, _, _, _, _, 46, _, _, run_enterLoop_outer _ _ _ _ _, (by simp [rangeCall, resolve, hA.get 6 _ rfl, Act.eval, Deferred.ofValue]; exact ⟨rfl, rfl⟩), fun _ _ => trivial, (by simp [invoke, enters_46]; exact ⟨rfl, rfl⟩), fun h => absurd h (by simp [Fence.wide]), callsIn_wide.2 ?_⟩
  obtain ⟨tm, df⟩ := a
  obtain rfl : df = [] := hA.defers
  have key : ∀ r : Loop, r.state = .ready → r.pending = none → (∀ sv xs x, xs.length ≤ 1000000 → YC Tryz.prog (w1.heap.size + 1) (rowV x) [blk (w1.heap.size + 1) (.loop r), blk bs (.cells [sv].toArray 22 (0, 0)), arr 45 11 encRow sv xs] (fun sv' => [blk (w1.heap.size + 1) (.loop r), blk bs (.cells [sv'].toArray 22 (0, 0)), arr 45 11 encRow sv' (xs ++ [x])])) →
      Calls Tryz.prog 46 #[.func (.yield (w1.heap.size + 1)) #[] #[], .pointer (some ⟨mb, 0, none⟩)] ((w1.alloc (.deferred (some []))).alloc (.loop r)) (fun e w' => ∃ v sv xs, e = .returned v ∧ Same ⟨w, true⟩ w' ∧ xs.Perm (rows.map (·.2)) ∧
        ∃ r : Loop, r.state = .ready ∧ r.pending = none ∧ Hold w' (blk (w1.heap.size + 1) (.loop r) :: blk w1.heap.size (.deferred (some [])) :: blk bs (.cells [sv].toArray 22 (0, 0)) :: arr 45 11 encRow sv xs :: mp iI rowV m rows :: blk mb (.cells [.map (some m)].toArray 91 (0, 0)) :: F)) := by
    intro r h1 h2 hY
    have hh := (hw3 r).nil_arr 45 11 encRow
    have hp : Frm (arr 45 11 encRow (.slice none 0 0) [] :: blk (w1.heap.size + 1) (.loop r) :: blk w1.heap.size (.deferred (some [])) :: blk bs (.cells [.slice none 0 0].toArray 22 (0, 0)) :: mp iI rowV m rows :: blk mb (.cells [.map (some m)].toArray 91 (0, 0)) :: F)
      [mp iI rowV m rows, blk (w1.heap.size + 1) (.loop r), blk bs (.cells [.slice none 0 0].toArray 22 (0, 0)), arr 45 11 encRow (.slice none 0 0) [], blk mb (.cells [.map (some m)].toArray 91 (0, 0))] (blk w1.heap.size (.deferred (some [])) :: F) := (by repeat (first | exact Frm.nil | exact Take.here | apply Take.there | apply Frm.cons))
    refine Calls.mono (Values1_ct (w1.heap.size + 1) bs m mb r rows hl hY _ (blk w1.heap.size (.deferred (some [])) :: F) (hh.perm hp.perm)) fun e w' he => ?_
    cases e with
    | returned v =>
      obtain ⟨hs', L', ⟨sv, xs, rfl, hperm, rfl⟩, hh'⟩ := he
      refine ⟨_, sv, xs, rfl, hS.trans ((same_alloc (same_alloc (Same.refl w1 (m := true)))).trans hs' rfl) rfl, hperm, r, h1, h2, hh'.perm ?_⟩
      have hp2 : Frm (blk (w1.heap.size + 1) (.loop r) :: blk w1.heap.size (.deferred (some [])) :: blk bs (.cells [sv].toArray 22 (0, 0)) :: arr 45 11 encRow sv xs :: mp iI rowV m rows :: blk mb (.cells [.map (some m)].toArray 91 (0, 0)) :: F)
        [mp iI rowV m rows, blk (w1.heap.size + 1) (.loop r), blk bs (.cells [sv].toArray 22 (0, 0)), arr 45 11 encRow sv xs, blk mb (.cells [.map (some m)].toArray 91 (0, 0))] (blk w1.heap.size (.deferred (some [])) :: F) := (by repeat (first | exact Frm.nil | exact Take.here | apply Take.there | apply Frm.cons))
      exact hp2.perm.symm
    | panicked c => exact he.elim
    | outgrown => exact he.elim
  refine Calls.mono (key _ rfl rfl ?_) ?_
  · intro sv xs x hxl w0 w2 F2 hs2 hh2
    have hh2 : Hold w2 (blk (w1.heap.size + 1) (.loop _) :: ([blk bs (.cells [sv].toArray 22 (0, 0)), arr 45 11 encRow sv xs] ++ F2)) := hh2
    refine ⟨_, _, _, _, run_yield hh2.blk_get rfl, ?_⟩
    refine rnd_block (X := ⟨Tryz.prog, Tryz.f77, w0, 13, F2, fun _ _ => False⟩) rfl rfl rfl (fr := [(7, rowV x), (2, .pointer (some ⟨bs, 0, none⟩))]) (L := [blk bs (.cells [sv].toArray 22 (0, 0)), arr 45 11 encRow sv xs])
      (fun b5 : Nat => [(5, .pointer (some ⟨b5, 0, none⟩)), (2, .pointer (some ⟨bs, 0, none⟩))]) (fun b5 : Nat => [blk b5 (.cells (encRow x).toArray 45 (0, 0)), blk bs (.cells [sv].toArray 22 (0, 0)), arr 45 11 encRow sv xs])
      (fun sv' => [blk bs (.cells [sv'].toArray 22 (0, 0)), arr 45 11 encRow sv' (xs ++ [x])]) (by simp) (by simp) ?_ ?_ ?_ hs2 hh2
    · refine tl_e (eff_alloc rfl zero_45 rfl) ?_
      rintro _ _ ⟨b5, rfl, rfl⟩
      refine tl_e (eff_store (v := rowV x) rfl rfl rfl rfl sz_45 (flatRow x) (by repeat (first | exact Upd.here | apply Upd.there)) (by repeat (first | exact LPut.nil | apply LPut.cons | apply LPut.succ))) ?_
      rintro _ _ ⟨rfl, rfl⟩
      refine tl_nil ?_
      exact te_rnd fun a w ha hs hw => ⟨b5, ha.sub (by exact sub_cons rfl (sub_cons rfl sub_nil)), hs, hold_keep (pre := [blk (w1.heap.size + 1) (.loop _), blk b5 _, blk bs _, arr _ _ _ sv xs]) (by repeat (first | exact Frm.nil | exact Take.here | apply Take.there | apply Frm.cons)) hw⟩
    · intro b5
      refine tl_q rfl (ev_load sc_22 rfl (by first | (left; (repeat (first | exact List.Mem.head _ | apply List.Mem.tail)); done) | (right; (repeat (first | exact List.Mem.head _ | apply List.Mem.tail)); done)) rfl) ?_
      refine tl_q rfl (ev_load_agg ag_45 rfl (by first | (left; (repeat (first | exact List.Mem.head _ | apply List.Mem.tail)); done) | (right; (repeat (first | exact List.Mem.head _ | apply List.Mem.tail)); done)) (by repeat (first | exact LDrop.zero | apply LDrop.succ)) (by repeat (first | exact LTake.zero | apply LTake.succ))) ?_
      refine tl_e (eff_buildSl rfl bs_22_1 rfl (by repeat (first | exact FillR.nil | exact LPut.nil | apply LPut.cons | apply LPut.succ | apply FillR.cons rfl rfl rfl))) ?_
      rintro _ _ ⟨b10, rfl, rfl⟩
      refine tl_e (eff_append (ys := [x]) rfl sl_22 Tryz.underlying22 zero_45 rfl by_45 rfl rfl (by repeat (first | exact Take.here | apply Take.there)) (HasArr.lit (by first | (left; (repeat (first | exact List.Mem.head _ | apply List.Mem.tail)); done) | (right; (repeat (first | exact List.Mem.head _ | apply List.Mem.tail)); done)) rfl rfl) (by intro _; rfl) flatRow (by simp; omega) (by decide)) ?_
      rintro _ _ ⟨v11, rfl, rfl⟩
      refine tl_shape (enc := encRow) (sz := 11) (v := v11) (by first | exact HasArr.own (by repeat (first | exact List.Mem.head _ | apply List.Mem.tail)) | exact HasArr.sh (by repeat (first | exact List.Mem.head _ | apply List.Mem.tail))) (by intro _; rfl) (fun hsh2 => ?_)
      obtain ⟨p2, q2, c2, rfl⟩ := shape_sl hsh2
      refine tl_e (eff_store rfl rfl rfl rfl sz_22 (by simp [Flat]) (by repeat (first | exact Upd.here | apply Upd.there)) (by repeat (first | exact LPut.nil | apply LPut.cons | apply LPut.succ))) ?_
      rintro _ _ ⟨rfl, rfl⟩
      refine tl_nil ?_
      exact te_rnd fun a w ha hs hw => ⟨_, hs, hold_keep (pre := [blk (w1.heap.size + 1) (.loop _), blk bs _, arr _ _ _ _ (xs ++ [x])]) (by repeat (first | exact Frm.nil | exact Take.here | apply Take.there | apply Frm.cons)) hw⟩
    · have h7 : Agree 13 ((7, rowV x) :: [(6, .func (.func 46) #[] #[.pointer (some ⟨mb, 0, none⟩)]), (2, .pointer (some ⟨bs, 0, none⟩))]) ((⟨tm, []⟩ : Act).put (some 7) (rowV x)) := hA.put _ (by decide)
      have h8 := h7.sub (fr' := [(7, rowV x), (2, .pointer (some ⟨bs, 0, none⟩))]) (by exact sub_cons rfl (sub_cons rfl sub_nil))
      simpa [Act.put] using h8
  rintro e w4 ⟨v, sv, xs, rfl, hS4, hperm, r, hr1, hr2, hh4⟩
  have hend := run_endLoop (P := Tryz.prog) hh4.blk_get (by rw [hr1]; simp)
  have hh5 := Hold.putb hh4 (.loop { r with state := .exhausted })
  have hS5 : Same ⟨w, true⟩ (w4.putObj (w1.heap.size + 1) (.loop { r with state := .exhausted })) := same_put hS4
  generalize (w4.putObj (w1.heap.size + 1) (.loop { r with state := .exhausted })) = w5 at hend hh5 hS5
  rw [hr2] at hend
  refine ⟨_, w5, hend, ?_⟩
  have hev : ∀ ds, (⟨tm, ds⟩ : Act).eval = (⟨tm, []⟩ : Act).eval := fun ds => funext fun x => by cases x <;> rfl
  show Code.wp _ _ _ _ _
  refine wp_seq ?_
  have ev1 := fun (q : World) (h : Hold q _) (pos : String) (af : Array Edge) => ev_load (X := X) (x := .tmp 2) (b := bs) (o := 0) (l := [sv]) (v := sv) (fr := [(2, .pointer (some ⟨bs, 0, none⟩))]) (L := blk bs (.cells [sv].toArray 22 (0, 0)) :: arr 45 11 encRow sv xs :: mp iI rowV m rows :: blk mb (.cells [.map (some m)].toArray 91 (0, 0)) :: F) (dst := some 12) (ty := 22) (pos := pos) (af := af) sc_22 rfl (by first | (left; (repeat (first | exact List.Mem.head _ | apply List.Mem.tail)); done) | (right; (repeat (first | exact List.Mem.head _ | apply List.Mem.tail)); done)) rfl ⟨tm, []⟩ q (hA.sub (by exact sub_cons rfl sub_nil)) h
  refine wp_region_lit (wpList_plain rfl fun K hK => ?_)
  unfold Oper.wp
  dsimp only
  rw [hev, ev1 _ (hh5.drop.drop)]
  refine hK _ _ (wpList_plain rfl fun K2 hK2 => ?_)
  have hA12 := (hA.put (d := 12) sv (by decide))
  have hev2 : ∀ ds, ((⟨tm, ds⟩ : Act).put (some 12) sv).eval = ((⟨tm, []⟩ : Act).put (some 12) sv).eval := fun ds => funext fun x => by cases x <;> rfl
  have ev2 := fun (pos : String) (af : Array Edge) => ev_assign (X := X) (fr := [(12, sv)]) (L := []) (dst := some 4) (ty := 22) (pos := pos) (af := af) (x := .tmp 12) (v := sv) rfl _ _ (hA12.sub (by exact sub_cons rfl sub_nil)) (Hold.mk_nil w5)
  unfold Oper.wp
  dsimp only
  rw [hev2, ev2]
  refine hK2 _ _ ?_
  show Code.wp _ _ _ _ _
  refine wp_ret ?_
  have hA4 := (hA12.put (d := 4) sv (by decide))
  refine ⟨by simp, .inl ⟨_, _, rfl, run_takeDeferred hh5.drop.blk_get, ?_⟩⟩
  have hres := res1 (X := ⟨Tryz.prog, Tryz.f77, ⟨w, true⟩, 13, [], fun _ _ => False⟩) (fr := [(4, sv)]) (t := 4) (v := sv) (L := []) rfl rfl _ (w5.putObj w1.heap.size (.deferred none)) (hA4.sub (by exact sub_cons rfl sub_nil)) (Hold.mk_nil _)
  refine ⟨_, hres, ?_⟩
  refine ⟨same_put hS5, _, ⟨xs, hperm, rfl⟩, ?_⟩
  exact (Hold.putb hh5.drop (.deferred none)).drop.drop.perm (.refl _)

end Go.SL
