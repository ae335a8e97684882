/- Contracts of the sorts and of board.All. -/
import Derived.Test.YtimhhegebkganaaGreatDoorProg
import Derived.Test.YtimhhegebkganaaGreatDoorGU
set_option linter.unusedSimpArgs false
set_option linter.unusedVariables false
set_option maxRecDepth 4000
namespace Go.SL
open Go.Proofs

theorem body_25 : (Tryz.prog.funcs[25]?).map (fun fn => fn.body.isSome && !(fn.name == "runtime.NumGoroutine")) = some true := by kernel_rfl
theorem body_131 : (Tryz.prog.funcs[131]?).map (fun fn => fn.body.isSome && !(fn.name == "runtime.NumGoroutine")) = some true := by kernel_rfl
theorem body_44 : (Tryz.prog.funcs[44]?).map (fun fn => fn.body.isSome && !(fn.name == "runtime.NumGoroutine")) = some true := by kernel_rfl
theorem body_45 : (Tryz.prog.funcs[45]?).map (fun fn => fn.body.isSome && !(fn.name == "runtime.NumGoroutine")) = some true := by kernel_rfl
theorem body_24 : (Tryz.prog.funcs[24]?).map (fun fn => fn.body.isSome && !(fn.name == "runtime.NumGoroutine")) = some true := by kernel_rfl
theorem body_23 : (Tryz.prog.funcs[23]?).map (fun fn => fn.body.isSome && !(fn.name == "runtime.NumGoroutine")) = some true := by kernel_rfl

theorem enters_25 (args : Array Value) (w : World) : (callFunc 25 args).run Tryz.prog w = .ok (.enter 25 args) w := by
  obtain ⟨fn, hfn, hb⟩ := Option.map_eq_some_iff.1 body_25
  simp only [Bool.and_eq_true, Bool.not_eq_true'] at hb
  have hnone : fn.body ≠ none := by intro h; rw [h] at hb; exact absurd hb.1 (by simp)
  have hname : fn.name ≠ "runtime.NumGoroutine" := by simpa using hb.2
  simp [callFunc, program, Sem.run, hfn, hname, hnone]
theorem enters_131 (args : Array Value) (w : World) : (callFunc 131 args).run Tryz.prog w = .ok (.enter 131 args) w := by
  obtain ⟨fn, hfn, hb⟩ := Option.map_eq_some_iff.1 body_131
  simp only [Bool.and_eq_true, Bool.not_eq_true'] at hb
  have hnone : fn.body ≠ none := by intro h; rw [h] at hb; exact absurd hb.1 (by simp)
  have hname : fn.name ≠ "runtime.NumGoroutine" := by simpa using hb.2
  simp [callFunc, program, Sem.run, hfn, hname, hnone]

theorem cmpI_lt (x y : Int) : cmpI x y < 0 ↔ x < y := by
  unfold cmpI
  by_cases h : x < y
  · simp [h]
  · by_cases h2 : y < x <;> simp [h, h2]
theorem cmpI_zero (x y : Int) : cmpI x y = 0 ↔ x = y := by
  unfold cmpI
  by_cases h : x < y
  · simp [h]; omega
  · by_cases h2 : y < x
    · simp [h, h2]; omega
    · simp [h, h2]; omega
theorem byF_lt (nF : Row → Int) (x y : Row) : byF nF x y < 0 ↔ (nF y < nF x ∨ (nF y = nF x ∧ x.id < y.id)) := by
  unfold byF orI orI orI
  by_cases h : cmpI (nF y) (nF x) = 0
  · rw [if_neg (by simpa using h)]
    have h' := (cmpI_zero _ _).1 h
    by_cases h2 : cmpI x.id y.id = 0
    · rw [if_neg (by simpa using h2)]
      have := (cmpI_zero _ _).1 h2
      constructor
      · intro h; exact absurd h (by omega)
      · omega
    · rw [if_pos (by simpa using h2), cmpI_lt]; omega
  · rw [if_pos (by simpa using h), cmpI_lt]
    have h' : nF y ≠ nF x := fun e => h ((cmpI_zero _ _).2 e)
    omega
theorem swo_id : Go.Sort.SWO (ltOf fun x y : Row => cmpI x.id y.id) where
  irrefl x := by unfold ltOf; simp [cmpI_lt]
  trans x y z h1 h2 := by unfold ltOf at *; simp only [decide_eq_true_eq, cmpI_lt] at *; omega
  ntrans x y z h1 h2 := by unfold ltOf at *; simp only [decide_eq_false_iff_not, cmpI_lt] at *; omega
theorem swo_by (nF : Row → Int) : Go.Sort.SWO (ltOf (byF nF)) where
  irrefl x := by unfold ltOf; simp [byF_lt]
  trans x y z h1 h2 := by unfold ltOf at *; simp only [decide_eq_true_eq, byF_lt] at *; omega
  ntrans x y z h1 h2 := by unfold ltOf at *; simp only [decide_eq_false_iff_not, byF_lt] at *; omega
theorem oneCell_row : ∀ x, ∀ v ∈ encRow x, v.oneCell' = true := by
  intro x v hv; simp [encRow] at hv; rcases hv with rfl | rfl | rfl | rfl | rfl | rfl | rfl | rfl | rfl | rfl | rfl <;> rfl
theorem SortId_ct (v : Value) (xs : List Row) (hl : xs.length ≤ 1000000000) : CT Tryz.prog 45 #[v, .func (.func 25) #[] #[]] [arr 45 11 encRow v xs]
    (fun u M => u = .tuple #[] ∧ ∃ ys : List Row, ys.Perm xs ∧ ys.Pairwise (fun a b => a.id ≤ b.id) ∧ M = [arr 45 11 encRow v ys]) :=
  CTm.weaken (ct_sort Tryz.laysSort (T := 45) ag_45 (fun _ => rfl) oneCell_row (fun x y => cmpI x.id y.id) swo_id 25 #[] enters_25 [] (fun x y => byId_ct x y) (fun a => Sort0_ct a _) v xs hl)
    fun u M ⟨h1, ys, h2, h3, h4⟩ => ⟨h1, ys, h2, h3.imp fun h => by rw [cmpI_lt] at h; omega, h4⟩
def byLe (nF : Row → Int) (a b : Row) : Prop := nF b < nF a ∨ (nF a = nF b ∧ a.id ≤ b.id)
theorem SortBy_ct (bf : Nat) (k : Nat) (nF : Row → Int) (hk : ∀ r, CT Tryz.prog k #[.agg (encRow r).toArray] [] (fun v M => v = .int .i64 (nF r) ∧ M = [])) (hbk : (Tryz.prog.funcs[k]?).map (fun fn => fn.body.isSome && !(fn.name == "runtime.NumGoroutine")) = some true)
    (v : Value) (xs : List Row) (hl : xs.length ≤ 1000000000) : CT Tryz.prog 45 #[v, .func (.func 131) #[] #[.pointer (some ⟨bf, 0, none⟩)]] [arr 45 11 encRow v xs, imm bf (.cells #[.func (.func k) #[] #[]] 183 (0, 0))]
    (fun u M => u = .tuple #[] ∧ ∃ ys : List Row, ys.Perm xs ∧ ys.Pairwise (byLe nF) ∧ M = [arr 45 11 encRow v ys, imm bf (.cells #[.func (.func k) #[] #[]] 183 (0, 0))]) :=
  CTm.weaken (ct_sort Tryz.laysSort (T := 45) ag_45 (fun _ => rfl) oneCell_row (byF nF) (swo_by nF) 131 #[.pointer (some ⟨bf, 0, none⟩)] enters_131 [(bf, .cells #[.func (.func k) #[] #[]] 183 (0, 0))] (fun x y => by1_ct bf k nF hk hbk x y) (fun a => Sort0_ct a _) v xs hl)
    fun u M ⟨h1, ys, h2, h3, h4⟩ => ⟨h1, ys, h2, h3.imp fun h => by rw [byF_lt] at h; unfold byLe; omega, h4⟩
/-- two rows of one Id are one -/
theorem sorted_eq : ∀ {xs ys : List Row}, xs.Perm ys → xs.Pairwise (fun a b => a.id ≤ b.id) → ys.Pairwise (fun a b => a.id ≤ b.id) → (xs.map (·.id)).Nodup → xs = ys
  | [], ys, h, _, _, _ => by simpa using h.symm
  | x :: xs, [], h, _, _, _ => by simp at h
  | x :: xs, y :: ys, h, hx, hy, hn => by
    have hxy : x = y := by
      have h1 : y ∈ x :: xs := h.symm.subset (by simp)
      have h2 : x ∈ y :: ys := h.subset (by simp)
      rcases List.mem_cons.1 h1 with e | h1
      · exact e.symm
      rcases List.mem_cons.1 h2 with e | h2
      · exact e
      have a1 := (List.pairwise_cons.1 hx).1 y h1
      have a2 := (List.pairwise_cons.1 hy).1 x h2
      simp only [List.map_cons, List.nodup_cons] at hn
      exact absurd (List.mem_map.2 ⟨y, h1, by omega⟩) hn.1
    subst hxy
    congr 1
    refine sorted_eq (List.Perm.cons_inv h) (List.pairwise_cons.1 hx).2 (List.pairwise_cons.1 hy).2 ?_
    simp only [List.map_cons, List.nodup_cons] at hn
    exact hn.2

theorem SortedFunc_ct (mb m : Nat) (rows : List (Int × Row)) (hl : rows.length ≤ 1000000) : CT Tryz.prog 23 #[.func (.func 46) #[] #[.pointer (some ⟨mb, 0, none⟩)], .func (.func 25) #[] #[]] [mp iI rowV m rows, blk mb (.cells [.map (some m)].toArray 91 (0, 0))] (fun v M => ∃ ys : List Row, ys.Perm (rows.map (·.2)) ∧ ys.Pairwise (fun a b => a.id ≤ b.id) ∧ M = [arr 45 11 encRow v ys, mp iI rowV m rows, blk mb (.cells [.map (some m)].toArray 91 (0, 0))]) := by
  refine t_fun (vs := [.func (.func 46) #[] #[.pointer (some ⟨mb, 0, none⟩)], .func (.func 25) #[] #[]]) (n := 12) Tryz.func23 rfl Tryz.ntmps23 rfl fun w0 F => ?_
  refine t_seq ?_
  refine t_region ?_
  refine tl_q rfl (ev_assign rfl) ?_
  refine tl_nil ?_
  refine te_code ?_
  refine t_seq ?_
  refine t_region ?_
  refine tl_q rfl (ev_move rfl) ?_
  refine tl_e (eff_call rfl rfl body_44 rfl (by repeat (first | exact Frm.nil | exact Take.here | apply Take.there | apply Frm.cons)) (Collect_ct _ _ _ (by omega))) ?_
  rintro _ _ ⟨v7, _, ⟨xs, hperm, rfl⟩, rfl, rfl⟩
  have hxl : xs.length ≤ 1000000000 := by have := hperm.length_eq; simp at this; omega
  refine tl_q rfl (ev_assign rfl) ?_
  refine tl_nil ?_
  refine te_code ?_
  refine t_seq ?_
  refine t_region ?_
  refine tl_q rfl (ev_move rfl) ?_
  refine tl_q rfl (ev_move rfl) ?_
  refine tl_e (eff_call rfl rfl body_45 rfl (by repeat (first | exact Frm.nil | exact Take.here | apply Take.there | apply Frm.cons)) (SortId_ct _ _ (by assumption))) ?_
  rintro _ _ ⟨v10, _, ⟨rfl, ys, hys1, hys2, rfl⟩, rfl, rfl⟩
  refine tl_nil ?_
  refine te_code ?_
  refine t_seq ?_
  refine t_region ?_
  refine tl_q rfl (ev_move rfl) ?_
  refine tl_q rfl (ev_assign rfl) ?_
  refine tl_nil ?_
  refine te_code ?_
  refine t_ret ?_
  refine te_ret_k (pre := [arr _ _ encRow _ ys, mp iI rowV m rows, blk mb (.cells [.map (some m)].toArray 91 (0, 0))]) (res1 rfl rfl) (by repeat (first | exact Frm.nil | exact Take.here | apply Take.there | apply Frm.cons)) ?_
  exact ⟨ys, hys1.trans hperm, hys2, rfl⟩

theorem All_ct (bb m1 m2 : Nat) (most next : Int) (rows : List (Int × Row)) (hl : rows.length ≤ 1000000) : CT Tryz.prog 8 #[.pointer (some ⟨bb, 0, none⟩)] [boardB bb m1 m2 most next, mp iI rowV m1 rows] (fun v M => ∃ ys : List Row, ys.Perm (rows.map (·.2)) ∧ ys.Pairwise (fun a b => a.id ≤ b.id) ∧ M = [arr 45 11 encRow v ys, boardB bb m1 m2 most next, mp iI rowV m1 rows]) := by
  refine t_fun (vs := [.pointer (some ⟨bb, 0, none⟩)]) (n := 9) Tryz.func8 rfl Tryz.ntmps8 rfl fun w0 F => ?_
  refine t_seq ?_
  refine t_region ?_
  refine tl_q rfl (ev_assign rfl) ?_
  refine tl_nil ?_
  refine te_code ?_
  refine t_seq ?_
  refine t_region ?_
  refine tl_q rfl (ev_move rfl) ?_
  refine tl_q rfl (ev_nil_ptr rfl) ?_
  refine tl_q rfl (ev_fieldAddr fa_94_2 rfl rfl) ?_
  refine tl_q rfl (ev_load sc_91 rfl (by first | (left; (repeat (first | exact List.Mem.head _ | apply List.Mem.tail)); done) | (right; (repeat (first | exact List.Mem.head _ | apply List.Mem.tail)); done)) rfl) ?_
  refine tl_e (eff_call rfl rfl body_24 rfl (by repeat (first | exact Frm.nil | exact Take.here | apply Take.there | apply Frm.cons)) (Values_ct _)) ?_
  rintro _ _ ⟨v7, _, ⟨mb, rfl, rfl⟩, rfl, rfl⟩
  refine tl_e (eff_call rfl rfl body_23 rfl (by repeat (first | exact Frm.nil | exact Take.here | apply Take.there | apply Frm.cons)) (SortedFunc_ct _ _ _ (by assumption))) ?_
  rintro _ _ ⟨v8, _, ⟨ys, hys1, hys2, rfl⟩, rfl, rfl⟩
  refine tl_q rfl (ev_assign rfl) ?_
  refine tl_nil ?_
  refine te_code ?_
  refine t_ret ?_
  refine te_ret_k (pre := [arr _ _ encRow _ ys, boardB bb m1 m2 most next, mp iI rowV m1 rows]) (res1 rfl rfl) (by repeat (first | exact Frm.nil | exact Take.here | apply Take.there | apply Frm.cons)) ?_
  exact ⟨ys, hys1, hys2, rfl⟩

end Go.SL
