/- Contracts of query.Ask. -/
import Derived.Test.YtimhhegebkganaaGreatDoorProg
import Derived.Test.YtimhhegebkganaaGreatDoorGZD
set_option linter.unusedSimpArgs false
set_option linter.unusedVariables false
set_option maxRecDepth 4000
namespace Go.SL
open Go.Proofs

theorem body_50 : (Tryz.prog.funcs[50]?).map (fun fn => fn.body.isSome && !(fn.name == "runtime.NumGoroutine")) = some true := by kernel_rfl
theorem body_87 : (Tryz.prog.funcs[87]?).map (fun fn => fn.body.isSome && !(fn.name == "runtime.NumGoroutine")) = some true := by kernel_rfl
theorem body_53 : (Tryz.prog.funcs[53]?).map (fun fn => fn.body.isSome && !(fn.name == "runtime.NumGoroutine")) = some true := by kernel_rfl
theorem body_127 : (Tryz.prog.funcs[127]?).map (fun fn => fn.body.isSome && !(fn.name == "runtime.NumGoroutine")) = some true := by kernel_rfl
theorem body_128 : (Tryz.prog.funcs[128]?).map (fun fn => fn.body.isSome && !(fn.name == "runtime.NumGoroutine")) = some true := by kernel_rfl
theorem body_26 : (Tryz.prog.funcs[26]?).map (fun fn => fn.body.isSome && !(fn.name == "runtime.NumGoroutine")) = some true := by kernel_rfl
theorem fa_98_0 : FldAt Tryz.prog 98 0 0 := fun a w => by kernel_rfl
theorem sc_96 : IsSc Tryz.prog 96 := isSc_of Tryz.underlying96 rfl


theorem hC0 (b7 : Nat) (r : Row) : CT Tryz.prog 138 #[.slice none 0 0, .func (.func 139) #[] #[.pointer (some ⟨b7, 0, none⟩)]] [blk b7 (.cells (encRow r).toArray 45 (0, 0)), pur True] (fun v M => v = .bool (!(fun _ => true) r) ∧ M = [blk b7 (.cells (encRow r).toArray 45 (0, 0)), pur True]) :=
  CTm.weaken (CTm.frame (ContainsFuncT0_ct _) [blk b7 (.cells (encRow r).toArray 45 (0, 0)), pur True]) fun v M ⟨M0, ⟨h1, h2⟩, h3⟩ => by subst h1; subst h2; subst h3; exact ⟨rfl, rfl⟩
theorem hC1 (tv : Value) (bl b7 : Nat) (r : Row) : CT Tryz.prog 138 #[tv, .func (.func 139) #[] #[.pointer (some ⟨b7, 0, none⟩)]] [blk b7 (.cells (encRow r).toArray 45 (0, 0)), sep [arr 187 1 encF tv [bl], blk bl (.cells [.int .i64 4].toArray 3 (0, 0))]] (fun v M => v = .bool (!(fun r : Row => decide (r.e.level ≥ 4)) r) ∧ M = [blk b7 (.cells (encRow r).toArray 45 (0, 0)), sep [arr 187 1 encF tv [bl], blk bl (.cells [.int .i64 4].toArray 3 (0, 0))]]) :=
  CTm.conv (ContainsFuncT1_ct tv b7 bl 4 r) (fun w F hw => (Hold.sep_elim (hw.perm (List.Perm.swap _ _ _))).perm (show Frm (arr 187 1 encF tv [bl] :: blk bl (.cells [.int .i64 4].toArray 3 (0, 0)) :: blk b7 (.cells (encRow r).toArray 45 (0, 0)) :: F) [blk b7 (.cells (encRow r).toArray 45 (0, 0)), arr 187 1 encF tv [bl], blk bl (.cells [.int .i64 4].toArray 3 (0, 0))] F from (by repeat (first | exact Frm.nil | exact Take.here | apply Take.there | apply Frm.cons))).perm)
    fun v M ⟨h1, h2⟩ => ⟨_, ⟨h1, rfl⟩, fun w F hw => by
      subst h2
      have h := hw.perm (show Frm (blk b7 (.cells (encRow r).toArray 45 (0, 0)) :: arr 187 1 encF tv [bl] :: blk bl (.cells [.int .i64 4].toArray 3 (0, 0)) :: F) [arr 187 1 encF tv [bl], blk bl (.cells [.int .i64 4].toArray 3 (0, 0))] (blk b7 (.cells (encRow r).toArray 45 (0, 0)) :: F) from (by repeat (first | exact Frm.nil | exact Take.here | apply Take.there | apply Frm.cons))).perm
      exact (Hold.sep_mk h).perm (List.Perm.swap _ _ _)⟩

theorem AskList_ct (s : ByteArray) (hs : s.size ≤ 1000000) (hw : wordsF s = [(⟨#[108, 105, 115, 116]⟩ : ByteArray)]) (q : TypeId × (Nat × Nat)) (sb eb ob bb hh m1 m2 : Nat) (next : Int) (rows : List (Int × Row)) (hl : rows.length ≤ 1000) (hr : ∀ r ∈ rows.map (·.2), okRow r ∧ intRow r) : CTm false Tryz.prog 9 #[.pointer (some ⟨sb, 0, none⟩), .string s] [stB sb eb ob, engB eb bb hh, boardB bb m1 m2 40 next, mp iI rowV m1 rows, powA, aheadI q, varA 2 .i64] (fun v M => ∃ (sv : Value) (ys : List Row), v = .tuple #[sv, .int .i64 0] ∧ ys.Perm (rows.map (·.2)) ∧ ys.Pairwise (fun a b => a.id ≤ b.id) ∧ M = [arr 9 1 encS sv (ys.map lineF), stB sb eb ob, engB eb bb hh, boardB bb m1 m2 40 next, mp iI rowV m1 rows, powA, aheadI q, varA 2 .i64]) := by
  refine t_fun (vs := [.pointer (some ⟨sb, 0, none⟩), .string s]) (n := 21) Tryz.func9 rfl Tryz.ntmps9 rfl fun w0 F => ?_
  refine t_seq ?_
  refine t_region ?_
  refine tl_q rfl (ev_assign rfl) ?_
  refine tl_q rfl (ev_assign rfl) ?_
  refine tl_nil ?_
  refine te_code ?_
  refine t_seq ?_
  refine t_region ?_
  refine tl_q rfl (ev_move rfl) ?_
  refine tl_e (eff_call rfl rfl body_26 rfl (by repeat (first | exact Frm.nil | exact Take.here | apply Take.there | apply Frm.cons)) (parseList_ct s hs hw)) ?_
  rintro _ _ ⟨v10, _, ⟨bf, rfl, rfl⟩, rfl, rfl⟩
  refine tl_q rfl (ev_move rfl) ?_
  refine tl_q rfl (ev_extract rfl rfl) ?_
  refine tl_q rfl (ev_extract rfl rfl) ?_
  refine tl_e (eff_alloc rfl zero_98 rfl) ?_
  rintro _ _ ⟨b6, rfl, rfl⟩
  refine tl_e (eff_store rfl rfl rfl rfl sz_98 (by first | (simp [Flat]; done) | exact flatS _ | exact flatB _ | exact flatTick _ | exact flatRow _ | exact flatEvt _ | exact flatI _) (by repeat (first | exact Upd.here | apply Upd.there)) (by repeat (first | exact LPut.nil | apply LPut.cons | apply LPut.succ))) ?_
  rintro _ _ ⟨rfl, rfl⟩
  refine tl_q rfl (ev_assign rfl) ?_
  refine tl_nil ?_
  refine te_code ?_
  refine t_seq ?_
  refine t_seq ?_
  refine t_region ?_
  refine tl_q rfl (ev_move rfl) ?_
  refine tl_q rfl (ev_not rfl) ?_
  refine tl_nil ?_
  refine te_code ?_
  refine t_cond_no rfl (by first | rfl | (simp; done) | (simp; omega) | simp_all) ?_
  refine t_skip ?_
  refine te_code ?_
  refine t_seq ?_
  refine t_region ?_
  refine tl_freeze (b := bf) (by repeat (first | exact Take.here | apply Take.there)) ?_
  refine tl_pur1 ?_
  refine tl_q rfl (ev_fieldAddr fa_98_0 rfl rfl) ?_
  refine tl_q rfl (ev_load sc_96 rfl (by first | (left; (repeat (first | exact List.Mem.head _ | apply List.Mem.tail)); done) | (right; (repeat (first | exact List.Mem.head _ | apply List.Mem.tail)); done)) rfl) ?_
  refine tl_q rfl (ev_move rfl) ?_
  refine tl_e (eff_callv rfl rfl rfl body_50 rfl (by repeat (first | exact Frm.nil | exact Take.here | apply Take.there | apply Frm.cons)) (lines_ct (pur True) (.slice none 0 0) (fun _ => true) hC0 bf 127 (fun _ => 0) first1_ct body_127 (-1) q sb eb ob bb hh m1 m2 next rows hl hr (.inl (by omega)))) ?_
  rintro _ _ ⟨_, _, ⟨sv, ys, rfl, hp1, hp2, rfl⟩, rfl, rfl⟩
  refine tl_q rfl (ev_extract rfl rfl) ?_
  refine tl_q rfl (ev_extract rfl rfl) ?_
  refine tl_q rfl (ev_assign rfl) ?_
  refine tl_q rfl (ev_assign rfl) ?_
  refine tl_nil ?_
  refine te_code ?_
  refine t_ret ?_
  refine te_ret_k (pre := [arr _ _ encS _ (ys.map lineF), stB sb eb ob, engB eb bb hh, boardB bb m1 m2 40 next, mp iI rowV m1 rows, powA, aheadI q, varA 2 .i64]) (res2 rfl rfl rfl) (by repeat (first | exact Frm.nil | exact Take.here | apply Take.there | apply Frm.cons)) ?_
  refine ⟨sv, ys, rfl, ?_, ?_, rfl⟩
  · rw [List.filter_eq_self.2 (by simp)] at hp1; exact hp1
  · exact hp2.imp fun h => by have h : (0:Int) < 0 ∨ ((0:Int) = 0 ∧ _) := h; omega

theorem AskEx_ct (s : ByteArray) (hs : s.size ≤ 1000000) (hw : wordsF s = [(⟨#[108, 105, 115, 116]⟩ : ByteArray), (⟨#[108, 101, 118, 101, 108]⟩ : ByteArray), itoaB 4, (⟨#[111, 114, 100, 101, 114]⟩ : ByteArray), (⟨#[108, 97, 115, 116]⟩ : ByteArray), (⟨#[108, 105, 109, 105, 116]⟩ : ByteArray), itoaB 10]) (q : TypeId × (Nat × Nat)) (sb eb ob bb hh m1 m2 : Nat) (next : Int) (rows : List (Int × Row)) (hl : rows.length ≤ 1000) (hr : ∀ r ∈ rows.map (·.2), okRow r ∧ intRow r) (hl10 : rows.length ≤ 10) : CTm false Tryz.prog 9 #[.pointer (some ⟨sb, 0, none⟩), .string s] [stB sb eb ob, engB eb bb hh, boardB bb m1 m2 40 next, mp iI rowV m1 rows, powA, aheadI q, varA 2 .i64] (fun v M => ∃ (sv : Value) (ys : List Row), v = .tuple #[sv, .int .i64 0] ∧ ys.Perm ((rows.map (·.2)).filter (fun r => decide (r.e.level ≥ 4))) ∧ M = [arr 9 1 encS sv (ys.map lineF), stB sb eb ob, engB eb bb hh, boardB bb m1 m2 40 next, mp iI rowV m1 rows, powA, aheadI q, varA 2 .i64]) := by
  refine t_fun (vs := [.pointer (some ⟨sb, 0, none⟩), .string s]) (n := 21) Tryz.func9 rfl Tryz.ntmps9 rfl fun w0 F => ?_
  refine t_seq ?_
  refine t_region ?_
  refine tl_q rfl (ev_assign rfl) ?_
  refine tl_q rfl (ev_assign rfl) ?_
  refine tl_nil ?_
  refine te_code ?_
  refine t_seq ?_
  refine t_region ?_
  refine tl_q rfl (ev_move rfl) ?_
  refine tl_e (eff_call rfl rfl body_26 rfl (by repeat (first | exact Frm.nil | exact Take.here | apply Take.there | apply Frm.cons)) (parseEx_ct s hs hw)) ?_
  rintro _ _ ⟨v10, _, ⟨bl, tv, bf, rfl, rfl⟩, rfl, rfl⟩
  refine tl_q rfl (ev_move rfl) ?_
  refine tl_q rfl (ev_extract rfl rfl) ?_
  refine tl_q rfl (ev_extract rfl rfl) ?_
  refine tl_e (eff_alloc rfl zero_98 rfl) ?_
  rintro _ _ ⟨b6, rfl, rfl⟩
  refine tl_e (eff_store rfl rfl rfl rfl sz_98 (by first | (simp [Flat]; done) | exact flatS _ | exact flatB _ | exact flatTick _ | exact flatRow _ | exact flatEvt _ | exact flatI _) (by repeat (first | exact Upd.here | apply Upd.there)) (by repeat (first | exact LPut.nil | apply LPut.cons | apply LPut.succ))) ?_
  rintro _ _ ⟨rfl, rfl⟩
  refine tl_q rfl (ev_assign rfl) ?_
  refine tl_nil ?_
  refine te_code ?_
  refine t_seq ?_
  refine t_seq ?_
  refine t_region ?_
  refine tl_q rfl (ev_move rfl) ?_
  refine tl_q rfl (ev_not rfl) ?_
  refine tl_nil ?_
  refine te_code ?_
  refine t_cond_no rfl (by first | rfl | (simp; done) | (simp; omega) | simp_all) ?_
  refine t_skip ?_
  refine te_code ?_
  refine t_seq ?_
  refine t_region ?_
  refine tl_freeze (b := bf) (by repeat (first | exact Take.here | apply Take.there)) ?_
  refine tl_fold [arr 187 1 encF tv [bl], blk bl (.cells [.int .i64 4].toArray 3 (0, 0))] (by repeat (first | exact Frm.nil | exact Take.here | apply Take.there | apply Frm.cons)) ?_
  refine tl_q rfl (ev_fieldAddr fa_98_0 rfl rfl) ?_
  refine tl_q rfl (ev_load sc_96 rfl (by first | (left; (repeat (first | exact List.Mem.head _ | apply List.Mem.tail)); done) | (right; (repeat (first | exact List.Mem.head _ | apply List.Mem.tail)); done)) rfl) ?_
  refine tl_q rfl (ev_move rfl) ?_
  refine tl_e (eff_callv rfl rfl rfl body_50 rfl (by repeat (first | exact Frm.nil | exact Take.here | apply Take.there | apply Frm.cons)) (lines_ct (sep [arr 187 1 encF tv [bl], blk bl (.cells [.int .i64 4].toArray 3 (0, 0))]) tv (fun r => decide (r.e.level ≥ 4)) (hC1 tv bl) bf 128 (fun r => r.last) first2_ct body_128 10 q sb eb ob bb hh m1 m2 next rows hl hr (.inr (by omega)))) ?_
  rintro _ _ ⟨_, _, ⟨sv, ys, rfl, hp1, hp2, rfl⟩, rfl, rfl⟩
  refine tl_q rfl (ev_extract rfl rfl) ?_
  refine tl_q rfl (ev_extract rfl rfl) ?_
  refine tl_q rfl (ev_assign rfl) ?_
  refine tl_q rfl (ev_assign rfl) ?_
  refine tl_nil ?_
  refine te_code ?_
  refine t_ret ?_
  refine te_ret_k (pre := [arr _ _ encS _ (ys.map lineF), stB sb eb ob, engB eb bb hh, boardB bb m1 m2 40 next, mp iI rowV m1 rows, powA, aheadI q, varA 2 .i64]) (res2 rfl rfl rfl) (by repeat (first | exact Frm.nil | exact Take.here | apply Take.there | apply Frm.cons)) ?_
  exact ⟨sv, ys, rfl, hp1, rfl⟩

theorem AskShowF_ct (s : ByteArray) (hs : s.size ≤ 1000000) (n : Int) (h0 : 0 ≤ n) (h1 : n < 1000000000000000000) (hw : wordsF s = [(⟨#[115, 104, 111, 119]⟩ : ByteArray), itoaB n]) (q : TypeId × (Nat × Nat)) (sb eb ob bb hh m1 m2 : Nat) (next : Int) (rows : List (Int × Row)) (r : Row) (hf : alook rows n = some r) (hr : okRow r ∧ intRow r) : CTm false Tryz.prog 9 #[.pointer (some ⟨sb, 0, none⟩), .string s] [stB sb eb ob, engB eb bb hh, boardB bb m1 m2 40 next, mp iI rowV m1 rows, powA, aheadI q, varA 2 .i64] (fun v M => ∃ sv, v = .tuple #[sv, .int .i64 0] ∧ M = [arr 9 1 encS sv [lineF r], stB sb eb ob, engB eb bb hh, boardB bb m1 m2 40 next, mp iI rowV m1 rows, powA, aheadI q, varA 2 .i64]) := by
  refine t_fun (vs := [.pointer (some ⟨sb, 0, none⟩), .string s]) (n := 21) Tryz.func9 rfl Tryz.ntmps9 rfl fun w0 F => ?_
  refine t_seq ?_
  refine t_region ?_
  refine tl_q rfl (ev_assign rfl) ?_
  refine tl_q rfl (ev_assign rfl) ?_
  refine tl_nil ?_
  refine te_code ?_
  refine t_seq ?_
  refine t_region ?_
  refine tl_q rfl (ev_move rfl) ?_
  refine tl_e (eff_call rfl rfl body_26 rfl (by repeat (first | exact Frm.nil | exact Take.here | apply Take.there | apply Frm.cons)) (parseShow_ct s hs n h0 h1 hw)) ?_
  rintro _ _ ⟨v10, _, ⟨bl, rfl, rfl⟩, rfl, rfl⟩
  refine tl_q rfl (ev_move rfl) ?_
  refine tl_q rfl (ev_extract rfl rfl) ?_
  refine tl_q rfl (ev_extract rfl rfl) ?_
  refine tl_e (eff_alloc rfl zero_98 rfl) ?_
  rintro _ _ ⟨b6, rfl, rfl⟩
  refine tl_e (eff_store rfl rfl rfl rfl sz_98 (by first | (simp [Flat]; done) | exact flatS _ | exact flatB _ | exact flatTick _ | exact flatRow _ | exact flatEvt _ | exact flatI _) (by repeat (first | exact Upd.here | apply Upd.there)) (by repeat (first | exact LPut.nil | apply LPut.cons | apply LPut.succ))) ?_
  rintro _ _ ⟨rfl, rfl⟩
  refine tl_q rfl (ev_assign rfl) ?_
  refine tl_nil ?_
  refine te_code ?_
  refine t_seq ?_
  refine t_seq ?_
  refine t_region ?_
  refine tl_q rfl (ev_move rfl) ?_
  refine tl_q rfl (ev_not rfl) ?_
  refine tl_nil ?_
  refine te_code ?_
  refine t_cond_no rfl (by first | rfl | (simp; done) | (simp; omega) | simp_all) ?_
  refine t_skip ?_
  refine te_code ?_
  refine t_seq ?_
  refine t_region ?_
  refine tl_q rfl (ev_fieldAddr fa_98_0 rfl rfl) ?_
  refine tl_q rfl (ev_load sc_96 rfl (by first | (left; (repeat (first | exact List.Mem.head _ | apply List.Mem.tail)); done) | (right; (repeat (first | exact List.Mem.head _ | apply List.Mem.tail)); done)) rfl) ?_
  refine tl_q rfl (ev_move rfl) ?_
  refine tl_e (eff_callv rfl rfl rfl body_87 rfl (by repeat (first | exact Frm.nil | exact Take.here | apply Take.there | apply Frm.cons)) (show1F_ct q sb eb ob bb hh m1 m2 next rows bl n r hf hr)) ?_
  rintro _ _ ⟨_, _, ⟨sv, rfl, rfl⟩, rfl, rfl⟩
  refine tl_q rfl (ev_extract rfl rfl) ?_
  refine tl_q rfl (ev_extract rfl rfl) ?_
  refine tl_q rfl (ev_assign rfl) ?_
  refine tl_q rfl (ev_assign rfl) ?_
  refine tl_nil ?_
  refine te_code ?_
  refine t_ret ?_
  refine te_ret_k (pre := [arr _ _ encS _ [lineF r], stB sb eb ob, engB eb bb hh, boardB bb m1 m2 40 next, mp iI rowV m1 rows, powA, aheadI q, varA 2 .i64]) (res2 rfl rfl rfl) (by repeat (first | exact Frm.nil | exact Take.here | apply Take.there | apply Frm.cons)) ?_
  exact ⟨sv, rfl, rfl⟩

theorem AskShowN_ct (s : ByteArray) (hs : s.size ≤ 1000000) (n : Int) (h0 : 0 ≤ n) (h1 : n < 1000000000000000000) (hw : wordsF s = [(⟨#[115, 104, 111, 119]⟩ : ByteArray), itoaB n]) (q : TypeId × (Nat × Nat)) (sb eb ob bb hh m1 m2 : Nat) (next : Int) (rows : List (Int × Row)) (hf : alook rows n = none) : CTm false Tryz.prog 9 #[.pointer (some ⟨sb, 0, none⟩), .string s] [stB sb eb ob, engB eb bb hh, boardB bb m1 m2 40 next, mp iI rowV m1 rows, powA, aheadI q, varA 2 .i64] (fun v M => v = .tuple #[.slice none 0 0, .int .i64 5] ∧ M = [stB sb eb ob, engB eb bb hh, boardB bb m1 m2 40 next, mp iI rowV m1 rows, powA, aheadI q, varA 2 .i64]) := by
  refine t_fun (vs := [.pointer (some ⟨sb, 0, none⟩), .string s]) (n := 21) Tryz.func9 rfl Tryz.ntmps9 rfl fun w0 F => ?_
  refine t_seq ?_
  refine t_region ?_
  refine tl_q rfl (ev_assign rfl) ?_
  refine tl_q rfl (ev_assign rfl) ?_
  refine tl_nil ?_
  refine te_code ?_
  refine t_seq ?_
  refine t_region ?_
  refine tl_q rfl (ev_move rfl) ?_
  refine tl_e (eff_call rfl rfl body_26 rfl (by repeat (first | exact Frm.nil | exact Take.here | apply Take.there | apply Frm.cons)) (parseShow_ct s hs n h0 h1 hw)) ?_
  rintro _ _ ⟨v10, _, ⟨bl, rfl, rfl⟩, rfl, rfl⟩
  refine tl_q rfl (ev_move rfl) ?_
  refine tl_q rfl (ev_extract rfl rfl) ?_
  refine tl_q rfl (ev_extract rfl rfl) ?_
  refine tl_e (eff_alloc rfl zero_98 rfl) ?_
  rintro _ _ ⟨b6, rfl, rfl⟩
  refine tl_e (eff_store rfl rfl rfl rfl sz_98 (by first | (simp [Flat]; done) | exact flatS _ | exact flatB _ | exact flatTick _ | exact flatRow _ | exact flatEvt _ | exact flatI _) (by repeat (first | exact Upd.here | apply Upd.there)) (by repeat (first | exact LPut.nil | apply LPut.cons | apply LPut.succ))) ?_
  rintro _ _ ⟨rfl, rfl⟩
  refine tl_q rfl (ev_assign rfl) ?_
  refine tl_nil ?_
  refine te_code ?_
  refine t_seq ?_
  refine t_seq ?_
  refine t_region ?_
  refine tl_q rfl (ev_move rfl) ?_
  refine tl_q rfl (ev_not rfl) ?_
  refine tl_nil ?_
  refine te_code ?_
  refine t_cond_no rfl (by first | rfl | (simp; done) | (simp; omega) | simp_all) ?_
  refine t_skip ?_
  refine te_code ?_
  refine t_seq ?_
  refine t_region ?_
  refine tl_q rfl (ev_fieldAddr fa_98_0 rfl rfl) ?_
  refine tl_q rfl (ev_load sc_96 rfl (by first | (left; (repeat (first | exact List.Mem.head _ | apply List.Mem.tail)); done) | (right; (repeat (first | exact List.Mem.head _ | apply List.Mem.tail)); done)) rfl) ?_
  refine tl_q rfl (ev_move rfl) ?_
  refine tl_e (eff_callv rfl rfl rfl body_87 rfl (by repeat (first | exact Frm.nil | exact Take.here | apply Take.there | apply Frm.cons)) (show1N_ct q sb eb ob bb hh m1 m2 next rows bl n hf)) ?_
  rintro _ _ ⟨_, _, ⟨rfl, rfl⟩, rfl, rfl⟩
  refine tl_q rfl (ev_extract rfl rfl) ?_
  refine tl_q rfl (ev_extract rfl rfl) ?_
  refine tl_q rfl (ev_assign rfl) ?_
  refine tl_q rfl (ev_assign rfl) ?_
  refine tl_nil ?_
  refine te_code ?_
  refine t_ret ?_
  refine te_ret_k (pre := [stB sb eb ob, engB eb bb hh, boardB bb m1 m2 40 next, mp iI rowV m1 rows, powA, aheadI q, varA 2 .i64]) (res2 rfl rfl rfl) (by repeat (first | exact Frm.nil | exact Take.here | apply Take.there | apply Frm.cons)) ?_
  exact ⟨rfl, rfl⟩

theorem AskStats_ct (s : ByteArray) (hs : s.size ≤ 1000000) (hw : wordsF s = [(⟨#[115, 116, 97, 116, 115]⟩ : ByteArray)]) (sb eb ob bb hh hb mo m1 m2 m4 m5 : Nat) (next last refused : Int) (rows : List (Int × Row)) (ls : List (Int × Letter)) (hl : rows.length ≤ 1000) (hls : ls.length ≤ 1000) (hla : 0 ≤ last ∧ last ≤ 100000) (hre : 0 ≤ refused ∧ refused ≤ 100000) : CT Tryz.prog 9 #[.pointer (some ⟨sb, 0, none⟩), .string s] [stB sb eb ob, engB eb bb hh, boardB bb m1 m2 40 next, mp iI rowV m1 rows, boxB ob mo last refused, mp iI letV mo ls, holdB hh hb m4 m5, mp iI (fun x : Value => x) m4 [], powA, varA 2 .i64] (fun v M => ∃ (sv : Value) (xs : List ByteArray), v = .tuple #[sv, .int .i64 0] ∧ xs.length = 20 ∧ ((⟨#[114, 111, 119, 115]⟩ : ByteArray) ++ ⟨#[32]⟩ ++ itoaB (rows.length : Int)) ∈ xs ∧ ((⟨#[116, 105, 99, 107, 101, 116, 115]⟩ : ByteArray) ++ ⟨#[32]⟩ ++ itoaB (ls.length : Int)) ∈ xs ∧ M = [arr 9 1 encS sv xs, stB sb eb ob, engB eb bb hh, boardB bb m1 m2 40 next, mp iI rowV m1 rows, boxB ob mo last refused, mp iI letV mo ls, holdB hh hb m4 m5, mp iI (fun x : Value => x) m4 [], powA, varA 2 .i64]) := by
  refine t_fun (vs := [.pointer (some ⟨sb, 0, none⟩), .string s]) (n := 21) Tryz.func9 rfl Tryz.ntmps9 rfl fun w0 F => ?_
  refine t_seq ?_
  refine t_region ?_
  refine tl_q rfl (ev_assign rfl) ?_
  refine tl_q rfl (ev_assign rfl) ?_
  refine tl_nil ?_
  refine te_code ?_
  refine t_seq ?_
  refine t_region ?_
  refine tl_q rfl (ev_move rfl) ?_
  refine tl_e (eff_call rfl rfl body_26 rfl (by repeat (first | exact Frm.nil | exact Take.here | apply Take.there | apply Frm.cons)) (parseStats_ct s hs hw)) ?_
  rintro _ _ ⟨v10, _, ⟨rfl, rfl⟩, rfl, rfl⟩
  refine tl_q rfl (ev_move rfl) ?_
  refine tl_q rfl (ev_extract rfl rfl) ?_
  refine tl_q rfl (ev_extract rfl rfl) ?_
  refine tl_e (eff_alloc rfl zero_98 rfl) ?_
  rintro _ _ ⟨b6, rfl, rfl⟩
  refine tl_e (eff_store rfl rfl rfl rfl sz_98 (by first | (simp [Flat]; done) | exact flatS _ | exact flatB _ | exact flatTick _ | exact flatRow _ | exact flatEvt _ | exact flatI _) (by repeat (first | exact Upd.here | apply Upd.there)) (by repeat (first | exact LPut.nil | apply LPut.cons | apply LPut.succ))) ?_
  rintro _ _ ⟨rfl, rfl⟩
  refine tl_q rfl (ev_assign rfl) ?_
  refine tl_nil ?_
  refine te_code ?_
  refine t_seq ?_
  refine t_seq ?_
  refine t_region ?_
  refine tl_q rfl (ev_move rfl) ?_
  refine tl_q rfl (ev_not rfl) ?_
  refine tl_nil ?_
  refine te_code ?_
  refine t_cond_no rfl (by first | rfl | (simp; done) | (simp; omega) | simp_all) ?_
  refine t_skip ?_
  refine te_code ?_
  refine t_seq ?_
  refine t_region ?_
  refine tl_q rfl (ev_fieldAddr fa_98_0 rfl rfl) ?_
  refine tl_q rfl (ev_load sc_96 rfl (by first | (left; (repeat (first | exact List.Mem.head _ | apply List.Mem.tail)); done) | (right; (repeat (first | exact List.Mem.head _ | apply List.Mem.tail)); done)) rfl) ?_
  refine tl_q rfl (ev_move rfl) ?_
  refine tl_e (eff_callv rfl rfl rfl body_53 rfl (by repeat (first | exact Frm.nil | exact Take.here | apply Take.there | apply Frm.cons)) (parse1_ct sb eb ob bb hh hb mo m1 m2 m4 m5 next last refused rows ls hl hls hla hre)) ?_
  rintro _ _ ⟨_, _, ⟨sv, xs, rfl, hx1, hx2, hx3, rfl⟩, rfl, rfl⟩
  refine tl_q rfl (ev_extract rfl rfl) ?_
  refine tl_q rfl (ev_extract rfl rfl) ?_
  refine tl_q rfl (ev_assign rfl) ?_
  refine tl_q rfl (ev_assign rfl) ?_
  refine tl_nil ?_
  refine te_code ?_
  refine t_ret ?_
  refine te_ret_k (pre := [arr _ _ encS _ xs, stB sb eb ob, engB eb bb hh, boardB bb m1 m2 40 next, mp iI rowV m1 rows, boxB ob mo last refused, mp iI letV mo ls, holdB hh hb m4 m5, mp iI (fun x : Value => x) m4 [], powA, varA 2 .i64]) (res2 rfl rfl rfl) (by repeat (first | exact Frm.nil | exact Take.here | apply Take.there | apply Frm.cons)) ?_
  exact ⟨sv, xs, rfl, hx1, hx2, hx3, rfl⟩

end Go.SL
