/- Contracts of slices.Index and Contains at strings. -/
import Derived.Test.YtimhhegebkganaaGreatDoorProg
import Derived.Test.YtimhhegebkganaaGreatDoorGN
set_option linter.unusedSimpArgs false
set_option linter.unusedVariables false
set_option maxRecDepth 4000
namespace Go.SL
open Go.Proofs

theorem body_32 : (Tryz.prog.funcs[32]?).map (fun fn => fn.body.isSome && !(fn.name == "runtime.NumGoroutine")) = some true := by kernel_rfl


def encS (s : ByteArray) : List Value := [.string s]
theorem flatS : ∀ x, ∀ c ∈ encS x, Flat c := by intro x c hc; simp [encS] at hc; subst hc; trivial
def idxS (s : ByteArray) : List ByteArray → Nat → Int
  | [], _ => -1
  | x :: r, i => if s = x then i else idxS s r (i + 1)
theorem idxS_drop (s : ByteArray) : ∀ (xs : List ByteArray) (i k : Nat), (∀ m, m < i → ∀ x, xs[m]? = some x → s ≠ x) → i ≤ xs.length → idxS s xs k = idxS s (xs.drop i) (k + i)
  | xs, 0, k, _, _ => by simp
  | [], i + 1, k, _, h => by simp at h
  | x :: r, i + 1, k, hz, h => by
    have h0 := hz 0 (by omega) x rfl
    rw [idxS, if_neg h0, List.drop_succ_cons, idxS_drop s r i (k + 1) (fun m hm y hy => hz (m + 1) (by omega) y hy) (by simpa using h)]
    congr 1; omega
theorem idxS_ge (s : ByteArray) : ∀ (xs : List ByteArray) (k : Nat), decide (0 ≤ idxS s xs k) = xs.any (fun x => decide (s = x))
  | [], k => by simp [idxS]
  | x :: r, k => by
    rw [idxS, List.any_cons]
    by_cases e : s = x
    · subst e; simp
    · rw [if_neg e, idxS_ge s r (k + 1)]; simp [e]

theorem IndexS_ct (sv : Value) (xs : List ByteArray) (hl : xs.length ≤ 1000000000) (s : ByteArray) : CT Tryz.prog 32 #[sv, .string s] [arr 9 1 encS sv xs] (fun v M => v = .int .i64 (idxS s xs 0) ∧ M = [arr 9 1 encS sv xs]) := by
  refine t_fun (vs := [sv, .string s]) (n := 19) Tryz.func32 rfl Tryz.ntmps32 rfl fun w0 F => ?_
  refine t_shape (enc := encS) (sz := 1) (xs := xs) (by first | exact HasArr.own (by repeat (first | exact List.Mem.head _ | apply List.Mem.tail)) | exact HasArr.sh (by repeat (first | exact List.Mem.head _ | apply List.Mem.tail))) (by intro _; rfl) (fun hsh => ?_)
  refine t_seq ?_
  refine t_region ?_
  refine tl_q rfl (ev_assign rfl) ?_
  refine tl_nil ?_
  refine te_code ?_
  refine t_seq ?_
  refine t_seq ?_
  refine t_region ?_
  refine tl_q rfl (ev_move rfl) ?_
  refine tl_q rfl (ev_len_sh sl_38 rfl (by assumption)) ?_
  refine tl_q rfl (ev_move rfl) ?_
  refine tl_nil ?_
  refine te_code ?_
  refine t_block ?_
  refine t_loop (α := Nat) (fun i => [(8, .int .i64 (i : Int)), (7, .int .i64 (xs.length : Int)), (0, sv), (1, .string s)]) (fun _ => [arr 9 1 encS sv xs]) (fun i => xs.length - i) (fun i => i ≤ xs.length ∧ ∀ m, m < i → ∀ x, xs[m]? = some x → s ≠ x) 0 ⟨by omega, by omega⟩ (by exact sub_cons rfl (sub_cons rfl (sub_cons rfl (sub_cons rfl (sub_nil))))) (fun _ h => hold_keep (by repeat (first | exact Frm.nil | exact Take.here | apply Take.there | apply Frm.cons)) h) ?_
  rintro i ⟨hi, hz⟩
  try dsimp only
  refine t_seq ?_
  refine t_region ?_
  refine tl_q rfl (ev_lss rfl rfl) ?_
  refine tl_nil ?_
  refine te_code ?_
  refine t_seq ?_
  refine t_cond_dec rfl (fun h0 => ?_) (fun h0 => ?_)
  · obtain ⟨u, hu⟩ := get_ex (show (i : Int) < xs.length by omega)
    refine t_skip ?_
    refine te_code ?_
    refine t_seq ?_
    refine t_block ?_
    refine t_seq ?_
    refine t_region ?_
    refine tl_q rfl (ev_move rfl) ?_
    refine tl_q rfl (ev_assign rfl) ?_
    refine tl_nil ?_
    refine te_code ?_
    refine t_seq ?_
    refine t_region ?_
    refine tl_q rfl (ev_move rfl) ?_
    refine tl_q rfl (ev_move rfl) ?_
    refine tl_q rfl (ev_move rfl) ?_
    refine tl_q rfl (ev_at_sh sl_38 rfl rfl (by assumption) (by omega)) ?_
    refine tl_q rfl (ev_load_at0 sc_9 rfl (by first | exact HasArr.own (by repeat (first | exact List.Mem.head _ | apply List.Mem.tail)) | exact HasArr.sh (by repeat (first | exact List.Mem.head _ | apply List.Mem.tail))) (by intro _; rfl) (by assumption) (by rfl)) ?_
    refine tl_q rfl (ev_seql rfl rfl) ?_
    refine tl_nil ?_
    refine te_code ?_
    refine t_cond_dec rfl (fun h1 => ?_) (fun h1 => ?_)
    · refine t_seq ?_
      refine t_region ?_
      refine tl_q rfl (ev_move rfl) ?_
      refine tl_q rfl (ev_assign rfl) ?_
      refine tl_nil ?_
      refine te_code ?_
      refine t_ret ?_
      refine te_ret_k (pre := [arr 9 1 encS sv xs]) (res1 rfl rfl) (by repeat (first | exact Frm.nil | exact Take.here | apply Take.there | apply Frm.cons)) ?_
      refine ⟨?_, rfl⟩
      rw [idxS_drop s xs i 0 hz hi, List.drop_eq_getElem_cons (by omega)]
      have e : xs[i]'(by omega) = u := by have := List.getElem?_eq_getElem (show i < xs.length by omega); rw [hu] at this; simpa using this.symm
      simp [idxS, e, h1]
    · refine t_skip ?_
      refine te_blk ?_
      refine te_code ?_
      refine t_region ?_
      refine tl_q rfl (ev_add' rfl rfl (by omega)) ?_
      refine tl_q rfl (ev_move rfl) ?_
      refine tl_nil ?_
      exact te_round (i + 1) (by exact sub_cons rfl (sub_cons rfl (sub_cons rfl (sub_cons rfl (sub_nil))))) (fun _ h => hold_keep (by repeat (first | exact Frm.nil | exact Take.here | apply Take.there | apply Frm.cons)) h) ⟨by omega, fun m hm x hx => by by_cases e : m = i <;> simp_all <;> exact hz m (by omega) x hx⟩ (by omega)
  · refine t_exit ?_
    refine te_exit_code ?_
    refine te_exit_rnd ?_
    refine te_exit_here ?_
    refine te_code ?_
    refine t_seq ?_
    refine t_region ?_
    refine tl_q rfl (ev_assign rfl) ?_
    refine tl_nil ?_
    refine te_code ?_
    refine t_ret ?_
    refine te_ret_k (pre := [arr 9 1 encS sv xs]) (res1 rfl rfl) (by repeat (first | exact Frm.nil | exact Take.here | apply Take.there | apply Frm.cons)) ?_
    refine ⟨?_, rfl⟩
    rw [idxS_drop s xs i 0 hz hi, List.drop_eq_nil_of_le (by omega)]; rfl

theorem ContainsS_ct (sv : Value) (xs : List ByteArray) (hl : xs.length ≤ 1000000000) (s : ByteArray) : CT Tryz.prog 14 #[sv, .string s] [arr 9 1 encS sv xs] (fun v M => v = .bool (xs.any (fun x => decide (s = x))) ∧ M = [arr 9 1 encS sv xs]) := by
  refine t_fun (vs := [sv, .string s]) (n := 9) Tryz.func14 rfl Tryz.ntmps14 rfl fun w0 F => ?_
  refine t_seq ?_
  refine t_region ?_
  refine tl_q rfl (ev_assign rfl) ?_
  refine tl_nil ?_
  refine te_code ?_
  refine t_seq ?_
  refine t_region ?_
  refine tl_q rfl (ev_move rfl) ?_
  refine tl_q rfl (ev_move rfl) ?_
  refine tl_e (eff_call rfl rfl body_32 rfl (by repeat (first | exact Frm.nil | exact Take.here | apply Take.there | apply Frm.cons)) (IndexS_ct _ _ (by omega) _)) ?_
  rintro _ _ ⟨v7, _, ⟨rfl, rfl⟩, rfl, rfl⟩
  refine tl_q rfl (ev_geq rfl rfl) ?_
  refine tl_q rfl (ev_assign rfl) ?_
  refine tl_nil ?_
  refine te_code ?_
  refine t_ret ?_
  refine te_ret_k (pre := [arr 9 1 encS sv xs]) (res1 rfl rfl) (by repeat (first | exact Frm.nil | exact Take.here | apply Take.there | apply Frm.cons)) ?_
  exact ⟨congrArg Value.bool (idxS_ge s xs 0), rfl⟩

end Go.SL
