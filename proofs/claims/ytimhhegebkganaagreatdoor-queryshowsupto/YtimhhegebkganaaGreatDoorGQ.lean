/- Contract of query.words. -/
import Derived.Test.YtimhhegebkganaaGreatDoorProg
import Derived.Test.YtimhhegebkganaaGreatDoorSA
import Derived.Test.YtimhhegebkganaaGreatDoorGP
set_option linter.unusedSimpArgs false
set_option linter.unusedVariables false
set_option maxRecDepth 4000
namespace Go.SL
open Go.Proofs

theorem body_81 : (Tryz.prog.funcs[81]?).map (fun fn => fn.body.isSome && !(fn.name == "runtime.NumGoroutine")) = some true := by kernel_rfl
theorem bs_38_1 : SliceIs Tryz.prog 38 1 9 1 [.string ⟨#[]⟩] := sliceIs_of Tryz.underlying38 info_9 rfl rfl (by decide) (by kernel_rfl)
theorem zero_9 : ZeroIs Tryz.prog 9 (.string ⟨#[]⟩) := zeroIs_of info_9 rfl
theorem by_9 : ∀ w, ∃ i, (typeInfo 9).run Tryz.prog w = .ok i w ∧ i.bytes = 16 := bytes_of info_9 rfl


theorem map_encS : ∀ xs : List ByteArray, xs.map Value.string = xs.flatMap encS
  | [] => rfl
  | x :: r => by rw [List.map_cons, map_encS r]; rfl
theorem splitS_len (s sep : ByteArray) (h1 : 1 ≤ sep.size) : (splitS s sep).length = Go.Lib.countB s sep + 1 := Go.Lib.splitB_all sep h1 0 _ s rfl
/-- the words of a text: what blanks part -/
def wordsF (s : ByteArray) : List ByteArray := (splitS s ⟨#[32]⟩).filter (fun x => decide (x ≠ ⟨#[]⟩))
theorem take_filter {α : Type} (p : α → Bool) {xs : List α} {i : Nat} {x : α} (h : xs[i]? = some x) : (xs.take (i + 1)).filter p = (xs.take i).filter p ++ (if p x then [x] else []) := by
  have hlt := (List.getElem?_eq_some_iff.1 h).1
  have he := (List.getElem?_eq_some_iff.1 h).2
  rw [List.take_succ_eq_append_getElem hlt, he, List.filter_append]
  congr 1
  cases hp : p x <;> simp [List.filter, hp]

theorem words_ct (s : ByteArray) (hs : s.size ≤ 1000000) : CT Tryz.prog 48 #[.string s] [varA 2 .i64] (fun v M => ∃ sv, v = sv ∧ M = [varA 2 .i64, arr 9 1 encS sv (wordsF s)]) := by
  refine t_fun (vs := [.string s]) (n := 21) Tryz.func48 rfl Tryz.ntmps48 rfl fun w0 F => ?_
  have hcb := Go.Lib.countB_le (⟨#[32]⟩ : ByteArray) (by show (1:Nat) ≤ 1; omega) s.size s (Nat.le_refl _)
  refine t_seq ?_
  refine t_region ?_
  refine tl_q rfl (ev_assign rfl) ?_
  refine tl_nil ?_
  refine te_code ?_
  refine t_seq ?_
  refine t_region ?_
  refine tl_q rfl (ev_assign rfl) ?_
  refine tl_nil ?_
  refine te_code ?_
  refine t_seq ?_
  refine t_seq ?_
  refine t_region ?_
  refine tl_q rfl (ev_move rfl) ?_
  refine tl_e (eff_call rfl rfl body_81 rfl (by repeat (first | exact Frm.nil | exact Take.here | apply Take.there | apply Frm.cons)) (Split_ct _ _ (by omega) (by show (1:Nat) ≤ 1; omega))) ?_
  rintro _ _ ⟨v7, _, ⟨b7, rfl, rfl⟩, rfl, rfl⟩
  have hcl := splitS_len s ⟨#[32]⟩ (by show (1:Nat) ≤ 1; omega)
  generalize hcn : Go.Lib.countB s ⟨#[32]⟩ + 1 = cn at hcl
  refine tl_lit (T := 9) (sz := 1) (enc := encS) (splitS s ⟨#[32]⟩) (map_encS _) hcl.symm (by simp; omega) ?_
  subst hcl
  have hsh : Shape (.slice (some ⟨b7, 0, none⟩) (splitS s ⟨#[32]⟩).length (splitS s ⟨#[32]⟩).length) (splitS s ⟨#[32]⟩).length := .inr ⟨_, _, _, rfl⟩
  generalize Value.slice (some ⟨b7, 0, none⟩) (splitS s ⟨#[32]⟩).length (splitS s ⟨#[32]⟩).length = wv at hsh ⊢
  refine tl_nil_arr 9 1 encS ?_
  refine tl_q rfl (ev_len_sh sl_38 rfl (by assumption)) ?_
  refine tl_q rfl (ev_move rfl) ?_
  refine tl_nil ?_
  refine te_code ?_
  refine t_block ?_
  refine t_loop (α := Nat × Value) (fun q => [(9, .int .i64 (q.1 : Int)), (8, .int .i64 ((splitS s ⟨#[32]⟩).length : Int)), (7, wv), (3, q.2)]) (fun q => [varA 2 .i64, arr 9 1 encS wv (splitS s ⟨#[32]⟩), arr 9 1 encS q.2 (((splitS s ⟨#[32]⟩).take q.1).filter (fun x => decide (x ≠ ⟨#[]⟩)))]) (fun q => (splitS s ⟨#[32]⟩).length - q.1) (fun q => q.1 ≤ (splitS s ⟨#[32]⟩).length) (0, .slice none 0 0) (by simp) (by exact sub_cons rfl (sub_cons rfl (sub_cons rfl (sub_cons rfl (sub_nil))))) (fun _ h => hold_keep (by repeat (first | exact Frm.nil | exact Take.here | apply Take.there | apply Frm.cons)) h) ?_
  rintro ⟨i, ov⟩ hi
  try dsimp only
  dsimp only at hi
  refine t_seq ?_
  refine t_region ?_
  refine tl_q rfl (ev_lss rfl rfl) ?_
  refine tl_nil ?_
  refine te_code ?_
  refine t_seq ?_
  refine t_cond_dec rfl (fun h0 => ?_) (fun h0 => ?_)
  · obtain ⟨u, hu⟩ := get_ex (show (i : Int) < (splitS s ⟨#[32]⟩).length by omega)
    have hfl := List.length_filter_le (fun x => decide (x ≠ ⟨#[]⟩)) ((splitS s ⟨#[32]⟩).take i)
    rw [List.length_take] at hfl
    refine t_skip ?_
    refine te_code ?_
    refine t_seq ?_
    refine t_block ?_
    refine t_seq ?_
    refine t_region ?_
    refine tl_q rfl (ev_at_sh sl_38 rfl rfl (by assumption) (by omega)) ?_
    refine tl_q rfl (ev_load_at0 sc_9 rfl (by first | exact HasArr.own (by repeat (first | exact List.Mem.head _ | apply List.Mem.tail)) | exact HasArr.sh (by repeat (first | exact List.Mem.head _ | apply List.Mem.tail))) (by intro _; rfl) (by assumption) (by rfl)) ?_
    refine tl_q rfl (ev_assign rfl) ?_
    refine tl_nil ?_
    refine te_code ?_
    refine t_seq ?_
    refine t_region ?_
    refine tl_q rfl (ev_move rfl) ?_
    refine tl_q rfl (ev_sneq rfl rfl) ?_
    refine tl_nil ?_
    refine te_code ?_
    refine t_cond_dec rfl (fun h1 => ?_) (fun h1 => ?_)
    · refine t_region ?_
      refine tl_q rfl (ev_move rfl) ?_
      refine tl_q rfl (ev_move rfl) ?_
      refine tl_e (eff_buildSl rfl bs_38_1 rfl (by repeat (first | exact FillR.nil | exact LPut.nil | apply LPut.cons | apply LPut.succ | apply FillR.cons rfl rfl rfl))) ?_
      rintro _ _ ⟨b17, rfl, rfl⟩
      refine tl_e (eff_append (ys := [u]) rfl sl_38 Tryz.underlying38 zero_9 rfl by_9 rfl rfl (by repeat (first | exact Take.here | apply Take.there)) (HasArr.lit (by first | (left; (repeat (first | exact List.Mem.head _ | apply List.Mem.tail)); done) | (right; (repeat (first | exact List.Mem.head _ | apply List.Mem.tail)); done)) rfl rfl) (by intro _; rfl) flatS (by simp only [List.length_cons, List.length_nil]; omega) (by decide)) ?_
      rintro _ _ ⟨v18, rfl, rfl⟩
      rw [show ((splitS s ⟨#[32]⟩).take i).filter (fun x => decide (x ≠ ⟨#[]⟩)) ++ [u] = ((splitS s ⟨#[32]⟩).take (i + 1)).filter (fun x => decide (x ≠ ⟨#[]⟩)) from by rw [take_filter _ hu]; simp [h1]]
      refine tl_q rfl (ev_assign rfl) ?_
      refine tl_nil ?_
      refine te_blk ?_
      refine te_code ?_
      refine t_region ?_
      refine tl_q rfl (ev_add' rfl rfl (by omega)) ?_
      refine tl_q rfl (ev_move rfl) ?_
      refine tl_nil ?_
      exact te_round (i + 1, _) (by exact sub_cons rfl (sub_cons rfl (sub_cons rfl (sub_cons rfl (sub_nil))))) (fun _ h => hold_keep (by repeat (first | exact Frm.nil | exact Take.here | apply Take.there | apply Frm.cons)) h) (by dsimp only; omega) (by dsimp only; omega)
    · rw [show ((splitS s ⟨#[32]⟩).take i).filter (fun x => decide (x ≠ ⟨#[]⟩)) = ((splitS s ⟨#[32]⟩).take (i + 1)).filter (fun x => decide (x ≠ ⟨#[]⟩)) from by rw [take_filter _ hu]; simp at h1; simp [h1]]
      refine t_skip ?_
      refine te_blk ?_
      refine te_code ?_
      refine t_region ?_
      refine tl_q rfl (ev_add' rfl rfl (by omega)) ?_
      refine tl_q rfl (ev_move rfl) ?_
      refine tl_nil ?_
      exact te_round (i + 1, _) (by exact sub_cons rfl (sub_cons rfl (sub_cons rfl (sub_cons rfl (sub_nil))))) (fun _ h => hold_keep (by repeat (first | exact Frm.nil | exact Take.here | apply Take.there | apply Frm.cons)) h) (by dsimp only; omega) (by dsimp only; omega)
  · obtain rfl : i = (splitS s ⟨#[32]⟩).length := by omega
    simp only [List.take_length]
    refine t_exit ?_
    refine te_exit_code ?_
    refine te_exit_rnd ?_
    refine te_exit_here ?_
    refine te_code ?_
    refine t_seq ?_
    refine t_region ?_
    refine tl_q rfl (ev_move rfl) ?_
    refine tl_q rfl (ev_assign rfl) ?_
    refine tl_nil ?_
    refine te_code ?_
    refine t_ret ?_
    refine te_ret_k (pre := [varA 2 .i64, arr _ _ encS ov _]) (res1 rfl rfl) (by repeat (first | exact Frm.nil | exact Take.here | apply Take.there | apply Frm.cons)) ?_
    exact ⟨_, rfl, rfl⟩

end Go.SL
