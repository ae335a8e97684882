/- The logic's rules for operations that make or write memory. -/
import Derived.Test.YtimhhegebkganaaGreatDoorSl3
set_option linter.unusedSimpArgs false
set_option linter.unusedVariables false
namespace Go.SL

theorem setCell_eq {w : World} {b o : Nat} {c : Array Value} {T : TypeId} {fz : Nat × Nat} {v : Value} (h : w.heap[b]? = some (.cells c T fz)) :
    w.setCell ⟨b, o, none⟩ v = World.put w b (.cells (c.setIfInBounds o v) T fz) := by
  have hlt := (Array.getElem?_eq_some_iff.1 h).1
  have hval := (Array.getElem?_eq_some_iff.1 h).2
  unfold World.setCell World.put
  congr 1
  apply Array.ext_getElem?
  intro i
  rw [Array.getElem?_modify]
  by_cases hi : b = i
  · subst hi
    simp [hlt, hval]
  · rw [Array.getElem?_setIfInBounds_ne hi]; simp [hi]

theorem put_put (w : World) (b : Nat) (o o' : Obj) : World.put (World.put w b o) b o' = World.put w b o' := by
  unfold World.put
  simp

theorem put_get {w : World} {b : Nat} {o q : Obj} (h : w.heap[b]? = some q) : (World.put w b o).heap[b]? = some o := by
  have hlt := (Array.getElem?_eq_some_iff.1 h).1
  unfold World.put
  simp [hlt]

/-- a value of one cell -/
def Flat : Value → Prop
  | .agg _ | .tuple _ => False
  | _ => True
instance (v : Value) : Decidable (Flat v) := by unfold Flat; cases v <;> infer_instance

/-- vs laid over l from o on -/
inductive LPut : List Value → Nat → List Value → List Value → Prop
  | nil {l : List Value} : LPut l 0 [] l
  | cons {a v : Value} {l vs m : List Value} : LPut l 0 vs m → LPut (a :: l) 0 (v :: vs) (v :: m)
  | succ {a : Value} {l vs m : List Value} {o : Nat} : LPut l o vs m → LPut (a :: l) (o + 1) vs (a :: m)

def over : List Value → Nat → List Value → List Value
  | l, _, [] => l
  | l, o, v :: vs => over (l.set o v) (o + 1) vs

theorem over_cons (a : Value) : ∀ (vs l : List Value) (o : Nat), over (a :: l) (o + 1) vs = a :: over l o vs
  | [], _, _ => rfl
  | v :: vs, l, o => by simp only [over, List.set_cons_succ]; exact over_cons a vs _ _

theorem LPut.eq {l vs m : List Value} {o : Nat} (h : LPut l o vs m) : over l o vs = m ∧ o + vs.length ≤ l.length := by
  induction h with
  | nil => exact ⟨rfl, by simp⟩
  | cons _ ih => exact ⟨by simp only [over, List.set_cons_zero, over_cons, ih.1], by simp; have := ih.2; omega⟩
  | succ _ ih => exact ⟨by rw [over_cons, ih.1], by simp; have := ih.2; omega⟩

theorem length_over : ∀ (vs l : List Value) (o : Nat), (over l o vs).length = l.length
  | [], _, _ => rfl
  | v :: vs, l, o => by simp only [over]; rw [length_over]; simp

theorem run_store {P : Program} {w : World} {b o : Nat} {l : List Value} {T : TypeId} {v : Value} (hv : Flat v) (hb : w.heap[b]? = some (.cells l.toArray T (0, 0))) (ho : o < l.length) :
    (store ⟨b, o, none⟩ v).run P w = .ok () (World.put w b (.cells (l.set o v).toArray T (0, 0))) := by
  have hc : w.cell? ⟨b, o, none⟩ = some l[o] := by rw [cell_of hb]; simp [ho]
  have hf : w.frozen? ⟨b, o, none⟩ = false := by simp [World.frozen?, hb]
  have he := setCell_eq (o := o) (v := v) hb
  simp only [List.setIfInBounds_toArray] at he
  cases v <;> first | exact hv.elim | simp [store, Sem.run, hc, hf, he]

theorem run_storeCells {P : Program} {b o : Nat} {T : TypeId} : ∀ (vs : List Value) (i : Nat) (l : List Value) (w : World), (∀ v ∈ vs, Flat v) → w.heap[b]? = some (.cells l.toArray T (0, 0)) → o + i + vs.length ≤ l.length →
    (storeCells ⟨b, o, none⟩ vs i).run P w = .ok () (World.put w b (.cells (over l (o + i) vs).toArray T (0, 0)))
  | [], i, l, w, _, hb, _ => by
    have hlt := (Array.getElem?_eq_some_iff.1 hb).1
    have hval := (Array.getElem?_eq_some_iff.1 hb).2
    simp only [storeCells, over, Sem.run_pure]
    congr 1
    unfold World.put
    cases w
    congr 1
    apply Array.ext_getElem?
    intro j
    by_cases hj : b = j
    · subst hj
      simp only [Array.getElem?_setIfInBounds_self]
      simp at hlt
      simp [hlt]
      exact hval
    · rw [Array.getElem?_setIfInBounds_ne hj]
  | v :: vs, i, l, w, hf, hb, hl => by
    have e : (⟨b, o, none⟩ : Addr).add i = ⟨b, o + i, none⟩ := by
      by_cases hi : i = 0
      · subst hi; simp [Addr.add]
      · simp [Addr.add, hi]
    simp only [List.length_cons] at hl
    simp only [storeCells, e, Sem.run_bind]
    rw [run_store (hf v (by simp)) hb (by omega)]
    simp only [Result.andThen_ok]
    rw [run_storeCells vs (i + 1) (l.set (o + i) v) _ (fun u hu => hf u (by simp [hu])) (put_get hb) (by simp; omega)]
    rw [put_put]
    rfl

section eff
variable {X : Cx} {fr : Fr} {L : List Asrt} {ty : TypeId} {pos : String} {af : Array Edge}

theorem same_put {w0 : W0} {w : World} {b : Nat} {o : Obj} (h : Same w0 w) : Same w0 (World.put w b o) := h
theorem same_alloc {w0 : W0} {w : World} {o : Obj} (h : Same w0 w) : Same w0 (w.alloc o) := h


theorem eff_alloc {d : Nat} {T : TypeId} {z : Value} {cs : List Value} (hd : Nat.blt d X.n = true) (hz : ZeroIs X.P T z) (hc : z.cells = cs.toArray) :
    Eff X fr L ⟨some d, .alloc T, ty, pos, af, none⟩ (fun fr' L' => ∃ b, fr' = (d, .pointer (some ⟨b, 0, none⟩)) :: fr ∧ L' = blk b (.cells cs.toArray T (0, 0)) :: L) := by
  intro Q hQ a w ha hs hw K hK
  left
  have hr : (execOp a.eval ⟨some d, .alloc T, ty, pos, af, none⟩).run X.P w = .ok (.value (.pointer (some ⟨w.heap.size, 0, none⟩))) (w.alloc (.cells cs.toArray T (0, 0))) := by
    simp [execOp, Instr.alloc, hz w, newVar, newRow, newObj, Sem.run, hc]
  unfold Oper.wp
  rw [hr]
  exact hK _ _ ⟨w.heap.size, rfl, rfl⟩ _ _ (ha.put _ (Nat.le_of_ble_eq_true hd)) (same_alloc hs) (hw.alloc _)

theorem eff_box {d : Nat} {T : TypeId} {x : Operand} {v : Value} {cs : List Value} (hd : Nat.blt d X.n = true) (hx : ev fr x = some v) (hc : v.cells = cs.toArray) :
    Eff X fr L ⟨some d, .box T x, ty, pos, af, none⟩ (fun fr' L' => ∃ b, fr' = (d, .pointer (some ⟨b, 0, none⟩)) :: fr ∧ L' = blk b (.cells cs.toArray T (0, 0)) :: L) := by
  intro Q hQ a w ha hs hw K hK
  left
  have hr : (execOp a.eval ⟨some d, .box T x, ty, pos, af, none⟩).run X.P w = .ok (.value (.pointer (some ⟨w.heap.size, 0, none⟩))) (w.alloc (.cells cs.toArray T (0, 0))) := by
    simp [execOp, Instr.box, ha.ev hx, newVar, newRow, newObj, Sem.run, hc]
  unfold Oper.wp
  rw [hr]
  exact hK _ _ ⟨w.heap.size, rfl, rfl⟩ _ _ (ha.put _ (Nat.le_of_ble_eq_true hd)) (same_alloc hs) (hw.alloc _)

theorem eff_makeMap {d : Nat} {T : TypeId} (hd : Nat.blt d X.n = true) :
    Eff X fr L ⟨some d, .makeMap T none, ty, pos, af, none⟩ (fun fr' L' => ∃ b, fr' = (d, .map (some b)) :: fr ∧ L' = blk b (.map #[] 0) :: L) := by
  intro Q hQ a w ha hs hw K hK
  left
  have hr : (execOp a.eval ⟨some d, .makeMap T none, ty, pos, af, none⟩).run X.P w = .ok (.value (.map (some w.heap.size))) (w.alloc (.map #[] 0)) := by
    simp [execOp, Instr.makeMap, newObj, Sem.run]
  unfold Oper.wp
  rw [hr]
  exact hK _ _ ⟨w.heap.size, rfl, rfl⟩ _ _ (ha.put _ (Nat.le_of_ble_eq_true hd)) (same_alloc hs) (hw.alloc _)

theorem Upd.hold {w : World} {L M F : List Asrt} {A B : Asrt} (u : Upd L A B M) (h : Hold w (L ++ F)) : ∃ N, Hold w (A :: (N ++ F)) ∧ ∀ w', Hold w' (B :: (N ++ F)) → Hold w' (M ++ F) := by
  obtain ⟨N, p, q⟩ := u.perm
  exact ⟨N, h.perm (List.Perm.append_right F p), fun w' h' => h'.perm (List.Perm.append_right F q)⟩

theorem eff_store {dst : Option Nat} {t b o : Nat} {x y : Operand} {v : Value} {l l' vs : List Value} {T : TypeId} {M : List Asrt} (hdst : dst = none) (hx : ev fr x = some (.pointer (some ⟨b, o, none⟩))) (hy : ev fr y = some v)
    (hc : v.cells = vs.toArray) (ht : SizeIs X.P t vs.length) (hf : ∀ v ∈ vs, Flat v) (hu : Upd L (blk b (.cells l.toArray T (0, 0))) (blk b (.cells l'.toArray T (0, 0))) M) (hl : LPut l o vs l') :
    Eff X fr L ⟨dst, .store t x y, ty, pos, af, none⟩ (fun fr' L' => fr' = fr ∧ L' = M) := by
  intro Q hQ a w ha hs hw K hK
  left
  obtain ⟨N, h1, h2⟩ := hu.hold hw
  have hb := h1.blk_get
  have hlen := hl.eq.2
  have := run_storeCells (P := X.P) vs 0 l w hf hb (by simpa using hlen)
  rw [Nat.add_zero, hl.eq.1] at this
  have hr : (execOp a.eval ⟨dst, .store t x y, ty, pos, af, none⟩).run X.P w = .ok .skip (World.put w b (.cells l'.toArray T (0, 0))) := by
    have hsz : v.cells.size = vs.length := by rw [hc]; simp
    simp [execOp, ha.ev hx, ha.ev hy, Instr.storeAt, Instr.sureAddr, storeVar, ht w, hsz, hc, this]
  unfold Oper.wp
  rw [hr]
  subst hdst
  exact hK _ _ ⟨rfl, rfl⟩ _ _ ha (same_put hs) (h2 _ (h1.put _))

/-- slices that are made out of known values -/
theorem eff_buildSlice {d n : Nat} {t e : TypeId} {parts : Array (Nat × Operand)} {cs : List Value} (hd : Nat.blt d X.n = true)
    (h : ∀ a, Agree X.n fr a → ∀ w, (Instr.buildSlice t n (parts.map fun (i, x) => (i, a.eval x))).run X.P w = .ok (.slice (some ⟨w.heap.size, 0, none⟩) n n) (w.alloc (.cells cs.toArray e (0, 0)))) :
    Eff X fr L ⟨some d, .buildSlice t n parts, ty, pos, af, none⟩ (fun fr' L' => ∃ b, fr' = (d, .slice (some ⟨b, 0, none⟩) n n) :: fr ∧ L' = blk b (.cells cs.toArray e (0, 0)) :: L) := by
  intro Q hQ a w ha hs hw K hK
  left
  have hr : (execOp a.eval ⟨some d, .buildSlice t n parts, ty, pos, af, none⟩).run X.P w = .ok (.value (.slice (some ⟨w.heap.size, 0, none⟩) n n)) (w.alloc (.cells cs.toArray e (0, 0))) := by
    simp only [execOp, Sem.run_bind, h a ha w, Result.andThen_ok, Sem.run_pure]
  unfold Oper.wp
  rw [hr]
  exact hK _ _ ⟨w.heap.size, rfl, rfl⟩ _ _ (ha.put _ (Nat.le_of_ble_eq_true hd)) (same_alloc hs) (hw.alloc _)

/-- a call through a function value of known text -/
theorem eff_callv {m : Bool} {d : Nat} {f : FuncId} {g : Operand} {fi ca : Array Value} {cargs : Array Operand} {vs : List Value} {tys : Array TypeId} {pre F : List Asrt} {post : Value → List Asrt → Prop}
    (hm : (!X.w0.m || m) = true) (hd : Nat.blt d X.n = true) (hg : ev fr g = some (.func (.func f) fi ca)) (hbody : (X.P.funcs[f]?).map (fun fn => fn.body.isSome && !(fn.name == "runtime.NumGoroutine")) = some true)
    (hargs : evL fr cargs.toList = some vs) (hF : Frm L pre F) (hc : CTm m X.P f (fi ++ vs.toArray ++ ca) pre post) :
    Eff X fr L ⟨some d, .call ⟨.value g, cargs, tys⟩, ty, pos, af, none⟩ (fun fr' L' => ∃ v M, post v M ∧ fr' = (d, v) :: fr ∧ L' = M ++ F) := by
  intro Q hQ a w ha hs hw K hK
  left
  have harg : cargs.map a.eval = vs.toArray := by
    have h1 := ha.evL cargs.toList vs hargs
    apply Array.toList_inj.1; simp [h1]
  obtain ⟨fn, hfn, hb⟩ := Option.map_eq_some_iff.1 hbody
  simp only [Bool.and_eq_true, Bool.not_eq_true'] at hb
  have hnone : fn.body ≠ none := by intro h; rw [h] at hb; exact absurd hb.1 (by simp)
  have hname : fn.name ≠ "runtime.NumGoroutine" := by simpa using hb.2
  have hex : (execOp a.eval ⟨some d, .call ⟨.value g, cargs, tys⟩, ty, pos, af, none⟩).run X.P w = .ok (.enter f (fi ++ vs.toArray ++ ca)) w := by
    simp [execOp, resolve, ha.ev hg, Deferred.ofValue, invoke, callFunc, program, Sem.run, harg, hfn, hname, hnone]
  unfold Oper.wp
  rw [hex]
  show Calls X.P f _ w _
  have hw' : Hold w (pre ++ (F ++ X.F)) := by
    refine hw.perm ?_
    have := List.Perm.append_right X.F hF.perm
    rwa [List.append_assoc] at this
  refine Calls.mono (hc w (F ++ X.F) hw') fun e w' he => ?_
  cases e with
  | returned v =>
    obtain ⟨hs', M, hp, hM⟩ := he
    exact hK _ _ ⟨v, M, hp, rfl, rfl⟩ _ _ (ha.put v (Nat.le_of_ble_eq_true hd)) (hs.trans hs' hm) (by rw [List.append_assoc]; exact hM)
  | panicked c => exact he.elim
  | outgrown => exact he.elim

def Sub (fr' fr : Fr) : Prop := ∀ i v, look fr' i = some v → look fr i = some v
theorem sub_nil : Sub [] fr := fun _ _ h => by cases h
theorem sub_cons {fr' : Fr} {j : Nat} {v : Value} (h : look fr j = some v) (k : Sub fr' fr) : Sub ((j, v) :: fr') fr := fun i u e => by
  rw [look_cons] at e
  by_cases hj : j = i
  · subst hj; simp at e; subst e; exact h
  · simp [hj] at e; exact k i u e

/-- the end of a round -/
theorem te_round {k : List Kt} {α : Type} {fI : α → Fr} {LI : α → List Asrt} {μ : α → Nat} {I : α → Prop} {x : α} (y : α) (hs : Sub (fI y) fr) (hL : ∀ w, Hold w (L ++ X.F) → Hold w (LI y ++ X.F)) (hI : I y) (hd : μ y < μ x) :
    TE X (.rnd (RndJ X fI LI μ I x) :: k) fr L .normal := fun a w ha h hw => ⟨y, hd, hI, ha.sub hs, h, hL w hw⟩

/-- where ways meet: a family of states behind a piece of code -/
theorem t_join {k : List Kt} {α : Type} {x : Code} {y : Code} (fI : α → Fr) (LI : α → List Asrt) (I : α → Prop)
    (h : T X (.rnd (fun a w => ∃ y, I y ∧ Agree X.n (fI y) a ∧ Same X.w0 w ∧ Hold w (LI y ++ X.F)) :: k) fr L x) (h2 : ∀ z, I z → T X k (fI z) (LI z) y) : T X k fr L (.seq x y) := fun a w ha hs hw =>
  wp_seq (wp_mono (h a w ha hs hw) fun e a' w' q => by
    cases e with
    | normal => obtain ⟨z, hz, h1, h3, h4⟩ := q; exact h2 z hz a' w' h1 h3 h4
    | _ => exact q)
theorem te_join {k : List Kt} {α : Type} {fI : α → Fr} {LI : α → List Asrt} {I : α → Prop} (y : α) (hs : Sub (fI y) fr) (hL : ∀ w, Hold w (L ++ X.F) → Hold w (LI y ++ X.F)) (hI : I y) :
    TE X (.rnd (fun a w => ∃ y, I y ∧ Agree X.n (fI y) a ∧ Same X.w0 w ∧ Hold w (LI y ++ X.F)) :: k) fr L .normal := fun a w ha h hw => ⟨y, hI, ha.sub hs, h, hL w hw⟩

end eff
end Go.SL
