/- The logic: structs that are built; what is hidden is opened. -/
import Derived.Test.YtimhhegebkganaaGreatDoorSl6
set_option linter.unusedSimpArgs false
set_option linter.unusedVariables false
namespace Go.SL

/-! ### structs, arrays and slices that are built -/
/-- parts laid one after the other over cells -/
inductive FillR (ps : Nat → Option (Nat × Nat)) : List Value → List (Nat × Value) → List Value → Prop
  | nil {l : List Value} : FillR ps l [] l
  | cons {l m r us : List Value} {i o s : Nat} {v : Value} {rest : List (Nat × Value)} : ps i = some (o, s) → v.cells = us.toArray → Nat.beq us.length s = true → LPut l o us m → FillR ps m rest r → FillR ps l ((i, v) :: rest) r

theorem fold_over : ∀ (us l : List Value) (o j : Nat), ((us.zipIdx j).foldl (fun (cs : Array Value) (x : Value × Nat) => cs.setIfInBounds (o + x.2) x.1) l.toArray) = (over l (o + j) us).toArray
  | [], l, o, j => rfl
  | u :: us, l, o, j => by
    simp only [List.zipIdx_cons, List.foldl_cons, List.setIfInBounds_toArray]
    rw [fold_over us (l.set (o + j) u) o (j + 1)]
    rfl

theorem FillR.eq {ps : Nat → Option (Nat × Nat)} {l r : List Value} {parts : List (Nat × Value)} (h : FillR ps l parts r) : Instr.fill ps l.toArray parts = some r.toArray := by
  induction h with
  | nil => rfl
  | cons h1 h2 h3 h4 _ ih =>
    rename_i l m r us i o s v rest _
    have h3 := Nat.eq_of_beq_eq_true h3
    obtain ⟨e, hl⟩ := h4.eq
    unfold Instr.fill
    simp only [h1]
    have hz : v.cells.size = us.length := by rw [h2]; simp
    have hz2 : l.toArray.size = l.length := by simp
    have hne : ¬ ((decide (v.cells.size ≠ s) || decide (o + v.cells.size > l.toArray.size)) = true) := by
      rw [hz, hz2, h3]; rw [h3] at hl; simp; omega
    rw [if_neg hne]
    have : (Array.foldl (fun (cs : Array Value) (x : Value × Nat) => cs.setIfInBounds (o + x.2) x.1) l.toArray v.cells.zipIdx) = m.toArray := by
      rw [h2]
      have := fold_over us l o 0
      rw [Nat.add_zero, e] at this
      rw [← this]
      simp [← Array.foldl_toList]
    rw [this]
    exact ih

/-- a struct type's places and its zero cells -/
def StructIs (P : Program) (t : TypeId) (ps : Nat → Option (Nat × Nat)) (z : List Value) : Prop :=
  ∀ parts r w, FillR ps z parts r → (Instr.build t parts.toArray).run P w = .ok (.agg r.toArray) w

theorem run_mapM_size {P : Program} {w : World} : ∀ (fs : List Field) (ss : List Nat), (∀ j (h : j < fs.length), ∃ s, ss[j]? = some s ∧ (sizeOf fs[j].type).run P w = .ok s w) → fs.length = ss.length →
    (fs.mapM (fun f => (do pure (f.offset, ← sizeOf f.type) : Sem (Nat × Nat)))).run P w = .ok ((fs.zip ss).map fun x => (x.1.offset, x.2)) w
  | [], [], _, _ => by simp
  | [], _ :: _, _, h => by simp at h
  | _ :: _, [], _, h => by simp at h
  | f :: fs, s :: ss, h, hl => by
    obtain ⟨s', e, hs⟩ := h 0 (by simp)
    simp at e; subst e
    have ih := run_mapM_size (P := P) (w := w) fs ss (fun j hj => by
      obtain ⟨s', e, hs⟩ := h (j + 1) (by simpa using hj)
      exact ⟨s', by simpa using e, by simpa using hs⟩) (by simpa using hl)
    have hs' : (sizeOf f.type).run P w = .ok s w := hs
    rw [List.mapM_cons, Sem.run_bind, Sem.run_bind, hs']
    simp only [Result.andThen_ok, Sem.run_pure]
    rw [Sem.run_bind, ih]
    rfl

theorem structIs_of {P : Program} {t : TypeId} {fs : List Field} {ss : List Nat} {z : List Value} {i : TypeInfo} (h : P.underlying t = some (.struct fs.toArray)) (hi : P.info? t = some i) (hz : i.zero = some (.agg z.toArray))
    (hs : (fs.map fun f => (P.info? f.type).map (·.size)) = ss.map some) : StructIs P t (fun j => ((fs.zip ss).map fun x => (x.1.offset, x.2))[j]?) z := by
  intro parts r w hf
  have hz' := zeroIs_of hi hz w
  have hu : (underlying t).run P w = .ok (.struct fs.toArray) w := by unfold underlying program; simp [Sem.run, h]
  have hl : fs.length = ss.length := by have := congrArg List.length hs; simpa using this
  have hm := run_mapM_size (P := P) (w := w) fs ss (fun j hj => by
    have := congrArg (fun l : List (Option Nat) => l[j]?) hs
    simp only [List.getElem?_map, List.getElem?_eq_getElem hj, Option.map_some] at this
    have hj2 : j < ss.length := by omega
    rw [List.getElem?_eq_getElem hj2] at this
    simp only [Option.map_some, Option.some.injEq] at this
    obtain ⟨ti, h1, h2⟩ := Option.map_eq_some_iff.1 this
    exact ⟨ss[j], by simp [hj2], sizeIs_of h1 h2 w⟩) hl
  have hfe := hf.eq
  have hm' : (fs.toArray.mapM (fun f => (do pure (f.offset, ← sizeOf f.type) : Sem (Nat × Nat)))).run P w = .ok ((fs.zip ss).map fun x => (x.1.offset, x.2)).toArray w := by
    rw [List.mapM_toArray, Sem.run_map, hm]
    rfl
  have hfe' : Instr.fill (fun j : Nat => ((fs.zip ss).map fun x => (x.1.offset, x.2)).toArray[j]?) z.toArray parts = some r.toArray := by
    have : (fun j : Nat => ((fs.zip ss).map fun x => (x.1.offset, x.2)).toArray[j]?) = (fun j : Nat => ((fs.zip ss).map fun x => (x.1.offset, x.2))[j]?) := by funext j; simp
    rw [this]; exact hfe
  unfold Instr.build
  simp only [Sem.run_bind, hz', Result.andThen_ok, hu, Value.cells, hm', hfe', Sem.run_pure]

section ops
variable {X : Cx} {fr : Fr} {L : List Asrt} {ty : TypeId} {pos : String} {af : Array Edge} {dst : Option Nat}

theorem ev_build {t : TypeId} {parts : List (Nat × Operand)} {vs : List (Nat × Value)} {ps : Nat → Option (Nat × Nat)} {z r : List Value} (hs : StructIs X.P t ps z) (hp : evP fr parts = some vs) (hf : FillR ps z vs r) :
    Ev X fr L ⟨dst, .build t parts.toArray, ty, pos, af, none⟩ (.agg r.toArray) := fun a w ha _ => by
  have e := ha.evP parts vs hp
  have e2 : (parts.toArray.map fun x => (x.1, a.eval x.2)) = vs.toArray := by rw [← e]; simp
  simp only [execOp, Sem.run_bind]
  have : (Array.map (fun x => match x with | (i, x) => (i, a.eval x)) parts.toArray) = vs.toArray := e2
  rw [this, hs vs r w hf]
  rfl

/-- a slice of n elements of s cells each, all of them zero at first -/
def SliceIs (P : Program) (t n e : TypeId) (s : Nat) (z : List Value) : Prop :=
  ∀ parts r w, FillR (fun i => some (i * s, s)) z parts r → (Instr.buildSlice t n parts.toArray).run P w = .ok (.slice (some ⟨w.heap.size, 0, none⟩) n n) (w.alloc (.cells r.toArray e (0, 0)))

theorem sliceIs_of {P : Program} {t n e s : Nat} {i : TypeInfo} {zv : Value} {z : List Value} (h : P.underlying t = some (.slice e)) (hi : P.info? e = some i) (hs : i.size = s) (hz : i.zero = some zv) (hn : n * s ≤ 16777216)
    (hr : (if n * s = 0 then #[] else (Array.range (n * s)).map (zv.cells[· % zv.cells.size]!)) = z.toArray) : SliceIs P t n e s z := by
  intro parts r w hf
  have hu : (underlying t).run P w = .ok (.slice e) w := by unfold underlying program; simp [Sem.run, h]
  have h1 := sizeIs_of hi hs w
  have h2 := zeroIs_of hi hz w
  have hfe := hf.eq
  unfold Instr.buildSlice
  simp only [Sem.run_bind, hu, Result.andThen_ok, h1]
  have hlt : ¬ n * s > 2 ^ 24 := by
    have : (2 : Nat) ^ 24 = 16777216 := by decide
    omega
  rw [if_neg hlt]
  by_cases h0 : n * s = 0
  · rw [if_pos h0] at hr
    rw [← hr] at hfe
    have e0 : Array.range 0 = #[] := rfl
    simp [h0, e0, hfe, newRow, newObj, Sem.run]
  · rw [if_neg h0] at hr
    rw [← hr] at hfe
    simp only [h0, if_false, Sem.run_bind, h2, Result.andThen_ok, Sem.run_pure]
    rw [hfe]
    simp [newRow, newObj, Sem.run]

theorem eff_buildSl {d n t e s : Nat} {parts : List (Nat × Operand)} {vs : List (Nat × Value)} {z r : List Value} (hd : Nat.blt d X.n = true) (hs : SliceIs X.P t n e s z) (hp : evP fr parts = some vs) (hf : FillR (fun i => some (i * s, s)) z vs r) :
    Eff X fr L ⟨some d, .buildSlice t n parts.toArray, ty, pos, af, none⟩ (fun fr' L' => ∃ b, fr' = (d, .slice (some ⟨b, 0, none⟩) n n) :: fr ∧ L' = blk b (.cells r.toArray e (0, 0)) :: L) :=
  eff_buildSlice hd fun a ha w => by
    have e := ha.evP parts vs hp
    have e2 : (parts.toArray.map fun x => (x.1, a.eval x.2)) = vs.toArray := by rw [← e]; simp
    have : (Array.map (fun x => match x with | (i, x) => (i, a.eval x)) parts.toArray) = vs.toArray := e2
    rw [this]
    exact hs vs r w hf
end ops

/-! ### what is hidden is opened -/
section opening
variable {X : Cx} {k : List Kt} {fr : Fr} {L : List Asrt}

theorem t_ex {α : Type} {f : α → Asrt} {c : Code} (h : ∀ x, T X k fr (f x :: L) c) : T X k fr (ex f :: L) c := fun a w ha hs hw => by
  obtain ⟨x, hw⟩ := Hold.ex_elim hw; exact h x a w ha hs hw
theorem t_sep {M : List Asrt} {c : Code} (h : T X k fr (M ++ L) c) : T X k fr (sep M :: L) c := fun a w ha hs hw => by
  have := Hold.sep_elim hw; exact h a w ha hs (by rw [List.append_assoc]; exact this)
theorem t_pur {φ : Prop} {c : Code} (h : φ → T X k fr L c) : T X k fr (pur φ :: L) c := fun a w ha hs hw => by
  obtain ⟨x, hw⟩ := Hold.pur_elim hw; exact h x a w ha hs hw
theorem t_rot {L' : List Asrt} {c : Code} (p : L.Perm L') (h : T X k fr L' c) : T X k fr L c := fun a w ha hs hw => h a w ha hs (hw.perm (List.Perm.append_right X.F p))
theorem tl_ex {α : Type} {f : α → Asrt} {ops : Array Oper} {rest : List Oper} (h : ∀ x, TL X k ops fr (f x :: L) rest) : TL X k ops fr (ex f :: L) rest := fun a w ha hs hw => by
  obtain ⟨x, hw⟩ := Hold.ex_elim hw; exact h x a w ha hs hw
theorem tl_sep {M : List Asrt} {ops : Array Oper} {rest : List Oper} (h : TL X k ops fr (M ++ L) rest) : TL X k ops fr (sep M :: L) rest := fun a w ha hs hw => by
  have := Hold.sep_elim hw; exact h a w ha hs (by rw [List.append_assoc]; exact this)
theorem tl_pur {φ : Prop} {ops : Array Oper} {rest : List Oper} (h : φ → TL X k ops fr L rest) : TL X k ops fr (pur φ :: L) rest := fun a w ha hs hw => by
  obtain ⟨x, hw⟩ := Hold.pur_elim hw; exact h x a w ha hs hw
theorem tl_rot {L' : List Asrt} {ops : Array Oper} {rest : List Oper} (p : L.Perm L') (h : TL X k ops fr L' rest) : TL X k ops fr L rest := fun a w ha hs hw => h a w ha hs (hw.perm (List.Perm.append_right X.F p))
theorem te_rot {L' : List Asrt} {e : Exit} (p : L.Perm L') (h : TE X k fr L' e) : TE X k fr L e := fun a w ha hs hw => h a w ha hs (hw.perm (List.Perm.append_right X.F p))
theorem te_ex_mk {α : Type} {f : α → Asrt} {e : Exit} (x : α) (h : TE X k fr (ex f :: L) e) : TE X k fr (f x :: L) e := fun a w ha hs hw => h a w ha hs (Hold.ex_mk hw)
theorem te_sep_mk {M : List Asrt} {e : Exit} (h : TE X k fr (sep M :: L) e) : TE X k fr (M ++ L) e := fun a w ha hs hw => h a w ha hs (Hold.sep_mk (by rw [List.append_assoc] at hw; exact hw))
theorem te_drop {A : Asrt} {e : Exit} (h : TE X k fr L e) : TE X k fr (A :: L) e := fun a w ha hs hw => h a w ha hs hw.drop
theorem te_fold {L' pre F : List Asrt} {A : Asrt} {e : Exit} (f : Frm L pre F) (g : ∀ w G, Hold w (pre ++ G) → Hold w (A :: G)) (h : TE X k fr (A :: F) e) (_ : L' = L) : TE X k fr L e := fun a w ha hs hw =>
  h a w ha hs (g w (F ++ X.F) (by
    have := hw.perm (List.Perm.append_right X.F f.perm)
    rwa [List.append_assoc] at this))
end opening
end Go.SL
