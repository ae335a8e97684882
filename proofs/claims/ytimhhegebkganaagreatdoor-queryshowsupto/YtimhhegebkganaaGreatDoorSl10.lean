/- Contracts of the kit's shelf turned into contracts of this logic. -/
import Derived.Test.YtimhhegebkganaaGreatDoorSl9
import Derived.Sort.Grow
import Derived.Lib.LaidTab
import Derived.Deep.Draws
import Derived.Laws.BytesArg
import Derived.Below
set_option linter.unusedSimpArgs false
set_option linter.unusedVariables false
namespace Go.SL


theorem Hold.ext_ {w w' : World} {L : List Asrt} (s : Hold w L) (e : ∀ (b : Nat) (o : Obj), w.heap[b]? = some o → w'.heap[b]? = some o) : Hold w' L := by
  obtain ⟨I, h, a, b, c, d⟩ := s
  exact ⟨I, h, fun x o hx => e x o (a x o hx), fun x o hx => e x o (b x o hx), c, d⟩

theorem Hold.grow {w : World} {L : List Asrt} (s : Hold w L) (k : Nat) (os : Array Obj) : Hold (Go.Sort.grow (w.drewN k) os) L :=
  Hold.ext_ s fun b o h => by
    show (w.heap ++ os)[b]? = some o
    have hlt := (Array.getElem?_eq_some_iff.1 h).1
    rw [Array.getElem?_append_left hlt]; exact h

theorem same_grow (w : World) {m : Bool} (k : Nat) (os : Array Obj) : Same ⟨w, m⟩ (Go.Sort.grow (w.drewN k) os) := ⟨rfl, rfl, rfl, fun _ => Nat.le_add_right _ _⟩

/-- a contract whose world has grown only -/
theorem ct_grow {P : Program} {f : FuncId} {args : Array Value} {pre : List Asrt} {v : Value}
    (h : ∀ w F, Hold w (pre ++ F) → Calls P f args w fun e w' => e = .returned v ∧ ∃ k os, w' = Go.Sort.grow (w.drewN k) os) : CT P f args pre (fun u M => u = v ∧ M = pre) :=
  fun w F hw => Calls.mono (h w F hw) fun e w' ⟨he, k, os, hg⟩ => by
    subst he; subst hg
    exact ⟨same_grow w k os, pre, ⟨rfl, rfl⟩, hw.grow k os⟩

/-- a contract that leaves the world -/
theorem ct_same {P : Program} {f : FuncId} {args : Array Value} {pre : List Asrt} {v : Value}
    (h : ∀ w F, Hold w (pre ++ F) → Calls P f args w fun e w' => e = .returned v ∧ w' = w) : CT P f args pre (fun u M => u = v ∧ M = pre) :=
  fun w F hw => Calls.mono (h w F hw) fun e w' ⟨he, hg⟩ => by
    subst he; subst hg
    exact ⟨Same.refl _, pre, ⟨rfl, rfl⟩, hw⟩

/-- a contract that lays one block -/
theorem ct_alloc {P : Program} {f : FuncId} {args : Array Value} {pre : List Asrt} {v : Nat → Value} {o : Obj}
    (h : ∀ w F, Hold w (pre ++ F) → Calls P f args w fun e w' => e = .returned (v w.heap.size) ∧ w' = w.alloc o) : CT P f args pre (fun u M => ∃ b, u = v b ∧ M = blk b o :: pre) :=
  fun w F hw => Calls.mono (h w F hw) fun e w' ⟨he, hg⟩ => by
    subst he; subst hg
    exact ⟨same_alloc (Same.refl w), _, ⟨w.heap.size, rfl, rfl⟩, hw.alloc o⟩

/-- a contract that leaves the blocks that lay there -/
theorem ct_below {P : Program} {f : FuncId} {args : Array Value} {pre : List Asrt} {v : Value}
    (h : ∀ w F, Hold w (pre ++ F) → Calls P f args w fun e w' => e = .returned v ∧ Go.RowKit.Below w.heap.size w w') : CTm false P f args pre (fun u M => u = v ∧ M = pre) :=
  fun w F hw => Calls.mono (h w F hw) fun e w' ⟨he, hg⟩ => by
    subst he
    exact ⟨⟨hg.os, hg.tape, hg.output, fun e => nomatch e⟩, pre, ⟨rfl, rfl⟩, Hold.ext_ hw fun b o hb => by rw [hg.block b (Array.getElem?_eq_some_iff.1 hb).1]; exact hb⟩

/-- a variable of one cell, of whatever value of a kind -/
def varA (g : Nat) (k : IntKind) : Asrt := ex fun q : Int × TypeId × (Nat × Nat) => imm g (.cells #[.int k q.1] q.2.1 q.2.2)
theorem varA_get {w : World} {g : Nat} {k : IntKind} {L : List Asrt} (h : Hold w (varA g k :: L)) : ∃ m, w.cell? ⟨g, 0, none⟩ = some (.int k m) := by
  obtain ⟨q, h⟩ := Hold.ex_elim h
  have e := h.imm_get
  exact ⟨q.1, by simp [World.cell?, e]⟩

/-- a table among the package's variables -/
def tabA (g : Nat) (k : IntKind) (zs : List Int) : Asrt := ex fun q : TypeId × (Nat × Nat) => imm g (.cells (zs.map fun z => Value.int k z).toArray q.1 q.2)

theorem tabIs_of_hold {P : Program} {w : World} {g : Nat} {k : IntKind} {zs : List Int} {name : String} {L : List Asrt} (hg : P.globalNamed name = some g) (h : Hold w (tabA g k zs :: L)) : Go.Lib.TabIs P w name k zs := by
  obtain ⟨q, h⟩ := Hold.ex_elim h
  have e := h.imm_get
  unfold Go.Lib.TabIs World.var?
  rw [hg]
  simp [e]
/-! bytes made a text -/
def encU (n : Int) : List Value := [.int .u8 n]
theorem flatMap_encU : ∀ xs : List Int, xs.flatMap encU = xs.map (Value.int .u8)
  | [] => rfl
  | x :: r => by rw [List.flatMap_cons, flatMap_encU r]; rfl
structure BytesStr (P : Program) (src dst : TypeId) : Prop where
  ok : ∀ (w : World) (v : Value) (xs : List Int), Rd w 1 encU v xs → (convert src dst v).run P w = .ok (.string (strOfNums xs)) w
theorem bytesStr_of {P : Program} {src dst e : TypeId} (hs : P.underlying src = some (.slice e)) (he : P.underlying e = some (.int .u8)) (hd : P.underlying dst = some .string) : BytesStr P src dst := ⟨fun w v xs h => by
  rcases h with ⟨rfl, a, c, rfl⟩ | ⟨b, o, cap, c, E, fz, rfl, hb, hc⟩
  · cases a with
    | none => exact run_convert_bytes_nil w src e hs he 0 c dst hd
    | some a =>
      rw [run_convert_bytes_string w src dst e _ 0 c hs he hd, run_bytesToString w _ 0 c [] (by simpa using run_loadCells_list (P := P) w a [] (fun j v h => by simp at h))]
      rfl
  · refine run_convert_bytes_arg w src e hs he b o xs.length cap xs rfl (fun i hi => ?_) dst hd
    have := hc i (by omega)
    rw [flatMap_encU] at this
    simp only [World.cell?, hb]
    simp [this, List.getD, List.getElem?_eq_getElem hi]⟩
theorem ev_bytesStr {X : Cx} {fr : Fr} {L : List Asrt} {dst : Option Nat} {ty : TypeId} {pos : String} {af : Array Edge} {src dt : TypeId} {x : Operand} {v : Value} {xs : List Int} (hc : BytesStr X.P src dt) (h : ev fr x = some v) (hA : HasArr 1 encU L v xs) :
    Ev X fr L ⟨dst, .convert src dt x, ty, pos, af, none⟩ (.string (strOfNums xs)) := fun a w ha hw => by
  have := hc.ok w v xs (hA.rd (fun _ => rfl) hw)
  simp [execOp, ha.ev h, this]

/-! several operations of a drawn region can come next -/
section
variable {X : Cx} {k : List Kt} {fr : Fr} {L : List Asrt}
def TO (X : Cx) (k : List Kt) (ops : Array Oper) (S : List Asrt) (fuel : Nat) (listed : Array Bool) (fr : Fr) (L : List Asrt) (i : Nat) : Prop :=
  ∀ a w, Agree X.n fr a → Same X.w0 w → Hold w (L ++ X.F) → wpOp X.P ops (run X.P X.R k) i (fun a' w' => Hold w' S ∧ wpAnyH X.P .any ops (run X.P X.R k) (fun w => Hold w S) fuel (listed.setIfInBounds i true) a' w') a w
theorem tr_any {ops : Array Oper} {S : List Asrt} {fuel : Nat} {listed : Array Bool} (l : List Nat) (hr : Region.ready .any ops listed = l) (hl : l ≠ []) (h : ∀ i ∈ l, TO X k ops S fuel listed fr L i) : TR X k ops S (fuel + 1) listed fr L := fun a w ha hsm hw =>
  wpAnyH_all hr (fun e => hl e) fun m hm => h m hm a w ha hsm hw
theorem to_e {ops : Array Oper} {S : List Asrt} {fuel : Nat} {listed : Array Bool} {i : Nat} {dst : Option Nat} {op : Op} {ty : TypeId} {pos : String} {af : Array Edge} {post : Fr → List Asrt → Prop}
    (hi : ops[i]? = some ⟨dst, op, ty, pos, af, none⟩)
    (he : Eff X fr L ⟨dst, op, ty, pos, af, none⟩ post) (hS : ∀ fr' L', post fr' L' → ∀ w, Hold w (L' ++ X.F) → Hold w S)
    (h : ∀ fr' L', post fr' L' → TR X k ops S fuel (listed.setIfInBounds i true) fr' L') : TO X k ops S fuel listed fr L i := fun a w ha hsm hw => by
  unfold wpOp
  simp only [hi]
  rw [if_pos (by simp [Region.wanted])]
  exact he _ trivial a w ha hsm hw _ fun fr' L' hp a' w' h1 h2 h3 => ⟨hS fr' L' hp w' h3, h fr' L' hp a' w' h1 h2 h3⟩
theorem all_cons {φ : Nat → Prop} {i : Nat} {l : List Nat} (h : φ i) (g : ∀ j ∈ l, φ j) : ∀ j ∈ i :: l, φ j := fun j hj => by
  rcases List.mem_cons.1 hj with rfl | hj
  · exact h
  · exact g j hj
theorem all_nil {φ : Nat → Prop} : ∀ j ∈ ([] : List Nat), φ j := fun _ h => by cases h
/-- a quiet operation taken as an effect -/
theorem eff_ev {d : Nat} {op : Op} {ty : TypeId} {pos : String} {af : Array Edge} {v : Value} (hd : Nat.blt d X.n = true) (he : Ev X fr (L ++ X.F) ⟨some d, op, ty, pos, af, none⟩ v) :
    Eff X fr L ⟨some d, op, ty, pos, af, none⟩ (fun fr' L' => fr' = (d, v) :: fr ∧ L' = L) := fun Q _ a w ha hs hw K hK => by
  left
  unfold Oper.wp
  rw [he a w ha hw]
  exact hK _ _ ⟨rfl, rfl⟩ _ _ (ha.put v (Nat.le_of_ble_eq_true hd)) hs hw
end

theorem tr_shape {α : Type} {X : Cx} {k : List Kt} {fr : Fr} {L : List Asrt} {sz : Nat} {enc : α → List Value} {v : Value} {xs : List α} {ops : Array Oper} {S : List Asrt} {fuel : Nat} {listed : Array Bool} (h : HasArr sz enc L v xs) (hE : ∀ x, (enc x).length = sz)
    (g : Shape v xs.length → TR X k ops S fuel listed fr L) : TR X k ops S fuel listed fr L := fun a w ha hs hw => g (h.rd hE hw.left).shape a w ha hs hw
theorem shape_sl {v : Value} {n : Nat} (h : Shape v n) : ∃ p q c, v = .slice p q c := by
  rcases h with ⟨_, a, c, rfl⟩ | ⟨b, o, cap, rfl⟩
  · exact ⟨_, _, _, rfl⟩
  · exact ⟨_, _, _, rfl⟩

/-! a part of a slice -/
theorem ev_sliceArr {X : Cx} {fr : Fr} {L : List Asrt} {dst : Option Nat} {ty : TypeId} {pos : String} {af : Array Edge} {xt e sz : Nat} {x : Operand} {lo hi : Option Operand} {a : Option Addr} {len cap l h : Nat} (ht : SliceOf X.P xt e sz) (hx : ev fr x = some (.slice a len cap))
    (hlo : match lo with | none => l = 0 | some o => ∃ kk, ev fr o = some (.int kk l)) (hhi : match hi with | none => h = len | some o => ∃ kk, ev fr o = some (.int kk h)) (h1 : l ≤ h) (h2 : h ≤ cap) :
    Ev X fr L ⟨dst, .slice xt x lo hi none, ty, pos, af, none⟩ (.slice (if cap = l then a else a.map (·.add (l * sz))) (h - l) (cap - l)) := fun A w ha _ => by
  have hs := ht.2 w
  cases lo with
  | none =>
    cases hi with
    | none => subst hlo; subst hhi; simp [execOp, ha.ev hx, Instr.sliceAt, Instr.slice, ht.1 w, hs, Instr.sliceBounds]
    | some oh => obtain ⟨kk, hh⟩ := hhi; subst hlo; simp [execOp, ha.ev hx, ha.ev hh, Instr.sliceAt, Instr.slice, ht.1 w, hs, Instr.sliceBounds, Instr.sliceBound, asIntOf, h2]
  | some ol =>
    obtain ⟨kl, hl⟩ := hlo
    cases hi with
    | none => subst hhi; simp [execOp, ha.ev hx, ha.ev hl, Instr.sliceAt, Instr.slice, ht.1 w, hs, Instr.sliceBounds, Instr.sliceBound, asIntOf, h1]
    | some oh => obtain ⟨kk, hh⟩ := hhi; simp [execOp, ha.ev hx, ha.ev hl, ha.ev hh, Instr.sliceAt, Instr.slice, ht.1 w, hs, Instr.sliceBounds, Instr.sliceBound, asIntOf, h1, h2]
theorem tl_shape2 {α : Type} {X : Cx} {k : List Kt} {fr : Fr} {L : List Asrt} {T : TypeId} {sz : Nat} {enc : α → List Value} {v : Value} {xs : List α} {ops : Array Oper} {rest : List Oper} (h : arr T sz enc v xs ∈ L)
    (g : ∀ a cap, v = .slice a xs.length cap → xs.length ≤ cap → TL X k ops fr L rest) : TL X k ops fr L rest := fun a w ha hs hw => by
  obtain ⟨M, s⟩ := (hw.left).mem h
  obtain ⟨I, f, hi, hh, d, h1, h2, j, q, s⟩ := s
  rcases q with ⟨rfl, p, b⟩ | ⟨b, cap, spare, a1, a2, _⟩
  · exact g p 0 b (Nat.le_refl _) a w ha hs hw
  · exact g _ cap a1 a2 a w ha hs hw

theorem tl_nil_arr {α : Type} {X : Cx} {k : List Kt} {fr : Fr} {L : List Asrt} {ops : Array Oper} {rest : List Oper} (U : TypeId) (sz : Nat) (enc : α → List Value) (h : TL X k ops fr (arr U sz enc (.slice none 0 0) [] :: L) rest) : TL X k ops fr L rest := h.hold fun _ hw => Hold.nil_arr hw U sz enc

theorem ev_load_at_part {α : Type} {X : Cx} {fr : Fr} {L : List Asrt} {dst : Option Nat} {ty : TypeId} {pos : String} {af : Array Edge} {sz : Nat} {enc : α → List Value} {v : Value} {xs : List α} {x : Operand} {t i k m : Nat} {u : α} {l : List Value} (ht : IsAg X.P t m) (hx : ev fr x = some (ptrAt v (i * sz + k))) (h : HasArr sz enc L v xs) (hE : ∀ x, (enc x).length = sz) (hu : xs[i]? = some u) (hm : k + m ≤ sz) (hl : ((enc u).drop k).take m = l) :
    Ev X fr L ⟨dst, .load t x, ty, pos, af, none⟩ (.agg l.toArray) := fun a w ha hw => by
  obtain ⟨ad, hp, hs, hc⟩ := (h.rd hE hw).cell hE hu
  rw [hp] at hx
  obtain ⟨b, o, sp⟩ := ad
  simp only at hs; subst hs
  rw [addr_add] at hx
  simp only at hc
  subst hl
  have key : ∀ (n j : Nat) (acc : Array Value), j + n = m → (loadCellsFrom ⟨b, o + (i * sz + k), none⟩ j n acc).run X.P w = .ok (acc ++ ((((enc u).drop k).take m).drop j).toArray) w := by
    intro n
    induction n with
    | zero => intro j acc hj; simp [loadCellsFrom]; omega
    | succ n ih =>
      intro j acc hj
      have h1 : k + j < sz := by omega
      have h2 := hc (k + j) h1
      have h3 : k + j < (enc u).length := by rw [hE]; exact h1
      have h4 : j < (((enc u).drop k).take m).length := by simp; omega
      rw [List.getElem?_eq_getElem h3] at h2
      simp only [loadCellsFrom, addr_add, Sem.run_bind, run_load]
      rw [show o + (i * sz + k) + j = o + (i * sz + (k + j)) from by omega, h2]
      simp only [Result.andThen_ok]
      rw [ih (j + 1) _ (by omega), List.drop_eq_getElem_cons h4]
      simp
  have := key m 0 #[] (by omega)
  simp only [List.drop_zero] at this
  simp [execOp, ha.ev hx, Instr.loadAt, Instr.sureAddr, loadVar, ht.1 w, ht.2 w, loadCells, this]

theorem hold_sub {w : World} {L F S rest : List Asrt} (t : Frm L S rest) (h : Hold w (L ++ F)) : Hold w S := (h.left.perm t.perm).left
end Go.SL
