/- The logic's judgements: frames, code, operations in a row, operations whose order is drawn, calls. -/
import Derived.Test.YtimhhegebkganaaGreatDoorSl1
import Derived.Tactics
import Derived.OrdersHeld
import Derived.KernelRfl
set_option linter.unusedSimpArgs false
set_option linter.unusedVariables false
namespace Go.SL

abbrev Fr := List (Nat × Value)

def look : Fr → Nat → Option Value
  | [], _ => none
  | (j, v) :: r, i => bif Nat.beq j i then some v else look r i

structure Agree (n : Nat) (fr : Fr) (a : Act) : Prop where
  size : a.tmps.size = n
  defers : a.defers = []
  get : ∀ i v, look fr i = some v → a.tmps[i]? = some v

def ev (fr : Fr) : Operand → Option Value
  | .tmp t => look fr t
  | .const v => some v
  | .global g => some (.pointer (some ⟨g, 0, none⟩))
  | .func f => some (.func (.func f) #[] #[])

theorem Agree.ev {n : Nat} {fr : Fr} {a : Act} (h : Agree n fr a) {x : Operand} {v : Value} (e : ev fr x = some v) : a.eval x = v := by
  cases x with
  | tmp t => simp [Act.eval, h.get t v e]
  | const u => simpa [SL.ev, Act.eval] using e
  | global g => simpa [SL.ev, Act.eval] using e
  | func f => simpa [SL.ev, Act.eval] using e

def evL (fr : Fr) : List Operand → Option (List Value)
  | [] => some []
  | x :: l => match ev fr x with
    | none => none
    | some v => match evL fr l with
      | none => none
      | some vs => some (v :: vs)

theorem Agree.evL {n : Nat} {fr : Fr} {a : Act} (h : Agree n fr a) : ∀ (l : List Operand) (vs : List Value), evL fr l = some vs → l.map a.eval = vs
  | [], vs, e => by simpa [SL.evL] using e
  | x :: l, vs, e => by
    unfold SL.evL at e
    split at e
    · cases e
    · rename_i v hv
      split at e
      · cases e
      · rename_i us hu
        cases e
        simp [h.ev hv, h.evL l us hu]

def evP (fr : Fr) : List (Nat × Operand) → Option (List (Nat × Value))
  | [] => some []
  | (i, x) :: l => match ev fr x with
    | none => none
    | some v => match evP fr l with
      | none => none
      | some vs => some ((i, v) :: vs)

theorem Agree.evP {n : Nat} {fr : Fr} {a : Act} (h : Agree n fr a) : ∀ (l : List (Nat × Operand)) (vs : List (Nat × Value)), evP fr l = some vs → l.map (fun x => (x.1, a.eval x.2)) = vs
  | [], vs, e => by simpa [SL.evP] using e
  | (i, x) :: l, vs, e => by
    unfold SL.evP at e
    split at e
    · cases e
    · rename_i v hv
      split at e
      · cases e
      · rename_i us hu
        cases e
        simp [h.ev hv, h.evP l us hu]

theorem look_cons (j : Nat) (v : Value) (r : Fr) (i : Nat) : look ((j, v) :: r) i = if j = i then some v else look r i := by
  show (bif Nat.beq j i then some v else look r i) = _
  by_cases h : j = i
  · subst h; simp [Nat.beq_refl]
  · have : Nat.beq j i = false := by
      cases hb : Nat.beq j i with
      | false => rfl
      | true => exact absurd (Nat.eq_of_beq_eq_true hb) h
    simp [this, h]

theorem Agree.put {n : Nat} {fr : Fr} {a : Act} (h : Agree n fr a) {d : Nat} (v : Value) (hd : d < n) : Agree n ((d, v) :: fr) (a.put (some d) v) where
  size := by simp [Act.put, h.size]
  defers := by simp [Act.put, h.defers]
  get := by
    intro i u e
    rw [look_cons] at e
    have hs := h.size
    by_cases hi : d = i
    · subst hi
      simp at e; subst e
      simp [Act.put, hs, hd]
    · simp [hi] at e
      simp only [Act.put, Array.getElem?_setIfInBounds_ne hi]
      exact h.get i u e

theorem Agree.put_none {n : Nat} {fr : Fr} {a : Act} (h : Agree n fr a) (v : Value) : Agree n fr (a.put none v) := h

/-- fewer slots -/
theorem Agree.sub {n : Nat} {fr fr' : Fr} {a : Act} (h : Agree n fr a) (s : ∀ i v, look fr' i = some v → look fr i = some v) : Agree n fr' a :=
  ⟨h.size, h.defers, fun i v e => h.get i v (s i v e)⟩

/-! ### what comes behind -/

inductive Kt where
  | code (c : Code)
  | blk (id : Nat)
  | rnd (J : Act → World → Prop)

def run (P : Program) (R : Exit → Act → World → Prop) : List Kt → Exit → Act → World → Prop
  | [], e => R e
  | .code c :: k, .normal => c.wp P (run P R k)
  | .code _ :: k, e => run P R k e
  | .blk id :: k, .exit i => if i = id then run P R k .normal else run P R k (.exit i)
  | .blk _ :: k, e => run P R k e
  | .rnd J :: _, .normal => J
  | .rnd _ :: k, e => run P R k e

theorem run_ret {P : Program} {R : Exit → Act → World → Prop} : ∀ k, run P R k .ret = R .ret
  | [] => rfl
  | .code _ :: k => run_ret k
  | .blk _ :: k => run_ret k
  | .rnd _ :: k => run_ret k

theorem run_panic {P : Program} {R : Exit → Act → World → Prop} {c : List PanicEntry} : ∀ k, run P R k (.panic c) = R (.panic c)
  | [] => rfl
  | .code _ :: k => run_panic k
  | .blk _ :: k => run_panic k
  | .rnd _ :: k => run_panic k

theorem run_outgrown {P : Program} {R : Exit → Act → World → Prop} : ∀ k, run P R k .outgrown = R .outgrown
  | [] => rfl
  | .code _ :: k => run_outgrown k
  | .blk _ :: k => run_outgrown k
  | .rnd _ :: k => run_outgrown k

/-! ### what a function comes to -/

/-- its ending: it has returned, or it has asked for more room than there is -/
def Ends (w0 : W0) (F : List Asrt) (post : Value → List Asrt → Prop) : Ending → World → Prop
  | .returned v, w => Same w0 w ∧ ∃ L, post v L ∧ Hold w (L ++ F)
  | .panicked _, _ => False
  | .outgrown, _ => False

def CTm (m : Bool) (P : Program) (f : FuncId) (args : Array Value) (pre : List Asrt) (post : Value → List Asrt → Prop) : Prop :=
  ∀ w F, Hold w (pre ++ F) → Calls P f args w (Ends ⟨w, m⟩ F post)
abbrev CT (P : Program) (f : FuncId) (args : Array Value) (pre : List Asrt) (post : Value → List Asrt → Prop) : Prop := CTm true P f args pre post

theorem CTm.weaken {m : Bool} {P : Program} {f : FuncId} {args : Array Value} {pre : List Asrt} {post post' : Value → List Asrt → Prop}
    (h : CTm m P f args pre post) (hp : ∀ v L, post v L → post' v L) : CTm m P f args pre post' :=
  fun w F hw => Calls.mono (h w F hw) fun e _ he => by
    cases e with
    | returned v => exact ⟨he.1, let ⟨L, a, b⟩ := he.2; ⟨L, hp _ _ a, b⟩⟩
    | panicked _ => exact he
    | outgrown => exact he

structure Cx where
  P : Program
  fn : Func
  w0 : W0
  n : Nat
  F : List Asrt
  post : Value → List Asrt → Prop

def Cx.R (X : Cx) : Exit → Act → World → Prop := bodyPost X.P X.fn (Ends X.w0 X.F X.post)

/-- code -/
def T (X : Cx) (k : List Kt) (fr : Fr) (L : List Asrt) (c : Code) : Prop :=
  ∀ a w, Agree X.n fr a → Same X.w0 w → Hold w (L ++ X.F) → c.wp X.P (run X.P X.R k) a w

/-- an exit -/
def TE (X : Cx) (k : List Kt) (fr : Fr) (L : List Asrt) (e : Exit) : Prop :=
  ∀ a w, Agree X.n fr a → Same X.w0 w → Hold w (L ++ X.F) → run X.P X.R k e a w

/-- operations in a row -/
def TL (X : Cx) (k : List Kt) (ops : Array Oper) (fr : Fr) (L : List Asrt) (rest : List Oper) : Prop :=
  ∀ a w, Agree X.n fr a → Same X.w0 w → Hold w (L ++ X.F) → wpList X.P ops (run X.P X.R k) rest a w

theorem t_fn {m : Bool} {P : Program} {f : FuncId} {fn : Func} {c : Code} {args : Array Value} {pre : List Asrt} {post : Value → List Asrt → Prop} {n : Nat} {fr : Fr}
    (hf : P.funcs[f]? = some fn) (hb : fn.body = some c) (hn : (args ++ Array.replicate (fn.ntmps - args.size) undef).size = n)
    (hfr : ∀ i v, look fr i = some v → (args ++ Array.replicate (fn.ntmps - args.size) undef)[i]? = some v)
    (h : ∀ (w0 : World) F, T ⟨P, fn, ⟨w0, m⟩, n, F, post⟩ [] fr pre c) : CTm m P f args pre post := by
  intro w F hw
  refine calls_of_wp hf hb ?_
  exact h w F _ w ⟨hn, rfl, hfr⟩ (Same.refl w) hw

/-- the arguments' slots -/
def argFr : Nat → List Value → Fr
  | _, [] => []
  | i, v :: r => (i, v) :: argFr (i + 1) r

theorem look_argFr : ∀ (vs : List Value) (j i : Nat) (v : Value), look (argFr j vs) i = some v → j ≤ i ∧ vs[i - j]? = some v
  | [], _, _, _, h => by cases h
  | u :: r, j, i, v, h => by
    rw [argFr, look_cons] at h
    by_cases e : j = i
    · subst e; simp at h; subst h; simp
    · simp [e] at h
      obtain ⟨a, b⟩ := look_argFr r (j + 1) i v h
      refine ⟨by omega, ?_⟩
      obtain ⟨d, rfl⟩ : ∃ d, i = j + 1 + d := ⟨i - (j + 1), by omega⟩
      have e1 : j + 1 + d - j = d + 1 := by omega
      have e2 : j + 1 + d - (j + 1) = d := by omega
      rw [e2] at b
      rw [e1]; simpa using b

theorem t_fun {m : Bool} {P : Program} {f : FuncId} {fn : Func} {c : Code} {vs : List Value} {pre : List Asrt} {post : Value → List Asrt → Prop} {n : Nat}
    (hf : P.funcs[f]? = some fn) (hb : fn.body = some c) (hn : fn.ntmps = n) (hle : Nat.ble vs.length n = true)
    (h : ∀ (w0 : World) F, T ⟨P, fn, ⟨w0, m⟩, n, F, post⟩ [] (argFr 0 vs) pre c) : CTm m P f vs.toArray pre post := by
  refine t_fn hf hb ?_ ?_ h
  · have := Nat.le_of_ble_eq_true hle; simp [hn]; omega
  · intro i v e
    obtain ⟨_, e⟩ := look_argFr vs 0 i v e
    have hl : i < vs.length := by
      rcases Nat.lt_or_ge i vs.length with h | h
      · exact h
      · simp [List.getElem?_eq_none h] at e
    rw [Array.getElem?_append_left (by simpa using hl)]
    simpa using e

section code
variable {X : Cx} {k : List Kt} {fr : Fr} {L : List Asrt}

theorem t_seq {x y : Code} (h : T X (.code y :: k) fr L x) : T X k fr L (.seq x y) := fun a w ha hs hw =>
  wp_seq (wp_mono (h a w ha hs hw) fun e a' w' q => by cases e <;> exact q)

theorem t_skip (h : TE X k fr L .normal) : T X k fr L .skip := fun a w ha hs hw => wp_skip (h a w ha hs hw)
theorem t_ret (h : TE X [] fr L .ret) : T X k fr L .ret := fun a w ha hs hw => wp_ret (by rw [run_ret]; exact h a w ha hs hw)
theorem t_exit {id : Nat} (h : TE X k fr L (.exit id)) : T X k fr L (.exit id) := fun a w ha hs hw => wp_exit (h a w ha hs hw)
theorem t_block {id : Nat} {c : Code} (h : T X (.blk id :: k) fr L c) : T X k fr L (.block id c) := fun a w ha hs hw =>
  wp_block (wp_mono (h a w ha hs hw) fun e a' w' q => by
    cases e with
    | exit i =>
      by_cases hi : i = id
      · subst hi; simp only [run, if_true] at q; simp only [Exit.inBlock, if_true]; exact q
      · simp only [run, if_neg hi] at q; simp only [Exit.inBlock, if_neg hi]; exact q
    | _ => exact q)

theorem t_cond {c : Operand} {x y : Code} {b : Bool} (hc : ev fr c = some (.bool b)) (ht : b = true → T X k fr L x) (hf : b = false → T X k fr L y) :
    T X k fr L (.cond c x y) := fun a w ha hs hw => by
  refine wp_cond_split (t := b) (ha.ev hc) (fun h => ht h a w ha hs hw) (fun h => hf h a w ha hs hw)
theorem t_cond_true {c : Operand} {x y : Code} (hc : ev fr c = some (.bool true)) (ht : T X k fr L x) : T X k fr L (.cond c x y) :=
  t_cond hc (fun _ => ht) (fun h => by cases h)
theorem t_cond_false {c : Operand} {x y : Code} (hc : ev fr c = some (.bool false)) (ht : T X k fr L y) : T X k fr L (.cond c x y) :=
  t_cond hc (fun h => by cases h) (fun _ => ht)
theorem t_cond_dec {c : Operand} {x y : Code} {p : Prop} [Decidable p] (hc : ev fr c = some (.bool (decide p))) (ht : p → T X k fr L x) (hf : ¬ p → T X k fr L y) :
    T X k fr L (.cond c x y) := t_cond hc (fun h => ht (of_decide_eq_true h)) (fun h => hf (of_decide_eq_false h))

theorem te_code {c : Code} (h : T X k fr L c) : TE X (.code c :: k) fr L .normal := h
theorem te_blk {id : Nat} (h : TE X k fr L .normal) : TE X (.blk id :: k) fr L .normal := h
theorem te_rnd {J : Act → World → Prop} (h : ∀ a w, Agree X.n fr a → Same X.w0 w → Hold w (L ++ X.F) → J a w) : TE X (.rnd J :: k) fr L .normal := h
theorem te_exit_code {c : Code} {i : Nat} (h : TE X k fr L (.exit i)) : TE X (.code c :: k) fr L (.exit i) := h
theorem te_exit_rnd {J : Act → World → Prop} {i : Nat} (h : TE X k fr L (.exit i)) : TE X (.rnd J :: k) fr L (.exit i) := h
theorem te_exit_here {i : Nat} (h : TE X k fr L .normal) : TE X (.blk i :: k) fr L (.exit i) := fun a w ha hs hw => by
  simp only [run, if_true]; exact h a w ha hs hw
theorem te_exit_pass {i j : Nat} (hij : Nat.beq i j = false) (h : TE X k fr L (.exit i)) : TE X (.blk j :: k) fr L (.exit i) := fun a w ha hs hw => by
  have : i ≠ j := fun e => by subst e; simp [Nat.beq_refl] at hij
  simp only [run, if_neg this]; exact h a w ha hs hw

/-- fewer slots, other assertions -/
theorem T.conv {fr' : Fr} {L' : List Asrt} {c : Code} (h : T X k fr' L' c) (hfr : ∀ i v, look fr' i = some v → look fr i = some v) (hL : ∀ w, Hold w (L ++ X.F) → Hold w (L' ++ X.F)) : T X k fr L c :=
  fun a w ha hs hw => h a w (ha.sub hfr) hs (hL w hw)
theorem T.hold {c : Code} {L' : List Asrt} (h : T X k fr L' c) (hL : ∀ w, Hold w (L ++ X.F) → Hold w (L' ++ X.F)) : T X k fr L c :=
  fun a w ha hs hw => h a w ha hs (hL w hw)
theorem TE.hold {e : Exit} {L' : List Asrt} (h : TE X k fr L' e) (hL : ∀ w, Hold w (L ++ X.F) → Hold w (L' ++ X.F)) : TE X k fr L e :=
  fun a w ha hs hw => h a w ha hs (hL w hw)
theorem TL.hold {ops : Array Oper} {rest : List Oper} {L' : List Asrt} (h : TL X k ops fr L' rest) (hL : ∀ w, Hold w (L ++ X.F) → Hold w (L' ++ X.F)) : TL X k ops fr L rest :=
  fun a w ha hs hw => h a w ha hs (hL w hw)

/-- what a round ends in -/
def RndJ (X : Cx) {α : Type} (fI : α → Fr) (LI : α → List Asrt) (μ : α → Nat) (I : α → Prop) (x : α) : Act → World → Prop :=
  fun a w => ∃ y, μ y < μ x ∧ I y ∧ Agree X.n (fI y) a ∧ Same X.w0 w ∧ Hold w (LI y ++ X.F)

/-- The loop: a family of states x : α, from x0 on; each round ends in a state of a lesser measure, or leaves. -/
theorem t_loop {body : Code} {α : Type} (fI : α → Fr) (LI : α → List Asrt) (μ : α → Nat) (I : α → Prop) (x0 : α) (hI0 : I x0)
    (hfr : ∀ i v, look (fI x0) i = some v → look fr i = some v) (hL : ∀ w, Hold w (L ++ X.F) → Hold w (LI x0 ++ X.F))
    (round : ∀ x, I x → T X (.rnd (RndJ X fI LI μ I x) :: k) (fI x) (LI x) body) :
    T X k fr L (.loop body) := by
  intro a w ha hs hw
  refine wp_loop_ex (fun m a w => ∃ x, μ x = m ∧ I x ∧ Agree X.n (fI x) a ∧ Same X.w0 w ∧ Hold w (LI x ++ X.F)) (μ x0) ⟨x0, rfl, hI0, ha.sub hfr, hs, hL w hw⟩ ?_
  rintro m a w ⟨x, rfl, hx, h1, h2, h3⟩
  refine wp_mono (round x hx a w h1 h2 h3) fun e a' w' q => ?_
  cases e with
  | normal => obtain ⟨y, hy, r⟩ := q; exact ⟨μ y, hy, y, rfl, r⟩
  | _ => exact q
where
  wp_loop_ex {P : Program} {c : Code} {Q : Exit → Act → World → Prop} (I : Nat → Act → World → Prop) :
      ∀ (m : Nat) {a : Act} {w : World}, I m a w → (∀ m a w, I m a w → c.wp P (Exit.then (fun a' w' => ∃ m', m' < m ∧ I m' a' w') Q) a w) → (Code.loop c).wp P Q a w := by
    intro m a w h0 round b k cs
    have key : ∀ m a w, I m a w → ∃ e a' w', Q e a' w' ∧ Arrives P (lone (b.at a (.code c :: .inLoop c :: k)) cs w) b k cs e a' w' := by
      intro m
      induction m using Nat.strongRecOn with
      | _ m ih =>
        intro a w hI
        obtain ⟨e, a₁, w₁, hq, harr⟩ := round m a w hI b (.inLoop c :: k) cs
        cases e with
        | normal =>
          obtain ⟨m', hlt, hI₁⟩ := hq
          obtain ⟨e₂, a₂, w₂, hq₂, harr₂⟩ := ih m' hlt a₁ w₁ hI₁
          exact ⟨e₂, a₂, w₂, hq₂, .of_steps (Steps.trans harr (.one step_inLoop)) harr₂⟩
        | exit id => exact ⟨_, a₁, w₁, hq, .pass (x := .inLoop c) rfl (fun _ _ => .inl (by simp)) harr⟩
        | goto l => exact ⟨_, a₁, w₁, hq, .pass (x := .inLoop c) rfl (fun _ _ => .inl (by simp)) harr⟩
        | ret => exact ⟨_, a₁, w₁, hq, .pass (x := .inLoop c) rfl (fun _ _ => .inl (by simp)) harr⟩
        | panic ch => exact ⟨_, a₁, w₁, hq, .pass (x := .inLoop c) rfl (fun _ _ => .inl (by simp)) harr⟩
        | outgrown => exact ⟨_, a₁, w₁, hq, .pass (x := .inLoop c) rfl (fun _ _ => .inl (by simp)) harr⟩
    obtain ⟨e, a', w', hq, harr⟩ := key m a w h0
    exact ⟨e, a', w', hq, .of_steps (.one step_loop) harr⟩

theorem t_region {id : Nat} {ops : List Oper} (h : TL X k ops.toArray fr L ops) : T X k fr L (.region id ops.toArray false) := fun a w ha hs hw => wp_region_lit (h a w ha hs hw)

theorem tl_nil {ops : Array Oper} (h : TE X k fr L .normal) : TL X k ops fr L [] := fun a w ha hs hw => h a w ha hs hw

/-- the operation's value, whatever else is there -/
def Ev (X : Cx) (fr : Fr) (L : List Asrt) (o : Oper) (v : Value) : Prop :=
  ∀ a w, Agree X.n fr a → Hold w L → (execOp a.eval o).run X.P w = .ok (.value v) w

theorem tl_q {ops : Array Oper} {rest : List Oper} {d : Nat} {op : Op} {ty : TypeId} {pos : String} {af : Array Edge} {v : Value} (hd : Nat.blt d X.n = true)
    (he : Ev X fr (L ++ X.F) ⟨some d, op, ty, pos, af, none⟩ v) (h : TL X k ops ((d, v) :: fr) L rest) : TL X k ops fr L (⟨some d, op, ty, pos, af, none⟩ :: rest) := fun a w ha hs hw =>
  wpList_plain rfl fun K hK => by
    unfold Oper.wp
    rw [he a w ha hw]
    exact hK _ _ (h _ _ (ha.put v (Nat.le_of_ble_eq_true hd)) hs hw)

theorem tl_q_none {ops : Array Oper} {rest : List Oper} {op : Op} {ty : TypeId} {pos : String} {af : Array Edge} {v : Value}
    (he : Ev X fr (L ++ X.F) ⟨none, op, ty, pos, af, none⟩ v) (h : TL X k ops fr L rest) : TL X k ops fr L (⟨none, op, ty, pos, af, none⟩ :: rest) := fun a w ha hs hw =>
  wpList_plain rfl fun K hK => by
    unfold Oper.wp
    rw [he a w ha hw]
    exact hK _ _ (h _ _ ha hs hw)

/-- what a guard asks: the slot of operation j -/
theorem yielded_of {n : Nat} {fr : Fr} {a : Act} {ops : Array Oper} {j t : Nat} {b : Bool} (ha : Agree n fr a) (hj : (ops[j]?).bind (·.dst) = some t) (ht : look fr t = some (.bool b)) : yielded ops a.tmps j = some b := by
  simp [yielded, hj, ha.get t _ ht]

theorem tl_guard {ops : Array Oper} {rest : List Oper} {dst : Option Nat} {op : Op} {ty : TypeId} {pos : String} {af : Array Edge} {j t : Nat} {want b : Bool}
    (hj : (ops[j]?).bind (·.dst) = some t) (ht : look fr t = some (.bool b)) (hb : b = want)
    (h : TL X k ops fr L (⟨dst, op, ty, pos, af, none⟩ :: rest)) : TL X k ops fr L (⟨dst, op, ty, pos, af, some (j, want)⟩ :: rest) := fun a w ha hs hw => by
  have h1 := h a w ha hs hw
  have e := yielded_of ha hj ht
  subst hb
  unfold wpList at h1 ⊢
  rw [if_pos (by simp [Region.wanted])] at h1
  rw [if_pos (by simp [Region.wanted, e])]
  exact h1

theorem tl_guard_no {ops : Array Oper} {rest : List Oper} {d : Nat} {op : Op} {ty : TypeId} {pos : String} {af : Array Edge} {j t : Nat} {want b : Bool}
    (hd : Nat.blt d X.n = true) (hj : (ops[j]?).bind (·.dst) = some t) (ht : look fr t = some (.bool b)) (hb : b = !want)
    (h : TL X k ops ((d, undef) :: fr) L rest) : TL X k ops fr L (⟨some d, op, ty, pos, af, some (j, want)⟩ :: rest) := fun a w ha hs hw => by
  have e := yielded_of ha hj ht
  subst hb
  unfold wpList
  rw [if_neg (by simp [Region.wanted, e])]
  exact h _ _ (ha.put _ (Nat.le_of_ble_eq_true hd)) hs hw

theorem tl_guard_no_none {ops : Array Oper} {rest : List Oper} {op : Op} {ty : TypeId} {pos : String} {af : Array Edge} {j t : Nat} {want b : Bool}
    (hj : (ops[j]?).bind (·.dst) = some t) (ht : look fr t = some (.bool b)) (hb : b = !want)
    (h : TL X k ops fr L rest) : TL X k ops fr L (⟨none, op, ty, pos, af, some (j, want)⟩ :: rest) := fun a w ha hs hw => by
  have e := yielded_of ha hj ht
  subst hb
  unfold wpList
  rw [if_neg (by simp [Region.wanted, e])]
  exact h _ _ (ha.put_none _) hs hw

/-- an operation that may change the world: what is known behind it -/
def Eff (X : Cx) (fr : Fr) (L : List Asrt) (o : Oper) (post : Fr → List Asrt → Prop) : Prop :=
  ∀ (Q : Exit → Act → World → Prop), True → ∀ a w, Agree X.n fr a → Same X.w0 w → Hold w (L ++ X.F) →
    ∀ K : Act → World → Prop, (∀ fr' L', post fr' L' → ∀ a' w', Agree X.n fr' a' → Same X.w0 w' → Hold w' (L' ++ X.F) → K a' w') → o.wp X.P a w K Q ∨ (o.asks X.P a w ∧ LetsOut Q)


theorem tl_e {ops : Array Oper} {rest : List Oper} {dst : Option Nat} {op : Op} {ty : TypeId} {pos : String} {af : Array Edge} {post : Fr → List Asrt → Prop}
    (he : Eff X fr L ⟨dst, op, ty, pos, af, none⟩ post) (h : ∀ fr' L', post fr' L' → TL X k ops fr' L' rest) : TL X k ops fr L (⟨dst, op, ty, pos, af, none⟩ :: rest) := fun a w ha hs hw => by
  have := he (run X.P X.R k) trivial a w ha hs hw (wpList X.P ops (run X.P X.R k) rest) fun fr' L' hp a' w' h1 h2 h3 => h fr' L' hp a' w' h1 h2 h3
  unfold wpList
  rw [if_pos (by simp [Region.wanted])]
  exact this

/-! ### a region whose order is drawn: S is what the loads lean on -/

def TR (X : Cx) (k : List Kt) (ops : Array Oper) (S : List Asrt) (fuel : Nat) (listed : Array Bool) (fr : Fr) (L : List Asrt) : Prop :=
  ∀ a w, Agree X.n fr a → Same X.w0 w → Hold w (L ++ X.F) → wpAnyH X.P .any ops (run X.P X.R k) (fun w => Hold w S) fuel listed a w

theorem t_region_drawn {id : Nat} {ops : Array Oper} (S : List Asrt) (hm : X.P.follows .mixedOrders = true)
    (h : TR X k ops S ops.size (Array.replicate ops.size false) fr L) : T X k fr L (.region id ops true) := fun a _ ha hs hw =>
  wp_region_held hm (h a _ ha hs.drew (hw.heap rfl))

theorem run_panic_put (X : Cx) (k : List Kt) (c : List PanicEntry) (a : Act) (d : Option Nat) (v : Value) (w : World) : run X.P X.R k (.panic c) (a.put d v) w → run X.P X.R k (.panic c) a w := by
  rw [run_panic]
  intro h
  cases d <;> exact h

theorem tr_q {ops : Array Oper} {S : List Asrt} {fuel : Nat} {listed : Array Bool} (i : Nat) {d : Nat} {op : Op} {ty : TypeId} {pos : String} {af : Array Edge} {v : Value}
    (hi : ops[i]? = some ⟨some d, op, ty, pos, af, none⟩) (hs : Region.noSelect ops = true) (hf : Region.free .any ops listed i = true) (hr : (Region.ready .any ops listed).contains i = true)
    (hd : Nat.blt d X.n = true) (hS : ∀ w, Hold w (L ++ X.F) → Hold w S) (he : Ev X fr S ⟨some d, op, ty, pos, af, none⟩ v)
    (h : TR X k ops S fuel (listed.setIfInBounds i true) ((d, v) :: fr) L) : TR X k ops S (fuel + 1) listed fr L := fun a _ ha hsm hw =>
  wpAnyH_take hi hs hf hr (fun c a w => run_panic_put X k c a _ v w) (.inl ⟨rfl, fun w' hw' => he a w' ha hw'⟩) (hS _ hw) (h _ _ (ha.put v (Nat.le_of_ble_eq_true hd)) hsm hw)

/-- guarded, the guard says yes -/
theorem tr_qg {ops : Array Oper} {S : List Asrt} {fuel : Nat} {listed : Array Bool} (i : Nat) {d : Nat} {op : Op} {ty : TypeId} {pos : String} {af : Array Edge} {v : Value} {j t : Nat} {want b : Bool}
    (hi : ops[i]? = some ⟨some d, op, ty, pos, af, some (j, want)⟩) (hs : Region.noSelect ops = true) (hf : Region.free .any ops listed i = true) (hr : (Region.ready .any ops listed).contains i = true)
    (hd : Nat.blt d X.n = true) (hj : (ops[j]?).bind (·.dst) = some t) (ht : look fr t = some (.bool b)) (hb : b = want)
    (hS : ∀ w, Hold w (L ++ X.F) → Hold w S) (he : Ev X fr S ⟨some d, op, ty, pos, af, none⟩ v)
    (h : TR X k ops S fuel (listed.setIfInBounds i true) ((d, v) :: fr) L) : TR X k ops S (fuel + 1) listed fr L := fun a w ha hsm hw => by
  have e := yielded_of ha hj ht
  subst hb
  exact wpAnyH_take hi hs hf hr (fun c a w => run_panic_put X k c a _ v w) (.inl ⟨by simp [Region.wanted, e], fun w' hw' => he a w' ha hw'⟩) (hS w hw) (h _ _ (ha.put v (Nat.le_of_ble_eq_true hd)) hsm hw)

/-- guarded, the guard says no -/
theorem tr_no {ops : Array Oper} {S : List Asrt} {fuel : Nat} {listed : Array Bool} (i : Nat) {d : Nat} {op : Op} {ty : TypeId} {pos : String} {af : Array Edge} {j t : Nat} {want b : Bool}
    (hi : ops[i]? = some ⟨some d, op, ty, pos, af, some (j, want)⟩) (hs : Region.noSelect ops = true) (hf : Region.free .any ops listed i = true) (hr : (Region.ready .any ops listed).contains i = true)
    (hd : Nat.blt d X.n = true) (hj : (ops[j]?).bind (·.dst) = some t) (ht : look fr t = some (.bool b)) (hb : b = !want)
    (hS : ∀ w, Hold w (L ++ X.F) → Hold w S)
    (h : TR X k ops S fuel (listed.setIfInBounds i true) ((d, undef) :: fr) L) : TR X k ops S (fuel + 1) listed fr L := fun a w ha hsm hw => by
  have e := yielded_of ha hj ht
  subst hb
  exact wpAnyH_take hi hs hf hr (fun c a w => run_panic_put X k c a _ undef w) (.inr ⟨by simp [Region.wanted, e], rfl⟩) (hS w hw) (h _ _ (ha.put undef (Nat.le_of_ble_eq_true hd)) hsm hw)

/-- the one that can come next does something -/
theorem tr_e {ops : Array Oper} {S : List Asrt} {fuel : Nat} {listed : Array Bool} (i : Nat) {dst : Option Nat} {op : Op} {ty : TypeId} {pos : String} {af : Array Edge} {post : Fr → List Asrt → Prop}
    (hi : ops[i]? = some ⟨dst, op, ty, pos, af, none⟩) (hr : Region.ready .any ops listed = [i])
    (he : Eff X fr L ⟨dst, op, ty, pos, af, none⟩ post) (hS : ∀ fr' L', post fr' L' → ∀ w, Hold w (L' ++ X.F) → Hold w S)
    (h : ∀ fr' L', post fr' L' → TR X k ops S fuel (listed.setIfInBounds i true) fr' L') : TR X k ops S (fuel + 1) listed fr L := fun a w ha hsm hw => by
  refine wpAnyH_all hr (by simp) fun j hj => ?_
  simp at hj; subst hj
  unfold wpOp
  simp only [hi]
  rw [if_pos (by simp [Region.wanted])]
  exact he _ trivial a w ha hsm hw _ fun fr' L' hp a' w' h1 h2 h3 => ⟨hS fr' L' hp w' h3, h fr' L' hp a' w' h1 h2 h3⟩

/-- one of two that can come next -/
theorem tr_two {ops : Array Oper} {S : List Asrt} {fuel : Nat} {listed : Array Bool} (i j : Nat) {dst dst' : Option Nat} {op op' : Op} {ty ty' : TypeId} {pos pos' : String} {af af' : Array Edge} {post post' : Fr → List Asrt → Prop}
    (hi : ops[i]? = some ⟨dst, op, ty, pos, af, none⟩) (hj : ops[j]? = some ⟨dst', op', ty', pos', af', none⟩) (hr : Region.ready .any ops listed = [i, j])
    (he : Eff X fr L ⟨dst, op, ty, pos, af, none⟩ post) (hS : ∀ fr' L', post fr' L' → ∀ w, Hold w (L' ++ X.F) → Hold w S)
    (he' : Eff X fr L ⟨dst', op', ty', pos', af', none⟩ post') (hS' : ∀ fr' L', post' fr' L' → ∀ w, Hold w (L' ++ X.F) → Hold w S)
    (h : ∀ fr' L', post fr' L' → TR X k ops S fuel (listed.setIfInBounds i true) fr' L')
    (h' : ∀ fr' L', post' fr' L' → TR X k ops S fuel (listed.setIfInBounds j true) fr' L') : TR X k ops S (fuel + 1) listed fr L := fun a w ha hsm hw => by
  refine wpAnyH_all hr (by simp) fun m hm => ?_
  simp at hm
  rcases hm with rfl | rfl
  · unfold wpOp
    simp only [hi]
    rw [if_pos (by simp [Region.wanted])]
    exact he _ trivial a w ha hsm hw _ fun fr' L' hp a' w' h1 h2 h3 => ⟨hS fr' L' hp w' h3, h fr' L' hp a' w' h1 h2 h3⟩
  · unfold wpOp
    simp only [hj]
    rw [if_pos (by simp [Region.wanted])]
    exact he' _ trivial a w ha hsm hw _ fun fr' L' hp a' w' h1 h2 h3 => ⟨hS' fr' L' hp w' h3, h' fr' L' hp a' w' h1 h2 h3⟩

theorem tr_done {ops : Array Oper} {S : List Asrt} {fuel : Nat} {listed : Array Bool} (hr : Region.ready .any ops listed = [])
    (h : TE X k fr L .normal) : TR X k ops S fuel listed fr L := fun a w ha hsm hw => wpAnyH_done hr (h a w ha hsm hw) fuel

/-! ### the end -/

theorem te_end {v : Value} (hR : ∀ a w, Agree X.n fr a → Hold w (L ++ X.F) → (results X.fn a.tmps).run X.P w = .ok v w) (hp : X.post v L) : TE X [] fr L .normal := fun a w ha hs hw =>
  ⟨ha.defers, v, hR a w ha hw, hs, L, hp, hw⟩
theorem te_ret {v : Value} (hR : ∀ a w, Agree X.n fr a → Hold w (L ++ X.F) → (results X.fn a.tmps).run X.P w = .ok v w) (hp : X.post v L) : TE X [] fr L .ret := fun a w ha hs hw =>
  ⟨ha.defers, v, hR a w ha hw, hs, L, hp, hw⟩

theorem res0 (h : X.fn.results = #[]) : ∀ a w, Agree X.n fr a → Hold w (L ++ X.F) → (results X.fn a.tmps).run X.P w = .ok (.tuple #[]) w := fun _ _ _ _ => results_none h _ _ _
theorem res1 {t : Nat} {v : Value} (h : X.fn.results = #[.tmp t]) (ht : look fr t = some v) : ∀ a w, Agree X.n fr a → Hold w (L ++ X.F) → (results X.fn a.tmps).run X.P w = .ok v w := fun a w ha _ => by
  rw [results_tmp h]; simp [ha.get t v ht]
theorem res2 {t u : Nat} {v x : Value} (h : X.fn.results = #[.tmp t, .tmp u]) (ht : look fr t = some v) (hu : look fr u = some x) : ∀ a w, Agree X.n fr a → Hold w (L ++ X.F) → (results X.fn a.tmps).run X.P w = .ok (.tuple #[v, x]) w := fun a w ha _ => by
  rw [results_tmp2 h]; simp [ha.get t v ht, ha.get u x hu]

/-! ### calls -/

theorem eff_call {m : Bool} {d : Nat} {f : FuncId} {cargs : Array Operand} {vs : List Value} {tys : Array TypeId} {ty : TypeId} {pos : String} {af : Array Edge} {pre F : List Asrt} {post : Value → List Asrt → Prop}
    (hm : (!X.w0.m || m) = true) (hd : Nat.blt d X.n = true) (hbody : (X.P.funcs[f]?).map (fun fn => fn.body.isSome && !(fn.name == "runtime.NumGoroutine")) = some true)
    (hargs : evL fr cargs.toList = some vs) (hF : Frm L pre F) (hc : CTm m X.P f vs.toArray pre post) :
    Eff X fr L ⟨some d, .call ⟨.value (.func f), cargs, tys⟩, ty, pos, af, none⟩ (fun fr' L' => ∃ v M, post v M ∧ fr' = (d, v) :: fr ∧ L' = M ++ F) := by
  intro Q hQ a w ha hs hw K hK
  left
  have harg : cargs.map a.eval = vs.toArray := by
    have h1 := ha.evL cargs.toList vs hargs
    apply Array.toList_inj.1; simp [h1]
  obtain ⟨fn, hfn, hb⟩ := Option.map_eq_some_iff.1 hbody
  simp only [Bool.and_eq_true, Bool.not_eq_true'] at hb
  have hnone : fn.body ≠ none := by intro h; rw [h] at hb; exact absurd hb.1 (by simp)
  have hname : fn.name ≠ "runtime.NumGoroutine" := by simpa using hb.2
  have hex : (execOp a.eval ⟨some d, .call ⟨.value (.func f), cargs, tys⟩, ty, pos, af, none⟩).run X.P w = .ok (.enter f vs.toArray) w := by
    simp [execOp, resolve, Act.eval, Deferred.ofValue, invoke, callFunc, program, Sem.run, harg, hfn, hname, hnone]
  unfold Oper.wp
  rw [hex]
  show Calls X.P f vs.toArray w _
  have hw' : Hold w (pre ++ (F ++ X.F)) := by
    refine hw.perm ?_
    have := List.Perm.append_right X.F hF.perm
    rwa [List.append_assoc] at this
  refine Calls.mono (hc w (F ++ X.F) hw') fun e w' he => ?_
  cases e with
  | returned v =>
    obtain ⟨hs', M, hp, hM⟩ := he
    exact hK _ _ ⟨v, M, hp, rfl, rfl⟩ _ _ (ha.put v (Nat.le_of_ble_eq_true hd)) (hs.trans hs' hm) (by rw [List.append_assoc]; exact hM)
  | panicked c => exact he.elim
  | outgrown => exact he.elim
end code
end Go.SL
