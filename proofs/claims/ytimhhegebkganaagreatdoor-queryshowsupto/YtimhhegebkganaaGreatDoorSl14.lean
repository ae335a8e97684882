/- Functions and interfaces held against nil; frames of contracts; parts of slices that are shared. -/
import Derived.Test.YtimhhegebkganaaGreatDoorSl13
set_option linter.unusedSimpArgs false
set_option linter.unusedVariables false
namespace Go.SL
section quiet
variable {X : Cx} {fr : Fr} {L : List Asrt} {dst : Option Nat} {ty : TypeId} {pos : String} {af : Array Edge} {x y : Operand} {xt yt : TypeId}
def IsFun (P : Program) (t : TypeId) : Prop := ∃ a b c, P.underlying t = some (.func a b c)
def IsIfc (P : Program) (t : TypeId) : Prop := ∃ a, P.underlying t = some (.interface a)
def nilF : Value → Option Bool
  | .func _ _ _ => some false
  | .nilFunc => some true
  | _ => none
theorem run_eq_nilFun {P : Program} {t : TypeId} {v : Value} {b : Bool} (ht : IsFun P t) (hv : nilF v = some b) (w : World) : (Op.equal t v .nilFunc).run P w = .ok b w := by
  obtain ⟨a1, a2, a3, ht⟩ := ht
  have hu := run_underlying ht w
  unfold Op.equal Op.maxDepth
  rw [show (10000 : Nat) = 9999 + 1 from rfl]
  unfold Op.equalIn
  cases v <;> simp [nilF] at hv <;> subst hv <;> simp only [Sem.run_bind, hu, Result.andThen_ok, Sem.run_pure]
theorem ev_fun_eql {v : Value} {b : Bool} (ht : IsFun X.P xt) (hx : ev fr x = some v) (hy : ev fr y = some .nilFunc) (hv : nilF v = some b) : Ev X fr L ⟨dst, .binOp .eql xt x y yt, ty, pos, af, none⟩ (.bool b) := fun a w ha _ => by
  have hg : ∀ a b, (eqGuard .eql xt a b v .nilFunc).run X.P w = .ok () w := fun a b => by unfold eqGuard; simp
  have := run_eq_nilFun ht hv w
  cases v <;> simp [nilF] at hv <;> subst hv <;> simp [execOp, ha.ev hx, ha.ev hy, hg, binOp, this]
theorem ev_fun_neq {v : Value} {b : Bool} (ht : IsFun X.P xt) (hx : ev fr x = some v) (hy : ev fr y = some .nilFunc) (hv : nilF v = some b) : Ev X fr L ⟨dst, .binOp .neq xt x y yt, ty, pos, af, none⟩ (.bool (!b)) := fun a w ha _ => by
  have hg : ∀ a b, (eqGuard .neq xt a b v .nilFunc).run X.P w = .ok () w := fun a b => by unfold eqGuard; simp
  have := run_eq_nilFun ht hv w
  cases v <;> simp [nilF] at hv <;> subst hv <;> simp [execOp, ha.ev hx, ha.ev hy, hg, binOp, this]
theorem run_eq_nilIfc {P : Program} {t : TypeId} (ht : IsIfc P t) (w : World) : (Op.equal t .nilIface .nilIface).run P w = .ok true w := by
  obtain ⟨a1, ht⟩ := ht
  have hu := run_underlying ht w
  unfold Op.equal Op.maxDepth
  rw [show (10000 : Nat) = 9999 + 1 from rfl]
  unfold Op.equalIn
  simp only [Sem.run_bind, hu, Result.andThen_ok, Sem.run_pure]
theorem ev_ifc_eql (ht : IsIfc X.P xt) (hx : ev fr x = some .nilIface) : Ev X fr L ⟨dst, .binOp .eql xt x (.const .nilIface) yt, ty, pos, af, none⟩ (.bool true) := fun a w ha _ => by
  have hg : (eqGuard .eql xt x (.const .nilIface) .nilIface .nilIface).run X.P w = .ok () w := by unfold eqGuard; simp
  have hy : a.eval (.const .nilIface) = .nilIface := rfl
  have := run_eq_nilIfc ht w
  simp [execOp, ha.ev hx, hy, hg, binOp, this]
end quiet

/-- a contract with a frame -/
theorem CTm.frame {m : Bool} {P : Program} {f : FuncId} {args : Array Value} {pre : List Asrt} {post : Value → List Asrt → Prop} (h : CTm m P f args pre post) (F0 : List Asrt) : CTm m P f args (pre ++ F0) (fun v M => ∃ M0, post v M0 ∧ M = M0 ++ F0) := fun w F hw =>
  Calls.mono (h w (F0 ++ F) (by rw [← List.append_assoc]; exact hw)) fun e w' he => by
    cases e with
    | returned v =>
      obtain ⟨hs, L, hp, hh⟩ := he
      exact ⟨hs, _, ⟨L, hp, rfl⟩, by rw [List.append_assoc]; exact hh⟩
    | panicked c => exact he
    | outgrown => exact he
/-- other assertions on both sides -/
theorem CTm.conv {m : Bool} {P : Program} {f : FuncId} {args : Array Value} {pre pre' : List Asrt} {post post' : Value → List Asrt → Prop} (h : CTm m P f args pre post) (h1 : ∀ w F, Hold w (pre' ++ F) → Hold w (pre ++ F))
    (h2 : ∀ v M, post v M → ∃ M', post' v M' ∧ ∀ w F, Hold w (M ++ F) → Hold w (M' ++ F)) : CTm m P f args pre' post' := fun w F hw =>
  Calls.mono (h w F (h1 w F hw)) fun e w' he => by
    cases e with
    | returned v =>
      obtain ⟨hs, L, hp, hh⟩ := he
      obtain ⟨M', hp', hM⟩ := h2 v L hp
      exact ⟨hs, _, hp', hM _ _ hh⟩
    | panicked c => exact he
    | outgrown => exact he
theorem CTm.weak {P : Program} {f : FuncId} {args : Array Value} {pre : List Asrt} {post : Value → List Asrt → Prop} (h : CTm true P f args pre post) : CTm false P f args pre post := fun w F hw =>
  Calls.mono (h w F hw) fun e w' he => by
    cases e with
    | returned v => exact ⟨⟨he.1.1, he.1.2.1, he.1.2.2.1, fun e => nomatch e⟩, he.2⟩
    | panicked c => exact he
    | outgrown => exact he

/-- a slice of one's own that is shared from now on, and a part of it -/
theorem Hold.arr_sub {α : Type} {w : World} {T sz : Nat} {enc : α → List Value} {a : Option Addr} {len cap l : Nat} {xs : List α} {L : List Asrt} (hE : ∀ x, (enc x).length = sz) (s : Hold w (arr T sz enc (.slice a len cap) xs :: L)) (hl : l ≤ xs.length) :
    Hold w (iarr sz enc (.slice (if cap = l then a else a.map (·.add (l * sz))) (len - l) (cap - l)) (xs.drop l) :: L) := by
  obtain ⟨I, h, hi, hh, hd, h1, h2, j, p, s⟩ := s
  rcases p with ⟨rfl, a', e⟩ | ⟨b, cap', spare, e, q1, q2, q3⟩
  · cases e
    have hl0 : l = 0 := by simpa using hl
    subst hl0
    exact ⟨I, h, hi, hh, hd, h1, h2, j, .inl ⟨rfl, _, _, rfl⟩, s⟩
  · cases e
    have hb : Hold w (blk b (.cells (xs.flatMap enc ++ spare).toArray T (0, 0)) :: L) := ⟨I, h, hi, hh, hd, h1, h2, j, q3, s⟩
    obtain ⟨I, h, hi, hh, hd, h1, h2, j, p, s⟩ := hb.freeze
    refine ⟨I, h, hi, hh, hd, h1, h2, j, ?_, s⟩
    by_cases hx : xs.length = l
    · left
      refine ⟨by rw [← hx]; exact List.drop_length, ?_⟩
      rw [hx, Nat.sub_self]
      exact ⟨_, _, rfl⟩
    · right
      have hfl := flat_len hE xs
      have hcl : cap ≠ l := by omega
      refine ⟨b, l * sz, cap - l, ?_, _, _, _, p, fun i hii => ?_⟩
      · rw [if_neg hcl]
        simp [addr_add]
      · rw [List.length_drop, Nat.sub_mul] at hii
        rw [List.getElem?_toArray, ← flat_drop hE, List.getElem?_drop, List.getElem?_append_left (by omega)]
theorem tl_sub {α : Type} {X : Cx} {k : List Kt} {fr : Fr} {L M : List Asrt} {T sz : Nat} {enc : α → List Value} {a : Option Addr} {len cap : Nat} {xs : List α} {ops : Array Oper} {rest : List Oper} (l : Nat) (hE : ∀ x, (enc x).length = sz) (hl : l ≤ xs.length) (ht : Take L (arr T sz enc (.slice a len cap) xs) M)
    (h : TL X k ops fr (iarr sz enc (.slice (if cap = l then a else a.map (·.add (l * sz))) (len - l) (cap - l)) (xs.drop l) :: M) rest) : TL X k ops fr L rest := h.hold fun w hw => by
  have hh1 : Hold w (arr T sz enc (.slice a len cap) xs :: (M ++ X.F)) := by
    have := hw.perm (List.Perm.append_right X.F ht.perm)
    simpa using this
  exact hh1.arr_sub hE hl
/-- what is owned is shared from now on -/
theorem tl_freeze {X : Cx} {k : List Kt} {fr : Fr} {L M : List Asrt} {b : Nat} {o : Obj} {ops : Array Oper} {rest : List Oper} (ht : Take L (blk b o) M) (h : TL X k ops fr (imm b o :: M) rest) : TL X k ops fr L rest := h.hold fun w hw => by
  have hh1 : Hold w (blk b o :: (M ++ X.F)) := by
    have := hw.perm (List.Perm.append_right X.F ht.perm)
    simpa using this
  exact hh1.freeze
theorem tl_pur1 {X : Cx} {k : List Kt} {fr : Fr} {L : List Asrt} {ops : Array Oper} {rest : List Oper} (h : TL X k ops fr (pur True :: L) rest) : TL X k ops fr L rest := h.hold fun _ hw => Hold.pur_mk trivial hw
theorem tl_fold {X : Cx} {k : List Kt} {fr : Fr} {L F : List Asrt} (pre : List Asrt) {ops : Array Oper} {rest : List Oper} (f : Frm L pre F) (h : TL X k ops fr (sep pre :: F) rest) : TL X k ops fr L rest := h.hold fun w hw => by
  have h1 : Hold w (pre ++ (F ++ X.F)) := by
    have := hw.perm (List.Perm.append_right X.F f.perm)
    rwa [List.append_assoc] at this
  exact Hold.sep_mk h1
end Go.SL
