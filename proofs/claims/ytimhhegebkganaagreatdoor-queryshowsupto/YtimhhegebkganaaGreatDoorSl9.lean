/- The logic: results that lie in memory. -/
import Derived.Test.YtimhhegebkganaaGreatDoorSl8
set_option linter.unusedSimpArgs false
set_option linter.unusedVariables false
namespace Go.SL

def resOf (tmps : Array Value) : ResultVar → Sem Value
  | .tmp t => pure (tmps.getD t undef)
  | .cell a t => do loadVar t (← asAddr (tmps.getD a undef))

def resV : List Value → Value
  | [v] => v
  | vs => .tuple vs.toArray

section
variable {X : Cx} {fr : Fr} {L : List Asrt}

def ResIs (X : Cx) (fr : Fr) (L : List Asrt) (r : ResultVar) (v : Value) : Prop := ∀ a w, Agree X.n fr a → Hold w L → (resOf a.tmps r).run X.P w = .ok v w

inductive RL (X : Cx) (fr : Fr) (L : List Asrt) : List ResultVar → List Value → Prop
  | nil : RL X fr L [] []
  | cons {r : ResultVar} {v : Value} {rs : List ResultVar} {vs : List Value} : ResIs X fr L r v → RL X fr L rs vs → RL X fr L (r :: rs) (v :: vs)

theorem resIs_tmp {t : Nat} {v : Value} (h : look fr t = some v) : ResIs X fr L (.tmp t) v := fun a w ha _ => by simp [resOf, ha.get t v h]
theorem resIs_cell {t T : Nat} {v : Value} {x : Operand} (h : Ev X fr L ⟨none, .load T (.tmp t), 0, "", #[], none⟩ v) (p : Addr) (hp : look fr t = some (.pointer (some p))) : ResIs X fr L (.cell t T) v := fun a w ha hw => by
  have h1 := h a w ha hw
  have h2 : a.eval (.tmp t) = .pointer (some p) := ha.ev hp
  simp only [execOp, h2, Instr.loadAt, Instr.sureAddr, Sem.run_bind, Sem.run_pure, Result.andThen_ok] at h1
  have h3 : a.tmps.getD t undef = .pointer (some p) := h2
  simp only [resOf, h3, asAddr, Sem.run_bind, Sem.run_pure, Result.andThen_ok]
  cases hr : (loadVar T p).run X.P w with
  | ok u w' => rw [hr] at h1; simp at h1; rw [h1.1, h1.2]
  | halt q w' => rw [hr] at h1; simp at h1

theorem run_resL {rs : List ResultVar} {vs : List Value} (h : RL X fr L rs vs) {a : Act} {w : World} (ha : Agree X.n fr a) (hw : Hold w L) : (rs.mapM (resOf a.tmps)).run X.P w = .ok vs w := by
  induction h with
  | nil => simp
  | cons h _ ih => rw [List.mapM_cons, Sem.run_bind, h a w ha hw]; simp only [Result.andThen_ok]; rw [Sem.run_bind, ih]; rfl

theorem resx {rs : List ResultVar} {vs : List Value} (h : X.fn.results = rs.toArray) (hr : RL X fr (L ++ X.F) rs vs) : ∀ a w, Agree X.n fr a → Hold w (L ++ X.F) → (results X.fn a.tmps).run X.P w = .ok (resV vs) w := fun a w ha hw => by
  have h1 := run_resL hr ha hw
  have e : results X.fn a.tmps = (do
      let vs ← X.fn.results.mapM (resOf a.tmps)
      pure (if h : vs.size = 1 then vs[0] else .tuple vs)) := by
    unfold results
    congr 1
  rw [e, h, List.mapM_toArray]
  simp only [Sem.run_bind, Sem.run_map, h1, Result.andThen_ok, Sem.run_pure]
  congr 1
  cases vs with
  | nil => rfl
  | cons v vs =>
    cases vs with
    | nil => rfl
    | cons u vs => simp [resV]
end
end Go.SL
namespace Go.SL
section
variable {X : Cx} {k : List Kt} {fr : Fr} {L : List Asrt} {K V : Type}
theorem tl_mpnew (kE : K → Value) (vE : V → Value) {ops : Array Oper} {rest : List Oper} {b : Nat} (h : TL X k ops fr (mp kE vE b [] :: L) rest) : TL X k ops fr (blk b (.map #[] 0) :: L) rest := h.hold fun _ hw => hold_mp_new kE vE hw
theorem tr_mpnew (kE : K → Value) (vE : V → Value) {ops : Array Oper} {S : List Asrt} {fuel : Nat} {listed : Array Bool} {b : Nat} (h : TR X k ops S fuel listed fr (mp kE vE b [] :: L)) : TR X k ops S fuel listed fr (blk b (.map #[] 0) :: L) := fun a w ha hs hw => h a w ha hs (hold_mp_new kE vE hw)
end
end Go.SL
namespace Go.SL
section
variable {X : Cx} {fr : Fr} {L pre F : List Asrt} {v : Value}
theorem te_ret_k (hR : ∀ a w, Agree X.n fr a → Hold w (L ++ X.F) → (results X.fn a.tmps).run X.P w = .ok v w) (f : Frm L pre F) (hp : X.post v pre) : TE X [] fr L .ret := fun a w ha hs hw =>
  ⟨ha.defers, v, hR a w ha hw, hs, pre, hp, hold_keep f hw⟩
theorem te_end_k (hR : ∀ a w, Agree X.n fr a → Hold w (L ++ X.F) → (results X.fn a.tmps).run X.P w = .ok v w) (f : Frm L pre F) (hp : X.post v pre) : TE X [] fr L .normal := fun a w ha hs hw =>
  ⟨ha.defers, v, hR a w ha hw, hs, pre, hp, hold_keep f hw⟩
end
end Go.SL
namespace Go.SL
section
variable {X : Cx} {k : List Kt} {fr : Fr} {L : List Asrt}
theorem yielded_undef {n : Nat} {fr : Fr} {a : Act} {ops : Array Oper} {j t : Nat} (ha : Agree n fr a) (hj : (ops[j]?).bind (·.dst) = some t) (ht : look fr t = some undef) : yielded ops a.tmps j = none := by
  simp [yielded, hj, ha.get t _ ht, undef]
theorem tl_guard_un {ops : Array Oper} {rest : List Oper} {d : Nat} {op : Op} {ty : TypeId} {pos : String} {af : Array Edge} {j t : Nat} {want : Bool}
    (hd : Nat.blt d X.n = true) (hj : (ops[j]?).bind (·.dst) = some t) (ht : look fr t = some undef)
    (h : TL X k ops ((d, undef) :: fr) L rest) : TL X k ops fr L (⟨some d, op, ty, pos, af, some (j, want)⟩ :: rest) := fun a w ha hs hw => by
  have e := yielded_undef ha hj ht
  unfold wpList
  rw [if_neg (by simp [Region.wanted, e])]
  exact h _ _ (ha.put _ (Nat.le_of_ble_eq_true hd)) hs hw
theorem tr_un {ops : Array Oper} {S : List Asrt} {fuel : Nat} {listed : Array Bool} (i : Nat) {d : Nat} {op : Op} {ty : TypeId} {pos : String} {af : Array Edge} {j t : Nat} {want : Bool}
    (hi : ops[i]? = some ⟨some d, op, ty, pos, af, some (j, want)⟩) (hs : Region.noSelect ops = true) (hf : Region.free .any ops listed i = true) (hr : (Region.ready .any ops listed).contains i = true)
    (hd : Nat.blt d X.n = true) (hj : (ops[j]?).bind (·.dst) = some t) (ht : look fr t = some undef)
    (hS : ∀ w, Hold w (L ++ X.F) → Hold w S)
    (h : TR X k ops S fuel (listed.setIfInBounds i true) ((d, undef) :: fr) L) : TR X k ops S (fuel + 1) listed fr L := fun a w ha hsm hw => by
  have e := yielded_undef ha hj ht
  exact wpAnyH_take hi hs hf hr (fun c a w => run_panic_put X k c a _ undef w) (.inr ⟨by simp [Region.wanted, e], rfl⟩) (hS w hw) (h _ _ (ha.put undef (Nat.le_of_ble_eq_true hd)) hsm hw)
end
end Go.SL
namespace Go.SL
theorem Hold.nil_arr {α : Type} {w : World} {L : List Asrt} (h : Hold w L) (T : TypeId) (sz : Nat) (enc : α → List Value) : Hold w (arr T sz enc (.slice none 0 0) [] :: L) := by
  obtain ⟨I, f, hI, hh, dd, s⟩ := h
  exact ⟨I, f, hI, hh, dd, _, _, Join.empty f, .inl ⟨rfl, none, rfl⟩, s⟩
section
variable {X : Cx} {k : List Kt} {fr : Fr} {L : List Asrt} {α : Type}
theorem te_nil_arr (T : TypeId) (sz : Nat) (enc : α → List Value) {e : Exit} (h : TE X k fr (arr T sz enc (.slice none 0 0) [] :: L) e) : TE X k fr L e := h.hold fun _ hw => Hold.nil_arr hw T sz enc
theorem t_nil_arr (U : TypeId) (sz : Nat) (enc : α → List Value) {c : Code} (h : T X k fr (arr U sz enc (.slice none 0 0) [] :: L) c) : T X k fr L c := h.hold fun _ hw => Hold.nil_arr hw U sz enc
theorem size_extract (s : ByteArray) (a b : Nat) (h : b ≤ s.size) : (s.extract a b).size = b - a := by
  simp [ByteArray.size_extract]; omega
end
end Go.SL
namespace Go.SL
section
variable {X : Cx} {k : List Kt} {fr : Fr} {L : List Asrt} {ty : TypeId} {pos : String} {af : Array Edge}
variable {K V : Type} [DecidableEq K] {kE : K → Value} {vE : V → Value}
omit [DecidableEq K] in
theorem eff_clear {t kt et b : Nat} {tys : Array TypeId} {m : Operand} {al : List (K × V)} {M : List Asrt} (ht : IsMap X.P t kt et)
    (hm : ev fr m = some (.map (some b))) (hu : Upd L (mp kE vE b al) (mp kE vE b []) M) (hty : tys[0]? = some t) :
    Eff X fr L ⟨none, .call ⟨.builtin .clear, #[m], tys⟩, ty, pos, af, none⟩ (fun fr' L' => fr' = fr ∧ L' = M) := by
  intro Q hQ a w ha hs hw K0 hK
  left
  obtain ⟨N, h1, h2⟩ := hu.hold hw
  obtain ⟨es, clk, h1, r⟩ := h1.mp_get
  have hb := h1.blk_get
  have hr : (execOp a.eval ⟨none, .call ⟨.builtin .clear, #[m], tys⟩, ty, pos, af, none⟩).run X.P w = .ok (.value (.tuple #[])) (World.put w b (.map #[] clk)) := by
    simp [execOp, resolve, ha.ev hm, invoke, builtin, Builtin.clear_, hty, ht w, run_getObj hb, run_setObj hb]
  unfold Oper.wp
  rw [hr]
  exact hK _ _ ⟨rfl, rfl⟩ _ _ ha (same_put hs) (h2 _ (Hold.mp_mk (h1.put _) ⟨rfl, by simp, by simp, by simp⟩))
omit [DecidableEq K] in
theorem te_nodup {e : Exit} {b : Nat} {al : List (K × V)} (h : mp kE vE b al ∈ L) (g : (al.map (·.1)).Nodup → TE X k fr L e) : TE X k fr L e := fun a w ha hs hw => by
  obtain ⟨es, clk, _, r⟩ := hw.left.mp_mem h
  exact g r.keys a w ha hs hw
omit [DecidableEq K] in
theorem t_nodup {c : Code} {b : Nat} {al : List (K × V)} (h : mp kE vE b al ∈ L) (g : (al.map (·.1)).Nodup → T X k fr L c) : T X k fr L c := fun a w ha hs hw => by
  obtain ⟨es, clk, _, r⟩ := hw.left.mp_mem h
  exact g r.keys a w ha hs hw
end
end Go.SL
