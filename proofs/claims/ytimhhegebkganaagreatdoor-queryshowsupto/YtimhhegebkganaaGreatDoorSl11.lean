/- Rounds of a range over a function; walks over a map. -/
import Derived.Test.YtimhhegebkganaaGreatDoorSl10
import Derived.Maps.RangeRun
import Derived.RangeFuncLeaves
import Derived.RangeFuncRecord
set_option linter.unusedSimpArgs false
set_option linter.unusedVariables false
namespace Go.SL
open Go.ChangeMaps (setBlock)

/-! ### operations in a row, in a round's frame -/
theorem wp_opsR {P : Program} {ops : Array Oper} {K : Act → World → Prop} {Q : Exit → Act → World → Prop}
    (hK : ∀ a w, Q .normal a w → K a w) (hp : ∀ c a w, ¬ Q (.panic c) a w) (hl : ¬ LetsOut Q) (l : List Nat) (hd : ∀ i ∈ l, ∀ o, ops[i]? = some o → ∀ c, o.op ≠ .defer c) :
    ∀ (a : Act) (w : World), wpOps P ops Q l a w → ∀ (b : Frame) (k : List Item) (cs : List Frame),
      ∃ a' w', K a' w' ∧ Steps P (lone (b.atR a (.inRegion ops l :: k)) cs w) (lone (b.atR a' k) cs w') := by
  induction l with
  | nil => exact fun a w h b k cs => ⟨a, w, hK _ _ h, .one stepR_region_end⟩
  | cons i rest ih =>
    intro a w h b k cs
    have ih := ih (fun i hi => hd i (List.mem_cons_of_mem _ hi))
    simp only [wpOps] at h
    cases ho : ops[i]? with
    | none =>
      simp only [ho] at h
      obtain ⟨a', w', hq, harr⟩ := ih a w h b k cs
      have hs := stepR_op_skip (P := P) (b := b) (a := a) (k := k) (cs := cs) (w := w) (ops := ops) (i := i) (rest := rest) (by simp [ho])
      simp only [ho, Option.bind_none, Act.put] at hs
      exact ⟨a', w', hq, .head hs harr⟩
    | some o =>
      simp only [ho] at h
      by_cases hw : Region.wanted o (yielded ops a.tmps) = true
      · simp only [hw, if_true] at h
        rcases h with h | ⟨_, hq⟩
        case inr => exact (hl hq).elim
        simp only [Oper.wp, Oper.upon] at h
        have hg := stepGR_op (P := P) (b := b) (k := k) (cs := cs) (w := w) (rest := rest) ho hw
        rw [Oper.semAt_eq _ _ _ (hd i (by simp) o ho)] at hg
        have hfin : ∀ v, (b.atR a (.inRegion ops (i :: rest) :: k)).finish v = b.atR (a.put o.dst v) (.inRegion ops rest :: k) := by
          intro v; rw [Frame.finish_atR, ho]; rfl
        split at h
        · rename_i v w' hr
          obtain ⟨a', w'', hq, harr⟩ := ih _ _ h b k cs
          refine ⟨a', w'', hq, .head (step_lone_go ?_) harr⟩
          rw [hg, ← hfin]; simp [stepG.apply, hr]
        · rename_i w' hr
          obtain ⟨a', w'', hq, harr⟩ := ih _ _ h b k cs
          refine ⟨a', w'', hq, .head (step_lone_go ?_) harr⟩
          rw [hg, ← hfin]; simp [stepG.apply, hr]
        · rename_i d w' hr
          obtain ⟨a', w'', hq, harr⟩ := ih _ _ h b k cs
          refine ⟨a', w'', hq, .head (step_lone_go ?_) harr⟩
          have : ({ b.atR a (.inRegion ops (i :: rest) :: k) with defers := d :: a.defers } : Frame).finish undef =
              b.atR ({ a with defers := d :: a.defers }.put o.dst undef) (.inRegion ops rest :: k) := by
            have := Frame.finish_atR b { a with defers := d :: a.defers } ops i rest k undef
            rw [ho] at this; exact this
          rw [hg]; simp only [stepG.apply, Sem.runT_eq, hr, GStep.bare_after]
          exact congrArg (fun fr => GStep.go { frame := fr, callers := cs, status := .running, dying := none } w') this
        · rename_i f args w' hr
          obtain ⟨e, w'', fr, hR, hsteps, _, hleave⟩ := h (b.atR a (.inRegion ops (i :: rest) :: k) :: cs)
          have henter : step P (lone (b.atR a (.inRegion ops (i :: rest) :: k)) cs w) =
              .next (lone (Frame.enter P f args .normal) (b.atR a (.inRegion ops (i :: rest) :: k) :: cs) w') :=
            step_lone_go (by rw [hg]; simp [stepG.apply, hr, Frame.atR])
          cases e with
          | returned v =>
            obtain ⟨a', w₃, hq, harr⟩ := ih _ _ hR b k cs
            refine ⟨a', w₃, hq, .head henter (hsteps.trans (.head ?_ harr))⟩
            rw [← hfin]; exact step_leave_returned hleave
          | panicked chain => exact (hp _ _ _ hR).elim
          | outgrown => exact (hl hR).elim
        · rename_i row args w' hr
          obtain ⟨v, w'', hR, hsteps⟩ := h (b.atR a (.inRegion ops (i :: rest) :: k)) cs
          have henter : step P (lone (b.atR a (.inRegion ops (i :: rest) :: k)) cs w) =
              .next (lone (Frame.ofRow P row args .normal) (b.atR a (.inRegion ops (i :: rest) :: k) :: cs) w') :=
            step_lone_go (by rw [hg]; simp [stepG.apply, hr, Frame.atR])
          obtain ⟨a', w₃, hq, harr⟩ := ih _ _ hR b k cs
          refine ⟨a', w₃, hq, .head henter (hsteps.trans ?_)⟩
          rw [hfin]; exact harr
        · exact (hp _ _ _ h).elim
        · exact h.elim
      · simp only [hw, if_false, Bool.false_eq_true] at h
        obtain ⟨a', w', hq, harr⟩ := ih _ _ h b k cs
        have hs := stepR_op_skip (P := P) (b := b) (a := a) (k := k) (cs := cs) (w := w) (ops := ops) (i := i) (rest := rest)
          (by simp [ho]; simpa using hw)
        simp only [ho, Option.bind_some] at hs
        exact ⟨a', w', hq, .head hs harr⟩

/-- a round: it begins, it hands a value back to the frame that called yield -/
def Rnd (P : Program) (l f : Nat) (tmps : Array Value) (assign body : Code) (w : World) (R : Value → World → Prop) : Prop :=
  ∀ (c : Frame) (cs : List Frame), ∃ v w', R v w' ∧ Steps P (lone (Frame.round l f tmps assign body .normal) (c :: cs) w) (lone (c.finish v) cs w')

theorem Hold.putb {w : World} {b : Nat} {o : Obj} {L : List Asrt} (s : Hold w (blk b o :: L)) (o' : Obj) : Hold (w.putObj b o') (blk b o' :: L) := s.put o'

section round
variable {X : Cx}

theorem R_false (hpost : X.post = fun _ _ => False) : (∀ c a w, ¬ X.R (.panic c) a w) ∧ (∀ a w, ¬ X.R .outgrown a w) ∧ (∀ a w, ¬ X.R .normal a w) ∧ (∀ a w, ¬ X.R .ret a w) := by
  refine ⟨fun c a w h => h.2, fun a w h => h, ?_, ?_⟩
  · rintro a w ⟨_, v, _, _, L, h, _⟩; rw [hpost] at h; exact h
  · rintro a w ⟨_, v, _, _, L, h, _⟩; rw [hpost] at h; exact h

theorem tl_opsR (hpost : X.post = fun _ _ => False) {J : Act → World → Prop} {ops : List Oper} {fr : Fr} {L : List Asrt} (hd : ∀ o ∈ ops, ∀ c, o.op ≠ .defer c) (h : TL X [.rnd J] ops.toArray fr L ops)
    {a : Act} {w : World} (ha : Agree X.n fr a) (hs : Same X.w0 w) (hw : Hold w (L ++ X.F)) (b : Frame) (k : List Item) (cs : List Frame) :
    ∃ a' w', J a' w' ∧ Steps X.P (lone (b.atR a (.inRegion ops.toArray (List.range ops.toArray.size) :: k)) cs w) (lone (b.atR a' k) cs w') := by
  have h1 := h a w ha hs hw
  rw [← wpOps_eq_wpList ops 0 (by simp)] at h1
  have hf := R_false hpost
  refine wp_opsR (Q := run X.P X.R [.rnd J]) (fun _ _ q => q) (fun c a w q => hf.1 c a w q) (fun ⟨a, w, q⟩ => hf.2.1 a w q) _ (fun i hi o ho c => ?_) a w (by simpa [List.range_eq_range'] using h1) b k cs
  exact hd o (by have := Array.mem_of_getElem? ho; simpa using this) c

theorem rnd_block (hpost : X.post = fun _ _ => False) {i1 i2 id l f : Nat} {ops1 ops2 : List Oper} {r : Loop} (hr : r.state = .ready) (hrp : r.pending = none) {tmps : Array Value} {fr : Fr} {L : List Asrt}
    {α β : Type} (fI : α → Fr) (LI : α → List Asrt) (LJ : β → List Asrt) (hd1 : ∀ o ∈ ops1, ∀ c, o.op ≠ .defer c) (hd2 : ∀ o ∈ ops2, ∀ c, o.op ≠ .defer c)
    (h1 : TL X [.rnd (fun a w => ∃ y, Agree X.n (fI y) a ∧ Same X.w0 w ∧ Hold w (blk l (.loop r) :: LI y ++ X.F))] ops1.toArray fr (blk l (.loop r) :: L) ops1)
    (h2 : ∀ y, TL X [.rnd (fun _ w => ∃ z, Same X.w0 w ∧ Hold w (blk l (.loop { r with state := .busy }) :: LJ z ++ X.F))] ops2.toArray (fI y) (blk l (.loop { r with state := .busy }) :: LI y) ops2)
    {w : World} (hA : Agree X.n fr ⟨tmps, []⟩) (hS : Same X.w0 w) (hw : Hold w (blk l (.loop r) :: L ++ X.F)) :
    Rnd X.P l f tmps (.region i1 ops1.toArray false) (.block id (.region i2 ops2.toArray false)) w (fun v w' => v = .bool true ∧ Same X.w0 w' ∧ ∃ z, Hold w' (blk l (.loop r) :: LJ z ++ X.F)) := by
  intro c cs
  let b : Frame := { (default : Frame) with fn := f, kind := .normal, roundOf := some l }
  have hb0 : Frame.round l f tmps (.region i1 ops1.toArray false) (.block id (.region i2 ops2.toArray false)) .normal = b.atR { tmps := tmps, defers := [] } [.code (.region i1 ops1.toArray false), .beginRound, .code (.block id (.region i2 ops2.toArray false))] := by
    simp [Frame.round, Frame.atR, b]
  rw [hb0]
  obtain ⟨a1, w1, ⟨y, hA1, hS1, hw1⟩, s1⟩ := tl_opsR hpost hd1 h1 hA hS hw b [.beginRound, .code (.block id (.region i2 ops2.toArray false))] (c :: cs)
  have hl1 : w1.heap[l]? = some (.loop r) := Hold.blk_get hw1
  have hw2 : Hold (w1.putObj l (.loop { r with state := .busy })) (blk l (.loop { r with state := .busy }) :: LI y ++ X.F) := Hold.putb hw1 _
  obtain ⟨a2, w2, ⟨z, hS2, hw3⟩, s2⟩ := tl_opsR hpost hd2 (h2 y) hA1 (same_put hS1) hw2 b [.inBlock id] (c :: cs)
  have hl2 : w2.heap[l]? = some (.loop { r with state := .busy }) := Hold.blk_get hw3
  have hw4 : Hold (w2.putObj l (.loop r)) (blk l (.loop r) :: LJ z ++ X.F) := Hold.putb hw3 _
  have hend := run_endRound (P := X.P) none hl2
  have er : (Obj.loop { { r with state := LoopState.busy } with state := if (none : Option Code).isNone then .ready else .done, pending := none }) = .loop r := by
    cases r; simp at hr hrp; subst hr; subst hrp; rfl
  rw [er] at hend
  refine ⟨.bool true, _, ⟨rfl, same_put hS2, z, hw4⟩, ?_⟩
  refine .head stepR_region (s1.trans (.head (stepR_beginRound rfl (run_beginRound hl1 hr)) (.head stepR_block (.head stepR_region (s2.trans (.head stepR_inBlock (.one ?_)))))))
  exact stepR_round_end rfl rfl hend
end round

/-! ### operations in a row, one of which calls yield -/
def RowSem (P : Program) (ops : Array Oper) (Q : Exit → Act → World → Prop) (l : List Nat) (a : Act) (w : World) : Prop :=
  ∀ (b : Frame) (k : List Item) (cs : List Frame), ∃ e a' w', Q e a' w' ∧ Arrives P (lone (b.at a (.inRegion ops l :: k)) cs w) b k cs e a' w'
def TS (X : Cx) (k : List Kt) (ops : Array Oper) (fr : Fr) (L : List Asrt) (l : List Nat) : Prop := ∀ a w, Agree X.n fr a → Same X.w0 w → Hold w (L ++ X.F) → RowSem X.P ops (run X.P X.R k) l a w

section ts
variable {X : Cx} {k : List Kt} {ops : Array Oper} {fr : Fr} {L : List Asrt}
theorem t_region_s {id : Nat} {l : List Nat} (hl : List.range ops.size = l) (h : TS X k ops fr L l) : T X k fr L (.region id ops false) := fun a w ha hs hw b k cs =>
  let ⟨e, a', w', q, r⟩ := h a w ha hs hw b k cs; ⟨e, a', w', q, .of_steps (.one (by rw [← hl]; exact step_region)) r⟩
theorem ts_nil (h : TE X k fr L .normal) : TS X k ops fr L [] := fun a w ha hs hw _ _ _ => ⟨.normal, a, w, h a w ha hs hw, .one step_region_end⟩
theorem ts_q {i d : Nat} {op : Op} {ty : TypeId} {pos : String} {af : Array Edge} {v : Value} {rest : List Nat} (hi : ops[i]? = some ⟨some d, op, ty, pos, af, none⟩) (hd : Nat.blt d X.n = true)
    (he : Ev X fr (L ++ X.F) ⟨some d, op, ty, pos, af, none⟩ v) (h : TS X k ops ((d, v) :: fr) L rest) : TS X k ops fr L (i :: rest) := fun a w ha hs hw b k cs => by
  obtain ⟨e, a', w', q, r⟩ := h _ w (ha.put v (Nat.le_of_ble_eq_true hd)) hs hw b k cs
  refine ⟨e, a', w', q, .of_steps (.one (step_lone_go ?_)) r⟩
  have hfin : (b.at a (.inRegion ops (i :: rest) :: k)).finish v = b.at (a.put (some d) v) (.inRegion ops rest :: k) := by rw [Frame.finish_at, hi]; rfl
  rw [stepG_op hi (by simp [Region.wanted]), ← hfin]
  simp [stepG.apply, he a w ha hw]
theorem ts_yield {α : Type} {i d l : Nat} {g x : Operand} {tys : Array TypeId} {ty : TypeId} {pos : String} {af : Array Edge} {v : Value} {rest : List Nat} (LI : α → List Asrt)
    (hi : ops[i]? = some ⟨some d, .call ⟨.value g, #[x], tys⟩, ty, pos, af, none⟩) (hd : Nat.blt d X.n = true) (hg : ev fr g = some (.func (.yield l) #[] #[])) (hx : ev fr x = some v)
    (hY : ∀ w, Same X.w0 w → Hold w (L ++ X.F) → ∃ f tmps assign body, (Instr.yield l #[v]).run X.P w = .ok (.round l f tmps assign body) w ∧
      Rnd X.P l f tmps assign body w (fun u w' => u = .bool true ∧ Same X.w0 w' ∧ ∃ y, Hold w' (LI y ++ X.F)))
    (h : ∀ y, TS X k ops ((d, .bool true) :: fr) (LI y) rest) : TS X k ops fr L (i :: rest) := fun a w ha hs hw b k cs => by
  obtain ⟨f, tmps, assign, body, hy, hR⟩ := hY w hs hw
  obtain ⟨u, w1, ⟨rfl, hs1, y, hw1⟩, s1⟩ := hR (b.at a (.inRegion ops (i :: rest) :: k)) cs
  obtain ⟨e, a', w', q, r⟩ := h y _ w1 (ha.put (.bool true) (Nat.le_of_ble_eq_true hd)) hs1 hw1 b k cs
  have hex : (execOp a.eval ⟨some d, .call ⟨.value g, #[x], tys⟩, ty, pos, af, none⟩).run X.P w = .ok (.round l f tmps assign body) w := by
    simp [execOp, resolve, ha.ev hg, ha.ev hx, Deferred.ofValue, invoke, hy]
  have hfin : (b.at a (.inRegion ops (i :: rest) :: k)).finish (.bool true) = b.at (a.put (some d) (.bool true)) (.inRegion ops rest :: k) := by rw [Frame.finish_at, hi]; rfl
  rw [hfin] at s1
  refine ⟨e, a', w', q, .of_steps (.head (step_lone_go ?_) s1) r⟩
  rw [stepG_op hi (by simp [Region.wanted])]
  simp [stepG.apply, hex, Frame.at]
/-- a contract of yield: a round goes on -/
def YC (P : Program) (l : Nat) (v : Value) (pre : List Asrt) {α : Type} (post : α → List Asrt) : Prop :=
  ∀ w0 w F, Same w0 w → Hold w (pre ++ F) → ∃ f tmps assign body, (Instr.yield l #[v]).run P w = .ok (.round l f tmps assign body) w ∧
    Rnd P l f tmps assign body w (fun u w' => u = .bool true ∧ Same w0 w' ∧ ∃ y, Hold w' (post y ++ F))
theorem ts_yc {α : Type} {i d l : Nat} {g x : Operand} {tys : Array TypeId} {ty : TypeId} {pos : String} {af : Array Edge} {v : Value} {rest : List Nat} {pre F : List Asrt} {post : α → List Asrt}
    (hi : ops[i]? = some ⟨some d, .call ⟨.value g, #[x], tys⟩, ty, pos, af, none⟩) (hd : Nat.blt d X.n = true) (hg : ev fr g = some (.func (.yield l) #[] #[])) (hx : ev fr x = some v)
    (hF : Frm L pre F) (hY : YC X.P l v pre post) (h : ∀ y, TS X k ops ((d, .bool true) :: fr) (post y ++ F) rest) : TS X k ops fr L (i :: rest) := by
  refine ts_yield (fun y => post y ++ F) hi hd hg hx (fun w hs hw => ?_) h
  have hw' : Hold w (pre ++ (F ++ X.F)) := by
    have := hw.perm (List.Perm.append_right X.F hF.perm)
    rwa [List.append_assoc] at this
  obtain ⟨f, tmps, assign, body, hy, hR⟩ := hY _ w (F ++ X.F) hs hw'
  refine ⟨f, tmps, assign, body, hy, fun c cs => ?_⟩
  obtain ⟨u, w1, ⟨h1, h2, y, h3⟩, s⟩ := hR c cs
  exact ⟨u, w1, ⟨h1, h2, y, by rw [List.append_assoc]; exact h3⟩, s⟩
end ts

/-! ### walks over a map -/
section rng
variable {X : Cx} {fr : Fr} {L : List Asrt} {ty : TypeId} {pos : String} {af : Array Edge}

theorem eff_range {d m clk : Nat} {t kt et : TypeId} {x : Operand} {es : Array MapEntry} (hd : Nat.blt d X.n = true) (ht : IsMap X.P t kt et) (hx : ev fr x = some (.map (some m))) (hm : Has L m (.map es clk)) :
    Eff X fr L ⟨some d, .range t x, ty, pos, af, none⟩ (fun fr' L' => ∃ b, fr' = (d, .pointer (some ⟨b, 0, none⟩)) :: fr ∧ L' = blk b (.mapIter (some m) clk #[] clk) :: L) := by
  intro Q hQ a w ha hs hw K hK
  left
  have hb := hm.get hw.left
  have hr : (execOp a.eval ⟨some d, .range t x, ty, pos, af, none⟩).run X.P w = .ok (.value (.pointer (some ⟨w.heap.size, 0, none⟩))) (w.alloc (.mapIter (some m) clk #[] clk)) := by
    simp [execOp, ha.ev hx, Instr.range, ht w, getObj, newObj, Sem.run, hb]
  unfold Oper.wp
  rw [hr]
  exact hK _ _ ⟨w.heap.size, rfl, rfl⟩ _ _ (ha.put _ (Nat.le_of_ble_eq_true hd)) (same_alloc hs) (hw.alloc _)

theorem eff_next {d r m clk : Nat} {x : Operand} {es : Array MapEntry} {seen : Array Nat} {M : Array Nat → List Asrt} (hd : Nat.blt d X.n = true) (hx : ev fr x = some (.pointer (some ⟨r, 0, none⟩))) (hm : Has L m (.map es clk))
    (hold : ∀ e ∈ es.toList, e.born < clk) (hu : ∀ s, Upd L (blk r (.mapIter (some m) clk seen clk)) (blk r (.mapIter (some m) clk s clk)) (M s)) :
    Eff X fr L ⟨some d, .next x false, ty, pos, af, none⟩ (fun fr' L' => ((leftOf es seen).size = 0 ∧ fr' = (d, .tuple #[.bool false]) :: fr ∧ L' = L) ∨
      ∃ e ∈ (leftOf es seen).toList, fr' = (d, .tuple #[.bool true, e.key, e.val]) :: fr ∧ L' = M (seen.push e.born)) := by
  intro Q hQ a w ha hs hw K hK
  left
  have hb := hm.get hw.left
  have hr : w.heap[r]? = some (.mapIter (some m) clk seen clk) := by
    obtain ⟨N, h1, _⟩ := (hu seen).hold hw; exact h1.blk_get
  rcases run_next_at (P := X.P) w ty r m clk clk seen es clk hr hb hold (Nat.le_refl _) with ⟨h0, hrun⟩ | ⟨e, he, w1, hw1, hrun⟩
  · have hex : (execOp a.eval ⟨some d, .next x false, ty, pos, af, none⟩).run X.P w = .ok (.value (.tuple #[.bool false])) w := by simp [execOp, ha.ev hx, hrun]
    unfold Oper.wp
    rw [hex]
    exact hK _ _ (.inl ⟨h0, rfl, rfl⟩) _ _ (ha.put _ (Nat.le_of_ble_eq_true hd)) hs hw
  · have hex : (execOp a.eval ⟨some d, .next x false, ty, pos, af, none⟩).run X.P w = .ok (.value (.tuple #[.bool true, e.key, e.val])) (setBlock w1 r (.mapIter (some m) clk (seen.push e.born) clk)) := by simp [execOp, ha.ev hx, hrun]
    unfold Oper.wp
    rw [hex]
    have hs1 : Same X.w0 w1 := by rcases hw1 with rfl | rfl; exact hs; exact hs.drew
    have hh1 : Hold w1 (L ++ X.F) := by rcases hw1 with rfl | rfl; exact hw; exact hw.heap rfl
    obtain ⟨N, h1, h2⟩ := (hu (seen.push e.born)).hold hh1
    exact hK _ _ (.inr ⟨e, he, rfl, rfl⟩) _ _ (ha.put _ (Nat.le_of_ble_eq_true hd)) (same_put hs1) (h2 _ (h1.put _))

theorem ev_entry {dst : Option Nat} {r m clk : Nat} {x : Operand} {es : Array MapEntry} {seen : Array Nat} {e : MapEntry} (hx : ev fr x = some (.pointer (some ⟨r, 0, none⟩))) (hm : Has L m (.map es clk))
    (hr : Has L r (.mapIter (some m) clk (seen.push e.born) clk)) (he : e ∈ es.toList) (hn : (es.toList.map (·.born)).Nodup) :
    Ev X fr L ⟨dst, .entry x, ty, pos, af, none⟩ (.tuple #[e.key, e.val]) := fun a w ha hw => by
  simp [execOp, ha.ev hx, run_entry_at w r m clk seen es clk e (hr.get hw) (hm.get hw) he hn]
end rng

theorem filter_born {e : MapEntry} : ∀ {l : List MapEntry}, e ∈ l → (l.map (·.born)).Nodup → l.Perm (e :: l.filter (fun x => decide (x.born ≠ e.born)))
  | [], h, _ => by cases h
  | a :: l, h, hn => by
    simp only [List.map_cons, List.nodup_cons] at hn
    rcases List.mem_cons.1 h with rfl | h
    · have : l.filter (fun x => decide (x.born ≠ e.born)) = l := List.filter_eq_self.2 fun x hx => by
        have : x.born ≠ e.born := fun c => hn.1 (c ▸ List.mem_map_of_mem hx)
        simpa using this
      simp only [List.filter_cons, ne_eq, not_true, decide_false, Bool.false_eq_true, if_false]
      simp only [ne_eq] at this
      rw [this]
    · have hne : a.born ≠ e.born := fun c => hn.1 (c ▸ List.mem_map_of_mem h)
      simp only [List.filter_cons, hne, ne_eq, not_false_iff, decide_true, if_true]
      exact (List.Perm.cons a (filter_born h hn.2)).trans (.swap _ _ _)

/-- one more has come -/
theorem left_push {es : Array MapEntry} {seen : Array Nat} {e : MapEntry} (he : e ∈ (leftOf es seen).toList) (hn : (es.toList.map (·.born)).Nodup) : (leftOf es seen).toList.Perm (e :: (leftOf es (seen.push e.born)).toList) := by
  have hs : (leftOf es seen).toList.Sublist es.toList := by unfold leftOf; rw [Array.toList_filter]; exact List.filter_sublist
  have h1 := filter_born he (hn.sublist (hs.map _))
  have h2 : (leftOf es (seen.push e.born)).toList = (leftOf es seen).toList.filter (fun x => decide (x.born ≠ e.born)) := by
    unfold leftOf
    rw [Array.toList_filter, Array.toList_filter, List.filter_filter]
    apply List.filter_congr
    intro x _
    by_cases c : x.born = e.born
    · simp [c]
    · simp [c]
  rw [h2]; exact h1

theorem perm_unmap {α β : Type} (f : α → β) (hf : ∀ a b, f a = f b → a = b) {l m : List α} (h : (l.map f).Perm (m.map f)) : l.Perm m := by
  by_cases hα : Nonempty α
  · obtain ⟨a0⟩ := hα
    let g : β → α := fun b => open Classical in if h : ∃ a, f a = b then h.choose else a0
    have hg : ∀ a, g (f a) = a := fun a => by
      have hx : ∃ a', f a' = f a := ⟨a, rfl⟩
      show (open Classical in if h : ∃ a', f a' = f a then h.choose else a0) = a
      rw [dif_pos hx]; exact hf _ _ hx.choose_spec
    have := h.map g
    rw [List.map_map, List.map_map] at this
    have e : ∀ l : List α, l.map (g ∘ f) = l := fun l => by
      have : (g ∘ f) = id := funext hg
      rw [this, List.map_id]
    rwa [e, e] at this
  · have e : ∀ l : List α, l = [] := fun l => by
      cases l with
      | nil => rfl
      | cons a _ => exact (hα ⟨a⟩).elim
    rw [e l, e m]

section
variable {X : Cx} {k : List Kt} {fr : Fr} {L : List Asrt}
theorem t_mp {K V : Type} {kE : K → Value} {vE : V → Value} {b : Nat} {al : List (K × V)} {c : Code} (h : ∀ es clk, MapRep kE vE es clk al → T X k fr (blk b (.map es clk) :: L) c) : T X k fr (mp kE vE b al :: L) c := fun a w ha hs hw => by
  obtain ⟨es, clk, hw, r⟩ := hw.mp_get
  exact h es clk r a w ha hs hw
theorem te_mp {K V : Type} {kE : K → Value} {vE : V → Value} {b : Nat} {al : List (K × V)} {e : Exit} {es : Array MapEntry} {clk : Nat} (r : MapRep kE vE es clk al) (h : TE X k fr (mp kE vE b al :: L) e) : TE X k fr (blk b (.map es clk) :: L) e := fun a w ha hs hw =>
  h a w ha hs (Hold.mp_mk hw r)
/-- the walk of a piece of code, in the terms of the model -/
theorem sem_of_T (hpost : X.post = fun _ _ => False) {J : Act → World → Prop} {c : Code} (h : T X [.rnd J] fr L c) {a : Act} {w : World} (ha : Agree X.n fr a) (hs : Same X.w0 w) (hw : Hold w (L ++ X.F)) :
    c.wp X.P (fun e a w => e = .normal ∧ J a w) a w := by
  have hf := R_false hpost
  refine wp_mono (h a w ha hs hw) fun e a w q => ?_
  cases e with
  | normal => exact ⟨rfl, q⟩
  | exit i => exact q.elim
  | goto i => exact q.elim
  | ret => exact (hf.2.2.2 a w q).elim
  | panic c => exact (hf.1 c a w q).elim
  | outgrown => exact (hf.2.1 a w q).elim
end
theorem MapRep.val_of {K V : Type} {kE : K → Value} {vE : V → Value} {es : Array MapEntry} {clk : Nat} {al : List (K × V)} (r : MapRep kE vE es clk al) {e : MapEntry} (h : e ∈ es.toList) : ∃ x ∈ al.map (·.2), vE x = e.val := by
  have h1 : (e.key, e.val) ∈ es.toList.map (fun e => (e.key, e.val)) := List.mem_map_of_mem (f := fun e : MapEntry => (e.key, e.val)) h
  rw [r.pairs] at h1
  obtain ⟨x, hx, he⟩ := List.mem_map.1 h1
  exact ⟨x.2, List.mem_map_of_mem hx, by simp at he; exact he.2⟩
theorem MapRep.vals {K V : Type} {kE : K → Value} {vE : V → Value} {es : Array MapEntry} {clk : Nat} {al : List (K × V)} (r : MapRep kE vE es clk al) : es.toList.map (·.val) = (al.map (·.2)).map vE := by
  have h1 := congrArg (List.map (fun p : Value × Value => p.2)) r.pairs
  rw [List.map_map, List.map_map] at h1
  rw [List.map_map]; exact h1
theorem left_empty {es : Array MapEntry} {seen : Array Nat} (h : (leftOf es seen).size = 0) : (leftOf es seen).toList = [] := by
  have : leftOf es seen = #[] := Array.eq_empty_of_size_eq_zero h
  rw [this]
theorem left_start (es : Array MapEntry) : (leftOf es #[]).toList = es.toList := by unfold leftOf; simp
theorem Hold.mk_nil {F : List Asrt} (w : World) (h : F = [] := by rfl) : Hold w F := by
  subst h; exact ⟨fun _ => none, fun _ => none, (fun _ _ e => nomatch e), (fun _ _ e => nomatch e), (fun _ => .inl rfl), trivial⟩
end Go.SL
