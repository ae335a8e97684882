/- The logic: a slice's shape; regions whose loads lean on all but what is written. -/
import Derived.Test.YtimhhegebkganaaGreatDoorSl7
set_option linter.unusedSimpArgs false
set_option linter.unusedVariables false
namespace Go.SL

def Shape (v : Value) (n : Nat) : Prop := (n = 0 ∧ ∃ a c, v = .slice a 0 c) ∨ ∃ b o cap, v = .slice (some ⟨b, o, none⟩) n cap

theorem Rd.shape {α : Type} {w : World} {sz : Nat} {enc : α → List Value} {v : Value} {xs : List α} (r : Rd w sz enc v xs) : Shape v xs.length := by
  rcases r with ⟨rfl, a, c, rfl⟩ | ⟨b, o, cap, c, E, fz, rfl, _⟩
  · exact .inl ⟨rfl, a, c, rfl⟩
  · exact .inr ⟨b, o, cap, rfl⟩

theorem Hold.left {w : World} {L F : List Asrt} (h : Hold w (L ++ F)) : Hold w L := by
  obtain ⟨I, f, hI, hh, dd, s⟩ := h
  obtain ⟨g1, g2, j, s1, _⟩ := s.append
  refine ⟨I, g1, hI, fun b o e => hh b o (j.left e).1, fun b => ?_, s1⟩
  rcases dd b with e | e
  · exact .inl e
  · right
    cases hg : g1 b with
    | none => rfl
    | some o => have := (j.left hg).1; rw [e] at this; cases this

theorem Hold.right {w : World} {L F : List Asrt} (h : Hold w (L ++ F)) : Hold w F := (h.perm List.perm_append_comm).left

theorem hold_wo {w : World} {L F S : List Asrt} {A : Asrt} (t : Take L A S) (h : Hold w (L ++ F)) : Hold w S := (h.left.perm t.perm).drop
theorem hold_frm {w : World} {L F S pre : List Asrt} (t : Frm L pre S) (h : Hold w (L ++ F)) : Hold w S := (h.left.perm t.perm).right
theorem hold_behind {w : World} {M S F : List Asrt} (h : Hold w ((M ++ S) ++ F)) : Hold w S := h.left.right

section shape
variable {α : Type} {X : Cx} {k : List Kt} {fr : Fr} {L : List Asrt} {ty : TypeId} {pos : String} {af : Array Edge} {dst : Option Nat}
variable {sz : Nat} {enc : α → List Value} {v : Value} {xs : List α}

theorem t_shape {c : Code} (h : HasArr sz enc L v xs) (hE : ∀ x, (enc x).length = sz) (g : Shape v xs.length → T X k fr L c) : T X k fr L c := fun a w ha hs hw => g (h.rd hE hw.left).shape a w ha hs hw
theorem tl_shape {ops : Array Oper} {rest : List Oper} (h : HasArr sz enc L v xs) (hE : ∀ x, (enc x).length = sz) (g : Shape v xs.length → TL X k ops fr L rest) : TL X k ops fr L rest := fun a w ha hs hw => g (h.rd hE hw.left).shape a w ha hs hw
theorem te_shape {e : Exit} (h : HasArr sz enc L v xs) (hE : ∀ x, (enc x).length = sz) (g : Shape v xs.length → TE X k fr L e) : TE X k fr L e := fun a w ha hs hw => g (h.rd hE hw.left).shape a w ha hs hw

theorem ev_len_sh {x : Operand} {t e s n : Nat} (ht : SliceOf X.P t e s) (hx : ev fr x = some v) (h : Shape v n) :
    Ev X fr L ⟨dst, .call ⟨.builtin .len, #[x], #[t]⟩, ty, pos, af, none⟩ (.int .i64 n) := fun a w ha _ => by
  rcases h with ⟨rfl, p, c, rfl⟩ | ⟨b, o, cap, rfl⟩
  · simp [execOp, resolve, ha.ev hx, invoke, builtin, Builtin.len_, ht.1 w, goInt]
  · simp [execOp, resolve, ha.ev hx, invoke, builtin, Builtin.len_, ht.1 w, goInt]

theorem ev_at_sh {x y : Operand} {t e s n : Nat} {k : IntKind} {i : Nat} (ht : SliceOf X.P t e s) (hx : ev fr x = some v) (hy : ev fr y = some (.int k (i : Int))) (h : Shape v n) (hi : i < n) :
    Ev X fr L ⟨dst, .indexAddr t x y, ty, pos, af, none⟩ (ptrAt v (i * s)) := fun a w ha _ => by
  rcases h with ⟨rfl, p, c, rfl⟩ | ⟨b, o, cap, rfl⟩
  · omega
  · simp [execOp, ha.ev hx, ha.ev hy, Instr.indexAt, asIntOf, ht.1 w, ht.2 w, hi, ptrAt]

/-- an index that is known as a whole number from 0 on -/
theorem ev_at_int {x y : Operand} {t e s n : Nat} {k : IntKind} {i : Int} (ht : SliceOf X.P t e s) (hx : ev fr x = some v) (hy : ev fr y = some (.int k i)) (h : Shape v n) (h0 : 0 ≤ i) (hi : i < n) :
    Ev X fr L ⟨dst, .indexAddr t x y, ty, pos, af, none⟩ (ptrAt v (i.toNat * s)) := by
  obtain ⟨j, rfl⟩ := Int.eq_ofNat_of_zero_le h0
  exact ev_at_sh ht hx hy h (by omega)

theorem ev_fld_sh {x : Operand} {s f k m n : Nat} (hf : FldAt X.P s f k) (hx : ev fr x = some (ptrAt v m)) (h : Shape v n) (hn : 0 < n) :
    Ev X fr L ⟨dst, .fieldAddr s x f, ty, pos, af, none⟩ (ptrAt v (m + k)) := fun a w ha _ => by
  rcases h with ⟨rfl, _⟩ | ⟨b, o, cap, rfl⟩
  · omega
  · have e : ((⟨b, o, none⟩ : Addr).add m).add k = (⟨b, o, none⟩ : Addr).add (m + k) := by rw [addr_add, addr_add, addr_add, Nat.add_assoc]
    simp only [ptrAt] at hx ⊢
    simp [execOp, ha.ev hx, hf _ w, e]

/-- v[:n] -/
def cutTo (v : Value) (n : Nat) : Value := match v with | .slice a _ c => .slice a n c | v => v

theorem ev_sliceTo {x y : Operand} {t e s n : Nat} {k : IntKind} {i : Nat} (ht : SliceOf X.P t e s) (hx : ev fr x = some v) (hy : ev fr y = some (.int k (i : Int))) (h : HasArr sz enc L v xs) (hE : ∀ x, (enc x).length = sz) (hn : n = xs.length) (hi : i ≤ n) (hcap : ∀ a l c, v = .slice a l c → l ≤ c) :
    Ev X fr L ⟨dst, .slice t x none (some y) none, ty, pos, af, none⟩ (cutTo v i) := fun a w ha hw => by
  subst hn
  rcases (h.rd hE hw).shape with ⟨h0, p, c, rfl⟩ | ⟨b, o, cap, rfl⟩
  · have : i = 0 := by omega
    subst this
    simp [execOp, ha.ev hx, ha.ev hy, Instr.sliceAt, Instr.slice, Instr.sliceBounds, Instr.sliceBound, asIntOf, ht.1 w, ht.2 w, cutTo]
    cases p <;> simp [Addr.add]
  · have hc := hcap _ _ _ rfl
    have : i ≤ cap := by omega
    simp [execOp, ha.ev hx, ha.ev hy, Instr.sliceAt, Instr.slice, Instr.sliceBounds, Instr.sliceBound, asIntOf, ht.1 w, ht.2 w, cutTo, this, Addr.add]

theorem hold_cutTo {w : World} {T : TypeId} {M : List Asrt} {i : Nat} (hE : ∀ x, (enc x).length = sz) (hi : i ≤ xs.length) (h : Hold w (arr T sz enc v xs :: M)) : Hold w (arr T sz enc (cutTo v i) (xs.take i) :: M) := by
  obtain ⟨I, f, hI, hh, dd, g1, g2, j, a, s⟩ := h
  refine ⟨I, f, hI, hh, dd, g1, g2, j, ?_, s⟩
  rcases a with ⟨rfl, p, rfl⟩ | ⟨b, cap, spare, rfl, a2, a3, a4⟩
  · have : i = 0 := by simpa using hi
    subst this
    exact .inl ⟨by simp, p, rfl⟩
  · refine .inr ⟨b, cap, (xs.drop i).flatMap enc ++ spare, ?_, ?_, ?_, ?_⟩
    · simp [cutTo, Nat.min_eq_left hi]
    · simp; omega
    · rw [← a3]
      have : xs.flatMap enc = (xs.take i).flatMap enc ++ (xs.drop i).flatMap enc := by rw [← List.flatMap_append, List.take_append_drop]
      rw [this]; simp only [List.length_append]; omega
    · rw [a4]
      have : xs.flatMap enc = (xs.take i).flatMap enc ++ (xs.drop i).flatMap enc := by rw [← List.flatMap_append, List.take_append_drop]
      rw [this]; simp

theorem arr_cap {w : World} {T : TypeId} {M : List Asrt} (h : Hold w (arr T sz enc v xs :: M)) : ∀ a l c, v = .slice a l c → l ≤ c := by
  obtain ⟨I, f, hI, hh, dd, g1, g2, j, a, s⟩ := h
  rcases a with ⟨rfl, p, rfl⟩ | ⟨b, cap, spare, rfl, a2, a3, a4⟩
  · rintro a l c e; cases e; exact Nat.le_refl _
  · rintro a l c e; cases e; exact a2
theorem t_cap {U : TypeId} {c : Code} (h : arr U sz enc v xs ∈ L) (g : (∀ a l c, v = .slice a l c → l ≤ c) → T X k fr L c) : T X k fr L c := fun a w ha hs hw => by
  obtain ⟨M, hm⟩ := hw.left.mem h
  exact g (arr_cap hm) a w ha hs hw
theorem tl_cap {U : TypeId} {ops : Array Oper} {rest : List Oper} (h : arr U sz enc v xs ∈ L) (g : (∀ a l c, v = .slice a l c → l ≤ c) → TL X k ops fr L rest) : TL X k ops fr L rest := fun a w ha hs hw => by
  obtain ⟨M, hm⟩ := hw.left.mem h
  exact g (arr_cap hm) a w ha hs hw
end shape

section splits
variable {X : Cx} {k : List Kt} {fr : Fr} {L : List Asrt}
theorem agree_again {n : Nat} {fr : Fr} {a : Act} {t : Nat} {v : Value} (ha : Agree n fr a) (h : look fr t = some v) : Agree n ((t, v) :: fr) a :=
  ⟨ha.size, ha.defers, fun i u e => by
    rw [look_cons] at e
    by_cases hi : t = i
    · subst hi; simp at e; subst e; exact ha.get _ _ h
    · simp [hi] at e; exact ha.get i u e⟩
theorem tl_split {ops : Array Oper} {rest : List Oper} (t : Nat) {b : Bool} (h : look fr t = some (.bool b)) (y : b = true → TL X k ops ((t, .bool true) :: fr) L rest) (n : b = false → TL X k ops ((t, .bool false) :: fr) L rest) : TL X k ops fr L rest := by
  cases b
  · exact fun a w ha => n rfl a w (agree_again ha h)
  · exact fun a w ha => y rfl a w (agree_again ha h)
theorem tl_split_dec {ops : Array Oper} {rest : List Oper} (t : Nat) {p : Prop} [Decidable p] (h : look fr t = some (.bool (decide p))) (y : p → TL X k ops ((t, .bool true) :: fr) L rest) (n : ¬ p → TL X k ops ((t, .bool false) :: fr) L rest) : TL X k ops fr L rest :=
  tl_split t h (fun e => y (of_decide_eq_true e)) (fun e => n (of_decide_eq_false e))
theorem tr_split {ops : Array Oper} {S : List Asrt} {fuel : Nat} {listed : Array Bool} (t : Nat) {b : Bool} (h : look fr t = some (.bool b)) (y : b = true → TR X k ops S fuel listed ((t, .bool true) :: fr) L) (n : b = false → TR X k ops S fuel listed ((t, .bool false) :: fr) L) : TR X k ops S fuel listed fr L := by
  cases b
  · exact fun a w ha => n rfl a w (agree_again ha h)
  · exact fun a w ha => y rfl a w (agree_again ha h)
theorem tr_split_dec {ops : Array Oper} {S : List Asrt} {fuel : Nat} {listed : Array Bool} (t : Nat) {p : Prop} [Decidable p] (h : look fr t = some (.bool (decide p))) (y : p → TR X k ops S fuel listed ((t, .bool true) :: fr) L) (n : ¬ p → TR X k ops S fuel listed ((t, .bool false) :: fr) L) : TR X k ops S fuel listed fr L :=
  tr_split t h (fun e => y (of_decide_eq_true e)) (fun e => n (of_decide_eq_false e))
/-- guarded, the guard says yes, and it does something -/
theorem tr_eg {ops : Array Oper} {S : List Asrt} {fuel : Nat} {listed : Array Bool} (i : Nat) {dst : Option Nat} {op : Op} {ty : TypeId} {pos : String} {af : Array Edge} {post : Fr → List Asrt → Prop} {j t : Nat} {want b : Bool}
    (hi : ops[i]? = some ⟨dst, op, ty, pos, af, some (j, want)⟩) (hr : Region.ready .any ops listed = [i]) (hj : (ops[j]?).bind (·.dst) = some t) (ht : look fr t = some (.bool b)) (hb : b = want)
    (he : Eff X fr L ⟨dst, op, ty, pos, af, none⟩ post) (hS : ∀ fr' L', post fr' L' → ∀ w, Hold w (L' ++ X.F) → Hold w S)
    (h : ∀ fr' L', post fr' L' → TR X k ops S fuel (listed.setIfInBounds i true) fr' L') : TR X k ops S (fuel + 1) listed fr L := fun a w ha hsm hw => by
  have e := yielded_of ha hj ht
  subst hb
  refine wpAnyH_all hr (by simp) fun m hm => ?_
  simp at hm; subst hm
  unfold wpOp
  simp only [hi]
  rw [if_pos (by simp [Region.wanted, e])]
  have key := he (run X.P X.R k) trivial a w ha hsm hw (fun a' w' => Hold w' S ∧ wpAnyH X.P .any ops (run X.P X.R k) (fun w => Hold w S) fuel (listed.setIfInBounds m true) a' w') fun fr' L' hp a' w' h1 h2 h3 => ⟨hS fr' L' hp w' h3, h fr' L' hp a' w' h1 h2 h3⟩
  exact key
end splits

theorem bytes_of {P : Program} {T : TypeId} {i : TypeInfo} {n : Nat} (hi : P.info? T = some i) (hb : i.bytes = n) : ∀ w, ∃ i, (typeInfo T).run P w = .ok i w ∧ i.bytes = n := fun w => ⟨i, by unfold typeInfo program; simp [Sem.run, hi], hb⟩

theorem keyOk_int {P : Program} {t : TypeId} {k : IntKind} (h : P.underlying t = some (.int k)) : KeyOk P t (Value.int k) where
  eq a b w := by
    have hu : (underlying t).run P w = .ok (.int k) w := by unfold underlying program; simp [Sem.run, h]
    unfold Op.equal Op.maxDepth
    rw [show (10000 : Nat) = 9999 + 1 from rfl]
    unfold Op.equalIn
    simp only [Sem.run_bind, hu, Result.andThen_ok, if_true, Sem.run_pure]
    rfl
  chk e a w := by
    have hu : (underlying t).run P w = .ok (.int k) w := by unfold underlying program; simp [Sem.run, h]
    rw [show (10000 : Nat) = 9999 + 1 from rfl]
    unfold Instr.checkKey
    simp only [Sem.run_bind, hu, Result.andThen_ok, Sem.run_pure]
  und := ⟨.int k, fun w => by unfold underlying program; simp [Sem.run, h], .inl fun a b => by
    by_cases e : a = b <;> simp [Instr.sameNow, e]⟩
  bits a := by
    rw [show (10000 : Nat) = 9999 + 1 from rfl]
    unfold Instr.sameBits
    simp

theorem keyOk_str {P : Program} {t : TypeId} (h : P.underlying t = some .string) : KeyOk P t Value.string where
  eq a b w := by
    have hu : (underlying t).run P w = .ok .string w := by unfold underlying program; simp [Sem.run, h]
    unfold Op.equal Op.maxDepth
    rw [show (10000 : Nat) = 9999 + 1 from rfl]
    unfold Op.equalIn
    simp only [Sem.run_bind, hu, Result.andThen_ok, Sem.run_pure]
    rw [beq_ba]
  chk e a w := by
    have hu : (underlying t).run P w = .ok .string w := by unfold underlying program; simp [Sem.run, h]
    rw [show (10000 : Nat) = 9999 + 1 from rfl]
    unfold Instr.checkKey
    simp only [Sem.run_bind, hu, Result.andThen_ok, Sem.run_pure]
  und := ⟨.string, fun w => by unfold underlying program; simp [Sem.run, h], .inl fun a b => by
    simp [Instr.sameNow, beq_ba]⟩
  bits a := by
    rw [show (10000 : Nat) = 9999 + 1 from rfl]
    unfold Instr.sameBits
    simp [beq_ba]
end Go.SL
namespace Go.SL
section
variable {X : Cx} {k : List Kt} {fr : Fr} {L : List Asrt}
theorem t_drawn_wo {id : Nat} {ops : Array Oper} {S : List Asrt} {A : Asrt} (_ : Take L A S) (hm : X.P.follows .mixedOrders = true)
    (h : TR X k ops S ops.size (Array.replicate ops.size false) fr L) : T X k fr L (.region id ops true) := t_region_drawn S hm h
theorem t_drawn_frm {id : Nat} {ops : Array Oper} {S pre : List Asrt} (_ : Frm L pre S) (hm : X.P.follows .mixedOrders = true)
    (h : TR X k ops S ops.size (Array.replicate ops.size false) fr L) : T X k fr L (.region id ops true) := t_region_drawn S hm h
end
end Go.SL
namespace Go.SL
theorem Hold.lit_arr {α : Type} {w : World} {b n : Nat} {l : List Value} {T : TypeId} {sz : Nat} {enc : α → List Value} (xs : List α) {M : List Asrt} (h : Hold w (blk b (.cells l.toArray T (0, 0)) :: M)) (hl : l = xs.flatMap enc) (hn : n = xs.length) (hs : l.length = n * sz) :
    Hold w (arr T sz enc (.slice (some ⟨b, 0, none⟩) n n) xs :: M) := by
  subst hl; subst hn
  obtain ⟨I, f, hI, hh, dd, g1, g2, j, a, s⟩ := h
  exact ⟨I, f, hI, hh, dd, g1, g2, j, .inr ⟨b, xs.length, [], rfl, Nat.le_refl _, by simpa using hs, by simpa [blk] using a⟩, s⟩
section
variable {X : Cx} {k : List Kt} {fr : Fr} {α : Type}
theorem tl_lit {ops : Array Oper} {rest : List Oper} {b n : Nat} {l : List Value} {T : TypeId} {sz : Nat} {enc : α → List Value} {L : List Asrt} (xs : List α) (hl : l = xs.flatMap enc) (hn : n = xs.length) (hs : l.length = n * sz)
    (h : TL X k ops fr (arr T sz enc (.slice (some ⟨b, 0, none⟩) n n) xs :: L) rest) : TL X k ops fr (blk b (.cells l.toArray T (0, 0)) :: L) rest := h.hold fun _ hw => Hold.lit_arr xs hw hl hn hs
theorem tr_lit {ops : Array Oper} {S : List Asrt} {fuel : Nat} {listed : Array Bool} {b n : Nat} {l : List Value} {T : TypeId} {sz : Nat} {enc : α → List Value} {L : List Asrt} (xs : List α) (hl : l = xs.flatMap enc) (hn : n = xs.length) (hs : l.length = n * sz)
    (h : TR X k ops S fuel listed fr (arr T sz enc (.slice (some ⟨b, 0, none⟩) n n) xs :: L)) : TR X k ops S fuel listed fr (blk b (.cells l.toArray T (0, 0)) :: L) := fun a w ha hs' hw => h a w ha hs' (Hold.lit_arr xs hw hl hn hs)
end
end Go.SL
namespace Go.SL
theorem t_drawn_all {X : Cx} {k : List Kt} {fr : Fr} {L : List Asrt} {id : Nat} {ops : Array Oper} (hm : X.P.follows .mixedOrders = true)
    (h : TR X k ops (L ++ X.F) ops.size (Array.replicate ops.size false) fr L) : T X k fr L (.region id ops true) := t_region_drawn _ hm h
end Go.SL
namespace Go.SL
/-- what is wanted is kept, the rest let go -/
theorem te_keep {X : Cx} {k : List Kt} {fr : Fr} {L pre F : List Asrt} {e : Exit} (f : Frm L pre F) (h : TE X k fr pre e) : TE X k fr L e := fun a w ha hs hw => by
  have h1 : Hold w (pre ++ (F ++ X.F)) := by
    have := hw.perm (List.Perm.append_right X.F f.perm)
    rwa [List.append_assoc] at this
  have h2 : Hold w (F ++ (pre ++ X.F)) := by
    refine h1.perm ?_
    rw [← List.append_assoc, ← List.append_assoc]
    exact List.Perm.append_right _ List.perm_append_comm
  exact h a w ha hs h2.right
theorem t_keep {X : Cx} {k : List Kt} {fr : Fr} {L pre F : List Asrt} {c : Code} (f : Frm L pre F) (h : T X k fr pre c) : T X k fr L c := fun a w ha hs hw => by
  have h1 : Hold w (pre ++ (F ++ X.F)) := by
    have := hw.perm (List.Perm.append_right X.F f.perm)
    rwa [List.append_assoc] at this
  have h2 : Hold w (F ++ (pre ++ X.F)) := by
    refine h1.perm ?_
    rw [← List.append_assoc, ← List.append_assoc]
    exact List.Perm.append_right _ List.perm_append_comm
  exact h a w ha hs h2.right
theorem hold_keep {w : World} {L pre F G : List Asrt} (f : Frm L pre F) (hw : Hold w (L ++ G)) : Hold w (pre ++ G) := by
  have h1 : Hold w (pre ++ (F ++ G)) := by
    have := hw.perm (List.Perm.append_right G f.perm)
    rwa [List.append_assoc] at this
  have h2 : Hold w (F ++ (pre ++ G)) := by
    refine h1.perm ?_
    rw [← List.append_assoc, ← List.append_assoc]
    exact List.Perm.append_right _ List.perm_append_comm
  exact h2.right
end Go.SL
namespace Go.SL
section
variable {X : Cx} {k : List Kt} {fr : Fr} {L : List Asrt}
theorem t_loop0 {body : Code} (h : T X (.rnd (fun _ _ => False) :: k) fr L body) : T X k fr L (.loop body) := fun a w ha hs hw =>
  wp_loop_once (wp_mono (h a w ha hs hw) fun e a' w' q => by cases e <;> first | exact q | exact (q : False).elim)
theorem t_cond_yes {c : Operand} {x y : Code} {b : Bool} (hc : ev fr c = some (.bool b)) (hb : b = true) (ht : T X k fr L x) : T X k fr L (.cond c x y) := by
  subst hb; exact t_cond_true hc ht
theorem t_cond_no {c : Operand} {x y : Code} {b : Bool} (hc : ev fr c = some (.bool b)) (hb : b = false) (ht : T X k fr L y) : T X k fr L (.cond c x y) := by
  subst hb; exact t_cond_false hc ht
theorem tl_is {ops : Array Oper} {rest : List Oper} (t : Nat) {b c : Bool} (h : look fr t = some (.bool b)) (hb : b = c) (y : TL X k ops ((t, .bool c) :: fr) L rest) : TL X k ops fr L rest := by
  subst hb; exact fun a w ha => y a w (agree_again ha h)
theorem tr_is {ops : Array Oper} {S : List Asrt} {fuel : Nat} {listed : Array Bool} (t : Nat) {b c : Bool} (h : look fr t = some (.bool b)) (hb : b = c) (y : TR X k ops S fuel listed ((t, .bool c) :: fr) L) : TR X k ops S fuel listed fr L := by
  subst hb; exact fun a w ha => y a w (agree_again ha h)
end
end Go.SL
namespace Go.SL
theorem run_underlying {P : Program} {t : TypeId} {d : TypeDesc} (h : P.underlying t = some d) (w : World) : (underlying t).run P w = .ok d w := by unfold underlying program; simp [Sem.run, h]
end Go.SL
namespace Go.SL
theorem run_part {P : Program} {t : TypeId} (hs : IsSc P t) (cs : Array Value) (i : Nat) (w : World) : (part t cs i).run P w = match cs[i]? with | some v => .ok v w | none => .halt (.stuck "part: no such cell") w := by
  unfold part
  simp only [Sem.run_bind, hs w, Result.andThen_ok, Bool.false_eq_true, if_false]
  cases cs[i]? <;> rfl
theorem run_eq_str {P : Program} {t : TypeId} (h : P.underlying t = some .string) (a b : ByteArray) (w : World) : (Op.equalIn 9999 t (.string a) (.string b)).run P w = .ok (decide (a = b)) w := by
  rw [show (9999 : Nat) = 9998 + 1 from rfl]
  unfold Op.equalIn
  simp only [Sem.run_bind, run_underlying h w, Result.andThen_ok, Sem.run_pure]
  rw [beq_ba]
theorem run_eq_int {P : Program} {t : TypeId} {k : IntKind} (h : P.underlying t = some (.int k)) (a b : Int) (w : World) : (Op.equalIn 9999 t (.int k a) (.int k b)).run P w = .ok (decide (a = b)) w := by
  rw [show (9999 : Nat) = 9998 + 1 from rfl]
  unfold Op.equalIn
  simp only [Sem.run_bind, run_underlying h w, Result.andThen_ok, Sem.run_pure, if_true]
  rfl
theorem run_chk_sc {P : Program} {t : TypeId} {d : TypeDesc} (h : P.underlying t = some d) (hd : (match d with | .interface _ | .array .. | .struct _ => false | _ => true) = true) (e : Bool) (v : Value) (w : World) : (Instr.checkKey e 9999 t v).run P w = .ok () w := by
  rw [show (9999 : Nat) = 9998 + 1 from rfl]
  unfold Instr.checkKey
  simp only [Sem.run_bind, run_underlying h w, Result.andThen_ok]
  cases d <;> simp at hd <;> simp
end Go.SL
