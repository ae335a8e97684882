/- The logic's rules for slices: a slice's value reads as a list. -/
import Derived.Test.YtimhhegebkganaaGreatDoorSl5
import Derived.Laws.Append
set_option linter.unusedSimpArgs false
set_option linter.unusedVariables false
namespace Go.SL

section
variable {α : Type}

def arr (T : TypeId) (sz : Nat) (enc : α → List Value) (v : Value) (xs : List α) : Asrt :=
  ⟨fun _ h => (xs = [] ∧ ∃ a, v = .slice a 0 0) ∨ ∃ b cap spare, v = .slice (some ⟨b, 0, none⟩) xs.length cap ∧ xs.length ≤ cap ∧ (xs.flatMap enc ++ spare).length = cap * sz ∧ h b = some (.cells (xs.flatMap enc ++ spare).toArray T (0, 0)), fun _ h => h⟩

def iarr (sz : Nat) (enc : α → List Value) (v : Value) (xs : List α) : Asrt :=
  ⟨fun I _ => (xs = [] ∧ ∃ a c, v = .slice a 0 c) ∨ ∃ b o cap, v = .slice (some ⟨b, o, none⟩) xs.length cap ∧ ∃ c E fz, I b = some (.cells c E fz) ∧ ∀ j, j < xs.length * sz → c[o + j]? = (xs.flatMap enc)[j]?,
   fun f h => h.imp id fun ⟨b, o, cap, e, c, E, fz, h, r⟩ => ⟨b, o, cap, e, c, E, fz, f _ _ h, r⟩⟩

def Rd (w : World) (sz : Nat) (enc : α → List Value) (v : Value) (xs : List α) : Prop :=
  (xs = [] ∧ ∃ a c, v = .slice a 0 c) ∨ ∃ b o cap c E fz, v = .slice (some ⟨b, o, none⟩) xs.length cap ∧ w.heap[b]? = some (.cells c E fz) ∧ ∀ j, j < xs.length * sz → c[o + j]? = (xs.flatMap enc)[j]?

theorem flat_len {sz : Nat} {enc : α → List Value} (hE : ∀ x, (enc x).length = sz) : ∀ xs : List α, (xs.flatMap enc).length = xs.length * sz
  | [] => by simp
  | x :: xs => by rw [List.flatMap_cons, List.length_append, hE, flat_len hE xs, List.length_cons, Nat.succ_mul]; omega

theorem flat_drop {sz : Nat} {enc : α → List Value} (hE : ∀ x, (enc x).length = sz) : ∀ (xs : List α) (i : Nat), (xs.flatMap enc).drop (i * sz) = (xs.drop i).flatMap enc
  | [], i => by simp
  | x :: xs, 0 => by simp
  | x :: xs, i + 1 => by
    rw [List.flatMap_cons, List.drop_succ_cons, ← flat_drop hE xs i]
    have : (i + 1) * sz = (enc x).length + i * sz := by rw [hE, Nat.succ_mul]; omega
    rw [this, List.drop_append]
    simp

theorem flat_take {sz : Nat} {enc : α → List Value} (hE : ∀ x, (enc x).length = sz) : ∀ (xs : List α) (i : Nat), (xs.flatMap enc).take (i * sz) = (xs.take i).flatMap enc
  | [], i => by simp
  | x :: xs, 0 => by simp
  | x :: xs, i + 1 => by
    rw [List.flatMap_cons, List.take_succ_cons, List.flatMap_cons, ← flat_take hE xs i]
    have : (i + 1) * sz = (enc x).length + i * sz := by rw [hE, Nat.succ_mul]; omega
    rw [this, List.take_append, List.take_of_length_le (by omega)]
    simp

theorem flat_at {sz : Nat} {enc : α → List Value} (hE : ∀ x, (enc x).length = sz) {xs : List α} {i : Nat} {x : α} (h : xs[i]? = some x) {k : Nat} (hk : k < sz) : (xs.flatMap enc)[i * sz + k]? = (enc x)[k]? := by
  have hi : i < xs.length := (List.getElem?_eq_some_iff.1 h).1
  have h1 : (xs.flatMap enc)[i * sz + k]? = ((xs.flatMap enc).drop (i * sz))[k]? := by rw [List.getElem?_drop]
  rw [h1, flat_drop hE]
  have h2 : xs.drop i = x :: xs.drop (i + 1) := by
    rw [List.drop_eq_getElem_cons hi]
    have := (List.getElem?_eq_some_iff.1 h).2
    rw [this]
  rw [h2, List.flatMap_cons, List.getElem?_append_left (by rw [hE]; exact hk)]

theorem flat_set {sz : Nat} {enc : α → List Value} (hE : ∀ x, (enc x).length = sz) : ∀ (xs : List α) (i : Nat) (y : α) (spare : List Value) (l r : List Value) (k : Nat), i < xs.length → (∀ x, xs[i]? = some x → over (enc x) k l = enc y ∧ k + l.length ≤ sz) →
    over (xs.flatMap enc ++ spare) (i * sz + k) l = (xs.set i y).flatMap enc ++ spare
  | [], _, _, _, _, _, _, h, _ => by simp at h
  | x :: xs, 0, y, spare, l, r, k, _, h => by
    have hh := h x rfl
    have key : ∀ (l a rest : List Value) (k : Nat), k + l.length ≤ a.length → over (a ++ rest) k l = over a k l ++ rest := by
      intro l
      induction l with
      | nil => intro a rest k _; rfl
      | cons v l ih =>
        intro a rest k hk
        simp only [List.length_cons] at hk
        simp only [over]
        rw [List.set_append_left _ _ (by omega), ih _ _ _ (by simp; omega)]
    simp only [Nat.zero_mul, Nat.zero_add, List.flatMap_cons, List.set_cons_zero, List.append_assoc]
    rw [key l (enc x) _ k (by rw [hE]; exact hh.2), hh.1]
  | x :: xs, i + 1, y, spare, l, r, k, hi, h => by
    have ih := flat_set hE xs i y spare l r k (by simpa using hi) (fun z hz => h z (by simpa using hz))
    have key : ∀ (l a rest : List Value) (k : Nat), over (a ++ rest) (a.length + k) l = a ++ over rest k l := by
      intro l
      induction l with
      | nil => intro a rest k; rfl
      | cons v l ih =>
        intro a rest k
        simp only [over]
        rw [List.set_append_right _ _ (by omega)]
        have e : a.length + k - a.length = k := by omega
        rw [e, Nat.add_assoc, ih]
    simp only [List.flatMap_cons, List.set_cons_succ, List.append_assoc]
    have e : (i + 1) * sz + k = (enc x).length + (i * sz + k) := by rw [hE, Nat.succ_mul]; omega
    rw [e, key, ih]

inductive HasArr (sz : Nat) (enc : α → List Value) : List Asrt → Value → List α → Prop
  | own {L : List Asrt} {T : TypeId} {v : Value} {xs : List α} : arr T sz enc v xs ∈ L → HasArr sz enc L v xs
  | sh {L : List Asrt} {v : Value} {xs : List α} : iarr sz enc v xs ∈ L → HasArr sz enc L v xs
  | lit {L : List Asrt} {b : Nat} {l : List Value} {T : TypeId} {fz : Nat × Nat} {xs : List α} {n : Nat} : Has L b (.cells l.toArray T fz) → l = xs.flatMap enc → n = xs.length → HasArr sz enc L (.slice (some ⟨b, 0, none⟩) n n) xs
  | nil {L : List Asrt} {a : Option Addr} {c : Nat} : HasArr sz enc L (.slice a 0 c) []
  | sub {L : List Asrt} {a : Option Addr} {len cap l h : Nat} {xs : List α} : HasArr sz enc L (.slice a len cap) xs → l ≤ h → h ≤ xs.length → h ≤ cap → HasArr sz enc L (.slice (if cap = l then a else a.map (·.add (l * sz))) (h - l) (cap - l)) ((xs.take h).drop l)

theorem HasArr.rd {sz : Nat} {enc : α → List Value} {L : List Asrt} {v : Value} {xs : List α} {w : World} (h : HasArr sz enc L v xs) (hE : ∀ x, (enc x).length = sz) (s : Hold w L) : Rd w sz enc v xs := by
  induction h with
  | @own T v xs h =>
    obtain ⟨M, s⟩ := s.mem h
    obtain ⟨I, f, hi, hh, d, h1, h2, j, a, s⟩ := s
    rcases a with ⟨a, p, b⟩ | ⟨b, cap, spare, a1, a2, a3, a4⟩
    · exact .inl ⟨a, p, 0, b⟩
    · refine .inr ⟨b, 0, cap, _, _, _, a1, hh _ _ (j.left a4).1, fun j hj => ?_⟩
      have := flat_len hE xs
      simp only [Nat.zero_add, List.getElem?_toArray]
      rw [List.getElem?_append_left (by omega)]
  | @sh v xs h =>
    obtain ⟨M, s⟩ := s.mem h
    obtain ⟨I, f, hi, hh, d, h1, h2, j, a, s⟩ := s
    rcases a with ⟨a, p, c, b⟩ | ⟨b, o, cap, a1, c, E, fz, a2, a3⟩
    · exact .inl ⟨a, p, c, b⟩
    · exact .inr ⟨b, o, cap, c, E, fz, a1, hi _ _ a2, a3⟩
  | lit h e n => subst e; subst n; exact .inr ⟨_, 0, _, _, _, _, rfl, h.get s, fun j _ => by simp⟩
  | nil => exact .inl ⟨rfl, _, _, rfl⟩
  | @sub a len cap l h xs _ h1 h2 h3 ih =>
    have r := ih
    by_cases e : l = h
    · subst e
      refine .inl ⟨?_, _, _, by rw [Nat.sub_self]⟩
      rw [List.drop_eq_nil_of_le (by simp; omega)]
    · rcases r with ⟨rfl, _⟩ | ⟨b, o, cap', c, E, fz, ev, hb, hc⟩
      · simp at h2; omega
      · cases ev
        have hlen : ((xs.take h).drop l).length = h - l := by simp; omega
        refine .inr ⟨b, o + l * sz, cap - l, c, E, fz, ?_, hb, fun j hj => ?_⟩
        · rw [hlen, if_neg (by omega)]
          by_cases z : l * sz = 0 <;> simp [Addr.add, z]
        · rw [hlen] at hj
          have hf : ∀ ys : List α, (ys.flatMap enc).length = ys.length * sz := flat_len hE
          have e1 : xs = (xs.take h).take l ++ ((xs.take h).drop l ++ xs.drop h) := by rw [← List.append_assoc, List.take_append_drop, List.take_append_drop]
          have hl1 : ((xs.take h).take l).length = l := by simp; omega
          have hjj : l * sz + j < xs.length * sz := by
            have : (l + (h - l)) * sz ≤ xs.length * sz := Nat.mul_le_mul_right _ (by omega)
            rw [Nat.add_mul] at this; omega
          rw [Nat.add_assoc, hc _ hjj]
          conv => lhs; rw [e1]
          rw [List.flatMap_append, List.flatMap_append, List.getElem?_append_right (by rw [hf, hl1]; omega), hf, hl1, Nat.add_sub_cancel_left, List.getElem?_append_left (by rw [hf, hlen]; exact hj)]

def ptrAt (v : Value) (k : Nat) : Value :=
  match v with
  | .slice (some a) _ _ => .pointer (some (a.add k))
  | _ => .pointer none

theorem Rd.at {w : World} {sz : Nat} {enc : α → List Value} {v : Value} {xs : List α} (r : Rd w sz enc v xs) {i : Nat} {x : α} (h : xs[i]? = some x) :
    ∃ b o cap c E fz, v = .slice (some ⟨b, o, none⟩) xs.length cap ∧ w.heap[b]? = some (.cells c E fz) ∧ ∀ j, j < xs.length * sz → c[o + j]? = (xs.flatMap enc)[j]? := by
  rcases r with ⟨rfl, _⟩ | r
  · simp at h
  · exact r

theorem Rd.cell {w : World} {sz : Nat} {enc : α → List Value} {v : Value} {xs : List α} (r : Rd w sz enc v xs) (hE : ∀ x, (enc x).length = sz) {i : Nat} {x : α} (h : xs[i]? = some x) :
    ∃ a, (∀ k, ptrAt v k = .pointer (some (Addr.add a k))) ∧ a.spot = none ∧ ∀ k, k < sz → w.cell? ⟨a.block, a.off + (i * sz + k), none⟩ = (enc x)[k]? := by
  obtain ⟨b, o, cap, c, E, fz, rfl, hb, hc⟩ := r.at h
  refine ⟨⟨b, o, none⟩, fun k => rfl, rfl, fun k hk => ?_⟩
  have hi : i < xs.length := (List.getElem?_eq_some_iff.1 h).1
  have : i * sz + k < xs.length * sz := by
    have : i * sz + sz ≤ xs.length * sz := by rw [← Nat.succ_mul]; exact Nat.mul_le_mul_right _ hi
    omega
  rw [cell_of hb]
  show c[o + (i * sz + k)]? = _
  rw [hc _ this, flat_at hE h hk]

end

section ops
variable {α : Type} {X : Cx} {fr : Fr} {L : List Asrt} {ty : TypeId} {pos : String} {af : Array Edge} {dst : Option Nat}
variable {sz : Nat} {enc : α → List Value} {v : Value} {xs : List α}

theorem ev_len_arr {x : Operand} {t e s : TypeId} (ht : SliceOf X.P t e s) (hx : ev fr x = some v) (h : HasArr sz enc L v xs) (hE : ∀ x, (enc x).length = sz) :
    Ev X fr L ⟨dst, .call ⟨.builtin .len, #[x], #[t]⟩, ty, pos, af, none⟩ (.int .i64 xs.length) := fun a w ha hw => by
  rcases h.rd hE hw with ⟨rfl, p, c, rfl⟩ | ⟨b, o, cap, c, E, fz, rfl, _⟩
  · simp [execOp, resolve, ha.ev hx, invoke, builtin, Builtin.len_, ht.1 w, goInt]
  · simp [execOp, resolve, ha.ev hx, invoke, builtin, Builtin.len_, ht.1 w, goInt]

theorem addr_add (b o k : Nat) : (⟨b, o, none⟩ : Addr).add k = ⟨b, o + k, none⟩ := by
  by_cases h : k = 0
  · subst h; simp [Addr.add]
  · simp [Addr.add, h]

theorem ev_at {x y : Operand} {t e : TypeId} {k : IntKind} {i : Nat} {u : α} (ht : SliceOf X.P t e sz) (hx : ev fr x = some v) (hy : ev fr y = some (.int k (i : Int))) (h : HasArr sz enc L v xs) (hE : ∀ x, (enc x).length = sz) (hu : xs[i]? = some u) :
    Ev X fr L ⟨dst, .indexAddr t x y, ty, pos, af, none⟩ (ptrAt v (i * sz)) := fun a w ha hw => by
  obtain ⟨b, o, cap, c, E, fz, rfl, hb, _⟩ := (h.rd hE hw).at hu
  have hi : i < xs.length := (List.getElem?_eq_some_iff.1 hu).1
  simp [execOp, ha.ev hx, ha.ev hy, Instr.indexAt, asIntOf, ht.1 w, ht.2 w, hi, ptrAt]

theorem ev_at_fld {x : Operand} {s f k i : Nat} {u : α} (hf : FldAt X.P s f k) (hx : ev fr x = some (ptrAt v (i * sz))) (h : HasArr sz enc L v xs) (hE : ∀ x, (enc x).length = sz) (hu : xs[i]? = some u) :
    Ev X fr L ⟨dst, .fieldAddr s x f, ty, pos, af, none⟩ (ptrAt v (i * sz + k)) := fun a w ha hw => by
  obtain ⟨b, o, cap, c, E, fz, rfl, hb, _⟩ := (h.rd hE hw).at hu
  have e : ((⟨b, o, none⟩ : Addr).add (i * sz)).add k = (⟨b, o, none⟩ : Addr).add (i * sz + k) := by
    rw [addr_add, addr_add, addr_add, Nat.add_assoc]
  simp only [ptrAt] at hx ⊢
  simp [execOp, ha.ev hx, hf _ w, e]

theorem ev_load_at {x : Operand} {t i k : Nat} {u : α} {r : Value} (ht : IsSc X.P t) (hx : ev fr x = some (ptrAt v (i * sz + k))) (h : HasArr sz enc L v xs) (hE : ∀ x, (enc x).length = sz) (hu : xs[i]? = some u) (hr : (enc u)[k]? = some r) :
    Ev X fr L ⟨dst, .load t x, ty, pos, af, none⟩ r := fun a w ha hw => by
  obtain ⟨ad, hp, hs, hc⟩ := (h.rd hE hw).cell hE hu
  have hk : k < sz := by rw [← hE u]; exact (List.getElem?_eq_some_iff.1 hr).1
  have := hc k hk
  rw [hp] at hx
  obtain ⟨b, o, sp⟩ := ad
  simp only at hs; subst hs
  rw [addr_add] at hx
  simp only at this
  simp [execOp, ha.ev hx, Instr.loadAt, Instr.sureAddr, loadVar, ht w, this, hr]

theorem ev_load_at0 {x : Operand} {t i : Nat} {u : α} {r : Value} (ht : IsSc X.P t) (hx : ev fr x = some (ptrAt v (i * sz))) (h : HasArr sz enc L v xs) (hE : ∀ x, (enc x).length = sz) (hu : xs[i]? = some u) (hr : (enc u)[0]? = some r) :
    Ev X fr L ⟨dst, .load t x, ty, pos, af, none⟩ r := ev_load_at (k := 0) ht hx h hE hu hr

theorem ev_load_at_agg {x : Operand} {t i : Nat} {u : α} {l : List Value} (ht : IsAg X.P t sz) (hx : ev fr x = some (ptrAt v (i * sz))) (h : HasArr sz enc L v xs) (hE : ∀ x, (enc x).length = sz) (hu : xs[i]? = some u) (hl : enc u = l) :
    Ev X fr L ⟨dst, .load t x, ty, pos, af, none⟩ (.agg l.toArray) := fun a w ha hw => by
  obtain ⟨ad, hp, hs, hc⟩ := (h.rd hE hw).cell hE hu
  rw [hp] at hx
  obtain ⟨b, o, sp⟩ := ad
  simp only at hs; subst hs
  rw [addr_add] at hx
  simp only at hc
  subst hl
  have key : ∀ (n j : Nat) (acc : Array Value), j + n = sz → (loadCellsFrom ⟨b, o + i * sz, none⟩ j n acc).run X.P w = .ok (acc ++ ((enc u).drop j).toArray) w := by
    intro n
    induction n with
    | zero => intro j acc hj; simp [loadCellsFrom]; rw [hE]; omega
    | succ n ih =>
      intro j acc hj
      have h1 : j < sz := by omega
      have h2 := hc j h1
      have h3 : j < (enc u).length := by rw [hE]; exact h1
      rw [List.getElem?_eq_getElem h3] at h2
      simp only [loadCellsFrom, addr_add, Sem.run_bind, run_load]
      rw [show o + i * sz + j = o + (i * sz + j) from by omega, h2]
      simp only [Result.andThen_ok]
      rw [ih (j + 1) _ (by omega), List.drop_eq_getElem_cons h3]
      simp
  have := key sz 0 #[] (by omega)
  simp only [List.drop_zero] at this
  simp [execOp, ha.ev hx, Instr.loadAt, Instr.sureAddr, loadVar, ht.1 w, ht.2 w, loadCells, this]

/-- an element, or a part of it, is written -/
theorem eff_store_at {t i k : Nat} {x y : Operand} {T : TypeId} {u u' : α} {z : Value} {vs : List Value} {M : List Asrt} (hx : ev fr x = some (ptrAt v (i * sz + k))) (hy : ev fr y = some z)
    (hc : z.cells = vs.toArray) (ht : SizeIs X.P t vs.length) (hf : ∀ v ∈ vs, Flat v) (hup : Upd L (arr T sz enc v xs) (arr T sz enc v (xs.set i u')) M) (hE : ∀ x, (enc x).length = sz) (hu : xs[i]? = some u) (hl : LPut (enc u) k vs (enc u')) :
    Eff X fr L ⟨none, .store t x y, ty, pos, af, none⟩ (fun fr' L' => fr' = fr ∧ L' = M) := by
  intro Q hQ a w ha hs hw K hK
  left
  obtain ⟨N, h1, h2⟩ := hup.hold hw
  have hi : i < xs.length := (List.getElem?_eq_some_iff.1 hu).1
  obtain ⟨I, f, hI, hh, d, g1, g2, j, a1, s⟩ := h1
  rcases a1 with ⟨rfl, _⟩ | ⟨b, cap, spare, rfl, a2, a3, a4⟩
  · simp at hu
  have hb : w.heap[b]? = some (.cells (xs.flatMap enc ++ spare).toArray T (0, 0)) := hh _ _ (j.left a4).1
  have hole := hl.eq
  have hset := flat_set hE xs i u' spare vs [] k hi (fun z hz => by
    have : z = u := by rw [hu] at hz; cases hz; rfl
    subst this
    exact ⟨hole.1, by have := hole.2; rw [hE] at this; exact this⟩)
  have hfl := flat_len hE xs
  have hlen : i * sz + k + vs.length ≤ (xs.flatMap enc ++ spare).length := by
    have : i * sz + sz ≤ xs.length * sz := by rw [← Nat.succ_mul]; exact Nat.mul_le_mul_right _ hi
    have := hole.2
    rw [hE] at this
    rw [List.length_append, hfl]
    omega
  have hst := run_storeCells (P := X.P) (b := b) (o := i * sz + k) vs 0 (xs.flatMap enc ++ spare) w hf hb (by simpa using hlen)
  rw [Nat.add_zero, hset] at hst
  have hx' : ev fr x = some (.pointer (some ⟨b, i * sz + k, none⟩)) := by rw [hx]; simp [ptrAt, addr_add]
  have hr : (execOp a.eval ⟨none, .store t x y, ty, pos, af, none⟩).run X.P w = .ok .skip (World.put w b (.cells ((xs.set i u').flatMap enc ++ spare).toArray T (0, 0))) := by
    have hsz : z.cells.size = vs.length := by rw [hc]; simp
    simp [execOp, ha.ev hx', ha.ev hy, Instr.storeAt, Instr.sureAddr, storeVar, ht w, hsz, hc, hst]
  unfold Oper.wp
  rw [hr]
  refine hK _ _ ⟨rfl, rfl⟩ _ _ ha (same_put hs) (h2 _ ?_)
  have hblk : Hold w (blk b (.cells (xs.flatMap enc ++ spare).toArray T (0, 0)) :: (N ++ X.F)) := ⟨I, f, hI, hh, d, g1, g2, j, a4, s⟩
  have := hblk.put (.cells ((xs.set i u').flatMap enc ++ spare).toArray T (0, 0))
  obtain ⟨I, f, hI, hh, d, g1, g2, j, a4, s⟩ := this
  refine ⟨I, f, hI, hh, d, g1, g2, j, .inr ⟨b, cap, spare, by simp, by simpa using a2, ?_, a4⟩, s⟩
  rw [← a3, List.length_append, List.length_append, flat_len hE, flat_len hE]; simp

theorem eff_store_at0 {t i : Nat} {x y : Operand} {T : TypeId} {u u' : α} {z : Value} {vs : List Value} {M : List Asrt} (hx : ev fr x = some (ptrAt v (i * sz))) (hy : ev fr y = some z)
    (hc : z.cells = vs.toArray) (ht : SizeIs X.P t vs.length) (hf : ∀ v ∈ vs, Flat v) (hup : Upd L (arr T sz enc v xs) (arr T sz enc v (xs.set i u')) M) (hE : ∀ x, (enc x).length = sz) (hu : xs[i]? = some u) (hl : LPut (enc u) 0 vs (enc u')) :
    Eff X fr L ⟨none, .store t x y, ty, pos, af, none⟩ (fun fr' L' => fr' = fr ∧ L' = M) := eff_store_at (k := 0) hx hy hc ht hf hup hE hu hl

/-- what an append reads -/
theorem run_firstCells {P : Program} {w : World} (r : Rd w sz enc v xs) (hE : ∀ x, (enc x).length = sz) : (Builtin.firstCells sz xs.length v).run P w = .ok (xs.flatMap enc).toArray w := by
  rcases r with ⟨rfl, p, c, rfl⟩ | ⟨b, o, cap, c, E, fz, rfl, hb, hc⟩
  · cases p with
    | none => simp [Builtin.firstCells]
    | some p => simp [Builtin.firstCells, loadCells, loadCellsFrom]
  · simp only [Builtin.firstCells, loadCells]
    have hfl := flat_len hE xs
    have key : ∀ (n j : Nat) (acc : Array Value), j + n = xs.length * sz → (loadCellsFrom ⟨b, o, none⟩ j n acc).run P w = .ok (acc ++ ((xs.flatMap enc).drop j).toArray) w := by
      intro n
      induction n with
      | zero => intro j acc hj; simp only [loadCellsFrom, Sem.run_pure]; rw [List.drop_eq_nil_of_le (by omega)]; simp
      | succ n ih =>
        intro j acc hj
        have h1 : j < xs.length * sz := by omega
        have h2 := hc j h1
        have h3 : j < (xs.flatMap enc).length := by omega
        rw [List.getElem?_eq_getElem h3] at h2
        have hcell : w.cell? ⟨b, o + j, none⟩ = some (xs.flatMap enc)[j] := by rw [cell_of hb]; exact h2
        simp only [loadCellsFrom, addr_add, Sem.run_bind, run_load, hcell, Result.andThen_ok]
        rw [ih (j + 1) _ (by omega), List.drop_eq_getElem_cons h3]
        simp
    have := key (xs.length * sz) 0 #[] (by omega)
    simpa using this

theorem size_zeroCells (z : Array Value) (n : Nat) : (Builtin.zeroCells z n).size = n * z.size := by simp [Builtin.zeroCells]

theorem eff_append {d : Nat} {t t' T bytes : TypeId} {x y : Operand} {u zv : Value} {ys : List α} {M : List Asrt} {d' : TypeId} (hd : Nat.blt d X.n = true)
    (ht : SliceOf X.P t T sz) (ht' : X.P.underlying t' = some (.slice d')) (hz : ZeroIs X.P T zv) (hzs : zv.cells.size = sz) (hbytes : ∀ w, ∃ i, (typeInfo T).run X.P w = .ok i w ∧ i.bytes = bytes)
    (hx : ev fr x = some v) (hy : ev fr y = some u) (ht0 : Take L (arr T sz enc v xs) M) (hu : HasArr sz enc L u ys) (hE : ∀ x, (enc x).length = sz) (hflat : ∀ x, ∀ c ∈ enc x, Flat c) (hroom : (xs.length + ys.length) * bytes ≤ 140737488355328) (hpos : 0 < bytes) :
    Eff X fr L ⟨some d, .call ⟨.builtin .append, #[x, y], #[t, t']⟩, ty, pos, af, none⟩ (fun fr' L' => ∃ v', fr' = (d, v') :: fr ∧ L' = arr T sz enc v' (xs ++ ys) :: M) := by
  intro Q hQ a w ha hs hw K hK
  left
  have hwL : Hold w L := by
    have : Hold w (L ++ X.F) := hw
    obtain ⟨I, f, hI, hh, dd, s⟩ := this
    obtain ⟨g1, g2, j, s1, _⟩ := s.append
    refine ⟨I, g1, hI, fun b o e => hh b o (j.left e).1, fun b => ?_, s1⟩
    rcases dd b with e | e
    · exact .inl e
    · right
      cases hg : g1 b with
      | none => rfl
      | some o => have := (j.left hg).1; rw [e] at this; cases this
  have hur := hu.rd hE hwL
  have hxr : Rd w sz enc v xs := by
    have hp : L.Perm (arr T sz enc v xs :: M) := ht0.perm
    exact (HasArr.own (T := T) (L := arr T sz enc v xs :: M) (by simp)).rd hE (hwL.perm hp)
  have hfx := run_firstCells (P := X.P) hxr hE
  have hfy := run_firstCells (P := X.P) hur hE
  obtain ⟨i, hi, hib⟩ := hbytes w
  have hlenx : ∃ p c, v = .slice p xs.length c := by
    rcases hxr with ⟨rfl, p, c, rfl⟩ | ⟨b, o, cap, c, E, fz, rfl, _⟩
    · exact ⟨p, c, rfl⟩
    · exact ⟨_, _, rfl⟩
  have hleny : ∃ p c, u = .slice p ys.length c := by
    rcases hur with ⟨rfl, p, c, rfl⟩ | ⟨b, o, cap, c, E, fz, rfl, _⟩
    · exact ⟨p, c, rfl⟩
    · exact ⟨_, _, rfl⟩
  have hh1 : Hold w (arr T sz enc v xs :: (M ++ X.F)) := by
    have := hw.perm (List.Perm.append_right X.F ht0.perm)
    simpa using this
  have hnlen : (ys.flatMap enc).length = ys.length * sz := flat_len hE ys
  have hxlen : (xs.flatMap enc).length = xs.length * sz := flat_len hE xs
  have hund : (underlying t').run X.P w = .ok (.slice d') w := by unfold underlying program; simp [Sem.run, ht']
  obtain ⟨p, cap, rfl⟩ := hlenx
  obtain ⟨q, cap', rfl⟩ := hleny
  by_cases hfit : xs.length + ys.length ≤ cap
  · -- there is room
    obtain ⟨I, f, hI, hh, dd, g1, g2, j, a1, s⟩ := hh1
    rcases a1 with ⟨rfl, p', e⟩ | ⟨b, cap2, spare, e, a2, a3, a4⟩
    · simp only [Value.slice.injEq] at e
      obtain ⟨rfl, _, rfl⟩ := e
      have hy0 : ys = [] := by
        cases ys with
        | nil => rfl
        | cons _ _ => simp at hfit
      subst hy0
      have hr : (execOp a.eval ⟨some d, .call ⟨.builtin .append, #[x, y], #[t, t']⟩, ty, pos, af, none⟩).run X.P w = .ok (.value (.slice p 0 0)) w := by
        cases p with
        | none => simp [execOp, resolve, ha.ev hx, ha.ev hy, invoke, builtin, Builtin.append_, ht.1 w, ht.2 w, hund, Builtin.lenOf, Builtin.firstCells] at hfy ⊢; cases q <;> simp [Builtin.firstCells, loadCells, loadCellsFrom]
        | some p => simp [execOp, resolve, ha.ev hx, ha.ev hy, invoke, builtin, Builtin.append_, ht.1 w, ht.2 w, hund, Builtin.lenOf]; cases q <;> simp [Builtin.firstCells, loadCells, loadCellsFrom, storeCells]
      unfold Oper.wp
      rw [hr]
      exact hK _ _ ⟨_, rfl, rfl⟩ _ _ (ha.put _ (Nat.le_of_ble_eq_true hd)) hs ⟨I, f, hI, hh, dd, g1, g2, j, .inl ⟨rfl, p, rfl⟩, s⟩
    · simp only [Value.slice.injEq] at e
      obtain ⟨rfl, _, rfl⟩ := e
      have hb : w.heap[b]? = some (.cells (xs.flatMap enc ++ spare).toArray T (0, 0)) := hh _ _ (j.left a4).1
      have hsp : ys.length * sz ≤ spare.length := by
        rw [List.length_append, hxlen] at a3
        have := Nat.mul_le_mul_right sz hfit
        rw [Nat.add_mul] at this
        omega
      have hst := run_storeCells (P := X.P) (b := b) (o := xs.length * sz) (ys.flatMap enc) 0 (xs.flatMap enc ++ spare) w (fun c hc => by
        obtain ⟨y, _, hy⟩ := List.mem_flatMap.1 hc
        exact hflat y c hy) hb (by rw [List.length_append, hxlen, hnlen]; omega)
      have hov : over (xs.flatMap enc ++ spare) (xs.length * sz + 0) (ys.flatMap enc) = (xs ++ ys).flatMap enc ++ spare.drop (ys.length * sz) := by
        have key : ∀ (l a rest : List Value), l.length ≤ rest.length → over (a ++ rest) a.length l = a ++ l ++ rest.drop l.length := by
          intro l
          induction l with
          | nil => intro a rest _; simp [over]
          | cons v l ih =>
            intro a rest hr
            cases rest with
            | nil => simp at hr
            | cons r rest =>
              simp only [over]
              rw [List.set_append_right _ _ (Nat.le_refl _)]
              simp only [Nat.sub_self, List.set_cons_zero, List.length_cons, List.drop_succ_cons]
              have := ih (a ++ [v]) rest (by simpa using hr)
              simp only [List.length_append, List.length_cons, List.length_nil, List.append_assoc, List.cons_append, List.nil_append] at this ⊢
              exact this
        have := key (ys.flatMap enc) (xs.flatMap enc) spare (by omega)
        rw [hxlen, hnlen] at this
        rw [Nat.add_zero, this, List.flatMap_append]
      rw [hov] at hst
      have hr : (execOp a.eval ⟨some d, .call ⟨.builtin .append, #[x, y], #[t, t']⟩, ty, pos, af, none⟩).run X.P w = .ok (.value (.slice (some ⟨b, 0, none⟩) (xs.length + ys.length) cap)) (World.put w b (.cells ((xs ++ ys).flatMap enc ++ spare.drop (ys.length * sz)).toArray T (0, 0))) := by
        simp [execOp, resolve, ha.ev hx, ha.ev hy, invoke, builtin, Builtin.append_, ht.1 w, ht.2 w, hund, Builtin.lenOf, hfit, hfy, addr_add, hst]
      unfold Oper.wp
      rw [hr]
      have hblk : Hold w (blk b (.cells (xs.flatMap enc ++ spare).toArray T (0, 0)) :: (M ++ X.F)) := ⟨I, f, hI, hh, dd, g1, g2, j, a4, s⟩
      obtain ⟨I, f, hI, hh, dd, g1, g2, j, a4, s⟩ := hblk.put (.cells ((xs ++ ys).flatMap enc ++ spare.drop (ys.length * sz)).toArray T (0, 0))
      refine hK _ _ ⟨_, rfl, rfl⟩ _ _ (ha.put _ (Nat.le_of_ble_eq_true hd)) (same_put hs) ⟨I, f, hI, hh, dd, g1, g2, j, .inr ⟨b, cap, spare.drop (ys.length * sz), by simp, by simpa using hfit, ?_, a4⟩, s⟩
      rw [List.length_append] at a3 ⊢
      rw [flat_len hE, List.length_append, List.length_drop, Nat.add_mul]
      omega
  · -- a new block
    have hgt : cap < xs.length + ys.length := by omega
    have hfits := growslice_fits hgt hroom
    have hnb : ¬ (Builtin.nextslicecap (xs.length + ys.length) cap * i.bytes > 2 ^ 48) := by rw [hib]; have : (2 : Nat) ^ 48 = 281474976710656 := by decide
                                                                                             omega
    have hneed : xs.length + ys.length < 2 ^ 63 := by
      have h1 : xs.length + ys.length ≤ (xs.length + ys.length) * bytes := Nat.le_mul_of_pos_right _ hpos
      have : (2 : Nat) ^ 63 = 9223372036854775808 := by decide
      omega
    have hi64 : ¬ (((xs.length + ys.length : Nat) : Int) > IntKind.i64.max ∧ (false = true ∨ i.bytes = 0)) := by
      rintro ⟨_, h | h⟩
      · cases h
      · rw [hib] at h; exact absurd h (Nat.pos_iff_ne_zero.1 hpos)
    let newCap := Question.cut (.appendCap (xs.length + ys.length) cap T) (w.tape w.drawn (.appendCap (xs.length + ys.length) cap T))
    have hcap : xs.length + ys.length ≤ newCap := by show _ ≤ _ + _; omega
    have hr : (execOp a.eval ⟨some d, .call ⟨.builtin .append, #[x, y], #[t, t']⟩, ty, pos, af, none⟩).run X.P w =
        .ok (.value (.slice (some ⟨w.heap.size, 0, none⟩) (xs.length + ys.length) newCap)) (w.drew.alloc (.cells ((xs.flatMap enc).toArray ++ ((ys.flatMap enc).toArray ++ Builtin.zeroCells zv.cells (newCap - (xs.length + ys.length)))) T (0, 0))) := by
      have hx' : (Builtin.firstCells sz xs.length (.slice p xs.length cap)).run X.P w.drew = .ok (xs.flatMap enc).toArray w.drew := by
        have : Rd w.drew sz enc (.slice p xs.length cap) xs := hxr
        exact run_firstCells this hE
      have hy' : (Builtin.firstCells sz ys.length (.slice q ys.length cap')).run X.P w.drew = .ok (ys.flatMap enc).toArray w.drew := by
        have : Rd w.drew sz enc (.slice q ys.length cap') ys := hur
        exact run_firstCells this hE
      have hask : ∀ w' n, (askRoom n).run X.P w' = .ok () w' := fun w' n => by unfold askRoom mark; split <;> simp [Sem.run]
      have hch : (choose (.appendCap (xs.length + ys.length) cap T)).run X.P w = .ok newCap w.drew := by
        simp [choose, Sem.run, Question.forced]; rfl
      have hty : ∀ w', (typeInfo T).run X.P w' = .ok i w' := fun w' => by
        unfold typeInfo program at hi ⊢
        simp only [Sem.run_bind, Sem.run, Result.andThen_ok, Sem.run_pure] at hi ⊢
        split at hi <;> simp_all
      have hb0 : ¬ i.bytes = 0 := by rw [hib]; exact Nat.pos_iff_ne_zero.1 hpos
      have hnb' : ¬ 281474976710656 < Builtin.nextslicecap (xs.length + ys.length) cap * i.bytes := by rw [hib]; omega
      have hforced : (Question.appendCap (xs.length + ys.length) cap T).forced = false := rfl
      simp [execOp, resolve, ha.ev hx, ha.ev hy, invoke, builtin, Builtin.append_, ht.1 w, ht.2 w, hund, Builtin.lenOf, hfit, hty, hb0, hnb', hforced, hx', hy', hz w.drew, newRow, newObj, Sem.run, newCap]
    unfold Oper.wp
    rw [hr]
    have hrow := (hh1.drop.heap (w' := w.drew) rfl).alloc (.cells ((xs.flatMap enc).toArray ++ ((ys.flatMap enc).toArray ++ Builtin.zeroCells zv.cells (newCap - (xs.length + ys.length)))) T (0, 0))
    refine hK _ _ ⟨_, rfl, rfl⟩ _ _ (ha.put _ (Nat.le_of_ble_eq_true hd)) (by first | exact hs | exact hs.drew) ?_
    obtain ⟨I, f, hI, hh, dd, g1, g2, j, a4, s⟩ := hrow
    have hz1 : (Builtin.zeroCells zv.cells (newCap - (xs.length + ys.length))).toList.length = (newCap - (xs.length + ys.length)) * sz := by rw [Array.length_toList, size_zeroCells, hzs]
    refine ⟨I, f, hI, hh, dd, g1, g2, j, .inr ⟨w.heap.size, newCap, (Builtin.zeroCells zv.cells (newCap - (xs.length + ys.length))).toList, by simp [World.drew], by simpa using hcap, ?_, ?_⟩, s⟩
    · rw [List.length_append, flat_len hE, List.length_append, hz1, Nat.sub_mul]
      have := Nat.mul_le_mul_right sz hcap
      omega
    · have a5 : g1 w.heap.size = _ := a4
      rw [a5]
      simp [List.flatMap_append]

end ops
end Go.SL
