/- The logic's rules for operations that only compute or read. -/
import Derived.Test.YtimhhegebkganaaGreatDoorSl2
import Derived.Laws.Small
import Derived.Laws.Strings
set_option linter.unusedSimpArgs false
set_option linter.unusedVariables false
namespace Go.SL

/-! ### closed facts on types, laid once a type -/
def IsSc (P : Program) (t : TypeId) : Prop := ∀ w, (isAgg t).run P w = .ok false w
def IsAg (P : Program) (t : TypeId) (k : Nat) : Prop := (∀ w, (isAgg t).run P w = .ok true w) ∧ ∀ w, (sizeOf t).run P w = .ok k w
def SizeIs (P : Program) (t : TypeId) (k : Nat) : Prop := ∀ w, (sizeOf t).run P w = .ok k w
def FldAt (P : Program) (s : TypeId) (f k : Nat) : Prop := ∀ (a : Addr) (w : World), (Instr.fieldAt s (.pointer (some a)) f).run P w = .ok (.pointer (some (a.add k))) w
def SliceOf (P : Program) (t e k : Nat) : Prop := (∀ w, (underlying t).run P w = .ok (.slice e) w) ∧ ∀ w, (sizeOf e).run P w = .ok k w
def IsStr (P : Program) (t : TypeId) : Prop := ∀ w, (underlying t).run P w = .ok .string w
def ZeroIs (P : Program) (t : TypeId) (v : Value) : Prop := ∀ w, (zeroValue t).run P w = .ok v w
def IsMap (P : Program) (t kt et : TypeId) : Prop := ∀ w, (underlying t).run P w = .ok (.map kt et) w

theorem isSc_of {P : Program} {t : TypeId} {d : TypeDesc} (h : P.underlying t = some d) (hd : (match d with | .struct _ | .array _ _ => false | _ => true) = true) : IsSc P t := by
  intro w
  unfold isAgg underlying program
  simp only [Sem.run_bind, Sem.run, Sem.run_pure, Result.andThen_ok, h]
  cases d <;> simp at hd <;> rfl
theorem sizeIs_of {P : Program} {t : TypeId} {i : TypeInfo} {k : Nat} (h : P.info? t = some i) (hk : i.size = k) : SizeIs P t k := by
  intro w
  unfold sizeOf typeInfo program
  simp [Sem.run, h, hk]
theorem isAg_of {P : Program} {t : TypeId} {d : TypeDesc} {i : TypeInfo} {k : Nat} (h : P.underlying t = some d) (hd : (match d with | .struct _ | .array _ _ => true | _ => false) = true) (hi : P.info? t = some i) (hk : i.size = k) : IsAg P t k := by
  refine ⟨fun w => ?_, sizeIs_of hi hk⟩
  unfold isAgg underlying program
  simp only [Sem.run_bind, Sem.run, Sem.run_pure, Result.andThen_ok, h]
  cases d <;> simp at hd <;> rfl
theorem sliceOf_of {P : Program} {t e k : Nat} {i : TypeInfo} (h : P.underlying t = some (.slice e)) (hi : P.info? e = some i) (hk : i.size = k) : SliceOf P t e k :=
  ⟨fun w => by unfold underlying program; simp [Sem.run, h], sizeIs_of hi hk⟩
theorem isStr_of {P : Program} {t : Nat} (h : P.underlying t = some .string) : IsStr P t := fun w => by unfold underlying program; simp [Sem.run, h]
theorem isMap_of {P : Program} {t kt et : Nat} (h : P.underlying t = some (.map kt et)) : IsMap P t kt et := fun w => by unfold underlying program; simp [Sem.run, h]
theorem zeroIs_of {P : Program} {t : Nat} {i : TypeInfo} {v : Value} (hi : P.info? t = some i) (hz : i.zero = some v) : ZeroIs P t v := fun w => by
  unfold zeroValue typeInfo program; simp [Sem.run, hi, hz]

/-! ### lists of cells -/
inductive LDrop : List Value → Nat → List Value → Prop
  | zero {l : List Value} : LDrop l 0 l
  | succ {a : Value} {l m : List Value} {n : Nat} : LDrop l n m → LDrop (a :: l) (n + 1) m
inductive LTake : List Value → Nat → List Value → Prop
  | zero {l : List Value} : LTake l 0 []
  | succ {a : Value} {l m : List Value} {n : Nat} : LTake l n m → LTake (a :: l) (n + 1) (a :: m)
inductive LSet : List Value → Nat → Value → List Value → Prop
  | zero {a v : Value} {l : List Value} : LSet (a :: l) 0 v (v :: l)
  | succ {a v : Value} {l m : List Value} {n : Nat} : LSet l n v m → LSet (a :: l) (n + 1) v (a :: m)
theorem LDrop.eq {l m : List Value} {n : Nat} (h : LDrop l n m) : l.drop n = m := by
  induction h with
  | zero => rfl
  | succ _ ih => simpa using ih
theorem LTake.eq {l m : List Value} {n : Nat} (h : LTake l n m) : l.take n = m ∧ n ≤ l.length := by
  induction h with
  | zero => simp
  | succ _ ih => simp [ih.1]; exact ih.2
theorem LSet.eq {l m : List Value} {n : Nat} {v : Value} (h : LSet l n v m) : l.set n v = m ∧ n < l.length := by
  induction h with
  | zero => simp
  | succ _ ih => simp [ih.1]; exact ih.2

/-! ### values -/
section quiet
variable {X : Cx} {fr : Fr} {L : List Asrt} {dst : Option Nat} {ty : TypeId} {pos : String} {af : Array Edge}

/-- Whatever the operation reckons by itself, laid as an equation. -/
theorem ev_run {op : Op} {v : Value} (f : (Operand → Value) → Prop) (hf : ∀ a, Agree X.n fr a → f a.eval)
    (h : ∀ ρ, f ρ → ∀ w, (execOp ρ ⟨dst, op, ty, pos, af, none⟩).run X.P w = .ok (.value v) w) : Ev X fr L ⟨dst, op, ty, pos, af, none⟩ v := fun a w ha _ => h a.eval (hf a ha) w

theorem ev_move {x : Operand} {v : Value} (h : ev fr x = some v) : Ev X fr L ⟨dst, .move x, ty, pos, af, none⟩ v := fun a w ha _ => by simp [execOp, ha.ev h]
theorem ev_assign {x : Operand} {v : Value} (h : ev fr x = some v) : Ev X fr L ⟨dst, .assign x, ty, pos, af, none⟩ v := fun a w ha _ => by simp [execOp, ha.ev h]
theorem ev_pick {c x y : Operand} {b : Bool} {u v : Value} (hc : ev fr c = some (.bool b)) (hx : ev fr x = some u) (hy : ev fr y = some v) :
    Ev X fr L ⟨dst, .pick c x y, ty, pos, af, none⟩ (bif b then u else v) := fun a w ha _ => by
  simp only [execOp, ha.ev hc, ha.ev hx, ha.ev hy]
  cases b <;> simp [asBool]
/-- both sides of && and ||, where the second was passed over: whatever its slot holds -/
theorem ev_pick_true {c x y : Operand} {u : Value} (hc : ev fr c = some (.bool true)) (hx : ev fr x = some u) :
    Ev X fr L ⟨dst, .pick c x y, ty, pos, af, none⟩ u := fun a w ha _ => by simp [execOp, ha.ev hc, ha.ev hx, asBool]
theorem ev_pick_false {c x y : Operand} {u : Value} (hc : ev fr c = some (.bool false)) (hy : ev fr y = some u) :
    Ev X fr L ⟨dst, .pick c x y, ty, pos, af, none⟩ u := fun a w ha _ => by simp [execOp, ha.ev hc, ha.ev hy, asBool]

theorem ev_nil_ptr {x : Operand} {p : Addr} (h : ev fr x = some (.pointer (some p))) : Ev X fr L ⟨dst, .nilCheck x, ty, pos, af, none⟩ (.pointer (some p)) := fun a w ha _ => by
  simp [execOp, ha.ev h]
theorem ev_nil_func {x : Operand} {f : FuncId} {y z : Array Value} (h : ev fr x = some (.func (.func f) y z)) : Ev X fr L ⟨dst, .nilCheck x, ty, pos, af, none⟩ (.func (.func f) y z) := fun a w ha _ => by
  simp [execOp, ha.ev h]

theorem ev_extract {x : Operand} {vs : Array Value} {i : Nat} {v : Value} (h : ev fr x = some (.tuple vs)) (hv : vs[i]? = some v) : Ev X fr L ⟨dst, .extract x i, ty, pos, af, none⟩ v := fun a w ha _ => by
  simp [execOp, ha.ev h, Instr.extract, hv]

theorem ev_fieldAddr {x : Operand} {s f b o k o' : Nat} (hf : FldAt X.P s f k) (h : ev fr x = some (.pointer (some ⟨b, o, none⟩))) (ho : o + k = o') :
    Ev X fr L ⟨dst, .fieldAddr s x f, ty, pos, af, none⟩ (.pointer (some ⟨b, o', none⟩)) := fun a w ha _ => by
  have e : (⟨b, o, none⟩ : Addr).add k = ⟨b, o', none⟩ := by
    subst ho
    by_cases hk : k = 0
    · subst hk; simp [Addr.add]
    · simp [Addr.add, hk]
  simp [execOp, ha.ev h, hf _ w, e]

theorem cell_of {w : World} {b o : Nat} {c : Array Value} {T : TypeId} {fz : Nat × Nat} (h : w.heap[b]? = some (.cells c T fz)) : w.cell? ⟨b, o, none⟩ = c[o]? := by
  simp [World.cell?, h]

theorem ev_load {x : Operand} {t b o : Nat} {l : List Value} {T : TypeId} {fz : Nat × Nat} {v : Value} (ht : IsSc X.P t) (h : ev fr x = some (.pointer (some ⟨b, o, none⟩)))
    (hb : Has L b (.cells l.toArray T fz)) (hv : l[o]? = some v) : Ev X fr L ⟨dst, .load t x, ty, pos, af, none⟩ v := fun a w ha hw => by
  have hc : w.cell? ⟨b, o, none⟩ = some v := by rw [cell_of (hb.get hw)]; simpa using hv
  simp [execOp, ha.ev h, Instr.loadAt, Instr.sureAddr, loadVar, ht w, hc]

theorem run_loadCellsFrom {P : Program} {w : World} {b o : Nat} {l : List Value} (hb : ∀ i, w.cell? ⟨b, i, none⟩ = l[i]?) :
    ∀ (k i : Nat) (acc : Array Value), o + i + k ≤ l.length → (loadCellsFrom ⟨b, o, none⟩ i k acc).run P w = .ok (acc ++ ((l.drop (o + i)).take k).toArray) w
  | 0, i, acc, _ => by simp [loadCellsFrom]
  | k + 1, i, acc, h => by
    have e : (⟨b, o, none⟩ : Addr).add i = ⟨b, o + i, none⟩ := by
      by_cases hi : i = 0
      · subst hi; simp [Addr.add]
      · simp [Addr.add, hi]
    have hlt : o + i < l.length := by omega
    have hc : w.cell? ⟨b, o + i, none⟩ = some l[o + i] := by rw [hb]; simp [hlt]
    simp only [loadCellsFrom, e, Sem.run_bind, run_load, hc, Result.andThen_ok]
    rw [run_loadCellsFrom hb k (i + 1) _ (by omega)]
    have : List.drop (o + i) l = l[o + i] :: List.drop (o + (i + 1)) l := by
      rw [List.drop_eq_getElem_cons hlt]; rfl
    rw [this]
    simp

theorem ev_load_agg {x : Operand} {t b o k : Nat} {l m r : List Value} {T : TypeId} {fz : Nat × Nat} (ht : IsAg X.P t k) (h : ev fr x = some (.pointer (some ⟨b, o, none⟩)))
    (hb : Has L b (.cells l.toArray T fz)) (hd : LDrop l o m) (hk : LTake m k r) : Ev X fr L ⟨dst, .load t x, ty, pos, af, none⟩ (.agg r.toArray) := fun a w ha hw => by
  have hc : ∀ i, w.cell? ⟨b, i, none⟩ = l[i]? := fun i => by rw [cell_of (hb.get hw)]; simp
  have h1 := hd.eq
  obtain ⟨h2, h3⟩ := hk.eq
  have hlen : o + 0 + k ≤ l.length := by
    rw [← h1] at h3; simp at h3
    rcases Nat.eq_zero_or_pos k with hk0 | hk0
    · subst hk0
      have : o ≤ l.length := by
        clear h hb h1 h2 h3 hc
        induction hd with
        | zero => omega
        | succ _ ih => simp; exact ih hk
      omega
    · omega
  have := run_loadCellsFrom (P := X.P) hc k 0 #[] hlen
  simp [execOp, ha.ev h, Instr.loadAt, Instr.sureAddr, loadVar, ht.1 w, ht.2 w, loadCells, this, h1, h2]

/-! integers -/
theorem ev_bin {x y : Operand} {op : BinOp} {xt yt : TypeId} {k k' : IntKind} {m n : Int} {v : Value} (hx : ev fr x = some (.int k m)) (hy : ev fr y = some (.int k' n))
    (h : ∀ w, (binOp op xt (.int k m) (.int k' n)).run X.P w = .ok v w) : Ev X fr L ⟨dst, .binOp op xt x y yt, ty, pos, af, none⟩ v := fun a w ha _ => by
  have hg : ∀ a b, (eqGuard op xt a b (.int k m) (.int k' n)).run X.P w = .ok () w := fun a b => by
    unfold eqGuard; cases op <;> simp
  simp [execOp, ha.ev hx, ha.ev hy, hg, h w]

variable {x y : Operand} {xt yt : TypeId} {k : IntKind} {m n : Int}
theorem ev_lss (hx : ev fr x = some (.int k m)) (hy : ev fr y = some (.int k n)) : Ev X fr L ⟨dst, .binOp .lss xt x y yt, ty, pos, af, none⟩ (.bool (decide (m < n))) := ev_bin hx hy fun w => by simp [binOp, Op.intCmp]
theorem ev_leq (hx : ev fr x = some (.int k m)) (hy : ev fr y = some (.int k n)) : Ev X fr L ⟨dst, .binOp .leq xt x y yt, ty, pos, af, none⟩ (.bool (decide (m ≤ n))) := ev_bin hx hy fun w => by simp [binOp, Op.intCmp]
theorem ev_gtr (hx : ev fr x = some (.int k m)) (hy : ev fr y = some (.int k n)) : Ev X fr L ⟨dst, .binOp .gtr xt x y yt, ty, pos, af, none⟩ (.bool (decide (m > n))) := ev_bin hx hy fun w => by simp [binOp, Op.intCmp]
theorem ev_geq (hx : ev fr x = some (.int k m)) (hy : ev fr y = some (.int k n)) : Ev X fr L ⟨dst, .binOp .geq xt x y yt, ty, pos, af, none⟩ (.bool (decide (m ≥ n))) := ev_bin hx hy fun w => by simp [binOp, Op.intCmp]
theorem ev_eql (hx : ev fr x = some (.int k m)) (hy : ev fr y = some (.int k n)) : Ev X fr L ⟨dst, .binOp .eql xt x y yt, ty, pos, af, none⟩ (.bool (decide (m = n))) := ev_bin hx hy fun w => by
  have : (m == n) = decide (m = n) := by by_cases h : m = n <;> simp [h]
  simp [binOp, Op.intCmp, this]
theorem ev_neq (hx : ev fr x = some (.int k m)) (hy : ev fr y = some (.int k n)) : Ev X fr L ⟨dst, .binOp .neq xt x y yt, ty, pos, af, none⟩ (.bool (decide (m ≠ n))) := ev_bin hx hy fun w => by
  have : (m != n) = decide (m ≠ n) := by by_cases h : m = n <;> simp [h]
  simp [binOp, Op.intCmp, this]
theorem ev_add (hx : ev fr x = some (.int k m)) (hy : ev fr y = some (.int k n)) : Ev X fr L ⟨dst, .binOp .add xt x y yt, ty, pos, af, none⟩ (.int k (k.wrap (m + n))) := ev_bin hx hy fun w => by simp [binOp, Op.intArith]
theorem ev_sub (hx : ev fr x = some (.int k m)) (hy : ev fr y = some (.int k n)) : Ev X fr L ⟨dst, .binOp .sub xt x y yt, ty, pos, af, none⟩ (.int k (k.wrap (m - n))) := ev_bin hx hy fun w => by simp [binOp, Op.intArith]
theorem ev_mul (hx : ev fr x = some (.int k m)) (hy : ev fr y = some (.int k n)) : Ev X fr L ⟨dst, .binOp .mul xt x y yt, ty, pos, af, none⟩ (.int k (k.wrap (m * n))) := ev_bin hx hy fun w => by simp [binOp, Op.intArith]
theorem wrap_i64 {n : Int} (h : -9223372036854775808 ≤ n ∧ n ≤ 9223372036854775807) : IntKind.i64.wrap n = n := by
  unfold IntKind.wrap
  simp [IntKind.bits, IntKind.signed]
  split <;> omega
theorem ev_add' (hx : ev fr x = some (.int .i64 m)) (hy : ev fr y = some (.int .i64 n)) (h : -9223372036854775808 ≤ m + n ∧ m + n ≤ 9223372036854775807) : Ev X fr L ⟨dst, .binOp .add xt x y yt, ty, pos, af, none⟩ (.int .i64 (m + n)) := by
  have := ev_add (X := X) (L := L) (dst := dst) (xt := xt) (yt := yt) (ty := ty) (pos := pos) (af := af) hx hy
  rwa [wrap_i64 h] at this
theorem ev_sub' (hx : ev fr x = some (.int .i64 m)) (hy : ev fr y = some (.int .i64 n)) (h : -9223372036854775808 ≤ m - n ∧ m - n ≤ 9223372036854775807) : Ev X fr L ⟨dst, .binOp .sub xt x y yt, ty, pos, af, none⟩ (.int .i64 (m - n)) := by
  have := ev_sub (X := X) (L := L) (dst := dst) (xt := xt) (yt := yt) (ty := ty) (pos := pos) (af := af) hx hy
  rwa [wrap_i64 h] at this
theorem ev_mul' (hx : ev fr x = some (.int .i64 m)) (hy : ev fr y = some (.int .i64 n)) (h : -9223372036854775808 ≤ m * n ∧ m * n ≤ 9223372036854775807) : Ev X fr L ⟨dst, .binOp .mul xt x y yt, ty, pos, af, none⟩ (.int .i64 (m * n)) := by
  have := ev_mul (X := X) (L := L) (dst := dst) (xt := xt) (yt := yt) (ty := ty) (pos := pos) (af := af) hx hy
  rwa [wrap_i64 h] at this
/-- division of what is not below 0 by what is above it -/
theorem ev_quo' (hx : ev fr x = some (.int .i64 m)) (hy : ev fr y = some (.int .i64 n)) (hm : 0 ≤ m ∧ m ≤ 9223372036854775807) (hn : 0 < n) : Ev X fr L ⟨dst, .binOp .quo xt x y yt, ty, pos, af, none⟩ (.int .i64 (m / n)) := ev_bin hx hy fun w => by
  have h0 : n ≠ 0 := by omega
  have e : m.tdiv n = m / n := Int.tdiv_eq_ediv_of_nonneg hm.1
  have h1 : m / n ≤ m := Int.ediv_le_self n hm.1
  have h2 : 0 ≤ m / n := Int.ediv_nonneg hm.1 (by omega)
  simp [binOp, Op.intDiv, h0, e, wrap_i64 (n := m / n) ⟨by omega, by omega⟩]
theorem ev_rem' (hx : ev fr x = some (.int k m)) (hy : ev fr y = some (.int k n)) (hm : 0 ≤ m) (hn : 0 < n) : Ev X fr L ⟨dst, .binOp .rem xt x y yt, ty, pos, af, none⟩ (.int k (m % n)) := ev_bin hx hy fun w => by
  have h0 : n ≠ 0 := by omega
  have e : m.tmod n = m % n := Int.tmod_eq_emod_of_nonneg hm
  simp [binOp, Op.intDiv, h0, e]
theorem ev_rem (hx : ev fr x = some (.int k m)) (hy : ev fr y = some (.int k n)) (hn : n ≠ 0) : Ev X fr L ⟨dst, .binOp .rem xt x y yt, ty, pos, af, none⟩ (.int k (m.tmod n)) := ev_bin hx hy fun w => by
  simp [binOp, Op.intDiv, hn]
theorem ev_quo (hx : ev fr x = some (.int k m)) (hy : ev fr y = some (.int k n)) (hn : n ≠ 0) : Ev X fr L ⟨dst, .binOp .quo xt x y yt, ty, pos, af, none⟩ (.int k (k.wrap (m.tdiv n))) := ev_bin hx hy fun w => by
  simp [binOp, Op.intDiv, hn]
def bitsOf (op : BinOp) (k : IntKind) (x y : Int) : Int :=
  let a := BitVec.ofInt k.bits x
  let b := BitVec.ofInt k.bits y
  match op with
  | .and => k.wrap (a &&& b).toNat
  | .or => k.wrap (a ||| b).toNat
  | .xor => k.wrap (a ^^^ b).toNat
  | _ => k.wrap (a &&& ~~~b).toNat
theorem ev_and (hx : ev fr x = some (.int k m)) (hy : ev fr y = some (.int k n)) : Ev X fr L ⟨dst, .binOp .and xt x y yt, ty, pos, af, none⟩ (.int k (bitsOf .and k m n)) := ev_bin hx hy fun w => by simp [binOp, Op.intBits, bitsOf]
theorem ev_or (hx : ev fr x = some (.int k m)) (hy : ev fr y = some (.int k n)) : Ev X fr L ⟨dst, .binOp .or xt x y yt, ty, pos, af, none⟩ (.int k (bitsOf .or k m n)) := ev_bin hx hy fun w => by simp [binOp, Op.intBits, bitsOf]
theorem ev_xor (hx : ev fr x = some (.int k m)) (hy : ev fr y = some (.int k n)) : Ev X fr L ⟨dst, .binOp .xor xt x y yt, ty, pos, af, none⟩ (.int k (bitsOf .xor k m n)) := ev_bin hx hy fun w => by simp [binOp, Op.intBits, bitsOf]
theorem ev_andNot (hx : ev fr x = some (.int k m)) (hy : ev fr y = some (.int k n)) : Ev X fr L ⟨dst, .binOp .andNot xt x y yt, ty, pos, af, none⟩ (.int k (bitsOf .andNot k m n)) := ev_bin hx hy fun w => by simp [binOp, Op.intBits, bitsOf]
theorem ev_shl {k' : IntKind} (hx : ev fr x = some (.int k m)) (hy : ev fr y = some (.int k' n)) (hn : 0 ≤ n) : Ev X fr L ⟨dst, .binOp .shl xt x y yt, ty, pos, af, none⟩ (.int k (k.wrap (m * 2 ^ (min n.toNat k.bits)))) := ev_bin hx hy fun w => by
  have : ¬ n < 0 := by omega
  simp [binOp, Op.shift, this]
theorem ev_shr {k' : IntKind} (hx : ev fr x = some (.int k m)) (hy : ev fr y = some (.int k' n)) (hn : 0 ≤ n) : Ev X fr L ⟨dst, .binOp .shr xt x y yt, ty, pos, af, none⟩ (.int k (m.fdiv (2 ^ (min n.toNat k.bits)))) := ev_bin hx hy fun w => by
  have : ¬ n < 0 := by omega
  simp [binOp, Op.shift, this]

/-! texts -/
theorem toList_inj {s t : ByteArray} : s.toList = t.toList ↔ s = t := by
  constructor
  · intro h
    rw [Go.ByteArray.toList_eq, Go.ByteArray.toList_eq] at h
    cases s; cases t
    simpa using h
  · exact fun h => h ▸ rfl
theorem beq_ba (a b : ByteArray) : (a == b) = decide (a = b) := by
  show (a.data == b.data) = _
  by_cases h : a = b
  · subst h; simp
  · have : a.data ≠ b.data := fun e => h (by cases a; cases b; simp_all)
    simp [h, this]

theorem str_beq (s t : ByteArray) : (s.toList == t.toList) = decide (s = t) := by
  by_cases h : s = t
  · subst h; simp
  · simp [h, toList_inj]

theorem ev_sbin {op : BinOp} {s t : ByteArray} {v : Value} (hx : ev fr x = some (.string s)) (hy : ev fr y = some (.string t))
    (h : ∀ w, (Op.stringOp op s t).run X.P w = .ok v w) (ho : (match op with | .shl | .shr => false | _ => true) = true) : Ev X fr L ⟨dst, .binOp op xt x y yt, ty, pos, af, none⟩ v := fun a w ha _ => by
  have hg : ∀ a b, (eqGuard op xt a b (.string s) (.string t)).run X.P w = .ok () w := fun a b => by
    unfold eqGuard; cases op <;> simp
  have hb : binOp op xt (.string s) (.string t) = Op.stringOp op s t := by cases op <;> first | rfl | (simp at ho)
  simp [execOp, ha.ev hx, ha.ev hy, hg, hb, h w]
theorem ev_seql {s t : ByteArray} (hx : ev fr x = some (.string s)) (hy : ev fr y = some (.string t)) : Ev X fr L ⟨dst, .binOp .eql xt x y yt, ty, pos, af, none⟩ (.bool (decide (s = t))) :=
  ev_sbin hx hy (fun w => by simp [Op.stringOp, str_beq]) rfl
theorem ev_sneq {s t : ByteArray} (hx : ev fr x = some (.string s)) (hy : ev fr y = some (.string t)) : Ev X fr L ⟨dst, .binOp .neq xt x y yt, ty, pos, af, none⟩ (.bool (decide (s ≠ t))) :=
  ev_sbin hx hy (fun w => by
    have := str_beq s t
    simp only [Op.stringOp, this]
    by_cases h : s = t <;> simp [h]) rfl
theorem ev_sadd {s t : ByteArray} (hx : ev fr x = some (.string s)) (hy : ev fr y = some (.string t)) (h : s.size + t.size ≤ 9223372036854775807) : Ev X fr L ⟨dst, .binOp .add xt x y yt, ty, pos, af, none⟩ (.string (s ++ t)) :=
  ev_sbin hx hy (fun w => by
    have : ¬ ((s.size : Int) + t.size > IntKind.i64.max) := by
      have : IntKind.i64.max = 9223372036854775807 := rfl
      omega
    simp [Op.stringOp]
    omega) rfl

/-! bools -/
theorem ev_not {b : Bool} (h : ev fr x = some (.bool b)) : Ev X fr L ⟨dst, .unOp .not xt x, ty, pos, af, none⟩ (.bool (!b)) := fun a w ha _ => by simp [execOp, ha.ev h, Op.unary]
theorem ev_neg (h : ev fr x = some (.int k m)) : Ev X fr L ⟨dst, .unOp .neg xt x, ty, pos, af, none⟩ (.int k (k.wrap (0 - m))) := fun a w ha _ => by simp [execOp, ha.ev h, Op.unary, Op.intArith]

/-! conversions of integers -/
def ToInt (P : Program) (src dst : TypeId) (k : IntKind) : Prop := ∀ k' m w, (convert src dst (.int k' m)).run P w = .ok (.int k (k.wrap m)) w
theorem toInt_of {P : Program} {src dst : TypeId} {d : TypeDesc} {k : IntKind} (hs : P.underlying src = some d) (hd : P.underlying dst = some (.int k)) : ToInt P src dst k := fun k' m w => by
  unfold convert
  simp only [Sem.run_bind, underlying, program, Sem.run, hs, hd, Result.andThen_ok, Sem.run_pure]
  simp [Conv.intToInt]
theorem ev_toInt {src dt : TypeId} {k' : IntKind} (hc : ToInt X.P src dt k) (h : ev fr x = some (.int k' m)) : Ev X fr L ⟨dst, .convert src dt x, ty, pos, af, none⟩ (.int k (k.wrap m)) := fun a w ha _ => by
  have := hc k' m w
  simp [execOp, ha.ev h, this]
theorem ev_toInt64 {src dt : TypeId} {k' : IntKind} (hc : ToInt X.P src dt .i64) (h : ev fr x = some (.int k' m)) (hm : -9223372036854775808 ≤ m ∧ m ≤ 9223372036854775807) : Ev X fr L ⟨dst, .convert src dt x, ty, pos, af, none⟩ (.int .i64 m) := by
  have := ev_toInt (X := X) (L := L) (dst := dst) (ty := ty) (pos := pos) (af := af) hc h
  rwa [wrap_i64 hm] at this
def ToStr (P : Program) (src dst : TypeId) : Prop := ∀ s w, (convert src dst (.string s)).run P w = .ok (.string s) w
theorem toStr_of {P : Program} {src dst : TypeId} {d : TypeDesc} (hs : P.underlying src = some d) (hd : P.underlying dst = some .string) : ToStr P src dst := fun s w => by
  unfold convert
  simp only [Sem.run_bind, underlying, program, Sem.run, hs, hd, Result.andThen_ok, Sem.run_pure]
theorem ev_toStr {src dt : TypeId} {s : ByteArray} (hc : ToStr X.P src dt) (h : ev fr x = some (.string s)) : Ev X fr L ⟨dst, .convert src dt x, ty, pos, af, none⟩ (.string s) := fun a w ha _ => by
  have := hc s w
  simp [execOp, ha.ev h, this]

/-! indexes, slices -/
theorem ev_indexStr {s : ByteArray} {u : UInt8} {k : IntKind} (ht : IsStr X.P xt) (hx : ev fr x = some (.string s)) (hy : ev fr y = some (.int k n)) (hn : 0 ≤ n) (hu : s.data[n.toNat]? = some u) :
    Ev X fr L ⟨dst, .index xt x y, ty, pos, af, none⟩ (.int .u8 u.toNat) := fun a w ha _ => by
  have hlt : n.toNat < s.size := by
    have := Array.getElem?_eq_some_iff.1 hu; exact this.1
  have e : s[n.toNat]? = some u := by
    rw [getElem?_pos s n.toNat hlt]
    have := Array.getElem?_eq_some_iff.1 hu
    obtain ⟨h1, h2⟩ := this
    simp only [Option.some.injEq]
    exact h2
  simp [execOp, ha.ev hx, ha.ev hy, Instr.index, asIntOf, ht w, hn, e]

theorem ev_sliceStr {s : ByteArray} {lo hi : Option Operand} {l h : Nat} (ht : IsStr X.P xt) (hx : ev fr x = some (.string s))
    (hlo : match lo with | none => l = 0 | some o => ∃ kk, ev fr o = some (.int kk l)) (hhi : match hi with | none => h = s.size | some o => ∃ kk, ev fr o = some (.int kk h)) (h1 : l ≤ h) (h2 : h ≤ s.size) :
    Ev X fr L ⟨dst, .slice xt x lo hi none, ty, pos, af, none⟩ (.string (s.extract l h)) := fun a w ha _ => by
  cases lo with
  | none =>
    cases hi with
    | none => subst hlo; subst hhi; simp [execOp, ha.ev hx, Instr.sliceAt, Instr.slice, ht w, Instr.sliceBounds]
    | some oh => obtain ⟨kk, hh⟩ := hhi; subst hlo; simp [execOp, ha.ev hx, ha.ev hh, Instr.sliceAt, Instr.slice, ht w, Instr.sliceBounds, Instr.sliceBound, asIntOf, h2]
  | some ol =>
    obtain ⟨kl, hl⟩ := hlo
    cases hi with
    | none => subst hhi; simp [execOp, ha.ev hx, ha.ev hl, Instr.sliceAt, Instr.slice, ht w, Instr.sliceBounds, Instr.sliceBound, asIntOf, h1]
    | some oh => obtain ⟨kk, hh⟩ := hhi; simp [execOp, ha.ev hx, ha.ev hl, ha.ev hh, Instr.sliceAt, Instr.slice, ht w, Instr.sliceBounds, Instr.sliceBound, asIntOf, h1, h2]

theorem ev_indexAddr {e s b o len cap i : Nat} {k : IntKind} {o' : Nat} (ht : SliceOf X.P xt e s) (hx : ev fr x = some (.slice (some ⟨b, o, none⟩) len cap)) (hy : ev fr y = some (.int k (i : Int))) (hi : i < len) (ho : o + i * s = o') :
    Ev X fr L ⟨dst, .indexAddr xt x y, ty, pos, af, none⟩ (.pointer (some ⟨b, o', none⟩)) := fun a w ha _ => by
  have ea : (⟨b, o, none⟩ : Addr).add (i * s) = ⟨b, o', none⟩ := by
    subst ho
    by_cases hk : i * s = 0
    · simp [Addr.add, hk]
    · simp [Addr.add, hk]
  simp [execOp, ha.ev hx, ha.ev hy, Instr.indexAt, asIntOf, ht.1 w, ht.2 w, hi, ea]

theorem ev_len_slice {p : Option Addr} {len cap : Nat} {t : TypeId} (ht : ∃ e, ∀ w, (underlying t).run X.P w = .ok (.slice e) w) (hx : ev fr x = some (.slice p len cap)) :
    Ev X fr L ⟨dst, .call ⟨.builtin .len, #[x], #[t]⟩, ty, pos, af, none⟩ (.int .i64 len) := fun a w ha _ => by
  obtain ⟨e, ht⟩ := ht
  simp [execOp, resolve, ha.ev hx, invoke, builtin, Builtin.len_, ht w, goInt]
theorem ev_len_str {s : ByteArray} {t : TypeId} (ht : IsStr X.P t) (hx : ev fr x = some (.string s)) :
    Ev X fr L ⟨dst, .call ⟨.builtin .len, #[x], #[t]⟩, ty, pos, af, none⟩ (.int .i64 s.size) := fun a w ha _ => by
  simp [execOp, resolve, ha.ev hx, invoke, builtin, Builtin.len_, ht w, goInt]
theorem ev_min {t t' : TypeId} (hx : ev fr x = some (.int k m)) (hy : ev fr y = some (.int k n)) :
    Ev X fr L ⟨dst, .call ⟨.builtin .min, #[x, y], #[t, t']⟩, ty, pos, af, none⟩ (.int k (if n < m then n else m)) := fun a w ha _ => by
  simp [execOp, resolve, ha.ev hx, ha.ev hy, invoke, builtin, Builtin.min_, Builtin.min2]
theorem ev_max {t t' : TypeId} (hx : ev fr x = some (.int k m)) (hy : ev fr y = some (.int k n)) :
    Ev X fr L ⟨dst, .call ⟨.builtin .max, #[x, y], #[t, t']⟩, ty, pos, af, none⟩ (.int k (if n > m then n else m)) := fun a w ha _ => by
  simp [execOp, resolve, ha.ev hx, ha.ev hy, invoke, builtin, Builtin.max_, Builtin.max2]

theorem ev_makeFunc {fn : Fn} {os cs : Array Operand} {vs us : List Value} (h1 : evL fr os.toList = some vs) (h2 : evL fr cs.toList = some us) :
    Ev X fr L ⟨dst, .makeFunc fn os cs, ty, pos, af, none⟩ (.func fn vs.toArray us.toArray) := fun a w ha _ => by
  have key := ha.evL
  have e1 : os.map a.eval = vs.toArray := by apply Array.toList_inj.1; simp [key _ _ h1]
  have e2 : cs.map a.eval = us.toArray := by apply Array.toList_inj.1; simp [key _ _ h2]
  simp [execOp, Instr.makeFunc, e1, e2]

theorem ev_makeIface {t : TypeId} {d : TypeDesc} {v : Value} (ht : X.P.underlying t = some d) (hd : (match d with | .interface _ => false | _ => true) = true) (h : ev fr x = some v) :
    Ev X fr L ⟨dst, .makeInterface t x, ty, pos, af, none⟩ (.iface t v) := fun a w ha _ => by
  simp only [execOp, ha.ev h, Instr.makeInterface, underlying, program, Sem.run_bind, Sem.run, ht, Result.andThen_ok, Sem.run_pure]
  cases d <;> first | rfl | (simp at hd)

/-- pointers held against nil -/
theorem run_equal_nil {P : Program} {t e : TypeId} {p : Option Addr} (ht : P.underlying t = some (.pointer e)) (w : World) : (Op.equal t (.pointer p) (.pointer none)).run P w = .ok p.isNone w := by
  have hu : (underlying t).run P w = .ok (.pointer e) w := by unfold underlying program; simp [Sem.run, ht]
  unfold Op.equal Op.maxDepth
  rw [show (10000 : Nat) = 9999 + 1 from rfl]
  unfold Op.equalIn
  cases p <;> simp only [Sem.run_bind, hu, Result.andThen_ok, Sem.run_pure, Option.isNone]
theorem ev_ptr_eql_nil {e : TypeId} {p : Option Addr} (ht : X.P.underlying xt = some (.pointer e)) (hx : ev fr x = some (.pointer p)) (hy : ev fr y = some (.pointer none)) :
    Ev X fr L ⟨dst, .binOp .eql xt x y yt, ty, pos, af, none⟩ (.bool p.isNone) := fun a w ha _ => by
  have hg : ∀ a b, (eqGuard .eql xt a b (.pointer p) (.pointer none)).run X.P w = .ok () w := fun a b => by unfold eqGuard; simp
  have := run_equal_nil (p := p) ht w
  simp [execOp, ha.ev hx, ha.ev hy, hg, binOp, this]
theorem ev_ptr_neq_nil {e : TypeId} {p : Option Addr} (ht : X.P.underlying xt = some (.pointer e)) (hx : ev fr x = some (.pointer p)) (hy : ev fr y = some (.pointer none)) :
    Ev X fr L ⟨dst, .binOp .neq xt x y yt, ty, pos, af, none⟩ (.bool (!p.isNone)) := fun a w ha _ => by
  have hg : ∀ a b, (eqGuard .neq xt a b (.pointer p) (.pointer none)).run X.P w = .ok () w := fun a b => by unfold eqGuard; simp
  have := run_equal_nil (p := p) ht w
  simp [execOp, ha.ev hx, ha.ev hy, hg, binOp, this]

end quiet
end Go.SL
