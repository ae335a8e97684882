/- The logic's rules for maps: a block that is a map reads as a list of pairs without two alike. -/
import Derived.Test.YtimhhegebkganaaGreatDoorSl4
set_option linter.unusedSimpArgs false
set_option linter.unusedVariables false
namespace Go.SL
open Go.Instr

section al
variable {K V : Type} [DecidableEq K]
def alook : List (K × V) → K → Option V
  | [], _ => none
  | (a, v) :: r, k => if a = k then some v else alook r k
def aset : List (K × V) → K → V → List (K × V)
  | [], k, v => [(k, v)]
  | (a, u) :: r, k, v => if a = k then (a, v) :: r else (a, u) :: aset r k v
def adel : List (K × V) → K → List (K × V)
  | [], _ => []
  | (a, u) :: r, k => if a = k then r else (a, u) :: adel r k
end al

theorem map_eraseIdx' {α β : Type} (f : α → β) : ∀ (l : List α) (j : Nat), (l.eraseIdx j).map f = (l.map f).eraseIdx j
  | [], _ => by simp
  | a :: l, 0 => by simp
  | a :: l, j + 1 => by simp [map_eraseIdx' f l j]

structure KeyOk {K : Type} [DecidableEq K] (P : Program) (kt : TypeId) (kE : K → Value) : Prop where
  eq : ∀ a b w, (Op.equal kt (kE a) (kE b)).run P w = .ok (decide (a = b)) w
  chk : ∀ e a w, (checkKey e 10000 kt (kE a)).run P w = .ok () w
  und : ∃ d, (∀ w, (underlying kt).run P w = .ok d w) ∧ ((∀ a b, sameNow d (kE a) (kE b) = some (decide (a = b))) ∨ ∀ a b, sameNow d (kE a) (kE b) = none)
  bits : ∀ a, sameBits 10000 (kE a) (kE a) = true

structure MapRep {K V : Type} (kE : K → Value) (vE : V → Value) (es : Array MapEntry) (clk : Nat) (al : List (K × V)) : Prop where
  pairs : es.toList.map (fun e => (e.key, e.val)) = al.map (fun x => (kE x.1, vE x.2))
  keys : (al.map (·.1)).Nodup
  born : (es.toList.map (·.born)).Nodup
  old : ∀ e ∈ es.toList, e.born < clk

def mp {K V : Type} (kE : K → Value) (vE : V → Value) (b : Nat) (al : List (K × V)) : Asrt :=
  ⟨fun _ h => ∃ es clk, h b = some (.map es clk) ∧ MapRep kE vE es clk al, fun _ h => h⟩

theorem Hold.mp_get {w : World} {K V : Type} {kE : K → Value} {vE : V → Value} {b : Nat} {al : List (K × V)} {L : List Asrt} (s : Hold w (mp kE vE b al :: L)) : ∃ es clk, Hold w (blk b (.map es clk) :: L) ∧ MapRep kE vE es clk al := by
  obtain ⟨I, h, hi, hh, d, h1, h2, j, ⟨es, clk, a, r⟩, s⟩ := s
  exact ⟨es, clk, ⟨I, h, hi, hh, d, h1, h2, j, a, s⟩, r⟩

theorem Hold.mp_mk {w : World} {K V : Type} {kE : K → Value} {vE : V → Value} {b : Nat} {al : List (K × V)} {L : List Asrt} {es : Array MapEntry} {clk : Nat} (s : Hold w (blk b (.map es clk) :: L)) (r : MapRep kE vE es clk al) : Hold w (mp kE vE b al :: L) := by
  obtain ⟨I, h, hi, hh, d, h1, h2, j, a, s⟩ := s
  exact ⟨I, h, hi, hh, d, h1, h2, j, ⟨es, clk, a, r⟩, s⟩

theorem mapRep_nil {K V : Type} {kE : K → Value} {vE : V → Value} : MapRep kE vE #[] 0 ([] : List (K × V)) := ⟨rfl, by simp, by simp, by simp⟩

theorem hold_mp_new {w : World} {K V : Type} (kE : K → Value) (vE : V → Value) {b : Nat} {L F : List Asrt} (s : Hold w ((blk b (.map #[] 0) :: L) ++ F)) : Hold w ((mp kE vE b ([] : List (K × V)) :: L) ++ F) :=
  Hold.mp_mk s mapRep_nil

section find
variable {K V : Type} [DecidableEq K] {P : Program} {kt : TypeId} {kE : K → Value} {vE : V → Value}

def afind : List (K × V) → K → Nat → Option (Nat × V)
  | [], _, _ => none
  | (a, v) :: r, k, i => if a = k then some (i, v) else afind r k (i + 1)

theorem afind_look : ∀ (al : List (K × V)) (k : K) (i : Nat), (afind al k i).map (·.2) = alook al k
  | [], _, _ => rfl
  | (a, v) :: r, k, i => by
    unfold afind alook
    split
    · rfl
    · exact afind_look r k (i + 1)

theorem afind_none {al : List (K × V)} {k : K} {i : Nat} (h : afind al k i = none) : alook al k = none := by rw [← afind_look al k i, h]; rfl
theorem afind_some {al : List (K × V)} {k : K} {i j : Nat} {v : V} (h : afind al k i = some (j, v)) : alook al k = some v := by rw [← afind_look al k i, h]; rfl

theorem run_findAsking (ko : KeyOk P kt kE) (k : K) (w : World) : ∀ (es : List MapEntry) (al : List (K × V)) (i : Nat), es.map (fun e => (e.key, e.val)) = al.map (fun x => (kE x.1, vE x.2)) →
    (findAsking kt (kE k) es i).run P w = .ok ((afind al k i).map fun x => (x.1, vE x.2)) w
  | [], [], i, _ => by simp [findAsking, afind]
  | [], _ :: _, _, h => by simp at h
  | _ :: _, [], _, h => by simp at h
  | e :: es, (a, v) :: al, i, h => by
    simp only [List.map_cons, List.cons.injEq, Prod.mk.injEq] at h
    obtain ⟨⟨h1, h2⟩, h3⟩ := h
    unfold findAsking afind
    simp only [h1, h2, Sem.run_bind, ko.eq, Result.andThen_ok]
    by_cases hk : k = a
    · subst hk; simp
    · have : ¬ a = k := fun e => hk e.symm
      simp only [hk, this, decide_false, Bool.false_eq_true, if_false]
      exact run_findAsking ko k w es al (i + 1) h3

theorem findNow_eq {d : TypeDesc} (hn : ∀ a b, sameNow d (kE a) (kE b) = some (decide (a = b))) (k : K) : ∀ (es : List MapEntry) (al : List (K × V)) (i : Nat), es.map (fun e => (e.key, e.val)) = al.map (fun x => (kE x.1, vE x.2)) →
    findNow d (kE k) es i = some ((afind al k i).map fun x => (x.1, vE x.2))
  | [], [], i, _ => by simp [findNow, afind]
  | [], _ :: _, _, h => by simp at h
  | _ :: _, [], _, h => by simp at h
  | e :: es, (a, v) :: al, i, h => by
    simp only [List.map_cons, List.cons.injEq, Prod.mk.injEq] at h
    obtain ⟨⟨h1, h2⟩, h3⟩ := h
    unfold findNow afind
    simp only [h1, h2, hn]
    by_cases hk : k = a
    · subst hk; simp
    · have : ¬ a = k := fun e => hk e.symm
      simp only [hk, this, decide_false, if_false]
      exact findNow_eq hn k es al (i + 1) h3

theorem run_findKey (ko : KeyOk P kt kE) (k : K) (w : World) (es : List MapEntry) (al : List (K × V)) (h : es.map (fun e => (e.key, e.val)) = al.map (fun x => (kE x.1, vE x.2))) :
    (findKey kt (kE k) es).run P w = .ok ((afind al k 0).map fun x => (x.1, vE x.2)) w := by
  obtain ⟨d, hd, hn⟩ := ko.und
  unfold findKey
  simp only [Sem.run_bind, hd, Result.andThen_ok]
  rcases hn with hn | hn
  · rw [findNow_eq hn k es al 0 h]; rfl
  · cases es with
    | nil =>
      cases al with
      | nil => simp [findNow, afind]
      | cons _ _ => simp at h
    | cons e es =>
      cases al with
      | nil => simp at h
      | cons x al =>
        have : findNow d (kE k) (e :: es) 0 = none := by
          simp only [List.map_cons, List.cons.injEq, Prod.mk.injEq] at h
          unfold findNow
          simp [h.1.1, hn]
        rw [this]
        exact run_findAsking ko k w _ _ 0 h

theorem afind_get : ∀ (al : List (K × V)) (k : K) (i j : Nat) (v : V), afind al k i = some (j, v) → i ≤ j ∧ al[j - i]? = some (k, v)
  | [], _, _, _, _, h => by cases h
  | (a, u) :: r, k, i, j, v, h => by
    unfold afind at h
    split at h
    · rename_i e
      simp at h
      obtain ⟨rfl, rfl⟩ := h
      subst e
      simp
    · obtain ⟨h1, h2⟩ := afind_get r k (i + 1) j v h
      refine ⟨by omega, ?_⟩
      obtain ⟨d, rfl⟩ : ∃ d, j = i + 1 + d := ⟨j - (i + 1), by omega⟩
      have e1 : i + 1 + d - i = d + 1 := by omega
      have e2 : i + 1 + d - (i + 1) = d := by omega
      rw [e2] at h2
      rw [e1]; simpa using h2

theorem aset_found : ∀ (al : List (K × V)) (k : K) (i j : Nat) (v u : V), afind al k i = some (j, v) → aset al k u = al.set (j - i) (k, u)
  | [], _, _, _, _, _, h => by cases h
  | (a, x) :: r, k, i, j, v, u, h => by
    unfold afind at h
    unfold aset
    split at h
    · rename_i e
      simp at h
      obtain ⟨rfl, rfl⟩ := h
      subst e
      simp
    · rename_i e
      obtain ⟨h1, _⟩ := afind_get r k (i + 1) j v h
      have ih := aset_found r k (i + 1) j v u h
      obtain ⟨d, rfl⟩ : ∃ d, j = i + 1 + d := ⟨j - (i + 1), by omega⟩
      have e1 : i + 1 + d - i = d + 1 := by omega
      have e2 : i + 1 + d - (i + 1) = d := by omega
      rw [e2] at ih
      rw [e1]
      simp [e, ih]

theorem aset_new : ∀ (al : List (K × V)) (k : K) (u : V), alook al k = none → aset al k u = al ++ [(k, u)]
  | [], _, _, _ => rfl
  | (a, x) :: r, k, u, h => by
    unfold alook at h
    split at h
    · cases h
    · rename_i e
      unfold aset
      simp [e, aset_new r k u h]

theorem alook_none_mem : ∀ (al : List (K × V)) (k : K), alook al k = none → k ∉ al.map (·.1)
  | [], _, _ => by simp
  | (a, x) :: r, k, h => by
    unfold alook at h
    split at h
    · cases h
    · rename_i e
      simp only [List.map_cons, List.mem_cons, not_or]
      exact ⟨fun h' => e h'.symm, alook_none_mem r k h⟩

theorem adel_found : ∀ (al : List (K × V)) (k : K) (i j : Nat) (v : V), afind al k i = some (j, v) → adel al k = al.eraseIdx (j - i)
  | [], _, _, _, _, h => by cases h
  | (a, x) :: r, k, i, j, v, h => by
    unfold afind at h
    unfold adel
    split at h
    · rename_i e
      simp at h
      obtain ⟨rfl, rfl⟩ := h
      subst e
      simp
    · rename_i e
      obtain ⟨h1, _⟩ := afind_get r k (i + 1) j v h
      have ih := adel_found r k (i + 1) j v h
      obtain ⟨d, rfl⟩ : ∃ d, j = i + 1 + d := ⟨j - (i + 1), by omega⟩
      have e1 : i + 1 + d - i = d + 1 := by omega
      have e2 : i + 1 + d - (i + 1) = d := by omega
      rw [e2] at ih
      rw [e1]
      simp [e, ih]

theorem adel_none : ∀ (al : List (K × V)) (k : K), alook al k = none → adel al k = al
  | [], _, _ => rfl
  | (a, x) :: r, k, h => by
    unfold alook at h
    split at h
    · cases h
    · rename_i e
      unfold adel
      simp [e, adel_none r k h]

theorem keys_aset (al : List (K × V)) (k : K) (u : V) : (aset al k u).map (·.1) = if alook al k = none then al.map (·.1) ++ [k] else al.map (·.1) := by
  induction al with
  | nil => simp [aset, alook]
  | cons x r ih =>
    obtain ⟨a, v⟩ := x
    unfold aset alook
    by_cases e : a = k
    · simp [e]
    · simp only [e, if_false]
      simp only [List.map_cons, ih]
      split <;> simp

theorem keys_adel_sub : ∀ (al : List (K × V)) (k : K), (adel al k).Sublist al
  | [], _ => .refl _
  | (a, x) :: r, k => by
    unfold adel
    split
    · exact List.sublist_cons_self _ _
    · exact (keys_adel_sub r k).cons_cons _

end find

section ops
variable {X : Cx} {fr : Fr} {L : List Asrt} {ty : TypeId} {pos : String} {af : Array Edge}
variable {K V : Type} [DecidableEq K] {kE : K → Value} {vE : V → Value}

omit [DecidableEq K] in
theorem Hold.mp_mem {w : World} {b : Nat} {al : List (K × V)} (s : Hold w L) (h : mp kE vE b al ∈ L) : ∃ es clk, w.heap[b]? = some (.map es clk) ∧ MapRep kE vE es clk al := by
  obtain ⟨M, s⟩ := s.mem h
  obtain ⟨es, clk, s, r⟩ := s.mp_get
  exact ⟨es, clk, s.blk_get, r⟩

theorem run_getObj {P : Program} {w : World} {b : Nat} {es : Array MapEntry} {clk : Nat} (h : w.heap[b]? = some (.map es clk)) : (getObj b).run P w = .ok (.map es clk) w := by
  simp [getObj, Sem.run, h]

theorem ev_lookup_ok {dst : Option Nat} {t kt et b : Nat} {x y : Operand} {al : List (K × V)} {k : K} {z : Value} (ko : KeyOk X.P kt kE) (ht : IsMap X.P t kt et) (hz : ZeroIs X.P et z)
    (hx : ev fr x = some (.map (some b))) (hm : mp kE vE b al ∈ L) (hy : ev fr y = some (kE k)) :
    Ev X fr L ⟨dst, .lookup t x y true, ty, pos, af, none⟩ (.tuple #[((alook al k).map vE).getD z, .bool (alook al k).isSome]) := fun a w ha hw => by
  obtain ⟨es, clk, hb, r⟩ := hw.mp_mem hm
  have h1 := run_findKey ko k w es.toList al r.pairs
  simp only [execOp, ha.ev hx, ha.ev hy, Instr.lookup, Sem.run_bind, ht w, Result.andThen_ok, run_getObj hb, Sem.run_pure, ko.chk, h1]
  cases hf : afind al k 0 with
  | none =>
    have := afind_none hf
    simp [hz w, this]
  | some p =>
    obtain ⟨j, v⟩ := p
    have := afind_some hf
    simp [this]

theorem ev_lookup {dst : Option Nat} {t kt et b : Nat} {x y : Operand} {al : List (K × V)} {k : K} {z : Value} (ko : KeyOk X.P kt kE) (ht : IsMap X.P t kt et) (hz : ZeroIs X.P et z)
    (hx : ev fr x = some (.map (some b))) (hm : mp kE vE b al ∈ L) (hy : ev fr y = some (kE k)) :
    Ev X fr L ⟨dst, .lookup t x y false, ty, pos, af, none⟩ (((alook al k).map vE).getD z) := fun a w ha hw => by
  obtain ⟨es, clk, hb, r⟩ := hw.mp_mem hm
  have h1 := run_findKey ko k w es.toList al r.pairs
  simp only [execOp, ha.ev hx, ha.ev hy, Instr.lookup, Sem.run_bind, ht w, Result.andThen_ok, run_getObj hb, Sem.run_pure, ko.chk, h1]
  cases hf : afind al k 0 with
  | none =>
    have := afind_none hf
    simp [hz w, this]
  | some p =>
    obtain ⟨j, v⟩ := p
    have := afind_some hf
    simp [this]

omit [DecidableEq K] in
theorem ev_len_map {dst : Option Nat} {t kt et b : Nat} {x : Operand} {al : List (K × V)} (ht : IsMap X.P t kt et) (hx : ev fr x = some (.map (some b))) (hm : mp kE vE b al ∈ L) :
    Ev X fr L ⟨dst, .call ⟨.builtin .len, #[x], #[t]⟩, ty, pos, af, none⟩ (.int .i64 al.length) := fun a w ha hw => by
  obtain ⟨es, clk, hb, r⟩ := hw.mp_mem hm
  have e : es.size = al.length := by
    have := congrArg List.length r.pairs
    simpa using this
  simp [execOp, resolve, ha.ev hx, invoke, builtin, Builtin.len_, ht w, goInt, run_getObj hb, e]

theorem run_setObj {P : Program} {w : World} {b : Nat} {es es' : Array MapEntry} {clk clk' : Nat} (h : w.heap[b]? = some (.map es clk)) : (setObj b (.map es' clk')).run P w = .ok () (World.put w b (.map es' clk')) := by
  simp [setObj, Sem.run, h, World.put]

theorem eff_mapUpdate {t kt et b : Nat} {m x y : Operand} {al : List (K × V)} {k : K} {v : V} {M : List Asrt} (ko : KeyOk X.P kt kE) (ht : IsMap X.P t kt et)
    (hm : ev fr m = some (.map (some b))) (hu : Upd L (mp kE vE b al) (mp kE vE b (aset al k v)) M) (hx : ev fr x = some (kE k)) (hy : ev fr y = some (vE v)) :
    Eff X fr L ⟨none, .mapUpdate t m x y, ty, pos, af, none⟩ (fun fr' L' => fr' = fr ∧ L' = M) := by
  intro Q hQ a w ha hs hw K0 hK
  left
  obtain ⟨N, h1, h2⟩ := hu.hold hw
  obtain ⟨es, clk, h1, r⟩ := h1.mp_get
  have hb := h1.blk_get
  have hfk := run_findKey ko k w es.toList al r.pairs
  have key : ∃ es' clk', (execOp a.eval ⟨none, .mapUpdate t m x y, ty, pos, af, none⟩).run X.P w = .ok .skip (World.put w b (.map es' clk')) ∧ MapRep kE vE es' clk' (aset al k v) := by
    cases hf : afind al k 0 with
    | none =>
      rw [hf] at hfk
      have hl := afind_none hf
      refine ⟨es.push ⟨kE k, vE v, clk⟩, clk + 1, ?_, ?_, ?_, ?_, ?_⟩
      · simp [execOp, ha.ev hm, ha.ev hx, ha.ev hy, Instr.mapUpdate, ht w, run_getObj hb, ko.chk, hfk, run_setObj hb]
      · rw [aset_new _ _ _ hl]; simp; have := r.pairs; simpa using this
      · rw [aset_new _ _ _ hl]
        have := alook_none_mem _ _ hl
        simp only [List.map_append, List.map_cons, List.map_nil]
        rw [List.nodup_append]
        refine ⟨r.keys, by simp, fun u' hu' v' hv' => ?_⟩
        simp at hv'; subst hv'
        intro e; subst e; exact this hu'
      · simp only [Array.toList_push, List.map_append, List.map_cons, List.map_nil]
        rw [List.nodup_append]
        refine ⟨r.born, by simp, fun u' hu' v' hv' => ?_⟩
        simp at hv'; subst hv'
        simp only [List.mem_map] at hu'
        obtain ⟨e, he, rfl⟩ := hu'
        have := r.old e he
        omega
      · intro e he
        simp only [Array.toList_push, List.mem_append, List.mem_singleton] at he
        rcases he with he | he
        · have := r.old e he; omega
        · subst he; simp
    | some p =>
      obtain ⟨j, u⟩ := p
      rw [hf] at hfk
      obtain ⟨_, hg⟩ := afind_get al k 0 j u hf
      simp only [Nat.sub_zero] at hg
      have hj : j < al.length := (List.getElem?_eq_some_iff.1 hg).1
      have elen : es.toList.length = al.length := by have := congrArg List.length r.pairs; simpa using this
      have hje : j < es.size := by rw [← elen] at hj; simpa using hj
      have hkey : es[j].key = kE k := by
        have := congrArg (fun l : List (Value × Value) => l[j]?) r.pairs
        simp only [List.getElem?_map, hg, Option.map_some, Array.getElem?_toList] at this
        rw [Array.getElem?_eq_getElem hje] at this
        simp at this
        exact this.1
      have hset := aset_found al k 0 j u v hf
      simp only [Nat.sub_zero] at hset
      refine ⟨es.modify j fun e => { e with key := kE k, val := vE v }, clk, ?_, ?_, ?_, ?_, ?_⟩
      · have hks : (keyThatStays (((es[j]?).map (·.key)).getD (kE k)) (kE k)).run X.P w = .ok (kE k) w := by
          rw [Array.getElem?_eq_getElem hje]
          simp [keyThatStays, hkey, ko.bits]
        simp [execOp, ha.ev hm, ha.ev hx, ha.ev hy, Instr.mapUpdate, ht w, run_getObj hb, ko.chk, hfk, run_setObj hb]
        simp only [Array.getElem?_eq_getElem hje, Option.map_some, Option.getD_some, hkey, keyThatStays, ko.bits, if_true, Sem.run_pure, Result.andThen_ok]
        rw [run_setObj hb]; rfl
      · rw [hset, List.map_set, ← r.pairs]
        apply List.ext_getElem?
        intro i
        rw [List.getElem?_map, Array.getElem?_toList, Array.getElem?_modify]
        by_cases hi : j = i
        · subst hi
          have hjj : j < es.toList.length := by simpa using hje
          simp [hje]
        · rw [List.getElem?_set_ne hi]; simp [hi]
      · have hk := keys_aset al k v
        rw [afind_some hf] at hk
        simp at hk
        rw [hk]; exact r.keys
      · have : (es.modify j fun e => { e with key := kE k, val := vE v }).toList.map (·.born) = es.toList.map (·.born) := by
          apply List.ext_getElem?
          intro i
          rw [List.getElem?_map, Array.getElem?_toList, Array.getElem?_modify, List.getElem?_map, Array.getElem?_toList]
          by_cases hi : j = i
          · subst hi; simp [hje]
          · simp [hi]
        rw [this]; exact r.born
      · intro e he
        obtain ⟨i, hi, rfl⟩ := List.getElem_of_mem he
        have hi' : i < es.size := by simpa using hi
        have ho := r.old es[i] (by simp)
        simp only [Array.getElem_toList, Array.getElem_modify]
        split <;> exact ho
  obtain ⟨es', clk', hr, r'⟩ := key
  unfold Oper.wp
  rw [hr]
  exact hK _ _ ⟨rfl, rfl⟩ _ _ ha (same_put hs) (h2 _ (Hold.mp_mk (h1.put _) r'))

theorem eff_delete {t kt et b : Nat} {tys : Array TypeId} {m x : Operand} {al : List (K × V)} {k : K} {M : List Asrt} (ko : KeyOk X.P kt kE) (ht : IsMap X.P t kt et)
    (hm : ev fr m = some (.map (some b))) (hu : Upd L (mp kE vE b al) (mp kE vE b (adel al k)) M) (hx : ev fr x = some (kE k)) (hty : tys[0]? = some t) :
    Eff X fr L ⟨none, .call ⟨.builtin .delete, #[m, x], tys⟩, ty, pos, af, none⟩ (fun fr' L' => fr' = fr ∧ L' = M) := by
  intro Q hQ a w ha hs hw K0 hK
  left
  obtain ⟨N, h1, h2⟩ := hu.hold hw
  obtain ⟨es, clk, h1, r⟩ := h1.mp_get
  have hb := h1.blk_get
  have hfk := run_findKey ko k w es.toList al r.pairs
  have key : ∃ es', (execOp a.eval ⟨none, .call ⟨.builtin .delete, #[m, x], tys⟩, ty, pos, af, none⟩).run X.P w = .ok (.value (.tuple #[])) (World.put w b (.map es' clk)) ∧ MapRep kE vE es' clk (adel al k) := by
    cases hf : afind al k 0 with
    | none =>
      rw [hf] at hfk
      refine ⟨es, ?_, by rw [adel_none _ _ (afind_none hf)]; exact r⟩
      simp [execOp, resolve, ha.ev hm, ha.ev hx, invoke, builtin, Builtin.delete_, hty, ht w, run_getObj hb, ko.chk, hfk, run_setObj hb]
    | some p =>
      obtain ⟨j, u⟩ := p
      rw [hf] at hfk
      have hdel := adel_found al k 0 j u hf
      simp only [Nat.sub_zero] at hdel
      refine ⟨es.eraseIdxIfInBounds j, ?_, ?_, ?_, ?_, ?_⟩
      · simp [execOp, resolve, ha.ev hm, ha.ev hx, invoke, builtin, Builtin.delete_, hty, ht w, run_getObj hb, ko.chk, hfk, run_setObj hb]
      · rw [hdel, Array.toList_eraseIdxIfInBounds, map_eraseIdx', map_eraseIdx', r.pairs]
      · rw [hdel]
        exact List.Nodup.sublist (List.Sublist.map _ (List.eraseIdx_sublist _ _)) r.keys
      · rw [Array.toList_eraseIdxIfInBounds]
        exact List.Nodup.sublist (List.Sublist.map _ (List.eraseIdx_sublist _ _)) r.born
      · intro e he
        rw [Array.toList_eraseIdxIfInBounds] at he
        exact r.old e (List.mem_of_mem_eraseIdx he)
  obtain ⟨es', hr, r'⟩ := key
  unfold Oper.wp
  rw [hr]
  exact hK _ _ ⟨rfl, rfl⟩ _ _ ha (same_put hs) (h2 _ (Hold.mp_mk (h1.put _) r'))

end ops
end Go.SL
