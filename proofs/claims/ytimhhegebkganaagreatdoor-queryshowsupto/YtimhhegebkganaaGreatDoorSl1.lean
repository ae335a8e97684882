/- The logic's memory: assertions over parts of the heap, and the laws by which they are carried. -/
import Derived.Laws.World
import Derived.Calls
set_option linter.unusedSimpArgs false
set_option linter.unusedVariables false
namespace Go.SL

abbrev Frag := Nat → Option Obj

structure Asrt where
  p : Frag → Frag → Prop
  mono : ∀ {I I' h : Frag}, (∀ b o, I b = some o → I' b = some o) → p I h → p I' h

def Join (h1 h2 h : Frag) : Prop := ∀ b, (h1 b = none ∧ h2 b = h b) ∨ (h2 b = none ∧ h1 b = h b)

theorem Join.symm {h1 h2 h : Frag} (j : Join h1 h2 h) : Join h2 h1 h := fun b => (j b).symm

theorem Join.left {h1 h2 h : Frag} (j : Join h1 h2 h) {b : Nat} {o : Obj} (e : h1 b = some o) : h b = some o ∧ h2 b = none := by
  rcases j b with ⟨a, _⟩ | ⟨a, c⟩
  · rw [a] at e; cases e
  · exact ⟨c ▸ e, a⟩

theorem Join.right {h1 h2 h : Frag} (j : Join h1 h2 h) {b : Nat} {o : Obj} (e : h2 b = some o) : h b = some o ∧ h1 b = none := j.symm.left e

/-- (h1 + (h2 + h3)) is ((h2) + (h1 + h3)) -/
theorem Join.swap {h1 h2 h3 h23 h : Frag} (j : Join h1 h23 h) (k : Join h2 h3 h23) : ∃ h13, Join h1 h3 h13 ∧ Join h2 h13 h := by
  refine ⟨fun b => (h1 b).or (h3 b), fun b => ?_, fun b => ?_⟩
  · show (h1 b = none ∧ h3 b = (h1 b).or (h3 b)) ∨ (h3 b = none ∧ h1 b = (h1 b).or (h3 b))
    rcases j b with ⟨a, c⟩ | ⟨a, c⟩
    · left; rw [a]; exact ⟨rfl, by simp⟩
    · rcases k b with ⟨d, e⟩ | ⟨d, e⟩
      · right; rw [e, a]; exact ⟨rfl, by simp⟩
      · right; rw [d]; exact ⟨rfl, by simp⟩
  · show (h2 b = none ∧ (h1 b).or (h3 b) = h b) ∨ ((h1 b).or (h3 b) = none ∧ h2 b = h b)
    rcases j b with ⟨a, c⟩ | ⟨a, c⟩
    · rw [a]
      rcases k b with ⟨d, e⟩ | ⟨d, e⟩
      · left; exact ⟨d, by simp [e, c]⟩
      · right; exact ⟨by simp [d], by rw [e, c]⟩
    · rcases k b with ⟨d, e⟩ | ⟨d, e⟩
      · left; rw [e, a]; exact ⟨d, by simp [c]⟩
      · left; rw [d, e, a]; exact ⟨rfl, by simp [c]⟩

def Sp (I : Frag) : List Asrt → Frag → Prop
  | [], _ => True
  | A :: L, h => ∃ h1 h2, Join h1 h2 h ∧ A.p I h1 ∧ Sp I L h2

theorem Sp.mono {I I' : Frag} (hI : ∀ b o, I b = some o → I' b = some o) : ∀ {L : List Asrt} {h : Frag}, Sp I L h → Sp I' L h
  | [], _, _ => trivial
  | _ :: _, _, ⟨h1, h2, j, a, s⟩ => ⟨h1, h2, j, Asrt.mono _ hI a, s.mono hI⟩

theorem Sp.perm {I : Frag} {L M : List Asrt} (e : L.Perm M) : ∀ {h : Frag}, Sp I L h → Sp I M h := by
  induction e with
  | nil => exact fun h => h
  | cons x _ ih => exact fun ⟨h1, h2, j, a, s⟩ => ⟨h1, h2, j, a, ih s⟩
  | swap x y l =>
    rintro h ⟨h1, h23, j, a, h2, h3, k, b, s⟩
    obtain ⟨h13, j1, j2⟩ := j.swap k
    exact ⟨h2, h13, j2, b, h1, h3, j1, a, s⟩
  | trans _ _ ih1 ih2 => exact fun s => ih2 (ih1 s)

theorem Join.empty (h : Frag) : Join (fun _ => none) h h := fun _ => .inl ⟨rfl, rfl⟩

theorem Sp.append {I : Frag} : ∀ {L M : List Asrt} {h : Frag}, Sp I (L ++ M) h → ∃ h1 h2, Join h1 h2 h ∧ Sp I L h1 ∧ Sp I M h2
  | [], _, h, s => ⟨fun _ => none, h, Join.empty h, trivial, s⟩
  | A :: L, M, h, ⟨h1, h2, j, a, s⟩ => by
    obtain ⟨h3, h4, k, s1, s2⟩ := Sp.append s
    -- h = h1 + (h3 + h4)
    obtain ⟨h13, j1, j2⟩ := j.swap k.symm
    exact ⟨h13, h4, j2.symm, ⟨h1, h3, j1, a, s1⟩, s2⟩

theorem Sp.append_mk {I : Frag} : ∀ {L M : List Asrt} {h h1 h2 : Frag}, Join h1 h2 h → Sp I L h1 → Sp I M h2 → Sp I (L ++ M) h
  | [], M, h, h1, h2, j, _, s2 => by
    -- Sp M h2, h2 part of h : weaken
    exact Sp.weaken j.symm s2
  | A :: L, M, h, h1, h2, j, ⟨h3, h4, k, a, s1⟩, s2 => by
    -- h = (h3 + h4) + h2
    obtain ⟨h24, j1, j2⟩ := j.symm.swap k
    exact ⟨h3, h24, j2, a, Sp.append_mk j1.symm s1 s2⟩
where
  Sp.weaken {I : Frag} : ∀ {M : List Asrt} {h h1 h2 : Frag}, Join h1 h2 h → Sp I M h1 → Sp I M h
  | [], _, _, _, _, _ => trivial
  | A :: M, h, h1, h2, j, ⟨h3, h4, k, a, s⟩ => by
    obtain ⟨h24, j1, j2⟩ := j.symm.swap k
    exact ⟨h3, h24, j2, a, Sp.weaken j1.symm s⟩

/-- The world meets the list: each assertion has a part of the heap of its own; what is never written again (I) is shared. -/
def Hold (w : World) (L : List Asrt) : Prop :=
  ∃ I h : Frag, (∀ b o, I b = some o → w.heap[b]? = some o) ∧ (∀ b o, h b = some o → w.heap[b]? = some o) ∧ (∀ b, I b = none ∨ h b = none) ∧ Sp I L h

theorem Hold.perm {w : World} {L M : List Asrt} (s : Hold w L) (e : L.Perm M) : Hold w M :=
  let ⟨I, h, a, b, c, d⟩ := s; ⟨I, h, a, b, c, d.perm e⟩

/-- another world with the same heap -/
theorem Hold.heap {w w' : World} {L : List Asrt} (s : Hold w L) (e : w'.heap = w.heap) : Hold w' L := by
  obtain ⟨I, h, a, b, c, d⟩ := s
  exact ⟨I, h, by rw [e]; exact a, by rw [e]; exact b, c, d⟩

def blk (b : Nat) (o : Obj) : Asrt := ⟨fun _ h => h b = some o, fun _ h => h⟩
def imm (b : Nat) (o : Obj) : Asrt := ⟨fun I _ => I b = some o, fun f h => f _ _ h⟩
def ex {α : Type} (f : α → Asrt) : Asrt := ⟨fun I h => ∃ x, (f x).p I h, fun g ⟨x, h⟩ => ⟨x, (f x).mono g h⟩⟩
def sep (L : List Asrt) : Asrt := ⟨fun I h => Sp I L h, fun g h => Sp.mono g h⟩
def pur (φ : Prop) : Asrt := ⟨fun _ _ => φ, fun _ h => h⟩

theorem Hold.blk_get {w : World} {b : Nat} {o : Obj} {L : List Asrt} (s : Hold w (blk b o :: L)) : w.heap[b]? = some o := by
  obtain ⟨I, h, _, hh, _, h1, h2, j, a, _⟩ := s
  exact hh _ _ (j.left a).1

theorem Hold.imm_get {w : World} {b : Nat} {o : Obj} {L : List Asrt} (s : Hold w (imm b o :: L)) : w.heap[b]? = some o := by
  obtain ⟨I, h, hi, _, _, h1, h2, j, a, _⟩ := s
  exact hi _ _ a

theorem Hold.drop {w : World} {A : Asrt} {L : List Asrt} (s : Hold w (A :: L)) : Hold w L := by
  obtain ⟨I, h, hi, hh, d, h1, h2, j, a, s⟩ := s
  refine ⟨I, h2, hi, fun b o e => hh b o (j.right e).1, fun b => ?_, s⟩
  rcases d b with e | e
  · exact .inl e
  · right
    cases hx : h2 b with
    | none => rfl
    | some o => have := (j.right hx).1; rw [e] at this; cases this

theorem Hold.mem {w : World} {L : List Asrt} (s : Hold w L) {A : Asrt} (h : A ∈ L) : ∃ M, Hold w (A :: M) := by
  obtain ⟨l1, l2, rfl⟩ := List.append_of_mem h
  exact ⟨l1 ++ l2, s.perm (List.perm_middle)⟩

theorem Hold.ex_elim {w : World} {α : Type} {f : α → Asrt} {L : List Asrt} (s : Hold w (ex f :: L)) : ∃ x, Hold w (f x :: L) := by
  obtain ⟨I, h, hi, hh, d, h1, h2, j, ⟨x, a⟩, s⟩ := s
  exact ⟨x, I, h, hi, hh, d, h1, h2, j, a, s⟩

theorem Hold.ex_mk {w : World} {α : Type} {f : α → Asrt} {L : List Asrt} {x : α} (s : Hold w (f x :: L)) : Hold w (ex f :: L) := by
  obtain ⟨I, h, hi, hh, d, h1, h2, j, a, s⟩ := s
  exact ⟨I, h, hi, hh, d, h1, h2, j, ⟨x, a⟩, s⟩

theorem Hold.pur_elim {w : World} {φ : Prop} {L : List Asrt} (s : Hold w (pur φ :: L)) : φ ∧ Hold w L :=
  ⟨(let ⟨_, _, _, _, _, _, _, _, a, _⟩ := s; a), s.drop⟩

theorem Hold.pur_mk {w : World} {φ : Prop} {L : List Asrt} (h : φ) (s : Hold w L) : Hold w (pur φ :: L) := by
  obtain ⟨I, f, hi, hh, d, s⟩ := s
  exact ⟨I, f, hi, hh, d, _, _, Join.empty f, h, s⟩

theorem Hold.sep_elim {w : World} {M L : List Asrt} (s : Hold w (sep M :: L)) : Hold w (M ++ L) := by
  obtain ⟨I, h, hi, hh, d, h1, h2, j, a, s⟩ := s
  exact ⟨I, h, hi, hh, d, Sp.append_mk j a s⟩

theorem Hold.sep_mk {w : World} {M L : List Asrt} (s : Hold w (M ++ L)) : Hold w (sep M :: L) := by
  obtain ⟨I, h, hi, hh, d, s⟩ := s
  obtain ⟨h1, h2, j, a, b⟩ := s.append
  exact ⟨I, h, hi, hh, d, h1, h2, j, a, b⟩

/-- a shared fact may be had twice -/
theorem Hold.imm_dup {w : World} {b : Nat} {o : Obj} {L : List Asrt} (s : Hold w (imm b o :: L)) : Hold w (imm b o :: imm b o :: L) := by
  obtain ⟨I, h, hi, hh, d, h1, h2, j, a, s⟩ := s
  exact ⟨I, h, hi, hh, d, h1, h2, j, a, _, _, Join.empty h2, a, s⟩

/-- what is owned may be shared from now on -/
theorem Hold.freeze {w : World} {b : Nat} {o : Obj} {L : List Asrt} (s : Hold w (blk b o :: L)) : Hold w (imm b o :: L) := by
  obtain ⟨I, h, hi, hh, d, h1, h2, j, a, s⟩ := s
  have hb : h b = some o := (j.left a).1
  have h2b : h2 b = none := (j.left a).2
  have hIb : I b = none := by
    rcases d b with e | e
    · exact e
    · rw [hb] at e; cases e
  have hmono : ∀ c q, I c = some q → (if c = b then some o else I c) = some q := fun c q e => by
    by_cases hc : c = b
    · subst hc; rw [hIb] at e; cases e
    · simp [hc, e]
  refine ⟨fun c => if c = b then some o else I c, h2, fun c q e => ?_, fun c q e => hh c q (j.right e).1, fun c => ?_, fun _ => none, h2, Join.empty h2, ?_, s.mono hmono⟩
  · by_cases hc : c = b
    · subst hc; simp at e; subst e; exact hh _ _ hb
    · simp [hc] at e; exact hi c q e
  · by_cases hc : c = b
    · subst hc; exact .inr h2b
    · simp only [hc, if_false]
      rcases d c with e | e
      · exact .inl e
      · right
        cases hx : h2 c with
        | none => rfl
        | some q => have := (j.right hx).1; rw [e] at this; cases this
  · show (if b = b then some o else I b) = some o
    simp

/-- a new block -/
theorem Hold.alloc {w : World} {L : List Asrt} (s : Hold w L) (o : Obj) : Hold (w.alloc o) (blk w.heap.size o :: L) := by
  obtain ⟨I, h, hi, hh, d, s⟩ := s
  have old : ∀ b q, w.heap[b]? = some q → (w.alloc o).heap[b]? = some q := fun b q e => by
    have : b < w.heap.size := by
      have := Array.getElem?_eq_some_iff.1 e; exact this.1
    show (w.heap.push o)[b]? = _
    rw [Array.getElem?_push, if_neg (by omega)]; exact e
  have hn : h w.heap.size = none := by
    cases hx : h w.heap.size with
    | none => rfl
    | some q => have := hh _ _ hx; simp at this
  refine ⟨I, fun b => if b = w.heap.size then some o else h b, fun b q e => old b q (hi b q e), fun b q e => ?_, fun b => ?_, fun b => if b = w.heap.size then some o else none, h, fun b => ?_, by simp [blk], s⟩
  · by_cases hb : b = w.heap.size
    · subst hb; simp at e; subst e
      show (w.heap.push o)[w.heap.size]? = _
      simp
    · simp [hb] at e; exact old b q (hh b q e)
  · by_cases hb : b = w.heap.size
    · left
      subst hb
      cases hx : I w.heap.size with
      | none => rfl
      | some q => have := hi _ _ hx; simp at this
    · simp only [hb, if_false]; exact d b
  · by_cases hb : b = w.heap.size
    · subst hb; right; exact ⟨hn, by simp⟩
    · left; simp [hb]

def World.put (w : World) (b : Nat) (o : Obj) : World := { w with heap := w.heap.setIfInBounds b o }

/-- a block of one's own is written -/
theorem Hold.put {w : World} {b : Nat} {o : Obj} {L : List Asrt} (s : Hold w (blk b o :: L)) (o' : Obj) : Hold (World.put w b o') (blk b o' :: L) := by
  have hb0 := s.blk_get
  obtain ⟨I, h, hi, hh, d, h1, h2, j, a, s⟩ := s
  have hb : h b = some o := (j.left a).1
  have h2b : h2 b = none := (j.left a).2
  have hIb : I b = none := by
    rcases d b with e | e
    · exact e
    · rw [hb] at e; cases e
  have hlt : b < w.heap.size := (Array.getElem?_eq_some_iff.1 hb0).1
  have other : ∀ c q, c ≠ b → w.heap[c]? = some q → (World.put w b o').heap[c]? = some q := fun c q hc e => by
    show (w.heap.setIfInBounds b o')[c]? = _
    rw [Array.getElem?_setIfInBounds_ne (Ne.symm hc)]; exact e
  refine ⟨I, fun c => if c = b then some o' else h2 c, fun c q e => other c q (fun hc => by subst hc; rw [hIb] at e; cases e) (hi c q e), fun c q e => ?_, fun c => ?_, fun c => if c = b then some o' else none, h2, fun c => ?_, by simp [blk], s⟩
  · by_cases hc : c = b
    · subst hc; simp at e; subst e
      show (w.heap.setIfInBounds c o')[c]? = _
      simp [hlt]
    · simp [hc] at e; exact other c q hc (hh c q (j.right e).1)
  · by_cases hc : c = b
    · subst hc; exact .inl hIb
    · simp only [hc, if_false]
      rcases d c with e | e
      · exact .inl e
      · right
        cases hx : h2 c with
        | none => rfl
        | some q => have := (j.right hx).1; rw [e] at this; cases this
  · by_cases hc : c = b
    · subst hc; right; exact ⟨h2b, by simp⟩
    · left; simp [hc]

/-- The list parted: A taken out of L leaves M. -/
inductive Take : List Asrt → Asrt → List Asrt → Prop
  | here {A : Asrt} {L : List Asrt} : Take (A :: L) A L
  | there {A B : Asrt} {L M : List Asrt} : Take L A M → Take (B :: L) A (B :: M)

theorem Take.perm {L M : List Asrt} {A : Asrt} (t : Take L A M) : L.Perm (A :: M) := by
  induction t with
  | here => exact .refl _
  | there _ ih => exact (List.Perm.cons _ ih).trans (.swap _ _ _)

/-- B in the place of A. -/
inductive Upd : List Asrt → Asrt → Asrt → List Asrt → Prop
  | here {A B : Asrt} {L : List Asrt} : Upd (A :: L) A B (B :: L)
  | there {A B C : Asrt} {L M : List Asrt} : Upd L A B M → Upd (C :: L) A B (C :: M)

theorem Upd.perm {L M : List Asrt} {A B : Asrt} (t : Upd L A B M) : ∃ N, L.Perm (A :: N) ∧ (B :: N).Perm M := by
  induction t with
  | here => exact ⟨_, .refl _, .refl _⟩
  | there _ ih =>
    obtain ⟨N, a, b⟩ := ih
    exact ⟨_ :: N, (List.Perm.cons _ a).trans (.swap _ _ _), (List.Perm.swap _ _ _).trans (List.Perm.cons _ b)⟩

/-- L is 'pre' and a rest F. -/
inductive Frm : List Asrt → List Asrt → List Asrt → Prop
  | nil {L : List Asrt} : Frm L [] L
  | cons {L M F pre : List Asrt} {A : Asrt} : Take L A M → Frm M pre F → Frm L (A :: pre) F

theorem Frm.perm {L pre F : List Asrt} (t : Frm L pre F) : L.Perm (pre ++ F) := by
  induction t with
  | nil => exact .refl _
  | cons t _ ih => exact t.perm.trans (List.Perm.cons _ ih)

/-- Readable: a block that is owned, or shared. -/
def Has (L : List Asrt) (b : Nat) (o : Obj) : Prop := blk b o ∈ L ∨ imm b o ∈ L

theorem Has.get {w : World} {L : List Asrt} {b : Nat} {o : Obj} (h : Has L b o) (s : Hold w L) : w.heap[b]? = some o := by
  rcases h with h | h
  · obtain ⟨M, s⟩ := s.mem h; exact s.blk_get
  · obtain ⟨M, s⟩ := s.mem h; exact s.imm_get

/-- the world at the start; m: that the draws rise is kept, too -/
structure W0 where
  w : World
  m : Bool
def Same (a : W0) (w : World) : Prop := w.os = a.w.os ∧ w.tape = a.w.tape ∧ w.output = a.w.output ∧ (a.m = true → a.w.drawn ≤ w.drawn)
theorem Same.refl (w : World) {m : Bool} : Same ⟨w, m⟩ w := ⟨rfl, rfl, rfl, fun _ => Nat.le_refl _⟩
theorem Same.drew {a : W0} {b : World} (h : Same a b) : Same a { b with drawn := b.drawn + 1 } := ⟨h.1, h.2.1, h.2.2.1, fun e => Nat.le_succ_of_le (h.2.2.2 e)⟩
theorem Same.trans {a : W0} {b c : World} {m : Bool} (h : Same a b) (k : Same ⟨b, m⟩ c) (hm : (!a.m || m) = true) : Same a c := ⟨k.1.trans h.1, k.2.1.trans h.2.1, k.2.2.1.trans h.2.2.1, fun e => by
  have : m = true := by rw [e] at hm; simpa using hm
  exact Nat.le_trans (h.2.2.2 e) (k.2.2.2 this)⟩

end Go.SL
