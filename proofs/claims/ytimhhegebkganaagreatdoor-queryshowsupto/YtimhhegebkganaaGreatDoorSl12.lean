/- slices.SortFunc at structs, off the kit's shelf, as a contract of this logic. -/
import Derived.Test.YtimhhegebkganaaGreatDoorSl11
import Derived.Shelf.SlSortCmp.WholeK
set_option linter.unusedSimpArgs false
set_option linter.unusedVariables false
namespace Go.SL
open Go.Proofs Go.Shelf Go.Sort

/-- assertions of shared blocks alone -/
def immL (ps : List (Nat × Obj)) : List Asrt := ps.map fun p => imm p.1 p.2

theorem sp_imms {I : Frag} : ∀ (ps : List (Nat × Obj)) (h : Frag), (∀ p ∈ ps, I p.1 = some p.2) → Sp I (immL ps) h
  | [], _, _ => trivial
  | p :: ps, h, hp => ⟨fun _ => none, h, Join.empty h, hp p (by simp), sp_imms ps h (fun q hq => hp q (by simp [hq]))⟩

theorem hold_imms {w : World} (ps : List (Nat × Obj)) (h : ∀ p ∈ ps, w.heap[p.1]? = some p.2) : Hold w (immL ps) :=
  ⟨fun b => w.heap[b]?, fun _ => none, (fun _ _ e => e), (fun _ _ e => nomatch e), (fun _ => .inr rfl), sp_imms ps _ h⟩

theorem hold_imms_get {w : World} : ∀ {ps : List (Nat × Obj)}, Hold w (immL ps) → ∀ p ∈ ps, w.heap[p.1]? = some p.2
  | [], _, _, h => by cases h
  | q :: ps, s, p, h => by
    rcases List.mem_cons.1 h with rfl | h
    · exact Hold.imm_get s
    · exact hold_imms_get (Hold.drop s) p h

def allOf (w : World) : List (Nat × Obj) := w.heap.toList.zipIdx.map fun p => (p.2, p.1)
theorem allOf_get (w : World) : ∀ p ∈ allOf w, w.heap[p.1]? = some p.2 := fun p hp => by
  obtain ⟨q, hq, rfl⟩ := List.mem_map.1 hp
  have := List.mem_zipIdx_iff_getElem?.1 hq
  simpa using this
theorem allOf_mem {w : World} {b : Nat} {o : Obj} (h : w.heap[b]? = some o) : (b, o) ∈ allOf w :=
  List.mem_map.2 ⟨(o, b), List.mem_zipIdx_iff_getElem?.2 (by simpa using h), rfl⟩

theorem grow_of {w w' : World} (hs : Same ⟨w, true⟩ w') (hh : ∀ (b : Nat) (o : Obj), w.heap[b]? = some o → w'.heap[b]? = some o) : ∃ q os, w' = grow (w.drewN q) os := by
  obtain ⟨h1, h2, h3, h4⟩ := hs
  have h4 := h4 rfl
  dsimp only at h1 h2 h3 h4
  have hle : w.heap.size ≤ w'.heap.size := by
    rcases Nat.eq_zero_or_pos w.heap.size with h0 | h0
    · omega
    · have hb : w.heap[w.heap.size - 1]? = some w.heap[w.heap.size - 1] := by simp [h0]
      have := (Array.getElem?_eq_some_iff.1 (hh _ _ hb)).1
      omega
  refine ⟨w'.drawn - w.drawn, w'.heap.extract w.heap.size w'.heap.size, ?_⟩
  have e : w'.heap = w.heap ++ w'.heap.extract w.heap.size w'.heap.size := by
    apply Array.ext_getElem?
    intro i
    rcases Nat.lt_or_ge i w.heap.size with h | h
    · rw [Array.getElem?_append_left h]
      have hb : w.heap[i]? = some w.heap[i] := by simp [h]
      rw [hb]; exact hh _ _ hb
    · rw [Array.getElem?_append_right h, Array.getElem?_extract]
      have e1 : w.heap.size + (i - w.heap.size) = i := by omega
      by_cases h5 : i < w'.heap.size
      · rw [if_pos (by omega), e1]
      · rw [if_neg (by omega), Array.getElem?_eq_none (by omega)]
  have e5 : w.drawn + (w'.drawn - w.drawn) = w'.drawn := by omega
  have e6 : (w.drewN (w'.drawn - w.drawn)) = { w with drawn := w'.drawn } := by
    unfold World.drewN; rw [e5]
  rw [e6]
  unfold grow
  cases w with
  | mk heap tape drawn os output =>
    cases w' with
    | mk heap' tape' drawn' os' output' =>
      simp only at h1 h2 h3 e ⊢
      subst h1; subst h2; subst h3
      rw [← e]

/-- a contract that leans on shared blocks alone: the world has grown only -/
theorem grows_of_ct {P : Program} {f : FuncId} {args : Array Value} {ps : List (Nat × Obj)} {v : Value} {Q : List Asrt → Prop} (h : CT P f args (immL ps) (fun u M => u = v ∧ Q M)) {w : World} (hp : ∀ p ∈ ps, w.heap[p.1]? = some p.2) :
    Calls P f args w (fun e w' => e = .returned v ∧ ∃ q os, w' = grow (w.drewN q) os) := by
  have hw : Hold w (immL ps ++ immL (allOf w)) := by
    have := hold_imms (ps ++ allOf w) (w := w) (fun p h => (List.mem_append.1 h).elim (hp p) (allOf_get w p))
    simpa [immL] using this
  refine Calls.mono (h w _ hw) fun e w' he => ?_
  cases e with
  | returned u =>
    obtain ⟨hs, L, ⟨rfl, _⟩, hh⟩ := he
    exact ⟨rfl, grow_of hs fun b o hb => hold_imms_get hh.right (b, o) (allOf_mem hb)⟩
  | panicked c => exact he.elim
  | outgrown => exact he.elim

section
variable {α : Type} [Inhabited α] {enc : α → List Value} {k : Nat}

theorem heap_putRowK (w : World) (blk off : Nat) (dk : Array α) : (putRowK enc k w blk off dk).heap = w.heap.modify blk (onCells (putCells id off (flatK enc k dk))) := rfl

theorem sortWorld_other (w : World) (blk off m : Nat) (dk : Array α) (os : Array Obj) {b : Nat} {o : Obj} (hb : w.heap[b]? = some o) (hne : b ≠ blk) : (sortWorldK enc k w blk off m dk os).heap[b]? = some o := by
  have hlt := (Array.getElem?_eq_some_iff.1 hb).1
  show ((putRowK enc k (Sort.ahead w m) blk off dk).heap ++ os)[b]? = _
  rw [Array.getElem?_append_left (by rw [heap_putRowK]; simpa using hlt), heap_putRowK, Array.getElem?_modify, if_neg (fun e => hne e.symm)]
  exact hb

theorem cmpLays_of_ct {P : Program} {g : Nat} {cb : Array Value} {cf : α → α → Int} {blk off size : Nat} {w : World} {ps : List (Nat × Obj)} {Q : List Asrt → Prop}
    (h : ∀ x y, CT P g (#[.agg (enc x).toArray, .agg (enc y).toArray] ++ cb) (immL ps) (fun u M => u = .int .i64 (cf x y) ∧ Q M)) (hp : ∀ p ∈ ps, w.heap[p.1]? = some p.2 ∧ p.1 ≠ blk) : CmpLays P g cb enc k cf blk off size w :=
  fun m os dk _ x y => grows_of_ct (h x y) fun p hpp => sortWorld_other w blk off m dk os (hp p hpp).1 (hp p hpp).2

theorem flat_at? (hk : ∀ x, (enc x).length = k) (xs : List α) {t : Nat} (ht : t < xs.length * k) : (xs.flatMap enc)[t]? = some (flatK enc k xs.toArray)[t]! := by
  have k0 : 0 < k := by
    rcases Nat.eq_zero_or_pos k with h | h
    · subst h; simp at ht
    · exact h
  rw [get_flatK _ _ _ _ (by simpa using ht)]
  have hi : t / k < xs.length := Nat.div_lt_of_lt_mul (by rw [Nat.mul_comm]; exact ht)
  have hx : xs[t / k]? = some xs[t / k] := by simp [hi]
  have hc : t % k < k := Nat.mod_lt _ k0
  have := flat_at hk hx hc
  rw [Nat.div_add_mod'] at this
  rw [this]
  have e : xs.toArray[t / k]! = xs[t / k] := by simp [hi]
  rw [e, getElem!_pos (enc xs[t / k]) (t % k) (by rw [hk]; exact hc)]
  simp [hk, hc]

theorem row_laid (hk : ∀ x, (enc x).length = k) (xs ys : List α) (spare : List Value) (hl : ys.length = xs.length) :
    putCells id 0 (flatK enc k ys.toArray) (xs.flatMap enc ++ spare).toArray = (ys.flatMap enc ++ spare).toArray := by
  have h1 := flat_len hk xs
  have h2 := flat_len hk ys
  apply Array.ext_getElem?
  intro i
  unfold putCells
  rw [Array.getElem?_mapIdx]
  simp only [Nat.zero_le, Nat.zero_add, true_and, Nat.sub_zero, size_flatK, List.size_toArray, List.getElem?_toArray]
  by_cases h : i < ys.length * k
  · rw [List.getElem?_append_left (by rw [h1, ← hl]; exact h), List.getElem?_append_left (by rw [h2]; exact h), flat_at? hk ys h, flat_at? hk xs (by rw [← hl]; exact h)]
    simp [h]
  · rw [List.getElem?_append_right (by rw [h1, ← hl]; omega), List.getElem?_append_right (by rw [h2]; omega), h1, h2, hl]
    have h' : ¬ i < xs.length * k := by rw [← hl]; exact h
    cases spare[i - xs.length * k]? <;> simp [h']

/-- **slices.SortFunc** at structs -/
theorem ct_sort {P : Program} {ρ : Ren} (L : SlLaysF0.n6 P ρ) {T : TypeId} (hT : IsAg P (ρ.t 24) k) (hk : ∀ x, (enc x).length = k) (hf : ∀ x, ∀ v ∈ enc x, v.oneCell' = true) (cf : α → α → Int) (hO : SWO (ltOf cf)) (g : Nat) (cb : Array Value)
    (eg : ∀ args w, (callFunc g args).run P w = .ok (.enter g args) w) (ps : List (Nat × Obj)) {Q : List Asrt → Prop}
    (hc : ∀ x y, CT P g (#[.agg (enc x).toArray, .agg (enc y).toArray] ++ cb) (immL ps) (fun u M => u = .int .i64 (cf x y) ∧ Q M))
    (hN : ∀ a, CT P (ρ.f 6) #[.slice a 0 0, .func (.func g) #[] cb] [] (fun u M => u = .tuple #[] ∧ M = [])) (v : Value) (xs : List α) (hl : xs.length ≤ 1000000000) :
    CT P (ρ.f 6) #[v, .func (.func g) #[] cb] (arr T k enc v xs :: immL ps) (fun u M => u = .tuple #[] ∧ ∃ ys : List α, ys.Perm xs ∧ ys.Pairwise (fun a b => ¬ cf b a < 0) ∧ M = arr T k enc v ys :: immL ps) := by
  intro w F hw
  have hw0 := hw
  obtain ⟨I, h, hI, hh, hd, h1, h2, j, a, s⟩ := hw
  rcases a with ⟨rfl, p, rfl⟩ | ⟨b, cap, spare, rfl, a2, a3, a4⟩
  · refine Calls.mono (hN p w _ hw0) fun e w' he => ?_
    cases e with
    | returned u =>
      obtain ⟨hs, L, ⟨rfl, rfl⟩, hh⟩ := he
      exact ⟨hs, _, ⟨rfl, [], List.Perm.refl _, List.Pairwise.nil, rfl⟩, hh⟩
    | panicked c => exact he.elim
    | outgrown => exact he.elim
  · have hb : w.heap[b]? = some (.cells (xs.flatMap enc ++ spare).toArray T (0, 0)) := hh _ _ (j.left a4).1
    have hlt := (Array.getElem?_eq_some_iff.1 hb).1
    have hfl := flat_len hk xs
    have hblk : Hold w (blk b (.cells (xs.flatMap enc ++ spare).toArray T (0, 0)) :: (immL ps ++ F)) := ⟨I, h, hI, hh, hd, h1, h2, j, a4, s⟩
    have hp : ∀ p ∈ ps, w.heap[p.1]? = some p.2 ∧ p.1 ≠ b := by
      have s1 : Sp I (immL ps) h2 := by
        obtain ⟨g1, g2, jj, s1, _⟩ := s.append
        have key : ∀ (qs : List (Nat × Obj)) {h : Frag}, Sp I (immL qs) h → ∀ p ∈ qs, I p.1 = some p.2 := by
          intro qs
          induction qs with
          | nil => intro _ _ p hp; cases hp
          | cons q qs ih =>
            rintro h ⟨k1, k2, _, a, s⟩ p hp
            rcases List.mem_cons.1 hp with rfl | hp
            · exact a
            · exact ih s p hp
        exact sp_imms ps _ (key ps s1)
      have key : ∀ (qs : List (Nat × Obj)) {h : Frag}, Sp I (immL qs) h → ∀ p ∈ qs, I p.1 = some p.2 := by
        intro qs
        induction qs with
        | nil => intro _ _ p hp; cases hp
        | cons q qs ih =>
          rintro h ⟨k1, k2, _, a, s⟩ p hp
          rcases List.mem_cons.1 hp with rfl | hp
          · exact a
          · exact ih s p hp
      intro p hpp
      have hi := key ps s1 p hpp
      refine ⟨hI _ _ hi, fun e => ?_⟩
      rcases hd p.1 with e1 | e1
      · rw [hi] at e1; cases e1
      · rw [e, (j.left a4).1] at e1; cases e1
    have hH : HoldsK enc k w b 0 xs.toArray := by
      intro t ht
      have ht' : t < xs.length * k := by simpa using ht
      refine ⟨?_, by simp [World.frozen?, hb]⟩
      rw [Nat.zero_add, cell_of hb]
      simp only [List.getElem?_toArray]
      rw [List.getElem?_append_left (by rw [hfl]; exact ht'), flat_at? hk xs ht']
      rfl
    have hS := AnyQ.slices_SortFunc L k hT.1 hT.2 enc hk hf cf hO g cb b 0 cap xs.toArray w eg (cmpLays_of_ct hc hp) hH hlt (by simp; omega)
    refine Calls.mono hS fun e w' he => ?_
    obtain ⟨rfl, d', n, os, hP, hSo, rfl⟩ := he
    have hsz : d'.size = xs.length := by simpa using hP.1
    have hperm : d'.toList.Perm xs := by
      have := hP.2.2
      rw [show (xs.toArray.size) = d'.size from by simp [hsz]] at this
      have e1 : d'.extract 0 d'.size = d' := by simp
      have e2 : xs.toArray.extract 0 d'.size = xs.toArray := by rw [hsz]; simp
      rw [e1, e2] at this
      simpa using this
    refine ⟨⟨rfl, rfl, rfl, fun _ => Nat.le_add_right _ _⟩, _, ⟨rfl, d'.toList, hperm, ?_, rfl⟩, ?_⟩
    · rw [List.pairwise_iff_getElem]
      intro i k' hi hk' hlt2
      have hk2 : k' < d'.size := by simpa using hk'
      have hi2 : i < d'.size := by simpa using hi
      have := hSo i k' (Nat.zero_le _) hlt2 (by simpa [hsz] using hk2)
      rw [getElem!_pos d' k' hk2, getElem!_pos d' i hi2] at this
      unfold ltOf at this
      simpa using this
    · have hput := hblk.put (.cells (d'.toList.flatMap enc ++ spare).toArray T (0, 0))
      have hcell : (sortWorldK enc k w b 0 n d' os).heap[b]? = some (.cells (d'.toList.flatMap enc ++ spare).toArray T (0, 0)) := by
        show ((putRowK enc k (Sort.ahead w n) b 0 d').heap ++ os)[b]? = _
        rw [Array.getElem?_append_left (by rw [heap_putRowK]; simpa using hlt), heap_putRowK, Array.getElem?_modify, if_pos rfl]
        show Option.map _ w.heap[b]? = _
        rw [hb]
        have := row_laid hk xs d'.toList spare (by simpa using hsz)
        simp only [Array.toArray_toList] at this
        simp only [Option.map_some, onCells, this]
      have h3 : Hold (sortWorldK enc k w b 0 n d' os) (blk b (.cells (d'.toList.flatMap enc ++ spare).toArray T (0, 0)) :: (immL ps ++ F)) := by
        refine Hold.ext_ hput fun c o hc => ?_
        by_cases e : c = b
        · subst e
          rw [put_get hb] at hc
          cases hc
          exact hcell
        · refine sortWorld_other w b 0 n d' os ?_ e
          rw [← hc]
          show _ = (w.heap.setIfInBounds b _)[c]?
          rw [Array.getElem?_setIfInBounds_ne (Ne.symm e)]
      obtain ⟨I, f, hI, hh, hd, g1, g2, j, a4, s⟩ := h3
      refine ⟨I, f, hI, hh, hd, g1, g2, j, .inr ⟨b, cap, spare, by simp [hsz], by simpa [hsz] using a2, ?_, a4⟩, s⟩
      rw [← a3, List.length_append, List.length_append, flat_len hk, flat_len hk]; simp [hsz]
end
end Go.SL
