/- Bytes: a text's bytes as a slice, a text appended to bytes, bytes as a text without a copy; the walk over a drawn region where nothing is owned. -/
import Derived.Test.YtimhhegebkganaaGreatDoorSl12
import Derived.Lib.UnsafeStr
import Derived.Lib.ConvBytes
set_option linter.unusedSimpArgs false
set_option linter.unusedVariables false
set_option maxRecDepth 4000
namespace Go.SL

def encB (b : UInt8) : List Value := [.int .u8 b.toNat]
theorem flatB : ∀ x, ∀ c ∈ encB x, Flat c := by intro x c hc; simp [encB] at hc; subst hc; trivial
theorem flatMap_encB : ∀ l : List UInt8, l.flatMap encB = l.map fun b => Value.int .u8 b.toNat
  | [] => rfl
  | x :: r => by rw [List.flatMap_cons, flatMap_encB r]; rfl
theorem firstCells_str {P : Program} (s : ByteArray) (w : World) : (Builtin.firstCells 1 s.data.toList.length (.string s)).run P w = .ok (s.data.toList.flatMap encB).toArray w := by
  have e : s.extract 0 s.data.size = s := by
    have := ByteArray.extract_zero_size (b := s)
    exact this
  simp only [Builtin.firstCells, Array.length_toList, e, Sem.run_pure, flatMap_encB]
  congr 1
  apply Array.toList_inj.1
  simp

section ops
variable {X : Cx} {fr : Fr} {L : List Asrt} {ty : TypeId} {pos : String} {af : Array Edge}

theorem eff_append_str {d : Nat} {t t' T bytes : TypeId} {x y : Operand} {s0 : ByteArray} {zv v : Value} {xs : List UInt8} {M : List Asrt} (hd : Nat.blt d X.n = true)
    (ht : SliceOf X.P t T 1) (ht' : X.P.underlying t' = some .string) (hz : ZeroIs X.P T zv) (hzs : zv.cells.size = 1) (hbytes : ∀ w, ∃ i, (typeInfo T).run X.P w = .ok i w ∧ i.bytes = bytes)
    (hx : ev fr x = some v) (hy : ev fr y = some (.string s0)) (ht0 : Take L (arr T 1 encB v xs) M) (hroom : (xs.length + s0.size) * bytes ≤ 140737488355328) (hpos : 0 < bytes) :
    Eff X fr L ⟨some d, .call ⟨.builtin .append, #[x, y], #[t, t']⟩, ty, pos, af, none⟩ (fun fr' L' => ∃ v', fr' = (d, v') :: fr ∧ L' = arr T 1 encB v' (xs ++ s0.data.toList) :: M) := by
  intro Q hQ a w ha hs hw K hK
  left
  obtain ⟨ys, hys⟩ : ∃ ys : List UInt8, ys = s0.data.toList := ⟨_, rfl⟩
  have hysz : s0.size = ys.length := by rw [hys, Array.length_toList]; rfl
  rw [← hys] at hK
  rw [hysz] at hroom
  have hE : ∀ x, (encB x).length = 1 := fun _ => rfl
  have hflat : ∀ x, ∀ c ∈ encB x, Flat c := flatB
  have hwL : Hold w L := by
    have : Hold w (L ++ X.F) := hw
    obtain ⟨I, f, hI, hh, dd, s⟩ := this
    obtain ⟨g1, g2, j, s1, _⟩ := s.append
    refine ⟨I, g1, hI, fun b o e => hh b o (j.left e).1, fun b => ?_, s1⟩
    rcases dd b with e | e
    · exact .inl e
    · right
      cases hg : g1 b with
      | none => rfl
      | some o => have := (j.left hg).1; rw [e] at this; cases this
  have hxr : Rd w 1 encB v xs := by
    have hp : L.Perm (arr T 1 encB v xs :: M) := ht0.perm
    exact (HasArr.own (T := T) (L := arr T 1 encB v xs :: M) (by simp)).rd hE (hwL.perm hp)
  have hfx := run_firstCells (P := X.P) hxr hE
  have hfy : ∀ w, (Builtin.firstCells 1 ys.length (.string s0)).run X.P w = .ok (ys.flatMap encB).toArray w := fun w => by rw [hys, firstCells_str]
  clear hys
  obtain ⟨i, hi, hib⟩ := hbytes w
  have hlenx : ∃ p c, v = .slice p xs.length c := by
    rcases hxr with ⟨rfl, p, c, rfl⟩ | ⟨b, o, cap, c, E, fz, rfl, _⟩
    · exact ⟨p, c, rfl⟩
    · exact ⟨_, _, rfl⟩
  have hh1 : Hold w (arr T 1 encB v xs :: (M ++ X.F)) := by
    have := hw.perm (List.Perm.append_right X.F ht0.perm)
    simpa using this
  have hnlen : (ys.flatMap encB).length = ys.length * 1 := flat_len hE ys
  have hxlen : (xs.flatMap encB).length = xs.length * 1 := flat_len hE xs
  have hund : (underlying t').run X.P w = .ok .string w := by unfold underlying program; simp [Sem.run, ht']
  obtain ⟨p, cap, rfl⟩ := hlenx
  by_cases hfit : xs.length + ys.length ≤ cap
  · -- there is room
    obtain ⟨I, f, hI, hh, dd, g1, g2, j, a1, s⟩ := hh1
    rcases a1 with ⟨rfl, p', e⟩ | ⟨b, cap2, spare, e, a2, a3, a4⟩
    · simp only [Value.slice.injEq] at e
      obtain ⟨rfl, _, rfl⟩ := e
      have hy0 : ys = [] := by
        cases ys with
        | nil => rfl
        | cons _ _ => simp at hfit
      subst hy0
      have hr : (execOp a.eval ⟨some d, .call ⟨.builtin .append, #[x, y], #[t, t']⟩, ty, pos, af, none⟩).run X.P w = .ok (.value (.slice p 0 0)) w := by
        have hs00 : s0.size = 0 := by simpa using hysz
        have hfy := hfy w
        simp only [List.length_nil] at hfy
        cases p with
        | none => simp [execOp, resolve, ha.ev hx, ha.ev hy, invoke, builtin, Builtin.append_, ht.1 w, ht.2 w, hund, Builtin.lenOf, hs00, hfy]
        | some p => simp [execOp, resolve, ha.ev hx, ha.ev hy, invoke, builtin, Builtin.append_, ht.1 w, ht.2 w, hund, Builtin.lenOf, hs00, hfy, storeCells]
      unfold Oper.wp
      rw [hr]
      exact hK _ _ ⟨_, rfl, rfl⟩ _ _ (ha.put _ (Nat.le_of_ble_eq_true hd)) hs ⟨I, f, hI, hh, dd, g1, g2, j, .inl ⟨rfl, p, rfl⟩, s⟩
    · simp only [Value.slice.injEq] at e
      obtain ⟨rfl, _, rfl⟩ := e
      have hb : w.heap[b]? = some (.cells (xs.flatMap encB ++ spare).toArray T (0, 0)) := hh _ _ (j.left a4).1
      have hsp : ys.length * 1 ≤ spare.length := by
        rw [List.length_append, hxlen] at a3
        have := Nat.mul_le_mul_right 1 hfit
        rw [Nat.add_mul] at this
        omega
      have hst := run_storeCells (P := X.P) (b := b) (o := xs.length * 1) (ys.flatMap encB) 0 (xs.flatMap encB ++ spare) w (fun c hc => by
        obtain ⟨y, _, hy⟩ := List.mem_flatMap.1 hc
        exact hflat y c hy) hb (by rw [List.length_append, hxlen, hnlen]; omega)
      have hov : over (xs.flatMap encB ++ spare) (xs.length * 1 + 0) (ys.flatMap encB) = (xs ++ ys).flatMap encB ++ spare.drop (ys.length * 1) := by
        have key : ∀ (l a rest : List Value), l.length ≤ rest.length → over (a ++ rest) a.length l = a ++ l ++ rest.drop l.length := by
          intro l
          induction l with
          | nil => intro a rest _; simp [over]
          | cons v l ih =>
            intro a rest hr
            cases rest with
            | nil => simp at hr
            | cons r rest =>
              simp only [over]
              rw [List.set_append_right _ _ (Nat.le_refl _)]
              simp only [Nat.sub_self, List.set_cons_zero, List.length_cons, List.drop_succ_cons]
              have := ih (a ++ [v]) rest (by simpa using hr)
              simp only [List.length_append, List.length_cons, List.length_nil, List.append_assoc, List.cons_append, List.nil_append] at this ⊢
              exact this
        have := key (ys.flatMap encB) (xs.flatMap encB) spare (by omega)
        rw [hxlen, hnlen] at this
        rw [Nat.add_zero, this, List.flatMap_append]
      rw [hov] at hst
      simp only [Nat.mul_one, List.flatMap_append, List.append_assoc] at hst
      have hr : (execOp a.eval ⟨some d, .call ⟨.builtin .append, #[x, y], #[t, t']⟩, ty, pos, af, none⟩).run X.P w = .ok (.value (.slice (some ⟨b, 0, none⟩) (xs.length + ys.length) cap)) (World.put w b (.cells ((xs ++ ys).flatMap encB ++ spare.drop (ys.length * 1)).toArray T (0, 0))) := by
        simp [execOp, resolve, ha.ev hx, ha.ev hy, invoke, builtin, Builtin.append_, ht.1 w, ht.2 w, hund, Builtin.lenOf, hysz, hfit, hfy w, addr_add, hst]
      unfold Oper.wp
      rw [hr]
      have hblk : Hold w (blk b (.cells (xs.flatMap encB ++ spare).toArray T (0, 0)) :: (M ++ X.F)) := ⟨I, f, hI, hh, dd, g1, g2, j, a4, s⟩
      obtain ⟨I, f, hI, hh, dd, g1, g2, j, a4, s⟩ := hblk.put (.cells ((xs ++ ys).flatMap encB ++ spare.drop (ys.length * 1)).toArray T (0, 0))
      refine hK _ _ ⟨_, rfl, rfl⟩ _ _ (ha.put _ (Nat.le_of_ble_eq_true hd)) (same_put hs) ⟨I, f, hI, hh, dd, g1, g2, j, .inr ⟨b, cap, spare.drop (ys.length * 1), by simp, by simpa using hfit, ?_, a4⟩, s⟩
      rw [List.length_append] at a3 ⊢
      rw [flat_len hE, List.length_append, List.length_drop, Nat.add_mul]
      omega
  · -- a new block
    have hgt : cap < xs.length + ys.length := by omega
    have hfits := growslice_fits hgt hroom
    have hnb : ¬ (Builtin.nextslicecap (xs.length + ys.length) cap * i.bytes > 2 ^ 48) := by rw [hib]; have : (2 : Nat) ^ 48 = 281474976710656 := by decide
                                                                                             omega
    have hneed : xs.length + ys.length < 2 ^ 63 := by
      have h1 : xs.length + ys.length ≤ (xs.length + ys.length) * bytes := Nat.le_mul_of_pos_right _ hpos
      have : (2 : Nat) ^ 63 = 9223372036854775808 := by decide
      omega
    have hi64 : ¬ (((xs.length + ys.length : Nat) : Int) > IntKind.i64.max ∧ (false = true ∨ i.bytes = 0)) := by
      rintro ⟨_, h | h⟩
      · cases h
      · rw [hib] at h; exact absurd h (Nat.pos_iff_ne_zero.1 hpos)
    let newCap := Question.cut (.appendCap (xs.length + ys.length) cap T) (w.tape w.drawn (.appendCap (xs.length + ys.length) cap T))
    have hcap : xs.length + ys.length ≤ newCap := by show _ ≤ _ + _; omega
    have hr : (execOp a.eval ⟨some d, .call ⟨.builtin .append, #[x, y], #[t, t']⟩, ty, pos, af, none⟩).run X.P w =
        .ok (.value (.slice (some ⟨w.heap.size, 0, none⟩) (xs.length + ys.length) newCap)) (w.drew.alloc (.cells ((xs.flatMap encB).toArray ++ ((ys.flatMap encB).toArray ++ Builtin.zeroCells zv.cells (newCap - (xs.length + ys.length)))) T (0, 0))) := by
      have hx' : (Builtin.firstCells 1 xs.length (.slice p xs.length cap)).run X.P w.drew = .ok (xs.flatMap encB).toArray w.drew := by
        have : Rd w.drew 1 encB (.slice p xs.length cap) xs := hxr
        exact run_firstCells this hE
      have hy' := hfy w.drew
      have hask : ∀ w' n, (askRoom n).run X.P w' = .ok () w' := fun w' n => by unfold askRoom mark; split <;> simp [Sem.run]
      have hch : (choose (.appendCap (xs.length + ys.length) cap T)).run X.P w = .ok newCap w.drew := by
        simp [choose, Sem.run, Question.forced]; rfl
      have hty : ∀ w', (typeInfo T).run X.P w' = .ok i w' := fun w' => by
        unfold typeInfo program at hi ⊢
        simp only [Sem.run_bind, Sem.run, Result.andThen_ok, Sem.run_pure] at hi ⊢
        split at hi <;> simp_all
      have hb0 : ¬ i.bytes = 0 := by rw [hib]; exact Nat.pos_iff_ne_zero.1 hpos
      have hnb' : ¬ 281474976710656 < Builtin.nextslicecap (xs.length + ys.length) cap * i.bytes := by rw [hib]; omega
      have hforced : (Question.appendCap (xs.length + ys.length) cap T).forced = false := rfl
      simp [execOp, resolve, ha.ev hx, ha.ev hy, invoke, builtin, Builtin.append_, ht.1 w, ht.2 w, hund, Builtin.lenOf, hysz, hfit, hty, hb0, hnb', hforced, hx', hy', hz w.drew, newRow, newObj, Sem.run, newCap]
    unfold Oper.wp
    rw [hr]
    have hrow := (hh1.drop.heap (w' := w.drew) rfl).alloc (.cells ((xs.flatMap encB).toArray ++ ((ys.flatMap encB).toArray ++ Builtin.zeroCells zv.cells (newCap - (xs.length + ys.length)))) T (0, 0))
    refine hK _ _ ⟨_, rfl, rfl⟩ _ _ (ha.put _ (Nat.le_of_ble_eq_true hd)) (by first | exact hs | exact hs.drew) ?_
    obtain ⟨I, f, hI, hh, dd, g1, g2, j, a4, s⟩ := hrow
    have hz1 : (Builtin.zeroCells zv.cells (newCap - (xs.length + ys.length))).toList.length = (newCap - (xs.length + ys.length)) * 1 := by rw [Array.length_toList, size_zeroCells, hzs]
    refine ⟨I, f, hI, hh, dd, g1, g2, j, .inr ⟨w.heap.size, newCap, (Builtin.zeroCells zv.cells (newCap - (xs.length + ys.length))).toList, by simp [World.drew], by simpa using hcap, ?_, ?_⟩, s⟩
    · rw [List.length_append, flat_len hE, List.length_append, hz1, Nat.sub_mul]
      have := Nat.mul_le_mul_right 1 hcap
      omega
    · have a5 : g1 w.heap.size = _ := a4
      rw [a5]
      simp [List.flatMap_append]


/-- a text's bytes as a new slice: nobody writes it -/
theorem eff_strBytes {d : Nat} {src dt e : TypeId} {x : Operand} {s : ByteArray} {u : TypeDesc} (hd : Nat.blt d X.n = true) (hs' : X.P.underlying src = some u) (hdt : X.P.underlying dt = some (.slice e)) (he : X.P.underlying e = some (.int .u8)) (hx : ev fr x = some (.string s)) :
    Eff X fr L ⟨some d, .convert src dt x, ty, pos, af, none⟩ (fun fr' L' => ∃ v', fr' = (d, v') :: fr ∧ L' = iarr 1 encB v' s.data.toList :: L) := by
  intro Q hQ a w ha hs hw K hK
  left
  have hr : (execOp a.eval ⟨some d, .convert src dt x, ty, pos, af, none⟩).run X.P w = .ok (.value (.slice (some ⟨w.heap.size, 0, none⟩) s.size (grownCap w s.size 0 e))) (Lib.bytesWorld w e s) := by
    simp [execOp, ha.ev hx, Lib.run_convert_string_bytes w src dt e s hs' hdt he]
  unfold Oper.wp
  rw [hr]
  let o : Obj := .cells (Lib.bytesCells w e s) e ((Lib.bytesCells w e s).size, (Lib.bytesCells w e s).size + 1)
  have h1 : Hold (Lib.bytesWorld w e s) (blk w.heap.size o :: (L ++ X.F)) := by
    refine Hold.ext_ (hw.alloc o) fun b q hb => ?_
    by_cases h : b = w.heap.size
    · subst h
      have : (w.alloc o).heap[w.heap.size]? = some o := World.alloc_heap_new w o
      rw [this] at hb; cases hb
      exact Lib.bytesWorld_at_new w e s
    · have hlt : b < w.heap.size := by
        have := (Array.getElem?_eq_some_iff.1 hb).1
        simp at this
        omega
      rw [Lib.bytesWorld_at_old w e s b hlt, ← hb]
      show _ = (w.heap.push o)[b]?
      rw [Array.getElem?_push, if_neg h]
  have h2 := h1.freeze
  have hs2 : Same X.w0 (Lib.bytesWorld w e s) := by
    have := hs.drew
    unfold Lib.bytesWorld World.freeze
    split <;> exact this
  refine hK _ _ ⟨_, rfl, rfl⟩ _ _ (ha.put _ (Nat.le_of_ble_eq_true hd)) hs2 ?_
  obtain ⟨I, f, hI, hh, dd, g1, g2, j, a4, s4⟩ := h2
  have a5 : I w.heap.size = some (.cells (Lib.bytesCells w e s) e ((Lib.bytesCells w e s).size, (Lib.bytesCells w e s).size + 1)) := a4
  refine ⟨I, f, hI, hh, dd, g1, g2, j, .inr ⟨w.heap.size, 0, grownCap w s.size 0 e, ?_, _, _, _, a5, fun i hi => ?_⟩, s4⟩
  · rw [Array.length_toList]; rfl
  · have hi' : i < s.data.size := by rw [Array.length_toList, Nat.mul_one] at hi; exact hi
    rw [flatMap_encB, Nat.zero_add]
    unfold Lib.bytesCells
    rw [Array.getElem?_append_left (by rw [Array.size_map]; exact hi')]
    rw [Array.getElem?_map, List.getElem?_map, Array.getElem?_toList]

theorem ev_sliceData {dst : Option Nat} {x : Operand} {a : Addr} {n c : Nat} {tys : Array TypeId} (hx : ev fr x = some (.slice (some a) n c)) (hc : c ≠ 0) :
    Ev X fr L ⟨dst, .call ⟨.builtin .unsafeSliceData, #[x], tys⟩, ty, pos, af, none⟩ (.pointer (some a)) := fun A w ha _ => by
  have := Lib.run_unsafeSliceData_row (P := X.P) w tys ty a n c hc
  simp [execOp, resolve, ha.ev hx, invoke, builtin, this]

theorem eff_unsafeString {d : Nat} {x y : Operand} {pt it e g : Nat} {l : List UInt8} {spare : List Value} {M : List Asrt} (hd : Nat.blt d X.n = true) (hp : X.P.underlying pt = some (.pointer e)) (hc : X.P.cellsOf e = 1) (hx : ev fr x = some (.pointer (some ⟨g, 0, none⟩))) (hy : ev fr y = some (.int .i64 (l.length : Int)))
    (h0 : l ≠ []) (h63 : l.length ≤ 1000000000000) (ht : Take L (blk g (.cells (l.flatMap encB ++ spare).toArray e (0, 0))) M) :
    Eff X fr L ⟨some d, .call ⟨.builtin .unsafeString, #[x, y], #[pt, it]⟩, ty, pos, af, none⟩ (fun fr' L' => fr' = (d, .string ⟨l.toArray⟩) :: fr ∧ L' = M) := by
  intro Q hQ a w ha hs hw K hK
  left
  have hh1 : Hold w (blk g (.cells (l.flatMap encB ++ spare).toArray e (0, 0)) :: (M ++ X.F)) := by
    have := hw.perm (List.Perm.append_right X.F ht.perm)
    simpa using this
  have hb := hh1.blk_get
  have hlen : (l.flatMap encB).length = l.length := by rw [flatMap_encB]; simp
  have hrun := Lib.run_unsafeString_row (P := X.P) w pt it ty e hp hc g (l.flatMap encB ++ spare).length (by simp [World.shape?, hb]) l h0 (by rw [List.length_append, hlen]; omega) (by omega) (fun j x hj => by
    rw [addr_add, cell_of hb]
    have hlt : j < l.length := (List.getElem?_eq_some_iff.1 hj).1
    simp only [Nat.zero_add, List.getElem?_toArray]
    rw [List.getElem?_append_left (by rw [hlen]; exact hlt), flatMap_encB, List.getElem?_map, hj]; rfl)
  have hr : (execOp a.eval ⟨some d, .call ⟨.builtin .unsafeString, #[x, y], #[pt, it]⟩, ty, pos, af, none⟩).run X.P w = .ok (.value (.string ⟨l.toArray⟩)) (w.freeze ⟨g, 0, none⟩ l.length) := by
    simp [execOp, resolve, ha.ev hx, ha.ev hy, invoke, builtin, hrun]
  unfold Oper.wp
  rw [hr]
  have hl0 : l.length ≠ 0 := by simpa using h0
  refine hK _ _ ⟨rfl, rfl⟩ _ _ (ha.put _ (Nat.le_of_ble_eq_true hd)) (by unfold World.freeze; rw [if_neg hl0]; exact hs) ?_
  refine Hold.ext_ (hh1.put (.cells (l.flatMap encB ++ spare).toArray e (0, l.length))).drop fun b q hq => ?_
  unfold World.freeze
  rw [if_neg hl0]
  show (w.heap.modify g _)[b]? = some q
  rw [Array.getElem?_modify]
  by_cases hbg : g = b
  · subst hbg
    rw [put_get hb] at hq
    cases hq
    rw [if_pos rfl, hb]
    simp
  · rw [if_neg hbg, ← hq]
    show _ = (w.heap.setIfInBounds g _)[b]?
    rw [Array.getElem?_setIfInBounds_ne hbg]
end ops

/-- a slice that is not empty, opened -/
theorem t_open {X : Cx} {k : List Kt} {fr : Fr} {L M : List Asrt} {α : Type} {U sz : Nat} {enc : α → List Value} {v : Value} {xs : List α} {c : Code} (ht : Take L (arr U sz enc v xs) M) (h0 : xs ≠ [])
    (g : ∀ b cap spare, v = .slice (some ⟨b, 0, none⟩) xs.length cap → xs.length ≤ cap → T X k fr (blk b (.cells (xs.flatMap enc ++ spare).toArray U (0, 0)) :: M) c) : T X k fr L c := fun a w ha hs hw => by
  have hh1 : Hold w (arr U sz enc v xs :: (M ++ X.F)) := by
    have := hw.perm (List.Perm.append_right X.F ht.perm)
    simpa using this
  obtain ⟨I, f, hI, hh, dd, g1, g2, j, a1, s⟩ := hh1
  rcases a1 with ⟨e, _⟩ | ⟨b, cap, spare, e, a2, _, a4⟩
  · exact absurd e h0
  · exact g b cap spare e a2 a w ha hs ⟨I, f, hI, hh, dd, g1, g2, j, a4, s⟩

/-! arrays -/
def ArrayOf (P : Program) (t n e k : Nat) : Prop := (∀ w, (underlying t).run P w = .ok (.array n e) w) ∧ ∀ w, (sizeOf e).run P w = .ok k w
theorem arrayOf_of {P : Program} {t n e k : Nat} {i : TypeInfo} (h : P.underlying t = some (.array n e)) (hi : P.info? e = some i) (hk : i.size = k) : ArrayOf P t n e k :=
  ⟨fun w => by unfold underlying program; simp [Sem.run, h], sizeIs_of hi hk⟩
theorem ev_indexArr {X : Cx} {fr : Fr} {L : List Asrt} {dst : Option Nat} {ty : TypeId} {pos : String} {af : Array Edge} {x y : Operand} {t n e s b o i o' : Nat} {k : IntKind} (ht : ArrayOf X.P t n e s) (hx : ev fr x = some (.pointer (some ⟨b, o, none⟩))) (hy : ev fr y = some (.int k (i : Int))) (hi : i < n) (ho : o + i * s = o') :
    Ev X fr L ⟨dst, .indexAddr t x y, ty, pos, af, none⟩ (.pointer (some ⟨b, o', none⟩)) := fun a w ha _ => by
  subst ho
  have hi2 : (i : Int) < (n : Int) := by omega
  simp [execOp, ha.ev hx, ha.ev hy, Instr.indexAt, Instr.sureAddr, asIntOf, ht.1 w, ht.2 w, hi, addr_add]
end Go.SL
