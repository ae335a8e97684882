/- More of Go's library laid at the seat, off the kit's shelf. -/
import Derived.Test.YtimhhegebkganaaGreatDoorProg
import Derived.Test.YtimhhegebkganaaGreatDoorPlain
import Derived.Shelf.Strings.Builder1
import Derived.Shelf.Strconv.Atoi
import Derived.Shelf.Strings.Trim
import Derived.Shelf.Spec.SlicesGrow
import Derived.Shelf.Strings.OnBuilder
import Derived.Shelf.SlGeneric
import Derived.Test.YtimhhegebkganaaGreatDoorSl13
import Derived.Test.YtimhhegebkganaaGreatDoorSA
import Derived.Test.YtimhhegebkganaaGreatDoorGP
set_option linter.unusedSimpArgs false
set_option linter.unusedVariables false
namespace Go.SL
open Go.Proofs Go.Shelf
theorem builderX : Builder.Extra Tryz.prog Tryz.laysJoin_ren where
  sizeBuilder := by kernel_rfl
  liesBuilder := by kernel_rfl
  t5 := Tryz.underlying5
  a5 := fun w => isSc_of Tryz.underlying5 rfl w
  z5 := fun w => (sizeIs_of (P := Tryz.prog) (t := 5) (i := Tryz.t5) (by kernel_rfl) rfl) w
  v5 := fun w => (zeroIs_of (P := Tryz.prog) (t := 5) (i := Tryz.t5) (by kernel_rfl) rfl) w
  infoByte := by kernel_rfl
  cellsByte := by kernel_rfl
  sizeByte := by kernel_rfl
  neB5 := by decide

theorem TrimRight0_ct (s : ByteArray) (hs : s.size ≤ 1000000) : CT Tryz.prog 101 #[.string s, .string ⟨#[48]⟩] [] (fun u M => u = .string ⟨(Go.Lib.trimRightB s.data.toList 48).toArray⟩ ∧ M = []) :=
  ct_same fun w F h => Any.strings_TrimRight_one Tryz.laysTrim s 48 (by decide) w (by omega)
theorem Atoi_ct (s : ByteArray) (n : Int) (hl : s.size ≤ 18) (h : Go.Lib.atoi s.data.toList = some n) : CT Tryz.prog 133 #[.string s] [] (fun u M => u = .tuple #[.int .i64 n, .nilIface] ∧ M = []) :=
  fun w F hw => Calls.mono (Any.strconv_Atoi Tryz.laysAtoi s n hl h w) fun e w' ⟨he, t, hg⟩ => by
    subst he; subst hg
    have hs : Same ⟨w, true⟩ (Go.Lib.bytesWorld w 5 t) := by
      have := (Same.refl w (m := true)).drew
      unfold Go.Lib.bytesWorld World.freeze
      split <;> exact this
    exact ⟨hs, _, ⟨rfl, rfl⟩, Hold.ext_ hw fun b o hb => by rw [← hb]; exact Go.Lib.bytesWorld_at_old w 5 t b (Array.getElem?_eq_some_iff.1 hb).1⟩
theorem copyFresh_ct (b : Nat) (sv : Value) : CT Tryz.prog 102 #[.pointer (some ⟨b, 0, none⟩)] [blk b (.cells [.pointer none, sv].toArray 152 (0, 0))] (fun u M => u = .tuple #[] ∧ M = [blk b (.cells [.pointer (some ⟨b, 0, none⟩), sv].toArray 152 (0, 0))]) := by
  intro w F hw
  have hb := Hold.blk_get hw
  refine Calls.mono (Any.Builder_copyCheck_fresh (ρ := Tryz.laysJoin_ren) { Tryz.laysJoin with } builderX.toX72 b w (by simp [World.cell?, hb]) (by simp [World.shape?, hb]; rfl) (by simp [World.frozen?, hb])) fun e w' he => ?_
  obtain ⟨rfl, rfl⟩ := he
  rw [setCell_eq hb]
  exact ⟨same_put (Same.refl w), _, ⟨rfl, rfl⟩, Hold.put hw _⟩
theorem copyUsed_ct (b : Nat) (sv : Value) : CT Tryz.prog 102 #[.pointer (some ⟨b, 0, none⟩)] [blk b (.cells [.pointer (some ⟨b, 0, none⟩), sv].toArray 152 (0, 0))] (fun u M => u = .tuple #[] ∧ M = [blk b (.cells [.pointer (some ⟨b, 0, none⟩), sv].toArray 152 (0, 0))]) :=
  ct_same fun w F hw => Any.Builder_copyCheck_used (ρ := Tryz.laysJoin_ren) { Tryz.laysJoin with } builderX.toX72 b w (by have hb := Hold.blk_get hw; simp [World.cell?, hb])
theorem flatMap_encS : ∀ l : List ByteArray, l.flatMap encS = l.map Value.string
  | [] => rfl
  | x :: r => by rw [List.flatMap_cons, flatMap_encS r]; rfl
theorem Grow_ct (n : Nat) (h1 : 1 ≤ n) (h2 : n ≤ 1000000) : CT Tryz.prog 61 #[.slice none 0 0, .int .i64 (n : Int)] [] (fun u M => ∃ gv, u = gv ∧ M = [arr 9 1 encS gv []]) := by
  intro w F hw
  refine Calls.mono (Any8.slices_Grow_grow Tryz.laysGrow Tryz.t9 (.string ⟨#[]⟩) (by kernel_rfl) rfl (by decide) none 0 0 n [] w (Nat.le_refl _) (by omega) (by show (0 + n) * 16 ≤ _; omega) (by omega) rfl (fun _ => rfl) (fun _ h => by cases h)) fun e w' he => ?_
  obtain ⟨rfl, rfl⟩ := he
  refine ⟨same_alloc (Same.refl w).drew, _, ⟨_, rfl, rfl⟩, ?_⟩
  have h := Hold.alloc (hw.heap (w' := w.drew) rfl) (.cells (([] : List Value).toArray ++ Builtin.zeroCells (Value.string ⟨#[]⟩).cells (0 + n - 0) ++ Builtin.zeroCells (Value.string ⟨#[]⟩).cells (grownCap w (0 + n) 0 9 - (0 + n))) 9 (0, 0))
  obtain ⟨I, f, hI, hh, dd, g1, g2, j, a4, s⟩ := h
  have hge : 0 + n ≤ grownCap w (0 + n) 0 9 := grownCap_ge w _ _ _
  refine ⟨I, f, hI, hh, dd, g1, g2, j, .inr ⟨w.heap.size, grownCap w (0 + n) 0 9, (([] : List Value).toArray ++ Builtin.zeroCells (Value.string ⟨#[]⟩).cells (0 + n - 0) ++ Builtin.zeroCells (Value.string ⟨#[]⟩).cells (grownCap w (0 + n) 0 9 - (0 + n))).toList, rfl, Nat.zero_le _, ?_, ?_⟩, s⟩
  · have e : (Value.string ⟨#[]⟩).cells.size = 1 := rfl
    rw [List.flatMap_nil, List.nil_append, Array.length_toList, Array.size_append, Array.size_append, size_zeroCells, size_zeroCells, e]
    rw [Nat.zero_add] at hge ⊢
    simp
    omega
  · rw [List.flatMap_nil, List.nil_append, Array.toArray_toList]; exact a4
def joinF (xs : List ByteArray) (sep : ByteArray) : ByteArray := ⟨(Go.Lib.join (xs.map (·.data.toList)) sep.data.toList).toArray⟩
theorem Join_ct (v : Value) (xs : List ByteArray) (sep : ByteArray) (h2 : 2 ≤ xs.length) (hN : xs.length ≤ 1000000) (hlen : (joinF xs sep).size ≤ 140737488355328) : CTm false Tryz.prog 30 #[v, .string sep] [arr 9 1 encS v xs] (fun u M => u = .string (joinF xs sep) ∧ M = [arr 9 1 encS v xs]) :=
  fun w F hw => by
    have hw0 := hw
    obtain ⟨I, h, hI, hh, hd, g1, g2, j, a, s⟩ := hw
    rcases a with ⟨rfl, p, rfl⟩ | ⟨b, cap, spare, rfl, a2, a3, a4⟩
    · simp at h2
    · have hb : w.heap[b]? = some (.cells (xs.flatMap encS ++ spare).toArray 9 (0, 0)) := hh _ _ (j.left a4).1
      refine Calls.mono (Any.strings_Join_many Tryz.laysJoin builderX b 0 cap xs sep w (fun i x hx => ?_) (Array.getElem?_eq_some_iff.1 hb).1 h2 (by omega) a2 (by simpa [joinF, ByteArray.size] using hlen)) fun e w' he => ?_
      · have hlt : i < xs.length := (List.getElem?_eq_some_iff.1 hx).1
        rw [cell_of hb, Nat.zero_add, List.getElem?_toArray, flatMap_encS, List.getElem?_append_left (by simpa using hlt), List.getElem?_map, hx]; rfl
      · obtain ⟨rfl, hg⟩ := he
        exact ⟨⟨hg.os, hg.tape, hg.output, fun e => nomatch e⟩, _, ⟨rfl, rfl⟩, Hold.ext_ hw0 fun c o hc => by rw [hg.block c (Array.getElem?_eq_some_iff.1 hc).1]; exact hc⟩
end Go.SL
