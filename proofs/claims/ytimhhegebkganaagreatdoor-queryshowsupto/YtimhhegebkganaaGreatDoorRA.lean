/- A slice of rows as the form reads it is a list of rows that lie in the heap. -/
import Derived.Test.YtimhhegebkganaaGreatDoorTie
import Derived.Test.YtimhhegebkganaaGreatDoorCards
import Derived.ChangeArms
import Derived.WideShapes
import Derived.Lib.LaidTab
import Derived.Test.YtimhhegebkganaaGreatDoorGZG
set_option linter.unusedSimpArgs false
set_option linter.unusedVariables false
set_option maxRecDepth 4000
namespace Go.SL
open Go.Proofs Go.Proofs.YtimhhegebkganaaGreatDoor
section
variable {H : Type} {enc : TypeId × Value → H} {w : World} {base : Nat} {spare : Nat → Bool} {held : Bool} {fuel : Nat}

theorem cells45 : Tryz.prog.cellsOf 45 = 11 := by kernel_rfl
theorem cells43 : Tryz.prog.cellsOf 43 = 5 := by kernel_rfl
theorem cells3 : Tryz.prog.cellsOf 3 = 1 := by kernel_rfl
theorem cells4 : Tryz.prog.cellsOf 4 = 1 := by kernel_rfl
theorem cells9 : Tryz.prog.cellsOf 9 = 1 := by kernel_rfl

theorem len5 {α : Type} {l : List α} (h : l.length = 5) : ∃ a b c d e, l = [a, b, c, d, e] := by
  match l, h with
  | [a, b, c, d, e], _ => exact ⟨a, b, c, d, e, rfl⟩
theorem len7 {α : Type} {l : List α} (h : l.length = 7) : ∃ a b c d e f g, l = [a, b, c, d, e, f, g] := by
  match l, h with
  | [a, b, c, d, e, f, g], _ => exact ⟨a, b, c, d, e, f, g, rfl⟩
theorem len11 {α : Type} {l : List α} (h : l.length = 11) : ∃ a b c d e f g i j k m, l = [a, b, c, d, e, f, g, i, j, k, m] := by
  match l, h with
  | [a, b, c, d, e, f, g, i, j, k, m], _ => exact ⟨a, b, c, d, e, f, g, i, j, k, m, rfl⟩

theorem wf64 {n : Int} (h : (Lit.int .i64 n).wf = true) : -9223372036854775808 ≤ n ∧ n ≤ 9223372036854775807 := by
  have h2 : (decide (IntKind.i64.min ≤ n) && decide (n ≤ IntKind.i64.max)) = true := h
  rw [Bool.and_eq_true] at h2
  have a1 := of_decide_eq_true h2.1
  have a2 := of_decide_eq_true h2.2
  have e1 : IntKind.i64.min = -9223372036854775808 := rfl
  have e2 : IntKind.i64.max = 9223372036854775807 := rfl
  omega
/-- an event of five cells -/
theorem open_evt {cs : List Value} {x : DataW H × List MemPlace} (h : DataW.trod enc Tryz.prog w base spare held fuel 43 cs = some x) :
    ∃ e : Evt, cs = encEvt e ∧ e.node.size + e.cls.size + e.key.size + e.text.size ≤ Rows.uptoBulk x.1 ∧ -9223372036854775808 ≤ e.level ∧ e.level ≤ 9223372036854775807 := by
  obtain ⟨xs, n, rfl, rfl, hl, hx, hf⟩ := DataW.trod_struct Tryz.underlying43 h
  rw [cells43] at hl
  obtain ⟨c0, c1, c2, c3, c4, rfl⟩ := len5 hl
  obtain ⟨x0, x1, x2, x3, x4, rfl⟩ := len5 hx
  have h0 := hf 0 _ rfl
  have h1 := hf 1 _ rfl
  have h2 := hf 2 _ rfl
  have h3 := hf 3 _ rfl
  have h4 := hf 4 _ rfl
  obtain ⟨s0, e0, rfl, _⟩ := DataW.trod_string Tryz.underlying9 h0
  obtain ⟨s1, e1, rfl, _⟩ := DataW.trod_string Tryz.underlying9 h1
  obtain ⟨s2, e2, rfl, _⟩ := DataW.trod_string Tryz.underlying9 h2
  obtain ⟨n3, e3, rfl, w3⟩ := DataW.trod_int Tryz.underlying3 h3
  obtain ⟨s4, e4, rfl, _⟩ := DataW.trod_string Tryz.underlying9 h4
  simp [cells3, cells9] at e0 e1 e2 e3 e4
  subst e0; subst e1; subst e2; subst e3; subst e4
  refine ⟨⟨s0, s1, s2, n3, s4⟩, rfl, ?_, wf64 w3⟩
  simp only [List.map_cons, List.map_nil, Rows.uptoBulk, Rows.uptoBulkAll, Array.length_toList]
  show s0.data.size + s1.data.size + s2.data.size + s4.data.size ≤ _
  omega

/-- a row of eleven cells -/
theorem open_row {cs : List Value} {x : DataW H × List MemPlace} (h : DataW.trod enc Tryz.prog w base spare held fuel 45 cs = some x) (hb : Rows.uptoBulk x.1 ≤ 2000000) :
    ∃ r : Row, cs = encRow r ∧ bigRow r ∧ intRow r := by
  obtain ⟨xs, n, rfl, rfl, hl, hx, hf⟩ := DataW.trod_struct Tryz.underlying45 h
  rw [cells45] at hl
  obtain ⟨c0, c1, c2, c3, c4, c5, c6, c7, c8, c9, c10, rfl⟩ := len11 hl
  obtain ⟨x0, x1, x2, x3, x4, x5, x6, rfl⟩ := len7 hx
  have h0 := hf 0 _ rfl
  have h1 := hf 1 _ rfl
  have h2 := hf 2 _ rfl
  have h3 := hf 3 _ rfl
  have h4 := hf 4 _ rfl
  have h5 := hf 5 _ rfl
  have h6 := hf 6 _ rfl
  obtain ⟨n0, e0, rfl, w0⟩ := DataW.trod_int Tryz.underlying3 h0
  obtain ⟨ev, e1, hev, hlv⟩ := open_evt h1
  obtain ⟨n2, e2, rfl, w2⟩ := DataW.trod_int Tryz.underlying3 h2
  obtain ⟨n3, e3, rfl, w3⟩ := DataW.trod_int Tryz.underlying3 h3
  obtain ⟨n4, e4, rfl, w4⟩ := DataW.trod_int Tryz.underlying3 h4
  obtain ⟨b5, e5, rfl⟩ := DataW.trod_bool Tryz.underlying4 h5
  obtain ⟨s6, e6, rfl, _⟩ := DataW.trod_string Tryz.underlying9 h6
  simp [encEvt, cells3, cells9, cells4, cells43] at e0 e1 e2 e3 e4 e5 e6
  obtain ⟨rfl, rfl, rfl, rfl, rfl⟩ := e1
  subst e0; subst e2; subst e3; subst e4; subst e5; subst e6
  simp only [List.map_cons, List.map_nil, Rows.uptoBulk, Rows.uptoBulkAll, Array.length_toList] at hb
  have hs6 : s6.data.size = s6.size := rfl
  refine ⟨⟨n0, ev, n2, n3, n4, b5, s6⟩, rfl, ⟨?_, ?_, ?_, ?_, ?_⟩, wf64 w0, hlv, wf64 w2⟩
  all_goals (dsimp only; omega)

theorem list_of {P : Nat → Row → Prop} : ∀ len : Nat, (∀ i, i < len → ∃ r, P i r) → ∃ xs : List Row, xs.length = len ∧ ∀ i r, xs[i]? = some r → P i r
  | 0, _ => ⟨[], rfl, fun i r h => by simp at h⟩
  | n + 1, h => by
    obtain ⟨xs, h1, h2⟩ := list_of n (fun i hi => h i (by omega))
    obtain ⟨r, hr⟩ := h n (by omega)
    refine ⟨xs ++ [r], by simp [h1], fun i q hq => ?_⟩
    by_cases e : i < xs.length
    · rw [List.getElem?_append_left e] at hq; exact h2 i q hq
    · have hi := (List.getElem?_eq_some_iff.1 hq).1
      simp at hi
      obtain rfl : i = xs.length := by omega
      simp at hq
      subst hq; rw [h1]; exact hr

theorem bulk_part {d : DataW H} : ∀ {l : List (DataW H)}, d ∈ l → Rows.uptoBulk d ≤ Rows.uptoBulkAll l
  | x :: r, h => by
    simp only [Rows.uptoBulkAll]
    cases List.mem_cons.1 h with
    | inl e => subst e; omega
    | inr e => have := bulk_part e; omega
theorem bulk_one (d : DataW H) : 1 ≤ Rows.uptoBulk d := by
  cases d with
  | lit l => cases l <;> simp [Rows.uptoBulk]
  | nil => simp [Rows.uptoBulk]
  | ptr d => simp [Rows.uptoBulk]
  | slice elems spare => simp [Rows.uptoBulk]
  | agg parts => simp [Rows.uptoBulk]
  | iface t d => simp [Rows.uptoBulk]
  | map entries => simp [Rows.uptoBulk]
  | held h => simp [Rows.uptoBulk]
theorem bulk_len : ∀ l : List (DataW H), l.length ≤ Rows.uptoBulkAll l
  | [] => by simp
  | x :: r => by have := bulk_one x; have := bulk_len r; simp only [Rows.uptoBulkAll, List.length_cons]; omega

theorem cell_plain {a : Addr} {v : Value} (h : w.cell? a = some v) : ∃ c t z, w.heap[a.block]? = some (.cells c t z) ∧ a.spot = Option.none ∧ c[a.off]? = some v := by
  unfold World.cell? at h
  split at h
  · rename_i c t z hh
    cases hs : a.spot with
    | none => rw [hs] at h; exact ⟨c, t, z, hh, rfl, by simpa using h⟩
    | some _ => rw [hs] at h; simp at h
  · cases h

/-- THE ARGUMENT: a slice of rows -/
theorem open_rows {v : Value} {d : DataW H} {ps : List MemPlace} {r : Reach} {b0 : Nat} (hval : Value.okWide Tryz.prog w r b0 22 v) (h : DataW.Trod enc Tryz.prog w base spare held 22 v d ps) (hb : Rows.uptoBulk d ≤ 2000000) :
    ∃ xs : List Row, (iarr 11 encRow v xs).p (fun b => w.heap[b]?) (fun _ => Option.none) ∧ (∀ r ∈ xs, bigRow r ∧ intRow r) ∧ xs.length ≤ 2000000 := by
  obtain ⟨a, len, cap, rfl⟩ := Go.WideShapes.okWide_slice Tryz.underlying22 hval
  obtain ⟨fuel, hf⟩ := h
  rcases DataW.trod_slice Tryz.underlying22 hf with ⟨e, _⟩ | ⟨a', len', cap', elems, rest, n, rfl, e, hx, hbb, hl, hm, hlen, hel, hsp, hns⟩
  · have e2 : Value.slice a len cap = .slice Option.none 0 0 := by simpa [Value.cells] using e
    rw [e2]
    exact ⟨[], .inl ⟨rfl, _, _, rfl⟩, by simp, by simp⟩
  · have e2 : Value.slice a len cap = .slice (some a') len' cap' := by simpa [Value.cells] using e
    rw [e2]
    have hd : d = .slice (elems.map (·.1)) (rest.map (·.1)) := congrArg Prod.fst hx
    have hel2 : Rows.uptoBulkAll (elems.map (·.1)) ≤ 2000000 := by
      rw [hd] at hb; simp only [Rows.uptoBulk] at hb; omega
    have key : ∀ i, i < len' → ∃ r : Row, w.cells? base (a'.add (i * 11)) 11 = some (encRow r) ∧ bigRow r ∧ intRow r := by
      intro i hi
      have h1 := hel i hi
      rw [cells45] at h1
      have hi2 : i < elems.length := by omega
      rw [List.getElem?_eq_getElem hi2, Option.bind_eq_some_iff] at h1
      obtain ⟨cs, hcs, ht⟩ := h1
      have hbi : Rows.uptoBulk (elems[i]).1 ≤ 2000000 := Nat.le_trans (bulk_part (List.mem_map_of_mem (List.getElem_mem hi2))) hel2
      obtain ⟨r, rfl, h3, h4⟩ := open_row ht hbi
      exact ⟨r, hcs, h3, h4⟩
    obtain ⟨xs, hxl, hxs⟩ := list_of len' key
    refine ⟨xs, ?_, fun r hr => ?_, ?_⟩
    · by_cases h0 : len' = 0
      · subst h0
        obtain rfl : xs = [] := List.length_eq_zero_iff.1 hxl
        exact .inl ⟨rfl, _, _, rfl⟩
      · have cell : ∀ i k r, xs[i]? = some r → k < 11 → ∃ b, (encRow r)[k]? = some b ∧ w.cell? ((a'.add (i * 11)).add k) = some b := by
          intro i k r hr hk
          have hc := (hxs i r hr).1
          unfold World.cells? at hc
          split at hc
          · exact Go.Lib.mapM_at hc k k (by simp [hk])
          · cases hc
        obtain ⟨r0, hr0⟩ : ∃ r, xs[0]? = some r := ⟨xs[0]'(by omega), by simp [show 0 < xs.length by omega]⟩
        obtain ⟨b, _, hcell⟩ := cell 0 0 r0 hr0 (by omega)
        have hadd : (a'.add (0 * 11)).add 0 = a' := by simp [Addr.add]
        rw [hadd] at hcell
        obtain ⟨c, t, z, hh, hspot, _⟩ := cell_plain hcell
        obtain ⟨ab, ao, asp⟩ := a'
        simp only at hspot hh
        subst hspot
        refine .inr ⟨ab, ao, cap', by rw [hxl], c, t, z, hh, fun j hj => ?_⟩
        have hj2 : j / 11 < xs.length := Nat.div_lt_of_lt_mul (by rw [Nat.mul_comm]; exact hj)
        have hjr : xs[j / 11]? = some (xs[j / 11]) := by simp [hj2]
        obtain ⟨b, hb1, hb2⟩ := cell (j / 11) (j % 11) _ hjr (Nat.mod_lt _ (by omega))
        have h5 := flat_at (sz := 11) (enc := encRow) (fun _ => rfl) hjr (Nat.mod_lt j (by omega))
        have hdm : j / 11 * 11 + j % 11 = j := Nat.div_add_mod' j 11
        rw [hdm, hb1] at h5
        rw [h5]
        obtain ⟨c2, t2, z2, hh2, _, hc2⟩ := cell_plain hb2
        have hblk : ((Addr.add ⟨ab, ao, Option.none⟩ (j / 11 * 11)).add (j % 11)).block = ab := by unfold Addr.add; split <;> split <;> rfl
        have hoff : ((Addr.add ⟨ab, ao, Option.none⟩ (j / 11 * 11)).add (j % 11)).off = ao + j := by unfold Addr.add; split <;> split <;> simp_all <;> omega
        rw [hblk] at hh2
        rw [hoff] at hc2
        rw [hh] at hh2
        cases hh2
        exact hc2
    · obtain ⟨i, hi, he⟩ := List.getElem_of_mem hr
      exact (hxs i r (by rw [List.getElem?_eq_getElem hi, he])).2
    · have := bulk_len (elems.map (·.1))
      simp at this
      omega
end
end Go.SL
