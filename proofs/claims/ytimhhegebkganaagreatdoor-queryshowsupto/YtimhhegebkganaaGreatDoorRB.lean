/- What the row's list and the world's shape give: the table of powers, the months' table, MaxLen; and the contract of the law. -/
import Derived.Test.YtimhhegebkganaaGreatDoorRA
import Derived.WalkKit
import Derived.ProofKit
import Derived.OpenShut
import Derived.Carry
import Derived.ChangeSame
import Derived.Shelf.Vars
import Derived.Deep.DeepHandedRow
set_option linter.unusedSimpArgs false
set_option linter.unusedVariables false
set_option maxRecDepth 4000
namespace Go.SL
open Go.Proofs Go.Proofs.YtimhhegebkganaaGreatDoor Go.ChangeShapes Go.WideShapes Go.ChangeAt Go.RowKit
section
variable {P : Program} {w : World}
theorem laid_mem {n : String} {d : DataW Unit} : ∀ {l : List (String × DataW Unit)} {ps : List MemPlace}, DataW.LaidVars P w l ps → (n, d) ∈ l →
    ∃ g t cs fuel p, P.globalNamed n = some g ∧ (P.globals[g]?).map (·.type) = some t ∧ w.var? P n = some cs ∧ DataW.trod (fun _ => ()) P w 0 (fun _ => true) false fuel t cs.toList = some (d, p)
  | (m, e) :: r, ps, h, hm => by
    obtain ⟨g, t, cs, fuel, p, q, h1, h2, h3, h4, h5, _⟩ := h
    rcases List.mem_cons.1 hm with hm | hm
    · cases hm; exact ⟨g, t, cs, fuel, p, h1, h2, h3, h4⟩
    · exact laid_mem h5 hm
theorem tab_of_laid {n : String} {k : IntKind} {zs : List Int} {l : List (String × DataW Unit)} {g : Nat} {t e : TypeId} {m : Nat} (hl : laidMet P l w) (hm : (n, Go.Lib.tabData k zs) ∈ l)
    (hg : P.globalNamed n = some g) (hty : (P.globals[g]?).map (·.type) = some t) (ht : P.underlying t = some (.array m e)) (he : P.underlying e = some (.int k)) (hce : P.cellsOf e = 1) (hct : P.cellsOf t = m) :
    ∃ T z, w.heap[g]? = some (.cells (zs.map fun z => Value.int k z).toArray T z) := by
  obtain ⟨ps, hv, _⟩ := hl
  obtain ⟨g', t', cs, fuel, p, h1, h2, h3, h4⟩ := laid_mem hv hm
  obtain rfl := Option.some.inj (hg.symm.trans h1)
  obtain rfl := Option.some.inj (hty.symm.trans h2)
  have hcs := Go.Lib.cells_of_tab ht he hce hct h4
  unfold World.var? at h3
  rw [hg] at h3
  simp only [Option.bind_some] at h3
  split at h3
  · rename_i c T z hh
    refine ⟨T, z, ?_⟩
    rw [hh]
    have : c = (zs.map fun z => Value.int k z).toArray := by
      have e1 : c = cs := by simpa using h3
      rw [e1, ← hcs]
    rw [this]
  · cases h3
theorem hold_all {L : List Asrt} (h : ∀ A ∈ L, A.p (fun b => w.heap[b]?) (fun _ => Option.none)) : Hold w L := by
  refine ⟨fun b => w.heap[b]?, fun _ => Option.none, fun _ _ e => e, fun _ _ e => (by cases e), fun _ => Or.inr rfl, ?_⟩
  induction L with
  | nil => trivial
  | cons A L ih => exact ⟨fun _ => Option.none, fun _ => Option.none, Join.empty _, h A (List.mem_cons_self ..), ih fun B hB => h B (List.mem_cons_of_mem _ hB)⟩
end
theorem gPow : Tryz.prog.globalNamed "internal/strconv.uint64pow10" = some 0 := by kernel_rfl
theorem gAhead : Tryz.prog.globalNamed "gong/stamp.ahead" = some 1 := by kernel_rfl
theorem gMax : (Tryz.prog.globals[2]?).map (·.type) = some 3 := by kernel_rfl
theorem noHandle : (Rows.queryShowsUptoRow.laid.filter fun x => x.2.handleName?.isSome) = [] := by kernel_rfl
theorem laid_plain {W : World} (h : laidMetH Tryz.prog Rows.queryShowsUptoRow.laid W) : laidMet Tryz.prog Rows.queryShowsUptoRow.laid W := by
  unfold laidMetH at h
  rw [noHandle] at h
  exact h

theorem pow_p {W : World} (h : laidMet Tryz.prog Rows.queryShowsUptoRow.laid W) : powA.p (fun b => W.heap[b]?) (fun _ => Option.none) := by
  obtain ⟨T, z, e⟩ := tab_of_laid (k := .u64) (zs := Lib.pow10Tab) (t := 255) (e := 195) (m := 20) h (List.Mem.tail _ (List.Mem.tail _ (List.Mem.head _))) gPow (by kernel_rfl) Tryz.underlying255 Tryz.underlying195 (by kernel_rfl) (by kernel_rfl)
  exact ⟨(T, z), e⟩
theorem ahead_p {W : World} (h : laidMet Tryz.prog Rows.queryShowsUptoRow.laid W) : ∃ q, (aheadI q).p (fun b => W.heap[b]?) (fun _ => Option.none) := by
  obtain ⟨T, z, e⟩ := tab_of_laid (n := "gong/stamp.ahead") (k := .i64) (zs := [0, 0, 31, 59, 90, 120, 151, 181, 212, 243, 273, 304, 334, 365]) (t := 302) (e := 3) (m := 14) h
    (List.Mem.tail _ (List.Mem.tail _ (List.Mem.tail _ (List.Mem.tail _ (List.Mem.tail _ (List.Mem.tail _ (List.Mem.head _))))))) gAhead (by kernel_rfl) Tryz.underlying302 Tryz.underlying3 (by kernel_rfl) (by kernel_rfl)
  exact ⟨(T, z), e⟩
theorem var_p {W : World} (h : W.ShapedOpen Tryz.prog) : (varA 2 .i64).p (fun b => W.heap[b]?) (fun _ => Option.none) := by
  have h0 : ((begin Tryz.prog (fun _ _ => 0) default).world.heap[2]?).bind Obj.row? = some (#[.int .i64 0], 3) := by kernel_rfl
  obtain ⟨cs, hh, hs, _⟩ := h.1 2 _ _ (of_decide_eq_true (by kernel_rfl)) h0
  obtain ⟨m, hm⟩ := cell_of_shapedOpen_int h (g := 2) (t := 3) (k := .i64) (of_decide_eq_true (by kernel_rfl)) h0 rfl (by kernel_rfl) (by kernel_rfl) Tryz.underlying3
  have e : cs = #[.int .i64 m] := by
    have h1 : cs.size = 1 := hs
    have h2 : cs[0]? = some (.int .i64 m) := by simpa [World.cell?, hh] using hm
    apply Array.ext_getElem?
    intro i
    cases i with
    | zero => exact h2
    | succ i => rw [Array.getElem?_eq_none (by omega), Array.getElem?_eq_none (by simp)]
  exact ⟨(m, 3, (0, 0)), by rw [e] at hh; exact hh⟩

theorem laidOut : laidOutB Tryz.prog = true := by kernel_rfl

/-- WHAT THE WALK GIVES, FOR EVERY ARGUMENT AND EVERY WORLD THAT HOLDS THE TABLES -/
theorem contract (H : Type) (enc : TypeId × Value → H) (W : World) (base : Nat) (args : Array Value) (ds gs : List (DataW H)) (before : List MemPlace)
    (hval : ∀ (j : Nat) t v, Tryz.f3.params[j]? = some t → args[j]? = some v → Value.okWide Tryz.prog W .any base t v)
    (hW : DataW.Whole enc Tryz.prog Tryz.f3.params.toList Rows.queryShowsSpec.vars false W args.toList ds gs before) (hk : Rows.uptoSmall H (ds ++ gs) = true)
    (hL : laidMetH Tryz.prog Rows.queryShowsUptoRow.laid W) (hsh : W.ShapedOpen Tryz.prog) :
    Calls Tryz.prog 3 args W fun e W' => ∃ v, e = .returned v ∧ Rows.queryShowsSpec.post enc Tryz.prog Tryz.f3 false true false false W args v W' := by
  have hW' := hW
  have hL := laid_plain hL
  obtain ⟨p, q, hA0, hV, rfl, hfz, hnd⟩ := hW
  have hA : DataW.TrodAll enc Tryz.prog W 0 (fun _ => true) true Tryz.f3.params.toList args.toList ds p := hA0
  rw [Tryz.params3] at hA hval
  obtain ⟨v0, vs0, d0, ds0, p0, q0, hargs, rfl, rfl, h0, r0⟩ := trodAll_cons hA
  obtain ⟨v1, vs1, d1, ds1, p1, q1, rfl, rfl, rfl, h1, r1⟩ := trodAll_cons r0
  obtain ⟨rfl, rfl, rfl⟩ := trodAll_nil r1
  obtain rfl : args = #[v0, v1] := by cases args; simp_all
  obtain ⟨rfl, rfl⟩ := trodVars_none hV
  have h0k := h0
  obtain ⟨n, rfl, rfl, rfl, wn⟩ := open_int Tryz.underlying3 (hval 1 3 v1 rfl rfl) h1
  clear hA0
  simp only [List.append_nil] at hW' hk
  have hbulk : Rows.uptoBulk d0 ≤ 2000000 := by
    have := of_decide_eq_true hk
    simp only [Rows.uptoBulkAll] at this
    omega
  obtain ⟨xs, hrows, hxs, hxl⟩ := open_rows (hval 0 22 v0 rfl rfl) h0 hbulk
  obtain ⟨q, hq⟩ := ahead_p hL
  have hold : Hold W ([iarr 11 encRow v0 xs, powA, aheadI q, varA 2 .i64] ++ immL (allOf W)) := by
    apply hold_all
    intro A hA
    rcases List.mem_append.1 hA with hA | hA
    · simp at hA
      rcases hA with rfl | rfl | rfl | rfl
      · exact hrows
      · exact pow_p hL
      · exact hq
      · exact var_p hsh
    · obtain ⟨b, hb, rfl⟩ := List.mem_map.1 hA
      exact allOf_get W b hb
  refine Calls.mono (QueryShows_ct q v0 xs n hxs hxl W _ hold) fun e W' he => ?_
  cases e with
  | returned u =>
    obtain ⟨hs, L, hu, hh⟩ := he
    have hu : u = .bool true := hu
    subst hu
    have hget : ∀ b o, W.heap[b]? = some o → W'.heap[b]? = some o := fun b o hb => hold_imms_get hh.right (b, o) (allOf_mem hb)
    have hbel : Below W.heap.size W W' := ⟨hs.1, hs.2.1, hs.2.2.1, by
      rcases Nat.eq_zero_or_pos W.heap.size with h0 | h0
      · omega
      · have hb : W.heap[W.heap.size - 1]? = some W.heap[W.heap.size - 1] := by simp [h0]
        have := (Array.getElem?_eq_some_iff.1 (hget _ _ hb)).1
        omega, fun k hk => by
      have hb : W.heap[k]? = some W.heap[k] := by simp [hk]
      rw [hb]; exact hget _ _ hb⟩
    have hlt : ∀ x ∈ p0, x.block < W.heap.size := fun x hx => by simpa using hW'.lt x (by simpa using hx)
    refine ⟨_, rfl, _, _, _, [], p0, [], hW', ?_, ?_, ?_, hbel.frame _, fun h => by cases h⟩
    · exact trodAll_cons_mk (shut_bool Tryz.underlying4 _) trodAll_mk0
    · have := trodAll_cons_mk (Below.trod laidOut (by kernel_rfl) (of_decide_eq_true (by kernel_rfl)) h0k hbel hlt) (trodAll_cons_mk (shut_int Tryz.underlying3 wn) trodAll_mk0)
      simp only [List.append_nil] at this
      exact this
    · rfl
  | panicked c => exact he.elim
  | outgrown => exact he.elim
end Go.SL
