/- QueryShows, where what it reads is of bulk at most 1048576: it returns true and leaves its arguments as they were. Conditions: the listed tables hold what the program's text lays in them (the card ties that); the order of evaluation, the growth of slices and the order of map walks are the machine's own. -/
import Derived.Test.YtimhhegebkganaaGreatDoorRB
import Derived.Deep.DeepWitnessRowRef
import Derived.LaidLaws
set_option linter.unusedSimpArgs false
set_option linter.unusedVariables false
namespace Go.Proofs.YtimhhegebkganaaGreatDoor
open Go.ChangeShapes Go.WideShapes Go.ChangeAt Go.RowKit
noncomputable def low : Nat := (World.holding Tryz.prog default ⟨#[], #[], []⟩).heap.size
def put (a : Array Value) : Obj → Obj
  | .cells _ t frozen => .cells a t frozen
  | o => o
/-- A WORLD FOR THE WITNESS: each listed variable holds what its initialiser lays. -/
noncomputable def laidWorld (os : Os) : World :=
  let w0 := World.holding Tryz.prog os ⟨#[.cells #[.string ⟨#[105, 110, 118, 97, 108, 105, 100, 32, 115, 121, 110, 116, 97, 120]⟩] 387, .cells #[.string ⟨#[118, 97, 108, 117, 101, 32, 111, 117, 116, 32, 111, 102, 32, 114, 97, 110, 103, 101]⟩] 387], #[], []⟩
  { w0 with heap := (((((((((((w0.heap.modify 0 (put (([1, 10, 100, 1000, 10000, 100000, 1000000, 10000000, 100000000, 1000000000, 10000000000, 100000000000, 1000000000000, 10000000000000, 100000000000000, 1000000000000000, 10000000000000000, 100000000000000000, 1000000000000000000, 10000000000000000000].map (Value.int .u64)).toArray))).modify 1 (put (([0, 0, 31, 59, 90, 120, 151, 181, 212, 243, 273, 304, 334, 365].map (Value.int .i64)).toArray))).modify 3 (put #[.string ⟨#[110, 111, 100, 101]⟩, .string ⟨#[99, 108, 97, 115, 115]⟩, .string ⟨#[107, 101, 121]⟩, .string ⟨#[108, 101, 118, 101, 108]⟩, .string ⟨#[116, 101, 120, 116]⟩])).modify 4 (put (([0, 1, 28, 2, 29, 14, 24, 3, 30, 22, 20, 15, 25, 17, 4, 8, 31, 27, 13, 23, 21, 19, 16, 7, 26, 12, 18, 6, 11, 5, 10, 9].map (Value.int .u8)).toArray))).modify 5 (put (([0, 1, 56, 2, 57, 49, 28, 3, 61, 58, 42, 50, 38, 29, 17, 4, 62, 47, 59, 36, 45, 43, 51, 22, 53, 39, 33, 30, 24, 18, 12, 5, 63, 55, 48, 27, 60, 41, 37, 16, 46, 35, 44, 21, 52, 32, 23, 11, 54, 26, 40, 15, 34, 20, 31, 10, 25, 14, 19, 9, 13, 8, 7, 6].map (Value.int .u8)).toArray))).modify 6 (put #[.string ⟨#[115, 111, 117, 114, 99, 101]⟩, .string ⟨#[99, 111, 109, 109, 117, 110, 105, 116, 121]⟩, .string ⟨#[116, 114, 97, 112]⟩, .string ⟨#[117, 112, 116, 105, 109, 101]⟩, .string ⟨#[114, 101, 113, 117, 101, 115, 116]⟩, .string ⟨#[105, 110, 102, 111, 114, 109]⟩])).modify 7 (put #[.string ⟨#[115, 111, 117, 114, 99, 101]⟩, .string ⟨#[102, 97, 99, 105, 108, 105, 116, 121]⟩, .string ⟨#[108, 101, 118, 101, 108]⟩, .string ⟨#[115, 116, 97, 109, 112]⟩, .string ⟨#[104, 111, 115, 116]⟩, .string ⟨#[97, 112, 112]⟩, .string ⟨#[112, 114, 111, 99]⟩, .string ⟨#[105, 100]⟩, .string ⟨#[116, 101, 120, 116]⟩])).modify 8 (put #[.iface 385 (.pointer (some ⟨low, 0, Option.none⟩))])).modify 9 (put #[.iface 385 (.pointer (some ⟨low + 1, 0, Option.none⟩))])).modify 10 (put (((List.replicate 128 (240 : Int) ++ List.replicate 66 241 ++ List.replicate 30 2 ++ [19] ++ List.replicate 12 3 ++ [35] ++ List.replicate 2 3 ++ [52] ++ List.replicate 3 4 ++ [68] ++ List.replicate 11 241).map (Value.int .u8)).toArray))).modify 11 (put (([128, 191, 160, 191, 128, 159, 144, 191, 128, 143, 0, 0, 0, 0, 0, 0, 0, 0, 0, 0, 0, 0, 0, 0, 0, 0, 0, 0, 0, 0, 0, 0].map (Value.int .u8)).toArray))) }

theorem own : ownKnob Tryz.prog.godebug = none := by kernel_rfl
abbrev wargs : Array Value := #[.slice Option.none 0 0, .int .i64 0]
theorem laid_met (os : Os) : laidMet Tryz.prog Rows.queryShowsUptoRow.laid ((laidWorld os).forCall (fun _ _ => 0) ⟨#[], wargs, []⟩).memory :=
  laidMet_of_run' 8 (by kernel_rfl) (by kernel_rfl)
theorem reads (os : Os) {H : Type} (enc : TypeId × Value → H) : ∃ places, DataW.whole enc Tryz.prog ((laidWorld os).forCall (fun _ _ => 0) ⟨#[], wargs, []⟩).memory Tryz.f3.params.toList Rows.queryShowsSpec.vars false wargs.toList 8 = some ([.nil, .lit (.int .i64 0)], [], places) :=
  ⟨[], by kernel_rfl⟩
set_option maxRecDepth 100000 in
theorem liftedUpto (os : Os) (started : os.Started) (H : Type) (enc : TypeId × Value → H) (F : Stop.Interp) :
    ReturnsInHanded {} Tryz.checked os 3 .any ((Rows.OpenSpec.upto Rows.queryShowsSpec).preRow enc Tryz.prog Tryz.f3 Rows.queryShowsUptoRow.domain false Rows.queryShowsUptoRow.laid) (((Rows.OpenSpec.upto Rows.queryShowsSpec).at F).post enc Tryz.prog Tryz.f3 false true false false) := by
  obtain ⟨places, hx⟩ := reads os enc
  refine returnsInHanded_of_row (C := Tryz.checked) (s := Rows.OpenSpec.upto Rows.queryShowsSpec) own started (by kernel_rfl) Tryz.func3
    (witness_row_atRef (enc := enc) (C := Tryz.checked) false (laidWorld os) wargs rfl (by kernel_rfl) (by kernel_rfl) (by kernel_rfl)
      (OpenSpec.preRow_of_cond 8 hx (by kernel_rfl) (fun k hk => by cases hk; kernel_rfl) (by kernel_rfl) (laid_met os))) ?_
  intro W base args ds gs before hval hW _ hcond _ hL hsh _
  exact Go.SL.contract H enc W base args ds gs before hval hW (hcond _ rfl) hL hsh
end Go.Proofs.YtimhhegebkganaaGreatDoor
