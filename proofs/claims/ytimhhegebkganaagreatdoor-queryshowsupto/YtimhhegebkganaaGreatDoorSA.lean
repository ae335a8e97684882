/- Contracts of Go's library at the seat, off the kit's shelf. -/
import Derived.Test.YtimhhegebkganaaGreatDoorProg
import Derived.Test.YtimhhegebkganaaGreatDoorPlain
import Derived.Shelf.Strconv.Itoa3
import Derived.Shelf.Strings.Split
import Derived.Test.YtimhhegebkganaaGreatDoorSl10
set_option linter.unusedSimpArgs false
set_option linter.unusedVariables false
namespace Go.SL
open Go.Proofs Go.Shelf
theorem glob_pow : Tryz.prog.globalNamed "internal/strconv.uint64pow10" = some 0 := by kernel_rfl
/-- the table of powers of ten, as the row lays it -/
def powA : Asrt := tabA 0 .u64 Lib.pow10Tab
def itoaB (n : Int) : ByteArray := ⟨(Lib.itoa n).toArray⟩
theorem Itoa_ct (n : Int) (h0 : -9223372036854775808 ≤ n) (h1 : n ≤ 9223372036854775807) : CT Tryz.prog 10 #[.int .i64 n] [powA] (fun u M => u = .string (itoaB n) ∧ M = [powA]) :=
  ct_grow fun w F h => Any.strconv_Itoa Tryz.laysItoa n h0 h1 w (tabIs_of_hold glob_pow h)
theorem info_str : (Tryz.prog.info? 9).map (fun i => (i.zero, i.size, i.bytes)) = some (some (.string ByteArray.empty), 1, 16) := by kernel_rfl
def splitS (s sep : ByteArray) : List ByteArray := Lib.splitB sep 0 (Lib.countB s sep) s
theorem Split_ct (s sep : ByteArray) (hs : s.size < 4294967281) (h1 : 1 ≤ sep.size) : CT Tryz.prog 81 #[.string s, .string sep] [varA 2 .i64]
    (fun u M => ∃ b, u = .slice (some ⟨b, 0, none⟩) (Lib.countB s sep + 1) (Lib.countB s sep + 1) ∧ M = blk b (.cells ((splitS s sep).map Value.string).toArray 9 (0, 0)) :: [varA 2 .i64]) :=
  ct_alloc (v := fun b => .slice (some ⟨b, 0, none⟩) (Lib.countB s sep + 1) (Lib.countB s sep + 1)) fun w F h => by
    obtain ⟨m, hm⟩ := varA_get (L := F) h
    exact Any.strings_Split Tryz.laysSplit info_str s sep m w hs hm h1
end Go.SL
