/- The closed facts of QueryShows' row, by the kernel. -/
import Derived.Test.YtimhhegebkganaaGreatDoorRows
import Derived.JoinedCond
set_option linter.unusedSimpArgs false
set_option linter.unusedVariables false
namespace Go.Proofs.YtimhhegebkganaaGreatDoor
theorem f_named : Tryz.pinned.checked.prog.funcNamed Rows.queryShowsUptoRow.func = some 3 := by kernel_rfl
theorem f_inst : Tryz.f3.isInstance Tryz.pinned.checked.prog Rows.queryShowsUptoRow.origin Rows.queryShowsUptoRow.targs := of_decide_eq_true (by kernel_rfl)
theorem f_wrap : Tryz.f3.isWrapper Tryz.pinned.checked.prog Rows.queryShowsUptoRow.wrapper Rows.queryShowsUptoRow.mainSum := by
  unfold Func.isWrapper; first | (rw [if_pos (by decide +kernel)]; kernel_rfl) | (rw [if_neg (by decide +kernel)]; exact ⟨rfl, rfl⟩)
theorem f_closed : joinedFacts Tryz.pinned.checked.prog 3 Tryz.f3 (Rows.OpenSpec.upto Rows.queryShowsSpec).bare Rows.queryShowsUptoRow = true := by kernel_rfl
end Go.Proofs.YtimhhegebkganaaGreatDoor
