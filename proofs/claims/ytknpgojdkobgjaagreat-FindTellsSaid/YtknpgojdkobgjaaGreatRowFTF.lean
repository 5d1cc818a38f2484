/- FindTells: what the row says of the program. -/
import Derived.KernelRfl
import Derived.JoinedOf
import Derived.Test.YtknpgojdkobgjaaGreatRows
namespace Go.Proofs.YtknpgojdkobgjaaGreat.W
open Go
theorem findTells_q0 : laidOutB Tryz.pinned.checked.prog = true := by kernel_rfl
theorem findTells_q1 : mapsRowed Tryz.pinned.checked.prog = true := by kernel_rfl
theorem findTells_q2 : (Rows.findTellsRow.inPlace == Tryz.pinned.checked.prog.inPlace 8) = true := by kernel_rfl
theorem findTells_q3 : (Rows.findTellsRow.unfollowed == Tryz.pinned.checked.prog.unfollowed 8) = true := by kernel_rfl
theorem findTells_q4 : (Rows.findTellsRow.recurses == Tryz.pinned.checked.prog.recurses 8) = true := by kernel_rfl
theorem findTells_q5 : (Rows.findTellsRow.named == Tryz.pinned.checked.prog.varsNamed 8) = true := by kernel_rfl
theorem findTells_q6 : (Rows.findTellsRow.loops == (Tryz.f8.params.toList ++ Rows.findTellsSpec.plain.varTypes Tryz.pinned.checked.prog).any (Tryz.pinned.checked.prog.loopsFrom ·)) = true := by kernel_rfl
theorem findTells_q7 : (Rows.findTellsRow.plainKeys == Tryz.pinned.checked.prog.plainKeys) = true := by kernel_rfl
theorem findTells_q8 : Tryz.pinned.checked.prog.stopsHeard = true := by kernel_rfl
theorem findTells_q9 : Tryz.pinned.checked.prog.mayEnter = true := by kernel_rfl
theorem findTells_q10 : (Rows.findTellsRow.lifted == Tryz.pinned.checked.prog.liftsFinal) = true := by kernel_rfl
theorem findTells_q11 : (Tryz.pinned.checked.prog.make == some Rows.findTellsRow.make) = true := by kernel_rfl
theorem findTells_closed : joinedFacts Tryz.pinned.checked.prog 8 Tryz.f8 Rows.findTellsSpec Rows.findTellsRow = true := by
  unfold joinedFacts
  rw [findTells_q0, findTells_q1, findTells_q2, findTells_q3, findTells_q4, findTells_q5, findTells_q6, findTells_q7, findTells_q8, findTells_q9, findTells_q10, findTells_q11]
  kernel_rfl
end Go.Proofs.YtknpgojdkobgjaaGreat.W
