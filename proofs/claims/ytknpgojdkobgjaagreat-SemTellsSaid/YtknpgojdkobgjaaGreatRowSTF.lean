/- SemTells: what the row says of the program. -/
import Derived.KernelRfl
import Derived.JoinedOf
import Derived.Test.YtknpgojdkobgjaaGreatRows
namespace Go.Proofs.YtknpgojdkobgjaaGreat.W
open Go
theorem semTells_q0 : laidOutB Tryz.pinned.checked.prog = true := by kernel_rfl
theorem semTells_q1 : mapsRowed Tryz.pinned.checked.prog = true := by kernel_rfl
theorem semTells_q2 : (Rows.semTellsRow.inPlace == Tryz.pinned.checked.prog.inPlace 4) = true := by kernel_rfl
theorem semTells_q3 : (Rows.semTellsRow.unfollowed == Tryz.pinned.checked.prog.unfollowed 4) = true := by kernel_rfl
theorem semTells_q4 : (Rows.semTellsRow.recurses == Tryz.pinned.checked.prog.recurses 4) = true := by kernel_rfl
theorem semTells_q5 : (Rows.semTellsRow.named == Tryz.pinned.checked.prog.varsNamed 4) = true := by kernel_rfl
theorem semTells_q6 : (Rows.semTellsRow.loops == (Tryz.f4.params.toList ++ Rows.semTellsSpec.plain.varTypes Tryz.pinned.checked.prog).any (Tryz.pinned.checked.prog.loopsFrom ·)) = true := by kernel_rfl
theorem semTells_q7 : (Rows.semTellsRow.plainKeys == Tryz.pinned.checked.prog.plainKeys) = true := by kernel_rfl
theorem semTells_q8 : Tryz.pinned.checked.prog.stopsHeard = true := by kernel_rfl
theorem semTells_q9 : Tryz.pinned.checked.prog.mayEnter = true := by kernel_rfl
theorem semTells_q10 : (Rows.semTellsRow.lifted == Tryz.pinned.checked.prog.liftsFinal) = true := by kernel_rfl
theorem semTells_q11 : (Tryz.pinned.checked.prog.make == some Rows.semTellsRow.make) = true := by kernel_rfl
theorem semTells_closed : joinedFacts Tryz.pinned.checked.prog 4 Tryz.f4 Rows.semTellsSpec Rows.semTellsRow = true := by
  unfold joinedFacts
  rw [semTells_q0, semTells_q1, semTells_q2, semTells_q3, semTells_q4, semTells_q5, semTells_q6, semTells_q7, semTells_q8, semTells_q9, semTells_q10, semTells_q11]
  kernel_rfl
end Go.Proofs.YtknpgojdkobgjaaGreat.W
