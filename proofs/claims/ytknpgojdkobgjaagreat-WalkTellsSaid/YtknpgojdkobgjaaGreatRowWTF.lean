/- WalkTells: what the row says of the program. -/
import Derived.KernelRfl
import Derived.JoinedOf
import Derived.Test.YtknpgojdkobgjaaGreatRows
namespace Go.Proofs.YtknpgojdkobgjaaGreat.W
open Go
theorem walkTells_q0 : laidOutB Tryz.pinned.checked.prog = true := by kernel_rfl
theorem walkTells_q1 : mapsRowed Tryz.pinned.checked.prog = true := by kernel_rfl
theorem walkTells_q2 : (Rows.walkTellsRow.inPlace == Tryz.pinned.checked.prog.inPlace 3) = true := by kernel_rfl
theorem walkTells_q3 : (Rows.walkTellsRow.unfollowed == Tryz.pinned.checked.prog.unfollowed 3) = true := by kernel_rfl
theorem walkTells_q4 : (Rows.walkTellsRow.recurses == Tryz.pinned.checked.prog.recurses 3) = true := by kernel_rfl
theorem walkTells_q5 : (Rows.walkTellsRow.named == Tryz.pinned.checked.prog.varsNamed 3) = true := by kernel_rfl
theorem walkTells_q6 : (Rows.walkTellsRow.loops == (Tryz.f3.params.toList ++ Rows.walkTellsSpec.plain.varTypes Tryz.pinned.checked.prog).any (Tryz.pinned.checked.prog.loopsFrom ·)) = true := by kernel_rfl
theorem walkTells_q7 : (Rows.walkTellsRow.plainKeys == Tryz.pinned.checked.prog.plainKeys) = true := by kernel_rfl
theorem walkTells_q8 : Tryz.pinned.checked.prog.stopsHeard = true := by kernel_rfl
theorem walkTells_q9 : Tryz.pinned.checked.prog.mayEnter = true := by kernel_rfl
theorem walkTells_q10 : (Rows.walkTellsRow.lifted == Tryz.pinned.checked.prog.liftsFinal) = true := by kernel_rfl
theorem walkTells_q11 : (Tryz.pinned.checked.prog.make == some Rows.walkTellsRow.make) = true := by kernel_rfl
theorem walkTells_closed : joinedFacts Tryz.pinned.checked.prog 3 Tryz.f3 Rows.walkTellsSpec Rows.walkTellsRow = true := by
  unfold joinedFacts
  rw [walkTells_q0, walkTells_q1, walkTells_q2, walkTells_q3, walkTells_q4, walkTells_q5, walkTells_q6, walkTells_q7, walkTells_q8, walkTells_q9, walkTells_q10, walkTells_q11]
  kernel_rfl
end Go.Proofs.YtknpgojdkobgjaaGreat.W
