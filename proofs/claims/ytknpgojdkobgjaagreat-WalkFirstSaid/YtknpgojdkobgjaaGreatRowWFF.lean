/- WalkFirst: what the row says of the program. -/
import Derived.KernelRfl
import Derived.JoinedOf
import Derived.Test.YtknpgojdkobgjaaGreatRows
namespace Go.Proofs.YtknpgojdkobgjaaGreat.W
open Go
theorem walkFirst_q0 : laidOutB Tryz.pinned.checked.prog = true := by kernel_rfl
theorem walkFirst_q1 : mapsRowed Tryz.pinned.checked.prog = true := by kernel_rfl
theorem walkFirst_q2 : (Rows.walkFirstRow.inPlace == Tryz.pinned.checked.prog.inPlace 10) = true := by kernel_rfl
theorem walkFirst_q3 : (Rows.walkFirstRow.unfollowed == Tryz.pinned.checked.prog.unfollowed 10) = true := by kernel_rfl
theorem walkFirst_q4 : (Rows.walkFirstRow.recurses == Tryz.pinned.checked.prog.recurses 10) = true := by kernel_rfl
theorem walkFirst_q5 : (Rows.walkFirstRow.named == Tryz.pinned.checked.prog.varsNamed 10) = true := by kernel_rfl
theorem walkFirst_q6 : (Rows.walkFirstRow.loops == (Tryz.f10.params.toList ++ Rows.walkFirstSpec.plain.varTypes Tryz.pinned.checked.prog).any (Tryz.pinned.checked.prog.loopsFrom ·)) = true := by kernel_rfl
theorem walkFirst_q7 : (Rows.walkFirstRow.plainKeys == Tryz.pinned.checked.prog.plainKeys) = true := by kernel_rfl
theorem walkFirst_q8 : Tryz.pinned.checked.prog.stopsHeard = true := by kernel_rfl
theorem walkFirst_q9 : Tryz.pinned.checked.prog.mayEnter = true := by kernel_rfl
theorem walkFirst_q10 : (Rows.walkFirstRow.lifted == Tryz.pinned.checked.prog.liftsFinal) = true := by kernel_rfl
theorem walkFirst_q11 : (Tryz.pinned.checked.prog.make == some Rows.walkFirstRow.make) = true := by kernel_rfl
theorem walkFirst_closed : joinedFacts Tryz.pinned.checked.prog 10 Tryz.f10 Rows.walkFirstSpec Rows.walkFirstRow = true := by
  unfold joinedFacts
  rw [walkFirst_q0, walkFirst_q1, walkFirst_q2, walkFirst_q3, walkFirst_q4, walkFirst_q5, walkFirst_q6, walkFirst_q7, walkFirst_q8, walkFirst_q9, walkFirst_q10, walkFirst_q11]
  kernel_rfl
end Go.Proofs.YtknpgojdkobgjaaGreat.W
