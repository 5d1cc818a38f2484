/- SemMiss: what the row says of the program. -/
import Derived.KernelRfl
import Derived.JoinedOf
import Derived.Test.YtknpgojdkobgjaaGreatRows
namespace Go.Proofs.YtknpgojdkobgjaaGreat.W
open Go
theorem semMiss_q0 : laidOutB Tryz.pinned.checked.prog = true := by kernel_rfl
theorem semMiss_q1 : mapsRowed Tryz.pinned.checked.prog = true := by kernel_rfl
theorem semMiss_q2 : (Rows.semMissRow.inPlace == Tryz.pinned.checked.prog.inPlace 6) = true := by kernel_rfl
theorem semMiss_q3 : (Rows.semMissRow.unfollowed == Tryz.pinned.checked.prog.unfollowed 6) = true := by kernel_rfl
theorem semMiss_q4 : (Rows.semMissRow.recurses == Tryz.pinned.checked.prog.recurses 6) = true := by kernel_rfl
theorem semMiss_q5 : (Rows.semMissRow.named == Tryz.pinned.checked.prog.varsNamed 6) = true := by kernel_rfl
theorem semMiss_q6 : (Rows.semMissRow.loops == (Tryz.f6.params.toList ++ Rows.semMissSpec.plain.varTypes Tryz.pinned.checked.prog).any (Tryz.pinned.checked.prog.loopsFrom ·)) = true := by kernel_rfl
theorem semMiss_q7 : (Rows.semMissRow.plainKeys == Tryz.pinned.checked.prog.plainKeys) = true := by kernel_rfl
theorem semMiss_q8 : Tryz.pinned.checked.prog.stopsHeard = true := by kernel_rfl
theorem semMiss_q9 : Tryz.pinned.checked.prog.mayEnter = true := by kernel_rfl
theorem semMiss_q10 : (Rows.semMissRow.lifted == Tryz.pinned.checked.prog.liftsFinal) = true := by kernel_rfl
theorem semMiss_q11 : (Tryz.pinned.checked.prog.make == some Rows.semMissRow.make) = true := by kernel_rfl
theorem semMiss_closed : joinedFacts Tryz.pinned.checked.prog 6 Tryz.f6 Rows.semMissSpec Rows.semMissRow = true := by
  unfold joinedFacts
  rw [semMiss_q0, semMiss_q1, semMiss_q2, semMiss_q3, semMiss_q4, semMiss_q5, semMiss_q6, semMiss_q7, semMiss_q8, semMiss_q9, semMiss_q10, semMiss_q11]
  kernel_rfl
end Go.Proofs.YtknpgojdkobgjaaGreat.W
