/- SemRises: what the row says of the program. -/
import Derived.KernelRfl
import Derived.JoinedOf
import Derived.Test.YtknpgojdkobgjaaGreatRows
namespace Go.Proofs.YtknpgojdkobgjaaGreat.W
open Go
theorem semRises_q0 : laidOutB Tryz.pinned.checked.prog = true := by kernel_rfl
theorem semRises_q1 : mapsRowed Tryz.pinned.checked.prog = true := by kernel_rfl
theorem semRises_q2 : (Rows.semRisesRow.inPlace == Tryz.pinned.checked.prog.inPlace 5) = true := by kernel_rfl
theorem semRises_q3 : (Rows.semRisesRow.unfollowed == Tryz.pinned.checked.prog.unfollowed 5) = true := by kernel_rfl
theorem semRises_q4 : (Rows.semRisesRow.recurses == Tryz.pinned.checked.prog.recurses 5) = true := by kernel_rfl
theorem semRises_q5 : (Rows.semRisesRow.named == Tryz.pinned.checked.prog.varsNamed 5) = true := by kernel_rfl
theorem semRises_q6 : (Rows.semRisesRow.loops == (Tryz.f5.params.toList ++ Rows.semRisesSpec.plain.varTypes Tryz.pinned.checked.prog).any (Tryz.pinned.checked.prog.loopsFrom ·)) = true := by kernel_rfl
theorem semRises_q7 : (Rows.semRisesRow.plainKeys == Tryz.pinned.checked.prog.plainKeys) = true := by kernel_rfl
theorem semRises_q8 : Tryz.pinned.checked.prog.stopsHeard = true := by kernel_rfl
theorem semRises_q9 : Tryz.pinned.checked.prog.mayEnter = true := by kernel_rfl
theorem semRises_q10 : (Rows.semRisesRow.lifted == Tryz.pinned.checked.prog.liftsFinal) = true := by kernel_rfl
theorem semRises_q11 : (Tryz.pinned.checked.prog.make == some Rows.semRisesRow.make) = true := by kernel_rfl
theorem semRises_closed : joinedFacts Tryz.pinned.checked.prog 5 Tryz.f5 Rows.semRisesSpec Rows.semRisesRow = true := by
  unfold joinedFacts
  rw [semRises_q0, semRises_q1, semRises_q2, semRises_q3, semRises_q4, semRises_q5, semRises_q6, semRises_q7, semRises_q8, semRises_q9, semRises_q10, semRises_q11]
  kernel_rfl
end Go.Proofs.YtknpgojdkobgjaaGreat.W
