/- FindWitness: what the row says of the program. -/
import Derived.KernelRfl
import Derived.JoinedOf
import Derived.Test.YtknpgojdkobgjaaGreatRows
namespace Go.Proofs.YtknpgojdkobgjaaGreat.W
open Go
theorem findWitness_q0 : laidOutB Tryz.pinned.checked.prog = true := by kernel_rfl
theorem findWitness_q1 : mapsRowed Tryz.pinned.checked.prog = true := by kernel_rfl
theorem findWitness_q2 : (Rows.findWitnessRow.inPlace == Tryz.pinned.checked.prog.inPlace 9) = true := by kernel_rfl
theorem findWitness_q3 : (Rows.findWitnessRow.unfollowed == Tryz.pinned.checked.prog.unfollowed 9) = true := by kernel_rfl
theorem findWitness_q4 : (Rows.findWitnessRow.recurses == Tryz.pinned.checked.prog.recurses 9) = true := by kernel_rfl
theorem findWitness_q5 : (Rows.findWitnessRow.named == Tryz.pinned.checked.prog.varsNamed 9) = true := by kernel_rfl
theorem findWitness_q6 : (Rows.findWitnessRow.loops == (Tryz.f9.params.toList ++ Rows.findWitnessSpec.plain.varTypes Tryz.pinned.checked.prog).any (Tryz.pinned.checked.prog.loopsFrom ·)) = true := by kernel_rfl
theorem findWitness_q7 : (Rows.findWitnessRow.plainKeys == Tryz.pinned.checked.prog.plainKeys) = true := by kernel_rfl
theorem findWitness_q8 : Tryz.pinned.checked.prog.stopsHeard = true := by kernel_rfl
theorem findWitness_q9 : Tryz.pinned.checked.prog.mayEnter = true := by kernel_rfl
theorem findWitness_q10 : (Rows.findWitnessRow.lifted == Tryz.pinned.checked.prog.liftsFinal) = true := by kernel_rfl
theorem findWitness_q11 : (Tryz.pinned.checked.prog.make == some Rows.findWitnessRow.make) = true := by kernel_rfl
theorem findWitness_closed : joinedFacts Tryz.pinned.checked.prog 9 Tryz.f9 Rows.findWitnessSpec Rows.findWitnessRow = true := by
  unfold joinedFacts
  rw [findWitness_q0, findWitness_q1, findWitness_q2, findWitness_q3, findWitness_q4, findWitness_q5, findWitness_q6, findWitness_q7, findWitness_q8, findWitness_q9, findWitness_q10, findWitness_q11]
  kernel_rfl
end Go.Proofs.YtknpgojdkobgjaaGreat.W
