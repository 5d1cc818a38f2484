/- TraceAlone: what the row says of the program. -/
import Derived.KernelRfl
import Derived.JoinedOf
import Derived.Test.YtknpgojdkobgjaaGreatRows
namespace Go.Proofs.YtknpgojdkobgjaaGreat.W
open Go
theorem traceAlone_q0 : laidOutB Tryz.pinned.checked.prog = true := by kernel_rfl
theorem traceAlone_q1 : mapsRowed Tryz.pinned.checked.prog = true := by kernel_rfl
theorem traceAlone_q2 : (Rows.traceAloneRow.inPlace == Tryz.pinned.checked.prog.inPlace 7) = true := by kernel_rfl
theorem traceAlone_q3 : (Rows.traceAloneRow.unfollowed == Tryz.pinned.checked.prog.unfollowed 7) = true := by kernel_rfl
theorem traceAlone_q4 : (Rows.traceAloneRow.recurses == Tryz.pinned.checked.prog.recurses 7) = true := by kernel_rfl
theorem traceAlone_q5 : (Rows.traceAloneRow.named == Tryz.pinned.checked.prog.varsNamed 7) = true := by kernel_rfl
theorem traceAlone_q6 : (Rows.traceAloneRow.loops == (Tryz.f7.params.toList ++ Rows.traceAloneSpec.plain.varTypes Tryz.pinned.checked.prog).any (Tryz.pinned.checked.prog.loopsFrom ·)) = true := by kernel_rfl
theorem traceAlone_q7 : (Rows.traceAloneRow.plainKeys == Tryz.pinned.checked.prog.plainKeys) = true := by kernel_rfl
theorem traceAlone_q8 : Tryz.pinned.checked.prog.stopsHeard = true := by kernel_rfl
theorem traceAlone_q9 : Tryz.pinned.checked.prog.mayEnter = true := by kernel_rfl
theorem traceAlone_q10 : (Rows.traceAloneRow.lifted == Tryz.pinned.checked.prog.liftsFinal) = true := by kernel_rfl
theorem traceAlone_q11 : (Tryz.pinned.checked.prog.make == some Rows.traceAloneRow.make) = true := by kernel_rfl
theorem traceAlone_closed : joinedFacts Tryz.pinned.checked.prog 7 Tryz.f7 Rows.traceAloneSpec Rows.traceAloneRow = true := by
  unfold joinedFacts
  rw [traceAlone_q0, traceAlone_q1, traceAlone_q2, traceAlone_q3, traceAlone_q4, traceAlone_q5, traceAlone_q6, traceAlone_q7, traceAlone_q8, traceAlone_q9, traceAlone_q10, traceAlone_q11]
  kernel_rfl
end Go.Proofs.YtknpgojdkobgjaaGreat.W
