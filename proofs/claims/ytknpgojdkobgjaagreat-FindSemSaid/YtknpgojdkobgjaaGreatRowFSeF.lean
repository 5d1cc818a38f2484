/- FindSem: what the row says of the program. -/
import Derived.KernelRfl
import Derived.JoinedOf
import Derived.Test.YtknpgojdkobgjaaGreatRows
namespace Go.Proofs.YtknpgojdkobgjaaGreat.W
open Go
theorem Yj7 : laidOutB Tryz.pinned.checked.prog = true := by kernel_rfl
theorem Yej : mapsRowed Tryz.pinned.checked.prog = true := by kernel_rfl
theorem Yd4 : (Rows.findSemRow.inPlace == Tryz.pinned.checked.prog.inPlace 17) = true := by kernel_rfl
theorem Y92 : (Rows.findSemRow.unfollowed == Tryz.pinned.checked.prog.unfollowed 17) = true := by kernel_rfl
theorem Y59 : (Rows.findSemRow.recurses == Tryz.pinned.checked.prog.recurses 17) = true := by kernel_rfl
theorem Ycy : (Rows.findSemRow.named == Tryz.pinned.checked.prog.varsNamed 17) = true := by kernel_rfl
theorem Yc3 : (Rows.findSemRow.loops == (Tryz.f17.params.toList ++ Rows.findSemSpec.plain.varTypes Tryz.pinned.checked.prog).any (Tryz.pinned.checked.prog.loopsFrom ·)) = true := by kernel_rfl
theorem Yaf : (Rows.findSemRow.plainKeys == Tryz.pinned.checked.prog.plainKeys) = true := by kernel_rfl
theorem Ybv : Tryz.pinned.checked.prog.stopsHeard = true := by kernel_rfl
theorem Yig : Tryz.pinned.checked.prog.mayEnter = true := by kernel_rfl
theorem Yhm : (Rows.findSemRow.lifted == Tryz.pinned.checked.prog.liftsFinal) = true := by kernel_rfl
theorem Yc5 : (Tryz.pinned.checked.prog.make == some Rows.findSemRow.make) = true := by kernel_rfl
theorem Y8q : joinedFacts Tryz.pinned.checked.prog 17 Tryz.f17 Rows.findSemSpec Rows.findSemRow = true := by
 unfold joinedFacts
 rw [Yj7, Yej, Yd4, Y92, Y59, Ycy, Yc3, Yaf, Ybv, Yig, Yhm, Yc5]
 kernel_rfl
end Go.Proofs.YtknpgojdkobgjaaGreat.W
