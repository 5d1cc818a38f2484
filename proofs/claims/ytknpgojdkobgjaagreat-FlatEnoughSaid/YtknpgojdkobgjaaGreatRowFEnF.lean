/- FlatEnough: what the row says of the program. -/
import Derived.KernelRfl
import Derived.JoinedOf
import Derived.Test.YtknpgojdkobgjaaGreatRows
namespace Go.Proofs.YtknpgojdkobgjaaGreat.W
open Go
theorem Zyd : laidOutB Tryz.pinned.checked.prog = true := by kernel_rfl
theorem Y3y : mapsRowed Tryz.pinned.checked.prog = true := by kernel_rfl
theorem Y2u : (Rows.flatEnoughRow.inPlace == Tryz.pinned.checked.prog.inPlace 14) = true := by kernel_rfl
theorem Y2y : (Rows.flatEnoughRow.unfollowed == Tryz.pinned.checked.prog.unfollowed 14) = true := by kernel_rfl
theorem Y0c : (Rows.flatEnoughRow.recurses == Tryz.pinned.checked.prog.recurses 14) = true := by kernel_rfl
theorem Y5v : (Rows.flatEnoughRow.named == Tryz.pinned.checked.prog.varsNamed 14) = true := by kernel_rfl
theorem Y4x : (Rows.flatEnoughRow.loops == (Tryz.f14.params.toList ++ Rows.flatEnoughSpec.plain.varTypes Tryz.pinned.checked.prog).any (Tryz.pinned.checked.prog.loopsFrom ·)) = true := by kernel_rfl
theorem Y8u : (Rows.flatEnoughRow.plainKeys == Tryz.pinned.checked.prog.plainKeys) = true := by kernel_rfl
theorem Y2m : Tryz.pinned.checked.prog.stopsHeard = true := by kernel_rfl
theorem Zw1 : Tryz.pinned.checked.prog.mayEnter = true := by kernel_rfl
theorem Y4s : (Rows.flatEnoughRow.lifted == Tryz.pinned.checked.prog.liftsFinal) = true := by kernel_rfl
theorem Y30 : (Tryz.pinned.checked.prog.make == some Rows.flatEnoughRow.make) = true := by kernel_rfl
theorem Y68 : joinedFacts Tryz.pinned.checked.prog 14 Tryz.f14 Rows.flatEnoughSpec Rows.flatEnoughRow = true := by
 unfold joinedFacts
 rw [Zyd, Y3y, Y2u, Y2y, Y0c, Y5v, Y4x, Y8u, Y2m, Zw1, Y4s, Y30]
 kernel_rfl
end Go.Proofs.YtknpgojdkobgjaaGreat.W
