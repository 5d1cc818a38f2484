/- FlatMore: what the row says of the program. -/
import Derived.KernelRfl
import Derived.JoinedOf
import Derived.Test.YtknpgojdkobgjaaGreatRows
namespace Go.Proofs.YtknpgojdkobgjaaGreat.W
open Go
theorem Yd4 : laidOutB Tryz.pinned.checked.prog = true := by kernel_rfl
theorem Y7p : mapsRowed Tryz.pinned.checked.prog = true := by kernel_rfl
theorem Y6q : (Rows.flatMoreRow.inPlace == Tryz.pinned.checked.prog.inPlace 13) = true := by kernel_rfl
theorem Yc4 : (Rows.flatMoreRow.unfollowed == Tryz.pinned.checked.prog.unfollowed 13) = true := by kernel_rfl
theorem Y92 : (Rows.flatMoreRow.recurses == Tryz.pinned.checked.prog.recurses 13) = true := by kernel_rfl
theorem Y5s : (Rows.flatMoreRow.named == Tryz.pinned.checked.prog.varsNamed 13) = true := by kernel_rfl
theorem Y3d : (Rows.flatMoreRow.loops == (Tryz.f13.params.toList ++ Rows.flatMoreSpec.plain.varTypes Tryz.pinned.checked.prog).any (Tryz.pinned.checked.prog.loopsFrom ·)) = true := by kernel_rfl
theorem Yf9 : (Rows.flatMoreRow.plainKeys == Tryz.pinned.checked.prog.plainKeys) = true := by kernel_rfl
theorem Ye7 : Tryz.pinned.checked.prog.stopsHeard = true := by kernel_rfl
theorem Y2k : Tryz.pinned.checked.prog.mayEnter = true := by kernel_rfl
theorem Yd5 : (Rows.flatMoreRow.lifted == Tryz.pinned.checked.prog.liftsFinal) = true := by kernel_rfl
theorem Yfh : (Tryz.pinned.checked.prog.make == some Rows.flatMoreRow.make) = true := by kernel_rfl
theorem Ye4 : joinedFacts Tryz.pinned.checked.prog 13 Tryz.f13 Rows.flatMoreSpec Rows.flatMoreRow = true := by
 unfold joinedFacts
 rw [Yd4, Y7p, Y6q, Yc4, Y92, Y5s, Y3d, Yf9, Ye7, Y2k, Yd5, Yfh]
 kernel_rfl
end Go.Proofs.YtknpgojdkobgjaaGreat.W
