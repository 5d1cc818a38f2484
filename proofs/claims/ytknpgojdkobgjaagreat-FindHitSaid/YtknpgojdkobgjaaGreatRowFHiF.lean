/- FindHit: what the row says of the program. -/
import Derived.KernelRfl
import Derived.JoinedOf
import Derived.Test.YtknpgojdkobgjaaGreatRows
namespace Go.Proofs.YtknpgojdkobgjaaGreat.W
open Go
theorem Yb5 : laidOutB Tryz.pinned.checked.prog = true := by kernel_rfl
theorem Ygo : mapsRowed Tryz.pinned.checked.prog = true := by kernel_rfl
theorem Ygs : (Rows.findHitRow.inPlace == Tryz.pinned.checked.prog.inPlace 15) = true := by kernel_rfl
theorem Ye8 : (Rows.findHitRow.unfollowed == Tryz.pinned.checked.prog.unfollowed 15) = true := by kernel_rfl
theorem Y95 : (Rows.findHitRow.recurses == Tryz.pinned.checked.prog.recurses 15) = true := by kernel_rfl
theorem Y73 : (Rows.findHitRow.named == Tryz.pinned.checked.prog.varsNamed 15) = true := by kernel_rfl
theorem Y94 : (Rows.findHitRow.loops == (Tryz.f15.params.toList ++ Rows.findHitSpec.plain.varTypes Tryz.pinned.checked.prog).any (Tryz.pinned.checked.prog.loopsFrom ·)) = true := by kernel_rfl
theorem Yh6 : (Rows.findHitRow.plainKeys == Tryz.pinned.checked.prog.plainKeys) = true := by kernel_rfl
theorem Y8e : Tryz.pinned.checked.prog.stopsHeard = true := by kernel_rfl
theorem Y4a : Tryz.pinned.checked.prog.mayEnter = true := by kernel_rfl
theorem Y7k : (Rows.findHitRow.lifted == Tryz.pinned.checked.prog.liftsFinal) = true := by kernel_rfl
theorem Y9m : (Tryz.pinned.checked.prog.make == some Rows.findHitRow.make) = true := by kernel_rfl
theorem Ycx : joinedFacts Tryz.pinned.checked.prog 15 Tryz.f15 Rows.findHitSpec Rows.findHitRow = true := by
 unfold joinedFacts
 rw [Yb5, Ygo, Ygs, Ye8, Y95, Y73, Y94, Yh6, Y8e, Y4a, Y7k, Y9m]
 kernel_rfl
end Go.Proofs.YtknpgojdkobgjaaGreat.W
