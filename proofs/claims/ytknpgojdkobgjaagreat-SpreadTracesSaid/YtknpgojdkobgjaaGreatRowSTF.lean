/- SpreadTraces: what the row says of the program. -/
import Derived.KernelRfl
import Derived.JoinedOf
import Derived.Test.YtknpgojdkobgjaaGreatRows
namespace Go.Proofs.YtknpgojdkobgjaaGreat.W
open Go
theorem Yjp : laidOutB Tryz.pinned.checked.prog = true := by kernel_rfl
theorem Yjg : mapsRowed Tryz.pinned.checked.prog = true := by kernel_rfl
theorem Yio : (Rows.spreadTracesRow.inPlace == Tryz.pinned.checked.prog.inPlace 18) = true := by kernel_rfl
theorem Ydc : (Rows.spreadTracesRow.unfollowed == Tryz.pinned.checked.prog.unfollowed 18) = true := by kernel_rfl
theorem Yds : (Rows.spreadTracesRow.recurses == Tryz.pinned.checked.prog.recurses 18) = true := by kernel_rfl
theorem Ymd : (Rows.spreadTracesRow.named == Tryz.pinned.checked.prog.varsNamed 18) = true := by kernel_rfl
theorem Yi7 : (Rows.spreadTracesRow.loops == (Tryz.f18.params.toList ++ Rows.spreadTracesSpec.plain.varTypes Tryz.pinned.checked.prog).any (Tryz.pinned.checked.prog.loopsFrom ·)) = true := by kernel_rfl
theorem Ybp : (Rows.spreadTracesRow.plainKeys == Tryz.pinned.checked.prog.plainKeys) = true := by kernel_rfl
theorem Ym9 : Tryz.pinned.checked.prog.stopsHeard = true := by kernel_rfl
theorem Yid : Tryz.pinned.checked.prog.mayEnter = true := by kernel_rfl
theorem Yk3 : (Rows.spreadTracesRow.lifted == Tryz.pinned.checked.prog.liftsFinal) = true := by kernel_rfl
theorem Yk9 : (Tryz.pinned.checked.prog.make == some Rows.spreadTracesRow.make) = true := by kernel_rfl
theorem Y7j : joinedFacts Tryz.pinned.checked.prog 18 Tryz.f18 Rows.spreadTracesSpec Rows.spreadTracesRow = true := by
 unfold joinedFacts
 rw [Yjp, Yjg, Yio, Ydc, Yds, Ymd, Yi7, Ybp, Ym9, Yid, Yk3, Yk9]
 kernel_rfl
end Go.Proofs.YtknpgojdkobgjaaGreat.W
