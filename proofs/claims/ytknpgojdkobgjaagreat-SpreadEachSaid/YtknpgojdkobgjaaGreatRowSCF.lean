/- SpreadEach: what the row says of the program. -/
import Derived.KernelRfl
import Derived.JoinedOf
import Derived.Test.YtknpgojdkobgjaaGreatRows
namespace Go.Proofs.YtknpgojdkobgjaaGreat.W
open Go
theorem Y6m : laidOutB Tryz.pinned.checked.prog = true := by kernel_rfl
theorem Yjo : mapsRowed Tryz.pinned.checked.prog = true := by kernel_rfl
theorem Yhp : (Rows.spreadEachRow.inPlace == Tryz.pinned.checked.prog.inPlace 19) = true := by kernel_rfl
theorem Ylo : (Rows.spreadEachRow.unfollowed == Tryz.pinned.checked.prog.unfollowed 19) = true := by kernel_rfl
theorem Y6n : (Rows.spreadEachRow.recurses == Tryz.pinned.checked.prog.recurses 19) = true := by kernel_rfl
theorem Yhi : (Rows.spreadEachRow.named == Tryz.pinned.checked.prog.varsNamed 19) = true := by kernel_rfl
theorem Yi1 : (Rows.spreadEachRow.loops == (Tryz.f19.params.toList ++ Rows.spreadEachSpec.plain.varTypes Tryz.pinned.checked.prog).any (Tryz.pinned.checked.prog.loopsFrom ·)) = true := by kernel_rfl
theorem Yju : (Rows.spreadEachRow.plainKeys == Tryz.pinned.checked.prog.plainKeys) = true := by kernel_rfl
theorem Yjd : Tryz.pinned.checked.prog.stopsHeard = true := by kernel_rfl
theorem Y98 : Tryz.pinned.checked.prog.mayEnter = true := by kernel_rfl
theorem Y7h : (Rows.spreadEachRow.lifted == Tryz.pinned.checked.prog.liftsFinal) = true := by kernel_rfl
theorem Yo1 : (Tryz.pinned.checked.prog.make == some Rows.spreadEachRow.make) = true := by kernel_rfl
theorem Yma : joinedFacts Tryz.pinned.checked.prog 19 Tryz.f19 Rows.spreadEachSpec Rows.spreadEachRow = true := by
 unfold joinedFacts
 rw [Y6m, Yjo, Yhp, Ylo, Y6n, Yhi, Yi1, Yju, Yjd, Y98, Y7h, Yo1]
 kernel_rfl
end Go.Proofs.YtknpgojdkobgjaaGreat.W
