/- FlatMakes: what the row says of the program. -/
import Derived.KernelRfl
import Derived.JoinedOf
import Derived.Test.YtknpgojdkobgjaaGreatRows
namespace Go.Proofs.YtknpgojdkobgjaaGreat.W
open Go
theorem Ybn : laidOutB Tryz.pinned.checked.prog = true := by kernel_rfl
theorem Yg0 : mapsRowed Tryz.pinned.checked.prog = true := by kernel_rfl
theorem Yih : (Rows.flatMakesRow.inPlace == Tryz.pinned.checked.prog.inPlace 11) = true := by kernel_rfl
theorem Yb6 : (Rows.flatMakesRow.unfollowed == Tryz.pinned.checked.prog.unfollowed 11) = true := by kernel_rfl
theorem Y2k : (Rows.flatMakesRow.recurses == Tryz.pinned.checked.prog.recurses 11) = true := by kernel_rfl
theorem Yee : (Rows.flatMakesRow.named == Tryz.pinned.checked.prog.varsNamed 11) = true := by kernel_rfl
theorem Yej : (Rows.flatMakesRow.loops == (Tryz.f11.params.toList ++ Rows.flatMakesSpec.plain.varTypes Tryz.pinned.checked.prog).any (Tryz.pinned.checked.prog.loopsFrom ·)) = true := by kernel_rfl
theorem Yhe : (Rows.flatMakesRow.plainKeys == Tryz.pinned.checked.prog.plainKeys) = true := by kernel_rfl
theorem Y2w : Tryz.pinned.checked.prog.stopsHeard = true := by kernel_rfl
theorem Y50 : Tryz.pinned.checked.prog.mayEnter = true := by kernel_rfl
theorem Y5a : (Rows.flatMakesRow.lifted == Tryz.pinned.checked.prog.liftsFinal) = true := by kernel_rfl
theorem Ya2 : (Tryz.pinned.checked.prog.make == some Rows.flatMakesRow.make) = true := by kernel_rfl
theorem Ya1 : joinedFacts Tryz.pinned.checked.prog 11 Tryz.f11 Rows.flatMakesSpec Rows.flatMakesRow = true := by
 unfold joinedFacts
 rw [Ybn, Yg0, Yih, Yb6, Y2k, Yee, Yej, Yhe, Y2w, Y50, Y5a, Ya2]
 kernel_rfl
end Go.Proofs.YtknpgojdkobgjaaGreat.W
