/- FlatSame: what the row says of the program. -/
import Derived.KernelRfl
import Derived.JoinedOf
import Derived.Test.YtknpgojdkobgjaaGreatRows
namespace Go.Proofs.YtknpgojdkobgjaaGreat.W
open Go
theorem Y0b : laidOutB Tryz.pinned.checked.prog = true := by kernel_rfl
theorem Zxo : mapsRowed Tryz.pinned.checked.prog = true := by kernel_rfl
theorem Zpy : (Rows.flatSameRow.inPlace == Tryz.pinned.checked.prog.inPlace 12) = true := by kernel_rfl
theorem Y0l : (Rows.flatSameRow.unfollowed == Tryz.pinned.checked.prog.unfollowed 12) = true := by kernel_rfl
theorem Zxm : (Rows.flatSameRow.recurses == Tryz.pinned.checked.prog.recurses 12) = true := by kernel_rfl
theorem Ztk : (Rows.flatSameRow.named == Tryz.pinned.checked.prog.varsNamed 12) = true := by kernel_rfl
theorem Zzs : (Rows.flatSameRow.loops == (Tryz.f12.params.toList ++ Rows.flatSameSpec.plain.varTypes Tryz.pinned.checked.prog).any (Tryz.pinned.checked.prog.loopsFrom ·)) = true := by kernel_rfl
theorem Zrl : (Rows.flatSameRow.plainKeys == Tryz.pinned.checked.prog.plainKeys) = true := by kernel_rfl
theorem Zsj : Tryz.pinned.checked.prog.stopsHeard = true := by kernel_rfl
theorem Zxk : Tryz.pinned.checked.prog.mayEnter = true := by kernel_rfl
theorem Zxg : (Rows.flatSameRow.lifted == Tryz.pinned.checked.prog.liftsFinal) = true := by kernel_rfl
theorem Zqe : (Tryz.pinned.checked.prog.make == some Rows.flatSameRow.make) = true := by kernel_rfl
theorem Y0j : joinedFacts Tryz.pinned.checked.prog 12 Tryz.f12 Rows.flatSameSpec Rows.flatSameRow = true := by
 unfold joinedFacts
 rw [Y0b, Zxo, Zpy, Y0l, Zxm, Ztk, Zzs, Zrl, Zsj, Zxk, Zxg, Zqe]
 kernel_rfl
end Go.Proofs.YtknpgojdkobgjaaGreat.W
