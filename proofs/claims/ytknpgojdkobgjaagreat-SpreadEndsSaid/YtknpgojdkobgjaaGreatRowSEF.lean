/- SpreadEnds: what the row says of the program. -/
import Derived.KernelRfl
import Derived.JoinedOf
import Derived.Test.YtknpgojdkobgjaaGreatRows
namespace Go.Proofs.YtknpgojdkobgjaaGreat.W
open Go
theorem Zql : laidOutB Tryz.pinned.checked.prog = true := by kernel_rfl
theorem Zpv : mapsRowed Tryz.pinned.checked.prog = true := by kernel_rfl
theorem Zz2 : (Rows.spreadEndsRow.inPlace == Tryz.pinned.checked.prog.inPlace 16) = true := by kernel_rfl
theorem Zyp : (Rows.spreadEndsRow.unfollowed == Tryz.pinned.checked.prog.unfollowed 16) = true := by kernel_rfl
theorem Y2j : (Rows.spreadEndsRow.recurses == Tryz.pinned.checked.prog.recurses 16) = true := by kernel_rfl
theorem Zwd : (Rows.spreadEndsRow.named == Tryz.pinned.checked.prog.varsNamed 16) = true := by kernel_rfl
theorem Zvz : (Rows.spreadEndsRow.loops == (Tryz.f16.params.toList ++ Rows.spreadEndsSpec.plain.varTypes Tryz.pinned.checked.prog).any (Tryz.pinned.checked.prog.loopsFrom ·)) = true := by kernel_rfl
theorem Y13 : (Rows.spreadEndsRow.plainKeys == Tryz.pinned.checked.prog.plainKeys) = true := by kernel_rfl
theorem Zwl : Tryz.pinned.checked.prog.stopsHeard = true := by kernel_rfl
theorem Zxi : Tryz.pinned.checked.prog.mayEnter = true := by kernel_rfl
theorem Y1g : (Rows.spreadEndsRow.lifted == Tryz.pinned.checked.prog.liftsFinal) = true := by kernel_rfl
theorem Y16 : (Tryz.pinned.checked.prog.make == some Rows.spreadEndsRow.make) = true := by kernel_rfl
theorem Y0n : joinedFacts Tryz.pinned.checked.prog 16 Tryz.f16 Rows.spreadEndsSpec Rows.spreadEndsRow = true := by
 unfold joinedFacts
 rw [Zql, Zpv, Zz2, Zyp, Y2j, Zwd, Zvz, Y13, Zwl, Zxi, Y1g, Y16]
 kernel_rfl
end Go.Proofs.YtknpgojdkobgjaaGreat.W
