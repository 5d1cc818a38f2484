/- EnvsFold: what the row says of the program. -/
import Derived.KernelRfl
import Derived.JoinedOf
import Derived.Test.YtknpgojdkobgjaaRows
namespace Go.Proofs.Ytknpgojdkobgjaa.W
open Go
theorem Zoa:laidOutB Try.pinned.checked.prog=true:=by kernel_rfl
theorem Zqs:mapsRowed Try.pinned.checked.prog=true:=by kernel_rfl
theorem Zn2:(Rows.envsFoldRow.inPlace==Try.pinned.checked.prog.inPlace 3)=true:=by kernel_rfl
theorem Zrq:(Rows.envsFoldRow.unfollowed==Try.pinned.checked.prog.unfollowed 3)=true:=by kernel_rfl
theorem Zmo:(Rows.envsFoldRow.recurses==Try.pinned.checked.prog.recurses 3)=true:=by kernel_rfl
theorem Zne:(Rows.envsFoldRow.named==Try.pinned.checked.prog.varsNamed 3)=true:=by kernel_rfl
theorem Zpi:(Rows.envsFoldRow.loops==(Try.f3.params.toList++Rows.envsFoldSpec.plain.varTypes Try.pinned.checked.prog).any (Try.pinned.checked.prog.loopsFrom ·))=true:=by kernel_rfl
theorem Zo9:(Rows.envsFoldRow.plainKeys==Try.pinned.checked.prog.plainKeys)=true:=by kernel_rfl
theorem Zkz:Try.pinned.checked.prog.stopsHeard=true:=by kernel_rfl
theorem Znd:Try.pinned.checked.prog.mayEnter=true:=by kernel_rfl
theorem Zs2:(Rows.envsFoldRow.lifted==Try.pinned.checked.prog.liftsFinal)=true:=by kernel_rfl
theorem Zrv:(Try.pinned.checked.prog.make==some Rows.envsFoldRow.make)=true:=by kernel_rfl
theorem Zpe:joinedFacts Try.pinned.checked.prog 3 Try.f3 Rows.envsFoldSpec Rows.envsFoldRow=true:=by
 unfold joinedFacts
 rw [Zoa,Zqs,Zn2,Zrq,Zmo,Zne,Zpi,Zo9,Zkz,Znd,Zs2,Zrv]
 kernel_rfl
end Go.Proofs.Ytknpgojdkobgjaa.W
