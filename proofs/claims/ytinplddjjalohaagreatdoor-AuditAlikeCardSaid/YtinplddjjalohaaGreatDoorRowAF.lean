/- AuditAlike: what the row says of the program. -/
import Derived.KernelRfl
import Derived.JoinedOf
import GoSem.ClaimSeven
import Derived.SevenTiedAt
import Derived.Test.YtinplddjjalohaaGreatDoorRows
namespace Go.Proofs.YtinplddjjalohaaGreatDoor.W
open Go
open Go.Proofs.YtinplddjjalohaaGreatDoor
theorem Yt7:laidOutB Tryz.pinned.checked.prog=true:=by kernel_rfl
theorem Ysj:mapsRowed Tryz.pinned.checked.prog=true:=by kernel_rfl
theorem Ymf:(Rows.auditAlikeRow.inPlace==Tryz.pinned.checked.prog.inPlace 4)=true:=by kernel_rfl
theorem Ywd:(Rows.auditAlikeRow.unfollowed==Tryz.pinned.checked.prog.unfollowed 4)=true:=by kernel_rfl
theorem Yvl:(Rows.auditAlikeRow.recurses==Tryz.pinned.checked.prog.recurses 4)=true:=by kernel_rfl
theorem Yx7:(Rows.auditAlikeRow.named==Tryz.pinned.checked.prog.varsNamed 4)=true:=by kernel_rfl
theorem Yq0:(Rows.auditAlikeRow.loops==(Tryz.f4.params.toList++Rows.auditAlikeSpec.plain.varTypes Tryz.pinned.checked.prog).any (Tryz.pinned.checked.prog.loopsFrom ·))=true:=by kernel_rfl
theorem Ycu:(Rows.auditAlikeRow.plainKeys==Tryz.pinned.checked.prog.plainKeys)=true:=by kernel_rfl
theorem Yck:Tryz.pinned.checked.prog.stopsHeard=true:=by kernel_rfl
theorem Ylf:Tryz.pinned.checked.prog.mayEnter=true:=by kernel_rfl
theorem Yps:(Rows.auditAlikeRow.lifted==Tryz.pinned.checked.prog.liftsFinal)=true:=by kernel_rfl
theorem Ylj:(Tryz.pinned.checked.prog.make==some Rows.auditAlikeRow.make)=true:=by kernel_rfl
theorem Yc5:joinedFacts Tryz.pinned.checked.prog 4 Tryz.f4 Rows.auditAlikeSpec Rows.auditAlikeRow=true:=by
 unfold joinedFacts
 rw [Yt7,Ysj,Ymf,Ywd,Yvl,Yx7,Yq0,Ycu,Yck,Ylf,Yps,Ylj]
 kernel_rfl
theorem Yj9:Rows.auditAlikeRow.wfByText (OpenSpec.ofChange Rows.auditAlikeSpec)=true:=by kernel_rfl
theorem Yk3:Tryz.pinned.checked.prog.mainIs=some (true,"fecc8bdf5ea39bd60a5582f722fdd6e46235b304f1d97462c25c67bbcdb64601".toList):=by kernel_rfl
theorem auditAlike_k2:Tryz.pinned.checked.prog.funcNamed "weirbox/weirboxlaw44.AuditAlike"=some 4:=by kernel_rfl
theorem Yif:true=Tryz.pinned.checked.prog.looks []:=by kernel_rfl
theorem Yfp:false=Rows.auditAlikeRow.goesBy Tryz.pinned.checked.prog:=by kernel_rfl
theorem Yiu:Tryz.pinned.checked.prog.wantsStandIn 3=false:=by kernel_rfl
theorem Yqk:Tryz.pinned.checked.prog.wantsStandIn 5=false:=by kernel_rfl
theorem Yo3:Tryz.pinned.checked.prog.wantsStandIn 26=false:=by kernel_rfl
theorem Ycf:Tryz.pinned.checked.prog.wantsStandIn 48=false:=by kernel_rfl
end Go.Proofs.YtinplddjjalohaaGreatDoor.W
