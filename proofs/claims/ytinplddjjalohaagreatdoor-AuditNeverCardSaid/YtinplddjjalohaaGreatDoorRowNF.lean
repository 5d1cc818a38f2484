/- AuditNever: what the row says of the program. -/
import Derived.KernelRfl
import Derived.JoinedOf
import GoSem.ClaimSeven
import Derived.SevenTiedAt
import Derived.Test.YtinplddjjalohaaGreatDoorRows
namespace Go.Proofs.YtinplddjjalohaaGreatDoor.W
open Go
open Go.Proofs.YtinplddjjalohaaGreatDoor
theorem Ypt:laidOutB Tryz.pinned.checked.prog=true:=by kernel_rfl
theorem Yho:mapsRowed Tryz.pinned.checked.prog=true:=by kernel_rfl
theorem Yy4:(Rows.auditNeverRow.inPlace==Tryz.pinned.checked.prog.inPlace 3)=true:=by kernel_rfl
theorem Ylk:(Rows.auditNeverRow.unfollowed==Tryz.pinned.checked.prog.unfollowed 3)=true:=by kernel_rfl
theorem Ys2:(Rows.auditNeverRow.recurses==Tryz.pinned.checked.prog.recurses 3)=true:=by kernel_rfl
theorem Yco:(Rows.auditNeverRow.named==Tryz.pinned.checked.prog.varsNamed 3)=true:=by kernel_rfl
theorem Yz3:(Rows.auditNeverRow.loops==(Tryz.f3.params.toList++Rows.auditNeverSpec.plain.varTypes Tryz.pinned.checked.prog).any (Tryz.pinned.checked.prog.loopsFrom ·))=true:=by kernel_rfl
theorem Yds:(Rows.auditNeverRow.plainKeys==Tryz.pinned.checked.prog.plainKeys)=true:=by kernel_rfl
theorem Ygp:Tryz.pinned.checked.prog.stopsHeard=true:=by kernel_rfl
theorem Yg5:Tryz.pinned.checked.prog.mayEnter=true:=by kernel_rfl
theorem Yne:(Rows.auditNeverRow.lifted==Tryz.pinned.checked.prog.liftsFinal)=true:=by kernel_rfl
theorem Yi2:(Tryz.pinned.checked.prog.make==some Rows.auditNeverRow.make)=true:=by kernel_rfl
theorem Yyx:joinedFacts Tryz.pinned.checked.prog 3 Tryz.f3 Rows.auditNeverSpec Rows.auditNeverRow=true:=by
 unfold joinedFacts
 rw [Ypt,Yho,Yy4,Ylk,Ys2,Yco,Yz3,Yds,Ygp,Yg5,Yne,Yi2]
 kernel_rfl
theorem Yrj:Rows.auditNeverRow.wfByText (OpenSpec.ofChange Rows.auditNeverSpec)=true:=by kernel_rfl
theorem Yvi:Tryz.pinned.checked.prog.mainIs=some (true,"fecc8bdf5ea39bd60a5582f722fdd6e46235b304f1d97462c25c67bbcdb64601".toList):=by kernel_rfl
theorem auditNever_k2:Tryz.pinned.checked.prog.funcNamed "weirbox/weirboxlaw44.AuditNever"=some 3:=by kernel_rfl
theorem Yxg:true=Tryz.pinned.checked.prog.looks []:=by kernel_rfl
theorem Yol:false=Rows.auditNeverRow.goesBy Tryz.pinned.checked.prog:=by kernel_rfl
theorem Ye3:Tryz.pinned.checked.prog.wantsStandIn 3=false:=by kernel_rfl
theorem Yh6:Tryz.pinned.checked.prog.wantsStandIn 26=false:=by kernel_rfl
theorem Yib:Tryz.pinned.checked.prog.wantsStandIn 31=false:=by kernel_rfl
end Go.Proofs.YtinplddjjalohaaGreatDoor.W
