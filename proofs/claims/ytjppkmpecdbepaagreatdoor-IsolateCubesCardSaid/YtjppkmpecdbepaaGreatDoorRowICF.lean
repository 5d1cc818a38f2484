/- IsolateCubes: what the row says of the program. -/
import Derived.KernelRfl
import Derived.JoinedOf
import GoSem.ClaimSeven
import Derived.SevenTiedAt
import Derived.Test.YtjppkmpecdbepaaGreatDoorRows
namespace Go.Proofs.YtjppkmpecdbepaaGreatDoor.W
open Go
open Go.Proofs.YtjppkmpecdbepaaGreatDoor
theorem Yd5:laidOutB Tryz.pinned.checked.prog=true:=by kernel_rfl
theorem Yk9:mapsRowed Tryz.pinned.checked.prog=true:=by kernel_rfl
theorem Yct:(Rows.isolateCubesRow.inPlace==Tryz.pinned.checked.prog.inPlace 3)=true:=by kernel_rfl
theorem Y60:(Rows.isolateCubesRow.unfollowed==Tryz.pinned.checked.prog.unfollowed 3)=true:=by kernel_rfl
theorem Yny:(Rows.isolateCubesRow.recurses==Tryz.pinned.checked.prog.recurses 3)=true:=by kernel_rfl
theorem Yhq:(Rows.isolateCubesRow.named==Tryz.pinned.checked.prog.varsNamed 3)=true:=by kernel_rfl
theorem Yf8:(Rows.isolateCubesRow.loops==(Tryz.f3.params.toList++Rows.isolateCubesSpec.plain.varTypes Tryz.pinned.checked.prog).any (Tryz.pinned.checked.prog.loopsFrom ·))=true:=by kernel_rfl
theorem Ye5:(Rows.isolateCubesRow.plainKeys==Tryz.pinned.checked.prog.plainKeys)=true:=by kernel_rfl
theorem Ylh:Tryz.pinned.checked.prog.stopsHeard=true:=by kernel_rfl
theorem Yo2:Tryz.pinned.checked.prog.mayEnter=true:=by kernel_rfl
theorem Y5j:(Rows.isolateCubesRow.lifted==Tryz.pinned.checked.prog.liftsFinal)=true:=by kernel_rfl
theorem Y8a:(Tryz.pinned.checked.prog.make==some Rows.isolateCubesRow.make)=true:=by kernel_rfl
theorem Y56:joinedFacts Tryz.pinned.checked.prog 3 Tryz.f3 Rows.isolateCubesSpec Rows.isolateCubesRow=true:=by
 unfold joinedFacts
 rw [Yd5,Yk9,Yct,Y60,Yny,Yhq,Yf8,Ye5,Ylh,Yo2,Y5j,Y8a]
 kernel_rfl
theorem Y8q:Rows.isolateCubesRow.wfByText (OpenSpec.ofChange Rows.isolateCubesSpec)=true:=by kernel_rfl
theorem Yos:Tryz.pinned.checked.prog.mainIs=some (true,"964a78a6ca57218247cfd1dcfe9f24979b8796c2d241de0c015bfe6b764c1dc6".toList):=by kernel_rfl
theorem isolateCubes_k2:Tryz.pinned.checked.prog.funcNamed "weirbox/weirboxlaw51.IsolateCubes"=some 3:=by kernel_rfl
theorem Yj8:true=Tryz.pinned.checked.prog.looks []:=by kernel_rfl
theorem Yig:false=Rows.isolateCubesRow.goesBy Tryz.pinned.checked.prog:=by kernel_rfl
theorem Y32:Tryz.pinned.checked.prog.wantsStandIn 3=false:=by kernel_rfl
theorem Ydf:Tryz.pinned.checked.prog.wantsStandIn 22=false:=by kernel_rfl
end Go.Proofs.YtjppkmpecdbepaaGreatDoor.W
