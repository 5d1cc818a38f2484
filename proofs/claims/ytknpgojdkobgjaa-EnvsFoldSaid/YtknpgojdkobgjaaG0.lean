/- A part of the proof. -/
import Derived.Test.YtknpgojdkobgjaaL1
import Derived.Test.YtknpgojdkobgjaaProg
import Derived.KernelRfl
set_option linter.unusedVariables false
set_option maxRecDepth 4000
set_option linter.unusedSimpArgs false
namespace Go.Proofs.Ytknpgojdkobgjaa.W
open Go Go.Wb
structure Wide where
 Hi:(BitVec 64)
 Lo:(BitVec 64)
 deriving DecidableEq,Inhabited
def Zk:Kd Wide:=Z0u (Z4 Z01 Z01) (fun x=>(x.Hi,x.Lo))
instance:PureK Zk:=inferInstanceAs (PureK (Z0u (Z4 Z01 Z01) (fun (x:Wide)=>(x.Hi,x.Lo))))
def lWide_0:Lens Zk Z01:=Lens.iso (k:=(Z4 Z01 Z01)) (Lens.fst _ _) Wide.Hi (fun x y=>{x with Hi:=y}) (fun _=>rfl) (fun _ _=>rfl)
def lWide_1:Lens Zk Z01:=Lens.iso (k:=(Z4 Z01 Z01)) (Lens.snd _ _) Wide.Lo (fun x y=>{x with Lo:=y}) (fun _=>rfl) (fun _ _=>rfl)
def Z1s:Wide:=⟨0,0⟩
def Z6c:List Value:=([.int .u64 0]++[.int .u64 0])
theorem Z4w:KZ Zk Z1s Z6c:=Z2i (Z0p Zfb Zfb)
structure Oxm where
 Field:Int
 Masked:Bool
 Value:Wide
 Mask:Wide
 deriving DecidableEq,Inhabited
def Z1t:Kd Oxm:=Z0u (Z4 (Z0 .i64) (Z4 Z5 (Z4 Zk Zk))) (fun x=>(x.Field,(x.Masked,(x.Value,x.Mask))))
instance:PureK Z1t:=inferInstanceAs (PureK (Z0u (Z4 (Z0 .i64) (Z4 Z5 (Z4 Zk Zk))) (fun (x:Oxm)=>(x.Field,(x.Masked,(x.Value,x.Mask))))))
def Z8r:Lens Z1t (Z0 .i64):=Lens.iso (k:=(Z4 (Z0 .i64) (Z4 Z5 (Z4 Zk Zk)))) (Lens.fst _ _) Oxm.Field (fun x y=>{x with Field:=y}) (fun _=>rfl) (fun _ _=>rfl)
def Zgr:Lens Z1t Z5:=Lens.iso (k:=(Z4 (Z0 .i64) (Z4 Z5 (Z4 Zk Zk)))) (Lens.comp (Lens.snd _ _) (Lens.fst _ _)) Oxm.Masked (fun x y=>{x with Masked:=y}) (fun _=>rfl) (fun _ _=>rfl)
def Zcw:Lens Z1t Zk:=Lens.iso (k:=(Z4 (Z0 .i64) (Z4 Z5 (Z4 Zk Zk)))) (Lens.comp (Lens.comp (Lens.snd _ _) (Lens.snd _ _)) (Lens.fst _ _)) Oxm.Value (fun x y=>{x with Value:=y}) (fun _=>rfl) (fun _ _=>rfl)
def Zft:Lens Z1t Zk:=Lens.iso (k:=(Z4 (Z0 .i64) (Z4 Z5 (Z4 Zk Zk)))) (Lens.comp (Lens.comp (Lens.snd _ _) (Lens.snd _ _)) (Lens.snd _ _)) Oxm.Mask (fun x y=>{x with Mask:=y}) (fun _=>rfl) (fun _ _=>rfl)
def Zhd:Oxm:=⟨0,false,Z1s,Z1s⟩
def Zjc:List Value:=([.int .i64 0]++([.bool false]++(Z6c++Z6c)))
theorem Zrk:KZ Z1t Zhd Zjc:=Z2i (Z0p Z1b (Z0p Z9i (Z0p Z4w Z4w)))
structure Action where
 Kind:Int
 Port:Int
 Max:Int
 Group:Int
 Ether:Int
 Oxm:Oxm
 deriving DecidableEq,Inhabited
def Z3:Kd Action:=Z0u (Z4 (Z0 .i64) (Z4 (Z0 .i64) (Z4 (Z0 .i64) (Z4 (Z0 .i64) (Z4 (Z0 .i64) Z1t))))) (fun x=>(x.Kind,(x.Port,(x.Max,(x.Group,(x.Ether,x.Oxm))))))
instance:PureK Z3:=inferInstanceAs (PureK (Z0u (Z4 (Z0 .i64) (Z4 (Z0 .i64) (Z4 (Z0 .i64) (Z4 (Z0 .i64) (Z4 (Z0 .i64) Z1t))))) (fun (x:Action)=>(x.Kind,(x.Port,(x.Max,(x.Group,(x.Ether,x.Oxm))))))))
def Z38:Lens Z3 (Z0 .i64):=Lens.iso (k:=(Z4 (Z0 .i64) (Z4 (Z0 .i64) (Z4 (Z0 .i64) (Z4 (Z0 .i64) (Z4 (Z0 .i64) Z1t)))))) (Lens.fst _ _) Action.Kind (fun x y=>{x with Kind:=y}) (fun _=>rfl) (fun _ _=>rfl)
def Zd8:Lens Z3 (Z0 .i64):=Lens.iso (k:=(Z4 (Z0 .i64) (Z4 (Z0 .i64) (Z4 (Z0 .i64) (Z4 (Z0 .i64) (Z4 (Z0 .i64) Z1t)))))) (Lens.comp (Lens.snd _ _) (Lens.fst _ _)) Action.Port (fun x y=>{x with Port:=y}) (fun _=>rfl) (fun _ _=>rfl)
def Zit:Lens Z3 (Z0 .i64):=Lens.iso (k:=(Z4 (Z0 .i64) (Z4 (Z0 .i64) (Z4 (Z0 .i64) (Z4 (Z0 .i64) (Z4 (Z0 .i64) Z1t)))))) (Lens.comp (Lens.comp (Lens.snd _ _) (Lens.snd _ _)) (Lens.fst _ _)) Action.Max (fun x y=>{x with Max:=y}) (fun _=>rfl) (fun _ _=>rfl)
def Zda:Lens Z3 (Z0 .i64):=Lens.iso (k:=(Z4 (Z0 .i64) (Z4 (Z0 .i64) (Z4 (Z0 .i64) (Z4 (Z0 .i64) (Z4 (Z0 .i64) Z1t)))))) (Lens.comp (Lens.comp (Lens.comp (Lens.snd _ _) (Lens.snd _ _)) (Lens.snd _ _)) (Lens.fst _ _)) Action.Group (fun x y=>{x with Group:=y}) (fun _=>rfl) (fun _ _=>rfl)
def Zc6:Lens Z3 Z1t:=Lens.iso (k:=(Z4 (Z0 .i64) (Z4 (Z0 .i64) (Z4 (Z0 .i64) (Z4 (Z0 .i64) (Z4 (Z0 .i64) Z1t)))))) (Lens.comp (Lens.comp (Lens.comp (Lens.comp (Lens.snd _ _) (Lens.snd _ _)) (Lens.snd _ _)) (Lens.snd _ _)) (Lens.snd _ _)) Action.Oxm (fun x y=>{x with Oxm:=y}) (fun _=>rfl) (fun _ _=>rfl)
def Zc3:Action:=⟨0,0,0,0,0,Zhd⟩
def Zl1:List Value:=([.int .i64 0]++([.int .i64 0]++([.int .i64 0]++([.int .i64 0]++([.int .i64 0]++Zjc)))))
theorem Znn:KZ Z3 Zc3 Zl1:=Z2i (Z0p Z1b (Z0p Z1b (Z0p Z1b (Z0p Z1b (Z0p Z1b Zrk)))))
structure Bucket where
 Weight:Int
 Watch:Int
 WatchGroup:Int
 Acts:(List Action)
 deriving DecidableEq,Inhabited
def Z03:Kd Bucket:=Z0u (Z4 (Z0 .i64) (Z4 (Z0 .i64) (Z4 (Z0 .i64) (Z2 Z3)))) (fun x=>(x.Weight,(x.Watch,(x.WatchGroup,x.Acts))))
def Ze6:Lens Z03 (Z0 .i64):=Lens.iso (k:=(Z4 (Z0 .i64) (Z4 (Z0 .i64) (Z4 (Z0 .i64) (Z2 Z3))))) (Lens.fst _ _) Bucket.Weight (fun x y=>{x with Weight:=y}) (fun _=>rfl) (fun _ _=>rfl)
def lBucket_1:Lens Z03 (Z0 .i64):=Lens.iso (k:=(Z4 (Z0 .i64) (Z4 (Z0 .i64) (Z4 (Z0 .i64) (Z2 Z3))))) (Lens.comp (Lens.snd _ _) (Lens.fst _ _)) Bucket.Watch (fun x y=>{x with Watch:=y}) (fun _=>rfl) (fun _ _=>rfl)
def Zfr:Lens Z03 (Z0 .i64):=Lens.iso (k:=(Z4 (Z0 .i64) (Z4 (Z0 .i64) (Z4 (Z0 .i64) (Z2 Z3))))) (Lens.comp (Lens.comp (Lens.snd _ _) (Lens.snd _ _)) (Lens.fst _ _)) Bucket.WatchGroup (fun x y=>{x with WatchGroup:=y}) (fun _=>rfl) (fun _ _=>rfl)
def Z7n:Lens Z03 (Z2 Z3):=Lens.iso (k:=(Z4 (Z0 .i64) (Z4 (Z0 .i64) (Z4 (Z0 .i64) (Z2 Z3))))) (Lens.comp (Lens.comp (Lens.snd _ _) (Lens.snd _ _)) (Lens.snd _ _)) Bucket.Acts (fun x y=>{x with Acts:=y}) (fun _=>rfl) (fun _ _=>rfl)
def Zgx:Bucket:=⟨0,0,0,[]⟩
def Zkr:List Value:=([.int .i64 0]++([.int .i64 0]++([.int .i64 0]++[.slice none 0 0])))
theorem Zq1:KZ Z03 Zgx Zkr:=Z2i (Z0p Z1b (Z0p Z1b (Z0p Z1b (Zbv _))))
structure Group where
 ID:Int
 Kind:Int
 Buckets:(List Bucket)
 deriving DecidableEq,Inhabited
def Zd:Kd Group:=Z0u (Z4 (Z0 .i64) (Z4 (Z0 .i64) (Z2 Z03))) (fun x=>(x.ID,(x.Kind,x.Buckets)))
def Z4d:Lens Zd (Z0 .i64):=Lens.iso (k:=(Z4 (Z0 .i64) (Z4 (Z0 .i64) (Z2 Z03)))) (Lens.fst _ _) Group.ID (fun x y=>{x with ID:=y}) (fun _=>rfl) (fun _ _=>rfl)
def lGroup_1:Lens Zd (Z0 .i64):=Lens.iso (k:=(Z4 (Z0 .i64) (Z4 (Z0 .i64) (Z2 Z03)))) (Lens.comp (Lens.snd _ _) (Lens.fst _ _)) Group.Kind (fun x y=>{x with Kind:=y}) (fun _=>rfl) (fun _ _=>rfl)
def lGroup_2:Lens Zd (Z2 Z03):=Lens.iso (k:=(Z4 (Z0 .i64) (Z4 (Z0 .i64) (Z2 Z03)))) (Lens.comp (Lens.snd _ _) (Lens.snd _ _)) Group.Buckets (fun x y=>{x with Buckets:=y}) (fun _=>rfl) (fun _ _=>rfl)
def Z8u:Group:=⟨0,0,[]⟩
def Zfl:List Value:=([.int .i64 0]++([.int .i64 0]++[.slice none 0 0]))
theorem Zic:KZ Zd Z8u Zfl:=Z2i (Z0p Z1b (Z0p Z1b (Zbv _)))
abbrev Za2:=Vector Bool 7
structure Env where
 Turn:Int
 Down:(List Int)
 deriving DecidableEq,Inhabited
def Zn:Kd Env:=Z0u (Z4 (Z0 .i64) (Z2 (Z0 .i64))) (fun x=>(x.Turn,x.Down))
def lEnv_0:Lens Zn (Z0 .i64):=Lens.iso (k:=(Z4 (Z0 .i64) (Z2 (Z0 .i64)))) (Lens.fst _ _) Env.Turn (fun x y=>{x with Turn:=y}) (fun _=>rfl) (fun _ _=>rfl)
def lEnv_1:Lens Zn (Z2 (Z0 .i64)):=Lens.iso (k:=(Z4 (Z0 .i64) (Z2 (Z0 .i64)))) (Lens.snd _ _) Env.Down (fun x y=>{x with Down:=y}) (fun _=>rfl) (fun _ _=>rfl)
def Zax:Env:=⟨0,[]⟩
def Zfa:List Value:=([.int .i64 0]++[.slice none 0 0])
theorem Zds:KZ Zn Zax Zfa:=Z2i (Z0p Z1b (Zbv _))
structure Fault where
 Is:Bool
 Type_:Int
 Code:Int
 deriving DecidableEq,Inhabited
def Z2q:Kd Fault:=Z0u (Z4 Z5 (Z4 (Z0 .i64) (Z0 .i64))) (fun x=>(x.Is,(x.Type_,x.Code)))
instance:PureK Z2q:=inferInstanceAs (PureK (Z0u (Z4 Z5 (Z4 (Z0 .i64) (Z0 .i64))) (fun (x:Fault)=>(x.Is,(x.Type_,x.Code)))))
def lFault_0:Lens Z2q Z5:=Lens.iso (k:=(Z4 Z5 (Z4 (Z0 .i64) (Z0 .i64)))) (Lens.fst _ _) Fault.Is (fun x y=>{x with Is:=y}) (fun _=>rfl) (fun _ _=>rfl)
def lFault_1:Lens Z2q (Z0 .i64):=Lens.iso (k:=(Z4 Z5 (Z4 (Z0 .i64) (Z0 .i64)))) (Lens.comp (Lens.snd _ _) (Lens.fst _ _)) Fault.Type_ (fun x y=>{x with Type_:=y}) (fun _=>rfl) (fun _ _=>rfl)
def lFault_2:Lens Z2q (Z0 .i64):=Lens.iso (k:=(Z4 Z5 (Z4 (Z0 .i64) (Z0 .i64)))) (Lens.comp (Lens.snd _ _) (Lens.snd _ _)) Fault.Code (fun x y=>{x with Code:=y}) (fun _=>rfl) (fun _ _=>rfl)
def Zd0:Fault:=⟨false,0,0⟩
def Zt8:List Value:=([.bool false]++([.int .i64 0]++[.int .i64 0]))
theorem Zt6:KZ Z2q Zd0 Zt8:=Z2i (Z0p Z9i (Z0p Z1b Z1b))
structure env_world where
 Env:Env
 Group:Group
 deriving DecidableEq,Inhabited
def Z4m:Kd env_world:=Z0u (Z4 Zn Zd) (fun x=>(x.Env,x.Group))
def lenv_world_0:Lens Z4m Zn:=Lens.iso (k:=(Z4 Zn Zd)) (Lens.fst _ _) env_world.Env (fun x y=>{x with Env:=y}) (fun _=>rfl) (fun _ _=>rfl)
def lenv_world_1:Lens Z4m Zd:=Lens.iso (k:=(Z4 Zn Zd)) (Lens.snd _ _) env_world.Group (fun x y=>{x with Group:=y}) (fun _=>rfl) (fun _ _=>rfl)
def Zgl:env_world:=⟨Zax,Z8u⟩
def Zrx:List Value:=(Zfa++Zfl)
theorem Zmc:KZ Z4m Zgl Zrx:=Z2i (Z0p Zds Zic)
structure aset_spot where
 kind:Int
 field:Int
 deriving DecidableEq,Inhabited
def Z2r:Kd aset_spot:=Z0u (Z4 (Z0 .i64) (Z0 .i64)) (fun x=>(x.kind,x.field))
instance:PureK Z2r:=inferInstanceAs (PureK (Z0u (Z4 (Z0 .i64) (Z0 .i64)) (fun (x:aset_spot)=>(x.kind,x.field))))
def laset_spot_0:Lens Z2r (Z0 .i64):=Lens.iso (k:=(Z4 (Z0 .i64) (Z0 .i64))) (Lens.fst _ _) aset_spot.kind (fun x y=>{x with kind:=y}) (fun _=>rfl) (fun _ _=>rfl)
def laset_spot_1:Lens Z2r (Z0 .i64):=Lens.iso (k:=(Z4 (Z0 .i64) (Z0 .i64))) (Lens.snd _ _) aset_spot.field (fun x y=>{x with field:=y}) (fun _=>rfl) (fun _ _=>rfl)
def Zb4:aset_spot:=⟨0,0⟩
def Zmf:List Value:=([.int .i64 0]++[.int .i64 0])
theorem Zpw:KZ Z2r Zb4 Zmf:=Z2i (Z0p Z1b Z1b)
structure Tern where
 Value:Wide
 Mask:Wide
 deriving DecidableEq,Inhabited
def Z0j:Kd Tern:=Z0u (Z4 Zk Zk) (fun x=>(x.Value,x.Mask))
instance:PureK Z0j:=inferInstanceAs (PureK (Z0u (Z4 Zk Zk) (fun (x:Tern)=>(x.Value,x.Mask))))
def lTern_0:Lens Z0j Zk:=Lens.iso (k:=(Z4 Zk Zk)) (Lens.fst _ _) Tern.Value (fun x y=>{x with Value:=y}) (fun _=>rfl) (fun _ _=>rfl)
def lTern_1:Lens Z0j Zk:=Lens.iso (k:=(Z4 Zk Zk)) (Lens.snd _ _) Tern.Mask (fun x y=>{x with Mask:=y}) (fun _=>rfl) (fun _ _=>rfl)
def Z3a:Tern:=⟨Z1s,Z1s⟩
def Znv:List Value:=(Z6c++Z6c)
theorem Zjv:KZ Z0j Z3a Znv:=Z2i (Z0p Z4w Z4w)
abbrev Z2x:=Vector Tern 24
structure field_row where
 name:ByteArray
 id:Int
 bits:Int
 masks:Bool
 deriving DecidableEq,Inhabited
def Z0g:Kd field_row:=Z0u (Z4 Z3j (Z4 (Z0 .i64) (Z4 (Z0 .i64) Z5))) (fun x=>(x.name,(x.id,(x.bits,x.masks))))
instance:PureK Z0g:=inferInstanceAs (PureK (Z0u (Z4 Z3j (Z4 (Z0 .i64) (Z4 (Z0 .i64) Z5))) (fun (x:field_row)=>(x.name,(x.id,(x.bits,x.masks))))))
def Z0z:Lens Z0g Z3j:=Lens.iso (k:=(Z4 Z3j (Z4 (Z0 .i64) (Z4 (Z0 .i64) Z5)))) (Lens.fst _ _) field_row.name (fun x y=>{x with name:=y}) (fun _=>rfl) (fun _ _=>rfl)
def lfield_row_1:Lens Z0g (Z0 .i64):=Lens.iso (k:=(Z4 Z3j (Z4 (Z0 .i64) (Z4 (Z0 .i64) Z5)))) (Lens.comp (Lens.snd _ _) (Lens.fst _ _)) field_row.id (fun x y=>{x with id:=y}) (fun _=>rfl) (fun _ _=>rfl)
def Z0v:Lens Z0g (Z0 .i64):=Lens.iso (k:=(Z4 Z3j (Z4 (Z0 .i64) (Z4 (Z0 .i64) Z5)))) (Lens.comp (Lens.comp (Lens.snd _ _) (Lens.snd _ _)) (Lens.fst _ _)) field_row.bits (fun x y=>{x with bits:=y}) (fun _=>rfl) (fun _ _=>rfl)
def Z12:Lens Z0g Z5:=Lens.iso (k:=(Z4 Z3j (Z4 (Z0 .i64) (Z4 (Z0 .i64) Z5)))) (Lens.comp (Lens.comp (Lens.snd _ _) (Lens.snd _ _)) (Lens.snd _ _)) field_row.masks (fun x y=>{x with masks:=y}) (fun _=>rfl) (fun _ _=>rfl)
def Za8:field_row:=⟨(⟨#[]⟩:ByteArray),0,0,false⟩
def Ztm:List Value:=([.string ⟨#[]⟩]++([.int .i64 0]++([.int .i64 0]++[.bool false])))
theorem Zia:KZ Z0g Za8 Ztm:=Z2i (Z0p Zmi (Z0p Z1b (Z0p Z1b Z9i)))
abbrev Zoe:=Vector field_row 24
abbrev Z28:=Vector Wide 24
structure Out where
 Port:Int
 Max:Int
 Header:Z28
 deriving DecidableEq,Inhabited
def Z0c:Kd Out:=Z0u (Z4 (Z0 .i64) (Z4 (Z0 .i64) (Zm 24 Zk))) (fun x=>(x.Port,(x.Max,x.Header)))
instance:PureK Z0c:=inferInstanceAs (PureK (Z0u (Z4 (Z0 .i64) (Z4 (Z0 .i64) (Zm 24 Zk))) (fun (x:Out)=>(x.Port,(x.Max,x.Header)))))
def lOut_0:Lens Z0c (Z0 .i64):=Lens.iso (k:=(Z4 (Z0 .i64) (Z4 (Z0 .i64) (Zm 24 Zk)))) (Lens.fst _ _) Out.Port (fun x y=>{x with Port:=y}) (fun _=>rfl) (fun _ _=>rfl)
def lOut_1:Lens Z0c (Z0 .i64):=Lens.iso (k:=(Z4 (Z0 .i64) (Z4 (Z0 .i64) (Zm 24 Zk)))) (Lens.comp (Lens.snd _ _) (Lens.fst _ _)) Out.Max (fun x y=>{x with Max:=y}) (fun _=>rfl) (fun _ _=>rfl)
def lOut_2:Lens Z0c (Zm 24 Zk):=Lens.iso (k:=(Z4 (Z0 .i64) (Z4 (Z0 .i64) (Zm 24 Zk)))) (Lens.comp (Lens.snd _ _) (Lens.snd _ _)) Out.Header (fun x y=>{x with Header:=y}) (fun _=>rfl) (fun _ _=>rfl)
def Zjl:Out:=⟨0,0,(Vector.replicate 24 Z1s)⟩
def Zkj:List Value:=([.int .i64 0]++([.int .i64 0]++(List.replicate 24 Z6c).flatten))
theorem Zt7:KZ Z0c Zjl Zkj:=Z2i (Z0p Z1b (Z0p Z1b (Z5r 24 Z4w)))
structure Zu where
 Env:Env
 groups:(List Group)
 out:(List Out)
 header:Z28
 depth:Int
 deriving DecidableEq,Inhabited
structure exec_run_o2 where
 Env:Env
 groups:(List Group)
 out:Value
 header:Z28
 depth:Int
def Z0b:Kd exec_run_o2:=Z0u (Z4 Zn (Z4 (Z2 Zd) (Z4 kraw (Z4 (Zm 24 Zk) (Z0 .i64))))) (fun x=>(x.Env,(x.groups,(x.out,(x.header,x.depth)))))
def lexec_run_o2_0:Lens Z0b Zn:=Lens.iso (k:=(Z4 Zn (Z4 (Z2 Zd) (Z4 kraw (Z4 (Zm 24 Zk) (Z0 .i64)))))) (Lens.fst _ _) exec_run_o2.Env (fun x y=>{x with Env:=y}) (fun _=>rfl) (fun _ _=>rfl)
def lexec_run_o2_1:Lens Z0b (Z2 Zd):=Lens.iso (k:=(Z4 Zn (Z4 (Z2 Zd) (Z4 kraw (Z4 (Zm 24 Zk) (Z0 .i64)))))) (Lens.comp (Lens.snd _ _) (Lens.fst _ _)) exec_run_o2.groups (fun x y=>{x with groups:=y}) (fun _=>rfl) (fun _ _=>rfl)
def Z98:Lens Z0b kraw:=Lens.iso (k:=(Z4 Zn (Z4 (Z2 Zd) (Z4 kraw (Z4 (Zm 24 Zk) (Z0 .i64)))))) (Lens.comp (Lens.comp (Lens.snd _ _) (Lens.snd _ _)) (Lens.fst _ _)) exec_run_o2.out (fun x y=>{x with out:=y}) (fun _=>rfl) (fun _ _=>rfl)
def lexec_run_o2_3:Lens Z0b (Zm 24 Zk):=Lens.iso (k:=(Z4 Zn (Z4 (Z2 Zd) (Z4 kraw (Z4 (Zm 24 Zk) (Z0 .i64)))))) (Lens.comp (Lens.comp (Lens.comp (Lens.snd _ _) (Lens.snd _ _)) (Lens.snd _ _)) (Lens.fst _ _)) exec_run_o2.header (fun x y=>{x with header:=y}) (fun _=>rfl) (fun _ _=>rfl)
def Z79:Lens Z0b (Z0 .i64):=Lens.iso (k:=(Z4 Zn (Z4 (Z2 Zd) (Z4 kraw (Z4 (Zm 24 Zk) (Z0 .i64)))))) (Lens.comp (Lens.comp (Lens.comp (Lens.snd _ _) (Lens.snd _ _)) (Lens.snd _ _)) (Lens.snd _ _)) exec_run_o2.depth (fun x y=>{x with depth:=y}) (fun _=>rfl) (fun _ _=>rfl)
def Zih:exec_run_o2:=⟨Zax,[],(.slice none 0 0),(Vector.replicate 24 Z1s),0⟩
theorem Zte:KZ Z0b Zih (Zfa++([.slice none 0 0]++([.slice none 0 0]++((List.replicate 24 Z6c).flatten++[.int .i64 0])))):=Z2i (Z0p Zds (Z0p (Zbv _) (Z0p (Zp4 rfl) (Z0p (Z5r 24 Z4w) Z1b))))
theorem Z18:Sl Try.prog 61 68 Z03:=⟨by kernel_rfl,by kernel_rfl⟩
theorem Zbh:Ty Try.prog 68 Z03:=⟨by kernel_rfl,by kernel_rfl⟩
theorem Z04:Sl Try.prog 66 95 Z3:=⟨by kernel_rfl,by kernel_rfl⟩
theorem Zar:Fl Try.prog 68 3 Z7n:=⟨by kernel_rfl,rfl⟩
theorem Z9l:Ty Try.prog 66 (Z2 Z3):=⟨by kernel_rfl,by kernel_rfl⟩
theorem Z2l:Fl Try.prog 63 2 lGroup_2:=⟨by kernel_rfl,rfl⟩
theorem Z2o:Ty Try.prog 61 (Z2 Z03):=⟨by kernel_rfl,by kernel_rfl⟩
theorem Zl:Ty Try.prog 3 (Z0 .i64):=⟨by kernel_rfl,by kernel_rfl⟩
theorem Z0f:Sl Try.prog 22 63 Zd:=⟨by kernel_rfl,by kernel_rfl⟩
theorem Z1l:Ty Try.prog 63 Zd:=⟨by kernel_rfl,by kernel_rfl⟩
theorem Znb:El Try.prog 22 63 Zd:=⟨by kernel_rfl,by kernel_rfl,by kernel_rfl,by kernel_rfl,by kernel_rfl⟩
theorem Z32:Zr Try.prog 63 Zd Z8u:=⟨_,Zic,by kernel_rfl⟩
theorem Zdd:Fl Try.prog 63 1 lGroup_1:=⟨by kernel_rfl,rfl⟩
theorem Zrm:Zr Try.prog 122 (Zm 7 Z5) (Vector.replicate 7 false):=⟨_,(Z5r 7 Z9i),by kernel_rfl⟩
theorem Zqu:Ty Try.prog 122 (Zm 7 Z5):=⟨by kernel_rfl,by kernel_rfl⟩
theorem Zgw:Ar Try.prog 122 4 7 Z5:=⟨by kernel_rfl,by kernel_rfl⟩
theorem ty4:Ty Try.prog 4 Z5:=⟨by kernel_rfl,by kernel_rfl⟩
theorem Z06:Sl Try.prog 23 3 (Z0 .i64):=⟨by kernel_rfl,by kernel_rfl⟩
theorem zr3:Zr Try.prog 3 (Z0 .i64) 0:=⟨_,Z1b,by kernel_rfl⟩
theorem Z7g:El Try.prog 23 3 (Z0 .i64):=⟨by kernel_rfl,by kernel_rfl,by kernel_rfl,by kernel_rfl,by kernel_rfl⟩
theorem Z5p:Zr Try.prog 68 Z03 Zgx:=⟨_,Zq1,by kernel_rfl⟩
theorem Z91:Fl Try.prog 68 1 lBucket_1:=⟨by kernel_rfl,rfl⟩
theorem Zca:Ty Try.prog 22 (Z2 Zd):=⟨by kernel_rfl,by kernel_rfl⟩
theorem Zdy:Z0q Try.prog 25 0=some (lEnv_0.off,Kd.sz (Z0 .i64)):=by kernel_rfl
theorem Zf6:Z0q Try.prog 25 1=some (lEnv_1.off,Kd.sz (Z2 (Z0 .i64))):=by kernel_rfl
theorem Z4k:Zr Try.prog 25 Zn Zax:=⟨_,Zds,by kernel_rfl⟩
theorem Zdm:Z2f Try.prog 25=true:=by kernel_rfl
theorem Zcb:Sl Try.prog 35 25 Zn:=⟨by kernel_rfl,by kernel_rfl⟩
theorem Zkv:El Try.prog 35 25 Zn:=⟨by kernel_rfl,by kernel_rfl,by kernel_rfl,by kernel_rfl,by kernel_rfl⟩
theorem Z1h:Ty Try.prog 25 Zn:=⟨by kernel_rfl,by kernel_rfl⟩
theorem Ze0:Ty Try.prog 35 kraw:=⟨by kernel_rfl,by kernel_rfl⟩
theorem Z8e:Fl Try.prog 25 1 lEnv_1:=⟨by kernel_rfl,rfl⟩
theorem Z8y:Ty Try.prog 23 (Z2 (Z0 .i64)):=⟨by kernel_rfl,by kernel_rfl⟩
theorem Zcj:Fl Try.prog 25 0 lEnv_0:=⟨by kernel_rfl,rfl⟩
theorem Zn7:Z0q Try.prog 68 1=some (lBucket_1.off,Kd.sz (Z0 .i64)):=by kernel_rfl
theorem Zep:Z2f Try.prog 68=true:=by kernel_rfl
theorem Zg8:Z0q Try.prog 63 1=some (lGroup_1.off,Kd.sz (Z0 .i64)):=by kernel_rfl
theorem Zj3:Z0q Try.prog 63 2=some (lGroup_2.off,Kd.sz (Z2 Z03)):=by kernel_rfl
theorem Zct:Z2f Try.prog 63=true:=by kernel_rfl
theorem Zms:Zfc (Try.prog.underlying 73)=true:=by kernel_rfl
theorem Z68:Fl Try.prog 63 0 Z4d:=⟨by kernel_rfl,rfl⟩
theorem Z6b:Zr Try.prog 83 Z2q Zd0:=⟨_,Zt6,by kernel_rfl⟩
theorem Zpb:Z0q Try.prog 83 0=some (lFault_0.off,Kd.sz Z5):=by kernel_rfl
theorem Znj:Z0q Try.prog 83 1=some (lFault_1.off,Kd.sz (Z0 .i64)):=by kernel_rfl
theorem Ztt:Z0q Try.prog 83 2=some (lFault_2.off,Kd.sz (Z0 .i64)):=by kernel_rfl
theorem Zea:Z2f Try.prog 83=true:=by kernel_rfl
theorem Z0t:Ty Try.prog 83 Z2q:=⟨by kernel_rfl,by kernel_rfl⟩
theorem Zrg:Fl Try.prog 68 2 Zfr:=⟨by kernel_rfl,rfl⟩
theorem Zhy:Fl Try.prog 68 0 Ze6:=⟨by kernel_rfl,rfl⟩
theorem Zk9:Fl Try.prog 83 0 lFault_0:=⟨by kernel_rfl,rfl⟩
theorem Z3p:Fl Try.prog 95 0 Z38:=⟨by kernel_rfl,rfl⟩
theorem Zfp:Fl Try.prog 95 3 Zda:=⟨by kernel_rfl,rfl⟩
theorem Zrl:El Try.prog 132 4 Z5:=⟨by kernel_rfl,by kernel_rfl,by kernel_rfl,by kernel_rfl,by kernel_rfl⟩
theorem zr4:Zr Try.prog 4 Z5 false:=⟨_,Z9i,by kernel_rfl⟩
theorem Zdh:Sl Try.prog 132 4 Z5:=⟨by kernel_rfl,by kernel_rfl⟩
theorem Zor:Zb0 Try.prog 83 0=some 4:=by kernel_rfl
theorem Zqf:El Try.prog 61 68 Z03:=⟨by kernel_rfl,by kernel_rfl,by kernel_rfl,by kernel_rfl,by kernel_rfl⟩
theorem Zj6:El Try.prog 66 95 Z3:=⟨by kernel_rfl,by kernel_rfl,by kernel_rfl,by kernel_rfl,by kernel_rfl⟩
theorem Z70:Zr Try.prog 95 Z3 Zc3:=⟨_,Znn,by kernel_rfl⟩
theorem Zfq:Fl Try.prog 159 0 lenv_world_0:=⟨by kernel_rfl,rfl⟩
theorem Za1:Fl Try.prog 159 1 lenv_world_1:=⟨by kernel_rfl,rfl⟩
theorem Zli:Z0q Try.prog 159 0=some (lenv_world_0.off,Kd.sz Zn):=by kernel_rfl
theorem Zp6:Z0q Try.prog 159 1=some (lenv_world_1.off,Kd.sz Zd):=by kernel_rfl
theorem Zif:Zr Try.prog 159 Z4m Zgl:=⟨_,Zmc,by kernel_rfl⟩
theorem Zs8:Z2f Try.prog 159=true:=by kernel_rfl
theorem Zgz:Ty Try.prog 159 Z4m:=⟨by kernel_rfl,by kernel_rfl⟩
theorem Z8p:Zr Try.prog 169 Z2r Zb4:=⟨_,Zpw,by kernel_rfl⟩
theorem Zfe:Fl Try.prog 95 5 Zc6:=⟨by kernel_rfl,rfl⟩
theorem Zcc:Fl Try.prog 93 0 Z8r:=⟨by kernel_rfl,rfl⟩
theorem Zfz:Z0q Try.prog 169 0=some (laset_spot_0.off,Kd.sz (Z0 .i64)):=by kernel_rfl
theorem Zoz:Z0q Try.prog 169 1=some (laset_spot_1.off,Kd.sz (Z0 .i64)):=by kernel_rfl
theorem Zgn:Z2f Try.prog 169=true:=by kernel_rfl
theorem Z6i:Ty Try.prog 169 Z2r:=⟨by kernel_rfl,by kernel_rfl⟩
theorem Z07:Ty Try.prog 95 Z3:=⟨by kernel_rfl,by kernel_rfl⟩
theorem Zjh:EqK Try.prog 1 3 (Z0 .i64):=Zkm (by kernel_rfl)
theorem Zso:EqK Try.prog 2 169 Z2r:=Zhn (fun x y e=>by cases x;cases y;simp only [Prod.mk.injEq] at e;simp [e]) (l:=_) (by kernel_rfl) (by kernel_rfl) (Zh8 Zjh Zl (Zk5 Zjh Zl))
theorem Zlx:Try.prog.eqGuardType Try.prog.depth 169=false:=by kernel_rfl
theorem us3:(Try.prog.underlying 3).isSome=true:=by kernel_rfl
theorem Zbn:Try.prog.underlying 201=some (.int .u64):=by kernel_rfl
theorem Zbl:(Try.prog.underlying 201).isSome=true:=by kernel_rfl
theorem un3:Try.prog.underlying 3=some (.int .i64):=by kernel_rfl
theorem Zgq:Fl Try.prog 169 0 laset_spot_0:=⟨by kernel_rfl,rfl⟩
theorem Zc2:Fl Try.prog 169 1 laset_spot_1:=⟨by kernel_rfl,rfl⟩
theorem Zk1:Fl Try.prog 95 1 Zd8:=⟨by kernel_rfl,rfl⟩
theorem Zo0:Fl Try.prog 95 2 Zit:=⟨by kernel_rfl,rfl⟩
theorem Z4f:Zr Try.prog 51 (Zm 24 Z0j) (Vector.replicate 24 Z3a):=⟨_,(Z5r 24 Zjv),by kernel_rfl⟩
theorem Z0h:Ty Try.prog 51 (Zm 24 Z0j):=⟨by kernel_rfl,by kernel_rfl⟩
theorem Zg7:Zr Try.prog 205 (Zm 24 Z0g) (Vector.replicate 24 Za8):=⟨_,(Z5r 24 Zia),by kernel_rfl⟩
theorem Znt:Z0q Try.prog 203 1=some (lfield_row_1.off,Kd.sz (Z0 .i64)):=by kernel_rfl
theorem Z0w:Zr Try.prog 203 Z0g Za8:=⟨_,Zia,by kernel_rfl⟩
theorem Zie:Ty Try.prog 205 (Zm 24 Z0g):=⟨by kernel_rfl,by kernel_rfl⟩
theorem Zm7:Z2f Try.prog 203=true:=by kernel_rfl
theorem Zam:Ty Try.prog 203 Z0g:=⟨by kernel_rfl,by kernel_rfl⟩
theorem Ztf:Ar Try.prog 205 203 24 Z0g:=⟨by kernel_rfl,by kernel_rfl⟩
theorem Zqj:Zb0 Try.prog 203 2=some 3:=by kernel_rfl
theorem Ztp:Fl Try.prog 203 2 Z0v:=⟨by kernel_rfl,rfl⟩
theorem Z2p:Zr Try.prog 28 Zk Z1s:=⟨_,Z4w,by kernel_rfl⟩
theorem Z9j:Z0q Try.prog 28 0=some (lWide_0.off,Kd.sz Z01):=by kernel_rfl
theorem Z9p:Z0q Try.prog 28 1=some (lWide_1.off,Kd.sz Z01):=by kernel_rfl
theorem Z58:Z2f Try.prog 28=true:=by kernel_rfl
theorem Z0k:Ty Try.prog 28 Zk:=⟨by kernel_rfl,by kernel_rfl⟩
theorem Z2s:Zr Try.prog 49 Z0j Z3a:=⟨_,Zjv,by kernel_rfl⟩
theorem Z6k:Z2f Try.prog 49=true:=by kernel_rfl
theorem Z17:Ty Try.prog 49 Z0j:=⟨by kernel_rfl,by kernel_rfl⟩
theorem Zre:Fl Try.prog 93 1 Zgr:=⟨by kernel_rfl,rfl⟩
theorem Zi2:Fl Try.prog 93 2 Zcw:=⟨by kernel_rfl,rfl⟩
theorem Zkw:Fl Try.prog 93 3 Zft:=⟨by kernel_rfl,rfl⟩
theorem Zak:Z0q Try.prog 49 0=some (lTern_0.off,Kd.sz Zk):=by kernel_rfl
theorem Za9:Z0q Try.prog 49 1=some (lTern_1.off,Kd.sz Zk):=by kernel_rfl
theorem Z7z:Fl Try.prog 28 0 lWide_0:=⟨by kernel_rfl,rfl⟩
theorem Z1q:Ty Try.prog 26 Z01:=⟨by kernel_rfl,by kernel_rfl⟩
theorem Z75:Fl Try.prog 28 1 lWide_1:=⟨by kernel_rfl,rfl⟩
theorem Z9h:Fl Try.prog 49 0 lTern_0:=⟨by kernel_rfl,rfl⟩
theorem Z4g:Fl Try.prog 49 1 lTern_1:=⟨by kernel_rfl,rfl⟩
theorem Za0:Ar Try.prog 51 49 24 Z0j:=⟨by kernel_rfl,by kernel_rfl⟩
theorem Zou:Zr Try.prog 184 (Zm 2 Z01) (Vector.replicate 2 0):=⟨_,(Z5r 2 Zfb),by kernel_rfl⟩
theorem Ze2:Ar Try.prog 184 26 2 Z01:=⟨by kernel_rfl,by kernel_rfl⟩
theorem Zpl:Ty Try.prog 93 Z1t:=⟨by kernel_rfl,by kernel_rfl⟩
theorem Zho:Zr Try.prog 30 (Zm 24 Zk) (Vector.replicate 24 Z1s):=⟨_,(Z5r 24 Z4w),by kernel_rfl⟩
theorem Z1v:Ty Try.prog 30 (Zm 24 Zk):=⟨by kernel_rfl,by kernel_rfl⟩
theorem Zel:Ar Try.prog 30 28 24 Zk:=⟨by kernel_rfl,by kernel_rfl⟩
theorem Zqx:Fl Try.prog 90 1 lexec_run_o2_1:=⟨by kernel_rfl,rfl⟩
theorem Z9u:Fl Try.prog 90 4 Z79:=⟨by kernel_rfl,rfl⟩
theorem Z9v:Fl Try.prog 90 3 lexec_run_o2_3:=⟨by kernel_rfl,rfl⟩
theorem Zok:Fl Try.prog 90 0 lexec_run_o2_0:=⟨by kernel_rfl,rfl⟩
theorem Zd4:Fl Try.prog 90 2 Z98:=⟨by kernel_rfl,rfl⟩
theorem Zf8:Ty Try.prog 41 kraw:=⟨by kernel_rfl,by kernel_rfl⟩
theorem Zta:Z0q Try.prog 87 0=some (lOut_0.off,Kd.sz (Z0 .i64)):=by kernel_rfl
theorem Zrj:Z0q Try.prog 87 1=some (lOut_1.off,Kd.sz (Z0 .i64)):=by kernel_rfl
theorem Zkp:Z0q Try.prog 87 2=some (lOut_2.off,Kd.sz (Zm 24 Zk)):=by kernel_rfl
theorem Zjq:Zr Try.prog 87 Z0c Zjl:=⟨_,Zt7,by kernel_rfl⟩
theorem Zq0:Z2f Try.prog 87=true:=by kernel_rfl
theorem Z3g:Sl Try.prog 41 87 Z0c:=⟨by kernel_rfl,by kernel_rfl⟩
theorem Zlo:El Try.prog 41 87 Z0c:=⟨by kernel_rfl,by kernel_rfl,by kernel_rfl,by kernel_rfl,by kernel_rfl⟩
theorem Znz:Z0q Try.prog 90 0=some (lexec_run_o2_0.off,Kd.sz Zn):=by kernel_rfl
theorem Zph:Z0q Try.prog 90 1=some (lexec_run_o2_1.off,Kd.sz (Z2 Zd)):=by kernel_rfl
theorem Zpj:Z0q Try.prog 90 3=some (lexec_run_o2_3.off,Kd.sz (Zm 24 Zk)):=by kernel_rfl
theorem Zrf:Zr Try.prog 90 Z0b Zih:=⟨_,Zte,by kernel_rfl⟩
theorem Zo8:Z2f Try.prog 90=true:=by kernel_rfl
theorem Zio:Fl Try.prog 87 0 lOut_0:=⟨by kernel_rfl,rfl⟩
theorem Zjt:Fl Try.prog 87 1 lOut_1:=⟨by kernel_rfl,rfl⟩
theorem Zii:Fl Try.prog 87 2 lOut_2:=⟨by kernel_rfl,rfl⟩
theorem Zgb:EqK Try.prog 1 26 Z01:=Zty (by kernel_rfl)
theorem Zqd:EqK Try.prog 2 28 Zk:=Zhn (fun x y e=>by cases x;cases y;simp only [Prod.mk.injEq] at e;simp [e]) (l:=_) (by kernel_rfl) (by kernel_rfl) (Zh8 Zgb Z1q (Zk5 Zgb Z1q))
theorem Zra:EqK Try.prog 3 30 (Zm 24 Zk):=Zn4 Zqd Z0k Zel
theorem Zpy:Try.prog.eqGuardType Try.prog.depth 30=false:=by kernel_rfl
theorem Z0n:Try.prog.follows .mixedOrders=true:=by kernel_rfl
end Go.Proofs.Ytknpgojdkobgjaa.W
set_option maxRecDepth 4000
namespace Go.Proofs.Ytknpgojdkobgjaa.W
open Go Go.Wb
theorem e97:Ent Try.prog 97:=Ent.mk Try.func97 rfl rfl
theorem e63:Ent Try.prog 63:=Ent.mk Try.func63 rfl rfl
theorem e61:Ent Try.prog 61:=Ent.mk Try.func61 rfl rfl
theorem e62:Ent Try.prog 62:=Ent.mk Try.func62 rfl rfl
theorem e29:Ent Try.prog 29:=Ent.mk Try.func29 rfl rfl
theorem e60:Ent Try.prog 60:=Ent.mk Try.func60 rfl rfl
theorem e28:Ent Try.prog 28:=Ent.mk Try.func28 rfl rfl
theorem e27:Ent Try.prog 27:=Ent.mk Try.func27 rfl rfl
def Z5u (s1:(List Bucket))(x2:(Bucket→Option Bool)):Nat→Nat→Option Int
 | 0,i3=>some (-1)
 | m4+1,i3=>(lget s1 (i3:Int)).bind fun x5=>(x2 x5).bind fun x6=>(bif x6 then some (i3:Int) else (Z5u s1 x2 m4) (i3+1))
def Z6u (s1:(List Bucket))(x2:(Bucket→Option Bool)):Option Int:=
 Z5u s1 x2 ((s1.length:Int):Int).toNat 0
theorem Zk6:Q2 Try.prog 97 (rd (Z2 Z03)) (fn1 Try.prog Z03 Z5) (rd (Z0 .i64)) Z6u:=fun s1 x2 r h=>I0 Try.func97 rfl Try.ntmps97 rfl fun w H=>by
 unfold Z6u at h
 refine SR<|Ak rfl<|Nl<|sq<|SR<|Md rfl<|Ac (Z0a rfl rfl Z18 (vt rfl)) rfl<|Mk rfl<|Nl<|bk<|LG (d:=[]) (ν:=Nat×Nat) (fun (m4,i3)=>(Cnt (s1.length:Int) i3 m4∧Z5u s1 x2 m4 i3=some r,m4,[(0,rd (Z2 Z03) s1),(1,fn1 Try.prog Z03 Z5 x2),(7,rd (Z0 .i64) (s1.length:Int)),(8,rd (Z0 .i64) (i3:Int))],[])) (((s1.length:Int):Int).toNat,0) ⟨Cnt.start _,h⟩ (FX rfl) ?_
 rintro ⟨m4,i3⟩ ⟨hsf1,h⟩
 dsimp only at hsf1 h ⊢
 cases m4 with
 | zero=>
  unfold Z5u at h
  refine SR<|Ac (Zh rfl rfl (vt rfl) (vt rfl)) rfl<|Nl<|sq<|Cn rfl (fun hc=>absurd (of_decide_eq_true hc) hsf1.zero) (fun hc=>?_)
  refine xt<|SR<|Ak rfl<|Nl<|rt ?_
  cases h;exact Z9 Try.results97 rfl (Zg rfl)
 | succ m4=>
  unfold Z5u at h
  refine SR<|Ac (Zh rfl rfl (vt rfl) (vt rfl)) rfl<|Nl<|sq<|Cn rfl (fun hc=>?_) (fun hc=>absurd hsf1.succ (of_decide_eq_false hc))
  have hlti3:=of_decide_eq_true hc
  refine sk<|sq<|bk<|SR<|Md rfl<|As rfl<|Nl<|sq ?_
  obtain ⟨x5,hx5,x6,hx6,h⟩:=bs2 h
  refine Rg<|Ac (Ze (A:=fn1 Try.prog Z03 Z5 x2) rfl rfl (vt rfl)) rfl<|Md rfl<|Md rfl<|Ac (Z0e rfl rfl Z18 (vt rfl) (vt rfl) hx5) rfl<|Lp1 Zbh rfl<|Ac (Z48 hx6 rfl rfl (vt rfl) (vt rfl)) rfl<|Nl<|Cq rfl h (fun h=>?_) (fun h=>?_)
  ·refine SR<|Md rfl<|As rfl<|Nl<|rt ?_
   cases h;exact Z9 Try.results97 rfl (Zg rfl)
  ·refine sk<|Rg<|Ac (Z10 (t:=7) rfl rfl (vt rfl) (vk rfl) (vt rfl) hlti3) rfl<|Md rfl<|Nl ?_
   exact ⟨(_,_),Nat.lt_succ_self _,⟨hsf1.next,h⟩,FX rfl⟩
def Zan (s1:(List Bucket))(x2:(Bucket→Option Bool)):Option Bool:=
 (Z6u s1 x2).bind fun x3=>some (decide (x3≥0))
theorem Zq6:Q2 Try.prog 61 (rd (Z2 Z03)) (fn1 Try.prog Z03 Z5) (rd Z5) Zan:=fun s1 x2 r h=>I0 Try.func61 rfl Try.ntmps61 rfl fun w H=>by
 unfold Zan at h
 refine SR<|Ab rfl<|Nl<|sq ?_
 obtain ⟨x3,hx3,h⟩:=Za h
 refine Rg<|Md rfl<|Ac (Ze (A:=fn1 Try.prog Z03 Z5 x2) rfl rfl (vt rfl)) rfl<|Cl [5,6] (Zk6 _ _ _ hx3) e97 rfl<|Ac (Z33 rfl rfl (vt rfl) (vk rfl)) rfl<|As rfl<|Nl<|rt ?_
 cases h;exact Z9 Try.results61 rfl (Zg rfl)
def Zd1 (l1:(List Action)):Option Bool:=
 some (decide ((l1.length:Int)≤12))
theorem Zsm:Q1 Try.prog 63 (rd (Z2 Z3)) (rd Z5) Zd1:=fun l1 r h=>I0 Try.func63 rfl Try.ntmps63 rfl fun w H=>by
 unfold Zd1 at h
 refine SR<|Ab rfl<|Nl<|SR<|Md rfl<|Ac (Z0a rfl rfl Z04 (vt rfl)) rfl<|Ac (Z66 rfl rfl (vt rfl) (vk rfl)) rfl<|As rfl<|Nl<|rt ?_
 cases h;exact Z9 Try.results63 rfl (Zg rfl)
def Zbi (x1:Bucket):Option Bool:=
 (Zd1 x1.Acts).bind fun x3=>some (!x3)
theorem Zkq:Q1 Try.prog 62 (rd Z03) (rd Z5) Zbi:=fun x1 r h=>I0 Try.func62 rfl Try.ntmps62 rfl fun w H=>by
 unfold Zbi at h
 refine SR<|Cv rfl (Z00 2 rfl rfl (vt rfl)) fun g2=>Ab rfl<|Nl<|sq ?_
 obtain ⟨x3,hx3,h⟩:=Za h
 refine Rg<|Zo Z7n Zar rfl<|Ld Z9l 2 rfl<|Cl [4] (Zsm _ _ hx3) e63 rfl<|Ac (Z1g rfl rfl (vt rfl)) rfl<|As rfl<|Nl<|rt ?_
 cases h;exact Z9 Try.results62 rfl (Zg rfl)
def Zag (l1:(List Bucket))(m2:Int):Option Bool:=
 (opt (decide ((l1.length:Int)≤m2)) (Zan l1 Zbi)).bind fun x3=>some ((decide ((l1.length:Int)≤m2))&&(!x3))
theorem Zpz:Q2 Try.prog 29 (rd (Z2 Z03)) (rd (Z0 .i64)) (rd Z5) Zag:=fun l1 m2 r h=>I0 Try.func29 rfl Try.ntmps29 rfl fun w H=>by
 unfold Zag at h
 refine SR<|Ab rfl<|Nl<|sq ?_
 obtain ⟨x3,hx3,h⟩:=Za h
 refine Rg<|Md rfl<|Ac (Z0a rfl rfl Z18 (vt rfl)) rfl<|Md rfl<|Ac (Z66 rfl rfl (vt rfl) (vt rfl)) rfl<|Md rfl<|Gd rfl (fun hq=>Ze (A:=rd (Z2 Z03) l1) rfl rfl (vt rfl))<|Gd rfl (fun hq=>Z0i (xs:=[.tmp 10,.func 62]) (Zq6 _ _ _ (Z1i hx3 hq)) e61 rfl rfl ⟨Z8 rfl hq,vf1 e62 Zkq,trivial⟩)<|Gd rfl (fun hq=>Z1g rfl rfl (Z8 rfl hq))<|Ac (Z0y rfl rfl (vt rfl) (vt rfl)) rfl<|As rfl<|Nl<|rt ?_
 cases h;exact Z9 Try.results29 rfl (Zg rfl)
def Z6q (x1:Group)(x2:Int):Option Bool:=
 (Zag x1.Buckets x2).bind fun x4=>some (!x4)
theorem Zop:Q2 Try.prog 28 (rd Zd) (rp (Z0 .i64)) (rd Z5) Z6q:=fun x1 x2 r h=>I0 Try.func28 rfl Try.ntmps28 rfl fun w H=>by
 unfold Z6q at h
 refine SR<|Cv rfl (Z00 3 rfl rfl (vt rfl)) fun g3=>Ab rfl<|Nl<|sq ?_
 obtain ⟨x4,hx4,h⟩:=Za h
 refine Rg<|Zo lGroup_2 Z2l rfl<|Ld Z2o 3 rfl<|Lp1 Zl rfl<|Cl [5,6] (Zpz _ _ _ hx4) e29 rfl<|Ac (Z1g rfl rfl (vt rfl)) rfl<|As rfl<|Nl<|rt ?_
 cases h;exact Z9 Try.results28 rfl (Zg rfl)
def Z5m (s1:(List Group))(x2:(Group→Option Bool)):Nat→Nat→Option Int
 | 0,i3=>some (-1)
 | m4+1,i3=>(lget s1 (i3:Int)).bind fun x5=>(x2 x5).bind fun x6=>(bif x6 then some (i3:Int) else (Z5m s1 x2 m4) (i3+1))
def Z67 (s1:(List Group))(x2:(Group→Option Bool)):Option Int:=
 Z5m s1 x2 ((s1.length:Int):Int).toNat 0
theorem Zf1:Q2 Try.prog 60 (rd (Z2 Zd)) (fn1 Try.prog Zd Z5) (rd (Z0 .i64)) Z67:=fun s1 x2 r h=>I0 Try.func60 rfl Try.ntmps60 rfl fun w H=>by
 unfold Z67 at h
 refine SR<|Ak rfl<|Nl<|sq<|SR<|Md rfl<|Ac (Z0a rfl rfl Z0f (vt rfl)) rfl<|Mk rfl<|Nl<|bk<|LG (d:=[]) (ν:=Nat×Nat) (fun (m4,i3)=>(Cnt (s1.length:Int) i3 m4∧Z5m s1 x2 m4 i3=some r,m4,[(0,rd (Z2 Zd) s1),(1,fn1 Try.prog Zd Z5 x2),(7,rd (Z0 .i64) (s1.length:Int)),(8,rd (Z0 .i64) (i3:Int))],[])) (((s1.length:Int):Int).toNat,0) ⟨Cnt.start _,h⟩ (FX rfl) ?_
 rintro ⟨m4,i3⟩ ⟨hsf1,h⟩
 dsimp only at hsf1 h ⊢
 cases m4 with
 | zero=>
  unfold Z5m at h
  refine SR<|Ac (Zh rfl rfl (vt rfl) (vt rfl)) rfl<|Nl<|sq<|Cn rfl (fun hc=>absurd (of_decide_eq_true hc) hsf1.zero) (fun hc=>?_)
  refine xt<|SR<|Ak rfl<|Nl<|rt ?_
  cases h;exact Z9 Try.results60 rfl (Zg rfl)
 | succ m4=>
  unfold Z5m at h
  refine SR<|Ac (Zh rfl rfl (vt rfl) (vt rfl)) rfl<|Nl<|sq<|Cn rfl (fun hc=>?_) (fun hc=>absurd hsf1.succ (of_decide_eq_false hc))
  have hlti3:=of_decide_eq_true hc
  refine sk<|sq<|bk<|SR<|Md rfl<|As rfl<|Nl<|sq ?_
  obtain ⟨x5,hx5,x6,hx6,h⟩:=bs2 h
  refine Rg<|Ac (Ze (A:=fn1 Try.prog Zd Z5 x2) rfl rfl (vt rfl)) rfl<|Md rfl<|Md rfl<|Ac (Z0e rfl rfl Z0f (vt rfl) (vt rfl) hx5) rfl<|Lp1 Z1l rfl<|Ac (Z48 hx6 rfl rfl (vt rfl) (vt rfl)) rfl<|Nl<|Cq rfl h (fun h=>?_) (fun h=>?_)
  ·refine SR<|Md rfl<|As rfl<|Nl<|rt ?_
   cases h;exact Z9 Try.results60 rfl (Zg rfl)
  ·refine sk<|Rg<|Ac (Z10 (t:=7) rfl rfl (vt rfl) (vk rfl) (vt rfl) hlti3) rfl<|Md rfl<|Nl ?_
   exact ⟨(_,_),Nat.lt_succ_self _,⟨hsf1.next,h⟩,FX rfl⟩
def Z92 (s1:(List Group))(x2:(Group→Option Bool)):Option Bool:=
 (Z67 s1 x2).bind fun x3=>some (decide (x3≥0))
theorem Zpu:Q2 Try.prog 27 (rd (Z2 Zd)) (fn1 Try.prog Zd Z5) (rd Z5) Z92:=fun s1 x2 r h=>I0 Try.func27 rfl Try.ntmps27 rfl fun w H=>by
 unfold Z92 at h
 refine SR<|Ab rfl<|Nl<|sq ?_
 obtain ⟨x3,hx3,h⟩:=Za h
 refine Rg<|Md rfl<|Ac (Ze (A:=fn1 Try.prog Zd Z5 x2) rfl rfl (vt rfl)) rfl<|Cl [5,6] (Zf1 _ _ _ hx3) e60 rfl<|Ac (Z33 rfl rfl (vt rfl) (vk rfl)) rfl<|As rfl<|Nl<|rt ?_
 cases h;exact Z9 Try.results27 rfl (Zg rfl)
def Zaj (l1:(List Group))(m2:Int)(b3:Int):Option Bool:=
 (opt (decide ((l1.length:Int)≤m2)) (Z92 l1 (fun x=>Z6q x b3))).bind fun x5=>some ((decide ((l1.length:Int)≤m2))&&(!x5))
theorem Zln:Q3 Try.prog 6 (rd (Z2 Zd)) (rd (Z0 .i64)) (rd (Z0 .i64)) (rd Z5) Zaj:=fun l1 m2 b3 r h=>I0 Try.func6 rfl Try.ntmps6 rfl fun w H=>by
 unfold Zaj at h
 refine SR<|Cv rfl (Z00 6 rfl rfl (vt rfl)) fun g4=>Ab rfl<|Nl<|sq<|AW.freezeB 5 6 rfl rfl rfl ?_
 obtain ⟨x5,hx5,h⟩:=Za h
 refine Rg<|Md rfl<|Ac (Z0a rfl rfl Z0f (vt rfl)) rfl<|Md rfl<|Ac (Z66 rfl rfl (vt rfl) (vt rfl)) rfl<|Md rfl<|Gd rfl (fun hq=>Ze (A:=rd (Z2 Zd) l1) rfl rfl (vt rfl))<|Gd rfl (fun hq=>Z3s (cs:=[.tmp 5]) (CAs:=[rp (Z0 .i64) b3]) (fun x=>Z6q x b3) rfl rfl e28 ⟨vt rfl,trivial⟩ (fun x y h=>Zop _ _ y h))<|Gd rfl (fun hq=>Z0i (xs:=[.tmp 12,.tmp 13]) (Zpu _ _ _ (Z1i hx5 hq)) e27 rfl rfl ⟨Z8 rfl hq,Z8 rfl hq,trivial⟩)<|Gd rfl (fun hq=>Z1g rfl rfl (Z8 rfl hq))<|Ac (Z0y rfl rfl (vt rfl) (vt rfl)) rfl<|As rfl<|Nl<|rt ?_
 cases h;exact Z9 Try.results6 rfl (Zg rfl)
end Go.Proofs.Ytknpgojdkobgjaa.W
set_option maxRecDepth 4000
namespace Go.Proofs.Ytknpgojdkobgjaa.W
open Go Go.Wb
theorem e99:Ent Try.prog 99:=Ent.mk Try.func99 rfl rfl
theorem Zs7:Ent Try.prog 100:=Ent.mk Try.func100 rfl rfl
theorem e98:Ent Try.prog 98:=Ent.mk Try.func98 rfl rfl
theorem e64:Ent Try.prog 64:=Ent.mk Try.func64 rfl rfl
theorem e65:Ent Try.prog 65:=Ent.mk Try.func65 rfl rfl
theorem e31:Ent Try.prog 31:=Ent.mk Try.func31 rfl rfl
theorem e32:Ent Try.prog 32:=Ent.mk Try.func32 rfl rfl
theorem e67:Ent Try.prog 67:=Ent.mk Try.func67 rfl rfl
def Z82 (s:List Group):Option (List Group):=Z1j [] s
theorem Zka (s:List Group)(r:List Group)(h:Z82 s=some r):Con Try.prog 99 [rd (Z2 Zd) s] emp (fun v=>Zc v) (fun v=>Zb v 63 Zd r):=by
 refine Con.intro0 Try.func99 rfl Try.ntmps99 rfl fun w H=>?_
 unfold Z82 at h
 refine AW.newnil 1001 63 Zd<|SR<|Ac (Z0d (A:=Zc (.slice none 0 0)) rfl rfl vc) rfl<|Nl<|sq<|SR<|Md rfl<|Ct rfl (Zd9 rfl rfl Z0f (vt rfl)) ?_
 rintro _ ⟨b,hb,rfl⟩
 refine Nl<|Cn rfl (fun hc=>?_) (fun hc=>?_)
 ·obtain rfl:=hb hc
  refine SR<|Ac (Z0d (A:=Zc (.slice none 0 0)) rfl rfl vc) rfl<|Nl<|rt ?_
  obtain rfl:=(Z86 h).2
  exact Z2c (i:=1001) Try.results99 rfl rfl rfl
 ·refine sk<|SR<|Cv rfl (Z81 1002 (ps:=[]) (l:=[]) rfl rfl Z0f Z32 rfl rfl rfl rfl) fun v1=>Md rfl<|Cv rfl (Z3i 1002 h rfl rfl Znb (vt rfl) rfl (vt rfl)) fun v2=>Aw rfl<|Nl<|rt ?_
  exact Z2c (i:=1002) Try.results99 rfl rfl rfl
def Z9b (x1:Group)(x2:Int):Option Bool:=
 some (decide (x1.Kind≠x2))
theorem Zm9:Q2 Try.prog 100 (rd Zd) (rp (Z0 .i64)) (rd Z5) Z9b:=fun x1 x2 r h=>I0 Try.func100 rfl Try.ntmps100 rfl fun w H=>by
 unfold Z9b at h
 refine SR<|Cv rfl (Z00 3 rfl rfl (vt rfl)) fun g3=>Ab rfl<|Nl<|SR<|Zo lGroup_1 Zdd rfl<|Ld Zl 3 rfl<|Lp1 Zl rfl<|Ac (Z1x rfl rfl (vt rfl) (vt rfl)) rfl<|As rfl<|Nl<|rt ?_
 cases h;exact Z9 Try.results100 rfl (Zg rfl)
def Z63 (d3:(Group→Option Bool)):Nat→(List Group)→Int→Int→Option (List Group)
 | 0,_,_,_=>none
 | m11+1,l8,i9,j10=>(bif (decide (j10<(l8.length:Int))) then (lget l8 j10).bind fun x12=>(d3 x12).bind fun x14=>(bif (!x14) then (lget l8 i9).bind fun x15=>(Z63 d3 m11) (List.set l8 i9.toNat x12) (IntKind.i64.wrap (i9+1)) (IntKind.i64.wrap (j10+1)) else (Z63 d3 m11) l8 i9 (IntKind.i64.wrap (j10+1))) else (Z2m l8 i9).bind fun s16=>(Z3y (List.take i9.toNat l8++List.replicate (l8.length - i9.toNat) Z8u) i9).bind fun s17=>some s17)
def Zae (s1:(List Group))(d3:(Group→Option Bool)):Option (List Group):=
 (Z67 s1 d3).bind fun x4=>(bif (decide (x4=(-1))) then some s1 else Z63 d3 ((((s1.length:Int):Int) - (IntKind.i64.wrap (x4+1))).toNat+1) s1 x4 (IntKind.i64.wrap (x4+1)))
theorem Zpa (v2:Value)(s1:(List Group))(d3:(Group→Option Bool))(r:(List Group))(h:Zae s1 d3=some r):Con Try.prog 98 [Zc v2,fn1 Try.prog Zd Z5 d3] (Zb v2 63 Zd s1) (fun v=>Zc v) (fun v=>Zb v 63 Zd r):=by
 refine Con.intro Try.func98 rfl Try.ntmps98 rfl fun w H X=>?_
 unfold Zae at h
 refine sq<|AW.newnil 1001 63 Zd<|Rg<|Ac (Z0d rfl rfl vc) rfl<|Nl<|sq ?_
 obtain ⟨x4,hx4,h⟩:=Za h
 refine Rg<|Mw rfl<|Ac (Ze (A:=fn1 Try.prog Zd Z5 d3) rfl rfl (vt rfl)) rfl<|Ac (Zbm (xs:=[.tmp 8,.tmp 9]) 0 (Zf1 _ _ _ hx4) e60 rfl rfl ⟨vL rfl rfl,vB (vt rfl),trivial⟩) rfl<|As rfl<|Nl<|sq<|SR<|Md rfl<|Ac (Z0l rfl rfl (vt rfl) (vk rfl)) rfl<|Nl<|Cq rfl h (fun h=>?_) (fun h=>?_)
 ·refine SR<|Mw rfl<|Aw rfl<|Nl<|rt ?_
  cases h;exact Z2c (i:=0) Try.results98 rfl rfl rfl
 ·refine sk<|sq<|SR<|Md rfl<|Ac (Zx rfl rfl (vt rfl) (vk rfl)) rfl<|As rfl<|Nl<|bk<|LG (d:=[]) (ν:=Nat×(List Group)×Int×Int) (fun (m11,l8,i9,j10)=>(True∧Z63 d3 m11 l8 i9 j10=some r,m11,[(0,Zc v2),(1,fn1 Try.prog Zd Z5 d3),(5,rd (Z0 .i64) i9),(6,rd (Z0 .i64) j10)],[(0,Zb v2 63 Zd l8)])) (((((s1.length:Int):Int) - (IntKind.i64.wrap (x4+1))).toNat+1),s1,x4,(IntKind.i64.wrap (x4+1))) ⟨trivial,h⟩ (FX rfl) ?_
  rintro ⟨m11,l8,i9,j10⟩ ⟨hsf1,h⟩
  dsimp only at h ⊢
  cases m11 with
  | zero=>cases h
  | succ m11=>
   unfold Z63 at h
   refine sq<|SR<|Md rfl<|Mw rfl<|Ac (Z6s 0 rfl rfl Z0f (vt rfl) rfl) rfl<|Ac (Zh rfl rfl (vt rfl) (vt rfl)) rfl<|Nl<|Cq rfl h (fun h=>?_) (fun h=>?_)
   ·refine sk<|sq<|bk<|sq ?_
    obtain ⟨x12,hx12,h⟩:=Za h
    refine Rg<|Mw rfl<|Md rfl<|Ac (Z1f 0 rfl rfl Z0f (vt rfl) rfl (vt rfl) hx12) rfl<|Ac (Z1a 0 rfl rfl Z1l (vt rfl) rfl (Z08 hx12).2) rfl<|Cv rfl (Z05 8 rfl rfl Z32) fun g13=>Zs Z1l 8 rfl<|Nl<|sq ?_
    obtain ⟨x14,hx14,h⟩:=Za h
    refine Rg<|Ac (Ze (A:=fn1 Try.prog Zd Z5 d3) rfl rfl (vt rfl)) rfl<|Ld Z1l 8 rfl<|Ac (Z48 hx14 rfl rfl (vt rfl) (vt rfl)) rfl<|Ac (Z1g rfl rfl (vt rfl)) rfl<|Nl<|Cq rfl h (fun h=>?_) (fun h=>?_)
    ·refine sq ?_
     obtain ⟨x15,hx15,h⟩:=Za h
     refine Rg<|Mw rfl<|Md rfl<|Ld Z1l 8 rfl<|Ac (Z1f 0 rfl rfl Z0f (vt rfl) rfl (vt rfl) hx15) rfl<|Ac (Z25 0 rfl rfl Z1l (vt rfl) rfl (Z08 hx15).2 (vt rfl)) rfl<|Nl<|Rg<|Md rfl<|Ac (Zx rfl rfl (vt rfl) (vk rfl)) rfl<|As rfl<|Nl<|Rg<|Md rfl<|Ac (Zx rfl rfl (vt rfl) (vk rfl)) rfl<|As rfl<|Nl ?_
     exact ⟨(_,_,_,_),Nat.lt_succ_self _,⟨trivial,h⟩,FX rfl⟩
    ·refine sk<|Rg<|Md rfl<|Ac (Zx rfl rfl (vt rfl) (vk rfl)) rfl<|As rfl<|Nl ?_
     exact ⟨(_,_,_,_),Nat.lt_succ_self _,⟨trivial,h⟩,FX rfl⟩
   ·refine xt<|sq ?_
    obtain ⟨s16,hs16,h⟩:=Za h
    refine Rg<|Mw rfl<|Md rfl<|Ac (Zdp 0 hs16 rfl rfl Z0f (vt rfl) rfl (vt rfl)) rfl<|Ac (Zec 0 rfl rfl Z0f Z32 rfl (vt rfl) rfl (Zaq hs16).2.1) rfl<|Nl<|sq ?_
    obtain ⟨s17,hs17,h⟩:=Za h
    refine Rg<|Mw rfl<|Md rfl<|Cv rfl (Zdi 0 hs17 rfl rfl Z0f (vt rfl) rfl (vt rfl)) fun v18=>Aw rfl<|Nl<|rt ?_
    cases h;exact Z2c (i:=0) Try.results98 rfl rfl rfl
def Z72 (l1:(List Group))(k2:Int):Option (List Group):=
 (Z82 l1).bind fun x4=>(Zae x4 (fun x=>Z9b x k2)).bind fun x6=>some x6
theorem Zjf:Q2 Try.prog 64 (rd (Z2 Zd)) (rd (Z0 .i64)) (rd (Z2 Zd)) Z72:=fun l1 k2 r h=>I0 Try.func64 rfl Try.ntmps64 rfl fun w H=>by
 unfold Z72 at h
 refine SR<|Cv rfl (Z00 4 rfl rfl (vt rfl)) fun g3=>Ac (Z0d (A:=rd (Z2 Zd) []) rfl rfl Z1n) rfl<|Nl<|sq<|AW.freezeB 3 4 rfl rfl rfl ?_
 obtain ⟨x4,hx4,x6,hx6,h⟩:=bs2 h
 refine Rg<|Md rfl<|Cv rfl (Z13 1001 (xs:=[.tmp 5]) (Zka _ _ hx4) e99 rfl rfl ⟨vt rfl,trivial⟩ rfl) fun v5=>Ac (Z3s (cs:=[.tmp 3]) (CAs:=[rp (Z0 .i64) k2]) (fun x=>Z9b x k2) rfl rfl Zs7 ⟨vt rfl,trivial⟩ (fun x y h=>Zm9 _ _ y h)) rfl<|Cv rfl (Z13 1001 (xs:=[.tmp 6,.tmp 7]) (Zpa _ _ _ _ hx6) e98 rfl rfl ⟨vt rfl,vt rfl,trivial⟩ rfl) fun v7=>Aw rfl<|Nl<|AW.freezes [4,8] 1001 rfl ⟨rfl,rfl,trivial⟩ rfl<|rt ?_
 cases h;exact Z9 Try.results64 rfl (Zg rfl)
def Z39:(List Bool)→Nat→(List Int)→Option (List Int)
 | [],i12,l10=>some l10
 | x14::l13,i12,l10=>(bif ((decide ((i12:Int)>0))&&x14) then (Z1j l10 [(i12:Int)]).bind fun l15=>(Z39 l13) (i12+1) l15 else (Z39 l13) (i12+1) l10)
def Z4j (go1:Nat→Za2→Option (List Int))(i6:Nat):(List Bucket)→Nat→Za2→Option (List Int)
 | [],i21,b20=>go1 (i6+1) b20
 | x23::l22,i21,b20=>(Z2j (Z1c (Z1u x23.Watch 7) 0) 7).bind fun q25=>(chk 7 q25).bind fun j26=>(Z4j go1 i6 l22) (i21+1) (Vector.set b20 j26.1 true j26.2)
def Z41:(List Group)→Nat→Za2→Option (List Int)
 | [],i6,b5=>Z39 (Vector.toList b5) 0 []
 | x17::l7,i6,b5=>Z4j (Z41 l7) i6 x17.Buckets 0 b5
def Z4r (l1:(List Group)):Option (List Int):=
 (Z72 l1 3).bind fun x3=>Z41 x3 0 (Vector.replicate 7 false)
theorem Zi5 (l1:(List Group))(r:(List Int))(h:Z4r l1=some r):Con Try.prog 31 [rd (Z2 Zd) l1] emp (fun v=>Zc v) (fun v=>Zb v 3 (Z0 .i64) r):=by
 refine Con.intro0 Try.func31 rfl Try.ntmps31 rfl fun w H=>?_
 unfold Z4r at h
 refine sq<|AW.newnil 1001 3 (Z0 .i64)<|Rg<|Ac (Z0d rfl rfl vc) rfl<|Nl<|SR<|Cv rfl (Z05 4 rfl rfl Zrm) fun g2=>Nl<|sq<|sq ?_
 obtain ⟨x3,hx3,h⟩:=Za h
 refine Rg<|Md rfl<|Ac (Z0i (xs:=[.tmp 11,.const (Value.int IntKind.i64 3)]) (Zjf _ _ _ hx3) e64 rfl rfl ⟨vt rfl,vk rfl,trivial⟩) rfl<|Ac (Z0a rfl rfl Z0f (vt rfl)) rfl<|Mk rfl<|Nl<|bk<|LG (d:=[]) (ν:=(List Group)×Nat×Za2) (fun (l7,i6,b5)=>(Sfx x3 i6 l7∧Z41 l7 i6 b5=some r,l7.length,[(3,Zp g2 (Lens.id (Zm 7 Z5))),(12,rd (Z2 Zd) x3),(13,rd (Z0 .i64) (x3.length:Int)),(14,rd (Z0 .i64) (i6:Int))],[(4,Blk g2 122 (Zm 7 Z5) b5)])) (x3,0,(Vector.replicate 7 false)) ⟨Sfx.start _,h⟩ (FX rfl) ?_
 rintro ⟨l7,i6,b5⟩ ⟨hsf1,h⟩
 dsimp only at hsf1 h ⊢
 cases l7 with
 | nil=>
  unfold Z41 at h
  refine SR<|Ac (Zh rfl rfl (vt rfl) (vt rfl)) rfl<|Nl<|sq<|Cn rfl (fun hc=>absurd (of_decide_eq_true hc) hsf1.nil) (fun hc=>?_)
  refine xt<|sq<|AW.newnil 1002 3 (Z0 .i64)<|Rg<|Ac (Z0d rfl rfl vc) rfl<|Nl<|sq<|SR<|Ld Zqu 4 rfl<|Mk rfl<|Nl<|bk<|LG (d:=[]) (ν:=(List Bool)×Nat×(List Int)×Value) (fun (l13,i12,l10,v11)=>(Sfx (Vector.toList b5) i12 l13∧Z39 l13 i12 l10=some r,l13.length,[(8,Zc v11),(33,rd (Zm 7 Z5) b5),(34,rd (Z0 .i64) (i12:Int))],[(1002,Zb v11 3 (Z0 .i64) l10)])) ((Vector.toList b5),0,[],(.slice none 0 0)) ⟨Sfx.start _,h⟩ (FX rfl) ?_
  rintro ⟨l13,i12,l10,v11⟩ ⟨hsf2,h⟩
  dsimp only at hsf2 h ⊢
  cases l13 with
  | nil=>
   unfold Z39 at h
   refine SR<|Ac (Zh rfl rfl (vt rfl) (vk rfl)) rfl<|Nl<|sq<|Cn rfl (fun hc=>absurd (of_decide_eq_true hc) (hsf2.niln (by simp))) (fun hc=>?_)
   refine xt<|SR<|Mw rfl<|Aw rfl<|Nl<|rt ?_
   cases h;exact Z2c (i:=1002) Try.results31 rfl rfl rfl
  | cons x14 l13=>
   unfold Z39 at h
   refine SR<|Ac (Zh rfl rfl (vt rfl) (vk rfl)) rfl<|Nl<|sq<|Cn rfl (fun hc=>?_) (fun hc=>absurd (hsf2.consn (by simp)) (of_decide_eq_false hc))
   have hlti12:=of_decide_eq_true hc
   refine sk<|sq<|bk<|SR<|Md rfl<|Ac (Zeu rfl rfl Zgw ty4 (vt rfl) (vt rfl) hsf2.lget) rfl<|As rfl<|As rfl<|Nl<|SR<|Md rfl<|Ac (Z2a rfl rfl (vt rfl) (vk rfl)) rfl<|Md rfl<|Gd rfl (fun hq=>Ze (A:=rd Z5 x14) rfl rfl (vt rfl))<|Ac (Z0y rfl rfl (vt rfl) (vt rfl)) rfl<|Nl<|Cq rfl h (fun h=>?_) (fun h=>?_)
   ·obtain ⟨l15,hl15,h⟩:=Za h
    refine Rg<|Mw rfl<|Md rfl<|Ac (osl Z06 zr3 rfl (vt rfl)) rfl<|Cv rfl (Z3i 1002 hl15 rfl rfl Z7g (vt rfl) rfl (vt rfl)) fun v16=>Aw rfl<|Nl<|Rg<|Ac (Zb3 rfl rfl (vt rfl) (vk rfl) rfl hlti12) rfl<|Md rfl<|Nl ?_
    exact ⟨(_,_,_,_),Nat.lt_succ_self _,⟨hsf2.next,h⟩,FX rfl⟩
   ·refine sk<|Rg<|Ac (Zb3 rfl rfl (vt rfl) (vk rfl) rfl hlti12) rfl<|Md rfl<|Nl ?_
    exact ⟨(_,_,_,_),Nat.lt_succ_self _,⟨hsf2.next,h⟩,FX rfl⟩
 | cons x17 l7=>
  unfold Z41 at h
  refine SR<|Ac (Zh rfl rfl (vt rfl) (vt rfl)) rfl<|Nl<|sq<|Cn rfl (fun hc=>?_) (fun hc=>absurd hsf1.cons (of_decide_eq_false hc))
  have hlti6:=of_decide_eq_true hc
  refine sk<|sq<|bk<|SR<|Ac (Z0e rfl rfl Z0f (vt rfl) (vt rfl) hsf1.lget) rfl<|Lp1 Z1l rfl<|Cv rfl (Z05 6 rfl rfl Z32) fun g18=>Zs Z1l 6 rfl<|Nl<|SR<|Zo lGroup_2 Z2l rfl<|Ld Z2o 6 rfl<|Ac (Z0a rfl rfl Z18 (vt rfl)) rfl<|Mk rfl<|Nl<|bk<|LG (d:=[]) (ν:=(List Bucket)×Nat×Za2) (fun (l22,i21,b20)=>(Sfx x17.Buckets i21 l22∧Z4j (Z41 l7) i6 l22 i21 b20=some r,l22.length,[(3,Zp g2 (Lens.id (Zm 7 Z5))),(12,rd (Z2 Zd) x3),(13,rd (Z0 .i64) (x3.length:Int)),(14,rd (Z0 .i64) (i6:Int)),(19,rd (Z2 Z03) x17.Buckets),(20,rd (Z0 .i64) (x17.Buckets.length:Int)),(21,rd (Z0 .i64) (i21:Int))],[(4,Blk g2 122 (Zm 7 Z5) b20)])) (x17.Buckets,0,b5) ⟨Sfx.start _,h⟩ (FX rfl) ?_
  rintro ⟨l22,i21,b20⟩ ⟨hsf3,h⟩
  dsimp only at hsf3 h ⊢
  cases l22 with
  | nil=>
   unfold Z4j at h
   refine SR<|Ac (Zh rfl rfl (vt rfl) (vt rfl)) rfl<|Nl<|sq<|Cn rfl (fun hc=>absurd (of_decide_eq_true hc) hsf3.nil) (fun hc=>?_)
   refine xt<|Rg<|Ac (Z10 (t:=13) rfl rfl (vt rfl) (vk rfl) (vt rfl) hlti6) rfl<|Md rfl<|Nl ?_
   exact ⟨(_,_,_),Nat.lt_succ_self _,⟨hsf1.next,h⟩,FX rfl⟩
  | cons x23 l22=>
   unfold Z4j at h
   refine SR<|Ac (Zh rfl rfl (vt rfl) (vt rfl)) rfl<|Nl<|sq<|Cn rfl (fun hc=>?_) (fun hc=>absurd hsf3.cons (of_decide_eq_false hc))
   have hlti21:=of_decide_eq_true hc
   refine sk<|sq<|bk<|SR<|Ac (Z0e rfl rfl Z18 (vt rfl) (vt rfl) hsf3.lget) rfl<|Lp1 Zbh rfl<|Cv rfl (Z05 8 rfl rfl Z5p) fun g24=>Zs Zbh 8 rfl<|Nl ?_
   obtain ⟨q25,hq25,j26,hj26,h⟩:=bs2 h
   refine Rg<|Zo lBucket_1 Z91 rfl<|Ld Zl 8 rfl<|Ac (Zil rfl rfl (vt rfl) (vk rfl)) rfl<|Ac (Ze7 rfl rfl (vt rfl) (vk rfl)) rfl<|Ac (Zb6 rfl rfl (vt rfl) (vk rfl) hq25) rfl<|Ac (Z3u rfl rfl Zgw (vt rfl) (vt rfl) hj26) rfl<|Ac (Zcg rfl rfl ty4 (vt rfl) (i:=4) rfl vb) rfl<|Nl<|Rg<|Ac (Z10 (t:=20) rfl rfl (vt rfl) (vk rfl) (vt rfl) hlti21) rfl<|Md rfl<|Nl ?_
   exact ⟨(_,_,_),Nat.lt_succ_self _,⟨hsf3.next,h⟩,FX rfl⟩
theorem Zgm (l1:(List Group))(r:(List Int))(h:Z4r l1=some r):PCon Try.prog 31 [rd (Z2 Zd) l1] (rd (Z2 (Z0 .i64)) r):=PCon.of_row (Zi5 l1 r h)
def Z6z:Nat→Int→Int→Option Int
 | 0,_,_=>none
 | m7+1,a5,b6=>(bif (decide (b6>0)) then (Z2j a5 b6).bind fun q8=>(Z6z m7) b6 q8 else some a5)
def Zaf (a1:Int)(b2:Int):Option Int:=
 Z6z (((b2:Int) - 0).toNat+1) a1 b2
theorem Zlr:Q2 Try.prog 65 (rd (Z0 .i64)) (rd (Z0 .i64)) (rd (Z0 .i64)) Zaf:=fun a1 b2 r h=>I0 Try.func65 rfl Try.ntmps65 rfl fun w H=>by
 unfold Zaf at h
 refine SR<|Ak rfl<|Nl<|sq<|bk<|LG (d:=[]) (ν:=Nat×Int×Int) (fun (m7,a5,b6)=>(True∧Z6z m7 a5 b6=some r,m7,[(0,rd (Z0 .i64) a5),(1,rd (Z0 .i64) b6)],[])) ((((b2:Int) - 0).toNat+1),a1,b2) ⟨trivial,h⟩ (FX rfl) ?_
 rintro ⟨m7,a5,b6⟩ ⟨hsf1,h⟩
 dsimp only at h ⊢
 cases m7 with
 | zero=>cases h
 | succ m7=>
  unfold Z6z at h
  refine sq<|SR<|Md rfl<|Ac (Z2a rfl rfl (vt rfl) (vk rfl)) rfl<|Nl<|Cq rfl h (fun h=>?_) (fun h=>?_)
  ·refine sk<|bk ?_
   obtain ⟨q8,hq8,h⟩:=Za h
   refine AR Z0n (by kernel_rfl)<|Zt rfl<|Zt rfl<|Zt rfl<|Sd (lo [8,9] [] rfl fun S hs hr=>Zb6 rfl rfl (vh hs 8 rfl rfl) (vh hs 9 rfl rfl) hq8)<|SAs rfl<|SAs rfl<|Sn ?_
   exact ⟨(_,_,_),Nat.lt_succ_self _,⟨trivial,h⟩,FX rfl⟩
  ·refine xt<|SR<|Md rfl<|As rfl<|Nl<|rt ?_
   cases h;exact Z9 Try.results65 rfl (Zg rfl)
def Z3v:(List Group)→Nat→Int→Option Int
 | [],i5,n4=>some n4
 | x7::l6,i5,n4=>(bif ((decide ((x7.Buckets.length:Int)≥1))&&(decide ((x7.Buckets.length:Int)≤4))) then (Zaf n4 (x7.Buckets.length:Int)).bind fun x9=>(Z3t .i64 n4 x9).bind fun q10=>(Z3v l6) (i5+1) (IntKind.i64.wrap (q10*(x7.Buckets.length:Int))) else (Z3v l6) (i5+1) n4)
def Z6f (l1:(List Group)):Option Int:=
 (Z72 l1 1).bind fun x2=>Z3v x2 0 1
theorem Zd3:Q1 Try.prog 32 (rd (Z2 Zd)) (rd (Z0 .i64)) Z6f:=fun l1 r h=>I0 Try.func32 rfl Try.ntmps32 rfl fun w H=>by
 unfold Z6f at h
 refine SR<|Ak rfl<|Nl<|SR<|Ak rfl<|Nl<|sq<|sq ?_
 obtain ⟨x2,hx2,h⟩:=Za h
 refine Rg<|Md rfl<|Ac (Z0i (xs:=[.tmp 7,.const (Value.int IntKind.i64 1)]) (Zjf _ _ _ hx2) e64 rfl rfl ⟨vt rfl,vk rfl,trivial⟩) rfl<|Ac (Z0a rfl rfl Z0f (vt rfl)) rfl<|Mk rfl<|Nl<|bk<|LG (d:=[]) (ν:=(List Group)×Nat×Int) (fun (l6,i5,n4)=>(Sfx x2 i5 l6∧Z3v l6 i5 n4=some r,l6.length,[(3,rd (Z0 .i64) n4),(8,rd (Z2 Zd) x2),(9,rd (Z0 .i64) (x2.length:Int)),(10,rd (Z0 .i64) (i5:Int))],[])) (x2,0,1) ⟨Sfx.start _,h⟩ (FX rfl) ?_
 rintro ⟨l6,i5,n4⟩ ⟨hsf1,h⟩
 dsimp only at hsf1 h ⊢
 cases l6 with
 | nil=>
  unfold Z3v at h
  refine SR<|Ac (Zh rfl rfl (vt rfl) (vt rfl)) rfl<|Nl<|sq<|Cn rfl (fun hc=>absurd (of_decide_eq_true hc) hsf1.nil) (fun hc=>?_)
  refine xt<|SR<|Md rfl<|As rfl<|Nl<|rt ?_
  cases h;exact Z9 Try.results32 rfl (Zg rfl)
 | cons x7 l6=>
  unfold Z3v at h
  refine SR<|Ac (Zh rfl rfl (vt rfl) (vt rfl)) rfl<|Nl<|sq<|Cn rfl (fun hc=>?_) (fun hc=>absurd hsf1.cons (of_decide_eq_false hc))
  have hlti5:=of_decide_eq_true hc
  refine sk<|sq<|bk<|SR<|Ac (Z0e rfl rfl Z0f (vt rfl) (vt rfl) hsf1.lget) rfl<|Lp1 Z1l rfl<|Cv rfl (Z05 6 rfl rfl Z32) fun g8=>Zs Z1l 6 rfl<|Nl<|SR<|Zo lGroup_2 Z2l rfl<|Ld Z2o 6 rfl<|Ac (Z0a rfl rfl Z18 (vt rfl)) rfl<|As rfl<|Nl<|SR<|Md rfl<|Ac (Z33 rfl rfl (vt rfl) (vk rfl)) rfl<|Md rfl<|Gd rfl (fun hq=>Ze (A:=rd (Z0 .i64) (x7.Buckets.length:Int)) rfl rfl (vt rfl))<|Gd rfl (fun hq=>Z66 rfl rfl (Z8 rfl hq) (vk rfl))<|Ac (Z0y rfl rfl (vt rfl) (vt rfl)) rfl<|Nl<|Cq rfl h (fun h=>?_) (fun h=>?_)
  ·obtain ⟨x9,hx9,q10,hq10,h⟩:=bs2 h
   refine Rg<|Md rfl<|Md rfl<|Md rfl<|Cl [24,25] (Zlr _ _ _ hx9) e65 rfl<|Ac (Zh1 rfl rfl (vt rfl) (vt rfl) hq10) rfl<|Md rfl<|Ac (Z99 rfl rfl (vt rfl) (vt rfl)) rfl<|As rfl<|Nl<|Rg<|Ac (Z10 (t:=9) rfl rfl (vt rfl) (vk rfl) (vt rfl) hlti5) rfl<|Md rfl<|Nl ?_
   exact ⟨(_,_,_),Nat.lt_succ_self _,⟨hsf1.next,h⟩,FX rfl⟩
  ·refine sk<|Rg<|Ac (Z10 (t:=9) rfl rfl (vt rfl) (vk rfl) (vt rfl) hlti5) rfl<|Md rfl<|Nl ?_
   exact ⟨(_,_,_),Nat.lt_succ_self _,⟨hsf1.next,h⟩,FX rfl⟩
def Z3o (n2:Int):(List Int)→Nat→(List Int)→Option (List Int)
 | [],i7,l5=>some l5
 | x9::l8,i7,l5=>(Z6v .i64 n2 (i7:Int)).bind fun q10=>(bif (decide ((Zei .and .i64 q10 1)=1)) then (Z1j l5 [x9]).bind fun l11=>(Z3o n2 l8) (i7+1) l11 else (Z3o n2 l8) (i7+1) l5)
def Z90 (p1:(List Int))(n2:Int):Option (List Int):=
 Z3o n2 p1 0 []
theorem Zq3:Q2 Try.prog 67 (rd (Z2 (Z0 .i64))) (rd (Z0 .i64)) (rd (Z2 (Z0 .i64))) Z90:=fun p1 n2 r h=>I0 Try.func67 rfl Try.ntmps67 rfl fun w H=>by
 unfold Z90 at h
 refine SR<|Ac (Z0d (A:=rd (Z2 (Z0 .i64)) []) rfl rfl Z1n) rfl<|Nl<|sq<|AW.newnil 1001 3 (Z0 .i64)<|Rg<|Ac (Z0d rfl rfl vc) rfl<|Nl<|sq<|SR<|Md rfl<|Ac (Z0a rfl rfl Z06 (vt rfl)) rfl<|Mk rfl<|Nl<|bk<|LG (d:=[]) (ν:=(List Int)×Nat×(List Int)×Value) (fun (l8,i7,l5,v6)=>(Sfx p1 i7 l8∧Z3o n2 l8 i7 l5=some r,l8.length,[(1,rd (Z0 .i64) n2),(5,Zc v6),(8,rd (Z2 (Z0 .i64)) p1),(9,rd (Z0 .i64) (p1.length:Int)),(10,rd (Z0 .i64) (i7:Int))],[(1001,Zb v6 3 (Z0 .i64) l5)])) (p1,0,[],(.slice none 0 0)) ⟨Sfx.start _,h⟩ (FX rfl) ?_
 rintro ⟨l8,i7,l5,v6⟩ ⟨hsf1,h⟩
 dsimp only at hsf1 h ⊢
 cases l8 with
 | nil=>
  unfold Z3o at h
  refine SR<|Ac (Zh rfl rfl (vt rfl) (vt rfl)) rfl<|Nl<|sq<|Cn rfl (fun hc=>absurd (of_decide_eq_true hc) hsf1.nil) (fun hc=>?_)
  refine xt<|SR<|Mw rfl<|Aw rfl<|Nl<|AW.freezes [4,5,25] 1001 rfl ⟨rfl,rfl,rfl,trivial⟩ rfl<|rt ?_
  cases h;exact Z9 Try.results67 rfl (Zg rfl)
 | cons x9 l8=>
  unfold Z3o at h
  refine SR<|Ac (Zh rfl rfl (vt rfl) (vt rfl)) rfl<|Nl<|sq<|Cn rfl (fun hc=>?_) (fun hc=>absurd hsf1.cons (of_decide_eq_false hc))
  have hlti7:=of_decide_eq_true hc
  refine sk<|sq<|bk<|SR<|Md rfl<|Ac (Z0e rfl rfl Z06 (vt rfl) (vt rfl) hsf1.lget) rfl<|Lp1 Zl rfl<|As rfl<|As rfl<|Nl<|sq ?_
  obtain ⟨q10,hq10,h⟩:=Za h
  refine Rg<|Md rfl<|Md rfl<|Ac (Zp3 rfl rfl (vt rfl) (vt rfl) hq10) rfl<|Ac (Zps rfl rfl (vt rfl) (vk rfl)) rfl<|Ac (Z0l rfl rfl (vt rfl) (vk rfl)) rfl<|Nl<|Cq rfl h (fun h=>?_) (fun h=>?_)
  ·obtain ⟨l11,hl11,h⟩:=Za h
   refine Rg<|Mw rfl<|Md rfl<|Ac (osl Z06 zr3 rfl (vt rfl)) rfl<|Cv rfl (Z3i 1001 hl11 rfl rfl Z7g (vt rfl) rfl (vt rfl)) fun v12=>Aw rfl<|Nl<|Rg<|Ac (Z10 (t:=9) rfl rfl (vt rfl) (vk rfl) (vt rfl) hlti7) rfl<|Md rfl<|Nl ?_
   exact ⟨(_,_,_,_),Nat.lt_succ_self _,⟨hsf1.next,h⟩,FX rfl⟩
  ·refine sk<|Rg<|Ac (Z10 (t:=9) rfl rfl (vt rfl) (vk rfl) (vt rfl) hlti7) rfl<|Md rfl<|Nl ?_
   exact ⟨(_,_,_,_),Nat.lt_succ_self _,⟨hsf1.next,h⟩,FX rfl⟩
def Z49 (sg:Type)(go1:Nat→(Lp sg)→Option (Lp sg))(i8:Nat)(x4:(List Int))(y1:(sg→Env→Option (Lp sg))):Nat→Nat→(Lp sg)→Option (Lp sg)
 | 0,i13,s12=>go1 (i8+1) s12
 | m14+1,i13,s12=>(Z90 x4 (i13:Int)).bind fun x15=>(yc y1 s12 (⟨(i8:Int),x15⟩:Env)).bind fun s16=>(bif (!(Lp.isGo s16)) then some s16 else (Z49 sg go1 i8 x4 y1 m14) (i13+1) s16)
def Z3h (sg:Type)(x4:(List Int))(y1:(sg→Env→Option (Lp sg))):Nat→Nat→(Lp sg)→Option (Lp sg)
 | 0,i8,s7=>some s7
 | m9+1,i8,s7=>(Z7s .i64 1 (x4.length:Int)).bind fun q10=>Z49 sg (Z3h sg x4 y1 m9) i8 x4 y1 (q10:Int).toNat 0 s7
def Z4q (sg:Type)(y1:(sg→Env→Option (Lp sg)))(s2:(Lp sg))(x3:(List Group)):Option (Lp sg):=
 (Z4r x3).bind fun x4=>(Z6f x3).bind fun x5=>Z3h sg x4 y1 (x5:Int).toNat 0 s2
theorem Zpd (sg:Type)(y1:(sg→Env→Option (Lp sg)))(L:Lp sg→Zf)(s2:(Lp sg))(x3:(List Group))(r:(Lp sg))(h:Z4q sg y1 s2 x3=some r):Con Try.prog 66 [ydA Try.prog Zn y1 L,rp (Z2 Zd) x3] (L s2) (fun _:Unit=>top) (fun _=>L r):=by
 refine Con.intro Try.func66 rfl Try.ntmps66 rfl fun w H X=>?_
 unfold Z4q at h
 refine AW.scope<|sq ?_
 obtain ⟨x4,hx4,h⟩:=Za h
 refine Rg<|Lp1 Zca rfl<|Cl [6] (Zgm _ _ hx4) e31 rfl<|As rfl<|Nl<|sq<|AW.label<|sq ?_
 obtain ⟨x5,hx5,h⟩:=Za h
 refine Rg<|Lp1 Zca rfl<|Cl [8] (Zd3 _ _ hx5) e32 rfl<|Mk rfl<|Nl<|bk<|LG (d:=[]) (ν:=Nat×Nat×(Lp sg)) (fun (m9,i8,s7)=>(Cnt x5 i8 m9∧Z3h sg x4 y1 m9 i8 s7=some r,m9,[(0,ydA Try.prog Zn y1 L),(3,rd (Z2 (Z0 .i64)) x4),(9,rd (Z0 .i64) x5),(10,rd (Z0 .i64) (i8:Int))],[(0,L s7)])) ((x5:Int).toNat,0,s2) ⟨Cnt.start _,h⟩ (FX rfl) ?_
 rintro ⟨m9,i8,s7⟩ ⟨hsf1,h⟩
 dsimp only at hsf1 h ⊢
 cases m9 with
 | zero=>
  unfold Z3h at h
  refine SR<|Ac (Zh rfl rfl (vt rfl) (vt rfl)) rfl<|Nl<|sq<|Cn rfl (fun hc=>absurd (of_decide_eq_true hc) hsf1.zero) (fun hc=>?_)
  refine xt ?_
  cases h;exact Z2g (i:=0) Try.results66 rfl rfl
 | succ m9=>
  unfold Z3h at h
  refine SR<|Ac (Zh rfl rfl (vt rfl) (vt rfl)) rfl<|Nl<|sq<|Cn rfl (fun hc=>?_) (fun hc=>absurd hsf1.succ (of_decide_eq_false hc))
  have hlti8:=of_decide_eq_true hc
  refine sk<|sq<|bk<|SR<|Md rfl<|As rfl<|Nl<|sq ?_
  obtain ⟨q10,hq10,h⟩:=Za h
  refine Rg<|Md rfl<|Ac (Z0a rfl rfl Z06 (vt rfl)) rfl<|Ac (Ztu rfl rfl (vk rfl) (vt rfl) hq10) rfl<|Mk rfl<|Nl<|bk<|LG (d:=[]) (ν:=Nat×Nat×(Lp sg)) (fun (m14,i13,s12)=>(Cnt q10 i13 m14∧Z49 sg (Z3h sg x4 y1 m9) i8 x4 y1 m14 i13 s12=some r,m14,[(0,ydA Try.prog Zn y1 L),(3,rd (Z2 (Z0 .i64)) x4),(4,rd (Z0 .i64) (i8:Int)),(9,rd (Z0 .i64) x5),(10,rd (Z0 .i64) (i8:Int)),(15,rd (Z0 .i64) q10),(16,rd (Z0 .i64) (i13:Int))],[(0,L s12)])) ((q10:Int).toNat,0,s7) ⟨Cnt.start _,h⟩ (FX rfl) ?_
  rintro ⟨m14,i13,s12⟩ ⟨hsf2,h⟩
  dsimp only at hsf2 h ⊢
  cases m14 with
  | zero=>
   unfold Z49 at h
   refine SR<|Ac (Zh rfl rfl (vt rfl) (vt rfl)) rfl<|Nl<|sq<|Cn rfl (fun hc=>absurd (of_decide_eq_true hc) hsf2.zero) (fun hc=>?_)
   refine xt<|Rg<|Ac (Z10 (t:=9) rfl rfl (vt rfl) (vk rfl) (vt rfl) hlti8) rfl<|Md rfl<|Nl ?_
   exact ⟨(_,_,_),Nat.lt_succ_self _,⟨hsf1.next,h⟩,FX rfl⟩
  | succ m14=>
   unfold Z49 at h
   refine SR<|Ac (Zh rfl rfl (vt rfl) (vt rfl)) rfl<|Nl<|sq<|Cn rfl (fun hc=>?_) (fun hc=>absurd hsf2.succ (of_decide_eq_false hc))
   have hlti13:=of_decide_eq_true hc
   refine sk<|sq<|bk<|SR<|Md rfl<|As rfl<|Nl<|sq ?_
   obtain ⟨x15,hx15,s16,hs16,h⟩:=bs2 h
   refine Rg<|Ac (Ze (A:=ydA Try.prog Zn y1 L) rfl rfl (vt rfl)) rfl<|Md rfl<|Md rfl<|Md rfl<|Cl [21,22] (Zq3 _ _ _ hx15) e67 rfl<|Ac (opb (⟨(i8:Int),x15⟩:Env) Z4k rfl Zdm (pc Zdy (vt rfl)<|pc Zf6 (vt rfl)<|pn rfl)) rfl<|Ac (Znu 0 hs16 rfl rfl (vt rfl) (vt rfl) rfl) rfl<|Ac (Z1g rfl rfl (vt rfl)) rfl<|Nl<|Cq rfl h (fun h=>?_) (fun h=>?_)
   ·refine xt ?_
    cases h;exact Z2g (i:=0) Try.results66 rfl rfl
   ·refine sk<|Rg<|Ac (Z10 (t:=15) rfl rfl (vt rfl) (vk rfl) (vt rfl) hlti13) rfl<|Md rfl<|Nl ?_
    exact ⟨(_,_,_),Nat.lt_succ_self _,⟨hsf2.next,h⟩,FX rfl⟩
end Go.Proofs.Ytknpgojdkobgjaa.W
set_option maxRecDepth 4000
namespace Go.Proofs.Ytknpgojdkobgjaa.W
open Go Go.Wb
theorem e66:Ent Try.prog 66:=Ent.mk Try.func66 rfl rfl
theorem e70:Ent Try.prog 70:=Ent.mk Try.func70 rfl rfl
theorem e33:Ent Try.prog 33:=Ent.mk Try.func33 rfl rfl
theorem e39:Ent Try.prog 39:=Ent.mk Try.func39 rfl rfl
theorem Zhp:Ent Try.prog 101:=Ent.mk Try.func101 rfl rfl
theorem e69:Ent Try.prog 69:=Ent.mk Try.func69 rfl rfl
theorem e36:Ent Try.prog 36:=Ent.mk Try.func36 rfl rfl
def Z96 (l1:(List Group)):Option (Itr Env):=
 some (Itr.mk fun σ y s=>Z4q σ y s l1)
theorem Zjy:Q1 Try.prog 33 (rd (Z2 Zd)) (Z34 Try.prog Zn) Z96:=fun l1 r h=>I0 Try.func33 rfl Try.ntmps33 rfl fun w H=>by
 unfold Z96 at h
 refine SR<|Cv rfl (Z00 2 rfl rfl (vt rfl)) fun g2=>Ac (Z0d (A:=Zc .nilFunc) rfl rfl vc) rfl<|Nl<|sq<|AW.freezeB 1 2 rfl rfl rfl<|Rg<|Ac (Zsg (Itr.mk fun σ y s=>Z4q σ y s l1) (cs:=[.tmp 1]) (CAs:=[rp (Z2 Zd) l1]) rfl rfl e66 ⟨vt rfl,trivial⟩ (fun σ y L s r h=>Zpd σ y L s l1 r h)) rfl<|Ac (Z0d (A:=Z34 Try.prog Zn (Itr.mk fun σ y s=>Z4q σ y s l1)) rfl rfl (vt rfl)) rfl<|Nl<|rt ?_
 cases h;exact Z9 Try.results33 rfl (Zg rfl)
def Zav (q:Itr Env):Option (List Env):=Zem q
theorem Ztw (q:Itr Env)(r:List Env)(h:Zav q=some r):Con Try.prog 70 [Zc (.slice none 0 0),Z34 Try.prog Zn q] emp (fun v=>Zc v) (fun v=>Zb v 25 Zn r):=by
 refine Con.intro0 Try.func70 rfl Try.ntmps70 rfl fun w H=>?_
 have h:=Zng h
 refine AW.newnil 1001 25 Zn<|SR<|Cv rfl (Z00 (k:=kraw) 3 rfl rfl (vkr (vt rfl) rfl)) fun g=>Ac (Z0d (A:=Zc (.slice none 0 0)) rfl rfl vc) rfl<|AOps.pack 3 1001 (by decide) rfl rfl<|Nl<|sq<|SR<|Ac (Ze (A:=Z34 Try.prog Zn q) rfl rfl (vt rfl)) rfl<|Nl<|bk<|AW.fit (d:=[]) (L:=[(2,Zp g (Lens.id kraw)),(6,Z34 Try.prog Zn q)]) (M:=[(3,Z44 g 35 25 Zn [])]) ⟨rfl,⟨rfl,rfl,trivial⟩,⟨rfl,trivial⟩⟩ ?_
 refine AW.rangeFunc (fun x=>[rd Zn x]) Z35 (fun s=>Z2d [(3,Z44 g 35 25 Zn s)]) (fun _ _=>Z2d []) [(2,Zp g (Lens.id kraw))]
  (fun s x S1=> ∃g5,Fit S1 [] [(2,Zp g (Lens.id kraw)),(5,Zp g5 (Lens.id Zn))] [(3,Z44 g 35 25 Zn s),(6,Blk g5 25 Zn x)]) 1003 (s0:=[]) (sE:= .go r)
  rfl (vt rfl) ⟨rfl,inferInstance,trivial⟩ rfl (fun _=>rfl) (by intro p hp;have hp:p∈[7]:=hp;rw [List.mem_singleton.1 hp];show 7<13;decide) ?ha ?hb (fun Lf=>⟨top,_,_,Lf,_,_,h,rfl,rfl,rfl,rfl⟩) ?he
 case ha=>
  intro s x r' hF l w H X
  refine Rg<|Cv rfl (Z05 6 rfl rfl Z4k) fun g5=>Zs Z1h 6 rfl<|Nl ?_
  exact ⟨rfl,g5,rfl,⟨rfl,rfl,trivial⟩,⟨rfl,rfl,trivial⟩⟩
 case hb=>
  rintro s x r' hF S1 ⟨g5,hfit⟩ l w H X
  refine AW.fit hfit<|AW.bodyOf (M:=fun s=>[(3,Z44 g 35 25 Zn s)]) (Mx:=fun _ _=>[]) ?_
  obtain ⟨m,hm,hF⟩:=Za hF
  cases hF
  refine bk<|AW.unbox 3 1001 (by decide) rfl rfl fun v=>Rg<|Ac (Zhk (i:=3) rfl rfl Ze0 (vt rfl) rfl) rfl<|Ld Z1h 6 rfl<|Ac (Z8b (ps:=[(0,.tmp 9)]) (l:=[x]) rfl rfl Zcb Z4k rfl rfl ⟨_,_,Lens.idx 1 Zn 0 (by decide),_,rfl,vt rfl,rfl⟩ rfl) rfl<|Cv rfl (Z3i 1001 hm rfl rfl Zkv (vt rfl) rfl (vt rfl)) fun v2=>Ac (Zcg rfl rfl Ze0 (vt rfl) (i:=3) rfl (Zs1 (i:=1001) rfl rfl)) rfl<|AOps.pack 3 1001 (by decide) rfl rfl<|Nl ?_
  exact ⟨_,rfl,rfl,trivial⟩
 case he=>
  intro D
  refine AW.unbox 3 1001 (by decide) rfl rfl fun v=>SR<|Ac (Zhk (i:=3) rfl rfl Ze0 (vt rfl) rfl) rfl<|Aw rfl<|Nl<|rt ?_
  exact ⟨rfl,1003,_,rfl,Z2c (i:=1001) Try.results70 rfl rfl rfl⟩
theorem Zns (q:Itr Env)(r:List Env)(h:Zav q=some r):PCon Try.prog 70 [Zc (.slice none 0 0),Z34 Try.prog Zn q] (rd (Z2 Zn) r):=PCon.of_row (Ztw q r h)
def Z93 (s1:(Itr Env)):Option (List Env):=
 (Zav s1).bind fun x2=>some x2
theorem Zl7:Q1 Try.prog 39 (Z34 Try.prog Zn) (rd (Z2 Zn)) Z93:=fun s1 r h=>I0 Try.func39 rfl Try.ntmps39 rfl fun w H=>by
 unfold Z93 at h
 refine SR<|Ac (Z0d (A:=rd (Z2 Zn) []) rfl rfl Z1n) rfl<|Nl<|sq ?_
 obtain ⟨x2,hx2,h⟩:=Za h
 refine Rg<|Ac (Ze (A:=Z34 Try.prog Zn s1) rfl rfl (vt rfl)) rfl<|Ac (Z0i (xs:=[.const (Value.slice none 0 0),.tmp 3]) (Zns _ _ hx2) e70 rfl rfl ⟨vc,vt rfl,trivial⟩) rfl<|As rfl<|Nl<|rt ?_
 cases h;exact Z9 Try.results39 rfl (Zg rfl)
def Z7q (l1:(List Group)):Option (List Env):=
 (Z96 l1).bind fun x2=>(Z93 x2).bind fun x3=>some x3
theorem Zh2:Q1 Try.prog 10 (rd (Z2 Zd)) (rd (Z2 Zn)) Z7q:=fun l1 r h=>I0 Try.func10 rfl Try.ntmps10 rfl fun w H=>by
 unfold Z7q at h
 refine SR<|Ac (Z0d (A:=rd (Z2 Zn) []) rfl rfl Z1n) rfl<|Nl<|sq ?_
 obtain ⟨x2,hx2,x3,hx3,h⟩:=bs2 h
 refine Rg<|Md rfl<|Cl [3] (Zjy _ _ hx2) e33 rfl<|Cl [4] (Zl7 _ _ hx3) e39 rfl<|As rfl<|Nl<|rt ?_
 cases h;exact Z9 Try.results10 rfl (Zg rfl)
def Z5t (s1:(List Int))(x2:Int):Nat→Nat→Option Int
 | 0,i3=>some (-1)
 | m4+1,i3=>(lget s1 (i3:Int)).bind fun x5=>(bif (decide (x2=x5)) then some (i3:Int) else (Z5t s1 x2 m4) (i3+1))
def Z7f (s1:(List Int))(x2:Int):Option Int:=
 Z5t s1 x2 ((s1.length:Int):Int).toNat 0
theorem Zi6:Q2 Try.prog 101 (rd (Z2 (Z0 .i64))) (rd (Z0 .i64)) (rd (Z0 .i64)) Z7f:=fun s1 x2 r h=>I0 Try.func101 rfl Try.ntmps101 rfl fun w H=>by
 unfold Z7f at h
 refine SR<|Ak rfl<|Nl<|sq<|SR<|Md rfl<|Ac (Z0a rfl rfl Z06 (vt rfl)) rfl<|Mk rfl<|Nl<|bk<|LG (d:=[]) (ν:=Nat×Nat) (fun (m4,i3)=>(Cnt (s1.length:Int) i3 m4∧Z5t s1 x2 m4 i3=some r,m4,[(0,rd (Z2 (Z0 .i64)) s1),(1,rd (Z0 .i64) x2),(7,rd (Z0 .i64) (s1.length:Int)),(8,rd (Z0 .i64) (i3:Int))],[])) (((s1.length:Int):Int).toNat,0) ⟨Cnt.start _,h⟩ (FX rfl) ?_
 rintro ⟨m4,i3⟩ ⟨hsf1,h⟩
 dsimp only at hsf1 h ⊢
 cases m4 with
 | zero=>
  unfold Z5t at h
  refine SR<|Ac (Zh rfl rfl (vt rfl) (vt rfl)) rfl<|Nl<|sq<|Cn rfl (fun hc=>absurd (of_decide_eq_true hc) hsf1.zero) (fun hc=>?_)
  refine xt<|SR<|Ak rfl<|Nl<|rt ?_
  cases h;exact Z9 Try.results101 rfl (Zg rfl)
 | succ m4=>
  unfold Z5t at h
  refine SR<|Ac (Zh rfl rfl (vt rfl) (vt rfl)) rfl<|Nl<|sq<|Cn rfl (fun hc=>?_) (fun hc=>absurd hsf1.succ (of_decide_eq_false hc))
  have hlti3:=of_decide_eq_true hc
  refine sk<|sq<|bk<|SR<|Md rfl<|As rfl<|Nl<|sq ?_
  obtain ⟨x5,hx5,h⟩:=Za h
  refine Rg<|Md rfl<|Md rfl<|Md rfl<|Ac (Z0e rfl rfl Z06 (vt rfl) (vt rfl) hx5) rfl<|Lp1 Zl rfl<|Ac (Z0l rfl rfl (vt rfl) (vt rfl)) rfl<|Nl<|Cq rfl h (fun h=>?_) (fun h=>?_)
  ·refine SR<|Md rfl<|As rfl<|Nl<|rt ?_
   cases h;exact Z9 Try.results101 rfl (Zg rfl)
  ·refine sk<|Rg<|Ac (Z10 (t:=7) rfl rfl (vt rfl) (vk rfl) (vt rfl) hlti3) rfl<|Md rfl<|Nl ?_
   exact ⟨(_,_),Nat.lt_succ_self _,⟨hsf1.next,h⟩,FX rfl⟩
def Z8x (s1:(List Int))(x2:Int):Option Bool:=
 (Z7f s1 x2).bind fun x3=>some (decide (x3≥0))
theorem Zp9:Q2 Try.prog 69 (rd (Z2 (Z0 .i64))) (rd (Z0 .i64)) (rd Z5) Z8x:=fun s1 x2 r h=>I0 Try.func69 rfl Try.ntmps69 rfl fun w H=>by
 unfold Z8x at h
 refine SR<|Ab rfl<|Nl<|sq ?_
 obtain ⟨x3,hx3,h⟩:=Za h
 refine Rg<|Md rfl<|Md rfl<|Cl [5,6] (Zi6 _ _ _ hx3) Zhp rfl<|Ac (Z33 rfl rfl (vt rfl) (vk rfl)) rfl<|As rfl<|Nl<|rt ?_
 cases h;exact Z9 Try.results69 rfl (Zg rfl)
def Z6t (x1:Env)(p2:Int):Option Bool:=
 (Z8x x1.Down p2).bind fun x4=>some (!x4)
theorem Zg0:Q2 Try.prog 36 (rd Zn) (rd (Z0 .i64)) (rd Z5) Z6t:=fun x1 p2 r h=>I0 Try.func36 rfl Try.ntmps36 rfl fun w H=>by
 unfold Z6t at h
 refine SR<|Cv rfl (Z00 3 rfl rfl (vt rfl)) fun g3=>Ab rfl<|Nl<|sq ?_
 obtain ⟨x4,hx4,h⟩:=Za h
 refine Rg<|Zo lEnv_1 Z8e rfl<|Ld Z8y 3 rfl<|Md rfl<|Cl [6,7] (Zp9 _ _ _ hx4) e69 rfl<|Ac (Z1g rfl rfl (vt rfl)) rfl<|As rfl<|Nl<|rt ?_
 cases h;exact Z9 Try.results36 rfl (Zg rfl)
def Z84 (p1:Int)(x2:Env):Option Bool:=
 (Z6t x2 p1).bind fun x3=>some x3
theorem Zm5:Q2 Try.prog 35 (rd (Z0 .i64)) (rp Zn) (rd Z5) Z84:=fun p1 x2 r h=>I0 Try.func35 rfl Try.ntmps35 rfl fun w H=>by
 unfold Z84 at h
 refine SR<|Ab rfl<|Nl<|sq ?_
 obtain ⟨x3,hx3,h⟩:=Za h
 refine Rg<|Lp1 Z1h rfl<|Md rfl<|Cl [4,5] (Zg0 _ _ _ hx3) e36 rfl<|As rfl<|Nl<|rt ?_
 cases h;exact Z9 Try.results35 rfl (Zg rfl)
def Z5k (s1:(List Int))(x2:(Int→Option Bool)):Nat→Nat→Option Int
 | 0,i3=>some (-1)
 | m4+1,i3=>(lget s1 (i3:Int)).bind fun x5=>(x2 x5).bind fun x6=>(bif x6 then some (i3:Int) else (Z5k s1 x2 m4) (i3+1))
def Z9z (s1:(List Int))(x2:(Int→Option Bool)):Option Int:=
 Z5k s1 x2 ((s1.length:Int):Int).toNat 0
theorem Zsk:Q2 Try.prog 68 (rd (Z2 (Z0 .i64))) (fn1 Try.prog (Z0 .i64) Z5) (rd (Z0 .i64)) Z9z:=fun s1 x2 r h=>I0 Try.func68 rfl Try.ntmps68 rfl fun w H=>by
 unfold Z9z at h
 refine SR<|Ak rfl<|Nl<|sq<|SR<|Md rfl<|Ac (Z0a rfl rfl Z06 (vt rfl)) rfl<|Mk rfl<|Nl<|bk<|LG (d:=[]) (ν:=Nat×Nat) (fun (m4,i3)=>(Cnt (s1.length:Int) i3 m4∧Z5k s1 x2 m4 i3=some r,m4,[(0,rd (Z2 (Z0 .i64)) s1),(1,fn1 Try.prog (Z0 .i64) Z5 x2),(7,rd (Z0 .i64) (s1.length:Int)),(8,rd (Z0 .i64) (i3:Int))],[])) (((s1.length:Int):Int).toNat,0) ⟨Cnt.start _,h⟩ (FX rfl) ?_
 rintro ⟨m4,i3⟩ ⟨hsf1,h⟩
 dsimp only at hsf1 h ⊢
 cases m4 with
 | zero=>
  unfold Z5k at h
  refine SR<|Ac (Zh rfl rfl (vt rfl) (vt rfl)) rfl<|Nl<|sq<|Cn rfl (fun hc=>absurd (of_decide_eq_true hc) hsf1.zero) (fun hc=>?_)
  refine xt<|SR<|Ak rfl<|Nl<|rt ?_
  cases h;exact Z9 Try.results68 rfl (Zg rfl)
 | succ m4=>
  unfold Z5k at h
  refine SR<|Ac (Zh rfl rfl (vt rfl) (vt rfl)) rfl<|Nl<|sq<|Cn rfl (fun hc=>?_) (fun hc=>absurd hsf1.succ (of_decide_eq_false hc))
  have hlti3:=of_decide_eq_true hc
  refine sk<|sq<|bk<|SR<|Md rfl<|As rfl<|Nl<|sq ?_
  obtain ⟨x5,hx5,x6,hx6,h⟩:=bs2 h
  refine Rg<|Ac (Ze (A:=fn1 Try.prog (Z0 .i64) Z5 x2) rfl rfl (vt rfl)) rfl<|Md rfl<|Md rfl<|Ac (Z0e rfl rfl Z06 (vt rfl) (vt rfl) hx5) rfl<|Lp1 Zl rfl<|Ac (Z48 hx6 rfl rfl (vt rfl) (vt rfl)) rfl<|Nl<|Cq rfl h (fun h=>?_) (fun h=>?_)
  ·refine SR<|Md rfl<|As rfl<|Nl<|rt ?_
   cases h;exact Z9 Try.results68 rfl (Zg rfl)
  ·refine sk<|Rg<|Ac (Z10 (t:=7) rfl rfl (vt rfl) (vk rfl) (vt rfl) hlti3) rfl<|Md rfl<|Nl ?_
   exact ⟨(_,_),Nat.lt_succ_self _,⟨hsf1.next,h⟩,FX rfl⟩
end Go.Proofs.Ytknpgojdkobgjaa.W
set_option maxRecDepth 4000
namespace Go.Proofs.Ytknpgojdkobgjaa.W
open Go Go.Wb
theorem e68:Ent Try.prog 68:=Ent.mk Try.func68 rfl rfl
theorem e35:Ent Try.prog 35:=Ent.mk Try.func35 rfl rfl
theorem e34:Ent Try.prog 34:=Ent.mk Try.func34 rfl rfl
theorem e37:Ent Try.prog 37:=Ent.mk Try.func37 rfl rfl
theorem e10:Ent Try.prog 10:=Ent.mk Try.func10 rfl rfl
theorem e8:Ent Try.prog 8:=Ent.mk Try.func8 rfl rfl
theorem e30:Ent Try.prog 30:=Ent.mk Try.func30 rfl rfl
theorem e12:Ent Try.prog 12:=Ent.mk Try.func12 rfl rfl
theorem e38:Ent Try.prog 38:=Ent.mk Try.func38 rfl rfl
def Z5x (d3:(Int→Option Bool)):Nat→(List Int)→Int→Int→Option (List Int)
 | 0,_,_,_=>none
 | m11+1,l8,i9,j10=>(bif (decide (j10<(l8.length:Int))) then (lget l8 j10).bind fun x12=>(d3 x12).bind fun x13=>(bif (!x13) then (lget l8 i9).bind fun x14=>(Z5x d3 m11) (List.set l8 i9.toNat x12) (IntKind.i64.wrap (i9+1)) (IntKind.i64.wrap (j10+1)) else (Z5x d3 m11) l8 i9 (IntKind.i64.wrap (j10+1))) else (Z2m l8 i9).bind fun s15=>(Z3y (List.take i9.toNat l8++List.replicate (l8.length - i9.toNat) 0) i9).bind fun s16=>some s16)
def Z8d (s1:(List Int))(d3:(Int→Option Bool)):Option (List Int):=
 (Z9z s1 d3).bind fun x4=>(bif (decide (x4=(-1))) then some s1 else Z5x d3 ((((s1.length:Int):Int) - (IntKind.i64.wrap (x4+1))).toNat+1) s1 x4 (IntKind.i64.wrap (x4+1)))
theorem Zkx (v2:Value)(s1:(List Int))(d3:(Int→Option Bool))(r:(List Int))(h:Z8d s1 d3=some r):Con Try.prog 34 [Zc v2,fn1 Try.prog (Z0 .i64) Z5 d3] (Zb v2 3 (Z0 .i64) s1) (fun v=>Zc v) (fun v=>Zb v 3 (Z0 .i64) r):=by
 refine Con.intro Try.func34 rfl Try.ntmps34 rfl fun w H X=>?_
 unfold Z8d at h
 refine sq<|AW.newnil 1001 3 (Z0 .i64)<|Rg<|Ac (Z0d rfl rfl vc) rfl<|Nl<|sq ?_
 obtain ⟨x4,hx4,h⟩:=Za h
 refine Rg<|Mw rfl<|Ac (Ze (A:=fn1 Try.prog (Z0 .i64) Z5 d3) rfl rfl (vt rfl)) rfl<|Ac (Zbm (xs:=[.tmp 8,.tmp 9]) 0 (Zsk _ _ _ hx4) e68 rfl rfl ⟨vL rfl rfl,vB (vt rfl),trivial⟩) rfl<|As rfl<|Nl<|sq<|SR<|Md rfl<|Ac (Z0l rfl rfl (vt rfl) (vk rfl)) rfl<|Nl<|Cq rfl h (fun h=>?_) (fun h=>?_)
 ·refine SR<|Mw rfl<|Aw rfl<|Nl<|rt ?_
  cases h;exact Z2c (i:=0) Try.results34 rfl rfl rfl
 ·refine sk<|sq<|SR<|Md rfl<|Ac (Zx rfl rfl (vt rfl) (vk rfl)) rfl<|As rfl<|Nl<|bk<|LG (d:=[]) (ν:=Nat×(List Int)×Int×Int) (fun (m11,l8,i9,j10)=>(True∧Z5x d3 m11 l8 i9 j10=some r,m11,[(0,Zc v2),(1,fn1 Try.prog (Z0 .i64) Z5 d3),(5,rd (Z0 .i64) i9),(6,rd (Z0 .i64) j10)],[(0,Zb v2 3 (Z0 .i64) l8)])) (((((s1.length:Int):Int) - (IntKind.i64.wrap (x4+1))).toNat+1),s1,x4,(IntKind.i64.wrap (x4+1))) ⟨trivial,h⟩ (FX rfl) ?_
  rintro ⟨m11,l8,i9,j10⟩ ⟨hsf1,h⟩
  dsimp only at h ⊢
  cases m11 with
  | zero=>cases h
  | succ m11=>
   unfold Z5x at h
   refine sq<|SR<|Md rfl<|Mw rfl<|Ac (Z6s 0 rfl rfl Z06 (vt rfl) rfl) rfl<|Ac (Zh rfl rfl (vt rfl) (vt rfl)) rfl<|Nl<|Cq rfl h (fun h=>?_) (fun h=>?_)
   ·refine sk<|sq<|bk<|sq ?_
    obtain ⟨x12,hx12,h⟩:=Za h
    refine Rg<|Mw rfl<|Md rfl<|Ac (Z1f 0 rfl rfl Z06 (vt rfl) rfl (vt rfl) hx12) rfl<|Ac (Z1a 0 rfl rfl Zl (vt rfl) rfl (Z08 hx12).2) rfl<|As rfl<|Nl<|sq ?_
    obtain ⟨x13,hx13,h⟩:=Za h
    refine Rg<|Ac (Ze (A:=fn1 Try.prog (Z0 .i64) Z5 d3) rfl rfl (vt rfl)) rfl<|Md rfl<|Ac (Z48 hx13 rfl rfl (vt rfl) (vt rfl)) rfl<|Ac (Z1g rfl rfl (vt rfl)) rfl<|Nl<|Cq rfl h (fun h=>?_) (fun h=>?_)
    ·refine sq ?_
     obtain ⟨x14,hx14,h⟩:=Za h
     refine Rg<|Mw rfl<|Md rfl<|Md rfl<|Ac (Z1f 0 rfl rfl Z06 (vt rfl) rfl (vt rfl) hx14) rfl<|Ac (Z25 0 rfl rfl Zl (vt rfl) rfl (Z08 hx14).2 (vt rfl)) rfl<|Nl<|Rg<|Md rfl<|Ac (Zx rfl rfl (vt rfl) (vk rfl)) rfl<|As rfl<|Nl<|Rg<|Md rfl<|Ac (Zx rfl rfl (vt rfl) (vk rfl)) rfl<|As rfl<|Nl ?_
     exact ⟨(_,_,_,_),Nat.lt_succ_self _,⟨trivial,h⟩,FX rfl⟩
    ·refine sk<|Rg<|Md rfl<|Ac (Zx rfl rfl (vt rfl) (vk rfl)) rfl<|As rfl<|Nl ?_
     exact ⟨(_,_,_,_),Nat.lt_succ_self _,⟨trivial,h⟩,FX rfl⟩
   ·refine xt<|sq ?_
    obtain ⟨s15,hs15,h⟩:=Za h
    refine Rg<|Mw rfl<|Md rfl<|Ac (Zdp 0 hs15 rfl rfl Z06 (vt rfl) rfl (vt rfl)) rfl<|Ac (Zec 0 rfl rfl Z06 zr3 rfl (vt rfl) rfl (Zaq hs15).2.1) rfl<|Nl<|sq ?_
    obtain ⟨s16,hs16,h⟩:=Za h
    refine Rg<|Mw rfl<|Md rfl<|Cv rfl (Zdi 0 hs16 rfl rfl Z06 (vt rfl) rfl (vt rfl)) fun v17=>Aw rfl<|Nl<|rt ?_
    cases h;exact Z2c (i:=0) Try.results34 rfl rfl rfl
def Z45 (x1:Env)(n2:Int):Option Int:=
 (bif (decide (n2<1)) then some 0 else (Z2j x1.Turn n2).bind fun q4=>(bif (decide (q4<0)) then some (IntKind.i64.wrap (q4+n2)) else some q4))
theorem Zk2:Q2 Try.prog 37 (rd Zn) (rd (Z0 .i64)) (rd (Z0 .i64)) Z45:=fun x1 n2 r h=>I0 Try.func37 rfl Try.ntmps37 rfl fun w H=>by
 unfold Z45 at h
 refine SR<|Cv rfl (Z00 3 rfl rfl (vt rfl)) fun g3=>Ak rfl<|Nl<|sq<|SR<|Md rfl<|Ac (Zh rfl rfl (vt rfl) (vk rfl)) rfl<|Nl<|Cq rfl h (fun h=>?_) (fun h=>?_)
 ·refine SR<|Ak rfl<|Nl<|rt ?_
  cases h;exact Z9 Try.results37 rfl (Zg rfl)
 ·refine sk<|sq ?_
  obtain ⟨q4,hq4,h⟩:=Za h
  refine Rg<|Zo lEnv_0 Zcj rfl<|Ld Zl 3 rfl<|Md rfl<|Ac (Zb6 rfl rfl (vt rfl) (vt rfl) hq4) rfl<|As rfl<|Nl<|sq<|SR<|Md rfl<|Ac (Zh rfl rfl (vt rfl) (vk rfl)) rfl<|Nl<|Cq rfl h (fun h=>?_) (fun h=>?_)
  ·refine Rg<|Md rfl<|Md rfl<|Ac (Zx rfl rfl (vt rfl) (vt rfl)) rfl<|As rfl<|Nl<|SR<|Md rfl<|As rfl<|Nl<|rt ?_
   cases h;exact Z9 Try.results37 rfl (Zg rfl)
  ·refine sk<|SR<|Md rfl<|As rfl<|Nl<|rt ?_
   cases h;exact Z9 Try.results37 rfl (Zg rfl)
def Z8c (x1:Env)(l2:(List Group)):Option Env:=
 (Z4r l2).bind fun x5=>(Z8d x5 (fun x=>Z84 x x1)).bind fun x7=>(Z6f l2).bind fun x9=>(Z45 x1 x9).bind fun x10=>some (⟨x10,x7⟩:Env)
theorem Zhg:Q2 Try.prog 8 (rd Zn) (rd (Z2 Zd)) (rd Zn) Z8c:=fun x1 l2 r h=>I0 Try.func8 rfl Try.ntmps8 rfl fun w H=>by
 unfold Z8c at h
 refine SR<|Cv rfl (Z00 3 rfl rfl (vt rfl)) fun g3=>Cv rfl (Z05 5 rfl rfl Z4k) fun g4=>Nl<|sq<|AW.freezeB 2 3 rfl rfl rfl ?_
 obtain ⟨x5,hx5,x7,hx7,h⟩:=bs2 h
 refine Rg<|Md rfl<|Cv rfl (Z13 1001 (xs:=[.tmp 6]) (Zi5 _ _ hx5) e31 rfl rfl ⟨vt rfl,trivial⟩ rfl) fun v6=>Ac (Z3s (cs:=[.tmp 2]) (CAs:=[rp Zn x1]) (fun x=>Z84 x x1) rfl rfl e35 ⟨vt rfl,trivial⟩ (fun x y h=>Zm5 _ _ y h)) rfl<|Cv rfl (Z13 1001 (xs:=[.tmp 7,.tmp 8]) (Zkx _ _ _ _ hx7) e34 rfl rfl ⟨vt rfl,vt rfl,trivial⟩ rfl) fun v8=>Aw rfl<|Nl<|sq<|AW.freezes [5,9] 1001 rfl ⟨rfl,rfl,trivial⟩ rfl ?_
 obtain ⟨x9,hx9,x10,hx10,h⟩:=bs2 h
 refine AR Z0n (by kernel_rfl)<|SLp Z1h rfl<|Zt rfl<|SCl [11] (Zd3 _ _ hx9) e32 rfl<|SCl [10,12] (Zk2 _ _ _ hx10) e37 rfl<|Zt rfl<|Sd (lo [13,14] [] rfl fun S hs hr=>opb (⟨x10,x7⟩:Env) Z4k rfl Zdm (pc Zdy (vh hs 13 rfl rfl)<|pc Zf6 (vh hs 14 rfl rfl)<|pn rfl))<|SSt Z1h 5 rfl<|Sn<|rt ?_
 cases h;exact Z9 Try.results8 rfl (Z09 rfl (i:=5) rfl Z1h)
def Z4e (s1:(List Int))(s2:(List Int)):Nat→Nat→Option Bool
 | 0,i3=>some true
 | m4+1,i3=>(lget s1 (i3:Int)).bind fun x5=>(lget s2 (i3:Int)).bind fun x6=>(bif (decide (x5≠x6)) then some false else (Z4e s1 s2 m4) (i3+1))
def Z6d (s1:(List Int))(s2:(List Int)):Option Bool:=
 (bif (decide ((s1.length:Int)≠(s2.length:Int))) then some false else Z4e s1 s2 ((s1.length:Int):Int).toNat 0)
theorem Zeb:Q2 Try.prog 30 (rd (Z2 (Z0 .i64))) (rd (Z2 (Z0 .i64))) (rd Z5) Z6d:=fun s1 s2 r h=>I0 Try.func30 rfl Try.ntmps30 rfl fun w H=>by
 unfold Z6d at h
 refine SR<|Ab rfl<|Nl<|sq<|SR<|Md rfl<|Ac (Z0a rfl rfl Z06 (vt rfl)) rfl<|Md rfl<|Ac (Z0a rfl rfl Z06 (vt rfl)) rfl<|Ac (Z1x rfl rfl (vt rfl) (vt rfl)) rfl<|Nl<|Cq rfl h (fun h=>?_) (fun h=>?_)
 ·refine SR<|Ab rfl<|Nl<|rt ?_
  cases h;exact Z9 Try.results30 rfl (Zg rfl)
 ·refine sk<|sq<|SR<|Md rfl<|Ac (Z0a rfl rfl Z06 (vt rfl)) rfl<|Mk rfl<|Nl<|bk<|LG (d:=[]) (ν:=Nat×Nat) (fun (m4,i3)=>(Cnt (s1.length:Int) i3 m4∧Z4e s1 s2 m4 i3=some r,m4,[(0,rd (Z2 (Z0 .i64)) s1),(1,rd (Z2 (Z0 .i64)) s2),(12,rd (Z0 .i64) (s1.length:Int)),(13,rd (Z0 .i64) (i3:Int))],[])) (((s1.length:Int):Int).toNat,0) ⟨Cnt.start _,h⟩ (FX rfl) ?_
  rintro ⟨m4,i3⟩ ⟨hsf1,h⟩
  dsimp only at hsf1 h ⊢
  cases m4 with
  | zero=>
   unfold Z4e at h
   refine SR<|Ac (Zh rfl rfl (vt rfl) (vt rfl)) rfl<|Nl<|sq<|Cn rfl (fun hc=>absurd (of_decide_eq_true hc) hsf1.zero) (fun hc=>?_)
   refine xt<|SR<|Ab rfl<|Nl<|rt ?_
   cases h;exact Z9 Try.results30 rfl (Zg rfl)
  | succ m4=>
   unfold Z4e at h
   refine SR<|Ac (Zh rfl rfl (vt rfl) (vt rfl)) rfl<|Nl<|sq<|Cn rfl (fun hc=>?_) (fun hc=>absurd hsf1.succ (of_decide_eq_false hc))
   have hlti3:=of_decide_eq_true hc
   refine sk<|sq<|bk<|SR<|Md rfl<|As rfl<|Nl<|sq ?_
   obtain ⟨x5,hx5,x6,hx6,h⟩:=bs2 h
   refine AR Z0n (by kernel_rfl)<|Zt rfl<|Zt rfl<|Sd (lo [16,17] [] rfl fun S hs hr=>Z0e rfl rfl Z06 (vh hs 16 rfl rfl) (vh hs 17 rfl rfl) hx5)<|SLp Zl rfl<|Zt rfl<|Zt rfl<|Sd (lo [20,21] [] rfl fun S hs hr=>Z0e rfl rfl Z06 (vh hs 20 rfl rfl) (vh hs 21 rfl rfl) hx6)<|SLp Zl rfl<|Sd (lo [19,23] [] rfl fun S hs hr=>Z1x rfl rfl (vh hs 19 rfl rfl) (vh hs 23 rfl rfl))<|Sn<|Cq rfl h (fun h=>?_) (fun h=>?_)
   ·refine SR<|Ab rfl<|Nl<|rt ?_
    cases h;exact Z9 Try.results30 rfl (Zg rfl)
   ·refine sk<|Rg<|Ac (Z10 (t:=12) rfl rfl (vt rfl) (vk rfl) (vt rfl) hlti3) rfl<|Md rfl<|Nl ?_
    exact ⟨(_,_),Nat.lt_succ_self _,⟨hsf1.next,h⟩,FX rfl⟩
def Z80:Option Bool:=
 (Z7q [(⟨0,3,[(⟨0,2,0,[]⟩:Bucket)]⟩:Group),(⟨0,1,[(⟨0,0,0,[]⟩:Bucket),(⟨0,0,0,[]⟩:Bucket)]⟩:Group)]).bind fun x1=>(Z8c (⟨5,[2,9]⟩:Env) [(⟨0,3,[(⟨0,2,0,[]⟩:Bucket)]⟩:Group),(⟨0,1,[(⟨0,0,0,[]⟩:Bucket),(⟨0,0,0,[]⟩:Bucket)]⟩:Group)]).bind fun x2=>(opt (decide ((x1.length:Int)=4)) (Z4r [(⟨0,3,[(⟨0,2,0,[]⟩:Bucket)]⟩:Group),(⟨0,1,[(⟨0,0,0,[]⟩:Bucket),(⟨0,0,0,[]⟩:Bucket)]⟩:Group)])).bind fun x4=>(opt (decide ((x1.length:Int)=4)) (Z6d x4 [2])).bind fun x5=>(opt ((decide ((x1.length:Int)=4))&&x5) (Z6f [(⟨0,3,[(⟨0,2,0,[]⟩:Bucket)]⟩:Group),(⟨0,1,[(⟨0,0,0,[]⟩:Bucket),(⟨0,0,0,[]⟩:Bucket)]⟩:Group)])).bind fun x6=>(opt ((((decide ((x1.length:Int)=4))&&x5)&&(decide (x6=2)))&&(decide (x2.Turn=1))) (Z6d x2.Down [2])).bind fun x7=>(opt (((((decide ((x1.length:Int)=4))&&x5)&&(decide (x6=2)))&&(decide (x2.Turn=1)))&&x7) (Z96 [(⟨0,3,[(⟨0,2,0,[]⟩:Bucket)]⟩:Group),(⟨0,1,[(⟨0,0,0,[]⟩:Bucket),(⟨0,0,0,[]⟩:Bucket)]⟩:Group)])).bind fun x8=>some ((((((decide ((x1.length:Int)=4))&&x5)&&(decide (x6=2)))&&(decide (x2.Turn=1)))&&x7)&&true)
theorem Zdc:Q0 Try.prog 7 (rd Z5) Z80:=fun r h=>I0 Try.func7 rfl Try.ntmps7 rfl fun w H=>by
 unfold Z80 at h
 refine SR<|Ab rfl<|Nl<|SR<|Ac (opb (⟨0,2,0,[]⟩:Bucket) Z5p rfl Zep (pc Zn7 (vk rfl)<|pn rfl)) rfl<|Ac (osl Z18 Z5p rfl (vt rfl)) rfl<|Ac (opb (⟨0,3,[(⟨0,2,0,[]⟩:Bucket)]⟩:Group) Z32 rfl Zct (pc Zg8 (vk rfl)<|pc Zj3 (vt rfl)<|pn rfl)) rfl<|Ac (opb (⟨0,0,0,[]⟩:Bucket) Z5p rfl Zep (pn rfl)) rfl<|Ac (opb (⟨0,0,0,[]⟩:Bucket) Z5p rfl Zep (pn rfl)) rfl<|Ac (Z8b (ps:=[(0,.tmp 7),(1,.tmp 8)]) (l:=[(⟨0,0,0,[]⟩:Bucket),(⟨0,0,0,[]⟩:Bucket)]) rfl rfl Z18 Z5p rfl rfl ⟨_,_,Lens.idx 2 Z03 0 (by decide),_,rfl,(vt rfl),_,_,Lens.idx 2 Z03 1 (by decide),_,rfl,(vt rfl),rfl⟩ rfl) rfl<|Ac (opb (⟨0,1,[(⟨0,0,0,[]⟩:Bucket),(⟨0,0,0,[]⟩:Bucket)]⟩:Group) Z32 rfl Zct (pc Zg8 (vk rfl)<|pc Zj3 (vt rfl)<|pn rfl)) rfl<|Ac (Z8b (ps:=[(0,.tmp 6),(1,.tmp 10)]) (l:=[(⟨0,3,[(⟨0,2,0,[]⟩:Bucket)]⟩:Group),(⟨0,1,[(⟨0,0,0,[]⟩:Bucket),(⟨0,0,0,[]⟩:Bucket)]⟩:Group)]) rfl rfl Z0f Z32 rfl rfl ⟨_,_,Lens.idx 2 Zd 0 (by decide),_,rfl,(vt rfl),_,_,Lens.idx 2 Zd 1 (by decide),_,rfl,(vt rfl),rfl⟩ rfl) rfl<|As rfl<|Nl<|sq ?_
 obtain ⟨x1,hx1,h⟩:=Za h
 refine Rg<|Md rfl<|Cl [12] (Zh2 _ _ hx1) e10 rfl<|As rfl<|Nl<|sq ?_
 obtain ⟨x2,hx2,h⟩:=Za h
 refine Rg<|Ac (Z8b (ps:=[(0,.const (Value.int IntKind.i64 2)),(1,.const (Value.int IntKind.i64 9))]) (l:=[2,9]) rfl rfl Z06 zr3 rfl rfl ⟨_,_,Lens.idx 2 (Z0 .i64) 0 (by decide),_,rfl,(vk rfl),_,_,Lens.idx 2 (Z0 .i64) 1 (by decide),_,rfl,(vk rfl),rfl⟩ rfl) rfl<|Ac (opb (⟨5,[2,9]⟩:Env) Z4k rfl Zdm (pc Zdy (vk rfl)<|pc Zf6 (vt rfl)<|pn rfl)) rfl<|Md rfl<|Cl [15,16] (Zhg _ _ _ hx2) e8 rfl<|Cv rfl (Z05 4 rfl rfl Z4k) fun g3=>Zs Z1h 4 rfl<|Nl<|sq ?_
 obtain ⟨x4,hx4,x5,hx5,x6,hx6,x7,hx7,h⟩:=bs4 h
 obtain ⟨x8,hx8,h⟩:=Za h
 refine Rg<|Md rfl<|Ac (Z0a rfl rfl Zcb (vt rfl)) rfl<|Ac (Z0l rfl rfl (vt rfl) (vk rfl)) rfl<|Md rfl<|Gd rfl (fun hq=>Ze (A:=rd (Z2 Zd) [(⟨0,3,[(⟨0,2,0,[]⟩:Bucket)]⟩:Group),(⟨0,1,[(⟨0,0,0,[]⟩:Bucket),(⟨0,0,0,[]⟩:Bucket)]⟩:Group)]) rfl rfl (vt rfl))<|Gd rfl (fun hq=>Z0i (xs:=[.tmp 22]) (Zgm _ _ (Z1i hx4 hq)) e31 rfl rfl ⟨Z8 rfl hq,trivial⟩)<|Gd rfl (fun hq=>osl Z06 zr3 rfl (vk rfl))<|Gd rfl (fun hq=>Z0i (xs:=[.tmp 23,.tmp 24]) (Zeb _ _ _ (Z1i hx5 hq)) e30 rfl rfl ⟨Z8 rfl hq,Z8 rfl hq,trivial⟩)<|Ac (Z0y rfl rfl (vt rfl) (vt rfl)) rfl<|Md rfl<|Gd rfl (fun hq=>Ze (A:=rd (Z2 Zd) [(⟨0,3,[(⟨0,2,0,[]⟩:Bucket)]⟩:Group),(⟨0,1,[(⟨0,0,0,[]⟩:Bucket),(⟨0,0,0,[]⟩:Bucket)]⟩:Group)]) rfl rfl (vt rfl))<|Gd rfl (fun hq=>Z0i (xs:=[.tmp 28]) (Zd3 _ _ (Z1i hx6 hq)) e32 rfl rfl ⟨Z8 rfl hq,trivial⟩)<|Gd rfl (fun hq=>Z0l rfl rfl (Z8 rfl hq) (vk rfl))<|Ac (Z0y rfl rfl (vt rfl) (vt rfl)) rfl<|Md rfl<|Gd rfl (fun hq=>Z2e lEnv_0 rfl rfl Zcj (vt rfl))<|Gd rfl (fun hq=>Z22 rfl rfl Zl (Z8 rfl hq) (i:=4) rfl)<|Gd rfl (fun hq=>Z0l rfl rfl (Z8 rfl hq) (vk rfl))<|Ac (Z0y rfl rfl (vt rfl) (vt rfl)) rfl<|Md rfl<|Gd rfl (fun hq=>Z2e lEnv_1 rfl rfl Z8e (vt rfl))<|Gd rfl (fun hq=>Z22 rfl rfl Z8y (Z8 rfl hq) (i:=4) rfl)<|Gd rfl (fun hq=>osl Z06 zr3 rfl (vk rfl))<|Gd rfl (fun hq=>Z0i (xs:=[.tmp 39,.tmp 40]) (Zeb _ _ _ (Z1i hx7 hq)) e30 rfl rfl ⟨Z8 rfl hq,Z8 rfl hq,trivial⟩)<|Ac (Z0y rfl rfl (vt rfl) (vt rfl)) rfl<|Md rfl<|Gd rfl (fun hq=>Ze (A:=rd (Z2 Zd) [(⟨0,3,[(⟨0,2,0,[]⟩:Bucket)]⟩:Group),(⟨0,1,[(⟨0,0,0,[]⟩:Bucket),(⟨0,0,0,[]⟩:Bucket)]⟩:Group)]) rfl rfl (vt rfl))<|Gd rfl (fun hq=>Z0i (xs:=[.tmp 44]) (Zjy _ _ (Z1i hx8 hq)) e33 rfl rfl ⟨Z8 rfl hq,trivial⟩)<|Gd rfl (fun hq=>Zt9 rfl rfl Zms (Z8 rfl hq))<|Ac (Z0y rfl rfl (vt rfl) (vt rfl)) rfl<|As rfl<|Nl<|rt ?_
 cases h;exact Z9 Try.results7 rfl (Zg rfl)
def Z9q (a1:Env)(b2:Env):Option Bool:=
 (opt (decide (a1.Turn=b2.Turn)) (Z6d a1.Down b2.Down)).bind fun x5=>some ((decide (a1.Turn=b2.Turn))&&x5)
theorem Zn6:Q2 Try.prog 12 (rd Zn) (rd Zn) (rd Z5) Z9q:=fun a1 b2 r h=>I0 Try.func12 rfl Try.ntmps12 rfl fun w H=>by
 unfold Z9q at h
 refine SR<|Cv rfl (Z00 3 rfl rfl (vt rfl)) fun g3=>Cv rfl (Z00 4 rfl rfl (vt rfl)) fun g4=>Ab rfl<|Nl<|sq ?_
 obtain ⟨x5,hx5,h⟩:=Za h
 refine Rg<|Zo lEnv_0 Zcj rfl<|Ld Zl 3 rfl<|Zo lEnv_0 Zcj rfl<|Ld Zl 4 rfl<|Ac (Z0l rfl rfl (vt rfl) (vt rfl)) rfl<|Md rfl<|Gd rfl (fun hq=>Z2e lEnv_1 rfl rfl Z8e (vt rfl))<|Gd rfl (fun hq=>Z22 rfl rfl Z8y (Z8 rfl hq) (i:=3) rfl)<|Gd rfl (fun hq=>Z2e lEnv_1 rfl rfl Z8e (vt rfl))<|Gd rfl (fun hq=>Z22 rfl rfl Z8y (Z8 rfl hq) (i:=4) rfl)<|Gd rfl (fun hq=>Z0i (xs:=[.tmp 12,.tmp 14]) (Zeb _ _ _ (Z1i hx5 hq)) e30 rfl rfl ⟨Z8 rfl hq,Z8 rfl hq,trivial⟩)<|Ac (Z0y rfl rfl (vt rfl) (vt rfl)) rfl<|As rfl<|Nl<|rt ?_
 cases h;exact Z9 Try.results12 rfl (Zg rfl)
def Z7x (y1:Env)(x2:Env):Option Bool:=
 (Z9q x2 y1).bind fun x4=>some x4
theorem Zlf:Q2 Try.prog 11 (rd Zn) (rp Zn) (rd Z5) Z7x:=fun y1 x2 r h=>I0 Try.func11 rfl Try.ntmps11 rfl fun w H=>by
 unfold Z7x at h
 refine SR<|Cv rfl (Z00 3 rfl rfl (vt rfl)) fun g3=>Ab rfl<|Nl<|sq ?_
 obtain ⟨x4,hx4,h⟩:=Za h
 refine Rg<|Lp1 Z1h rfl<|Ld Z1h 3 rfl<|Cl [4,5] (Zn6 _ _ _ hx4) e12 rfl<|As rfl<|Nl<|rt ?_
 cases h;exact Z9 Try.results11 rfl (Zg rfl)
def Z5o (s1:(List Env))(x2:(Env→Option Bool)):Nat→Nat→Option Int
 | 0,i3=>some (-1)
 | m4+1,i3=>(lget s1 (i3:Int)).bind fun x5=>(x2 x5).bind fun x6=>(bif x6 then some (i3:Int) else (Z5o s1 x2 m4) (i3+1))
def Z8s (s1:(List Env))(x2:(Env→Option Bool)):Option Int:=
 Z5o s1 x2 ((s1.length:Int):Int).toNat 0
theorem Znk:Q2 Try.prog 38 (rd (Z2 Zn)) (fn1 Try.prog Zn Z5) (rd (Z0 .i64)) Z8s:=fun s1 x2 r h=>I0 Try.func38 rfl Try.ntmps38 rfl fun w H=>by
 unfold Z8s at h
 refine SR<|Ak rfl<|Nl<|sq<|SR<|Md rfl<|Ac (Z0a rfl rfl Zcb (vt rfl)) rfl<|Mk rfl<|Nl<|bk<|LG (d:=[]) (ν:=Nat×Nat) (fun (m4,i3)=>(Cnt (s1.length:Int) i3 m4∧Z5o s1 x2 m4 i3=some r,m4,[(0,rd (Z2 Zn) s1),(1,fn1 Try.prog Zn Z5 x2),(7,rd (Z0 .i64) (s1.length:Int)),(8,rd (Z0 .i64) (i3:Int))],[])) (((s1.length:Int):Int).toNat,0) ⟨Cnt.start _,h⟩ (FX rfl) ?_
 rintro ⟨m4,i3⟩ ⟨hsf1,h⟩
 dsimp only at hsf1 h ⊢
 cases m4 with
 | zero=>
  unfold Z5o at h
  refine SR<|Ac (Zh rfl rfl (vt rfl) (vt rfl)) rfl<|Nl<|sq<|Cn rfl (fun hc=>absurd (of_decide_eq_true hc) hsf1.zero) (fun hc=>?_)
  refine xt<|SR<|Ak rfl<|Nl<|rt ?_
  cases h;exact Z9 Try.results38 rfl (Zg rfl)
 | succ m4=>
  unfold Z5o at h
  refine SR<|Ac (Zh rfl rfl (vt rfl) (vt rfl)) rfl<|Nl<|sq<|Cn rfl (fun hc=>?_) (fun hc=>absurd hsf1.succ (of_decide_eq_false hc))
  have hlti3:=of_decide_eq_true hc
  refine sk<|sq<|bk<|SR<|Md rfl<|As rfl<|Nl<|sq ?_
  obtain ⟨x5,hx5,x6,hx6,h⟩:=bs2 h
  refine Rg<|Ac (Ze (A:=fn1 Try.prog Zn Z5 x2) rfl rfl (vt rfl)) rfl<|Md rfl<|Md rfl<|Ac (Z0e rfl rfl Zcb (vt rfl) (vt rfl) hx5) rfl<|Lp1 Z1h rfl<|Ac (Z48 hx6 rfl rfl (vt rfl) (vt rfl)) rfl<|Nl<|Cq rfl h (fun h=>?_) (fun h=>?_)
  ·refine SR<|Md rfl<|As rfl<|Nl<|rt ?_
   cases h;exact Z9 Try.results38 rfl (Zg rfl)
  ·refine sk<|Rg<|Ac (Z10 (t:=7) rfl rfl (vt rfl) (vk rfl) (vt rfl) hlti3) rfl<|Md rfl<|Nl ?_
   exact ⟨(_,_),Nat.lt_succ_self _,⟨hsf1.next,h⟩,FX rfl⟩
def Zb8 (s1:(List Env))(x2:(Env→Option Bool)):Option Bool:=
 (Z8s s1 x2).bind fun x3=>some (decide (x3≥0))
theorem Zse:Q2 Try.prog 9 (rd (Z2 Zn)) (fn1 Try.prog Zn Z5) (rd Z5) Zb8:=fun s1 x2 r h=>I0 Try.func9 rfl Try.ntmps9 rfl fun w H=>by
 unfold Zb8 at h
 refine SR<|Ab rfl<|Nl<|sq ?_
 obtain ⟨x3,hx3,h⟩:=Za h
 refine Rg<|Md rfl<|Ac (Ze (A:=fn1 Try.prog Zn Z5 x2) rfl rfl (vt rfl)) rfl<|Cl [5,6] (Znk _ _ _ hx3) e38 rfl<|Ac (Z33 rfl rfl (vt rfl) (vk rfl)) rfl<|As rfl<|Nl<|rt ?_
 cases h;exact Z9 Try.results9 rfl (Zg rfl)
end Go.Proofs.Ytknpgojdkobgjaa.W
set_option maxRecDepth 4000
namespace Go.Proofs.Ytknpgojdkobgjaa.W
open Go Go.Wb
theorem e71:Ent Try.prog 71:=Ent.mk Try.func71 rfl rfl
theorem e72:Ent Try.prog 72:=Ent.mk Try.func72 rfl rfl
theorem Ztq:Ent Try.prog 102:=Ent.mk Try.func102 rfl rfl
theorem e73:Ent Try.prog 73:=Ent.mk Try.func73 rfl rfl
theorem e40:Ent Try.prog 40:=Ent.mk Try.func40 rfl rfl
theorem e74:Ent Try.prog 74:=Ent.mk Try.func74 rfl rfl
def Z7b (l1:(List Group))(i2:Int):Nat→Int→Option Int
 | 0,_=>none
 | m5+1,i4=>(bif (decide (i4<(l1.length:Int))) then (lget l1 i4).bind fun x6=>(bif (decide (x6.ID=i2)) then some i4 else (Z7b l1 i2 m5) (IntKind.i64.wrap (i4+1))) else some (-1))
def Z73 (l1:(List Group))(i2:Int):Option Int:=
 Z7b l1 i2 ((((l1.length:Int):Int) - 0).toNat+1) 0
theorem Zd7:Q2 Try.prog 40 (rd (Z2 Zd)) (rd (Z0 .i64)) (rd (Z0 .i64)) Z73:=fun l1 i2 r h=>I0 Try.func40 rfl Try.ntmps40 rfl fun w H=>by
 unfold Z73 at h
 refine SR<|Ak rfl<|Nl<|sq<|SR<|Ak rfl<|Nl<|bk<|LG (d:=[]) (ν:=Nat×Int) (fun (m5,i4)=>(True∧Z7b l1 i2 m5 i4=some r,m5,[(0,rd (Z2 Zd) l1),(1,rd (Z0 .i64) i2),(5,rd (Z0 .i64) i4)],[])) (((((l1.length:Int):Int) - 0).toNat+1),0) ⟨trivial,h⟩ (FX rfl) ?_
 rintro ⟨m5,i4⟩ ⟨hsf1,h⟩
 dsimp only at h ⊢
 cases m5 with
 | zero=>cases h
 | succ m5=>
  unfold Z7b at h
  refine sq<|SR<|Md rfl<|Md rfl<|Ac (Z0a rfl rfl Z0f (vt rfl)) rfl<|Ac (Zh rfl rfl (vt rfl) (vt rfl)) rfl<|Nl<|Cq rfl h (fun h=>?_) (fun h=>?_)
  ·refine sk<|sq<|bk<|sq ?_
   obtain ⟨x6,hx6,h⟩:=Za h
   refine Rg<|Md rfl<|Md rfl<|Ac (Z0e rfl rfl Z0f (vt rfl) (vt rfl) hx6) rfl<|Fp Z4d Z68 rfl<|Lp1 Zl rfl<|Md rfl<|Ac (Z0l rfl rfl (vt rfl) (vt rfl)) rfl<|Nl<|Cq rfl h (fun h=>?_) (fun h=>?_)
   ·refine SR<|Md rfl<|As rfl<|Nl<|rt ?_
    cases h;exact Z9 Try.results40 rfl (Zg rfl)
   ·refine sk<|Rg<|Md rfl<|Ac (Zx rfl rfl (vt rfl) (vk rfl)) rfl<|As rfl<|Nl ?_
    exact ⟨(_,_),Nat.lt_succ_self _,⟨trivial,h⟩,FX rfl⟩
  ·refine xt<|SR<|Ak rfl<|Nl<|rt ?_
   cases h;exact Z9 Try.results40 rfl (Zg rfl)
def Z30 (x1:Int):Option Fault:=
 some (⟨true,6,x1⟩:Fault)
theorem Z4v:Q1 Try.prog 71 (rd (Z0 .i64)) (rd Z2q) Z30:=fun x1 r h=>I0 Try.func71 rfl Try.ntmps71 rfl fun w H=>by
 unfold Z30 at h
 refine SR<|Cv rfl (Z05 3 rfl rfl Z6b) fun g2=>Nl<|SR<|Md rfl<|Ac (opb (⟨true,6,x1⟩:Fault) Z6b rfl Zea (pc Zpb vb<|pc Znj (vk rfl)<|pc Ztt (vt rfl)<|pn rfl)) rfl<|Zs Z0t 3 rfl<|Nl<|rt ?_
 cases h;exact Z9 Try.results71 rfl (Z09 rfl (i:=3) rfl Z0t)
def Z8w (k1:Int)(x2:Bucket):Option Fault:=
 (bif (decide (x2.WatchGroup≠4294967295)) then (Z30 6).bind fun x5=>some x5 else (bif ((decide (k1=1))&&(decide (x2.Weight≠1))) then (Z30 2).bind fun x6=>some x6 else (bif ((decide (k1≠1))&&(decide (x2.Weight≠0))) then (Z30 1).bind fun x7=>some x7 else (bif ((decide (k1=3))&&((decide (x2.Watch<1))||(decide (x2.Watch>6)))) then (Z30 13).bind fun x8=>some x8 else (bif ((decide (k1≠3))&&(decide (x2.Watch≠4294967295))) then (Z30 13).bind fun x9=>some x9 else some (⟨false,0,0⟩:Fault))))))
theorem Zqi:Q2 Try.prog 72 (rd (Z0 .i64)) (rd Z03) (rd Z2q) Z8w:=fun k1 x2 r h=>I0 Try.func72 rfl Try.ntmps72 rfl fun w H=>by
 unfold Z8w at h
 refine SR<|Cv rfl (Z00 4 rfl rfl (vt rfl)) fun g3=>Cv rfl (Z05 5 rfl rfl Z6b) fun g4=>Nl<|sq<|bk<|SR<|Zo Zfr Zrg rfl<|Ld Zl 4 rfl<|Ac (Z1x rfl rfl (vt rfl) (vk rfl)) rfl<|As rfl<|Nl<|Cq rfl h (fun h=>?_) (fun h=>?_)
 ·refine sq ?_
  obtain ⟨x5,hx5,h⟩:=Za h
  refine Rg<|Ac (Z0i (xs:=[.const (Value.int IntKind.i64 6)]) (Z4v _ _ hx5) e71 rfl rfl ⟨vk rfl,trivial⟩) rfl<|Zs Z0t 5 rfl<|Nl<|rt ?_
  cases h;exact Z9 Try.results72 rfl (Z09 rfl (i:=5) rfl Z0t)
 ·refine SR<|Md rfl<|Ac (Z0l rfl rfl (vt rfl) (vk rfl)) rfl<|Md rfl<|Gd rfl (fun hq=>Z2e Ze6 rfl rfl Zhy (vt rfl))<|Gd rfl (fun hq=>Z22 rfl rfl Zl (Z8 rfl hq) (i:=4) rfl)<|Gd rfl (fun hq=>Z1x rfl rfl (Z8 rfl hq) (vk rfl))<|Ac (Z0y rfl rfl (vt rfl) (vt rfl)) rfl<|As rfl<|Nl<|Cq rfl h (fun h=>?_) (fun h=>?_)
  ·refine sq ?_
   obtain ⟨x6,hx6,h⟩:=Za h
   refine Rg<|Ac (Z0i (xs:=[.const (Value.int IntKind.i64 2)]) (Z4v _ _ hx6) e71 rfl rfl ⟨vk rfl,trivial⟩) rfl<|Zs Z0t 5 rfl<|Nl<|rt ?_
   cases h;exact Z9 Try.results72 rfl (Z09 rfl (i:=5) rfl Z0t)
  ·refine SR<|Md rfl<|Ac (Z1x rfl rfl (vt rfl) (vk rfl)) rfl<|Md rfl<|Gd rfl (fun hq=>Z2e Ze6 rfl rfl Zhy (vt rfl))<|Gd rfl (fun hq=>Z22 rfl rfl Zl (Z8 rfl hq) (i:=4) rfl)<|Gd rfl (fun hq=>Z1x rfl rfl (Z8 rfl hq) (vk rfl))<|Ac (Z0y rfl rfl (vt rfl) (vt rfl)) rfl<|As rfl<|Nl<|Cq rfl h (fun h=>?_) (fun h=>?_)
   ·refine sq ?_
    obtain ⟨x7,hx7,h⟩:=Za h
    refine Rg<|Ac (Z0i (xs:=[.const (Value.int IntKind.i64 1)]) (Z4v _ _ hx7) e71 rfl rfl ⟨vk rfl,trivial⟩) rfl<|Zs Z0t 5 rfl<|Nl<|rt ?_
    cases h;exact Z9 Try.results72 rfl (Z09 rfl (i:=5) rfl Z0t)
   ·refine SR<|Md rfl<|Ac (Z0l rfl rfl (vt rfl) (vk rfl)) rfl<|Md rfl<|Gd rfl (fun hq=>Z2e lBucket_1 rfl rfl Z91 (vt rfl))<|Gd rfl (fun hq=>Z22 rfl rfl Zl (Z8 rfl hq) (i:=4) rfl)<|Gd rfl (fun hq=>Zh rfl rfl (Z8 rfl hq) (vk rfl))<|AOps.consG (OpG.guardX rfl rfl rfl rfl rfl fun hq=>Ze (A:=rd Z5 (decide (x2.Watch<1))) rfl rfl (Z8 rfl hq))<|AOps.consG (OpG.guardN rfl rfl rfl rfl rfl fun hq=>Z2e lBucket_1 rfl rfl Z91 (vt rfl))<|AOps.consG (OpG.guardN rfl rfl rfl rfl rfl fun hq=>Z22 rfl rfl Zl (Z8 rfl hq) (i:=4) rfl)<|AOps.consG (OpG.guardN rfl rfl rfl rfl rfl fun hq=>Z2a rfl rfl (Z8 rfl hq) (vk rfl))<|Gd rfl (fun hq=>Z2t rfl rfl (vgx rfl hq) (vgw rfl hq))<|Ac (Z0y rfl rfl (vt rfl) (vt rfl)) rfl<|As rfl<|Nl<|Cq rfl h (fun h=>?_) (fun h=>?_)
    ·refine sq ?_
     obtain ⟨x8,hx8,h⟩:=Za h
     refine Rg<|Ac (Z0i (xs:=[.const (Value.int IntKind.i64 13)]) (Z4v _ _ hx8) e71 rfl rfl ⟨vk rfl,trivial⟩) rfl<|Zs Z0t 5 rfl<|Nl<|rt ?_
     cases h;exact Z9 Try.results72 rfl (Z09 rfl (i:=5) rfl Z0t)
    ·refine SR<|Md rfl<|Ac (Z1x rfl rfl (vt rfl) (vk rfl)) rfl<|Md rfl<|Gd rfl (fun hq=>Z2e lBucket_1 rfl rfl Z91 (vt rfl))<|Gd rfl (fun hq=>Z22 rfl rfl Zl (Z8 rfl hq) (i:=4) rfl)<|Gd rfl (fun hq=>Z1x rfl rfl (Z8 rfl hq) (vk rfl))<|Ac (Z0y rfl rfl (vt rfl) (vt rfl)) rfl<|As rfl<|Nl<|Cq rfl h (fun h=>?_) (fun h=>?_)
     ·refine sq ?_
      obtain ⟨x9,hx9,h⟩:=Za h
      refine Rg<|Ac (Z0i (xs:=[.const (Value.int IntKind.i64 13)]) (Z4v _ _ hx9) e71 rfl rfl ⟨vk rfl,trivial⟩) rfl<|Zs Z0t 5 rfl<|Nl<|rt ?_
      cases h;exact Z9 Try.results72 rfl (Z09 rfl (i:=5) rfl Z0t)
     ·refine sk<|SR<|Ac (opb (⟨false,0,0⟩:Fault) Z6b rfl Zea (pn rfl)) rfl<|Zs Z0t 5 rfl<|Nl<|rt ?_
      cases h;exact Z9 Try.results72 rfl (Z09 rfl (i:=5) rfl Z0t)
def Z78 (l2:(List Bucket))(k1:Int):Nat→Int→Option Fault
 | 0,_=>none
 | m9+1,i8=>(bif (decide (i8<(l2.length:Int))) then (lget l2 i8).bind fun x10=>(Z8w k1 x10).bind fun x11=>(bif x11.Is then some x11 else (Z78 l2 k1 m9) (IntKind.i64.wrap (i8+1))) else some (⟨false,0,0⟩:Fault))
def Z8i (k1:Int)(l2:(List Bucket)):Option Fault:=
 (bif ((decide (k1<0))||(decide (k1>3))) then (Z30 10).bind fun x4=>some x4 else (bif (decide ((l2.length:Int)>4)) then (Z30 4).bind fun x5=>some x5 else (bif ((decide (k1=2))&&(decide ((l2.length:Int)≠1))) then (Z30 1).bind fun x6=>some x6 else Z78 l2 k1 ((((l2.length:Int):Int) - 0).toNat+1) 0)))
theorem Znl:Q2 Try.prog 41 (rd (Z0 .i64)) (rd (Z2 Z03)) (rd Z2q) Z8i:=fun k1 l2 r h=>I0 Try.func41 rfl Try.ntmps41 rfl fun w H=>by
 unfold Z8i at h
 refine SR<|Cv rfl (Z05 5 rfl rfl Z6b) fun g3=>Nl<|sq<|bk<|SR<|Md rfl<|Ac (Zh rfl rfl (vt rfl) (vk rfl)) rfl<|Md rfl<|Gd rfl (fun hq=>Ze (A:=rd (Z0 .i64) k1) rfl rfl (vt rfl))<|Gd rfl (fun hq=>Z2a rfl rfl (Z8 rfl hq) (vk rfl))<|Ac (Z2t rfl rfl (vt rfl) (vt rfl)) rfl<|As rfl<|Nl<|Cq rfl h (fun h=>?_) (fun h=>?_)
 ·refine sq ?_
  obtain ⟨x4,hx4,h⟩:=Za h
  refine Rg<|Ac (Z0i (xs:=[.const (Value.int IntKind.i64 10)]) (Z4v _ _ hx4) e71 rfl rfl ⟨vk rfl,trivial⟩) rfl<|Zs Z0t 5 rfl<|Nl<|rt ?_
  cases h;exact Z9 Try.results41 rfl (Z09 rfl (i:=5) rfl Z0t)
 ·refine SR<|Md rfl<|Ac (Z0a rfl rfl Z18 (vt rfl)) rfl<|Ac (Z2a rfl rfl (vt rfl) (vk rfl)) rfl<|As rfl<|Nl<|Cq rfl h (fun h=>?_) (fun h=>?_)
  ·refine sq ?_
   obtain ⟨x5,hx5,h⟩:=Za h
   refine Rg<|Ac (Z0i (xs:=[.const (Value.int IntKind.i64 4)]) (Z4v _ _ hx5) e71 rfl rfl ⟨vk rfl,trivial⟩) rfl<|Zs Z0t 5 rfl<|Nl<|rt ?_
   cases h;exact Z9 Try.results41 rfl (Z09 rfl (i:=5) rfl Z0t)
  ·refine SR<|Md rfl<|Ac (Z0l rfl rfl (vt rfl) (vk rfl)) rfl<|Md rfl<|Gd rfl (fun hq=>Ze (A:=rd (Z2 Z03) l2) rfl rfl (vt rfl))<|Gd rfl (fun hq=>Z0a rfl rfl Z18 (Z8 rfl hq))<|Gd rfl (fun hq=>Z1x rfl rfl (Z8 rfl hq) (vk rfl))<|Ac (Z0y rfl rfl (vt rfl) (vt rfl)) rfl<|As rfl<|Nl<|Cq rfl h (fun h=>?_) (fun h=>?_)
   ·refine sq ?_
    obtain ⟨x6,hx6,h⟩:=Za h
    refine Rg<|Ac (Z0i (xs:=[.const (Value.int IntKind.i64 1)]) (Z4v _ _ hx6) e71 rfl rfl ⟨vk rfl,trivial⟩) rfl<|Zs Z0t 5 rfl<|Nl<|rt ?_
    cases h;exact Z9 Try.results41 rfl (Z09 rfl (i:=5) rfl Z0t)
   ·refine sk<|sq<|SR<|Ak rfl<|Nl<|bk<|LG (d:=[]) (ν:=Nat×Int) (fun (m9,i8)=>(True∧Z78 l2 k1 m9 i8=some r,m9,[(0,rd (Z0 .i64) k1),(1,rd (Z2 Z03) l2),(4,Zp g3 (Lens.id Z2q)),(5,rd (Z0 .i64) i8)],[(5,Blk g3 83 Z2q Zd0)])) (((((l2.length:Int):Int) - 0).toNat+1),0) ⟨trivial,h⟩ (FX rfl) ?_
    rintro ⟨m9,i8⟩ ⟨hsf1,h⟩
    dsimp only at h ⊢
    cases m9 with
    | zero=>cases h
    | succ m9=>
     unfold Z78 at h
     refine sq<|SR<|Md rfl<|Md rfl<|Ac (Z0a rfl rfl Z18 (vt rfl)) rfl<|Ac (Zh rfl rfl (vt rfl) (vt rfl)) rfl<|Nl<|Cq rfl h (fun h=>?_) (fun h=>?_)
     ·refine sk<|sq<|bk<|sq ?_
      obtain ⟨x10,hx10,x11,hx11,h⟩:=bs2 h
      refine Rg<|Md rfl<|Md rfl<|Md rfl<|Ac (Z0e rfl rfl Z18 (vt rfl) (vt rfl) hx10) rfl<|Lp1 Zbh rfl<|Cl [35,39] (Zqi _ _ _ hx11) e72 rfl<|Cv rfl (Z05 7 rfl rfl Z6b) fun g12=>Zs Z0t 7 rfl<|Nl<|SR<|Zo lFault_0 Zk9 rfl<|Ld ty4 7 rfl<|Nl<|Cq rfl h (fun h=>?_) (fun h=>?_)
      ·refine SR<|Ld Z0t 7 rfl<|Zs Z0t 5 rfl<|Nl<|rt ?_
       cases h;exact Z9 Try.results41 rfl (Z09 rfl (i:=5) rfl Z0t)
      ·refine sk<|Rg<|Md rfl<|Ac (Zx rfl rfl (vt rfl) (vk rfl)) rfl<|As rfl<|Nl ?_
       exact ⟨(_,_),Nat.lt_succ_self _,⟨trivial,h⟩,FX rfl⟩
     ·refine xt<|SR<|Ac (opb (⟨false,0,0⟩:Fault) Z6b rfl Zea (pn rfl)) rfl<|Zs Z0t 5 rfl<|Nl<|rt ?_
      cases h;exact Z9 Try.results41 rfl (Z09 rfl (i:=5) rfl Z0t)
def Z65 (l1:(List Action)):Nat→(List Int)→Int→Option (List Int)
 | 0,_,_=>none
 | m9+1,l6,i8=>(bif (decide (i8<(l1.length:Int))) then (lget l1 i8).bind fun x10=>(bif (decide (x10.Kind=22)) then (lget l1 i8).bind fun x11=>(Z1j l6 [x11.Group]).bind fun l12=>(Z65 l1 m9) l12 (IntKind.i64.wrap (i8+1)) else (Z65 l1 m9) l6 (IntKind.i64.wrap (i8+1))) else some l6)
def Zby (l1:(List Action)):Option (List Int):=
 Z65 l1 ((((l1.length:Int):Int) - 0).toNat+1) [] 0
theorem Zqg:Q1 Try.prog 102 (rd (Z2 Z3)) (rd (Z2 (Z0 .i64))) Zby:=fun l1 r h=>I0 Try.func102 rfl Try.ntmps102 rfl fun w H=>by
 unfold Zby at h
 refine SR<|Ac (Z0d (A:=rd (Z2 (Z0 .i64)) []) rfl rfl Z1n) rfl<|Nl<|SR<|Cv rfl (Z81 1001 (ps:=[]) (l:=[]) rfl rfl Z06 zr3 rfl rfl rfl rfl) fun v2=>Aw rfl<|Nl<|sq<|SR<|Ak rfl<|Nl<|bk<|LG (d:=[]) (ν:=Nat×(List Int)×Int×Value) (fun (m9,l6,i8,v7)=>(True∧Z65 l1 m9 l6 i8=some r,m9,[(0,rd (Z2 Z3) l1),(3,Zc v7),(4,rd (Z0 .i64) i8)],[(1001,Zb v7 3 (Z0 .i64) l6)])) (((((l1.length:Int):Int) - 0).toNat+1),[],0,v2) ⟨trivial,h⟩ (FX rfl) ?_
 rintro ⟨m9,l6,i8,v7⟩ ⟨hsf1,h⟩
 dsimp only at h ⊢
 cases m9 with
 | zero=>cases h
 | succ m9=>
  unfold Z65 at h
  refine sq<|SR<|Md rfl<|Md rfl<|Ac (Z0a rfl rfl Z04 (vt rfl)) rfl<|Ac (Zh rfl rfl (vt rfl) (vt rfl)) rfl<|Nl<|Cq rfl h (fun h=>?_) (fun h=>?_)
  ·refine sk<|sq<|bk<|sq ?_
   obtain ⟨x10,hx10,h⟩:=Za h
   refine Rg<|Md rfl<|Md rfl<|Ac (Z0e rfl rfl Z04 (vt rfl) (vt rfl) hx10) rfl<|Fp Z38 Z3p rfl<|Lp1 Zl rfl<|Ac (Z0l rfl rfl (vt rfl) (vk rfl)) rfl<|Nl<|Cq rfl h (fun h=>?_) (fun h=>?_)
   ·obtain ⟨x11,hx11,l12,hl12,h⟩:=bs2 h
    refine Rg<|Mw rfl<|Md rfl<|Md rfl<|Ac (Z0e rfl rfl Z04 (vt rfl) (vt rfl) hx11) rfl<|Fp Zda Zfp rfl<|Lp1 Zl rfl<|Ac (osl Z06 zr3 rfl (vt rfl)) rfl<|Cv rfl (Z3i 1001 hl12 rfl rfl Z7g (vt rfl) rfl (vt rfl)) fun v13=>Aw rfl<|Nl<|Rg<|Md rfl<|Ac (Zx rfl rfl (vt rfl) (vk rfl)) rfl<|As rfl<|Nl ?_
    exact ⟨(_,_,_,_),Nat.lt_succ_self _,⟨trivial,h⟩,FX rfl⟩
   ·refine sk<|Rg<|Md rfl<|Ac (Zx rfl rfl (vt rfl) (vk rfl)) rfl<|As rfl<|Nl ?_
    exact ⟨(_,_,_,_),Nat.lt_succ_self _,⟨trivial,h⟩,FX rfl⟩
  ·refine xt<|SR<|Mw rfl<|Aw rfl<|Nl<|AW.freezes [2,3,26] 1001 rfl ⟨rfl,rfl,rfl,trivial⟩ rfl<|rt ?_
   cases h;exact Z9 Try.results102 rfl (Zg rfl)
def Z6r (l1:(List Bucket)):Nat→(List Int)→Int→Option (List Int)
 | 0,_,_=>none
 | m9+1,l6,i8=>(bif (decide (i8<(l1.length:Int))) then (lget l1 i8).bind fun x10=>(Zby x10.Acts).bind fun x11=>(Z1j l6 x11).bind fun l12=>(Z6r l1 m9) l12 (IntKind.i64.wrap (i8+1)) else some l6)
def Z8z (l1:(List Bucket)):Option (List Int):=
 Z6r l1 ((((l1.length:Int):Int) - 0).toNat+1) [] 0
theorem Zhe:Q1 Try.prog 73 (rd (Z2 Z03)) (rd (Z2 (Z0 .i64))) Z8z:=fun l1 r h=>I0 Try.func73 rfl Try.ntmps73 rfl fun w H=>by
 unfold Z8z at h
 refine SR<|Ac (Z0d (A:=rd (Z2 (Z0 .i64)) []) rfl rfl Z1n) rfl<|Nl<|SR<|Cv rfl (Z81 1001 (ps:=[]) (l:=[]) rfl rfl Z06 zr3 rfl rfl rfl rfl) fun v2=>Aw rfl<|Nl<|sq<|SR<|Ak rfl<|Nl<|bk<|LG (d:=[]) (ν:=Nat×(List Int)×Int×Value) (fun (m9,l6,i8,v7)=>(True∧Z6r l1 m9 l6 i8=some r,m9,[(0,rd (Z2 Z03) l1),(3,Zc v7),(4,rd (Z0 .i64) i8)],[(1001,Zb v7 3 (Z0 .i64) l6)])) (((((l1.length:Int):Int) - 0).toNat+1),[],0,v2) ⟨trivial,h⟩ (FX rfl) ?_
 rintro ⟨m9,l6,i8,v7⟩ ⟨hsf1,h⟩
 dsimp only at h ⊢
 cases m9 with
 | zero=>cases h
 | succ m9=>
  unfold Z6r at h
  refine sq<|SR<|Md rfl<|Md rfl<|Ac (Z0a rfl rfl Z18 (vt rfl)) rfl<|Ac (Zh rfl rfl (vt rfl) (vt rfl)) rfl<|Nl<|Cq rfl h (fun h=>?_) (fun h=>?_)
  ·refine sk<|sq<|bk ?_
   obtain ⟨x10,hx10,x11,hx11,l12,hl12,h⟩:=bs3 h
   refine Rg<|Mw rfl<|Md rfl<|Md rfl<|Ac (Z0e rfl rfl Z18 (vt rfl) (vt rfl) hx10) rfl<|Fp Z7n Zar rfl<|Lp1 Z9l rfl<|Cl [17] (Zqg _ _ hx11) Ztq rfl<|Cv rfl (Z3i 1001 hl12 rfl rfl Z7g (vt rfl) rfl (vt rfl)) fun v13=>Aw rfl<|Nl<|Rg<|Md rfl<|Ac (Zx rfl rfl (vt rfl) (vk rfl)) rfl<|As rfl<|Nl ?_
   exact ⟨(_,_,_,_),Nat.lt_succ_self _,⟨trivial,h⟩,FX rfl⟩
  ·refine xt<|SR<|Mw rfl<|Aw rfl<|Nl<|AW.freezes [2,3,20] 1001 rfl ⟨rfl,rfl,rfl,trivial⟩ rfl<|rt ?_
   cases h;exact Z9 Try.results73 rfl (Zg rfl)
def Z6h (x3:(List Int))(l1:(List Group)):Nat→Int→Option Bool
 | 0,_=>none
 | m6+1,i5=>(bif (decide (i5<(x3.length:Int))) then (lget x3 i5).bind fun x7=>(Z73 l1 x7).bind fun x8=>(bif (decide (x8<0)) then some false else (Z6h x3 l1 m6) (IntKind.i64.wrap (i5+1))) else some true)
def Zat (l1:(List Group))(b2:(List Bucket)):Option Bool:=
 (Z8z b2).bind fun x3=>Z6h x3 l1 ((((x3.length:Int):Int) - 0).toNat+1) 0
theorem Zow:Q2 Try.prog 42 (rd (Z2 Zd)) (rd (Z2 Z03)) (rd Z5) Zat:=fun l1 b2 r h=>I0 Try.func42 rfl Try.ntmps42 rfl fun w H=>by
 unfold Zat at h
 refine SR<|Ab rfl<|Nl<|sq ?_
 obtain ⟨x3,hx3,h⟩:=Za h
 refine Rg<|Md rfl<|Cl [7] (Zhe _ _ hx3) e73 rfl<|As rfl<|Nl<|sq<|SR<|Ak rfl<|Nl<|bk<|LG (d:=[]) (ν:=Nat×Int) (fun (m6,i5)=>(True∧Z6h x3 l1 m6 i5=some r,m6,[(0,rd (Z2 Zd) l1),(5,rd (Z2 (Z0 .i64)) x3),(6,rd (Z0 .i64) i5)],[])) (((((x3.length:Int):Int) - 0).toNat+1),0) ⟨trivial,h⟩ (FX rfl) ?_
 rintro ⟨m6,i5⟩ ⟨hsf1,h⟩
 dsimp only at h ⊢
 cases m6 with
 | zero=>cases h
 | succ m6=>
  unfold Z6h at h
  refine sq<|SR<|Md rfl<|Md rfl<|Ac (Z0a rfl rfl Z06 (vt rfl)) rfl<|Ac (Zh rfl rfl (vt rfl) (vt rfl)) rfl<|Nl<|Cq rfl h (fun h=>?_) (fun h=>?_)
  ·refine sk<|sq<|bk<|sq ?_
   obtain ⟨x7,hx7,x8,hx8,h⟩:=bs2 h
   refine Rg<|Md rfl<|Md rfl<|Md rfl<|Ac (Z0e rfl rfl Z06 (vt rfl) (vt rfl) hx7) rfl<|Lp1 Zl rfl<|Cl [15,19] (Zd7 _ _ _ hx8) e40 rfl<|Ac (Zh rfl rfl (vt rfl) (vk rfl)) rfl<|Nl<|Cq rfl h (fun h=>?_) (fun h=>?_)
   ·refine SR<|Ab rfl<|Nl<|rt ?_
    cases h;exact Z9 Try.results42 rfl (Zg rfl)
   ·refine sk<|Rg<|Md rfl<|Ac (Zx rfl rfl (vt rfl) (vk rfl)) rfl<|As rfl<|Nl ?_
    exact ⟨(_,_),Nat.lt_succ_self _,⟨trivial,h⟩,FX rfl⟩
  ·refine xt<|SR<|Ab rfl<|Nl<|rt ?_
   cases h;exact Z9 Try.results42 rfl (Zg rfl)
def Z5i (x15:(List Int))(l1:(List Group))(go1:(List Bool)→(List Int)→Option (List Bool)):Nat→(List Bool)→(List Int)→Int→Option (List Bool)
 | 0,_,_,_=>none
 | m26+1,l22,l23,i25=>(bif (decide (i25<(x15.length:Int))) then (lget x15 i25).bind fun x27=>(Z73 l1 x27).bind fun x28=>(opt (decide (x28≥0)) (lget l22 x28)).bind fun x29=>(bif ((decide (x28≥0))&&(!x29)) then (lget l22 x28).bind fun x30=>(Z1j l23 [x28]).bind fun l31=>(Z5i x15 l1 go1 m26) (List.set l22 x28.toNat true) l31 (IntKind.i64.wrap (i25+1)) else (Z5i x15 l1 go1 m26) l22 l23 (IntKind.i64.wrap (i25+1))) else go1 l22 l23)
def Z4x (l1:(List Group)):Nat→(List Bool)→(List Int)→Option (List Bool)
 | 0,_,_=>none
 | m12+1,l9,l10=>(bif (decide ((l10.length:Int)>0)) then (lget l10 0).bind fun x13=>(lget l1 x13).bind fun x14=>(Z8z x14.Buckets).bind fun x15=>(Z2m l10 1).bind fun s16=>Z5i x15 l1 (Z4x l1 m12) ((((x15.length:Int):Int) - 0).toNat+1) l9 s16 0 else some l9)
def Zal (l1:(List Group))(x2:Int):Option (List Bool):=
 (omk (l1.length:Int)).bind fun u3=>Z4x l1 Z1p (List.replicate (l1.length:Int).toNat false) [x2]
theorem Zrs:Q2 Try.prog 74 (rd (Z2 Zd)) (rd (Z0 .i64)) (rd (Z2 Z5)) Zal:=fun l1 x2 r h=>I0 Try.func74 rfl Try.ntmps74 rfl fun w H=>by
 unfold Zal at h
 refine SR<|Ac (Z0d (A:=rd (Z2 Z5) []) rfl rfl Z1n) rfl<|Nl<|sq ?_
 obtain ⟨u3,hu3,h⟩:=Za h
 refine Rg<|Md rfl<|Ac (Z0a rfl rfl Z0f (vt rfl)) rfl<|Cv rfl (Zsj 1001 hu3 rfl rfl Zrl zr4 (vt rfl) (vt rfl)) fun v4=>Aw rfl<|Nl<|SR<|Md rfl<|Cv rfl (Z81 1002 (ps:=[(0,.tmp 13)]) (l:=[x2]) rfl rfl Z06 zr3 rfl rfl ⟨_,_,Lens.idx 1 (Z0 .i64) 0 (by decide),_,rfl,(vt rfl),rfl⟩ rfl) fun v5=>Aw rfl<|Nl<|AW.toT 1002 rfl (Nat.succ_pos _)<|sq<|bk<|LG (d:=[]) (ν:=Nat×(List Bool)×(List Int)×Value) (fun (m12,l9,l10,v11)=>(True∧Z4x l1 m12 l9 l10=some r,m12,[(0,rd (Z2 Zd) l1),(5,Zc v4),(6,Zc v11)],[(1001,Zb v4 4 Z5 l9),(1002,Z2w v11 (Z0 .i64) l10)])) (Z1p,(List.replicate (l1.length:Int).toNat false),[x2],v5) ⟨trivial,h⟩ (FX rfl) ?_
 rintro ⟨m12,l9,l10,v11⟩ ⟨hsf1,h⟩
 dsimp only at h ⊢
 cases m12 with
 | zero=>cases h
 | succ m12=>
  unfold Z4x at h
  refine sq<|SR<|Mw rfl<|Ac (Zmb 1002 rfl rfl Z06 (vt rfl) rfl) rfl<|Ac (Z2a rfl rfl (vt rfl) (vk rfl)) rfl<|Nl<|Cq rfl h (fun h=>?_) (fun h=>?_)
  ·refine sk<|bk<|sq ?_
   obtain ⟨x13,hx13,x14,hx14,x15,hx15,h⟩:=bs3 h
   refine Rg<|Md rfl<|Mw rfl<|Ac (Zlu 1002 rfl rfl Z06 (vt rfl) rfl (vk rfl) hx13) rfl<|Ac (Zoj 1002 rfl rfl Zl (vt rfl) rfl (Z08 hx13).2) rfl<|Ac (Z0e rfl rfl Z0f (vt rfl) (vt rfl) hx14) rfl<|Fp lGroup_2 Z2l rfl<|Lp1 Z2o rfl<|Cl [24] (Zhe _ _ hx15) e73 rfl<|As rfl<|Nl<|sq ?_
   obtain ⟨s16,hs16,h⟩:=Za h
   refine Rg<|Mw rfl<|Cv rfl (Zm0 1002 hs16 rfl rfl Z06 (vt rfl) rfl (vk rfl)) fun v17=>Aw rfl<|Nl<|SR<|Ak rfl<|Nl<|bk<|LG (d:=[]) (ν:=Nat×(List Bool)×(List Int)×Int×Value) (fun (m26,l22,l23,i25,v24)=>(True∧Z5i x15 l1 (Z4x l1 m12) m26 l22 l23 i25=some r,m26,[(0,rd (Z2 Zd) l1),(5,Zc v4),(6,Zc v24),(7,rd (Z2 (Z0 .i64)) x15),(8,rd (Z0 .i64) i25)],[(1001,Zb v4 4 Z5 l22),(1002,Z2w v24 (Z0 .i64) l23)])) (((((x15.length:Int):Int) - 0).toNat+1),l9,s16,0,v17) ⟨trivial,h⟩ (FX rfl) ?_
   rintro ⟨m26,l22,l23,i25,v24⟩ ⟨hsf2,h⟩
   dsimp only at h ⊢
   cases m26 with
   | zero=>cases h
   | succ m26=>
    unfold Z5i at h
    refine sq<|SR<|Md rfl<|Md rfl<|Ac (Z0a rfl rfl Z06 (vt rfl)) rfl<|Ac (Zh rfl rfl (vt rfl) (vt rfl)) rfl<|Nl<|Cq rfl h (fun h=>?_) (fun h=>?_)
    ·refine sk<|sq<|bk<|sq ?_
     obtain ⟨x27,hx27,x28,hx28,h⟩:=bs2 h
     refine Rg<|Md rfl<|Md rfl<|Md rfl<|Ac (Z0e rfl rfl Z06 (vt rfl) (vt rfl) hx27) rfl<|Lp1 Zl rfl<|Cl [34,38] (Zd7 _ _ _ hx28) e40 rfl<|As rfl<|Nl<|sq ?_
     obtain ⟨x29,hx29,h⟩:=Za h
     refine Rg<|Md rfl<|Ac (Z33 rfl rfl (vt rfl) (vk rfl)) rfl<|Md rfl<|Gd rfl (fun hq=>Ze (A:=Zc v4) rfl rfl (vt rfl))<|Gd rfl (fun hq=>Ze (A:=rd (Z0 .i64) x28) rfl rfl (vt rfl))<|Gd rfl (fun hq=>Z1f 1001 rfl rfl Zdh (Z8 rfl hq) rfl (Z8 rfl hq) (Z1i hx29 hq))<|Gd rfl (fun hq=>Z1a 1001 rfl rfl ty4 (Z8 rfl hq) rfl (Z08 (Z1i hx29 hq)).2)<|Gd rfl (fun hq=>Z1g rfl rfl (Z8 rfl hq))<|Ac (Z0y rfl rfl (vt rfl) (vt rfl)) rfl<|Nl<|Cq rfl h (fun h=>?_) (fun h=>?_)
     ·refine sq ?_
      obtain ⟨x30,hx30,h⟩:=Za h
      refine Rg<|Mw rfl<|Md rfl<|Ac (Z1f 1001 rfl rfl Zdh (vt rfl) rfl (vt rfl) hx30) rfl<|Ac (Z25 1001 rfl rfl ty4 (vt rfl) rfl (Z08 hx30).2 vb) rfl<|Nl ?_
      obtain ⟨l31,hl31,h⟩:=Za h
      refine Rg<|Mw rfl<|Md rfl<|Ac (osl Z06 zr3 rfl (vt rfl)) rfl<|Cv rfl (Ztv 1002 hl31 rfl rfl Z7g (vt rfl) rfl (vt rfl)) fun v32=>Aw rfl<|Nl<|Rg<|Md rfl<|Ac (Zx rfl rfl (vt rfl) (vk rfl)) rfl<|As rfl<|Nl ?_
      exact ⟨(_,_,_,_,_),Nat.lt_succ_self _,⟨trivial,h⟩,FX rfl⟩
     ·refine sk<|Rg<|Md rfl<|Ac (Zx rfl rfl (vt rfl) (vk rfl)) rfl<|As rfl<|Nl ?_
      exact ⟨(_,_,_,_,_),Nat.lt_succ_self _,⟨trivial,h⟩,FX rfl⟩
    ·refine xt ?_
     exact ⟨(_,_,_,_),Nat.lt_succ_self _,⟨trivial,h⟩,FX rfl⟩
  ·refine xt<|SR<|Mw rfl<|Aw rfl<|Nl<|AW.freezes [4,5,56] 1001 rfl ⟨rfl,rfl,rfl,trivial⟩ rfl<|rt ?_
   cases h;exact Z9 Try.results74 rfl (Zg rfl)
def Z7d (l1:(List Group))(x5:(List Bool))(i3:Int)(go1:Int→Option Bool):Nat→Int→Option Bool
 | 0,_=>none
 | m8+1,j7=>(bif (decide (j7<(l1.length:Int))) then (lget x5 j7).bind fun x9=>(opt x9 (lget l1 j7)).bind fun x10=>(opt x9 (lget l1 i3)).bind fun x11=>(bif (x9&&(decide (x10.ID=x11.ID))) then some true else (Z7d l1 x5 i3 go1 m8) (IntKind.i64.wrap (j7+1))) else go1 (IntKind.i64.wrap (i3+1)))
def Z5v (l1:(List Group)):Nat→Int→Option Bool
 | 0,_=>none
 | m4+1,i3=>(bif (decide (i3<(l1.length:Int))) then (Zal l1 i3).bind fun x5=>Z7d l1 x5 i3 (Z5v l1 m4) ((((l1.length:Int):Int) - 0).toNat+1) 0 else some false)
def Zbg (l1:(List Group)):Option Bool:=
 Z5v l1 ((((l1.length:Int):Int) - 0).toNat+1) 0
theorem Zos:Q1 Try.prog 43 (rd (Z2 Zd)) (rd Z5) Zbg:=fun l1 r h=>I0 Try.func43 rfl Try.ntmps43 rfl fun w H=>by
 unfold Zbg at h
 refine SR<|Ab rfl<|Nl<|sq<|SR<|Ak rfl<|Nl<|bk<|LG (d:=[]) (ν:=Nat×Int) (fun (m4,i3)=>(True∧Z5v l1 m4 i3=some r,m4,[(0,rd (Z2 Zd) l1),(3,rd (Z0 .i64) i3)],[])) (((((l1.length:Int):Int) - 0).toNat+1),0) ⟨trivial,h⟩ (FX rfl) ?_
 rintro ⟨m4,i3⟩ ⟨hsf1,h⟩
 dsimp only at h ⊢
 cases m4 with
 | zero=>cases h
 | succ m4=>
  unfold Z5v at h
  refine sq<|SR<|Md rfl<|Md rfl<|Ac (Z0a rfl rfl Z0f (vt rfl)) rfl<|Ac (Zh rfl rfl (vt rfl) (vt rfl)) rfl<|Nl<|Cq rfl h (fun h=>?_) (fun h=>?_)
  ·refine sk<|sq<|bk<|sq ?_
   obtain ⟨x5,hx5,h⟩:=Za h
   refine Rg<|Md rfl<|Md rfl<|Cl [12,13] (Zrs _ _ _ hx5) e74 rfl<|As rfl<|Nl<|SR<|Ak rfl<|Nl<|bk<|LG (d:=[]) (ν:=Nat×Int) (fun (m8,j7)=>(True∧Z7d l1 x5 i3 (Z5v l1 m4) m8 j7=some r,m8,[(0,rd (Z2 Zd) l1),(3,rd (Z0 .i64) i3),(4,rd (Z2 Z5) x5),(5,rd (Z0 .i64) j7)],[])) (((((l1.length:Int):Int) - 0).toNat+1),0) ⟨trivial,h⟩ (FX rfl) ?_
   rintro ⟨m8,j7⟩ ⟨hsf2,h⟩
   dsimp only at h ⊢
   cases m8 with
   | zero=>cases h
   | succ m8=>
    unfold Z7d at h
    refine sq<|SR<|Md rfl<|Md rfl<|Ac (Z0a rfl rfl Z0f (vt rfl)) rfl<|Ac (Zh rfl rfl (vt rfl) (vt rfl)) rfl<|Nl<|Cq rfl h (fun h=>?_) (fun h=>?_)
    ·refine sk<|sq<|bk<|sq ?_
     obtain ⟨x9,hx9,x10,hx10,x11,hx11,h⟩:=bs3 h
     refine AR Z0n (by kernel_rfl)<|Zt rfl<|Zt rfl<|Sd (lo [21,22] [] rfl fun S hs hr=>Z0e rfl rfl Zdh (vh hs 21 rfl rfl) (vh hs 22 rfl rfl) hx9)<|SLp ty4 rfl<|Zt rfl<|Sd (lg [0,25] [] rfl fun hq S hs hr=>Ze (A:=rd (Z2 Zd) l1) rfl rfl (vh hs 0 rfl rfl))<|Sd (lg [5,25] [] rfl fun hq S hs hr=>Ze (A:=rd (Z0 .i64) j7) rfl rfl (vh hs 5 rfl rfl))<|Sd (lg [26,27,25] [] rfl fun hq S hs hr=>Z0e rfl rfl Z0f (Z8 ((hs 26 rfl).trans rfl) hq) (Z8 ((hs 27 rfl).trans rfl) hq) (Z1i hx10 hq))<|Sd (lg [28,25] [] rfl fun hq S hs hr=>Z2k Z4d rfl rfl Z68 (Z8 ((hs 28 rfl).trans rfl) hq))<|Sd (lg [29,25] [] rfl fun hq S hs hr=>Z2b rfl rfl Zl (Z8 ((hs 29 rfl).trans rfl) hq))<|Sd (lg [0,25] [] rfl fun hq S hs hr=>Ze (A:=rd (Z2 Zd) l1) rfl rfl (vh hs 0 rfl rfl))<|Sd (lg [3,25] [] rfl fun hq S hs hr=>Ze (A:=rd (Z0 .i64) i3) rfl rfl (vh hs 3 rfl rfl))<|Sd (lg [31,32,25] [] rfl fun hq S hs hr=>Z0e rfl rfl Z0f (Z8 ((hs 31 rfl).trans rfl) hq) (Z8 ((hs 32 rfl).trans rfl) hq) (Z1i hx11 hq))<|Sd (lg [33,25] [] rfl fun hq S hs hr=>Z2k Z4d rfl rfl Z68 (Z8 ((hs 33 rfl).trans rfl) hq))<|Sd (lg [34,25] [] rfl fun hq S hs hr=>Z2b rfl rfl Zl (Z8 ((hs 34 rfl).trans rfl) hq))<|Sd (lg [30,35,25] [] rfl fun hq S hs hr=>Z0l rfl rfl (Z8 ((hs 30 rfl).trans rfl) hq) (Z8 ((hs 35 rfl).trans rfl) hq))<|Sd (lo [36,25] [] rfl fun S hs hr=>Z0y rfl rfl (vh hs 25 rfl rfl) (vh hs 36 rfl rfl))<|Sn<|Cq rfl h (fun h=>?_) (fun h=>?_)
     ·refine SR<|Ab rfl<|Nl<|rt ?_
      cases h;exact Z9 Try.results43 rfl (Zg rfl)
     ·refine sk<|Rg<|Md rfl<|Ac (Zx rfl rfl (vt rfl) (vk rfl)) rfl<|As rfl<|Nl ?_
      exact ⟨(_,_),Nat.lt_succ_self _,⟨trivial,h⟩,FX rfl⟩
    ·refine xt<|Rg<|Md rfl<|Ac (Zx rfl rfl (vt rfl) (vk rfl)) rfl<|As rfl<|Nl ?_
     exact ⟨(_,_),Nat.lt_succ_self _,⟨trivial,h⟩,FX rfl⟩
  ·refine xt<|SR<|Ab rfl<|Nl<|rt ?_
   cases h;exact Z9 Try.results43 rfl (Zg rfl)
end Go.Proofs.Ytknpgojdkobgjaa.W
set_option maxRecDepth 4000
namespace Go.Proofs.Ytknpgojdkobgjaa.W
open Go Go.Wb
theorem e41:Ent Try.prog 41:=Ent.mk Try.func41 rfl rfl
theorem e42:Ent Try.prog 42:=Ent.mk Try.func42 rfl rfl
theorem e43:Ent Try.prog 43:=Ent.mk Try.func43 rfl rfl
theorem Zsv:Ent Try.prog 128:=Ent.mk Try.func128 rfl rfl
theorem Zl2:Ent Try.prog 138:=Ent.mk Try.func138 rfl rfl
theorem Zcx:Ent Try.prog 111:=Ent.mk Try.func111 rfl rfl
theorem Zpt:Ent Try.prog 129:=Ent.mk Try.func129 rfl rfl
theorem Zkk:Ent Try.prog 103:=Ent.mk Try.func103 rfl rfl
theorem Znh:Ent Try.prog 104:=Ent.mk Try.func104 rfl rfl
def Z6p (l1:(List Group)):Nat→Int→Option Bool
 | 0,_=>none
 | m4+1,i3=>(bif (decide (i3<(l1.length:Int))) then (lget l1 i3).bind fun x5=>(opt (!(decide (x5.ID<0))) (lget l1 i3)).bind fun x6=>(opt (!((decide (x5.ID<0))||(decide (x6.ID>4294967040)))) (lget l1 i3)).bind fun x7=>(opt (!((decide (x5.ID<0))||(decide (x6.ID>4294967040)))) (Z73 l1 x7.ID)).bind fun x8=>(opt (!(((decide (x5.ID<0))||(decide (x6.ID>4294967040)))||(decide (x8≠i3)))) (lget l1 i3)).bind fun x9=>(opt (!(((decide (x5.ID<0))||(decide (x6.ID>4294967040)))||(decide (x8≠i3)))) (lget l1 i3)).bind fun x10=>(opt (!(((decide (x5.ID<0))||(decide (x6.ID>4294967040)))||(decide (x8≠i3)))) (Z8i x9.Kind x10.Buckets)).bind fun x11=>(opt (!((((decide (x5.ID<0))||(decide (x6.ID>4294967040)))||(decide (x8≠i3)))||x11.Is)) (lget l1 i3)).bind fun x12=>(opt (!((((decide (x5.ID<0))||(decide (x6.ID>4294967040)))||(decide (x8≠i3)))||x11.Is)) (Zat l1 x12.Buckets)).bind fun x13=>(bif (((((decide (x5.ID<0))||(decide (x6.ID>4294967040)))||(decide (x8≠i3)))||x11.Is)||(!x13)) then some false else (Z6p l1 m4) (IntKind.i64.wrap (i3+1))) else (opt (decide ((l1.length:Int)≤8)) (Zbg l1)).bind fun x14=>some ((decide ((l1.length:Int)≤8))&&(!x14)))
def Zbk (l1:(List Group)):Option Bool:=
 Z6p l1 ((((l1.length:Int):Int) - 0).toNat+1) 0
theorem Zmu:Q1 Try.prog 13 (rd (Z2 Zd)) (rd Z5) Zbk:=fun l1 r h=>I0 Try.func13 rfl Try.ntmps13 rfl fun w H=>by
 unfold Zbk at h
 refine SR<|Ab rfl<|Nl<|sq<|SR<|Ak rfl<|Nl<|bk<|LG (d:=[]) (ν:=Nat×Int) (fun (m4,i3)=>(True∧Z6p l1 m4 i3=some r,m4,[(0,rd (Z2 Zd) l1),(3,rd (Z0 .i64) i3)],[])) (((((l1.length:Int):Int) - 0).toNat+1),0) ⟨trivial,h⟩ (FX rfl) ?_
 rintro ⟨m4,i3⟩ ⟨hsf1,h⟩
 dsimp only at h ⊢
 cases m4 with
 | zero=>cases h
 | succ m4=>
  unfold Z6p at h
  refine sq<|SR<|Md rfl<|Md rfl<|Ac (Z0a rfl rfl Z0f (vt rfl)) rfl<|Ac (Zh rfl rfl (vt rfl) (vt rfl)) rfl<|Nl<|Cq rfl h (fun h=>?_) (fun h=>?_)
  ·refine sk<|sq<|bk<|sq ?_
   obtain ⟨x5,hx5,x6,hx6,x7,hx7,x8,hx8,h⟩:=bs4 h
   obtain ⟨x9,hx9,x10,hx10,x11,hx11,x12,hx12,h⟩:=bs4 h
   obtain ⟨x13,hx13,h⟩:=Za h
   refine AR Z0n (by kernel_rfl)<|Zt rfl<|Zt rfl<|Sd (lo [10,11] [] rfl fun S hs hr=>Z0e rfl rfl Z0f (vh hs 10 rfl rfl) (vh hs 11 rfl rfl) hx5)<|SFp Z4d Z68 rfl<|SLp Zl rfl<|Sd (lo [14] [] rfl fun S hs hr=>Zh rfl rfl (vh hs 14 rfl rfl) (vk rfl))<|Zt rfl<|Sd (lg [0,16] [] rfl fun hq S hs hr=>Ze (A:=rd (Z2 Zd) l1) rfl rfl (vh hs 0 rfl rfl))<|Sd (lg [3,16] [] rfl fun hq S hs hr=>Ze (A:=rd (Z0 .i64) i3) rfl rfl (vh hs 3 rfl rfl))<|Sd (lg [17,18,16] [] rfl fun hq S hs hr=>Z0e rfl rfl Z0f (Z8 ((hs 17 rfl).trans rfl) hq) (Z8 ((hs 18 rfl).trans rfl) hq) (Z2v hx6 hq))<|Sd (lg [19,16] [] rfl fun hq S hs hr=>Z2k Z4d rfl rfl Z68 (Z8 ((hs 19 rfl).trans rfl) hq))<|Sd (lg [20,16] [] rfl fun hq S hs hr=>Z2b rfl rfl Zl (Z8 ((hs 20 rfl).trans rfl) hq))<|Sd (lg [21,16] [] rfl fun hq S hs hr=>Z2a rfl rfl (Z8 ((hs 21 rfl).trans rfl) hq) (vk rfl))<|Sd (lo [22,16] [] rfl fun S hs hr=>Z2t rfl rfl (vh hs 16 rfl rfl) (vh hs 22 rfl rfl))<|Zt rfl<|Sd (lg [0,24] [] rfl fun hq S hs hr=>Ze (A:=rd (Z2 Zd) l1) rfl rfl (vh hs 0 rfl rfl))<|Sd (lg [0,24] [] rfl fun hq S hs hr=>Ze (A:=rd (Z2 Zd) l1) rfl rfl (vh hs 0 rfl rfl))<|Sd (lg [3,24] [] rfl fun hq S hs hr=>Ze (A:=rd (Z0 .i64) i3) rfl rfl (vh hs 3 rfl rfl))<|Sd (lg [26,27,24] [] rfl fun hq S hs hr=>Z0e rfl rfl Z0f (Z8 ((hs 26 rfl).trans rfl) hq) (Z8 ((hs 27 rfl).trans rfl) hq) (Z2v hx7 hq))<|Sd (lg [28,24] [] rfl fun hq S hs hr=>Z2k Z4d rfl rfl Z68 (Z8 ((hs 28 rfl).trans rfl) hq))<|Sd (lg [29,24] [] rfl fun hq S hs hr=>Z2b rfl rfl Zl (Z8 ((hs 29 rfl).trans rfl) hq))<|Sd (lg [25,30,24] [] rfl fun hq S hs hr=>Z0i (xs:=[.tmp 25,.tmp 30]) (Zd7 _ _ _ (Z2v hx8 hq)) e40 rfl rfl ⟨Z8 ((hs 25 rfl).trans rfl) hq,Z8 ((hs 30 rfl).trans rfl) hq,trivial⟩)<|Sd (lg [3,24] [] rfl fun hq S hs hr=>Ze (A:=rd (Z0 .i64) i3) rfl rfl (vh hs 3 rfl rfl))<|Sd (lg [31,32,24] [] rfl fun hq S hs hr=>Z1x rfl rfl (Z8 ((hs 31 rfl).trans rfl) hq) (Z8 ((hs 32 rfl).trans rfl) hq))<|Sd (lo [33,24] [] rfl fun S hs hr=>Z2t rfl rfl (vh hs 24 rfl rfl) (vh hs 33 rfl rfl))<|Zt rfl<|Sd (lg [0,35] [] rfl fun hq S hs hr=>Ze (A:=rd (Z2 Zd) l1) rfl rfl (vh hs 0 rfl rfl))<|Sd (lg [3,35] [] rfl fun hq S hs hr=>Ze (A:=rd (Z0 .i64) i3) rfl rfl (vh hs 3 rfl rfl))<|Sd (lg [36,37,35] [] rfl fun hq S hs hr=>Z0e rfl rfl Z0f (Z8 ((hs 36 rfl).trans rfl) hq) (Z8 ((hs 37 rfl).trans rfl) hq) (Z2v hx9 hq))<|Sd (lg [38,35] [] rfl fun hq S hs hr=>Z2k lGroup_1 rfl rfl Zdd (Z8 ((hs 38 rfl).trans rfl) hq))<|Sd (lg [39,35] [] rfl fun hq S hs hr=>Z2b rfl rfl Zl (Z8 ((hs 39 rfl).trans rfl) hq))<|Sd (lg [0,35] [] rfl fun hq S hs hr=>Ze (A:=rd (Z2 Zd) l1) rfl rfl (vh hs 0 rfl rfl))<|Sd (lg [3,35] [] rfl fun hq S hs hr=>Ze (A:=rd (Z0 .i64) i3) rfl rfl (vh hs 3 rfl rfl))<|Sd (lg [41,42,35] [] rfl fun hq S hs hr=>Z0e rfl rfl Z0f (Z8 ((hs 41 rfl).trans rfl) hq) (Z8 ((hs 42 rfl).trans rfl) hq) (Z2v hx10 hq))<|Sd (lg [43,35] [] rfl fun hq S hs hr=>Z2k lGroup_2 rfl rfl Z2l (Z8 ((hs 43 rfl).trans rfl) hq))<|Sd (lg [44,35] [] rfl fun hq S hs hr=>Z2b rfl rfl Z2o (Z8 ((hs 44 rfl).trans rfl) hq))<|Sd (lg [40,45,35] [] rfl fun hq S hs hr=>Z0i (xs:=[.tmp 40,.tmp 45]) (Znl _ _ _ (Z2v hx11 hq)) e41 rfl rfl ⟨Z8 ((hs 40 rfl).trans rfl) hq,Z8 ((hs 45 rfl).trans rfl) hq,trivial⟩)<|Sd (lg [46,35] [] rfl fun hq S hs hr=>Zgc lFault_0 rfl rfl Zk9 Zor ty4 rfl (Z8 ((hs 46 rfl).trans rfl) hq))<|Sd (lo [47,35] [] rfl fun S hs hr=>Z2t rfl rfl (vh hs 35 rfl rfl) (vh hs 47 rfl rfl))<|Zt rfl<|Sd (lg [0,49] [] rfl fun hq S hs hr=>Ze (A:=rd (Z2 Zd) l1) rfl rfl (vh hs 0 rfl rfl))<|Sd (lg [0,49] [] rfl fun hq S hs hr=>Ze (A:=rd (Z2 Zd) l1) rfl rfl (vh hs 0 rfl rfl))<|Sd (lg [3,49] [] rfl fun hq S hs hr=>Ze (A:=rd (Z0 .i64) i3) rfl rfl (vh hs 3 rfl rfl))<|Sd (lg [51,52,49] [] rfl fun hq S hs hr=>Z0e rfl rfl Z0f (Z8 ((hs 51 rfl).trans rfl) hq) (Z8 ((hs 52 rfl).trans rfl) hq) (Z2v hx12 hq))<|Sd (lg [53,49] [] rfl fun hq S hs hr=>Z2k lGroup_2 rfl rfl Z2l (Z8 ((hs 53 rfl).trans rfl) hq))<|Sd (lg [54,49] [] rfl fun hq S hs hr=>Z2b rfl rfl Z2o (Z8 ((hs 54 rfl).trans rfl) hq))<|Sd (lg [50,55,49] [] rfl fun hq S hs hr=>Z0i (xs:=[.tmp 50,.tmp 55]) (Zow _ _ _ (Z2v hx13 hq)) e42 rfl rfl ⟨Z8 ((hs 50 rfl).trans rfl) hq,Z8 ((hs 55 rfl).trans rfl) hq,trivial⟩)<|Sd (lg [56,49] [] rfl fun hq S hs hr=>Z1g rfl rfl (Z8 ((hs 56 rfl).trans rfl) hq))<|Sd (lo [57,49] [] rfl fun S hs hr=>Z2t rfl rfl (vh hs 49 rfl rfl) (vh hs 57 rfl rfl))<|Sn ?_
   refine Cq rfl h (fun h=>?_) (fun h=>?_)
   ·refine SR<|Ab rfl<|Nl<|rt ?_
    cases h;exact Z9 Try.results13 rfl (Zg rfl)
   ·refine sk<|Rg<|Md rfl<|Ac (Zx rfl rfl (vt rfl) (vk rfl)) rfl<|As rfl<|Nl ?_
    exact ⟨(_,_),Nat.lt_succ_self _,⟨trivial,h⟩,FX rfl⟩
  ·refine xt<|sq ?_
   obtain ⟨x14,hx14,h⟩:=Za h
   refine Rg<|Md rfl<|Ac (Z0a rfl rfl Z0f (vt rfl)) rfl<|Ac (Z66 rfl rfl (vt rfl) (vk rfl)) rfl<|Md rfl<|Gd rfl (fun hq=>Ze (A:=rd (Z2 Zd) l1) rfl rfl (vt rfl))<|Gd rfl (fun hq=>Z0i (xs:=[.tmp 63]) (Zos _ _ (Z1i hx14 hq)) e43 rfl rfl ⟨Z8 rfl hq,trivial⟩)<|Gd rfl (fun hq=>Z1g rfl rfl (Z8 rfl hq))<|Ac (Z0y rfl rfl (vt rfl) (vt rfl)) rfl<|As rfl<|Nl<|rt ?_
   cases h;exact Z9 Try.results13 rfl (Zg rfl)
def Za7 (x1:Group)(x2:Int):Option Bool:=
 some (decide (x1.ID=x2))
theorem Zn1:Q2 Try.prog 128 (rd Zd) (rp (Z0 .i64)) (rd Z5) Za7:=fun x1 x2 r h=>I0 Try.func128 rfl Try.ntmps128 rfl fun w H=>by
 unfold Za7 at h
 refine SR<|Cv rfl (Z00 3 rfl rfl (vt rfl)) fun g3=>Ab rfl<|Nl<|SR<|Zo Z4d Z68 rfl<|Ld Zl 3 rfl<|Lp1 Zl rfl<|Ac (Z0l rfl rfl (vt rfl) (vt rfl)) rfl<|As rfl<|Nl<|rt ?_
 cases h;exact Z9 Try.results128 rfl (Zg rfl)
def Zcn (l1:(List Group))(i2:Int):Option Int:=
 (Z67 l1 (fun x=>Za7 x i2)).bind fun x4=>some x4
theorem Zsl:Q2 Try.prog 103 (rd (Z2 Zd)) (rd (Z0 .i64)) (rd (Z0 .i64)) Zcn:=fun l1 i2 r h=>I0 Try.func103 rfl Try.ntmps103 rfl fun w H=>by
 unfold Zcn at h
 refine SR<|Cv rfl (Z00 4 rfl rfl (vt rfl)) fun g3=>Ak rfl<|Nl<|sq<|AW.freezeB 3 4 rfl rfl rfl ?_
 obtain ⟨x4,hx4,h⟩:=Za h
 refine Rg<|Md rfl<|Ac (Z3s (cs:=[.tmp 3]) (CAs:=[rp (Z0 .i64) i2]) (fun x=>Za7 x i2) rfl rfl Zsv ⟨vt rfl,trivial⟩ (fun x y h=>Zn1 _ _ y h)) rfl<|Cl [5,6] (Zf1 _ _ _ hx4) e60 rfl<|As rfl<|Nl<|rt ?_
 cases h;exact Z9 Try.results103 rfl (Zg rfl)
def Zc5 (s:List Bucket):Option (List Bucket):=Z1j [] s
theorem Zpo (s:List Bucket)(r:List Bucket)(h:Zc5 s=some r):Con Try.prog 138 [rd (Z2 Z03) s] emp (fun v=>Zc v) (fun v=>Zb v 68 Z03 r):=by
 refine Con.intro0 Try.func138 rfl Try.ntmps138 rfl fun w H=>?_
 unfold Zc5 at h
 refine AW.newnil 1001 68 Z03<|SR<|Ac (Z0d (A:=Zc (.slice none 0 0)) rfl rfl vc) rfl<|Nl<|sq<|SR<|Md rfl<|Ct rfl (Zd9 rfl rfl Z18 (vt rfl)) ?_
 rintro _ ⟨b,hb,rfl⟩
 refine Nl<|Cn rfl (fun hc=>?_) (fun hc=>?_)
 ·obtain rfl:=hb hc
  refine SR<|Ac (Z0d (A:=Zc (.slice none 0 0)) rfl rfl vc) rfl<|Nl<|rt ?_
  obtain rfl:=(Z86 h).2
  exact Z2c (i:=1001) Try.results138 rfl rfl rfl
 ·refine sk<|SR<|Cv rfl (Z81 1002 (ps:=[]) (l:=[]) rfl rfl Z18 Z5p rfl rfl rfl rfl) fun v1=>Md rfl<|Cv rfl (Z3i 1002 h rfl rfl Zqf (vt rfl) rfl (vt rfl)) fun v2=>Aw rfl<|Nl<|rt ?_
  exact Z2c (i:=1002) Try.results138 rfl rfl rfl
def Z4a (s:List Action):Option (List Action):=Z1j [] s
theorem Zes (s:List Action)(r:List Action)(h:Z4a s=some r):Con Try.prog 111 [rd (Z2 Z3) s] emp (fun v=>Zc v) (fun v=>Zb v 95 Z3 r):=by
 refine Con.intro0 Try.func111 rfl Try.ntmps111 rfl fun w H=>?_
 unfold Z4a at h
 refine AW.newnil 1001 95 Z3<|SR<|Ac (Z0d (A:=Zc (.slice none 0 0)) rfl rfl vc) rfl<|Nl<|sq<|SR<|Md rfl<|Ct rfl (Zd9 rfl rfl Z04 (vt rfl)) ?_
 rintro _ ⟨b,hb,rfl⟩
 refine Nl<|Cn rfl (fun hc=>?_) (fun hc=>?_)
 ·obtain rfl:=hb hc
  refine SR<|Ac (Z0d (A:=Zc (.slice none 0 0)) rfl rfl vc) rfl<|Nl<|rt ?_
  obtain rfl:=(Z86 h).2
  exact Z2c (i:=1001) Try.results111 rfl rfl rfl
 ·refine sk<|SR<|Cv rfl (Z81 1002 (ps:=[]) (l:=[]) rfl rfl Z04 Z70 rfl rfl rfl rfl) fun v1=>Md rfl<|Cv rfl (Z3i 1002 h rfl rfl Zj6 (vt rfl) rfl (vt rfl)) fun v2=>Aw rfl<|Nl<|rt ?_
  exact Z2c (i:=1002) Try.results111 rfl rfl rfl
theorem Zm4 (s:List Action)(r:List Action)(h:Z4a s=some r):PCon Try.prog 111 [rd (Z2 Z3) s] (rd (Z2 Z3) r):=PCon.of_row (Zes s r h)
def Z5a:Nat→Nat→(List Bucket)→Option (List Bucket)
 | 0,i6,l5=>some l5
 | m7+1,i6,l5=>(lget l5 (i6:Int)).bind fun x8=>(Z4a x8.Acts).bind fun x9=>(lget l5 (i6:Int)).bind fun x10=>(Z5a m7) (i6+1) (List.set l5 (i6:Int).toNat {x10 with Acts:=x9})
def Z94 (l1:(List Bucket)):Option (List Bucket):=
 (Zc5 l1).bind fun x2=>Z5a ((x2.length:Int):Int).toNat 0 x2
theorem Zss:Q1 Try.prog 129 (rd (Z2 Z03)) (rd (Z2 Z03)) Z94:=fun l1 r h=>I0 Try.func129 rfl Try.ntmps129 rfl fun w H=>by
 unfold Z94 at h
 refine SR<|Ac (Z0d (A:=rd (Z2 Z03) []) rfl rfl Z1n) rfl<|Nl<|sq ?_
 obtain ⟨x2,hx2,h⟩:=Za h
 refine Rg<|Md rfl<|Cv rfl (Z13 1001 (xs:=[.tmp 5]) (Zpo _ _ hx2) Zl2 rfl rfl ⟨vt rfl,trivial⟩ rfl) fun v3=>Aw rfl<|Nl<|sq<|SR<|Mw rfl<|Ac (Z6s 1001 rfl rfl Z18 (vt rfl) rfl) rfl<|Mk rfl<|Nl<|bk<|LG (d:=[]) (ν:=Nat×Nat×(List Bucket)) (fun (m7,i6,l5)=>(Cnt (x2.length:Int) i6 m7∧Z5a m7 i6 l5=some r,m7,[(3,Zc v3),(8,rd (Z0 .i64) (x2.length:Int)),(9,rd (Z0 .i64) (i6:Int))],[(1001,Zb v3 68 Z03 l5)])) (((x2.length:Int):Int).toNat,0,x2) ⟨Cnt.start _,h⟩ (FX rfl) ?_
 rintro ⟨m7,i6,l5⟩ ⟨hsf1,h⟩
 dsimp only at hsf1 h ⊢
 cases m7 with
 | zero=>
  unfold Z5a at h
  refine SR<|Ac (Zh rfl rfl (vt rfl) (vt rfl)) rfl<|Nl<|sq<|Cn rfl (fun hc=>absurd (of_decide_eq_true hc) hsf1.zero) (fun hc=>?_)
  refine xt<|SR<|Mw rfl<|Aw rfl<|Nl<|AW.freezes [2,3,23] 1001 rfl ⟨rfl,rfl,rfl,trivial⟩ rfl<|rt ?_
  cases h;exact Z9 Try.results129 rfl (Zg rfl)
 | succ m7=>
  unfold Z5a at h
  refine SR<|Ac (Zh rfl rfl (vt rfl) (vt rfl)) rfl<|Nl<|sq<|Cn rfl (fun hc=>?_) (fun hc=>absurd hsf1.succ (of_decide_eq_false hc))
  have hlti6:=of_decide_eq_true hc
  refine sk<|sq<|bk<|SR<|Md rfl<|As rfl<|Nl ?_
  obtain ⟨x8,hx8,x9,hx9,x10,hx10,h⟩:=bs3 h
  refine Rg<|Mw rfl<|Md rfl<|Mw rfl<|Md rfl<|Ac (Z1f 1001 rfl rfl Z18 (vt rfl) rfl (vt rfl) hx8) rfl<|Ac (Zcl Z7n rfl rfl Zar (vt rfl)) rfl<|Ac (Z1a 1001 rfl rfl Z9l (vt rfl) rfl (Z08 hx8).2) rfl<|Cl [18] (Zm4 _ _ hx9) Zcx rfl<|Ac (Z1f 1001 rfl rfl Z18 (vt rfl) rfl (vt rfl) hx10) rfl<|Ac (Zcl Z7n rfl rfl Zar (vt rfl)) rfl<|Ac (Z25 1001 rfl rfl Z9l (vt rfl) rfl (Z08 hx10).2 (vt rfl)) rfl<|Nl<|Rg<|Ac (Z10 (t:=8) rfl rfl (vt rfl) (vk rfl) (vt rfl) hlti6) rfl<|Md rfl<|Nl ?_
  exact ⟨(_,_,_),Nat.lt_succ_self _,⟨hsf1.next,h⟩,FX rfl⟩
def Z5z:Nat→Nat→(List Group)→Option (List Group)
 | 0,i6,l5=>some l5
 | m7+1,i6,l5=>(lget l5 (i6:Int)).bind fun x8=>(Z94 x8.Buckets).bind fun x9=>(lget l5 (i6:Int)).bind fun x10=>(Z5z m7) (i6+1) (List.set l5 (i6:Int).toNat {x10 with Buckets:=x9})
def Zap (l1:(List Group)):Option (List Group):=
 (Z82 l1).bind fun x2=>Z5z ((x2.length:Int):Int).toNat 0 x2
theorem Ztl:Q1 Try.prog 104 (rd (Z2 Zd)) (rd (Z2 Zd)) Zap:=fun l1 r h=>I0 Try.func104 rfl Try.ntmps104 rfl fun w H=>by
 unfold Zap at h
 refine SR<|Ac (Z0d (A:=rd (Z2 Zd) []) rfl rfl Z1n) rfl<|Nl<|sq ?_
 obtain ⟨x2,hx2,h⟩:=Za h
 refine Rg<|Md rfl<|Cv rfl (Z13 1001 (xs:=[.tmp 5]) (Zka _ _ hx2) e99 rfl rfl ⟨vt rfl,trivial⟩ rfl) fun v3=>Aw rfl<|Nl<|sq<|SR<|Mw rfl<|Ac (Z6s 1001 rfl rfl Z0f (vt rfl) rfl) rfl<|Mk rfl<|Nl<|bk<|LG (d:=[]) (ν:=Nat×Nat×(List Group)) (fun (m7,i6,l5)=>(Cnt (x2.length:Int) i6 m7∧Z5z m7 i6 l5=some r,m7,[(3,Zc v3),(8,rd (Z0 .i64) (x2.length:Int)),(9,rd (Z0 .i64) (i6:Int))],[(1001,Zb v3 63 Zd l5)])) (((x2.length:Int):Int).toNat,0,x2) ⟨Cnt.start _,h⟩ (FX rfl) ?_
 rintro ⟨m7,i6,l5⟩ ⟨hsf1,h⟩
 dsimp only at hsf1 h ⊢
 cases m7 with
 | zero=>
  unfold Z5z at h
  refine SR<|Ac (Zh rfl rfl (vt rfl) (vt rfl)) rfl<|Nl<|sq<|Cn rfl (fun hc=>absurd (of_decide_eq_true hc) hsf1.zero) (fun hc=>?_)
  refine xt<|SR<|Mw rfl<|Aw rfl<|Nl<|AW.freezes [2,3,23] 1001 rfl ⟨rfl,rfl,rfl,trivial⟩ rfl<|rt ?_
  cases h;exact Z9 Try.results104 rfl (Zg rfl)
 | succ m7=>
  unfold Z5z at h
  refine SR<|Ac (Zh rfl rfl (vt rfl) (vt rfl)) rfl<|Nl<|sq<|Cn rfl (fun hc=>?_) (fun hc=>absurd hsf1.succ (of_decide_eq_false hc))
  have hlti6:=of_decide_eq_true hc
  refine sk<|sq<|bk<|SR<|Md rfl<|As rfl<|Nl ?_
  obtain ⟨x8,hx8,x9,hx9,x10,hx10,h⟩:=bs3 h
  refine Rg<|Mw rfl<|Md rfl<|Mw rfl<|Md rfl<|Ac (Z1f 1001 rfl rfl Z0f (vt rfl) rfl (vt rfl) hx8) rfl<|Ac (Zcl lGroup_2 rfl rfl Z2l (vt rfl)) rfl<|Ac (Z1a 1001 rfl rfl Z2o (vt rfl) rfl (Z08 hx8).2) rfl<|Cl [18] (Zss _ _ hx9) Zpt rfl<|Ac (Z1f 1001 rfl rfl Z0f (vt rfl) rfl (vt rfl) hx10) rfl<|Ac (Zcl lGroup_2 rfl rfl Z2l (vt rfl)) rfl<|Ac (Z25 1001 rfl rfl Z2o (vt rfl) rfl (Z08 hx10).2 (vt rfl)) rfl<|Nl<|Rg<|Ac (Z10 (t:=8) rfl rfl (vt rfl) (vk rfl) (vt rfl) hlti6) rfl<|Md rfl<|Nl ?_
  exact ⟨(_,_,_),Nat.lt_succ_self _,⟨hsf1.next,h⟩,FX rfl⟩
def Za4 (l1:(List Group))(i2:Int):Option (Group×Bool):=
 (Zcn l1 i2).bind fun x4=>(bif (decide (x4<0)) then some ((⟨0,0,[]⟩:Group),false) else (Z7m l1 x4 (IntKind.i64.wrap (x4+1))).bind fun s5=>(Zap s5).bind fun x6=>(lget x6 0).bind fun x7=>some (x7,true))
theorem Zoc:Q2 Try.prog 75 (rd (Z2 Zd)) (rd (Z0 .i64)) (fun r=>Z4z (rd Zd r.1) (rd Z5 r.2)) Za4:=fun l1 i2 r h=>I0 Try.func75 rfl Try.ntmps75 rfl fun w H=>by
 unfold Za4 at h
 refine SR<|Cv rfl (Z05 5 rfl rfl Z32) fun g3=>Ab rfl<|Nl<|sq ?_
 obtain ⟨x4,hx4,h⟩:=Za h
 refine Rg<|Md rfl<|Md rfl<|Cl [7,8] (Zsl _ _ _ hx4) Zkk rfl<|As rfl<|Nl<|sq<|SR<|Md rfl<|Ac (Zh rfl rfl (vt rfl) (vk rfl)) rfl<|Nl<|Cq rfl h (fun h=>?_) (fun h=>?_)
 ·refine SR<|Ac (opb (⟨0,0,[]⟩:Group) Z32 rfl Zct (pn rfl)) rfl<|Zs Z1l 5 rfl<|Ab rfl<|Nl<|rt ?_
  cases h;exact Zj7 Try.results75 rfl (Z09 rfl (i:=5) rfl Z1l) (Zg rfl)
 ·refine sk<|sq ?_
  obtain ⟨s5,hs5,x6,hx6,x7,hx7,h⟩:=bs3 h
  refine Rg<|Md rfl<|Md rfl<|Md rfl<|Ac (Zx rfl rfl (vt rfl) (vk rfl)) rfl<|Ac (Zqk hs5 rfl rfl Z0f (vt rfl) (vt rfl) (vt rfl)) rfl<|Cl [17] (Ztl _ _ hx6) Znh rfl<|Ac (Z0e rfl rfl Z0f (vt rfl) (vk rfl) hx7) rfl<|Lp1 Z1l rfl<|Zs Z1l 5 rfl<|Ab rfl<|Nl<|rt ?_
  cases h;exact Zj7 Try.results75 rfl (Z09 rfl (i:=5) rfl Z1l) (Zg rfl)
def Z7h (x1:Bucket)(x2:env_world):Option Bool:=
 (Z6t x2.Env x1.Watch).bind fun x4=>some x4
theorem Zl6:Q2 Try.prog 130 (rd Z03) (rp Z4m) (rd Z5) Z7h:=fun x1 x2 r h=>I0 Try.func130 rfl Try.ntmps130 rfl fun w H=>by
 unfold Z7h at h
 refine SR<|Cv rfl (Z00 3 rfl rfl (vt rfl)) fun g3=>Ab rfl<|Nl<|sq ?_
 obtain ⟨x4,hx4,h⟩:=Za h
 refine Rg<|Fp lenv_world_0 Zfq rfl<|Lp1 Z1h rfl<|Zo lBucket_1 Z91 rfl<|Ld Zl 3 rfl<|Cl [5,7] (Zg0 _ _ _ hx4) e36 rfl<|As rfl<|Nl<|rt ?_
 cases h;exact Z9 Try.results130 rfl (Zg rfl)
end Go.Proofs.Ytknpgojdkobgjaa.W
set_option maxRecDepth 4000
namespace Go.Proofs.Ytknpgojdkobgjaa.W
open Go Go.Wb
theorem Zru:Ent Try.prog 130:=Ent.mk Try.func130 rfl rfl
theorem Zts:Ent Try.prog 105:=Ent.mk Try.func105 rfl rfl
theorem Zci:Ent Try.prog 116:=Ent.mk Try.func116 rfl rfl
theorem Zrh:Ent Try.prog 118:=Ent.mk Try.func118 rfl rfl
theorem Zde:Ent Try.prog 117:=Ent.mk Try.func117 rfl rfl
def Zbf (w1:env_world):Option Int:=
 (Z6u w1.Group.Buckets (fun x=>Z7h x w1)).bind fun x3=>some x3
theorem Znq:Q1 Try.prog 105 (rd Z4m) (rd (Z0 .i64)) Zbf:=fun w1 r h=>I0 Try.func105 rfl Try.ntmps105 rfl fun w H=>by
 unfold Zbf at h
 refine SR<|Cv rfl (Z00 2 rfl rfl (vt rfl)) fun g2=>Ak rfl<|Nl<|sq<|AW.freezeB 1 2 rfl rfl rfl ?_
 obtain ⟨x3,hx3,h⟩:=Za h
 refine Rg<|Fp lenv_world_1 Za1 rfl<|Fp lGroup_2 Z2l rfl<|Lp1 Z2o rfl<|Ac (Z3s (cs:=[.tmp 1]) (CAs:=[rp Z4m w1]) (fun x=>Z7h x w1) rfl rfl Zru ⟨vt rfl,trivial⟩ (fun x y h=>Zl6 _ _ y h)) rfl<|Cl [5,6] (Zk6 _ _ _ hx3) e97 rfl<|As rfl<|Nl<|rt ?_
 cases h;exact Z9 Try.results105 rfl (Zg rfl)
def Z50:Nat→Nat→(List Int)→Option (List Int)
 | 0,i10,l8=>some l8
 | m11+1,i10,l8=>(Z1j l8 [(i10:Int)]).bind fun l12=>(Z50 m11) (i10+1) l12
def Zai (x1:Env)(x2:Group):Option (List Int):=
 (bif (decide (((((⟨x1,x2⟩:env_world).Group).Buckets).length:Int)=0)) then some [] else (bif (decide ((((⟨x1,x2⟩:env_world).Group).Kind)=0)) then Z50 (((((⟨x1,x2⟩:env_world).Group).Buckets).length:Int):Int).toNat 0 [] else (bif (decide ((((⟨x1,x2⟩:env_world).Group).Kind)=1)) then (Z45 ((⟨x1,x2⟩:env_world).Env) ((((⟨x1,x2⟩:env_world).Group).Buckets).length:Int)).bind fun x14=>some [x14] else (bif (decide ((((⟨x1,x2⟩:env_world).Group).Kind)=2)) then some [0] else (bif (decide ((((⟨x1,x2⟩:env_world).Group).Kind)=3)) then (Zbf (⟨x1,x2⟩:env_world)).bind fun x15=>(bif (decide (x15≥0)) then some [x15] else some []) else some [])))))
theorem Zp0:Q2 Try.prog 76 (rd Zn) (rd Zd) (rd (Z2 (Z0 .i64))) Zai:=fun x1 x2 r h=>I0 Try.func76 rfl Try.ntmps76 rfl fun w H=>by
 unfold Zai at h
 refine SR<|Cv rfl (Z00 3 rfl rfl (vt rfl)) fun g3=>Cv rfl (Z00 4 rfl rfl (vt rfl)) fun g4=>Ac (Z0d (A:=rd (Z2 (Z0 .i64)) []) rfl rfl Z1n) rfl<|Nl<|SR<|Ld Z1h 3 rfl<|Ld Z1l 4 rfl<|Ac (opb (⟨x1,x2⟩:env_world) Zif rfl Zs8 (pc Zli (vt rfl)<|pc Zp6 (vt rfl)<|pn rfl)) rfl<|Cv rfl (Z05 6 rfl rfl Zif) fun g5=>Zs Zgz 6 rfl<|Nl<|sq<|SR<|Zo lenv_world_1 Za1 rfl<|Zo lGroup_2 Z2l rfl<|Ld Z2o 6 rfl<|Ac (Z0a rfl rfl Z18 (vt rfl)) rfl<|Ac (Z0l rfl rfl (vt rfl) (vk rfl)) rfl<|Nl<|Cq rfl h (fun h=>?_) (fun h=>?_)
 ·refine SR<|Ac (Z0d (A:=rd (Z2 (Z0 .i64)) []) rfl rfl Z1n) rfl<|Nl<|rt ?_
  cases h;exact Z9 Try.results76 rfl (Zg rfl)
 ·refine sk<|sq<|SR<|Zo lenv_world_1 Za1 rfl<|Zo lGroup_1 Zdd rfl<|Ld Zl 6 rfl<|Nl<|bk<|SR<|Ac (Z0l rfl rfl (vt rfl) (vk rfl)) rfl<|As rfl<|Nl<|Cq rfl h (fun h=>?_) (fun h=>?_)
  ·refine sq<|AW.newnil 1001 3 (Z0 .i64)<|Rg<|Ac (Z0d rfl rfl vc) rfl<|Nl<|sq<|SR<|Zo lenv_world_1 Za1 rfl<|Zo lGroup_2 Z2l rfl<|Ld Z2o 6 rfl<|Ac (Z0a rfl rfl Z18 (vt rfl)) rfl<|Mk rfl<|Nl<|bk<|LG (d:=[]) (ν:=Nat×Nat×(List Int)×Value) (fun (m11,i10,l8,v9)=>(Cnt ((((⟨x1,x2⟩:env_world).Group).Buckets).length:Int) i10 m11∧Z50 m11 i10 l8=some r,m11,[(6,Zc v9),(25,rd (Z0 .i64) ((((⟨x1,x2⟩:env_world).Group).Buckets).length:Int)),(26,rd (Z0 .i64) (i10:Int))],[(1001,Zb v9 3 (Z0 .i64) l8)])) ((((((⟨x1,x2⟩:env_world).Group).Buckets).length:Int):Int).toNat,0,[],(.slice none 0 0)) ⟨Cnt.start _,h⟩ (FX rfl) ?_
   rintro ⟨m11,i10,l8,v9⟩ ⟨hsf1,h⟩
   dsimp only at hsf1 h ⊢
   cases m11 with
   | zero=>
    unfold Z50 at h
    refine SR<|Ac (Zh rfl rfl (vt rfl) (vt rfl)) rfl<|Nl<|sq<|Cn rfl (fun hc=>absurd (of_decide_eq_true hc) hsf1.zero) (fun hc=>?_)
    refine xt<|SR<|Mw rfl<|Aw rfl<|Nl<|AW.freezes [4,6,34] 1001 rfl ⟨rfl,rfl,rfl,trivial⟩ rfl<|rt ?_
    cases h;exact Z9 Try.results76 rfl (Zg rfl)
   | succ m11=>
    unfold Z50 at h
    refine SR<|Ac (Zh rfl rfl (vt rfl) (vt rfl)) rfl<|Nl<|sq<|Cn rfl (fun hc=>?_) (fun hc=>absurd hsf1.succ (of_decide_eq_false hc))
    have hlti10:=of_decide_eq_true hc
    refine sk<|sq<|bk<|SR<|Md rfl<|As rfl<|Nl ?_
    obtain ⟨l12,hl12,h⟩:=Za h
    refine Rg<|Mw rfl<|Md rfl<|Ac (osl Z06 zr3 rfl (vt rfl)) rfl<|Cv rfl (Z3i 1001 hl12 rfl rfl Z7g (vt rfl) rfl (vt rfl)) fun v13=>Aw rfl<|Nl<|Rg<|Ac (Z10 (t:=25) rfl rfl (vt rfl) (vk rfl) (vt rfl) hlti10) rfl<|Md rfl<|Nl ?_
    exact ⟨(_,_,_,_),Nat.lt_succ_self _,⟨hsf1.next,h⟩,FX rfl⟩
  ·refine SR<|Ac (Z0l rfl rfl (vt rfl) (vk rfl)) rfl<|As rfl<|Nl<|Cq rfl h (fun h=>?_) (fun h=>?_)
   ·refine sq ?_
    obtain ⟨x14,hx14,h⟩:=Za h
    refine Rg<|Zo lenv_world_0 Zfq rfl<|Ld Z1h 6 rfl<|Zo lenv_world_1 Za1 rfl<|Zo lGroup_2 Z2l rfl<|Ld Z2o 6 rfl<|Ac (Z0a rfl rfl Z18 (vt rfl)) rfl<|Cl [38,42] (Zk2 _ _ _ hx14) e37 rfl<|Ac (osl Z06 zr3 rfl (vt rfl)) rfl<|As rfl<|Nl<|rt ?_
    cases h;exact Z9 Try.results76 rfl (Zg rfl)
   ·refine SR<|Ac (Z0l rfl rfl (vt rfl) (vk rfl)) rfl<|As rfl<|Nl<|Cq rfl h (fun h=>?_) (fun h=>?_)
    ·refine SR<|Ac (osl Z06 zr3 rfl (vk rfl)) rfl<|As rfl<|Nl<|rt ?_
     cases h;exact Z9 Try.results76 rfl (Zg rfl)
    ·refine SR<|Ac (Z0l rfl rfl (vt rfl) (vk rfl)) rfl<|As rfl<|Nl<|Cq rfl h (fun h=>?_) (fun h=>?_)
     ·refine sq ?_
      obtain ⟨x15,hx15,h⟩:=Za h
      refine Rg<|Ld Zgz 6 rfl<|Cl [50] (Znq _ _ hx15) Zts rfl<|As rfl<|Nl<|SR<|Md rfl<|Ac (Z33 rfl rfl (vt rfl) (vk rfl)) rfl<|Nl<|Cq rfl h (fun h=>?_) (fun h=>?_)
      ·refine SR<|Md rfl<|Ac (osl Z06 zr3 rfl (vt rfl)) rfl<|As rfl<|Nl<|rt ?_
       cases h;exact Z9 Try.results76 rfl (Zg rfl)
      ·refine sk<|SR<|Ac (Z0d (A:=rd (Z2 (Z0 .i64)) []) rfl rfl Z1n) rfl<|Nl<|rt ?_
       cases h;exact Z9 Try.results76 rfl (Zg rfl)
     ·refine sk<|SR<|Ac (Z0d (A:=rd (Z2 (Z0 .i64)) []) rfl rfl Z1n) rfl<|Nl<|rt ?_
      cases h;exact Z9 Try.results76 rfl (Zg rfl)
def Z57 (a1:Action):Option aset_spot:=
 (bif (decide (a1.Kind=25)) then some (⟨a1.Kind,a1.Oxm.Field⟩:aset_spot) else some (⟨a1.Kind,0⟩:aset_spot))
theorem Zaz:Q1 Try.prog 116 (rd Z3) (rd Z2r) Z57:=fun a1 r h=>I0 Try.func116 rfl Try.ntmps116 rfl fun w H=>by
 unfold Z57 at h
 refine SR<|Cv rfl (Z00 2 rfl rfl (vt rfl)) fun g2=>Cv rfl (Z05 3 rfl rfl Z8p) fun g3=>Nl<|sq<|SR<|Zo Z38 Z3p rfl<|Ld Zl 2 rfl<|Ac (Z0l rfl rfl (vt rfl) (vk rfl)) rfl<|Nl<|Cq rfl h (fun h=>?_) (fun h=>?_)
 ·refine SR<|Zo Z38 Z3p rfl<|Ld Zl 2 rfl<|Zo Zc6 Zfe rfl<|Zo Z8r Zcc rfl<|Ld Zl 2 rfl<|Ac (opb (⟨a1.Kind,a1.Oxm.Field⟩:aset_spot) Z8p rfl Zgn (pc Zfz (vt rfl)<|pc Zoz (vt rfl)<|pn rfl)) rfl<|Zs Z6i 3 rfl<|Nl<|rt ?_
  cases h;exact Z9 Try.results116 rfl (Z09 rfl (i:=3) rfl Z6i)
 ·refine sk<|SR<|Zo Z38 Z3p rfl<|Ld Zl 2 rfl<|Ac (opb (⟨a1.Kind,0⟩:aset_spot) Z8p rfl Zgn (pc Zfz (vt rfl)<|pn rfl)) rfl<|Zs Z6i 3 rfl<|Nl<|rt ?_
  cases h;exact Z9 Try.results116 rfl (Z09 rfl (i:=3) rfl Z6i)
def Z5d (b1:Action)(x2:Action):Option Bool:=
 (Z57 x2).bind fun x4=>(Z57 b1).bind fun x5=>some (decide (x4=x5))
theorem Zrw:Q2 Try.prog 118 (rd Z3) (rp Z3) (rd Z5) Z5d:=fun b1 x2 r h=>I0 Try.func118 rfl Try.ntmps118 rfl fun w H=>by
 unfold Z5d at h
 refine SR<|Cv rfl (Z00 3 rfl rfl (vt rfl)) fun g3=>Ab rfl<|Nl<|sq ?_
 obtain ⟨x4,hx4,x5,hx5,h⟩:=bs2 h
 refine AR Z0n (by kernel_rfl)<|SLp Z07 rfl<|SCl [4] (Zaz _ _ hx4) Zci rfl<|SLd Z07 3 rfl<|SCl [6] (Zaz _ _ hx5) Zci rfl<|Sd (lo [5,7] [] rfl fun S hs hr=>Zrc rfl rfl Zso (by decide) rfl Zlx (vh hs 5 rfl rfl) (vh hs 7 rfl rfl))<|SAs rfl<|Sn<|rt ?_
 cases h;exact Z9 Try.results118 rfl (Zg rfl)
def Z6a (s1:(List Action))(x2:(Action→Option Bool)):Nat→Nat→Option Int
 | 0,i3=>some (-1)
 | m4+1,i3=>(lget s1 (i3:Int)).bind fun x5=>(x2 x5).bind fun x6=>(bif x6 then some (i3:Int) else (Z6a s1 x2 m4) (i3+1))
def Z5b (s1:(List Action))(x2:(Action→Option Bool)):Option Int:=
 Z6a s1 x2 ((s1.length:Int):Int).toNat 0
theorem Zeo:Q2 Try.prog 117 (rd (Z2 Z3)) (fn1 Try.prog Z3 Z5) (rd (Z0 .i64)) Z5b:=fun s1 x2 r h=>I0 Try.func117 rfl Try.ntmps117 rfl fun w H=>by
 unfold Z5b at h
 refine SR<|Ak rfl<|Nl<|sq<|SR<|Md rfl<|Ac (Z0a rfl rfl Z04 (vt rfl)) rfl<|Mk rfl<|Nl<|bk<|LG (d:=[]) (ν:=Nat×Nat) (fun (m4,i3)=>(Cnt (s1.length:Int) i3 m4∧Z6a s1 x2 m4 i3=some r,m4,[(0,rd (Z2 Z3) s1),(1,fn1 Try.prog Z3 Z5 x2),(7,rd (Z0 .i64) (s1.length:Int)),(8,rd (Z0 .i64) (i3:Int))],[])) (((s1.length:Int):Int).toNat,0) ⟨Cnt.start _,h⟩ (FX rfl) ?_
 rintro ⟨m4,i3⟩ ⟨hsf1,h⟩
 dsimp only at hsf1 h ⊢
 cases m4 with
 | zero=>
  unfold Z6a at h
  refine SR<|Ac (Zh rfl rfl (vt rfl) (vt rfl)) rfl<|Nl<|sq<|Cn rfl (fun hc=>absurd (of_decide_eq_true hc) hsf1.zero) (fun hc=>?_)
  refine xt<|SR<|Ak rfl<|Nl<|rt ?_
  cases h;exact Z9 Try.results117 rfl (Zg rfl)
 | succ m4=>
  unfold Z6a at h
  refine SR<|Ac (Zh rfl rfl (vt rfl) (vt rfl)) rfl<|Nl<|sq<|Cn rfl (fun hc=>?_) (fun hc=>absurd hsf1.succ (of_decide_eq_false hc))
  have hlti3:=of_decide_eq_true hc
  refine sk<|sq<|bk<|SR<|Md rfl<|As rfl<|Nl<|sq ?_
  obtain ⟨x5,hx5,x6,hx6,h⟩:=bs2 h
  refine Rg<|Ac (Ze (A:=fn1 Try.prog Z3 Z5 x2) rfl rfl (vt rfl)) rfl<|Md rfl<|Md rfl<|Ac (Z0e rfl rfl Z04 (vt rfl) (vt rfl) hx5) rfl<|Lp1 Z07 rfl<|Ac (Z48 hx6 rfl rfl (vt rfl) (vt rfl)) rfl<|Nl<|Cq rfl h (fun h=>?_) (fun h=>?_)
  ·refine SR<|Md rfl<|As rfl<|Nl<|rt ?_
   cases h;exact Z9 Try.results117 rfl (Zg rfl)
  ·refine sk<|Rg<|Ac (Z10 (t:=7) rfl rfl (vt rfl) (vk rfl) (vt rfl) hlti3) rfl<|Md rfl<|Nl ?_
   exact ⟨(_,_),Nat.lt_succ_self _,⟨hsf1.next,h⟩,FX rfl⟩
def Z46:(List Action)→Nat→(List Action)→Option (List Action)
 | [],i9,l7=>some l7
 | x11::l10,i9,l7=>(Z5b l7 (fun x=>Z5d x x11)).bind fun x13=>(bif (decide (x13<0)) then (Z1j l7 [x11]).bind fun l14=>(Z46 l10) (i9+1) l14 else (lget l7 x13).bind fun x16=>(Z46 l10) (i9+1) (List.set l7 x13.toNat x11))
def Zac (s1:(List Action))(l2:(List Action)):Option (List Action):=
 (Z4a s1).bind fun x3=>Z46 l2 0 x3
theorem Zr5:Q2 Try.prog 79 (rd (Z2 Z3)) (rd (Z2 Z3)) (rd (Z2 Z3)) Zac:=fun s1 l2 r h=>I0 Try.func79 rfl Try.ntmps79 rfl fun w H=>by
 unfold Zac at h
 refine SR<|Ac (Z0d (A:=rd (Z2 Z3) []) rfl rfl Z1n) rfl<|Nl<|sq ?_
 obtain ⟨x3,hx3,h⟩:=Za h
 refine Rg<|Md rfl<|Cv rfl (Z13 1001 (xs:=[.tmp 9]) (Zes _ _ hx3) Zcx rfl rfl ⟨vt rfl,trivial⟩ rfl) fun v4=>Aw rfl<|Nl<|sq<|SR<|Md rfl<|Ac (Z0a rfl rfl Z04 (vt rfl)) rfl<|Mk rfl<|Nl<|bk<|LG (d:=[]) (ν:=(List Action)×Nat×(List Action)×Value) (fun (l10,i9,l7,v8)=>(Sfx l2 i9 l10∧Z46 l10 i9 l7=some r,l10.length,[(5,Zc v8),(11,rd (Z2 Z3) l2),(12,rd (Z0 .i64) (l2.length:Int)),(13,rd (Z0 .i64) (i9:Int))],[(1001,Zb v8 95 Z3 l7)])) (l2,0,x3,v4) ⟨Sfx.start _,h⟩ (FX rfl) ?_
 rintro ⟨l10,i9,l7,v8⟩ ⟨hsf1,h⟩
 dsimp only at hsf1 h ⊢
 cases l10 with
 | nil=>
  unfold Z46 at h
  refine SR<|Ac (Zh rfl rfl (vt rfl) (vt rfl)) rfl<|Nl<|sq<|Cn rfl (fun hc=>absurd (of_decide_eq_true hc) hsf1.nil) (fun hc=>?_)
  refine xt<|SR<|Mw rfl<|Aw rfl<|Nl<|AW.freezes [4,5,31] 1001 rfl ⟨rfl,rfl,rfl,trivial⟩ rfl<|rt ?_
  cases h;exact Z9 Try.results79 rfl (Zg rfl)
 | cons x11 l10=>
  unfold Z46 at h
  refine SR<|Ac (Zh rfl rfl (vt rfl) (vt rfl)) rfl<|Nl<|sq<|Cn rfl (fun hc=>?_) (fun hc=>absurd hsf1.cons (of_decide_eq_false hc))
  have hlti9:=of_decide_eq_true hc
  refine sk<|sq<|bk<|SR<|Ac (Z0e rfl rfl Z04 (vt rfl) (vt rfl) hsf1.lget) rfl<|Lp1 Z07 rfl<|Cv rfl (Z05 8 rfl rfl Z70) fun g12=>Zs Z07 8 rfl<|Nl<|sq<|AW.freezeB 7 8 rfl rfl rfl ?_
  obtain ⟨x13,hx13,h⟩:=Za h
  refine Rg<|Mw rfl<|Ac (Z3s (cs:=[.tmp 7]) (CAs:=[rp Z3 x11]) (fun x=>Z5d x x11) rfl rfl Zrh ⟨vt rfl,trivial⟩ (fun x y h=>Zrw _ _ y h)) rfl<|Ac (Zbm (xs:=[.tmp 17,.tmp 18]) 1001 (Zeo _ _ _ hx13) Zde rfl rfl ⟨vL rfl rfl,vB (vt rfl),trivial⟩) rfl<|As rfl<|Nl<|SR<|Md rfl<|Ac (Zh rfl rfl (vt rfl) (vk rfl)) rfl<|Nl<|Cq rfl h (fun h=>?_) (fun h=>?_)
  ·obtain ⟨l14,hl14,h⟩:=Za h
   refine Rg<|Mw rfl<|Lp1 Z07 rfl<|Ac (osl Z04 Z70 rfl (vt rfl)) rfl<|Cv rfl (Z3i 1001 hl14 rfl rfl Zj6 (vt rfl) rfl (vt rfl)) fun v15=>Aw rfl<|Nl<|Rg<|Ac (Z10 (t:=12) rfl rfl (vt rfl) (vk rfl) (vt rfl) hlti9) rfl<|Md rfl<|Nl ?_
   exact ⟨(_,_,_,_),Nat.lt_succ_self _,⟨hsf1.next,h⟩,FX rfl⟩
  ·obtain ⟨x16,hx16,h⟩:=Za h
   refine Rg<|Mw rfl<|Md rfl<|Lp1 Z07 rfl<|Ac (Z1f 1001 rfl rfl Z04 (vt rfl) rfl (vt rfl) hx16) rfl<|Ac (Z25 1001 rfl rfl Z07 (vt rfl) rfl (Z08 hx16).2 (vt rfl)) rfl<|Nl<|Rg<|Ac (Z10 (t:=12) rfl rfl (vt rfl) (vk rfl) (vt rfl) hlti9) rfl<|Md rfl<|Nl ?_
   exact ⟨(_,_,_,_),Nat.lt_succ_self _,⟨hsf1.next,h⟩,FX rfl⟩
def Z9s (s1:(List Action))(x2:(Action→Option Bool)):Option Bool:=
 (Z5b s1 x2).bind fun x3=>some (decide (x3≥0))
theorem Zsa:Q2 Try.prog 108 (rd (Z2 Z3)) (fn1 Try.prog Z3 Z5) (rd Z5) Z9s:=fun s1 x2 r h=>I0 Try.func108 rfl Try.ntmps108 rfl fun w H=>by
 unfold Z9s at h
 refine SR<|Ab rfl<|Nl<|sq ?_
 obtain ⟨x3,hx3,h⟩:=Za h
 refine Rg<|Md rfl<|Ac (Ze (A:=fn1 Try.prog Z3 Z5 x2) rfl rfl (vt rfl)) rfl<|Cl [5,6] (Zeo _ _ _ hx3) Zde rfl<|Ac (Z33 rfl rfl (vt rfl) (vk rfl)) rfl<|As rfl<|Nl<|rt ?_
 cases h;exact Z9 Try.results108 rfl (Zg rfl)
def Zbz (a1:Action):Option Bool:=
 some (decide (a1.Kind=22))
theorem Zll:Q1 Try.prog 109 (rd Z3) (rd Z5) Zbz:=fun a1 r h=>I0 Try.func109 rfl Try.ntmps109 rfl fun w H=>by
 unfold Zbz at h
 refine SR<|Cv rfl (Z00 2 rfl rfl (vt rfl)) fun g2=>Ab rfl<|Nl<|SR<|Zo Z38 Z3p rfl<|Ld Zl 2 rfl<|Ac (Z0l rfl rfl (vt rfl) (vk rfl)) rfl<|As rfl<|Nl<|rt ?_
 cases h;exact Z9 Try.results109 rfl (Zg rfl)
def Z62 (k1:Int):Option Int:=
 (Z7f [18,17,25,22,0] k1).bind fun x2=>some x2
theorem Zeh:Q1 Try.prog 113 (rd (Z0 .i64)) (rd (Z0 .i64)) Z62:=fun k1 r h=>I0 Try.func113 rfl Try.ntmps113 rfl fun w H=>by
 unfold Z62 at h
 refine SR<|Ak rfl<|Nl<|sq ?_
 obtain ⟨x2,hx2,h⟩:=Za h
 refine Rg<|Ac (Z8b (ps:=[(0,.const (Value.int IntKind.i64 18)),(1,.const (Value.int IntKind.i64 17)),(2,.const (Value.int IntKind.i64 25)),(3,.const (Value.int IntKind.i64 22)),(4,.const (Value.int IntKind.i64 0))]) (l:=[18,17,25,22,0]) rfl rfl Z06 zr3 rfl rfl ⟨_,_,Lens.idx 5 (Z0 .i64) 0 (by decide),_,rfl,(vk rfl),_,_,Lens.idx 5 (Z0 .i64) 1 (by decide),_,rfl,(vk rfl),_,_,Lens.idx 5 (Z0 .i64) 2 (by decide),_,rfl,(vk rfl),_,_,Lens.idx 5 (Z0 .i64) 3 (by decide),_,rfl,(vk rfl),_,_,Lens.idx 5 (Z0 .i64) 4 (by decide),_,rfl,(vk rfl),rfl⟩ rfl) rfl<|Md rfl<|Cl [3,4] (Zi6 _ _ _ hx2) Zhp rfl<|As rfl<|Nl<|rt ?_
 cases h;exact Z9 Try.results113 rfl (Zg rfl)
end Go.Proofs.Ytknpgojdkobgjaa.W
set_option maxRecDepth 4000
namespace Go.Proofs.Ytknpgojdkobgjaa.W
open Go Go.Wb
theorem Zcz:Ent Try.prog 113:=Ent.mk Try.func113 rfl rfl
theorem Zeq:Ent Try.prog 150:=Ent.mk Try.func150 rfl rfl
theorem Zbs:Ent Try.prog 144:=Ent.mk Try.func144 rfl rfl
theorem Zma:Ent Try.prog 147:=Ent.mk Try.func147 rfl rfl
theorem Zhb:Ent Try.prog 143:=Ent.mk Try.func143 rfl rfl
theorem Zox:Ent Try.prog 134:=Ent.mk Try.func134 rfl rfl
def Z7c (a1:Action)(x2:Bool):Option Bool:=
 (Z62 a1.Kind).bind fun x4=>some ((decide (x4<0))||(x2&&(decide (a1.Kind=0))))
theorem Zmq:Q2 Try.prog 112 (rd Z3) (rp Z5) (rd Z5) Z7c:=fun a1 x2 r h=>I0 Try.func112 rfl Try.ntmps112 rfl fun w H=>by
 unfold Z7c at h
 refine SR<|Cv rfl (Z00 3 rfl rfl (vt rfl)) fun g3=>Ab rfl<|Nl<|sq ?_
 obtain ⟨x4,hx4,h⟩:=Za h
 refine Rg<|Zo Z38 Z3p rfl<|Ld Zl 3 rfl<|Cl [5] (Zeh _ _ hx4) Zcz rfl<|Ac (Zh rfl rfl (vt rfl) (vk rfl)) rfl<|Md rfl<|Gd rfl (fun hq=>Z2b rfl rfl ty4 (vt rfl))<|AOps.consG (OpG.guardX rfl rfl rfl rfl rfl fun hq=>Ze (A:=rd Z5 x2) rfl rfl (Z8 rfl hq))<|AOps.consG (OpG.guardN rfl rfl rfl rfl rfl fun hq=>Z2e Z38 rfl rfl Z3p (vt rfl))<|AOps.consG (OpG.guardN rfl rfl rfl rfl rfl fun hq=>Z22 rfl rfl Zl (Z8 rfl hq) (i:=3) rfl)<|AOps.consG (OpG.guardN rfl rfl rfl rfl rfl fun hq=>Z0l rfl rfl (Z8 rfl hq) (vk rfl))<|Gd rfl (fun hq=>Z0y rfl rfl (vgx rfl hq) (vgw rfl hq))<|Ac (Z2t rfl rfl (vt rfl) (vt rfl)) rfl<|As rfl<|Nl<|rt ?_
 cases h;exact Z9 Try.results112 rfl (Zg rfl)
def Z5y (d3:(Action→Option Bool)):Nat→(List Action)→Int→Int→Option (List Action)
 | 0,_,_,_=>none
 | m11+1,l8,i9,j10=>(bif (decide (j10<(l8.length:Int))) then (lget l8 j10).bind fun x12=>(d3 x12).bind fun x14=>(bif (!x14) then (lget l8 i9).bind fun x15=>(Z5y d3 m11) (List.set l8 i9.toNat x12) (IntKind.i64.wrap (i9+1)) (IntKind.i64.wrap (j10+1)) else (Z5y d3 m11) l8 i9 (IntKind.i64.wrap (j10+1))) else (Z2m l8 i9).bind fun s16=>(Z3y (List.take i9.toNat l8++List.replicate (l8.length - i9.toNat) Zc3) i9).bind fun s17=>some s17)
def Z9r (s1:(List Action))(d3:(Action→Option Bool)):Option (List Action):=
 (Z5b s1 d3).bind fun x4=>(bif (decide (x4=(-1))) then some s1 else Z5y d3 ((((s1.length:Int):Int) - (IntKind.i64.wrap (x4+1))).toNat+1) s1 x4 (IntKind.i64.wrap (x4+1)))
theorem Zl4 (v2:Value)(s1:(List Action))(d3:(Action→Option Bool))(r:(List Action))(h:Z9r s1 d3=some r):Con Try.prog 110 [Zc v2,fn1 Try.prog Z3 Z5 d3] (Zb v2 95 Z3 s1) (fun v=>Zc v) (fun v=>Zb v 95 Z3 r):=by
 refine Con.intro Try.func110 rfl Try.ntmps110 rfl fun w H X=>?_
 unfold Z9r at h
 refine sq<|AW.newnil 1001 95 Z3<|Rg<|Ac (Z0d rfl rfl vc) rfl<|Nl<|sq ?_
 obtain ⟨x4,hx4,h⟩:=Za h
 refine Rg<|Mw rfl<|Ac (Ze (A:=fn1 Try.prog Z3 Z5 d3) rfl rfl (vt rfl)) rfl<|Ac (Zbm (xs:=[.tmp 8,.tmp 9]) 0 (Zeo _ _ _ hx4) Zde rfl rfl ⟨vL rfl rfl,vB (vt rfl),trivial⟩) rfl<|As rfl<|Nl<|sq<|SR<|Md rfl<|Ac (Z0l rfl rfl (vt rfl) (vk rfl)) rfl<|Nl<|Cq rfl h (fun h=>?_) (fun h=>?_)
 ·refine SR<|Mw rfl<|Aw rfl<|Nl<|rt ?_
  cases h;exact Z2c (i:=0) Try.results110 rfl rfl rfl
 ·refine sk<|sq<|SR<|Md rfl<|Ac (Zx rfl rfl (vt rfl) (vk rfl)) rfl<|As rfl<|Nl<|bk<|LG (d:=[]) (ν:=Nat×(List Action)×Int×Int) (fun (m11,l8,i9,j10)=>(True∧Z5y d3 m11 l8 i9 j10=some r,m11,[(0,Zc v2),(1,fn1 Try.prog Z3 Z5 d3),(5,rd (Z0 .i64) i9),(6,rd (Z0 .i64) j10)],[(0,Zb v2 95 Z3 l8)])) (((((s1.length:Int):Int) - (IntKind.i64.wrap (x4+1))).toNat+1),s1,x4,(IntKind.i64.wrap (x4+1))) ⟨trivial,h⟩ (FX rfl) ?_
  rintro ⟨m11,l8,i9,j10⟩ ⟨hsf1,h⟩
  dsimp only at h ⊢
  cases m11 with
  | zero=>cases h
  | succ m11=>
   unfold Z5y at h
   refine sq<|SR<|Md rfl<|Mw rfl<|Ac (Z6s 0 rfl rfl Z04 (vt rfl) rfl) rfl<|Ac (Zh rfl rfl (vt rfl) (vt rfl)) rfl<|Nl<|Cq rfl h (fun h=>?_) (fun h=>?_)
   ·refine sk<|sq<|bk<|sq ?_
    obtain ⟨x12,hx12,h⟩:=Za h
    refine Rg<|Mw rfl<|Md rfl<|Ac (Z1f 0 rfl rfl Z04 (vt rfl) rfl (vt rfl) hx12) rfl<|Ac (Z1a 0 rfl rfl Z07 (vt rfl) rfl (Z08 hx12).2) rfl<|Cv rfl (Z05 8 rfl rfl Z70) fun g13=>Zs Z07 8 rfl<|Nl<|sq ?_
    obtain ⟨x14,hx14,h⟩:=Za h
    refine Rg<|Ac (Ze (A:=fn1 Try.prog Z3 Z5 d3) rfl rfl (vt rfl)) rfl<|Ld Z07 8 rfl<|Ac (Z48 hx14 rfl rfl (vt rfl) (vt rfl)) rfl<|Ac (Z1g rfl rfl (vt rfl)) rfl<|Nl<|Cq rfl h (fun h=>?_) (fun h=>?_)
    ·refine sq ?_
     obtain ⟨x15,hx15,h⟩:=Za h
     refine Rg<|Mw rfl<|Md rfl<|Ld Z07 8 rfl<|Ac (Z1f 0 rfl rfl Z04 (vt rfl) rfl (vt rfl) hx15) rfl<|Ac (Z25 0 rfl rfl Z07 (vt rfl) rfl (Z08 hx15).2 (vt rfl)) rfl<|Nl<|Rg<|Md rfl<|Ac (Zx rfl rfl (vt rfl) (vk rfl)) rfl<|As rfl<|Nl<|Rg<|Md rfl<|Ac (Zx rfl rfl (vt rfl) (vk rfl)) rfl<|As rfl<|Nl ?_
     exact ⟨(_,_,_,_),Nat.lt_succ_self _,⟨trivial,h⟩,FX rfl⟩
    ·refine sk<|Rg<|Md rfl<|Ac (Zx rfl rfl (vt rfl) (vk rfl)) rfl<|As rfl<|Nl ?_
     exact ⟨(_,_,_,_),Nat.lt_succ_self _,⟨trivial,h⟩,FX rfl⟩
   ·refine xt<|sq ?_
    obtain ⟨s16,hs16,h⟩:=Za h
    refine Rg<|Mw rfl<|Md rfl<|Ac (Zdp 0 hs16 rfl rfl Z04 (vt rfl) rfl (vt rfl)) rfl<|Ac (Zec 0 rfl rfl Z04 Z70 rfl (vt rfl) rfl (Zaq hs16).2.1) rfl<|Nl<|sq ?_
    obtain ⟨s17,hs17,h⟩:=Za h
    refine Rg<|Mw rfl<|Md rfl<|Cv rfl (Zdi 0 hs17 rfl rfl Z04 (vt rfl) rfl (vt rfl)) fun v18=>Aw rfl<|Nl<|rt ?_
    cases h;exact Z2c (i:=0) Try.results110 rfl rfl rfl
def Z64 (a3:Int)(x5:(Action→Action→Option Int))(go1:(List Action)→Int→Option (List Action))(i9:Int):Nat→(List Action)→Int→Option (List Action)
 | 0,_,_=>none
 | m15+1,l13,j14=>(opt (decide (j14>a3)) (lget l13 j14)).bind fun x16=>(opt (decide (j14>a3)) (lget l13 (IntKind.i64.wrap (j14 - 1)))).bind fun x17=>(opt (decide (j14>a3)) (x5 x16 x17)).bind fun x18=>(bif ((decide (j14>a3))&&(decide (x18<0))) then (lget l13 (IntKind.i64.wrap (j14 - 1))).bind fun x19=>(lget l13 j14).bind fun x20=>(lget l13 j14).bind fun x21=>(lget (List.set l13 j14.toNat x19) (IntKind.i64.wrap (j14 - 1))).bind fun x22=>(Z64 a3 x5 go1 i9 m15) (List.set (List.set l13 j14.toNat x19) (IntKind.i64.wrap (j14 - 1)).toNat x20) (IntKind.i64.wrap (j14 - 1)) else go1 l13 (IntKind.i64.wrap (i9+1)))
def Z4p (b4:Int)(a3:Int)(x5:(Action→Action→Option Int)):Nat→(List Action)→Int→Option (List Action)
 | 0,_,_=>none
 | m10+1,l8,i9=>(bif (decide (i9<b4)) then Z64 a3 x5 (Z4p b4 a3 x5 m10) i9 Z1p l8 i9 else some l8)
def Z7y (d1:(List Action))(a3:Int)(b4:Int)(x5:(Action→Action→Option Int)):Option (List Action):=
 Z4p b4 a3 x5 (((b4:Int) - (IntKind.i64.wrap (a3+1))).toNat+1) d1 (IntKind.i64.wrap (a3+1))
theorem Zg9 (v2:Value)(d1:(List Action))(a3:Int)(b4:Int)(x5:(Action→Action→Option Int))(r:(List Action))(h:Z7y d1 a3 b4 x5=some r):Con Try.prog 143 [Zc v2,rd (Z0 .i64) a3,rd (Z0 .i64) b4,fn2 Try.prog Z3 Z3 (Z0 .i64) x5] (Zb v2 95 Z3 d1) (fun _:Unit=>top) (fun _=>Zb v2 95 Z3 r):=by
 refine Con.intro Try.func143 rfl Try.ntmps143 rfl fun w H X=>?_
 unfold Z7y at h
 refine SR<|Md rfl<|Ac (Zx rfl rfl (vt rfl) (vk rfl)) rfl<|As rfl<|Nl<|bk<|LG (d:=[]) (ν:=Nat×(List Action)×Int) (fun (m10,l8,i9)=>(True∧Z4p b4 a3 x5 m10 l8 i9=some r,m10,[(0,Zc v2),(1,rd (Z0 .i64) a3),(2,rd (Z0 .i64) b4),(3,fn2 Try.prog Z3 Z3 (Z0 .i64) x5),(8,rd (Z0 .i64) i9)],[(0,Zb v2 95 Z3 l8)])) ((((b4:Int) - (IntKind.i64.wrap (a3+1))).toNat+1),d1,(IntKind.i64.wrap (a3+1))) ⟨trivial,h⟩ (FX rfl) ?_
 rintro ⟨m10,l8,i9⟩ ⟨hsf1,h⟩
 dsimp only at h ⊢
 cases m10 with
 | zero=>cases h
 | succ m10=>
  unfold Z4p at h
  refine sq<|SR<|Md rfl<|Md rfl<|Ac (Zh rfl rfl (vt rfl) (vt rfl)) rfl<|Nl<|Cq rfl h (fun h=>?_) (fun h=>?_)
  ·refine sk<|sq<|bk<|SR<|Md rfl<|As rfl<|Nl<|bk<|LG (d:=[]) (ν:=Nat×(List Action)×Int) (fun (m15,l13,j14)=>(True∧Z64 a3 x5 (Z4p b4 a3 x5 m10) i9 m15 l13 j14=some r,m15,[(0,Zc v2),(1,rd (Z0 .i64) a3),(2,rd (Z0 .i64) b4),(3,fn2 Try.prog Z3 Z3 (Z0 .i64) x5),(8,rd (Z0 .i64) i9),(9,rd (Z0 .i64) j14)],[(0,Zb v2 95 Z3 l13)])) (Z1p,l8,i9) ⟨trivial,h⟩ (FX rfl) ?_
   rintro ⟨m15,l13,j14⟩ ⟨hsf2,h⟩
   dsimp only at h ⊢
   cases m15 with
   | zero=>cases h
   | succ m15=>
    unfold Z64 at h
    refine sq<|sq ?_
    obtain ⟨x16,hx16,x17,hx17,x18,hx18,h⟩:=bs3 h
    refine AR Z0n (by kernel_rfl)<|Zt rfl<|Zt rfl<|Sd (lo [18,19] [] rfl fun S hs hr=>Z2a rfl rfl (vh hs 18 rfl rfl) (vh hs 19 rfl rfl))<|Zt rfl<|Sd (lg [3,21] [] rfl fun hq S hs hr=>Ze (A:=fn2 Try.prog Z3 Z3 (Z0 .i64) x5) rfl rfl (vh hs 3 rfl rfl))<|Sd (lg [0,21] [] rfl fun hq S hs hr=>Ze (A:=Zc v2) rfl rfl (vh hs 0 rfl rfl))<|Sd (lg [9,21] [] rfl fun hq S hs hr=>Ze (A:=rd (Z0 .i64) j14) rfl rfl (vh hs 9 rfl rfl))<|Sd (lg [23,24,21] [0] rfl fun hq S hs hr=>Z1f 0 rfl rfl Z04 (Z8 ((hs 23 rfl).trans rfl) hq) ((hr 0 rfl).trans rfl) (Z8 ((hs 24 rfl).trans rfl) hq) (Z1i hx16 hq))<|Sd (lg [25,21] [0] rfl fun hq S hs hr=>Z1a 0 rfl rfl Z07 (Z8 ((hs 25 rfl).trans rfl) hq) ((hr 0 rfl).trans rfl) (Z08 (Z1i hx16 hq)).2)<|Sd (lg [0,21] [] rfl fun hq S hs hr=>Ze (A:=Zc v2) rfl rfl (vh hs 0 rfl rfl))<|Sd (lg [9,21] [] rfl fun hq S hs hr=>Ze (A:=rd (Z0 .i64) j14) rfl rfl (vh hs 9 rfl rfl))<|Sd (lg [28,21] [] rfl fun hq S hs hr=>Z0x rfl rfl (Z8 ((hs 28 rfl).trans rfl) hq) (vk rfl))<|Sd (lg [27,29,21] [0] rfl fun hq S hs hr=>Z1f 0 rfl rfl Z04 (Z8 ((hs 27 rfl).trans rfl) hq) ((hr 0 rfl).trans rfl) (Z8 ((hs 29 rfl).trans rfl) hq) (Z1i hx17 hq))<|Sd (lg [30,21] [0] rfl fun hq S hs hr=>Z1a 0 rfl rfl Z07 (Z8 ((hs 30 rfl).trans rfl) hq) ((hr 0 rfl).trans rfl) (Z08 (Z1i hx17 hq)).2)<|Sd (lg [22,26,31,21] [] rfl fun hq S hs hr=>Zbe (Z1i hx18 hq) rfl rfl (Z8 ((hs 22 rfl).trans rfl) hq) (Z8 ((hs 26 rfl).trans rfl) hq) (Z8 ((hs 31 rfl).trans rfl) hq))<|Sd (lg [32,21] [] rfl fun hq S hs hr=>Zh rfl rfl (Z8 ((hs 32 rfl).trans rfl) hq) (vk rfl))<|Sd (lo [33,21] [] rfl fun S hs hr=>Z0y rfl rfl (vh hs 21 rfl rfl) (vh hs 33 rfl rfl))<|Sn<|Cq rfl h (fun h=>?_) (fun h=>?_)
    ·refine sk<|sq<|bk<|AW.vlen 0 rfl fun hvl0_266=>?_
     obtain ⟨x19,hx19,x20,hx20,x21,hx21,x22,hx22,h⟩:=bs4 h
     refine AR Z0n (by kernel_rfl)<|SMw rfl<|Zt rfl<|SMw rfl<|Zt rfl<|Sd (lo [40] [] rfl fun S hs hr=>Z0x rfl rfl (vh hs 40 rfl rfl) (vk rfl))<|SMw rfl<|Zt rfl<|Sd (lo [43] [] rfl fun S hs hr=>Z0x rfl rfl (vh hs 43 rfl rfl) (vk rfl))<|Sd (lo [42,44] [] rfl fun S hs hr=>Z20 (l:=l13) hvl0_266 rfl rfl rfl Z04 (vh hs 42 rfl rfl) (vh hs 44 rfl rfl) hx19)<|Sd (lo [45] [0] rfl fun S hs hr=>Z1a 0 rfl rfl Z07 (vh hs 45 rfl rfl) ((hr 0 rfl).trans rfl) (Z08 hx19).2)<|SMw rfl<|Zt rfl<|Sd (lo [47,48] [] rfl fun S hs hr=>Z20 (l:=l13) hvl0_266 rfl rfl rfl Z04 (vh hs 47 rfl rfl) (vh hs 48 rfl rfl) hx20)<|Sd (lo [49] [0] rfl fun S hs hr=>Z1a 0 rfl rfl Z07 (vh hs 49 rfl rfl) ((hr 0 rfl).trans rfl) (Z08 hx20).2)<|Sd (lo [37,38] [] rfl fun S hs hr=>Z20 (l:=l13) hvl0_266 rfl rfl rfl Z04 (vh hs 37 rfl rfl) (vh hs 38 rfl rfl) hx21)<|Sd (Z42 [51,46] [0] rfl fun S hs hr=>Z25 0 rfl rfl Z07 (vh hs 51 rfl rfl) ((hr 0 rfl).trans rfl) (Z08 hx21).2 (vh hs 46 rfl rfl))<|Sd (lo [39,41] [] rfl fun S hs hr=>Z20 (l:=(List.set l13 j14.toNat x19)) hvl0_266 (by simp) rfl rfl Z04 (vh hs 39 rfl rfl) (vh hs 41 rfl rfl) hx22)<|Sd (Z42 [52,50] [0] rfl fun S hs hr=>Z25 0 rfl rfl Z07 (vh hs 52 rfl rfl) ((hr 0 rfl).trans rfl) (Z08 hx22).2 (vh hs 50 rfl rfl))<|Sn<|Rg<|Md rfl<|Ac (Z0x rfl rfl (vt rfl) (vk rfl)) rfl<|As rfl<|Nl ?_
     exact ⟨(_,_,_),Nat.lt_succ_self _,⟨trivial,h⟩,FX rfl⟩
    ·refine xt<|Rg<|Md rfl<|Ac (Zx rfl rfl (vt rfl) (vk rfl)) rfl<|As rfl<|Nl ?_
     exact ⟨(_,_,_),Nat.lt_succ_self _,⟨trivial,h⟩,FX rfl⟩
  ·refine xt ?_
   cases h;exact Z2g (i:=0) Try.results143 rfl rfl
def Zb1 (n5:Int)(b4:Int)(a3:Int):Nat→(List Action)→Int→Option (List Action)
 | 0,_,_=>none
 | m11+1,l9,i10=>(bif (decide (i10<n5)) then (lget l9 (IntKind.i64.wrap (b4+i10))).bind fun x12=>(lget l9 (IntKind.i64.wrap (a3+i10))).bind fun x13=>(lget l9 (IntKind.i64.wrap (a3+i10))).bind fun x14=>(lget (List.set l9 (IntKind.i64.wrap (a3+i10)).toNat x12) (IntKind.i64.wrap (b4+i10))).bind fun x15=>(Zb1 n5 b4 a3 m11) (List.set (List.set l9 (IntKind.i64.wrap (a3+i10)).toNat x12) (IntKind.i64.wrap (b4+i10)).toNat x13) (IntKind.i64.wrap (i10+1)) else some l9)
def Z9x (d1:(List Action))(a3:Int)(b4:Int)(n5:Int)(x6:(Action→Action→Option Int)):Option (List Action):=
 Zb1 n5 b4 a3 (((n5:Int) - 0).toNat+1) d1 0
theorem Zfd (v2:Value)(d1:(List Action))(a3:Int)(b4:Int)(n5:Int)(x6:(Action→Action→Option Int))(r:(List Action))(h:Z9x d1 a3 b4 n5 x6=some r):Con Try.prog 150 [Zc v2,rd (Z0 .i64) a3,rd (Z0 .i64) b4,rd (Z0 .i64) n5,fn2 Try.prog Z3 Z3 (Z0 .i64) x6] (Zb v2 95 Z3 d1) (fun _:Unit=>top) (fun _=>Zb v2 95 Z3 r):=by
 refine Con.intro Try.func150 rfl Try.ntmps150 rfl fun w H X=>?_
 unfold Z9x at h
 refine SR<|Ak rfl<|Nl<|bk<|LG (d:=[]) (ν:=Nat×(List Action)×Int) (fun (m11,l9,i10)=>(True∧Zb1 n5 b4 a3 m11 l9 i10=some r,m11,[(0,Zc v2),(1,rd (Z0 .i64) a3),(2,rd (Z0 .i64) b4),(3,rd (Z0 .i64) n5),(10,rd (Z0 .i64) i10)],[(0,Zb v2 95 Z3 l9)])) ((((n5:Int) - 0).toNat+1),d1,0) ⟨trivial,h⟩ (FX rfl) ?_
 rintro ⟨m11,l9,i10⟩ ⟨hsf1,h⟩
 dsimp only at h ⊢
 cases m11 with
 | zero=>cases h
 | succ m11=>
  unfold Zb1 at h
  refine sq<|SR<|Md rfl<|Md rfl<|Ac (Zh rfl rfl (vt rfl) (vt rfl)) rfl<|Nl<|Cq rfl h (fun h=>?_) (fun h=>?_)
  ·refine sk<|sq<|bk<|AW.vlen 0 rfl fun hvl0_123=>?_
   obtain ⟨x12,hx12,x13,hx13,x14,hx14,x15,hx15,h⟩:=bs4 h
   refine AR Z0n (by kernel_rfl)<|SMw rfl<|Zt rfl<|Zt rfl<|Sd (lo [17,18] [] rfl fun S hs hr=>Zx rfl rfl (vh hs 17 rfl rfl) (vh hs 18 rfl rfl))<|SMw rfl<|Zt rfl<|Zt rfl<|Sd (lo [21,22] [] rfl fun S hs hr=>Zx rfl rfl (vh hs 21 rfl rfl) (vh hs 22 rfl rfl))<|SMw rfl<|Zt rfl<|Zt rfl<|Sd (lo [25,26] [] rfl fun S hs hr=>Zx rfl rfl (vh hs 25 rfl rfl) (vh hs 26 rfl rfl))<|Sd (lo [24,27] [] rfl fun S hs hr=>Z20 (l:=l9) hvl0_123 rfl rfl rfl Z04 (vh hs 24 rfl rfl) (vh hs 27 rfl rfl) hx12)<|Sd (lo [28] [0] rfl fun S hs hr=>Z1a 0 rfl rfl Z07 (vh hs 28 rfl rfl) ((hr 0 rfl).trans rfl) (Z08 hx12).2)<|SMw rfl<|Zt rfl<|Zt rfl<|Sd (lo [31,32] [] rfl fun S hs hr=>Zx rfl rfl (vh hs 31 rfl rfl) (vh hs 32 rfl rfl))<|Sd (lo [30,33] [] rfl fun S hs hr=>Z20 (l:=l9) hvl0_123 rfl rfl rfl Z04 (vh hs 30 rfl rfl) (vh hs 33 rfl rfl) hx13)<|Sd (lo [34] [0] rfl fun S hs hr=>Z1a 0 rfl rfl Z07 (vh hs 34 rfl rfl) ((hr 0 rfl).trans rfl) (Z08 hx13).2)<|Sd (lo [16,19] [] rfl fun S hs hr=>Z20 (l:=l9) hvl0_123 rfl rfl rfl Z04 (vh hs 16 rfl rfl) (vh hs 19 rfl rfl) hx14)<|Sd (Z42 [36,29] [0] rfl fun S hs hr=>Z25 0 rfl rfl Z07 (vh hs 36 rfl rfl) ((hr 0 rfl).trans rfl) (Z08 hx14).2 (vh hs 29 rfl rfl))<|Sd (lo [20,23] [] rfl fun S hs hr=>Z20 (l:=(List.set l9 (IntKind.i64.wrap (a3+i10)).toNat x12)) hvl0_123 (by simp) rfl rfl Z04 (vh hs 20 rfl rfl) (vh hs 23 rfl rfl) hx15)<|Sd (Z42 [37,35] [0] rfl fun S hs hr=>Z25 0 rfl rfl Z07 (vh hs 37 rfl rfl) ((hr 0 rfl).trans rfl) (Z08 hx15).2 (vh hs 35 rfl rfl))<|Sn<|Rg<|Md rfl<|Ac (Zx rfl rfl (vt rfl) (vk rfl)) rfl<|As rfl<|Nl ?_
   exact ⟨(_,_,_),Nat.lt_succ_self _,⟨trivial,h⟩,FX rfl⟩
  ·refine xt ?_
   cases h;exact Z2g (i:=0) Try.results150 rfl rfl
def Z8q (m4:Int)(x6:(Action→Action→Option Int)):Nat→(List Action)→Int→Int→Option (List Action)
 | 0,_,_,_=>none
 | m13+1,l10,i11,j12=>(bif (decide (i11≠j12)) then (bif (decide (i11>j12)) then (Z9x l10 (IntKind.i64.wrap (m4 - i11)) m4 j12 x6).bind fun l14=>(Z8q m4 x6 m13) l14 (IntKind.i64.wrap (i11 - j12)) j12 else (Z9x l10 (IntKind.i64.wrap (m4 - i11)) (IntKind.i64.wrap ((IntKind.i64.wrap (m4+j12)) - i11)) i11 x6).bind fun l15=>(Z8q m4 x6 m13) l15 i11 (IntKind.i64.wrap (j12 - i11))) else (Z9x l10 (IntKind.i64.wrap (m4 - i11)) m4 i11 x6).bind fun l16=>some l16)
def Zdx (d1:(List Action))(a3:Int)(m4:Int)(b5:Int)(x6:(Action→Action→Option Int)):Option (List Action):=
 Z8q m4 x6 Z1p d1 (IntKind.i64.wrap (m4 - a3)) (IntKind.i64.wrap (b5 - m4))
theorem Zmw (v2:Value)(d1:(List Action))(a3:Int)(m4:Int)(b5:Int)(x6:(Action→Action→Option Int))(r:(List Action))(h:Zdx d1 a3 m4 b5 x6=some r):Con Try.prog 147 [Zc v2,rd (Z0 .i64) a3,rd (Z0 .i64) m4,rd (Z0 .i64) b5,fn2 Try.prog Z3 Z3 (Z0 .i64) x6] (Zb v2 95 Z3 d1) (fun _:Unit=>top) (fun _=>Zb v2 95 Z3 r):=by
 refine Con.intro Try.func147 rfl Try.ntmps147 rfl fun w H X=>?_
 unfold Zdx at h
 refine SR<|Md rfl<|Md rfl<|Ac (Z0x rfl rfl (vt rfl) (vt rfl)) rfl<|As rfl<|Nl<|SR<|Md rfl<|Md rfl<|Ac (Z0x rfl rfl (vt rfl) (vt rfl)) rfl<|As rfl<|Nl<|sq<|bk<|LG (d:=[]) (ν:=Nat×(List Action)×Int×Int) (fun (m13,l10,i11,j12)=>(True∧Z8q m4 x6 m13 l10 i11 j12=some r,m13,[(0,Zc v2),(2,rd (Z0 .i64) m4),(4,fn2 Try.prog Z3 Z3 (Z0 .i64) x6),(10,rd (Z0 .i64) i11),(11,rd (Z0 .i64) j12)],[(0,Zb v2 95 Z3 l10)])) (Z1p,d1,(IntKind.i64.wrap (m4 - a3)),(IntKind.i64.wrap (b5 - m4))) ⟨trivial,h⟩ (FX rfl) ?_
 rintro ⟨m13,l10,i11,j12⟩ ⟨hsf1,h⟩
 dsimp only at h ⊢
 cases m13 with
 | zero=>cases h
 | succ m13=>
  unfold Z8q at h
  refine sq<|SR<|Md rfl<|Md rfl<|Ac (Z1x rfl rfl (vt rfl) (vt rfl)) rfl<|Nl<|Cq rfl h (fun h=>?_) (fun h=>?_)
  ·refine sk<|bk<|SR<|Md rfl<|Md rfl<|Ac (Z2a rfl rfl (vt rfl) (vt rfl)) rfl<|Nl<|Cq rfl h (fun h=>?_) (fun h=>?_)
   ·refine sq ?_
    obtain ⟨l14,hl14,h⟩:=Za h
    refine Rg<|Mw rfl<|Md rfl<|Md rfl<|Ac (Z0x rfl rfl (vt rfl) (vt rfl)) rfl<|Md rfl<|Md rfl<|Ac (Ze (A:=fn2 Try.prog Z3 Z3 (Z0 .i64) x6) rfl rfl (vt rfl)) rfl<|Cv rfl (Z13 0 (xs:=[.tmp 24,.tmp 27,.tmp 28,.tmp 29,.tmp 30]) (Zfd _ _ _ _ _ _ _ hl14) Zeq rfl rfl ⟨vt rfl,vt rfl,vt rfl,vt rfl,vt rfl,trivial⟩ rfl) fun _u=>Nl<|Rg<|Md rfl<|Md rfl<|Ac (Z0x rfl rfl (vt rfl) (vt rfl)) rfl<|As rfl<|Nl ?_
    exact ⟨(_,_,_,_),Nat.lt_succ_self _,⟨trivial,h⟩,FX rfl⟩
   ·refine sq ?_
    obtain ⟨l15,hl15,h⟩:=Za h
    refine Rg<|Mw rfl<|Md rfl<|Md rfl<|Ac (Z0x rfl rfl (vt rfl) (vt rfl)) rfl<|Md rfl<|Md rfl<|Ac (Zx rfl rfl (vt rfl) (vt rfl)) rfl<|Md rfl<|Ac (Z0x rfl rfl (vt rfl) (vt rfl)) rfl<|Md rfl<|Ac (Ze (A:=fn2 Try.prog Z3 Z3 (Z0 .i64) x6) rfl rfl (vt rfl)) rfl<|Cv rfl (Z13 0 (xs:=[.tmp 35,.tmp 38,.tmp 43,.tmp 44,.tmp 45]) (Zfd _ _ _ _ _ _ _ hl15) Zeq rfl rfl ⟨vt rfl,vt rfl,vt rfl,vt rfl,vt rfl,trivial⟩ rfl) fun _u=>Nl<|Rg<|Md rfl<|Md rfl<|Ac (Z0x rfl rfl (vt rfl) (vt rfl)) rfl<|As rfl<|Nl ?_
    exact ⟨(_,_,_,_),Nat.lt_succ_self _,⟨trivial,h⟩,FX rfl⟩
  ·refine xt ?_
   obtain ⟨l16,hl16,h⟩:=Za h
   refine Rg<|Mw rfl<|Md rfl<|Md rfl<|Ac (Z0x rfl rfl (vt rfl) (vt rfl)) rfl<|Md rfl<|Md rfl<|Ac (Ze (A:=fn2 Try.prog Z3 Z3 (Z0 .i64) x6) rfl rfl (vt rfl)) rfl<|Cv rfl (Z13 0 (xs:=[.tmp 50,.tmp 53,.tmp 54,.tmp 55,.tmp 56]) (Zfd _ _ _ _ _ _ _ hl16) Zeq rfl rfl ⟨vt rfl,vt rfl,vt rfl,vt rfl,vt rfl,trivial⟩ rfl) fun _u=>Nl ?_
   cases h;exact Z2g (i:=0) Try.results147 rfl rfl
def Zbc (i9:Int):Nat→(List Action)→Int→Option (List Action)
 | 0,_,_=>none
 | m20+1,l18,k19=>(bif (decide (k19<(IntKind.i64.wrap (i9 - 1)))) then (lget l18 (IntKind.i64.wrap (k19+1))).bind fun x21=>(lget l18 k19).bind fun x22=>(lget l18 k19).bind fun x23=>(lget (List.set l18 k19.toNat x21) (IntKind.i64.wrap (k19+1))).bind fun x24=>(Zbc i9 m20) (List.set (List.set l18 k19.toNat x21) (IntKind.i64.wrap (k19+1)).toNat x22) (IntKind.i64.wrap (k19+1)) else some l18)
def Z8l (d1:(List Action))(a3:Int)(x6:(Action→Action→Option Int)):Nat→Int→Int→Option (List Action)
 | 0,_,_=>none
 | m11+1,i9,j10=>(bif (decide (i9<j10)) then (Z60 (BitVec.ofInt 64 (IntKind.i64.wrap (i9+j10))) ((1:BitVec 64).toNat:Int)).bind fun q12=>(lget d1 (IntKind.i64.wrap (q12.toNat:Int))).bind fun x13=>(lget d1 a3).bind fun x14=>(x6 x13 x14).bind fun x15=>(bif (decide (x15<0)) then (Z8l d1 a3 x6 m11) (IntKind.i64.wrap ((IntKind.i64.wrap (q12.toNat:Int))+1)) j10 else (Z8l d1 a3 x6 m11) i9 (IntKind.i64.wrap (q12.toNat:Int))) else Zbc i9 ((((IntKind.i64.wrap (i9 - 1)):Int) - a3).toNat+1) d1 a3)
def Zbp (i27:Int):Nat→(List Action)→Int→Option (List Action)
 | 0,_,_=>none
 | m38+1,l36,k37=>(bif (decide (k37>i27)) then (lget l36 (IntKind.i64.wrap (k37 - 1))).bind fun x39=>(lget l36 k37).bind fun x40=>(lget l36 k37).bind fun x41=>(lget (List.set l36 k37.toNat x39) (IntKind.i64.wrap (k37 - 1))).bind fun x42=>(Zbp i27 m38) (List.set (List.set l36 k37.toNat x39) (IntKind.i64.wrap (k37 - 1)).toNat x40) (IntKind.i64.wrap (k37 - 1)) else some l36)
def Z97 (d1:(List Action))(m4:Int)(x6:(Action→Action→Option Int)):Nat→Int→Int→Option (List Action)
 | 0,_,_=>none
 | m29+1,i27,j28=>(bif (decide (i27<j28)) then (Z60 (BitVec.ofInt 64 (IntKind.i64.wrap (i27+j28))) ((1:BitVec 64).toNat:Int)).bind fun q30=>(lget d1 m4).bind fun x31=>(lget d1 (IntKind.i64.wrap (q30.toNat:Int))).bind fun x32=>(x6 x31 x32).bind fun x33=>(bif (!(decide (x33<0))) then (Z97 d1 m4 x6 m29) (IntKind.i64.wrap ((IntKind.i64.wrap (q30.toNat:Int))+1)) j28 else (Z97 d1 m4 x6 m29) i27 (IntKind.i64.wrap (q30.toNat:Int))) else Zbp i27 (((m4:Int) - i27).toNat+1) d1 m4)
def Zb5 (q43:(BitVec 64))(m4:Int)(s48:Int)(b5:Int)(R_slices_symMergeCmpFunc_Action:((List Action)→Int→Int→Int→(Action→Action→Option Int)→Option (List Action)))(x6:(Action→Action→Option Int))(l56:(List Action)):Option (List Action):=
 (bif ((decide ((IntKind.i64.wrap (q43.toNat:Int))<(IntKind.i64.wrap ((IntKind.i64.wrap ((IntKind.i64.wrap (q43.toNat:Int))+m4)) - s48))))&&(decide ((IntKind.i64.wrap ((IntKind.i64.wrap ((IntKind.i64.wrap (q43.toNat:Int))+m4)) - s48))<b5))) then (R_slices_symMergeCmpFunc_Action l56 (IntKind.i64.wrap (q43.toNat:Int)) (IntKind.i64.wrap ((IntKind.i64.wrap ((IntKind.i64.wrap (q43.toNat:Int))+m4)) - s48)) b5 x6).bind fun l57=>some l57 else some l56)
def Zcr (a3:Int)(s48:Int)(q43:(BitVec 64))(R_slices_symMergeCmpFunc_Action:((List Action)→Int→Int→Int→(Action→Action→Option Int)→Option (List Action)))(x6:(Action→Action→Option Int))(m4:Int)(b5:Int)(l55:(List Action)):Option (List Action):=
 (bif ((decide (a3<s48))&&(decide (s48<(IntKind.i64.wrap (q43.toNat:Int))))) then (R_slices_symMergeCmpFunc_Action l55 a3 s48 (IntKind.i64.wrap (q43.toNat:Int)) x6).bind fun l58=>Zb5 q43 m4 s48 b5 R_slices_symMergeCmpFunc_Action x6 l58 else Zb5 q43 m4 s48 b5 R_slices_symMergeCmpFunc_Action x6 l55)
def Z8v (d1:(List Action))(q43:(BitVec 64))(m4:Int)(x6:(Action→Action→Option Int))(a3:Int)(R_slices_symMergeCmpFunc_Action:((List Action)→Int→Int→Int→(Action→Action→Option Int)→Option (List Action)))(b5:Int):Nat→Int→Int→Option (List Action)
 | 0,_,_=>none
 | m50+1,s48,x49=>(bif (decide (s48<x49)) then (Z60 (BitVec.ofInt 64 (IntKind.i64.wrap (s48+x49))) ((1:BitVec 64).toNat:Int)).bind fun q51=>(lget d1 (IntKind.i64.wrap ((IntKind.i64.wrap ((IntKind.i64.wrap ((IntKind.i64.wrap (q43.toNat:Int))+m4)) - 1)) - (IntKind.i64.wrap (q51.toNat:Int))))).bind fun x52=>(lget d1 (IntKind.i64.wrap (q51.toNat:Int))).bind fun x53=>(x6 x52 x53).bind fun x54=>(bif (!(decide (x54<0))) then (Z8v d1 q43 m4 x6 a3 R_slices_symMergeCmpFunc_Action b5 m50) (IntKind.i64.wrap ((IntKind.i64.wrap (q51.toNat:Int))+1)) x49 else (Z8v d1 q43 m4 x6 a3 R_slices_symMergeCmpFunc_Action b5 m50) s48 (IntKind.i64.wrap (q51.toNat:Int))) else (bif ((decide (s48<m4))&&(decide (m4<(IntKind.i64.wrap ((IntKind.i64.wrap ((IntKind.i64.wrap (q43.toNat:Int))+m4)) - s48))))) then (Zdx d1 s48 m4 (IntKind.i64.wrap ((IntKind.i64.wrap ((IntKind.i64.wrap (q43.toNat:Int))+m4)) - s48)) x6).bind fun l59=>Zcr a3 s48 q43 R_slices_symMergeCmpFunc_Action x6 m4 b5 l59 else Zcr a3 s48 q43 R_slices_symMergeCmpFunc_Action x6 m4 b5 d1))
def Zbw (d1:(List Action))(q43:(BitVec 64))(m4:Int)(x6:(Action→Action→Option Int))(a3:Int)(R_slices_symMergeCmpFunc_Action:((List Action)→Int→Int→Int→(Action→Action→Option Int)→Option (List Action)))(b5:Int)(s44:Int)(x45:Int):Option (List Action):=
 Z8v d1 q43 m4 x6 a3 R_slices_symMergeCmpFunc_Action b5 (((x45:Int) - s44).toNat+1) s44 x45
def Zf3 (R_slices_symMergeCmpFunc_Action:((List Action)→Int→Int→Int→(Action→Action→Option Int)→Option (List Action)))(d1:(List Action))(a3:Int)(m4:Int)(b5:Int)(x6:(Action→Action→Option Int)):Option (List Action):=
 (bif (decide ((IntKind.i64.wrap (m4 - a3))=1)) then Z8l d1 a3 x6 (((b5:Int) - m4).toNat+1) m4 b5 else (bif (decide ((IntKind.i64.wrap (b5 - m4))=1)) then Z97 d1 m4 x6 (((m4:Int) - a3).toNat+1) a3 m4 else (Z60 (BitVec.ofInt 64 (IntKind.i64.wrap (a3+b5))) ((1:BitVec 64).toNat:Int)).bind fun q43=>(bif (decide (m4>(IntKind.i64.wrap (q43.toNat:Int)))) then Zbw d1 q43 m4 x6 a3 R_slices_symMergeCmpFunc_Action b5 (IntKind.i64.wrap ((IntKind.i64.wrap ((IntKind.i64.wrap (q43.toNat:Int))+m4)) - b5)) (IntKind.i64.wrap (q43.toNat:Int)) else Zbw d1 q43 m4 x6 a3 R_slices_symMergeCmpFunc_Action b5 a3 m4)))
theorem Zm6 (R_slices_symMergeCmpFunc_Action:((List Action)→Int→Int→Int→(Action→Action→Option Int)→Option (List Action)))(hR_slices_symMergeCmpFunc_Action:∀(v2:Value) (d1:(List Action)) (a3:Int) (m4:Int) (b5:Int) (x6:(Action→Action→Option Int)) (r:(List Action)),R_slices_symMergeCmpFunc_Action d1 a3 m4 b5 x6=some r→Con Try.prog 144 [Zc v2,rd (Z0 .i64) a3,rd (Z0 .i64) m4,rd (Z0 .i64) b5,fn2 Try.prog Z3 Z3 (Z0 .i64) x6] (Zb v2 95 Z3 d1) (fun _:Unit=>top) (fun _=>Zb v2 95 Z3 r))(v2:Value)(d1:(List Action))(a3:Int)(m4:Int)(b5:Int)(x6:(Action→Action→Option Int))(r:(List Action))(h:Zf3 R_slices_symMergeCmpFunc_Action d1 a3 m4 b5 x6=some r):Con Try.prog 144 [Zc v2,rd (Z0 .i64) a3,rd (Z0 .i64) m4,rd (Z0 .i64) b5,fn2 Try.prog Z3 Z3 (Z0 .i64) x6] (Zb v2 95 Z3 d1) (fun _:Unit=>top) (fun _=>Zb v2 95 Z3 r):=by
 refine Con.intro Try.func144 rfl Try.ntmps144 rfl fun w H X=>?_
 unfold Zf3 at h
 refine sq<|SR<|Md rfl<|Md rfl<|Ac (Z0x rfl rfl (vt rfl) (vt rfl)) rfl<|Ac (Z0l rfl rfl (vt rfl) (vk rfl)) rfl<|Nl<|Cq rfl h (fun h=>?_) (fun h=>?_)
 ·refine SR<|Md rfl<|As rfl<|Nl<|SR<|Md rfl<|As rfl<|Nl<|sq<|bk<|LG (d:=[]) (ν:=Nat×Int×Int) (fun (m11,i9,j10)=>(True∧Z8l d1 a3 x6 m11 i9 j10=some r,m11,[(0,Zc v2),(1,rd (Z0 .i64) a3),(4,fn2 Try.prog Z3 Z3 (Z0 .i64) x6),(10,rd (Z0 .i64) i9),(11,rd (Z0 .i64) j10)],[(0,Zb v2 95 Z3 d1)])) ((((b5:Int) - m4).toNat+1),m4,b5) ⟨trivial,h⟩ (FX rfl) ?_
  rintro ⟨m11,i9,j10⟩ ⟨hsf1,h⟩
  dsimp only at h ⊢
  cases m11 with
  | zero=>cases h
  | succ m11=>
   unfold Z8l at h
   refine sq<|SR<|Md rfl<|Md rfl<|Ac (Zh rfl rfl (vt rfl) (vt rfl)) rfl<|Nl<|Cq rfl h (fun h=>?_) (fun h=>?_)
   ·refine sk<|bk<|sq ?_
    obtain ⟨q12,hq12,h⟩:=Za h
    refine Rg<|Md rfl<|Md rfl<|Ac (Zx rfl rfl (vt rfl) (vt rfl)) rfl<|Ac (Zb2 rfl rfl us3 Zbn (vt rfl)) rfl<|Ac (Zbu rfl rfl (vt rfl) (Zcp (vku (1:BitVec 64) rfl)) hq12) rfl<|Ac (Zck rfl rfl Zbl un3 (vt rfl)) rfl<|As rfl<|Nl<|sq ?_
    obtain ⟨x13,hx13,x14,hx14,x15,hx15,h⟩:=bs3 h
    refine AR Z0n (by kernel_rfl)<|Sd (lo [4] [] rfl fun S hs hr=>Ze (A:=fn2 Try.prog Z3 Z3 (Z0 .i64) x6) rfl rfl (vh hs 4 rfl rfl))<|SMw rfl<|Zt rfl<|Sd (lo [41,42] [0] rfl fun S hs hr=>Z1f 0 rfl rfl Z04 (vh hs 41 rfl rfl) ((hr 0 rfl).trans rfl) (vh hs 42 rfl rfl) hx13)<|Sd (lo [43] [0] rfl fun S hs hr=>Z1a 0 rfl rfl Z07 (vh hs 43 rfl rfl) ((hr 0 rfl).trans rfl) (Z08 hx13).2)<|SMw rfl<|Zt rfl<|Sd (lo [45,46] [0] rfl fun S hs hr=>Z1f 0 rfl rfl Z04 (vh hs 45 rfl rfl) ((hr 0 rfl).trans rfl) (vh hs 46 rfl rfl) hx14)<|Sd (lo [47] [0] rfl fun S hs hr=>Z1a 0 rfl rfl Z07 (vh hs 47 rfl rfl) ((hr 0 rfl).trans rfl) (Z08 hx14).2)<|Sd (lo [40,44,48] [] rfl fun S hs hr=>Zbe hx15 rfl rfl (vh hs 40 rfl rfl) (vh hs 44 rfl rfl) (vh hs 48 rfl rfl))<|Sd (lo [49] [] rfl fun S hs hr=>Zh rfl rfl (vh hs 49 rfl rfl) (vk rfl))<|Sn<|Cq rfl h (fun h=>?_) (fun h=>?_)
    ·refine Rg<|Md rfl<|Ac (Zx rfl rfl (vt rfl) (vk rfl)) rfl<|As rfl<|Nl ?_
     exact ⟨(_,_,_),Nat.lt_succ_self _,⟨trivial,h⟩,FX rfl⟩
    ·refine Rg<|Md rfl<|As rfl<|Nl ?_
     exact ⟨(_,_,_),Nat.lt_succ_self _,⟨trivial,h⟩,FX rfl⟩
   ·refine xt<|sq<|SR<|Md rfl<|As rfl<|Nl<|bk<|LG (d:=[]) (ν:=Nat×(List Action)×Int) (fun (m20,l18,k19)=>(True∧Zbc i9 m20 l18 k19=some r,m20,[(0,Zc v2),(10,rd (Z0 .i64) i9),(13,rd (Z0 .i64) k19)],[(0,Zb v2 95 Z3 l18)])) (((((IntKind.i64.wrap (i9 - 1)):Int) - a3).toNat+1),d1,a3) ⟨trivial,h⟩ (FX rfl) ?_
    rintro ⟨m20,l18,k19⟩ ⟨hsf2,h⟩
    dsimp only at h ⊢
    cases m20 with
    | zero=>cases h
    | succ m20=>
     unfold Zbc at h
     refine sq<|SR<|Md rfl<|Md rfl<|Ac (Z0x rfl rfl (vt rfl) (vk rfl)) rfl<|Ac (Zh rfl rfl (vt rfl) (vt rfl)) rfl<|Nl<|Cq rfl h (fun h=>?_) (fun h=>?_)
     ·refine sk<|sq<|bk<|AW.vlen 0 rfl fun hvl0_205=>?_
      obtain ⟨x21,hx21,x22,hx22,x23,hx23,x24,hx24,h⟩:=bs4 h
      refine AR Z0n (by kernel_rfl)<|SMw rfl<|Zt rfl<|SMw rfl<|Zt rfl<|Sd (lo [64] [] rfl fun S hs hr=>Zx rfl rfl (vh hs 64 rfl rfl) (vk rfl))<|SMw rfl<|Zt rfl<|Sd (lo [67] [] rfl fun S hs hr=>Zx rfl rfl (vh hs 67 rfl rfl) (vk rfl))<|Sd (lo [66,68] [] rfl fun S hs hr=>Z20 (l:=l18) hvl0_205 rfl rfl rfl Z04 (vh hs 66 rfl rfl) (vh hs 68 rfl rfl) hx21)<|Sd (lo [69] [0] rfl fun S hs hr=>Z1a 0 rfl rfl Z07 (vh hs 69 rfl rfl) ((hr 0 rfl).trans rfl) (Z08 hx21).2)<|SMw rfl<|Zt rfl<|Sd (lo [71,72] [] rfl fun S hs hr=>Z20 (l:=l18) hvl0_205 rfl rfl rfl Z04 (vh hs 71 rfl rfl) (vh hs 72 rfl rfl) hx22)<|Sd (lo [73] [0] rfl fun S hs hr=>Z1a 0 rfl rfl Z07 (vh hs 73 rfl rfl) ((hr 0 rfl).trans rfl) (Z08 hx22).2)<|Sd (lo [61,62] [] rfl fun S hs hr=>Z20 (l:=l18) hvl0_205 rfl rfl rfl Z04 (vh hs 61 rfl rfl) (vh hs 62 rfl rfl) hx23)<|Sd (Z42 [75,70] [0] rfl fun S hs hr=>Z25 0 rfl rfl Z07 (vh hs 75 rfl rfl) ((hr 0 rfl).trans rfl) (Z08 hx23).2 (vh hs 70 rfl rfl))<|Sd (lo [63,65] [] rfl fun S hs hr=>Z20 (l:=(List.set l18 k19.toNat x21)) hvl0_205 (by simp) rfl rfl Z04 (vh hs 63 rfl rfl) (vh hs 65 rfl rfl) hx24)<|Sd (Z42 [76,74] [0] rfl fun S hs hr=>Z25 0 rfl rfl Z07 (vh hs 76 rfl rfl) ((hr 0 rfl).trans rfl) (Z08 hx24).2 (vh hs 74 rfl rfl))<|Sn<|Rg<|Md rfl<|Ac (Zx rfl rfl (vt rfl) (vk rfl)) rfl<|As rfl<|Nl ?_
      exact ⟨(_,_,_),Nat.lt_succ_self _,⟨trivial,h⟩,FX rfl⟩
     ·refine xt<|rt ?_
      cases h;exact Z2g (i:=0) Try.results144 rfl rfl
 ·refine sk<|sq<|SR<|Md rfl<|Md rfl<|Ac (Z0x rfl rfl (vt rfl) (vt rfl)) rfl<|Ac (Z0l rfl rfl (vt rfl) (vk rfl)) rfl<|Nl<|Cq rfl h (fun h=>?_) (fun h=>?_)
  ·refine SR<|Md rfl<|As rfl<|Nl<|SR<|Md rfl<|As rfl<|Nl<|sq<|bk<|LG (d:=[]) (ν:=Nat×Int×Int) (fun (m29,i27,j28)=>(True∧Z97 d1 m4 x6 m29 i27 j28=some r,m29,[(0,Zc v2),(2,rd (Z0 .i64) m4),(4,fn2 Try.prog Z3 Z3 (Z0 .i64) x6),(14,rd (Z0 .i64) i27),(15,rd (Z0 .i64) j28)],[(0,Zb v2 95 Z3 d1)])) ((((m4:Int) - a3).toNat+1),a3,m4) ⟨trivial,h⟩ (FX rfl) ?_
   rintro ⟨m29,i27,j28⟩ ⟨hsf3,h⟩
   dsimp only at h ⊢
   cases m29 with
   | zero=>cases h
   | succ m29=>
    unfold Z97 at h
    refine sq<|SR<|Md rfl<|Md rfl<|Ac (Zh rfl rfl (vt rfl) (vt rfl)) rfl<|Nl<|Cq rfl h (fun h=>?_) (fun h=>?_)
    ·refine sk<|bk<|sq ?_
     obtain ⟨q30,hq30,h⟩:=Za h
     refine Rg<|Md rfl<|Md rfl<|Ac (Zx rfl rfl (vt rfl) (vt rfl)) rfl<|Ac (Zb2 rfl rfl us3 Zbn (vt rfl)) rfl<|Ac (Zbu rfl rfl (vt rfl) (Zcp (vku (1:BitVec 64) rfl)) hq30) rfl<|Ac (Zck rfl rfl Zbl un3 (vt rfl)) rfl<|As rfl<|Nl<|sq ?_
     obtain ⟨x31,hx31,x32,hx32,x33,hx33,h⟩:=bs3 h
     refine AR Z0n (by kernel_rfl)<|Sd (lo [4] [] rfl fun S hs hr=>Ze (A:=fn2 Try.prog Z3 Z3 (Z0 .i64) x6) rfl rfl (vh hs 4 rfl rfl))<|SMw rfl<|Zt rfl<|Sd (lo [93,94] [0] rfl fun S hs hr=>Z1f 0 rfl rfl Z04 (vh hs 93 rfl rfl) ((hr 0 rfl).trans rfl) (vh hs 94 rfl rfl) hx31)<|Sd (lo [95] [0] rfl fun S hs hr=>Z1a 0 rfl rfl Z07 (vh hs 95 rfl rfl) ((hr 0 rfl).trans rfl) (Z08 hx31).2)<|SMw rfl<|Zt rfl<|Sd (lo [97,98] [0] rfl fun S hs hr=>Z1f 0 rfl rfl Z04 (vh hs 97 rfl rfl) ((hr 0 rfl).trans rfl) (vh hs 98 rfl rfl) hx32)<|Sd (lo [99] [0] rfl fun S hs hr=>Z1a 0 rfl rfl Z07 (vh hs 99 rfl rfl) ((hr 0 rfl).trans rfl) (Z08 hx32).2)<|Sd (lo [92,96,100] [] rfl fun S hs hr=>Zbe hx33 rfl rfl (vh hs 92 rfl rfl) (vh hs 96 rfl rfl) (vh hs 100 rfl rfl))<|Sd (lo [101] [] rfl fun S hs hr=>Zh rfl rfl (vh hs 101 rfl rfl) (vk rfl))<|Sd (lo [102] [] rfl fun S hs hr=>Z1g rfl rfl (vh hs 102 rfl rfl))<|Sn<|Cq rfl h (fun h=>?_) (fun h=>?_)
     ·refine Rg<|Md rfl<|Ac (Zx rfl rfl (vt rfl) (vk rfl)) rfl<|As rfl<|Nl ?_
      exact ⟨(_,_,_),Nat.lt_succ_self _,⟨trivial,h⟩,FX rfl⟩
     ·refine Rg<|Md rfl<|As rfl<|Nl ?_
      exact ⟨(_,_,_),Nat.lt_succ_self _,⟨trivial,h⟩,FX rfl⟩
    ·refine xt<|sq<|SR<|Md rfl<|As rfl<|Nl<|bk<|LG (d:=[]) (ν:=Nat×(List Action)×Int) (fun (m38,l36,k37)=>(True∧Zbp i27 m38 l36 k37=some r,m38,[(0,Zc v2),(14,rd (Z0 .i64) i27),(17,rd (Z0 .i64) k37)],[(0,Zb v2 95 Z3 l36)])) ((((m4:Int) - i27).toNat+1),d1,m4) ⟨trivial,h⟩ (FX rfl) ?_
     rintro ⟨m38,l36,k37⟩ ⟨hsf4,h⟩
     dsimp only at h ⊢
     cases m38 with
     | zero=>cases h
     | succ m38=>
      unfold Zbp at h
      refine sq<|SR<|Md rfl<|Md rfl<|Ac (Z2a rfl rfl (vt rfl) (vt rfl)) rfl<|Nl<|Cq rfl h (fun h=>?_) (fun h=>?_)
      ·refine sk<|sq<|bk<|AW.vlen 0 rfl fun hvl0_446=>?_
       obtain ⟨x39,hx39,x40,hx40,x41,hx41,x42,hx42,h⟩:=bs4 h
       refine AR Z0n (by kernel_rfl)<|SMw rfl<|Zt rfl<|SMw rfl<|Zt rfl<|Sd (lo [116] [] rfl fun S hs hr=>Z0x rfl rfl (vh hs 116 rfl rfl) (vk rfl))<|SMw rfl<|Zt rfl<|Sd (lo [119] [] rfl fun S hs hr=>Z0x rfl rfl (vh hs 119 rfl rfl) (vk rfl))<|Sd (lo [118,120] [] rfl fun S hs hr=>Z20 (l:=l36) hvl0_446 rfl rfl rfl Z04 (vh hs 118 rfl rfl) (vh hs 120 rfl rfl) hx39)<|Sd (lo [121] [0] rfl fun S hs hr=>Z1a 0 rfl rfl Z07 (vh hs 121 rfl rfl) ((hr 0 rfl).trans rfl) (Z08 hx39).2)<|SMw rfl<|Zt rfl<|Sd (lo [123,124] [] rfl fun S hs hr=>Z20 (l:=l36) hvl0_446 rfl rfl rfl Z04 (vh hs 123 rfl rfl) (vh hs 124 rfl rfl) hx40)<|Sd (lo [125] [0] rfl fun S hs hr=>Z1a 0 rfl rfl Z07 (vh hs 125 rfl rfl) ((hr 0 rfl).trans rfl) (Z08 hx40).2)<|Sd (lo [113,114] [] rfl fun S hs hr=>Z20 (l:=l36) hvl0_446 rfl rfl rfl Z04 (vh hs 113 rfl rfl) (vh hs 114 rfl rfl) hx41)<|Sd (Z42 [127,122] [0] rfl fun S hs hr=>Z25 0 rfl rfl Z07 (vh hs 127 rfl rfl) ((hr 0 rfl).trans rfl) (Z08 hx41).2 (vh hs 122 rfl rfl))<|Sd (lo [115,117] [] rfl fun S hs hr=>Z20 (l:=(List.set l36 k37.toNat x39)) hvl0_446 (by simp) rfl rfl Z04 (vh hs 115 rfl rfl) (vh hs 117 rfl rfl) hx42)<|Sd (Z42 [128,126] [0] rfl fun S hs hr=>Z25 0 rfl rfl Z07 (vh hs 128 rfl rfl) ((hr 0 rfl).trans rfl) (Z08 hx42).2 (vh hs 126 rfl rfl))<|Sn<|Rg<|Md rfl<|Ac (Z0x rfl rfl (vt rfl) (vk rfl)) rfl<|As rfl<|Nl ?_
       exact ⟨(_,_,_),Nat.lt_succ_self _,⟨trivial,h⟩,FX rfl⟩
      ·refine xt<|rt ?_
       cases h;exact Z2g (i:=0) Try.results144 rfl rfl
  ·refine sk<|sq ?_
   obtain ⟨q43,hq43,h⟩:=Za h
   refine Rg<|Md rfl<|Md rfl<|Ac (Zx rfl rfl (vt rfl) (vt rfl)) rfl<|Ac (Zb2 rfl rfl us3 Zbn (vt rfl)) rfl<|Ac (Zbu rfl rfl (vt rfl) (Zcp (vku (1:BitVec 64) rfl)) hq43) rfl<|Ac (Zck rfl rfl Zbl un3 (vt rfl)) rfl<|As rfl<|Nl<|SR<|Md rfl<|Md rfl<|Ac (Zx rfl rfl (vt rfl) (vt rfl)) rfl<|As rfl<|Nl<|SR<|Ak rfl<|Ak rfl<|Nl ?_
   refine JN (d:=[]) (ν:=Int×Int) (fun (s44,x45)=>(Zbw d1 q43 m4 x6 a3 R_slices_symMergeCmpFunc_Action b5 s44 x45=some r,[(0,Zc v2),(1,rd (Z0 .i64) a3),(2,rd (Z0 .i64) m4),(3,rd (Z0 .i64) b5),(4,fn2 Try.prog Z3 Z3 (Z0 .i64) x6),(18,rd (Z0 .i64) (IntKind.i64.wrap (q43.toNat:Int))),(19,rd (Z0 .i64) (IntKind.i64.wrap ((IntKind.i64.wrap (q43.toNat:Int))+m4))),(20,rd (Z0 .i64) s44),(21,rd (Z0 .i64) x45)],[(0,Zb v2 95 Z3 d1)])) ?hx5 ?hy5
   case hy5=>
    rintro ⟨s44,x45⟩ h
    dsimp only at h ⊢
    unfold Zbw at h
    refine SR<|Md rfl<|Ac (Z0x rfl rfl (vt rfl) (vk rfl)) rfl<|As rfl<|Nl<|sq<|bk<|LG (d:=[]) (ν:=Nat×Int×Int) (fun (m50,s48,x49)=>(True∧Z8v d1 q43 m4 x6 a3 R_slices_symMergeCmpFunc_Action b5 m50 s48 x49=some r,m50,[(0,Zc v2),(1,rd (Z0 .i64) a3),(2,rd (Z0 .i64) m4),(3,rd (Z0 .i64) b5),(4,fn2 Try.prog Z3 Z3 (Z0 .i64) x6),(18,rd (Z0 .i64) (IntKind.i64.wrap (q43.toNat:Int))),(19,rd (Z0 .i64) (IntKind.i64.wrap ((IntKind.i64.wrap (q43.toNat:Int))+m4))),(20,rd (Z0 .i64) s48),(21,rd (Z0 .i64) x49),(22,rd (Z0 .i64) (IntKind.i64.wrap ((IntKind.i64.wrap ((IntKind.i64.wrap (q43.toNat:Int))+m4)) - 1)))],[(0,Zb v2 95 Z3 d1)])) ((((x45:Int) - s44).toNat+1),s44,x45) ⟨trivial,h⟩ (FX rfl) ?_
    rintro ⟨m50,s48,x49⟩ ⟨hsf6,h⟩
    dsimp only at h ⊢
    cases m50 with
    | zero=>cases h
    | succ m50=>
     unfold Z8v at h
     refine sq<|SR<|Md rfl<|Md rfl<|Ac (Zh rfl rfl (vt rfl) (vt rfl)) rfl<|Nl<|Cq rfl h (fun h=>?_) (fun h=>?_)
     ·refine sk<|bk<|sq ?_
      obtain ⟨q51,hq51,h⟩:=Za h
      refine Rg<|Md rfl<|Md rfl<|Ac (Zx rfl rfl (vt rfl) (vt rfl)) rfl<|Ac (Zb2 rfl rfl us3 Zbn (vt rfl)) rfl<|Ac (Zbu rfl rfl (vt rfl) (Zcp (vku (1:BitVec 64) rfl)) hq51) rfl<|Ac (Zck rfl rfl Zbl un3 (vt rfl)) rfl<|As rfl<|Nl<|sq ?_
      obtain ⟨x52,hx52,x53,hx53,x54,hx54,h⟩:=bs3 h
      refine AR Z0n (by kernel_rfl)<|Sd (lo [4] [] rfl fun S hs hr=>Ze (A:=fn2 Try.prog Z3 Z3 (Z0 .i64) x6) rfl rfl (vh hs 4 rfl rfl))<|SMw rfl<|Zt rfl<|Zt rfl<|Sd (lo [160,161] [] rfl fun S hs hr=>Z0x rfl rfl (vh hs 160 rfl rfl) (vh hs 161 rfl rfl))<|Sd (lo [159,162] [0] rfl fun S hs hr=>Z1f 0 rfl rfl Z04 (vh hs 159 rfl rfl) ((hr 0 rfl).trans rfl) (vh hs 162 rfl rfl) hx52)<|Sd (lo [163] [0] rfl fun S hs hr=>Z1a 0 rfl rfl Z07 (vh hs 163 rfl rfl) ((hr 0 rfl).trans rfl) (Z08 hx52).2)<|SMw rfl<|Zt rfl<|Sd (lo [165,166] [0] rfl fun S hs hr=>Z1f 0 rfl rfl Z04 (vh hs 165 rfl rfl) ((hr 0 rfl).trans rfl) (vh hs 166 rfl rfl) hx53)<|Sd (lo [167] [0] rfl fun S hs hr=>Z1a 0 rfl rfl Z07 (vh hs 167 rfl rfl) ((hr 0 rfl).trans rfl) (Z08 hx53).2)<|Sd (lo [158,164,168] [] rfl fun S hs hr=>Zbe hx54 rfl rfl (vh hs 158 rfl rfl) (vh hs 164 rfl rfl) (vh hs 168 rfl rfl))<|Sd (lo [169] [] rfl fun S hs hr=>Zh rfl rfl (vh hs 169 rfl rfl) (vk rfl))<|Sd (lo [170] [] rfl fun S hs hr=>Z1g rfl rfl (vh hs 170 rfl rfl))<|Sn<|Cq rfl h (fun h=>?_) (fun h=>?_)
      ·refine Rg<|Md rfl<|Ac (Zx rfl rfl (vt rfl) (vk rfl)) rfl<|As rfl<|Nl ?_
       exact ⟨(_,_,_),Nat.lt_succ_self _,⟨trivial,h⟩,FX rfl⟩
      ·refine Rg<|Md rfl<|As rfl<|Nl ?_
       exact ⟨(_,_,_),Nat.lt_succ_self _,⟨trivial,h⟩,FX rfl⟩
     ·refine xt<|SR<|Md rfl<|Md rfl<|Ac (Z0x rfl rfl (vt rfl) (vt rfl)) rfl<|As rfl<|Nl ?_
      refine JN (d:=[]) (ν:=(List Action)) (fun l55=>(Zcr a3 s48 q43 R_slices_symMergeCmpFunc_Action x6 m4 b5 l55=some r,[(0,Zc v2),(1,rd (Z0 .i64) a3),(3,rd (Z0 .i64) b5),(4,fn2 Try.prog Z3 Z3 (Z0 .i64) x6),(18,rd (Z0 .i64) (IntKind.i64.wrap (q43.toNat:Int))),(20,rd (Z0 .i64) s48),(24,rd (Z0 .i64) (IntKind.i64.wrap ((IntKind.i64.wrap ((IntKind.i64.wrap (q43.toNat:Int))+m4)) - s48)))],[(0,Zb v2 95 Z3 l55)])) ?hx7 ?hy7
      case hy7=>
       intro l55 h
       dsimp only at h ⊢
       unfold Zcr at h
       refine JN (d:=[]) (ν:=(List Action)) (fun l56=>(Zb5 q43 m4 s48 b5 R_slices_symMergeCmpFunc_Action x6 l56=some r,[(0,Zc v2),(3,rd (Z0 .i64) b5),(4,fn2 Try.prog Z3 Z3 (Z0 .i64) x6),(18,rd (Z0 .i64) (IntKind.i64.wrap (q43.toNat:Int))),(24,rd (Z0 .i64) (IntKind.i64.wrap ((IntKind.i64.wrap ((IntKind.i64.wrap (q43.toNat:Int))+m4)) - s48)))],[(0,Zb v2 95 Z3 l56)])) ?hx8 ?hy8
       case hy8=>
        intro l56 h
        dsimp only at h ⊢
        unfold Zb5 at h
        refine SR<|Md rfl<|Md rfl<|Ac (Zh rfl rfl (vt rfl) (vt rfl)) rfl<|Md rfl<|Gd rfl (fun hq=>Ze (A:=rd (Z0 .i64) (IntKind.i64.wrap ((IntKind.i64.wrap ((IntKind.i64.wrap (q43.toNat:Int))+m4)) - s48))) rfl rfl (vt rfl))<|Gd rfl (fun hq=>Ze (A:=rd (Z0 .i64) b5) rfl rfl (vt rfl))<|Gd rfl (fun hq=>Zh rfl rfl (Z8 rfl hq) (Z8 rfl hq))<|Ac (Z0y rfl rfl (vt rfl) (vt rfl)) rfl<|Nl<|Cq rfl h (fun h=>?_) (fun h=>?_)
        ·obtain ⟨l57,hl57,h⟩:=Za h
         refine Rg<|Mw rfl<|Md rfl<|Md rfl<|Md rfl<|Ac (Ze (A:=fn2 Try.prog Z3 Z3 (Z0 .i64) x6) rfl rfl (vt rfl)) rfl<|Cv rfl (Z13 0 (xs:=[.tmp 214,.tmp 215,.tmp 216,.tmp 217,.tmp 218]) (hR_slices_symMergeCmpFunc_Action _ _ _ _ _ _ _ hl57) Zbs rfl rfl ⟨vt rfl,vt rfl,vt rfl,vt rfl,vt rfl,trivial⟩ rfl) fun _u=>Nl ?_
         cases h;exact Z2g (i:=0) Try.results144 rfl rfl
        ·refine sk ?_
         cases h;exact Z2g (i:=0) Try.results144 rfl rfl
       case hx8=>
        refine SR<|Md rfl<|Md rfl<|Ac (Zh rfl rfl (vt rfl) (vt rfl)) rfl<|Md rfl<|Gd rfl (fun hq=>Ze (A:=rd (Z0 .i64) s48) rfl rfl (vt rfl))<|Gd rfl (fun hq=>Ze (A:=rd (Z0 .i64) (IntKind.i64.wrap (q43.toNat:Int))) rfl rfl (vt rfl))<|Gd rfl (fun hq=>Zh rfl rfl (Z8 rfl hq) (Z8 rfl hq))<|Ac (Z0y rfl rfl (vt rfl) (vt rfl)) rfl<|Nl<|Cq rfl h (fun h=>?_) (fun h=>?_)
        ·obtain ⟨l58,hl58,h⟩:=Za h
         refine Rg<|Mw rfl<|Md rfl<|Md rfl<|Md rfl<|Ac (Ze (A:=fn2 Try.prog Z3 Z3 (Z0 .i64) x6) rfl rfl (vt rfl)) rfl<|Cv rfl (Z13 0 (xs:=[.tmp 200,.tmp 201,.tmp 202,.tmp 203,.tmp 204]) (hR_slices_symMergeCmpFunc_Action _ _ _ _ _ _ _ hl58) Zbs rfl rfl ⟨vt rfl,vt rfl,vt rfl,vt rfl,vt rfl,trivial⟩ rfl) fun _u=>Nl ?_
         exact ⟨_,h,FX rfl⟩
        ·refine sk ?_
         exact ⟨_,h,FX rfl⟩
      case hx7=>
       refine SR<|Md rfl<|Md rfl<|Ac (Zh rfl rfl (vt rfl) (vt rfl)) rfl<|Md rfl<|Gd rfl (fun hq=>Ze (A:=rd (Z0 .i64) m4) rfl rfl (vt rfl))<|Gd rfl (fun hq=>Ze (A:=rd (Z0 .i64) (IntKind.i64.wrap ((IntKind.i64.wrap ((IntKind.i64.wrap (q43.toNat:Int))+m4)) - s48))) rfl rfl (vt rfl))<|Gd rfl (fun hq=>Zh rfl rfl (Z8 rfl hq) (Z8 rfl hq))<|Ac (Z0y rfl rfl (vt rfl) (vt rfl)) rfl<|Nl<|Cq rfl h (fun h=>?_) (fun h=>?_)
       ·obtain ⟨l59,hl59,h⟩:=Za h
        refine Rg<|Mw rfl<|Md rfl<|Md rfl<|Md rfl<|Ac (Ze (A:=fn2 Try.prog Z3 Z3 (Z0 .i64) x6) rfl rfl (vt rfl)) rfl<|Cv rfl (Z13 0 (xs:=[.tmp 186,.tmp 187,.tmp 188,.tmp 189,.tmp 190]) (Zmw _ _ _ _ _ _ _ hl59) Zma rfl rfl ⟨vt rfl,vt rfl,vt rfl,vt rfl,vt rfl,trivial⟩ rfl) fun _u=>Nl ?_
        exact ⟨_,h,FX rfl⟩
       ·refine sk ?_
        exact ⟨_,h,FX rfl⟩
   case hx5=>
    refine SR<|Md rfl<|Md rfl<|Ac (Z2a rfl rfl (vt rfl) (vt rfl)) rfl<|Nl<|Cq rfl h (fun h=>?_) (fun h=>?_)
    ·refine SR<|Md rfl<|Md rfl<|Ac (Z0x rfl rfl (vt rfl) (vt rfl)) rfl<|As rfl<|Nl<|Rg<|Md rfl<|As rfl<|Nl ?_
     exact ⟨(_,_),h,FX rfl⟩
    ·refine SR<|Md rfl<|As rfl<|Nl<|Rg<|Md rfl<|As rfl<|Nl ?_
     exact ⟨(_,_),h,FX rfl⟩
def Zay:Nat→((List Action)→Int→Int→Int→(Action→Action→Option Int)→Option (List Action))
 | 0=>(fun _ _ _ _ _=>none)
 | n+1=>(Zf3 (Zay n))
theorem Zfn:∀n:Nat,(∀(v2:Value) (d1:(List Action)) (a3:Int) (m4:Int) (b5:Int) (x6:(Action→Action→Option Int)) (r:(List Action)),(Zay n) d1 a3 m4 b5 x6=some r→Con Try.prog 144 [Zc v2,rd (Z0 .i64) a3,rd (Z0 .i64) m4,rd (Z0 .i64) b5,fn2 Try.prog Z3 Z3 (Z0 .i64) x6] (Zb v2 95 Z3 d1) (fun _:Unit=>top) (fun _=>Zb v2 95 Z3 r))
 | 0=>(by intros;rename_i h;cases h)
 | n+1=>by
  have ih:=Zfn n
  exact (Zm6 (Zay n) ih)
def Zfi (d1:(List Action))(a3:Int)(m4:Int)(b5:Int)(x6:(Action→Action→Option Int)):Option (List Action):=(Zay Z1p) d1 a3 m4 b5 x6
theorem Zig:∀(v2:Value) (d1:(List Action)) (a3:Int) (m4:Int) (b5:Int) (x6:(Action→Action→Option Int)) (r:(List Action)),Zfi d1 a3 m4 b5 x6=some r→Con Try.prog 144 [Zc v2,rd (Z0 .i64) a3,rd (Z0 .i64) m4,rd (Z0 .i64) b5,fn2 Try.prog Z3 Z3 (Z0 .i64) x6] (Zb v2 95 Z3 d1) (fun _:Unit=>top) (fun _=>Zb v2 95 Z3 r):=Zfn Z1p
def Zbr (n3:Int)(b17:Int)(x4:(Action→Action→Option Int))(go2:(List Action)→Int→Option (List Action)):Nat→(List Action)→Int→Int→Option (List Action)
 | 0,_,_,_=>none
 | m25+1,l22,a23,b24=>(bif (decide (b24≤n3)) then (Zfi l22 a23 (IntKind.i64.wrap (a23+b17)) b24 x4).bind fun l26=>(Zbr n3 b17 x4 go2 m25) l26 b24 (IntKind.i64.wrap (b24+(IntKind.i64.wrap (2*b17)))) else (bif (decide ((IntKind.i64.wrap (a23+b17))<n3)) then (Zfi l22 a23 (IntKind.i64.wrap (a23+b17)) n3 x4).bind fun l27=>go2 l27 (IntKind.i64.wrap (b17*2)) else go2 l22 (IntKind.i64.wrap (b17*2))))
def Z7a (n3:Int)(x4:(Action→Action→Option Int)):Nat→(List Action)→Int→Option (List Action)
 | 0,_,_=>none
 | m18+1,l16,b17=>(bif (decide (b17<n3)) then Zbr n3 b17 x4 (Z7a n3 x4 m18) (((n3:Int) - (IntKind.i64.wrap (2*b17))).toNat+2) l16 0 (IntKind.i64.wrap (2*b17)) else some l16)
def Zad (n3:Int)(x4:(Action→Action→Option Int)):Nat→(List Action)→Int→Int→Option (List Action)
 | 0,_,_,_=>none
 | m11+1,l8,a9,b10=>(bif (decide (b10≤n3)) then (Z7y l8 a9 b10 x4).bind fun l12=>(Zad n3 x4 m11) l12 b10 (IntKind.i64.wrap (b10+20)) else (Z7y l8 a9 n3 x4).bind fun l13=>Z7a n3 x4 (((n3:Int) - 20).toNat+1) l13 20)
def Zbq (d1:(List Action))(n3:Int)(x4:(Action→Action→Option Int)):Option (List Action):=
 Zad n3 x4 (((n3:Int) - 20).toNat+2) d1 0 20
theorem Zsf (v2:Value)(d1:(List Action))(n3:Int)(x4:(Action→Action→Option Int))(r:(List Action))(h:Zbq d1 n3 x4=some r):Con Try.prog 134 [Zc v2,rd (Z0 .i64) n3,fn2 Try.prog Z3 Z3 (Z0 .i64) x4] (Zb v2 95 Z3 d1) (fun _:Unit=>top) (fun _=>Zb v2 95 Z3 r):=by
 refine Con.intro Try.func134 rfl Try.ntmps134 rfl fun w H X=>?_
 unfold Zbq at h
 refine SR<|Ak rfl<|Nl<|SR<|Md rfl<|Ak rfl<|As rfl<|Nl<|sq<|bk<|LG (d:=[]) (ν:=Nat×(List Action)×Int×Int) (fun (m11,l8,a9,b10)=>(True∧Zad n3 x4 m11 l8 a9 b10=some r,m11,[(0,Zc v2),(1,rd (Z0 .i64) n3),(2,fn2 Try.prog Z3 Z3 (Z0 .i64) x4),(6,rd (Z0 .i64) 20),(7,rd (Z0 .i64) a9),(8,rd (Z0 .i64) b10)],[(0,Zb v2 95 Z3 l8)])) ((((n3:Int) - 20).toNat+2),d1,0,20) ⟨trivial,h⟩ (FX rfl) ?_
 rintro ⟨m11,l8,a9,b10⟩ ⟨hsf1,h⟩
 dsimp only at h ⊢
 cases m11 with
 | zero=>cases h
 | succ m11=>
  unfold Zad at h
  refine sq<|SR<|Md rfl<|Md rfl<|Ac (Z66 rfl rfl (vt rfl) (vt rfl)) rfl<|Nl<|Cq rfl h (fun h=>?_) (fun h=>?_)
  ·refine sk<|bk<|sq ?_
   obtain ⟨l12,hl12,h⟩:=Za h
   refine Rg<|Mw rfl<|Md rfl<|Md rfl<|Ac (Ze (A:=fn2 Try.prog Z3 Z3 (Z0 .i64) x4) rfl rfl (vt rfl)) rfl<|Cv rfl (Z13 0 (xs:=[.tmp 14,.tmp 15,.tmp 16,.tmp 17]) (Zg9 _ _ _ _ _ _ hl12) Zhb rfl rfl ⟨vt rfl,vt rfl,vt rfl,vt rfl,trivial⟩ rfl) fun _u=>Nl<|SR<|Md rfl<|As rfl<|Nl<|Rg<|Md rfl<|Md rfl<|Ac (Zx rfl rfl (vt rfl) (vt rfl)) rfl<|As rfl<|Nl ?_
   exact ⟨(_,_,_,_),Nat.lt_succ_self _,⟨trivial,h⟩,FX rfl⟩
  ·refine xt<|sq ?_
   obtain ⟨l13,hl13,h⟩:=Za h
   refine Rg<|Mw rfl<|Md rfl<|Md rfl<|Ac (Ze (A:=fn2 Try.prog Z3 Z3 (Z0 .i64) x4) rfl rfl (vt rfl)) rfl<|Cv rfl (Z13 0 (xs:=[.tmp 23,.tmp 24,.tmp 25,.tmp 26]) (Zg9 _ _ _ _ _ _ hl13) Zhb rfl rfl ⟨vt rfl,vt rfl,vt rfl,vt rfl,trivial⟩ rfl) fun _u=>Nl<|bk<|LG (d:=[]) (ν:=Nat×(List Action)×Int) (fun (m18,l16,b17)=>(True∧Z7a n3 x4 m18 l16 b17=some r,m18,[(0,Zc v2),(1,rd (Z0 .i64) n3),(2,fn2 Try.prog Z3 Z3 (Z0 .i64) x4),(6,rd (Z0 .i64) b17)],[(0,Zb v2 95 Z3 l16)])) ((((n3:Int) - 20).toNat+1),l13,20) ⟨trivial,h⟩ (FX rfl) ?_
   rintro ⟨m18,l16,b17⟩ ⟨hsf2,h⟩
   dsimp only at h ⊢
   cases m18 with
   | zero=>cases h
   | succ m18=>
    unfold Z7a at h
    refine sq<|SR<|Md rfl<|Md rfl<|Ac (Zh rfl rfl (vt rfl) (vt rfl)) rfl<|Nl<|Cq rfl h (fun h=>?_) (fun h=>?_)
    ·refine sk<|bk<|SR<|Md rfl<|Ac (Z99 rfl rfl (vk rfl) (vt rfl)) rfl<|Ak rfl<|As rfl<|Nl<|sq<|bk<|LG (d:=[]) (ν:=Nat×(List Action)×Int×Int) (fun (m25,l22,a23,b24)=>(True∧Zbr n3 b17 x4 (Z7a n3 x4 m18) m25 l22 a23 b24=some r,m25,[(0,Zc v2),(1,rd (Z0 .i64) n3),(2,fn2 Try.prog Z3 Z3 (Z0 .i64) x4),(6,rd (Z0 .i64) b17),(7,rd (Z0 .i64) a23),(8,rd (Z0 .i64) b24)],[(0,Zb v2 95 Z3 l22)])) ((((n3:Int) - (IntKind.i64.wrap (2*b17))).toNat+2),l16,0,(IntKind.i64.wrap (2*b17))) ⟨trivial,h⟩ (FX rfl) ?_
     rintro ⟨m25,l22,a23,b24⟩ ⟨hsf3,h⟩
     dsimp only at h ⊢
     cases m25 with
     | zero=>cases h
     | succ m25=>
      unfold Zbr at h
      refine sq<|SR<|Md rfl<|Md rfl<|Ac (Z66 rfl rfl (vt rfl) (vt rfl)) rfl<|Nl<|Cq rfl h (fun h=>?_) (fun h=>?_)
      ·refine sk<|bk<|sq ?_
       obtain ⟨l26,hl26,h⟩:=Za h
       refine Rg<|Mw rfl<|Md rfl<|Md rfl<|Md rfl<|Ac (Zx rfl rfl (vt rfl) (vt rfl)) rfl<|Md rfl<|Ac (Ze (A:=fn2 Try.prog Z3 Z3 (Z0 .i64) x4) rfl rfl (vt rfl)) rfl<|Cv rfl (Z13 0 (xs:=[.tmp 36,.tmp 37,.tmp 40,.tmp 41,.tmp 42]) (Zig _ _ _ _ _ _ _ hl26) Zbs rfl rfl ⟨vt rfl,vt rfl,vt rfl,vt rfl,vt rfl,trivial⟩ rfl) fun _u=>Nl<|SR<|Md rfl<|As rfl<|Nl<|Rg<|Md rfl<|Md rfl<|Ac (Z99 rfl rfl (vk rfl) (vt rfl)) rfl<|Ac (Zx rfl rfl (vt rfl) (vt rfl)) rfl<|As rfl<|Nl ?_
       exact ⟨(_,_,_,_),Nat.lt_succ_self _,⟨trivial,h⟩,FX rfl⟩
      ·refine xt<|sq<|SR<|Md rfl<|Md rfl<|Ac (Zx rfl rfl (vt rfl) (vt rfl)) rfl<|As rfl<|Nl<|SR<|Md rfl<|Md rfl<|Ac (Zh rfl rfl (vt rfl) (vt rfl)) rfl<|Nl<|Cq rfl h (fun h=>?_) (fun h=>?_)
       ·obtain ⟨l27,hl27,h⟩:=Za h
        refine Rg<|Mw rfl<|Md rfl<|Md rfl<|Md rfl<|Ac (Ze (A:=fn2 Try.prog Z3 Z3 (Z0 .i64) x4) rfl rfl (vt rfl)) rfl<|Cv rfl (Z13 0 (xs:=[.tmp 55,.tmp 56,.tmp 57,.tmp 58,.tmp 59]) (Zig _ _ _ _ _ _ _ hl27) Zbs rfl rfl ⟨vt rfl,vt rfl,vt rfl,vt rfl,vt rfl,trivial⟩ rfl) fun _u=>Nl<|Rg<|Md rfl<|Ac (Z99 rfl rfl (vt rfl) (vk rfl)) rfl<|As rfl<|Nl ?_
        exact ⟨(_,_,_),Nat.lt_succ_self _,⟨trivial,h⟩,FX rfl⟩
       ·refine sk<|Rg<|Md rfl<|Ac (Z99 rfl rfl (vt rfl) (vk rfl)) rfl<|As rfl<|Nl ?_
        exact ⟨(_,_,_),Nat.lt_succ_self _,⟨trivial,h⟩,FX rfl⟩
    ·refine xt ?_
     cases h;exact Z2g (i:=0) Try.results134 rfl rfl
def Z8g (x1:(List Action))(x3:(Action→Action→Option Int)):Option (List Action):=
 (Zbq x1 (x1.length:Int) x3).bind fun l4=>some l4
theorem Zkn (v2:Value)(x1:(List Action))(x3:(Action→Action→Option Int))(r:(List Action))(h:Z8g x1 x3=some r):Con Try.prog 114 [Zc v2,fn2 Try.prog Z3 Z3 (Z0 .i64) x3] (Zb v2 95 Z3 x1) (fun _:Unit=>top) (fun _=>Zb v2 95 Z3 r):=by
 refine Con.intro Try.func114 rfl Try.ntmps114 rfl fun w H X=>?_
 unfold Z8g at h
 obtain ⟨l4,hl4,h⟩:=Za h
 refine Rg<|Mw rfl<|Mw rfl<|Ac (Z6s 0 rfl rfl Z04 (vt rfl) rfl) rfl<|Ac (Ze (A:=fn2 Try.prog Z3 Z3 (Z0 .i64) x3) rfl rfl (vt rfl)) rfl<|Cv rfl (Z13 0 (xs:=[.tmp 4,.tmp 6,.tmp 7]) (Zsf _ _ _ _ _ hl4) Zox rfl rfl ⟨vt rfl,vt rfl,vt rfl,trivial⟩ rfl) fun _u=>Nl ?_
 cases h;exact Z2g (i:=0) Try.results114 rfl rfl
def Z3x (a1:Action)(b2:Action):Option Int:=
 (Z57 a1).bind fun x5=>(Z57 b2).bind fun x6=>(Z62 x5.kind).bind fun x9=>(Z62 x6.kind).bind fun x10=>(bif (decide ((IntKind.i64.wrap (x9 - x10))≠0)) then some (IntKind.i64.wrap (x9 - x10)) else (bif (decide (x5.field<x6.field)) then some (-1) else (bif (decide (x5.field>x6.field)) then some 1 else some 0)))
theorem Zmj:Q2 Try.prog 115 (rd Z3) (rd Z3) (rd (Z0 .i64)) Z3x:=fun a1 b2 r h=>I0 Try.func115 rfl Try.ntmps115 rfl fun w H=>by
 unfold Z3x at h
 refine SR<|Cv rfl (Z00 3 rfl rfl (vt rfl)) fun g3=>Cv rfl (Z00 4 rfl rfl (vt rfl)) fun g4=>Ak rfl<|Nl<|sq ?_
 obtain ⟨x5,hx5,x6,hx6,h⟩:=bs2 h
 refine AR Z0n (by kernel_rfl)<|SLd Z07 3 rfl<|SCl [8] (Zaz _ _ hx5) Zci rfl<|SLd Z07 4 rfl<|SCl [10] (Zaz _ _ hx6) Zci rfl<|Sd (Z74 (us:=[(5,Z3q 169 Z2r Zb4)]) (ur:=[]) [] [] rfl fun S hs hr=>Zjx rfl rfl rfl Z8p)<|Sd (Z74 (us:=[(6,Z3q 169 Z2r Zb4)]) (ur:=[]) [] [] rfl fun S hs hr=>Zjx rfl rfl rfl Z8p)<|Sd (Z74 (us:=[(5,Z3q 169 Z2r x5)]) (ur:=[]) [5,9] [] rfl fun S hs hr=>Zhj rfl rfl Z6i ((hs 5 rfl).trans rfl) (vh hs 9 rfl rfl))<|Sd (Z74 (us:=[(6,Z3q 169 Z2r x6)]) (ur:=[]) [6,11] [] rfl fun S hs hr=>Zhj rfl rfl Z6i ((hs 6 rfl).trans rfl) (vh hs 11 rfl rfl))<|Sn<|AW.unpackP 5 6 rfl rfl fun g7=>AW.unpackP 6 7 rfl rfl fun g8=>sq<|sq ?_
 obtain ⟨x9,hx9,x10,hx10,h⟩:=bs2 h
 refine AR Z0n (by kernel_rfl)<|SFd laset_spot_0 Zgq rfl<|SLd Zl 6 rfl<|SCl [13] (Zeh _ _ hx9) Zcz rfl<|SFd laset_spot_0 Zgq rfl<|SLd Zl 7 rfl<|SCl [16] (Zeh _ _ hx10) Zcz rfl<|Sd (lo [14,17] [] rfl fun S hs hr=>Z0x rfl rfl (vh hs 14 rfl rfl) (vh hs 17 rfl rfl))<|SAs rfl<|Sn<|SR<|Md rfl<|Ac (Z1x rfl rfl (vt rfl) (vk rfl)) rfl<|Nl<|Cq rfl h (fun h=>?_) (fun h=>?_)
 ·refine SR<|Md rfl<|As rfl<|Nl<|rt ?_
  cases h;exact Z9 Try.results115 rfl (Zg rfl)
 ·refine sk<|sq<|bk<|SR<|Zo laset_spot_1 Zc2 rfl<|Ld Zl 6 rfl<|Zo laset_spot_1 Zc2 rfl<|Ld Zl 7 rfl<|Ac (Zh rfl rfl (vt rfl) (vt rfl)) rfl<|As rfl<|Nl<|Cq rfl h (fun h=>?_) (fun h=>?_)
  ·refine SR<|Ak rfl<|Nl<|rt ?_
   cases h;exact Z9 Try.results115 rfl (Zg rfl)
  ·refine SR<|Zo laset_spot_1 Zc2 rfl<|Ld Zl 6 rfl<|Zo laset_spot_1 Zc2 rfl<|Ld Zl 7 rfl<|Ac (Z2a rfl rfl (vt rfl) (vt rfl)) rfl<|As rfl<|Nl<|Cq rfl h (fun h=>?_) (fun h=>?_)
   ·refine SR<|Ak rfl<|Nl<|rt ?_
    cases h;exact Z9 Try.results115 rfl (Zg rfl)
   ·refine sk<|SR<|Ak rfl<|Nl<|rt ?_
    cases h;exact Z9 Try.results115 rfl (Zg rfl)
end Go.Proofs.Ytknpgojdkobgjaa.W
