/- A part of the proof. -/
import Derived.Test.YtjppkmpecdbepaaGreatDoorL2
import Derived.Test.YtjppkmpecdbepaaGreatDoorProg
import Derived.KernelRfl
set_option linter.unusedVariables false
set_option maxHeartbeats 1000000
set_option maxRecDepth 4000
set_option linter.unusedSimpArgs false
namespace Go.Proofs.YtjppkmpecdbepaaGreatDoor.W
open Go Go.Wb
structure Wide where
 Hi:(BitVec 64)
 Lo:(BitVec 64)
 deriving DecidableEq,Inhabited
def Zw:Kd Wide:=Z0k (Z2 Zx Zx) (fun x=>(x.Hi,x.Lo))
instance:PureK Zw:=inferInstanceAs (PureK (Z0k (Z2 Zx Zx) (fun (x:Wide)=>(x.Hi,x.Lo))))
instance {E:TypeId}:Sh Zw E:=⟨rfl⟩
def lWide_0:Lens Zw Zx:=Lens.iso (k:=(Z2 Zx Zx)) (Lens.fst _ _) Wide.Hi (fun x y=>{x with Hi:=y}) (fun _=>rfl) (fun _ _=>rfl)
def lWide_1:Lens Zw Zx:=Lens.iso (k:=(Z2 Zx Zx)) (Lens.snd _ _) Wide.Lo (fun x y=>{x with Lo:=y}) (fun _=>rfl) (fun _ _=>rfl)
def Z0r:Wide:=⟨0,0⟩
def Z8r:List Value:=([.int .u64 0]++[.int .u64 0])
theorem Z7l:KZ Zw Z0r Z8r:=Z1j (Z0b Zak Zak)
structure Oxm where
 Field:Int
 Masked:Bool
 Value:Wide
 Mask:Wide
 deriving DecidableEq,Inhabited
def Z0e:Kd Oxm:=Z0k (Z2 (Z0 .i64) (Z2 Z3 (Z2 Zw Zw))) (fun x=>(x.Field,(x.Masked,(x.Value,x.Mask))))
instance:PureK Z0e:=inferInstanceAs (PureK (Z0k (Z2 (Z0 .i64) (Z2 Z3 (Z2 Zw Zw))) (fun (x:Oxm)=>(x.Field,(x.Masked,(x.Value,x.Mask))))))
instance {E:TypeId}:Sh Z0e E:=⟨rfl⟩
def lOxm_0:Lens Z0e (Z0 .i64):=Lens.iso (k:=(Z2 (Z0 .i64) (Z2 Z3 (Z2 Zw Zw)))) (Lens.fst _ _) Oxm.Field (fun x y=>{x with Field:=y}) (fun _=>rfl) (fun _ _=>rfl)
def Z91:Lens Z0e Z3:=Lens.iso (k:=(Z2 (Z0 .i64) (Z2 Z3 (Z2 Zw Zw)))) (Lens.comp (Lens.snd _ _) (Lens.fst _ _)) Oxm.Masked (fun x y=>{x with Masked:=y}) (fun _=>rfl) (fun _ _=>rfl)
def lOxm_2:Lens Z0e Zw:=Lens.iso (k:=(Z2 (Z0 .i64) (Z2 Z3 (Z2 Zw Zw)))) (Lens.comp (Lens.comp (Lens.snd _ _) (Lens.snd _ _)) (Lens.fst _ _)) Oxm.Value (fun x y=>{x with Value:=y}) (fun _=>rfl) (fun _ _=>rfl)
def Zac:Lens Z0e Zw:=Lens.iso (k:=(Z2 (Z0 .i64) (Z2 Z3 (Z2 Zw Zw)))) (Lens.comp (Lens.comp (Lens.snd _ _) (Lens.snd _ _)) (Lens.snd _ _)) Oxm.Mask (fun x y=>{x with Mask:=y}) (fun _=>rfl) (fun _ _=>rfl)
def Z3p:Oxm:=⟨0,false,Z0r,Z0r⟩
def Zzd:List Value:=([.int .i64 0]++([.bool false]++(Z8r++Z8r)))
theorem Zw7:KZ Z0e Z3p Zzd:=Z1j (Z0b Z13 (Z0b Z7x (Z0b Z7l Z7l)))
structure Action where
 Kind:Int
 Port:Int
 Max:Int
 Group:Int
 Ether:Int
 Oxm:Oxm
 deriving DecidableEq,Inhabited
def Zj:Kd Action:=Z0k (Z2 (Z0 .i64) (Z2 (Z0 .i64) (Z2 (Z0 .i64) (Z2 (Z0 .i64) (Z2 (Z0 .i64) Z0e))))) (fun x=>(x.Kind,(x.Port,(x.Max,(x.Group,(x.Ether,x.Oxm)))))) (fun E=>E==109)
instance:PureK Zj:=inferInstanceAs (PureK (Z0k (Z2 (Z0 .i64) (Z2 (Z0 .i64) (Z2 (Z0 .i64) (Z2 (Z0 .i64) (Z2 (Z0 .i64) Z0e))))) (fun (x:Action)=>(x.Kind,(x.Port,(x.Max,(x.Group,(x.Ether,x.Oxm)))))) (fun E=>E==109)))
instance:Sh Zj 109:=⟨rfl⟩
instance:NSh Zj 83:=⟨rfl⟩
def lAction_0:Lens Zj (Z0 .i64):=Lens.iso (k:=(Z2 (Z0 .i64) (Z2 (Z0 .i64) (Z2 (Z0 .i64) (Z2 (Z0 .i64) (Z2 (Z0 .i64) Z0e)))))) (Lens.fst _ _) Action.Kind (fun x y=>{x with Kind:=y}) (fun _=>rfl) (fun _ _=>rfl)
def lAction_1:Lens Zj (Z0 .i64):=Lens.iso (k:=(Z2 (Z0 .i64) (Z2 (Z0 .i64) (Z2 (Z0 .i64) (Z2 (Z0 .i64) (Z2 (Z0 .i64) Z0e)))))) (Lens.comp (Lens.snd _ _) (Lens.fst _ _)) Action.Port (fun x y=>{x with Port:=y}) (fun _=>rfl) (fun _ _=>rfl)
def Z81:Lens Zj (Z0 .i64):=Lens.iso (k:=(Z2 (Z0 .i64) (Z2 (Z0 .i64) (Z2 (Z0 .i64) (Z2 (Z0 .i64) (Z2 (Z0 .i64) Z0e)))))) (Lens.comp (Lens.comp (Lens.snd _ _) (Lens.snd _ _)) (Lens.fst _ _)) Action.Max (fun x y=>{x with Max:=y}) (fun _=>rfl) (fun _ _=>rfl)
def lAction_3:Lens Zj (Z0 .i64):=Lens.iso (k:=(Z2 (Z0 .i64) (Z2 (Z0 .i64) (Z2 (Z0 .i64) (Z2 (Z0 .i64) (Z2 (Z0 .i64) Z0e)))))) (Lens.comp (Lens.comp (Lens.comp (Lens.snd _ _) (Lens.snd _ _)) (Lens.snd _ _)) (Lens.fst _ _)) Action.Group (fun x y=>{x with Group:=y}) (fun _=>rfl) (fun _ _=>rfl)
def Zcj:Lens Zj (Z0 .i64):=Lens.iso (k:=(Z2 (Z0 .i64) (Z2 (Z0 .i64) (Z2 (Z0 .i64) (Z2 (Z0 .i64) (Z2 (Z0 .i64) Z0e)))))) (Lens.comp (Lens.comp (Lens.comp (Lens.comp (Lens.snd _ _) (Lens.snd _ _)) (Lens.snd _ _)) (Lens.snd _ _)) (Lens.fst _ _)) Action.Ether (fun x y=>{x with Ether:=y}) (fun _=>rfl) (fun _ _=>rfl)
def Z6g:Lens Zj Z0e:=Lens.iso (k:=(Z2 (Z0 .i64) (Z2 (Z0 .i64) (Z2 (Z0 .i64) (Z2 (Z0 .i64) (Z2 (Z0 .i64) Z0e)))))) (Lens.comp (Lens.comp (Lens.comp (Lens.comp (Lens.snd _ _) (Lens.snd _ _)) (Lens.snd _ _)) (Lens.snd _ _)) (Lens.snd _ _)) Action.Oxm (fun x y=>{x with Oxm:=y}) (fun _=>rfl) (fun _ _=>rfl)
def Zrq:Action:=⟨0,0,0,0,0,Z3p⟩
def Y7m:List Value:=([.int .i64 0]++([.int .i64 0]++([.int .i64 0]++([.int .i64 0]++([.int .i64 0]++Zzd)))))
theorem Y65:KZ Zj Zrq Y7m:=Z1j (Z0b Z13 (Z0b Z13 (Z0b Z13 (Z0b Z13 (Z0b Z13 Zw7)))))
structure Inst where
 Kind:Int
 Table:Int
 Value:Wide
 Mask:Wide
 Acts:(List Action)
 deriving DecidableEq,Inhabited
def Z0f:Kd Inst:=Z0k (Z2 (Z0 .i64) (Z2 (Z0 .i64) (Z2 Zw (Z2 Zw (Z1 Zj))))) (fun x=>(x.Kind,(x.Table,(x.Value,(x.Mask,x.Acts)))))
instance {E:TypeId}:Sh Z0f E:=⟨rfl⟩
def lInst_0:Lens Z0f (Z0 .i64):=Lens.iso (k:=(Z2 (Z0 .i64) (Z2 (Z0 .i64) (Z2 Zw (Z2 Zw (Z1 Zj)))))) (Lens.fst _ _) Inst.Kind (fun x y=>{x with Kind:=y}) (fun _=>rfl) (fun _ _=>rfl)
def Z5o:Lens Z0f (Z0 .i64):=Lens.iso (k:=(Z2 (Z0 .i64) (Z2 (Z0 .i64) (Z2 Zw (Z2 Zw (Z1 Zj)))))) (Lens.comp (Lens.snd _ _) (Lens.fst _ _)) Inst.Table (fun x y=>{x with Table:=y}) (fun _=>rfl) (fun _ _=>rfl)
def Z7g:Lens Z0f Zw:=Lens.iso (k:=(Z2 (Z0 .i64) (Z2 (Z0 .i64) (Z2 Zw (Z2 Zw (Z1 Zj)))))) (Lens.comp (Lens.comp (Lens.snd _ _) (Lens.snd _ _)) (Lens.fst _ _)) Inst.Value (fun x y=>{x with Value:=y}) (fun _=>rfl) (fun _ _=>rfl)
def Z7r:Lens Z0f Zw:=Lens.iso (k:=(Z2 (Z0 .i64) (Z2 (Z0 .i64) (Z2 Zw (Z2 Zw (Z1 Zj)))))) (Lens.comp (Lens.comp (Lens.comp (Lens.snd _ _) (Lens.snd _ _)) (Lens.snd _ _)) (Lens.fst _ _)) Inst.Mask (fun x y=>{x with Mask:=y}) (fun _=>rfl) (fun _ _=>rfl)
def lInst_4:Lens Z0f (Z1 Zj):=Lens.iso (k:=(Z2 (Z0 .i64) (Z2 (Z0 .i64) (Z2 Zw (Z2 Zw (Z1 Zj)))))) (Lens.comp (Lens.comp (Lens.comp (Lens.snd _ _) (Lens.snd _ _)) (Lens.snd _ _)) (Lens.snd _ _)) Inst.Acts (fun x y=>{x with Acts:=y}) (fun _=>rfl) (fun _ _=>rfl)
def Y07:Inst:=⟨0,0,Z0r,Z0r,[]⟩
def Yi8:List Value:=([.int .i64 0]++([.int .i64 0]++(Z8r++(Z8r++[.slice none 0 0]))))
theorem Y8g:KZ Z0f Y07 Yi8:=Z1j (Z0b Z13 (Z0b Z13 (Z0b Z7l (Z0b Z7l (Z2m _)))))
structure Flow where
 Cookie:(BitVec 64)
 Priority:Int
 Idle:Int
 Hard:Int
 Flags:Int
 Match:(List Oxm)
 Insts:(List Inst)
 deriving DecidableEq,Inhabited
def Zp:Kd Flow:=Z0k (Z2 Zx (Z2 (Z0 .i64) (Z2 (Z0 .i64) (Z2 (Z0 .i64) (Z2 (Z0 .i64) (Z2 (Z1 Z0e) (Z1 Z0f))))))) (fun x=>(x.Cookie,(x.Priority,(x.Idle,(x.Hard,(x.Flags,(x.Match,x.Insts)))))))
instance {E:TypeId}:Sh Zp E:=⟨rfl⟩
def lFlow_0:Lens Zp Zx:=Lens.iso (k:=(Z2 Zx (Z2 (Z0 .i64) (Z2 (Z0 .i64) (Z2 (Z0 .i64) (Z2 (Z0 .i64) (Z2 (Z1 Z0e) (Z1 Z0f)))))))) (Lens.fst _ _) Flow.Cookie (fun x y=>{x with Cookie:=y}) (fun _=>rfl) (fun _ _=>rfl)
def lFlow_1:Lens Zp (Z0 .i64):=Lens.iso (k:=(Z2 Zx (Z2 (Z0 .i64) (Z2 (Z0 .i64) (Z2 (Z0 .i64) (Z2 (Z0 .i64) (Z2 (Z1 Z0e) (Z1 Z0f)))))))) (Lens.comp (Lens.snd _ _) (Lens.fst _ _)) Flow.Priority (fun x y=>{x with Priority:=y}) (fun _=>rfl) (fun _ _=>rfl)
def lFlow_2:Lens Zp (Z0 .i64):=Lens.iso (k:=(Z2 Zx (Z2 (Z0 .i64) (Z2 (Z0 .i64) (Z2 (Z0 .i64) (Z2 (Z0 .i64) (Z2 (Z1 Z0e) (Z1 Z0f)))))))) (Lens.comp (Lens.comp (Lens.snd _ _) (Lens.snd _ _)) (Lens.fst _ _)) Flow.Idle (fun x y=>{x with Idle:=y}) (fun _=>rfl) (fun _ _=>rfl)
def lFlow_3:Lens Zp (Z0 .i64):=Lens.iso (k:=(Z2 Zx (Z2 (Z0 .i64) (Z2 (Z0 .i64) (Z2 (Z0 .i64) (Z2 (Z0 .i64) (Z2 (Z1 Z0e) (Z1 Z0f)))))))) (Lens.comp (Lens.comp (Lens.comp (Lens.snd _ _) (Lens.snd _ _)) (Lens.snd _ _)) (Lens.fst _ _)) Flow.Hard (fun x y=>{x with Hard:=y}) (fun _=>rfl) (fun _ _=>rfl)
def lFlow_4:Lens Zp (Z0 .i64):=Lens.iso (k:=(Z2 Zx (Z2 (Z0 .i64) (Z2 (Z0 .i64) (Z2 (Z0 .i64) (Z2 (Z0 .i64) (Z2 (Z1 Z0e) (Z1 Z0f)))))))) (Lens.comp (Lens.comp (Lens.comp (Lens.comp (Lens.snd _ _) (Lens.snd _ _)) (Lens.snd _ _)) (Lens.snd _ _)) (Lens.fst _ _)) Flow.Flags (fun x y=>{x with Flags:=y}) (fun _=>rfl) (fun _ _=>rfl)
def lFlow_5:Lens Zp (Z1 Z0e):=Lens.iso (k:=(Z2 Zx (Z2 (Z0 .i64) (Z2 (Z0 .i64) (Z2 (Z0 .i64) (Z2 (Z0 .i64) (Z2 (Z1 Z0e) (Z1 Z0f)))))))) (Lens.comp (Lens.comp (Lens.comp (Lens.comp (Lens.comp (Lens.snd _ _) (Lens.snd _ _)) (Lens.snd _ _)) (Lens.snd _ _)) (Lens.snd _ _)) (Lens.fst _ _)) Flow.Match (fun x y=>{x with Match:=y}) (fun _=>rfl) (fun _ _=>rfl)
def lFlow_6:Lens Zp (Z1 Z0f):=Lens.iso (k:=(Z2 Zx (Z2 (Z0 .i64) (Z2 (Z0 .i64) (Z2 (Z0 .i64) (Z2 (Z0 .i64) (Z2 (Z1 Z0e) (Z1 Z0f)))))))) (Lens.comp (Lens.comp (Lens.comp (Lens.comp (Lens.comp (Lens.snd _ _) (Lens.snd _ _)) (Lens.snd _ _)) (Lens.snd _ _)) (Lens.snd _ _)) (Lens.snd _ _)) Flow.Insts (fun x y=>{x with Insts:=y}) (fun _=>rfl) (fun _ _=>rfl)
def Y2a:Flow:=⟨0,0,0,0,0,[],[]⟩
def Yeu:List Value:=([.int .u64 0]++([.int .i64 0]++([.int .i64 0]++([.int .i64 0]++([.int .i64 0]++([.slice none 0 0]++[.slice none 0 0]))))))
theorem Ya0:KZ Zp Y2a Yeu:=Z1j (Z0b Zak (Z0b Z13 (Z0b Z13 (Z0b Z13 (Z0b Z13 (Z0b (Z2m _) (Z2m _)))))))
abbrev Zy8:=Vector (List Flow) 4
structure Bucket where
 Weight:Int
 Watch:Int
 WatchGroup:Int
 Acts:(List Action)
 deriving DecidableEq,Inhabited
def Z16:Kd Bucket:=Z0k (Z2 (Z0 .i64) (Z2 (Z0 .i64) (Z2 (Z0 .i64) (Z1 Zj)))) (fun x=>(x.Weight,(x.Watch,(x.WatchGroup,x.Acts)))) (fun E=>E==105)
instance:Sh Z16 105:=⟨rfl⟩
instance:NSh Z16 83:=⟨rfl⟩
instance:OffK 83 Z16:=inferInstanceAs (OffK 83 (Z0k (Z2 (Z0 .i64) (Z2 (Z0 .i64) (Z2 (Z0 .i64) (Z1 Zj)))) (fun (x:Bucket)=>(x.Weight,(x.Watch,(x.WatchGroup,x.Acts)))) (fun E=>E==105)))
def lBucket_0:Lens Z16 (Z0 .i64):=Lens.iso (k:=(Z2 (Z0 .i64) (Z2 (Z0 .i64) (Z2 (Z0 .i64) (Z1 Zj))))) (Lens.fst _ _) Bucket.Weight (fun x y=>{x with Weight:=y}) (fun _=>rfl) (fun _ _=>rfl)
def lBucket_1:Lens Z16 (Z0 .i64):=Lens.iso (k:=(Z2 (Z0 .i64) (Z2 (Z0 .i64) (Z2 (Z0 .i64) (Z1 Zj))))) (Lens.comp (Lens.snd _ _) (Lens.fst _ _)) Bucket.Watch (fun x y=>{x with Watch:=y}) (fun _=>rfl) (fun _ _=>rfl)
def lBucket_2:Lens Z16 (Z0 .i64):=Lens.iso (k:=(Z2 (Z0 .i64) (Z2 (Z0 .i64) (Z2 (Z0 .i64) (Z1 Zj))))) (Lens.comp (Lens.comp (Lens.snd _ _) (Lens.snd _ _)) (Lens.fst _ _)) Bucket.WatchGroup (fun x y=>{x with WatchGroup:=y}) (fun _=>rfl) (fun _ _=>rfl)
def lBucket_3:Lens Z16 (Z1 Zj):=Lens.iso (k:=(Z2 (Z0 .i64) (Z2 (Z0 .i64) (Z2 (Z0 .i64) (Z1 Zj))))) (Lens.comp (Lens.comp (Lens.snd _ _) (Lens.snd _ _)) (Lens.snd _ _)) Bucket.Acts (fun x y=>{x with Acts:=y}) (fun _=>rfl) (fun _ _=>rfl)
def Zzb:Bucket:=⟨0,0,0,[]⟩
def Y6a:List Value:=([.int .i64 0]++([.int .i64 0]++([.int .i64 0]++[.slice none 0 0])))
theorem Yle:KZ Z16 Zzb Y6a:=Z1j (Z0b Z13 (Z0b Z13 (Z0b Z13 (Z2m _))))
structure Group where
 ID:Int
 Kind:Int
 Buckets:(List Bucket)
 deriving DecidableEq,Inhabited
def Zt:Kd Group:=Z0k (Z2 (Z0 .i64) (Z2 (Z0 .i64) (Z1 Z16))) (fun x=>(x.ID,(x.Kind,x.Buckets)))
instance {E:TypeId}:Sh Zt E:=⟨rfl⟩
instance:OffK 83 Zt:=inferInstanceAs (OffK 83 (Z0k (Z2 (Z0 .i64) (Z2 (Z0 .i64) (Z1 Z16))) (fun (x:Group)=>(x.ID,(x.Kind,x.Buckets)))))
def lGroup_0:Lens Zt (Z0 .i64):=Lens.iso (k:=(Z2 (Z0 .i64) (Z2 (Z0 .i64) (Z1 Z16)))) (Lens.fst _ _) Group.ID (fun x y=>{x with ID:=y}) (fun _=>rfl) (fun _ _=>rfl)
def lGroup_1:Lens Zt (Z0 .i64):=Lens.iso (k:=(Z2 (Z0 .i64) (Z2 (Z0 .i64) (Z1 Z16)))) (Lens.comp (Lens.snd _ _) (Lens.fst _ _)) Group.Kind (fun x y=>{x with Kind:=y}) (fun _=>rfl) (fun _ _=>rfl)
def lGroup_2:Lens Zt (Z1 Z16):=Lens.iso (k:=(Z2 (Z0 .i64) (Z2 (Z0 .i64) (Z1 Z16)))) (Lens.comp (Lens.snd _ _) (Lens.snd _ _)) Group.Buckets (fun x y=>{x with Buckets:=y}) (fun _=>rfl) (fun _ _=>rfl)
def Z8p:Group:=⟨0,0,[]⟩
def Y4f:List Value:=([.int .i64 0]++([.int .i64 0]++[.slice none 0 0]))
theorem Zyn:KZ Zt Z8p Y4f:=Z1j (Z0b Z13 (Z0b Z13 (Z2m _)))
structure Switch where
 Tables:Zy8
 Groups:(List Group)
 deriving DecidableEq,Inhabited
def kSwitch:Kd Switch:=Z0k (Z2 (Z4 4 (Z1 Zp)) (Z1 Zt)) (fun x=>(x.Tables,x.Groups))
instance {E:TypeId}:Sh kSwitch E:=⟨rfl⟩
def Z8c:Lens kSwitch (Z4 4 (Z1 Zp)):=Lens.iso (k:=(Z2 (Z4 4 (Z1 Zp)) (Z1 Zt))) (Lens.fst _ _) Switch.Tables (fun x y=>{x with Tables:=y}) (fun _=>rfl) (fun _ _=>rfl)
def Z66:Lens kSwitch (Z1 Zt):=Lens.iso (k:=(Z2 (Z4 4 (Z1 Zp)) (Z1 Zt))) (Lens.snd _ _) Switch.Groups (fun x y=>{x with Groups:=y}) (fun _=>rfl) (fun _ _=>rfl)
def Z9c:Switch:=⟨(Vector.replicate 4 []),[]⟩
def Zxm:List Value:=((List.replicate 4 [.slice none 0 0]).flatten++[.slice none 0 0])
theorem Zp1:KZ kSwitch Z9c Zxm:=Z1j (Z0b (Z3e 4 (Z2m _)) (Z2m _))
structure FlowMod where
 Cookie:(BitVec 64)
 CookieMask:(BitVec 64)
 Table:Int
 Command:Int
 Idle:Int
 Hard:Int
 Priority:Int
 Buffer:Int
 OutPort:Int
 OutGroup:Int
 Flags:Int
 Match:(List Oxm)
 Insts:(List Inst)
 deriving DecidableEq,Inhabited
def Z1b:Kd FlowMod:=Z0k (Z2 Zx (Z2 Zx (Z2 (Z0 .i64) (Z2 (Z0 .i64) (Z2 (Z0 .i64) (Z2 (Z0 .i64) (Z2 (Z0 .i64) (Z2 (Z0 .i64) (Z2 (Z0 .i64) (Z2 (Z0 .i64) (Z2 (Z0 .i64) (Z2 (Z1 Z0e) (Z1 Z0f))))))))))))) (fun x=>(x.Cookie,(x.CookieMask,(x.Table,(x.Command,(x.Idle,(x.Hard,(x.Priority,(x.Buffer,(x.OutPort,(x.OutGroup,(x.Flags,(x.Match,x.Insts)))))))))))))
instance {E:TypeId}:Sh Z1b E:=⟨rfl⟩
def lFlowMod_0:Lens Z1b Zx:=Lens.iso (k:=(Z2 Zx (Z2 Zx (Z2 (Z0 .i64) (Z2 (Z0 .i64) (Z2 (Z0 .i64) (Z2 (Z0 .i64) (Z2 (Z0 .i64) (Z2 (Z0 .i64) (Z2 (Z0 .i64) (Z2 (Z0 .i64) (Z2 (Z0 .i64) (Z2 (Z1 Z0e) (Z1 Z0f)))))))))))))) (Lens.fst _ _) FlowMod.Cookie (fun x y=>{x with Cookie:=y}) (fun _=>rfl) (fun _ _=>rfl)
def Zvs:Lens Z1b Zx:=Lens.iso (k:=(Z2 Zx (Z2 Zx (Z2 (Z0 .i64) (Z2 (Z0 .i64) (Z2 (Z0 .i64) (Z2 (Z0 .i64) (Z2 (Z0 .i64) (Z2 (Z0 .i64) (Z2 (Z0 .i64) (Z2 (Z0 .i64) (Z2 (Z0 .i64) (Z2 (Z1 Z0e) (Z1 Z0f)))))))))))))) (Lens.comp (Lens.snd _ _) (Lens.fst _ _)) FlowMod.CookieMask (fun x y=>{x with CookieMask:=y}) (fun _=>rfl) (fun _ _=>rfl)
def lFlowMod_2:Lens Z1b (Z0 .i64):=Lens.iso (k:=(Z2 Zx (Z2 Zx (Z2 (Z0 .i64) (Z2 (Z0 .i64) (Z2 (Z0 .i64) (Z2 (Z0 .i64) (Z2 (Z0 .i64) (Z2 (Z0 .i64) (Z2 (Z0 .i64) (Z2 (Z0 .i64) (Z2 (Z0 .i64) (Z2 (Z1 Z0e) (Z1 Z0f)))))))))))))) (Lens.comp (Lens.comp (Lens.snd _ _) (Lens.snd _ _)) (Lens.fst _ _)) FlowMod.Table (fun x y=>{x with Table:=y}) (fun _=>rfl) (fun _ _=>rfl)
def lFlowMod_3:Lens Z1b (Z0 .i64):=Lens.iso (k:=(Z2 Zx (Z2 Zx (Z2 (Z0 .i64) (Z2 (Z0 .i64) (Z2 (Z0 .i64) (Z2 (Z0 .i64) (Z2 (Z0 .i64) (Z2 (Z0 .i64) (Z2 (Z0 .i64) (Z2 (Z0 .i64) (Z2 (Z0 .i64) (Z2 (Z1 Z0e) (Z1 Z0f)))))))))))))) (Lens.comp (Lens.comp (Lens.comp (Lens.snd _ _) (Lens.snd _ _)) (Lens.snd _ _)) (Lens.fst _ _)) FlowMod.Command (fun x y=>{x with Command:=y}) (fun _=>rfl) (fun _ _=>rfl)
def lFlowMod_4:Lens Z1b (Z0 .i64):=Lens.iso (k:=(Z2 Zx (Z2 Zx (Z2 (Z0 .i64) (Z2 (Z0 .i64) (Z2 (Z0 .i64) (Z2 (Z0 .i64) (Z2 (Z0 .i64) (Z2 (Z0 .i64) (Z2 (Z0 .i64) (Z2 (Z0 .i64) (Z2 (Z0 .i64) (Z2 (Z1 Z0e) (Z1 Z0f)))))))))))))) (Lens.comp (Lens.comp (Lens.comp (Lens.comp (Lens.snd _ _) (Lens.snd _ _)) (Lens.snd _ _)) (Lens.snd _ _)) (Lens.fst _ _)) FlowMod.Idle (fun x y=>{x with Idle:=y}) (fun _=>rfl) (fun _ _=>rfl)
def lFlowMod_5:Lens Z1b (Z0 .i64):=Lens.iso (k:=(Z2 Zx (Z2 Zx (Z2 (Z0 .i64) (Z2 (Z0 .i64) (Z2 (Z0 .i64) (Z2 (Z0 .i64) (Z2 (Z0 .i64) (Z2 (Z0 .i64) (Z2 (Z0 .i64) (Z2 (Z0 .i64) (Z2 (Z0 .i64) (Z2 (Z1 Z0e) (Z1 Z0f)))))))))))))) (Lens.comp (Lens.comp (Lens.comp (Lens.comp (Lens.comp (Lens.snd _ _) (Lens.snd _ _)) (Lens.snd _ _)) (Lens.snd _ _)) (Lens.snd _ _)) (Lens.fst _ _)) FlowMod.Hard (fun x y=>{x with Hard:=y}) (fun _=>rfl) (fun _ _=>rfl)
def lFlowMod_6:Lens Z1b (Z0 .i64):=Lens.iso (k:=(Z2 Zx (Z2 Zx (Z2 (Z0 .i64) (Z2 (Z0 .i64) (Z2 (Z0 .i64) (Z2 (Z0 .i64) (Z2 (Z0 .i64) (Z2 (Z0 .i64) (Z2 (Z0 .i64) (Z2 (Z0 .i64) (Z2 (Z0 .i64) (Z2 (Z1 Z0e) (Z1 Z0f)))))))))))))) (Lens.comp (Lens.comp (Lens.comp (Lens.comp (Lens.comp (Lens.comp (Lens.snd _ _) (Lens.snd _ _)) (Lens.snd _ _)) (Lens.snd _ _)) (Lens.snd _ _)) (Lens.snd _ _)) (Lens.fst _ _)) FlowMod.Priority (fun x y=>{x with Priority:=y}) (fun _=>rfl) (fun _ _=>rfl)
def lFlowMod_7:Lens Z1b (Z0 .i64):=Lens.iso (k:=(Z2 Zx (Z2 Zx (Z2 (Z0 .i64) (Z2 (Z0 .i64) (Z2 (Z0 .i64) (Z2 (Z0 .i64) (Z2 (Z0 .i64) (Z2 (Z0 .i64) (Z2 (Z0 .i64) (Z2 (Z0 .i64) (Z2 (Z0 .i64) (Z2 (Z1 Z0e) (Z1 Z0f)))))))))))))) (Lens.comp (Lens.comp (Lens.comp (Lens.comp (Lens.comp (Lens.comp (Lens.comp (Lens.snd _ _) (Lens.snd _ _)) (Lens.snd _ _)) (Lens.snd _ _)) (Lens.snd _ _)) (Lens.snd _ _)) (Lens.snd _ _)) (Lens.fst _ _)) FlowMod.Buffer (fun x y=>{x with Buffer:=y}) (fun _=>rfl) (fun _ _=>rfl)
def lFlowMod_8:Lens Z1b (Z0 .i64):=Lens.iso (k:=(Z2 Zx (Z2 Zx (Z2 (Z0 .i64) (Z2 (Z0 .i64) (Z2 (Z0 .i64) (Z2 (Z0 .i64) (Z2 (Z0 .i64) (Z2 (Z0 .i64) (Z2 (Z0 .i64) (Z2 (Z0 .i64) (Z2 (Z0 .i64) (Z2 (Z1 Z0e) (Z1 Z0f)))))))))))))) (Lens.comp (Lens.comp (Lens.comp (Lens.comp (Lens.comp (Lens.comp (Lens.comp (Lens.comp (Lens.snd _ _) (Lens.snd _ _)) (Lens.snd _ _)) (Lens.snd _ _)) (Lens.snd _ _)) (Lens.snd _ _)) (Lens.snd _ _)) (Lens.snd _ _)) (Lens.fst _ _)) FlowMod.OutPort (fun x y=>{x with OutPort:=y}) (fun _=>rfl) (fun _ _=>rfl)
def lFlowMod_9:Lens Z1b (Z0 .i64):=Lens.iso (k:=(Z2 Zx (Z2 Zx (Z2 (Z0 .i64) (Z2 (Z0 .i64) (Z2 (Z0 .i64) (Z2 (Z0 .i64) (Z2 (Z0 .i64) (Z2 (Z0 .i64) (Z2 (Z0 .i64) (Z2 (Z0 .i64) (Z2 (Z0 .i64) (Z2 (Z1 Z0e) (Z1 Z0f)))))))))))))) (Lens.comp (Lens.comp (Lens.comp (Lens.comp (Lens.comp (Lens.comp (Lens.comp (Lens.comp (Lens.comp (Lens.snd _ _) (Lens.snd _ _)) (Lens.snd _ _)) (Lens.snd _ _)) (Lens.snd _ _)) (Lens.snd _ _)) (Lens.snd _ _)) (Lens.snd _ _)) (Lens.snd _ _)) (Lens.fst _ _)) FlowMod.OutGroup (fun x y=>{x with OutGroup:=y}) (fun _=>rfl) (fun _ _=>rfl)
def lFlowMod_10:Lens Z1b (Z0 .i64):=Lens.iso (k:=(Z2 Zx (Z2 Zx (Z2 (Z0 .i64) (Z2 (Z0 .i64) (Z2 (Z0 .i64) (Z2 (Z0 .i64) (Z2 (Z0 .i64) (Z2 (Z0 .i64) (Z2 (Z0 .i64) (Z2 (Z0 .i64) (Z2 (Z0 .i64) (Z2 (Z1 Z0e) (Z1 Z0f)))))))))))))) (Lens.comp (Lens.comp (Lens.comp (Lens.comp (Lens.comp (Lens.comp (Lens.comp (Lens.comp (Lens.comp (Lens.comp (Lens.snd _ _) (Lens.snd _ _)) (Lens.snd _ _)) (Lens.snd _ _)) (Lens.snd _ _)) (Lens.snd _ _)) (Lens.snd _ _)) (Lens.snd _ _)) (Lens.snd _ _)) (Lens.snd _ _)) (Lens.fst _ _)) FlowMod.Flags (fun x y=>{x with Flags:=y}) (fun _=>rfl) (fun _ _=>rfl)
def lFlowMod_11:Lens Z1b (Z1 Z0e):=Lens.iso (k:=(Z2 Zx (Z2 Zx (Z2 (Z0 .i64) (Z2 (Z0 .i64) (Z2 (Z0 .i64) (Z2 (Z0 .i64) (Z2 (Z0 .i64) (Z2 (Z0 .i64) (Z2 (Z0 .i64) (Z2 (Z0 .i64) (Z2 (Z0 .i64) (Z2 (Z1 Z0e) (Z1 Z0f)))))))))))))) (Lens.comp (Lens.comp (Lens.comp (Lens.comp (Lens.comp (Lens.comp (Lens.comp (Lens.comp (Lens.comp (Lens.comp (Lens.comp (Lens.snd _ _) (Lens.snd _ _)) (Lens.snd _ _)) (Lens.snd _ _)) (Lens.snd _ _)) (Lens.snd _ _)) (Lens.snd _ _)) (Lens.snd _ _)) (Lens.snd _ _)) (Lens.snd _ _)) (Lens.snd _ _)) (Lens.fst _ _)) FlowMod.Match (fun x y=>{x with Match:=y}) (fun _=>rfl) (fun _ _=>rfl)
def lFlowMod_12:Lens Z1b (Z1 Z0f):=Lens.iso (k:=(Z2 Zx (Z2 Zx (Z2 (Z0 .i64) (Z2 (Z0 .i64) (Z2 (Z0 .i64) (Z2 (Z0 .i64) (Z2 (Z0 .i64) (Z2 (Z0 .i64) (Z2 (Z0 .i64) (Z2 (Z0 .i64) (Z2 (Z0 .i64) (Z2 (Z1 Z0e) (Z1 Z0f)))))))))))))) (Lens.comp (Lens.comp (Lens.comp (Lens.comp (Lens.comp (Lens.comp (Lens.comp (Lens.comp (Lens.comp (Lens.comp (Lens.comp (Lens.snd _ _) (Lens.snd _ _)) (Lens.snd _ _)) (Lens.snd _ _)) (Lens.snd _ _)) (Lens.snd _ _)) (Lens.snd _ _)) (Lens.snd _ _)) (Lens.snd _ _)) (Lens.snd _ _)) (Lens.snd _ _)) (Lens.snd _ _)) FlowMod.Insts (fun x y=>{x with Insts:=y}) (fun _=>rfl) (fun _ _=>rfl)
def Zjm:FlowMod:=⟨0,0,0,0,0,0,0,0,0,0,0,[],[]⟩
def Zql:List Value:=([.int .u64 0]++([.int .u64 0]++([.int .i64 0]++([.int .i64 0]++([.int .i64 0]++([.int .i64 0]++([.int .i64 0]++([.int .i64 0]++([.int .i64 0]++([.int .i64 0]++([.int .i64 0]++([.slice none 0 0]++[.slice none 0 0]))))))))))))
theorem Zqo:KZ Z1b Zjm Zql:=Z1j (Z0b Zak (Z0b Zak (Z0b Z13 (Z0b Z13 (Z0b Z13 (Z0b Z13 (Z0b Z13 (Z0b Z13 (Z0b Z13 (Z0b Z13 (Z0b Z13 (Z0b (Z2m _) (Z2m _)))))))))))))
structure Switch_o1 where
 Tables:Zy8
 Groups:Value
def kSwitch_o1:Kd Switch_o1:=Z0k (Z2 (Z4 4 (Z1 Zp)) kraw) (fun x=>(x.Tables,x.Groups))
def Zhf:Lens kSwitch_o1 kraw:=Lens.iso (k:=(Z2 (Z4 4 (Z1 Zp)) kraw)) (Lens.snd _ _) Switch_o1.Groups (fun x y=>{x with Groups:=y}) (fun _=>rfl) (fun _ _=>rfl)
theorem Yh5 (x:Switch_o1)(l:(List Group)):∀w H cs,kSwitch_o1.C w H x cs→SlC Zt w H l x.Groups→kSwitch.C w H ⟨x.Tables,l⟩ cs:=by
 rintro w H cs ⟨c0,r0,rfl,h0,h1⟩ hs
 exact ⟨_,_,rfl,h0,⟨_,h1.1,hs⟩⟩
theorem Ydi (x:Switch):∀w H cs,kSwitch.C w H x cs→∃v,kSwitch_o1.C w H ⟨x.Tables,v⟩ cs:=by
 rintro w H cs ⟨c0,r0,rfl,h0,⟨_,rfl,A,c,rfl,_⟩⟩
 exact ⟨.slice A _ c,⟨_,_,rfl,h0,⟨rfl,rfl⟩⟩⟩
structure field_row where
 name:ByteArray
 id:Int
 bits:Int
 masks:Bool
 deriving DecidableEq,Inhabited
def Z1r:Kd field_row:=Z0k (Z2 Z68 (Z2 (Z0 .i64) (Z2 (Z0 .i64) Z3))) (fun x=>(x.name,(x.id,(x.bits,x.masks))))
instance:PureK Z1r:=inferInstanceAs (PureK (Z0k (Z2 Z68 (Z2 (Z0 .i64) (Z2 (Z0 .i64) Z3))) (fun (x:field_row)=>(x.name,(x.id,(x.bits,x.masks))))))
instance {E:TypeId}:Sh Z1r E:=⟨rfl⟩
def Z32:Lens Z1r Z68:=Lens.iso (k:=(Z2 Z68 (Z2 (Z0 .i64) (Z2 (Z0 .i64) Z3)))) (Lens.fst _ _) field_row.name (fun x y=>{x with name:=y}) (fun _=>rfl) (fun _ _=>rfl)
def lfield_row_1:Lens Z1r (Z0 .i64):=Lens.iso (k:=(Z2 Z68 (Z2 (Z0 .i64) (Z2 (Z0 .i64) Z3)))) (Lens.comp (Lens.snd _ _) (Lens.fst _ _)) field_row.id (fun x y=>{x with id:=y}) (fun _=>rfl) (fun _ _=>rfl)
def Z2i:Lens Z1r (Z0 .i64):=Lens.iso (k:=(Z2 Z68 (Z2 (Z0 .i64) (Z2 (Z0 .i64) Z3)))) (Lens.comp (Lens.comp (Lens.snd _ _) (Lens.snd _ _)) (Lens.fst _ _)) field_row.bits (fun x y=>{x with bits:=y}) (fun _=>rfl) (fun _ _=>rfl)
def Z2q:Lens Z1r Z3:=Lens.iso (k:=(Z2 Z68 (Z2 (Z0 .i64) (Z2 (Z0 .i64) Z3)))) (Lens.comp (Lens.comp (Lens.snd _ _) (Lens.snd _ _)) (Lens.snd _ _)) field_row.masks (fun x y=>{x with masks:=y}) (fun _=>rfl) (fun _ _=>rfl)
def Zga:field_row:=⟨(⟨#[]⟩:ByteArray),0,0,false⟩
def Y8m:List Value:=([.string ⟨#[]⟩]++([.int .i64 0]++([.int .i64 0]++[.bool false])))
theorem Y0b:KZ Z1r Zga Y8m:=Z1j (Z0b Y9f (Z0b Z13 (Z0b Z13 Z7x)))
abbrev Ycb:=Vector field_row 24
abbrev Y3a:=Vector Int 4
abbrev Y3n:=Vector Int 16
structure GroupMod where
 Command:Int
 Kind:Int
 ID:Int
 Buckets:(List Bucket)
 deriving DecidableEq,Inhabited
def Z5m:Kd GroupMod:=Z0k (Z2 (Z0 .i64) (Z2 (Z0 .i64) (Z2 (Z0 .i64) (Z1 Z16)))) (fun x=>(x.Command,(x.Kind,(x.ID,x.Buckets))))
instance {E:TypeId}:Sh Z5m E:=⟨rfl⟩
def Z7j:Lens Z5m (Z0 .i64):=Lens.iso (k:=(Z2 (Z0 .i64) (Z2 (Z0 .i64) (Z2 (Z0 .i64) (Z1 Z16))))) (Lens.fst _ _) GroupMod.Command (fun x y=>{x with Command:=y}) (fun _=>rfl) (fun _ _=>rfl)
def lGroupMod_1:Lens Z5m (Z0 .i64):=Lens.iso (k:=(Z2 (Z0 .i64) (Z2 (Z0 .i64) (Z2 (Z0 .i64) (Z1 Z16))))) (Lens.comp (Lens.snd _ _) (Lens.fst _ _)) GroupMod.Kind (fun x y=>{x with Kind:=y}) (fun _=>rfl) (fun _ _=>rfl)
def lGroupMod_2:Lens Z5m (Z0 .i64):=Lens.iso (k:=(Z2 (Z0 .i64) (Z2 (Z0 .i64) (Z2 (Z0 .i64) (Z1 Z16))))) (Lens.comp (Lens.comp (Lens.snd _ _) (Lens.snd _ _)) (Lens.fst _ _)) GroupMod.ID (fun x y=>{x with ID:=y}) (fun _=>rfl) (fun _ _=>rfl)
def lGroupMod_3:Lens Z5m (Z1 Z16):=Lens.iso (k:=(Z2 (Z0 .i64) (Z2 (Z0 .i64) (Z2 (Z0 .i64) (Z1 Z16))))) (Lens.comp (Lens.comp (Lens.snd _ _) (Lens.snd _ _)) (Lens.snd _ _)) GroupMod.Buckets (fun x y=>{x with Buckets:=y}) (fun _=>rfl) (fun _ _=>rfl)
def Y47:GroupMod:=⟨0,0,0,[]⟩
def Yoa:List Value:=([.int .i64 0]++([.int .i64 0]++([.int .i64 0]++[.slice none 0 0])))
theorem Yep:KZ Z5m Y47 Yoa:=Z1j (Z0b Z13 (Z0b Z13 (Z0b Z13 (Z2m _))))
structure Fault where
 Is:Bool
 Type_:Int
 Code:Int
 deriving DecidableEq,Inhabited
def Z12:Kd Fault:=Z0k (Z2 Z3 (Z2 (Z0 .i64) (Z0 .i64))) (fun x=>(x.Is,(x.Type_,x.Code)))
instance:PureK Z12:=inferInstanceAs (PureK (Z0k (Z2 Z3 (Z2 (Z0 .i64) (Z0 .i64))) (fun (x:Fault)=>(x.Is,(x.Type_,x.Code)))))
instance {E:TypeId}:Sh Z12 E:=⟨rfl⟩
def lFault_0:Lens Z12 Z3:=Lens.iso (k:=(Z2 Z3 (Z2 (Z0 .i64) (Z0 .i64)))) (Lens.fst _ _) Fault.Is (fun x y=>{x with Is:=y}) (fun _=>rfl) (fun _ _=>rfl)
def lFault_1:Lens Z12 (Z0 .i64):=Lens.iso (k:=(Z2 Z3 (Z2 (Z0 .i64) (Z0 .i64)))) (Lens.comp (Lens.snd _ _) (Lens.fst _ _)) Fault.Type_ (fun x y=>{x with Type_:=y}) (fun _=>rfl) (fun _ _=>rfl)
def lFault_2:Lens Z12 (Z0 .i64):=Lens.iso (k:=(Z2 Z3 (Z2 (Z0 .i64) (Z0 .i64)))) (Lens.comp (Lens.snd _ _) (Lens.snd _ _)) Fault.Code (fun x y=>{x with Code:=y}) (fun _=>rfl) (fun _ _=>rfl)
def Z4g:Fault:=⟨false,0,0⟩
def Zwh:List Value:=([.bool false]++([.int .i64 0]++[.int .i64 0]))
theorem Y1t:KZ Z12 Z4g Zwh:=Z1j (Z0b Z7x (Z0b Z13 Z13))
structure state_refused where
 Fault:Fault
 deriving DecidableEq,Inhabited
def Z5i:Kd state_refused:=Z0k Z12 (fun x=>x.Fault)
instance:PureK Z5i:=inferInstanceAs (PureK (Z0k Z12 (fun (x:state_refused)=>x.Fault)))
instance {E:TypeId}:Sh Z5i E:=⟨rfl⟩
def lstate_refused_0:Lens Z5i Z12:=Lens.iso (k:=Z12) (Lens.id _) state_refused.Fault (fun x y=>{x with Fault:=y}) (fun _=>rfl) (fun _ _=>rfl)
def Zo3:state_refused:=⟨Z4g⟩
def Y9k:List Value:=Zwh
theorem Ycj:KZ Z5i Zo3 Y9k:=Z1j Y1t
inductive Err where
 | no
 | e218 (x:state_refused)
 deriving DecidableEq,Inhabited
def Zmu:Err→Option Dy
 | .no=>none
 | .e218 x=>some (dy 218 Z5i x)
abbrev Z3y:Kd Err:=Z8g Zmu
def Err.isNo:Err→Bool
 | .no=>true
 | _=>false
instance:PureK Z3y:=Yav fun e=>by cases e<;>first | exact trivial | exact Ynk
theorem Zu1 (e:Err):(Zmu e).isNone=e.isNo:=by cases e<;>rfl
structure Y8v where
 groups:(List Group)
 seen:(List (Int×Int))
 deriving DecidableEq,Inhabited
def Yo9:Kd Y8v:=Z0k (Z2 (Z1 Zt) (Y9j (Z0 .i64))) (fun x=>(x.groups,x.seen))
instance {E:TypeId}:Sh Yo9 E:=⟨rfl⟩
structure group_walk_o1 where
 groups:(List Group)
 seen:Value
def Z5e:Kd group_walk_o1:=Z0k (Z2 (Z1 Zt) kraw) (fun x=>(x.groups,x.seen))
def lgroup_walk_o1_0:Lens Z5e (Z1 Zt):=Lens.iso (k:=(Z2 (Z1 Zt) kraw)) (Lens.fst _ _) group_walk_o1.groups (fun x y=>{x with groups:=y}) (fun _=>rfl) (fun _ _=>rfl)
def lgroup_walk_o1_1:Lens Z5e kraw:=Lens.iso (k:=(Z2 (Z1 Zt) kraw)) (Lens.snd _ _) group_walk_o1.seen (fun x y=>{x with seen:=y}) (fun _=>rfl) (fun _ _=>rfl)
def Zz4:group_walk_o1:=⟨[],(.map none)⟩
theorem Yi2:KZ Z5e Zz4 ([.slice none 0 0]++[.map none]):=Z1j (Z0b (Z2m _) (Za9 rfl))
structure state_work where
 Switch:Switch
 deriving DecidableEq,Inhabited
def Z2g:Kd state_work:=Z0k kSwitch (fun x=>x.Switch)
instance {E:TypeId}:Sh Z2g E:=⟨rfl⟩
def lstate_work_0:Lens Z2g kSwitch:=Lens.iso (k:=kSwitch) (Lens.id _) state_work.Switch (fun x y=>{x with Switch:=y}) (fun _=>rfl) (fun _ _=>rfl)
def Y1w:state_work:=⟨Z9c⟩
def Ykx:List Value:=Zxm
theorem Ye1:KZ Z2g Y1w Ykx:=Z1j Zp1
structure flowmod_mod where
 FlowMod:FlowMod
 deriving DecidableEq,Inhabited
def Z33:Kd flowmod_mod:=Z0k Z1b (fun x=>x.FlowMod)
instance {E:TypeId}:Sh Z33 E:=⟨rfl⟩
def lflowmod_mod_0:Lens Z33 Z1b:=Lens.iso (k:=Z1b) (Lens.id _) flowmod_mod.FlowMod (fun x y=>{x with FlowMod:=y}) (fun _=>rfl) (fun _ _=>rfl)
def Y3j:flowmod_mod:=⟨Zjm⟩
def Y6o:List Value:=Zql
theorem Yia:KZ Z33 Y3j Y6o:=Z1j Zqo
structure Need where
 Field:Int
 Values:(List Wide)
 deriving DecidableEq,Inhabited
def kNeed:Kd Need:=Z0k (Z2 (Z0 .i64) (Z1 Zw)) (fun x=>(x.Field,x.Values))
instance {E:TypeId}:Sh kNeed E:=⟨rfl⟩
def Y03:Lens kNeed (Z0 .i64):=Lens.iso (k:=(Z2 (Z0 .i64) (Z1 Zw))) (Lens.fst _ _) Need.Field (fun x y=>{x with Field:=y}) (fun _=>rfl) (fun _ _=>rfl)
def Zup:Lens kNeed (Z1 Zw):=Lens.iso (k:=(Z2 (Z0 .i64) (Z1 Zw))) (Lens.snd _ _) Need.Values (fun x y=>{x with Values:=y}) (fun _=>rfl) (fun _ _=>rfl)
def Zp0:Need:=⟨0,[]⟩
def Ydm:List Value:=([.int .i64 0]++[.slice none 0 0])
theorem Ykt:KZ kNeed Zp0 Ydm:=Z1j (Z0b Z13 (Z2m _))
structure Need_o1 where
 Field:Int
 Values:Value
def kNeed_o1:Kd Need_o1:=Z0k (Z2 (Z0 .i64) kraw) (fun x=>(x.Field,x.Values))
def lNeed_o1_0:Lens kNeed_o1 (Z0 .i64):=Lens.iso (k:=(Z2 (Z0 .i64) kraw)) (Lens.fst _ _) Need_o1.Field (fun x y=>{x with Field:=y}) (fun _=>rfl) (fun _ _=>rfl)
def Zoe:Lens kNeed_o1 kraw:=Lens.iso (k:=(Z2 (Z0 .i64) kraw)) (Lens.snd _ _) Need_o1.Values (fun x y=>{x with Values:=y}) (fun _=>rfl) (fun _ _=>rfl)
def Zw0:Need_o1:=⟨0,(.slice none 0 0)⟩
theorem Yja:KZ kNeed_o1 Zw0 ([.int .i64 0]++[.slice none 0 0]):=Z1j (Z0b Z13 (Za9 rfl))
theorem Ybz (x:Need_o1)(l:(List Wide)):∀w H cs,kNeed_o1.C w H x cs→SlC Zw w H l x.Values→kNeed.C w H ⟨x.Field,l⟩ cs:=by
 rintro w H cs ⟨c0,r0,rfl,h0,h1⟩ hs
 exact ⟨_,_,rfl,h0,⟨_,h1.1,hs⟩⟩
abbrev Ztd:=Vector Int 9
structure Tern where
 Value:Wide
 Mask:Wide
 deriving DecidableEq,Inhabited
def Z7:Kd Tern:=Z0k (Z2 Zw Zw) (fun x=>(x.Value,x.Mask))
instance:PureK Z7:=inferInstanceAs (PureK (Z0k (Z2 Zw Zw) (fun (x:Tern)=>(x.Value,x.Mask))))
instance {E:TypeId}:Sh Z7 E:=⟨rfl⟩
def lTern_0:Lens Z7 Zw:=Lens.iso (k:=(Z2 Zw Zw)) (Lens.fst _ _) Tern.Value (fun x y=>{x with Value:=y}) (fun _=>rfl) (fun _ _=>rfl)
def lTern_1:Lens Z7 Zw:=Lens.iso (k:=(Z2 Zw Zw)) (Lens.snd _ _) Tern.Mask (fun x y=>{x with Mask:=y}) (fun _=>rfl) (fun _ _=>rfl)
def Z1h:Tern:=⟨Z0r,Z0r⟩
def Z6l:List Value:=(Z8r++Z8r)
theorem Z5g:KZ Z7 Z1h Z6l:=Z1j (Z0b Z7l Z7l)
abbrev Zs:=Vector Tern 24
structure flow_place where
 priority:Int
 cube:Zs
 deriving DecidableEq,Inhabited
def Z7u:Kd flow_place:=Z0k (Z2 (Z0 .i64) (Z4 24 Z7)) (fun x=>(x.priority,x.cube))
instance:PureK Z7u:=inferInstanceAs (PureK (Z0k (Z2 (Z0 .i64) (Z4 24 Z7)) (fun (x:flow_place)=>(x.priority,x.cube))))
instance {E:TypeId}:Sh Z7u E:=⟨rfl⟩
def lflow_place_0:Lens Z7u (Z0 .i64):=Lens.iso (k:=(Z2 (Z0 .i64) (Z4 24 Z7))) (Lens.fst _ _) flow_place.priority (fun x y=>{x with priority:=y}) (fun _=>rfl) (fun _ _=>rfl)
def lflow_place_1:Lens Z7u (Z4 24 Z7):=Lens.iso (k:=(Z2 (Z0 .i64) (Z4 24 Z7))) (Lens.snd _ _) flow_place.cube (fun x y=>{x with cube:=y}) (fun _=>rfl) (fun _ _=>rfl)
def Y2w:flow_place:=⟨0,(Vector.replicate 24 Z1h)⟩
def Yl4:List Value:=([.int .i64 0]++(List.replicate 24 Z6l).flatten)
theorem Ymz:KZ Z7u Y2w Yl4:=Z1j (Z0b Z13 (Z3e 24 Z5g))
structure table_change where
 FlowMod:FlowMod
 table:(List Flow)
 deriving DecidableEq,Inhabited
def Z3g:Kd table_change:=Z0k (Z2 Z1b (Z1 Zp)) (fun x=>(x.FlowMod,x.table))
instance {E:TypeId}:Sh Z3g E:=⟨rfl⟩
def ltable_change_0:Lens Z3g Z1b:=Lens.iso (k:=(Z2 Z1b (Z1 Zp))) (Lens.fst _ _) table_change.FlowMod (fun x y=>{x with FlowMod:=y}) (fun _=>rfl) (fun _ _=>rfl)
def ltable_change_1:Lens Z3g (Z1 Zp):=Lens.iso (k:=(Z2 Z1b (Z1 Zp))) (Lens.snd _ _) table_change.table (fun x y=>{x with table:=y}) (fun _=>rfl) (fun _ _=>rfl)
def Y3e:table_change:=⟨Zjm,[]⟩
def Yjl:List Value:=(Zql++[.slice none 0 0])
theorem Y7p:KZ Z3g Y3e Yjl:=Z1j (Z0b Zqo (Z2m _))
structure Link where
 From:Int
 Out:Int
 To:Int
 In:Int
 deriving DecidableEq,Inhabited
def Z31:Kd Link:=Z0k (Z2 (Z0 .i64) (Z2 (Z0 .i64) (Z2 (Z0 .i64) (Z0 .i64)))) (fun x=>(x.From,(x.Out,(x.To,x.In))))
instance:PureK Z31:=inferInstanceAs (PureK (Z0k (Z2 (Z0 .i64) (Z2 (Z0 .i64) (Z2 (Z0 .i64) (Z0 .i64)))) (fun (x:Link)=>(x.From,(x.Out,(x.To,x.In))))))
instance {E:TypeId}:Sh Z31 E:=⟨rfl⟩
def lLink_0:Lens Z31 (Z0 .i64):=Lens.iso (k:=(Z2 (Z0 .i64) (Z2 (Z0 .i64) (Z2 (Z0 .i64) (Z0 .i64))))) (Lens.fst _ _) Link.From (fun x y=>{x with From:=y}) (fun _=>rfl) (fun _ _=>rfl)
def lLink_1:Lens Z31 (Z0 .i64):=Lens.iso (k:=(Z2 (Z0 .i64) (Z2 (Z0 .i64) (Z2 (Z0 .i64) (Z0 .i64))))) (Lens.comp (Lens.snd _ _) (Lens.fst _ _)) Link.Out (fun x y=>{x with Out:=y}) (fun _=>rfl) (fun _ _=>rfl)
def lLink_2:Lens Z31 (Z0 .i64):=Lens.iso (k:=(Z2 (Z0 .i64) (Z2 (Z0 .i64) (Z2 (Z0 .i64) (Z0 .i64))))) (Lens.comp (Lens.comp (Lens.snd _ _) (Lens.snd _ _)) (Lens.fst _ _)) Link.To (fun x y=>{x with To:=y}) (fun _=>rfl) (fun _ _=>rfl)
def lLink_3:Lens Z31 (Z0 .i64):=Lens.iso (k:=(Z2 (Z0 .i64) (Z2 (Z0 .i64) (Z2 (Z0 .i64) (Z0 .i64))))) (Lens.comp (Lens.comp (Lens.snd _ _) (Lens.snd _ _)) (Lens.snd _ _)) Link.In (fun x y=>{x with In:=y}) (fun _=>rfl) (fun _ _=>rfl)
def Zme:Link:=⟨0,0,0,0⟩
def Y8p:List Value:=([.int .i64 0]++([.int .i64 0]++([.int .i64 0]++[.int .i64 0])))
theorem Yaa:KZ Z31 Zme Y8p:=Z1j (Z0b Z13 (Z0b Z13 (Z0b Z13 Z13)))
structure Net where
 Switches:(List Switch)
 Links:(List Link)
 deriving DecidableEq,Inhabited
def Z1v:Kd Net:=Z0k (Z2 (Z1 kSwitch) (Z1 Z31)) (fun x=>(x.Switches,x.Links))
instance {E:TypeId}:Sh Z1v E:=⟨rfl⟩
def lNet_0:Lens Z1v (Z1 kSwitch):=Lens.iso (k:=(Z2 (Z1 kSwitch) (Z1 Z31))) (Lens.fst _ _) Net.Switches (fun x y=>{x with Switches:=y}) (fun _=>rfl) (fun _ _=>rfl)
def lNet_1:Lens Z1v (Z1 Z31):=Lens.iso (k:=(Z2 (Z1 kSwitch) (Z1 Z31))) (Lens.snd _ _) Net.Links (fun x y=>{x with Links:=y}) (fun _=>rfl) (fun _ _=>rfl)
def Zsg:Net:=⟨[],[]⟩
def Y0t:List Value:=([.slice none 0 0]++[.slice none 0 0])
theorem Y2d:KZ Z1v Zsg Y0t:=Z1j (Z0b (Z2m _) (Z2m _))
structure links_plug where
 at_:Int
 port:Int
 deriving DecidableEq,Inhabited
def Z6a:Kd links_plug:=Z0k (Z2 (Z0 .i64) (Z0 .i64)) (fun x=>(x.at_,x.port))
instance:PureK Z6a:=inferInstanceAs (PureK (Z0k (Z2 (Z0 .i64) (Z0 .i64)) (fun (x:links_plug)=>(x.at_,x.port))))
instance {E:TypeId}:Sh Z6a E:=⟨rfl⟩
def llinks_plug_0:Lens Z6a (Z0 .i64):=Lens.iso (k:=(Z2 (Z0 .i64) (Z0 .i64))) (Lens.fst _ _) links_plug.at_ (fun x y=>{x with at_:=y}) (fun _=>rfl) (fun _ _=>rfl)
def llinks_plug_1:Lens Z6a (Z0 .i64):=Lens.iso (k:=(Z2 (Z0 .i64) (Z0 .i64))) (Lens.snd _ _) links_plug.port (fun x y=>{x with port:=y}) (fun _=>rfl) (fun _ _=>rfl)
def Y2u:links_plug:=⟨0,0⟩
def Ycm:List Value:=([.int .i64 0]++[.int .i64 0])
theorem Ydx:KZ Z6a Y2u Ycm:=Z1j (Z0b Z13 Z13)
abbrev Zev:=Vector Bool 7
structure Env where
 Turn:Int
 Down:(List Int)
 deriving DecidableEq,Inhabited
def Z1a:Kd Env:=Z0k (Z2 (Z0 .i64) (Z1 (Z0 .i64))) (fun x=>(x.Turn,x.Down))
instance {E:TypeId}:Sh Z1a E:=⟨rfl⟩
def lEnv_0:Lens Z1a (Z0 .i64):=Lens.iso (k:=(Z2 (Z0 .i64) (Z1 (Z0 .i64)))) (Lens.fst _ _) Env.Turn (fun x y=>{x with Turn:=y}) (fun _=>rfl) (fun _ _=>rfl)
def lEnv_1:Lens Z1a (Z1 (Z0 .i64)):=Lens.iso (k:=(Z2 (Z0 .i64) (Z1 (Z0 .i64)))) (Lens.snd _ _) Env.Down (fun x y=>{x with Down:=y}) (fun _=>rfl) (fun _ _=>rfl)
def Z59:Env:=⟨0,[]⟩
def Zgj:List Value:=([.int .i64 0]++[.slice none 0 0])
theorem Zf9:KZ Z1a Z59 Zgj:=Z1j (Z0b Z13 (Z2m _))
structure Atom where
 Rewrite:Zs
 Group:Bool
 Port:Int
 Max:Int
 deriving DecidableEq,Inhabited
def Z0p:Kd Atom:=Z0k (Z2 (Z4 24 Z7) (Z2 Z3 (Z2 (Z0 .i64) (Z0 .i64)))) (fun x=>(x.Rewrite,(x.Group,(x.Port,x.Max))))
instance:PureK Z0p:=inferInstanceAs (PureK (Z0k (Z2 (Z4 24 Z7) (Z2 Z3 (Z2 (Z0 .i64) (Z0 .i64)))) (fun (x:Atom)=>(x.Rewrite,(x.Group,(x.Port,x.Max))))))
instance {E:TypeId}:Sh Z0p E:=⟨rfl⟩
def lAtom_0:Lens Z0p (Z4 24 Z7):=Lens.iso (k:=(Z2 (Z4 24 Z7) (Z2 Z3 (Z2 (Z0 .i64) (Z0 .i64))))) (Lens.fst _ _) Atom.Rewrite (fun x y=>{x with Rewrite:=y}) (fun _=>rfl) (fun _ _=>rfl)
def Ztu:Lens Z0p Z3:=Lens.iso (k:=(Z2 (Z4 24 Z7) (Z2 Z3 (Z2 (Z0 .i64) (Z0 .i64))))) (Lens.comp (Lens.snd _ _) (Lens.fst _ _)) Atom.Group (fun x y=>{x with Group:=y}) (fun _=>rfl) (fun _ _=>rfl)
def Zcf:Lens Z0p (Z0 .i64):=Lens.iso (k:=(Z2 (Z4 24 Z7) (Z2 Z3 (Z2 (Z0 .i64) (Z0 .i64))))) (Lens.comp (Lens.comp (Lens.snd _ _) (Lens.snd _ _)) (Lens.fst _ _)) Atom.Port (fun x y=>{x with Port:=y}) (fun _=>rfl) (fun _ _=>rfl)
def Zt5:Lens Z0p (Z0 .i64):=Lens.iso (k:=(Z2 (Z4 24 Z7) (Z2 Z3 (Z2 (Z0 .i64) (Z0 .i64))))) (Lens.comp (Lens.comp (Lens.snd _ _) (Lens.snd _ _)) (Lens.snd _ _)) Atom.Max (fun x y=>{x with Max:=y}) (fun _=>rfl) (fun _ _=>rfl)
def Y0l:Atom:=⟨(Vector.replicate 24 Z1h),false,0,0⟩
def Ylo:List Value:=((List.replicate 24 Z6l).flatten++([.bool false]++([.int .i64 0]++[.int .i64 0])))
theorem Ydw:KZ Z0p Y0l Ylo:=Z1j (Z0b (Z3e 24 Z5g) (Z0b Z7x (Z0b Z13 Z13)))
structure walk_way where
 cube:Zs
 got:Zs
 atoms:(List Atom)
 set:(List Action)
 deriving DecidableEq,Inhabited
def Z1o:Kd walk_way:=Z0k (Z2 (Z4 24 Z7) (Z2 (Z4 24 Z7) (Z2 (Z1 Z0p) (Z1 Zj)))) (fun x=>(x.cube,(x.got,(x.atoms,x.set))))
instance {E:TypeId}:Sh Z1o E:=⟨rfl⟩
def lwalk_way_0:Lens Z1o (Z4 24 Z7):=Lens.iso (k:=(Z2 (Z4 24 Z7) (Z2 (Z4 24 Z7) (Z2 (Z1 Z0p) (Z1 Zj))))) (Lens.fst _ _) walk_way.cube (fun x y=>{x with cube:=y}) (fun _=>rfl) (fun _ _=>rfl)
def lwalk_way_1:Lens Z1o (Z4 24 Z7):=Lens.iso (k:=(Z2 (Z4 24 Z7) (Z2 (Z4 24 Z7) (Z2 (Z1 Z0p) (Z1 Zj))))) (Lens.comp (Lens.snd _ _) (Lens.fst _ _)) walk_way.got (fun x y=>{x with got:=y}) (fun _=>rfl) (fun _ _=>rfl)
def Zcy:Lens Z1o (Z1 Z0p):=Lens.iso (k:=(Z2 (Z4 24 Z7) (Z2 (Z4 24 Z7) (Z2 (Z1 Z0p) (Z1 Zj))))) (Lens.comp (Lens.comp (Lens.snd _ _) (Lens.snd _ _)) (Lens.fst _ _)) walk_way.atoms (fun x y=>{x with atoms:=y}) (fun _=>rfl) (fun _ _=>rfl)
def Zhe:Lens Z1o (Z1 Zj):=Lens.iso (k:=(Z2 (Z4 24 Z7) (Z2 (Z4 24 Z7) (Z2 (Z1 Z0p) (Z1 Zj))))) (Lens.comp (Lens.comp (Lens.snd _ _) (Lens.snd _ _)) (Lens.snd _ _)) walk_way.set (fun x y=>{x with set:=y}) (fun _=>rfl) (fun _ _=>rfl)
def Zby:walk_way:=⟨(Vector.replicate 24 Z1h),(Vector.replicate 24 Z1h),[],[]⟩
def Yjr:List Value:=((List.replicate 24 Z6l).flatten++((List.replicate 24 Z6l).flatten++([.slice none 0 0]++[.slice none 0 0])))
theorem Yjc:KZ Z1o Zby Yjr:=Z1j (Z0b (Z3e 24 Z5g) (Z0b (Z3e 24 Z5g) (Z0b (Z2m _) (Z2m _))))
structure Z53 where
 got:Zs
 atoms:(List Atom)
 deriving DecidableEq,Inhabited
def Ydn:Kd Z53:=Z0k (Z2 (Z4 24 Z7) (Z1 Z0p)) (fun x=>(x.got,x.atoms))
instance {E:TypeId}:Sh Ydn E:=⟨rfl⟩
structure atom_trace_o1 where
 got:Zs
 atoms:Value
def Z4p:Kd atom_trace_o1:=Z0k (Z2 (Z4 24 Z7) kraw) (fun x=>(x.got,x.atoms))
def latom_trace_o1_0:Lens Z4p (Z4 24 Z7):=Lens.iso (k:=(Z2 (Z4 24 Z7) kraw)) (Lens.fst _ _) atom_trace_o1.got (fun x y=>{x with got:=y}) (fun _=>rfl) (fun _ _=>rfl)
def Zf4:Lens Z4p kraw:=Lens.iso (k:=(Z2 (Z4 24 Z7) kraw)) (Lens.snd _ _) atom_trace_o1.atoms (fun x y=>{x with atoms:=y}) (fun _=>rfl) (fun _ _=>rfl)
def Y2z:atom_trace_o1:=⟨(Vector.replicate 24 Z1h),(.slice none 0 0)⟩
theorem Yne:KZ Z4p Y2z ((List.replicate 24 Z6l).flatten++[.slice none 0 0]):=Z1j (Z0b (Z3e 24 Z5g) (Za9 rfl))
structure aset_spot where
 kind:Int
 field:Int
 deriving DecidableEq,Inhabited
def Z5l:Kd aset_spot:=Z0k (Z2 (Z0 .i64) (Z0 .i64)) (fun x=>(x.kind,x.field))
instance:PureK Z5l:=inferInstanceAs (PureK (Z0k (Z2 (Z0 .i64) (Z0 .i64)) (fun (x:aset_spot)=>(x.kind,x.field))))
instance {E:TypeId}:Sh Z5l E:=⟨rfl⟩
def laset_spot_0:Lens Z5l (Z0 .i64):=Lens.iso (k:=(Z2 (Z0 .i64) (Z0 .i64))) (Lens.fst _ _) aset_spot.kind (fun x y=>{x with kind:=y}) (fun _=>rfl) (fun _ _=>rfl)
def laset_spot_1:Lens Z5l (Z0 .i64):=Lens.iso (k:=(Z2 (Z0 .i64) (Z0 .i64))) (Lens.snd _ _) aset_spot.field (fun x y=>{x with field:=y}) (fun _=>rfl) (fun _ _=>rfl)
def Zm1:aset_spot:=⟨0,0⟩
def Yfg:List Value:=([.int .i64 0]++[.int .i64 0])
theorem Yhl:KZ Z5l Zm1 Yfg:=Z1j (Z0b Z13 Z13)
structure Rule where
 Cube:Zs
 Atoms:(List Atom)
 deriving DecidableEq,Inhabited
def Z0n:Kd Rule:=Z0k (Z2 (Z4 24 Z7) (Z1 Z0p)) (fun x=>(x.Cube,x.Atoms))
instance {E:TypeId}:Sh Z0n E:=⟨rfl⟩
def lRule_0:Lens Z0n (Z4 24 Z7):=Lens.iso (k:=(Z2 (Z4 24 Z7) (Z1 Z0p))) (Lens.fst _ _) Rule.Cube (fun x y=>{x with Cube:=y}) (fun _=>rfl) (fun _ _=>rfl)
def lRule_1:Lens Z0n (Z1 Z0p):=Lens.iso (k:=(Z2 (Z4 24 Z7) (Z1 Z0p))) (Lens.snd _ _) Rule.Atoms (fun x y=>{x with Atoms:=y}) (fun _=>rfl) (fun _ _=>rfl)
def Y02:Rule:=⟨(Vector.replicate 24 Z1h),[]⟩
def Yee:List Value:=((List.replicate 24 Z6l).flatten++[.slice none 0 0])
theorem Ylm:KZ Z0n Y02 Yee:=Z1j (Z0b (Z3e 24 Z5g) (Z2m _))
structure cover_purse where
 left:Int
 free:Bool
 deriving DecidableEq,Inhabited
def Z54:Kd cover_purse:=Z0k (Z2 (Z0 .i64) Z3) (fun x=>(x.left,x.free))
instance:PureK Z54:=inferInstanceAs (PureK (Z0k (Z2 (Z0 .i64) Z3) (fun (x:cover_purse)=>(x.left,x.free))))
instance {E:TypeId}:Sh Z54 E:=⟨rfl⟩
def lcover_purse_0:Lens Z54 (Z0 .i64):=Lens.iso (k:=(Z2 (Z0 .i64) Z3)) (Lens.fst _ _) cover_purse.left (fun x y=>{x with left:=y}) (fun _=>rfl) (fun _ _=>rfl)
def lcover_purse_1:Lens Z54 Z3:=Lens.iso (k:=(Z2 (Z0 .i64) Z3)) (Lens.snd _ _) cover_purse.free (fun x y=>{x with free:=y}) (fun _=>rfl) (fun _ _=>rfl)
def Zou:cover_purse:=⟨0,false⟩
def Zxb:List Value:=([.int .i64 0]++[.bool false])
theorem Y3m:KZ Z54 Zou Zxb:=Z1j (Z0b Z13 Z7x)
abbrev Z3i:=Vector Wide 24
structure cover_look where
 purse:cover_purse
 deriving DecidableEq,Inhabited
def Z20:Kd cover_look:=Z0k Z54 (fun x=>x.purse)
instance:PureK Z20:=inferInstanceAs (PureK (Z0k Z54 (fun (x:cover_look)=>x.purse)))
instance {E:TypeId}:Sh Z20 E:=⟨rfl⟩
def lcover_look_0:Lens Z20 Z54:=Lens.iso (k:=Z54) (Lens.id _) cover_look.purse (fun x y=>{x with purse:=y}) (fun _=>rfl) (fun _ _=>rfl)
def Y0k:cover_look:=⟨Zou⟩
def Yj6:List Value:=Zxb
theorem Y91:KZ Z20 Y0k Yj6:=Z1j Y3m
structure Flat where
 Rules:(List Rule)
 Groups:(List Group)
 deriving DecidableEq,Inhabited
def Z4d:Kd Flat:=Z0k (Z2 (Z1 Z0n) (Z1 Zt)) (fun x=>(x.Rules,x.Groups))
instance {E:TypeId}:Sh Z4d E:=⟨rfl⟩
def lFlat_0:Lens Z4d (Z1 Z0n):=Lens.iso (k:=(Z2 (Z1 Z0n) (Z1 Zt))) (Lens.fst _ _) Flat.Rules (fun x y=>{x with Rules:=y}) (fun _=>rfl) (fun _ _=>rfl)
def lFlat_1:Lens Z4d (Z1 Zt):=Lens.iso (k:=(Z2 (Z1 Z0n) (Z1 Zt))) (Lens.snd _ _) Flat.Groups (fun x y=>{x with Groups:=y}) (fun _=>rfl) (fun _ _=>rfl)
def Zu7:Flat:=⟨[],[]⟩
def Y3p:List Value:=([.slice none 0 0]++[.slice none 0 0])
theorem Y23:KZ Z4d Zu7 Y3p:=Z1j (Z0b (Z2m _) (Z2m _))
structure Z4c where
 cubes:(List Zs)
 most:Int
 deriving DecidableEq,Inhabited
def Yn2:Kd Z4c:=Z0k (Z2 (Z1 (Z4 24 Z7)) (Z0 .i64)) (fun x=>(x.cubes,x.most))
instance {E:TypeId}:Sh Yn2 E:=⟨rfl⟩
structure slice_heap_o0 where
 cubes:Value
 most:Int
def Z1x:Kd slice_heap_o0:=Z0k (Z2 kraw (Z0 .i64)) (fun x=>(x.cubes,x.most))
def lslice_heap_o0_0:Lens Z1x kraw:=Lens.iso (k:=(Z2 kraw (Z0 .i64))) (Lens.fst _ _) slice_heap_o0.cubes (fun x y=>{x with cubes:=y}) (fun _=>rfl) (fun _ _=>rfl)
def lslice_heap_o0_1:Lens Z1x (Z0 .i64):=Lens.iso (k:=(Z2 kraw (Z0 .i64))) (Lens.snd _ _) slice_heap_o0.most (fun x y=>{x with most:=y}) (fun _=>rfl) (fun _ _=>rfl)
def Zxe:slice_heap_o0:=⟨(.slice none 0 0),0⟩
theorem Yip:KZ Z1x Zxe ([.slice none 0 0]++[.int .i64 0]):=Z1j (Z0b (Za9 rfl) Z13)
structure spread_table where
 Flat:Flat
 cubes:(List (List Zs))
 deriving DecidableEq,Inhabited
def Z2f:Kd spread_table:=Z0k (Z2 Z4d (Z1 (Z1 (Z4 24 Z7)))) (fun x=>(x.Flat,x.cubes))
instance {E:TypeId}:Sh Z2f E:=⟨rfl⟩
def lspread_table_0:Lens Z2f Z4d:=Lens.iso (k:=(Z2 Z4d (Z1 (Z1 (Z4 24 Z7))))) (Lens.fst _ _) spread_table.Flat (fun x y=>{x with Flat:=y}) (fun _=>rfl) (fun _ _=>rfl)
def lspread_table_1:Lens Z2f (Z1 (Z1 (Z4 24 Z7))):=Lens.iso (k:=(Z2 Z4d (Z1 (Z1 (Z4 24 Z7))))) (Lens.snd _ _) spread_table.cubes (fun x y=>{x with cubes:=y}) (fun _=>rfl) (fun _ _=>rfl)
def Zvy:spread_table:=⟨Zu7,[]⟩
def Ycc:List Value:=(Y3p++[.slice none 0 0])
theorem Yah:KZ Z2f Zvy Ycc:=Z1j (Z0b Y23 (Z2m _))
structure spread_beam where
 cube:Zs
 got:Zs
 deriving DecidableEq,Inhabited
def Z2u:Kd spread_beam:=Z0k (Z2 (Z4 24 Z7) (Z4 24 Z7)) (fun x=>(x.cube,x.got))
instance:PureK Z2u:=inferInstanceAs (PureK (Z0k (Z2 (Z4 24 Z7) (Z4 24 Z7)) (fun (x:spread_beam)=>(x.cube,x.got))))
instance {E:TypeId}:Sh Z2u E:=⟨rfl⟩
def lspread_beam_0:Lens Z2u (Z4 24 Z7):=Lens.iso (k:=(Z2 (Z4 24 Z7) (Z4 24 Z7))) (Lens.fst _ _) spread_beam.cube (fun x y=>{x with cube:=y}) (fun _=>rfl) (fun _ _=>rfl)
def lspread_beam_1:Lens Z2u (Z4 24 Z7):=Lens.iso (k:=(Z2 (Z4 24 Z7) (Z4 24 Z7))) (Lens.snd _ _) spread_beam.got (fun x y=>{x with got:=y}) (fun _=>rfl) (fun _ _=>rfl)
def Y2o:spread_beam:=⟨(Vector.replicate 24 Z1h),(Vector.replicate 24 Z1h)⟩
def Y5w:List Value:=((List.replicate 24 Z6l).flatten++(List.replicate 24 Z6l).flatten)
theorem Yik:KZ Z2u Y2o Y5w:=Z1j (Z0b (Z3e 24 Z5g) (Z3e 24 Z5g))
structure env_world where
 Env:Env
 Group:Group
 deriving DecidableEq,Inhabited
def Z7f:Kd env_world:=Z0k (Z2 Z1a Zt) (fun x=>(x.Env,x.Group))
instance {E:TypeId}:Sh Z7f E:=⟨rfl⟩
def lenv_world_0:Lens Z7f Z1a:=Lens.iso (k:=(Z2 Z1a Zt)) (Lens.fst _ _) env_world.Env (fun x y=>{x with Env:=y}) (fun _=>rfl) (fun _ _=>rfl)
def lenv_world_1:Lens Z7f Zt:=Lens.iso (k:=(Z2 Z1a Zt)) (Lens.snd _ _) env_world.Group (fun x y=>{x with Group:=y}) (fun _=>rfl) (fun _ _=>rfl)
def Zzy:env_world:=⟨Z59,Z8p⟩
def Ybx:List Value:=(Zgj++Y4f)
theorem Yha:KZ Z7f Zzy Ybx:=Z1j (Z0b Zf9 Zyn)
structure norm_world where
 Env:Env
 groups:(List Group)
 depth:Int
 deriving DecidableEq,Inhabited
def Z3l:Kd norm_world:=Z0k (Z2 Z1a (Z2 (Z1 Zt) (Z0 .i64))) (fun x=>(x.Env,(x.groups,x.depth)))
instance {E:TypeId}:Sh Z3l E:=⟨rfl⟩
def lnorm_world_0:Lens Z3l Z1a:=Lens.iso (k:=(Z2 Z1a (Z2 (Z1 Zt) (Z0 .i64)))) (Lens.fst _ _) norm_world.Env (fun x y=>{x with Env:=y}) (fun _=>rfl) (fun _ _=>rfl)
def lnorm_world_1:Lens Z3l (Z1 Zt):=Lens.iso (k:=(Z2 Z1a (Z2 (Z1 Zt) (Z0 .i64)))) (Lens.comp (Lens.snd _ _) (Lens.fst _ _)) norm_world.groups (fun x y=>{x with groups:=y}) (fun _=>rfl) (fun _ _=>rfl)
def Znm:Lens Z3l (Z0 .i64):=Lens.iso (k:=(Z2 Z1a (Z2 (Z1 Zt) (Z0 .i64)))) (Lens.comp (Lens.snd _ _) (Lens.snd _ _)) norm_world.depth (fun x y=>{x with depth:=y}) (fun _=>rfl) (fun _ _=>rfl)
def Y4l:norm_world:=⟨Z59,[],0⟩
def Y9i:List Value:=(Zgj++([.slice none 0 0]++[.int .i64 0]))
theorem Ykd:KZ Z3l Y4l Y9i:=Z1j (Z0b Zf9 (Z0b (Z2m _) Z13))
structure Ray where
 At:Int
 Port:Int
 Max:Int
 Left:Bool
 Cube:Zs
 Rewrite:Zs
 deriving DecidableEq,Inhabited
def Z0u:Kd Ray:=Z0k (Z2 (Z0 .i64) (Z2 (Z0 .i64) (Z2 (Z0 .i64) (Z2 Z3 (Z2 (Z4 24 Z7) (Z4 24 Z7)))))) (fun x=>(x.At,(x.Port,(x.Max,(x.Left,(x.Cube,x.Rewrite))))))
instance:PureK Z0u:=inferInstanceAs (PureK (Z0k (Z2 (Z0 .i64) (Z2 (Z0 .i64) (Z2 (Z0 .i64) (Z2 Z3 (Z2 (Z4 24 Z7) (Z4 24 Z7)))))) (fun (x:Ray)=>(x.At,(x.Port,(x.Max,(x.Left,(x.Cube,x.Rewrite))))))))
instance {E:TypeId}:Sh Z0u E:=⟨rfl⟩
def lRay_0:Lens Z0u (Z0 .i64):=Lens.iso (k:=(Z2 (Z0 .i64) (Z2 (Z0 .i64) (Z2 (Z0 .i64) (Z2 Z3 (Z2 (Z4 24 Z7) (Z4 24 Z7))))))) (Lens.fst _ _) Ray.At (fun x y=>{x with At:=y}) (fun _=>rfl) (fun _ _=>rfl)
def lRay_1:Lens Z0u (Z0 .i64):=Lens.iso (k:=(Z2 (Z0 .i64) (Z2 (Z0 .i64) (Z2 (Z0 .i64) (Z2 Z3 (Z2 (Z4 24 Z7) (Z4 24 Z7))))))) (Lens.comp (Lens.snd _ _) (Lens.fst _ _)) Ray.Port (fun x y=>{x with Port:=y}) (fun _=>rfl) (fun _ _=>rfl)
def lRay_2:Lens Z0u (Z0 .i64):=Lens.iso (k:=(Z2 (Z0 .i64) (Z2 (Z0 .i64) (Z2 (Z0 .i64) (Z2 Z3 (Z2 (Z4 24 Z7) (Z4 24 Z7))))))) (Lens.comp (Lens.comp (Lens.snd _ _) (Lens.snd _ _)) (Lens.fst _ _)) Ray.Max (fun x y=>{x with Max:=y}) (fun _=>rfl) (fun _ _=>rfl)
def lRay_3:Lens Z0u Z3:=Lens.iso (k:=(Z2 (Z0 .i64) (Z2 (Z0 .i64) (Z2 (Z0 .i64) (Z2 Z3 (Z2 (Z4 24 Z7) (Z4 24 Z7))))))) (Lens.comp (Lens.comp (Lens.comp (Lens.snd _ _) (Lens.snd _ _)) (Lens.snd _ _)) (Lens.fst _ _)) Ray.Left (fun x y=>{x with Left:=y}) (fun _=>rfl) (fun _ _=>rfl)
def lRay_4:Lens Z0u (Z4 24 Z7):=Lens.iso (k:=(Z2 (Z0 .i64) (Z2 (Z0 .i64) (Z2 (Z0 .i64) (Z2 Z3 (Z2 (Z4 24 Z7) (Z4 24 Z7))))))) (Lens.comp (Lens.comp (Lens.comp (Lens.comp (Lens.snd _ _) (Lens.snd _ _)) (Lens.snd _ _)) (Lens.snd _ _)) (Lens.fst _ _)) Ray.Cube (fun x y=>{x with Cube:=y}) (fun _=>rfl) (fun _ _=>rfl)
def lRay_5:Lens Z0u (Z4 24 Z7):=Lens.iso (k:=(Z2 (Z0 .i64) (Z2 (Z0 .i64) (Z2 (Z0 .i64) (Z2 Z3 (Z2 (Z4 24 Z7) (Z4 24 Z7))))))) (Lens.comp (Lens.comp (Lens.comp (Lens.comp (Lens.snd _ _) (Lens.snd _ _)) (Lens.snd _ _)) (Lens.snd _ _)) (Lens.snd _ _)) Ray.Rewrite (fun x y=>{x with Rewrite:=y}) (fun _=>rfl) (fun _ _=>rfl)
def Zxw:Ray:=⟨0,0,0,false,(Vector.replicate 24 Z1h),(Vector.replicate 24 Z1h)⟩
def Yfy:List Value:=([.int .i64 0]++([.int .i64 0]++([.int .i64 0]++([.bool false]++((List.replicate 24 Z6l).flatten++(List.replicate 24 Z6l).flatten)))))
theorem Y82:KZ Z0u Zxw Yfy:=Z1j (Z0b Z13 (Z0b Z13 (Z0b Z13 (Z0b Z7x (Z0b (Z3e 24 Z5g) (Z3e 24 Z5g))))))
structure Z0x where
 Net:Net
 env:Env
 tables:(List spread_table)
 most:Int
 rays:(List Ray)
 deriving DecidableEq,Inhabited
def Y70:Kd Z0x:=Z0k (Z2 Z1v (Z2 Z1a (Z2 (Z1 Z2f) (Z2 (Z0 .i64) (Z1 Z0u))))) (fun x=>(x.Net,(x.env,(x.tables,(x.most,x.rays)))))
instance {E:TypeId}:Sh Y70 E:=⟨rfl⟩
structure spread_sun_o4 where
 Net:Net
 env:Env
 tables:(List spread_table)
 most:Int
 rays:Value
def Z1e:Kd spread_sun_o4:=Z0k (Z2 Z1v (Z2 Z1a (Z2 (Z1 Z2f) (Z2 (Z0 .i64) kraw)))) (fun x=>(x.Net,(x.env,(x.tables,(x.most,x.rays)))))
def lspread_sun_o4_0:Lens Z1e Z1v:=Lens.iso (k:=(Z2 Z1v (Z2 Z1a (Z2 (Z1 Z2f) (Z2 (Z0 .i64) kraw))))) (Lens.fst _ _) spread_sun_o4.Net (fun x y=>{x with Net:=y}) (fun _=>rfl) (fun _ _=>rfl)
def lspread_sun_o4_1:Lens Z1e Z1a:=Lens.iso (k:=(Z2 Z1v (Z2 Z1a (Z2 (Z1 Z2f) (Z2 (Z0 .i64) kraw))))) (Lens.comp (Lens.snd _ _) (Lens.fst _ _)) spread_sun_o4.env (fun x y=>{x with env:=y}) (fun _=>rfl) (fun _ _=>rfl)
def lspread_sun_o4_2:Lens Z1e (Z1 Z2f):=Lens.iso (k:=(Z2 Z1v (Z2 Z1a (Z2 (Z1 Z2f) (Z2 (Z0 .i64) kraw))))) (Lens.comp (Lens.comp (Lens.snd _ _) (Lens.snd _ _)) (Lens.fst _ _)) spread_sun_o4.tables (fun x y=>{x with tables:=y}) (fun _=>rfl) (fun _ _=>rfl)
def lspread_sun_o4_3:Lens Z1e (Z0 .i64):=Lens.iso (k:=(Z2 Z1v (Z2 Z1a (Z2 (Z1 Z2f) (Z2 (Z0 .i64) kraw))))) (Lens.comp (Lens.comp (Lens.comp (Lens.snd _ _) (Lens.snd _ _)) (Lens.snd _ _)) (Lens.fst _ _)) spread_sun_o4.most (fun x y=>{x with most:=y}) (fun _=>rfl) (fun _ _=>rfl)
def Z63:Lens Z1e kraw:=Lens.iso (k:=(Z2 Z1v (Z2 Z1a (Z2 (Z1 Z2f) (Z2 (Z0 .i64) kraw))))) (Lens.comp (Lens.comp (Lens.comp (Lens.snd _ _) (Lens.snd _ _)) (Lens.snd _ _)) (Lens.snd _ _)) spread_sun_o4.rays (fun x y=>{x with rays:=y}) (fun _=>rfl) (fun _ _=>rfl)
def Zwj:spread_sun_o4:=⟨Zsg,Z59,[],0,(.slice none 0 0)⟩
theorem Y9m:KZ Z1e Zwj (Y0t++(Zgj++([.slice none 0 0]++([.int .i64 0]++[.slice none 0 0])))):=Z1j (Z0b Y2d (Z0b Zf9 (Z0b (Z2m _) (Z0b Z13 (Za9 rfl)))))
structure isolate_goal where
 at_:Int
 port:Int
 deriving DecidableEq,Inhabited
def Z70:Kd isolate_goal:=Z0k (Z2 (Z0 .i64) (Z0 .i64)) (fun x=>(x.at_,x.port))
instance:PureK Z70:=inferInstanceAs (PureK (Z0k (Z2 (Z0 .i64) (Z0 .i64)) (fun (x:isolate_goal)=>(x.at_,x.port))))
instance {E:TypeId}:Sh Z70 E:=⟨rfl⟩
def lisolate_goal_0:Lens Z70 (Z0 .i64):=Lens.iso (k:=(Z2 (Z0 .i64) (Z0 .i64))) (Lens.fst _ _) isolate_goal.at_ (fun x y=>{x with at_:=y}) (fun _=>rfl) (fun _ _=>rfl)
def lisolate_goal_1:Lens Z70 (Z0 .i64):=Lens.iso (k:=(Z2 (Z0 .i64) (Z0 .i64))) (Lens.snd _ _) isolate_goal.port (fun x y=>{x with port:=y}) (fun _=>rfl) (fun _ _=>rfl)
def Zwb:isolate_goal:=⟨0,0⟩
def Y99:List Value:=([.int .i64 0]++[.int .i64 0])
theorem Yaj:KZ Z70 Zwb Y99:=Z1j (Z0b Z13 Z13)
structure Verdict where
 Equal:Bool
 Header:Z3i
 Env:Env
 deriving DecidableEq,Inhabited
def Z3k:Kd Verdict:=Z0k (Z2 Z3 (Z2 (Z4 24 Zw) Z1a)) (fun x=>(x.Equal,(x.Header,x.Env)))
instance {E:TypeId}:Sh Z3k E:=⟨rfl⟩
def lVerdict_0:Lens Z3k Z3:=Lens.iso (k:=(Z2 Z3 (Z2 (Z4 24 Zw) Z1a))) (Lens.fst _ _) Verdict.Equal (fun x y=>{x with Equal:=y}) (fun _=>rfl) (fun _ _=>rfl)
def lVerdict_1:Lens Z3k (Z4 24 Zw):=Lens.iso (k:=(Z2 Z3 (Z2 (Z4 24 Zw) Z1a))) (Lens.comp (Lens.snd _ _) (Lens.fst _ _)) Verdict.Header (fun x y=>{x with Header:=y}) (fun _=>rfl) (fun _ _=>rfl)
def lVerdict_2:Lens Z3k Z1a:=Lens.iso (k:=(Z2 Z3 (Z2 (Z4 24 Zw) Z1a))) (Lens.comp (Lens.snd _ _) (Lens.snd _ _)) Verdict.Env (fun x y=>{x with Env:=y}) (fun _=>rfl) (fun _ _=>rfl)
def Zbz:Verdict:=⟨false,(Vector.replicate 24 Z0r),Z59⟩
def Y8w:List Value:=([.bool false]++((List.replicate 24 Z8r).flatten++Zgj))
theorem Yo1:KZ Z3k Zbz Y8w:=Z1j (Z0b Z7x (Z0b (Z3e 24 Z7l) Zf9))
theorem Z5v:Zr Tryz.prog 71 kSwitch Z9c:=⟨_,Zp1,by kernel_rfl⟩
theorem Zy3:Z1d Tryz.prog 71=true:=by kernel_rfl
theorem Z27:Ty Tryz.prog 71 kSwitch:=⟨by kernel_rfl,by kernel_rfl⟩
theorem Z25:Sl Tryz.prog 68 135 Zp:=⟨by kernel_rfl,by kernel_rfl⟩
theorem Zg0:El Tryz.prog 68 135 Zp:=⟨by kernel_rfl,by kernel_rfl,by kernel_rfl,by kernel_rfl,by kernel_rfl⟩
theorem Z4j:Zr Tryz.prog 135 Zp Y2a:=⟨_,Ya0,by kernel_rfl⟩
theorem Z4t:Sl Tryz.prog 113 107 Z0e:=⟨by kernel_rfl,by kernel_rfl⟩
theorem Yh3:El Tryz.prog 113 107 Z0e:=⟨by kernel_rfl,by kernel_rfl,by kernel_rfl,by kernel_rfl,by kernel_rfl⟩
theorem Z9h:Zr Tryz.prog 107 Z0e Z3p:=⟨_,Zw7,by kernel_rfl⟩
theorem Z46:Sl Tryz.prog 116 115 Z0f:=⟨by kernel_rfl,by kernel_rfl⟩
theorem Ybm:El Tryz.prog 116 115 Z0f:=⟨by kernel_rfl,by kernel_rfl,by kernel_rfl,by kernel_rfl,by kernel_rfl⟩
theorem Z44:Zr Tryz.prog 115 Z0f Y07:=⟨_,Y8g,by kernel_rfl⟩
theorem Z17:Sl Tryz.prog 103 109 Zj:=⟨by kernel_rfl,by kernel_rfl⟩
theorem Zz0:El Tryz.prog 103 109 Zj:=⟨by kernel_rfl,by kernel_rfl,by kernel_rfl,by kernel_rfl,by kernel_rfl⟩
theorem Z48:Zr Tryz.prog 109 Zj Zrq:=⟨_,Y65,by kernel_rfl⟩
theorem Z4l:Fl Tryz.prog 115 4 lInst_4:=⟨by kernel_rfl,rfl⟩
theorem Z2x:Ty Tryz.prog 103 (Z1 Zj):=⟨by kernel_rfl,by kernel_rfl⟩
theorem Zpe:Fl Tryz.prog 118 0 lFlowMod_0:=⟨by kernel_rfl,rfl⟩
theorem Z1q:Ty Tryz.prog 26 Zx:=⟨by kernel_rfl,by kernel_rfl⟩
theorem Zrn:Fl Tryz.prog 118 6 lFlowMod_6:=⟨by kernel_rfl,rfl⟩
theorem Zc:Ty Tryz.prog 3 (Z0 .i64):=⟨by kernel_rfl,by kernel_rfl⟩
theorem Zri:Fl Tryz.prog 118 4 lFlowMod_4:=⟨by kernel_rfl,rfl⟩
theorem Zrz:Fl Tryz.prog 118 5 lFlowMod_5:=⟨by kernel_rfl,rfl⟩
theorem Zh1:Fl Tryz.prog 118 10 lFlowMod_10:=⟨by kernel_rfl,rfl⟩
theorem Zdx:Fl Tryz.prog 118 11 lFlowMod_11:=⟨by kernel_rfl,rfl⟩
theorem Z73:Ty Tryz.prog 113 (Z1 Z0e):=⟨by kernel_rfl,by kernel_rfl⟩
theorem Zd1:Fl Tryz.prog 118 12 lFlowMod_12:=⟨by kernel_rfl,rfl⟩
theorem Z4r:Ty Tryz.prog 116 (Z1 Z0f):=⟨by kernel_rfl,by kernel_rfl⟩
theorem Ycy:Z01 Tryz.prog 135 0=some (lFlow_0.off,Kd.sz Zx):=by kernel_rfl
theorem Yie:Z01 Tryz.prog 135 1=some (lFlow_1.off,Kd.sz (Z0 .i64)):=by kernel_rfl
theorem Ya6:Z01 Tryz.prog 135 2=some (lFlow_2.off,Kd.sz (Z0 .i64)):=by kernel_rfl
theorem Ymh:Z01 Tryz.prog 135 3=some (lFlow_3.off,Kd.sz (Z0 .i64)):=by kernel_rfl
theorem Yp0:Z01 Tryz.prog 135 4=some (lFlow_4.off,Kd.sz (Z0 .i64)):=by kernel_rfl
theorem Y7r:Z01 Tryz.prog 135 5=some (lFlow_5.off,Kd.sz (Z1 Z0e)):=by kernel_rfl
theorem Ym8:Z01 Tryz.prog 135 6=some (lFlow_6.off,Kd.sz (Z1 Z0f)):=by kernel_rfl
theorem Ymw:Z1d Tryz.prog 135=true:=by kernel_rfl
theorem Z19:Ty Tryz.prog 135 Zp:=⟨by kernel_rfl,by kernel_rfl⟩
theorem Z9l:Zr Tryz.prog 118 Z1b Zjm:=⟨_,Zqo,by kernel_rfl⟩
theorem Znl:Fl Tryz.prog 135 0 lFlow_0:=⟨by kernel_rfl,rfl⟩
theorem Z6t:Fl Tryz.prog 135 1 lFlow_1:=⟨by kernel_rfl,rfl⟩
theorem Zsi:Fl Tryz.prog 135 2 lFlow_2:=⟨by kernel_rfl,rfl⟩
theorem Zpp:Fl Tryz.prog 135 3 lFlow_3:=⟨by kernel_rfl,rfl⟩
theorem Zjw:Fl Tryz.prog 135 4 lFlow_4:=⟨by kernel_rfl,rfl⟩
theorem Zhk:Fl Tryz.prog 135 5 lFlow_5:=⟨by kernel_rfl,rfl⟩
theorem Z7q:Fl Tryz.prog 135 6 lFlow_6:=⟨by kernel_rfl,rfl⟩
theorem Y1a:Z01 Tryz.prog 118 0=some (lFlowMod_0.off,Kd.sz Zx):=by kernel_rfl
theorem Y4e:Z01 Tryz.prog 118 6=some (lFlowMod_6.off,Kd.sz (Z0 .i64)):=by kernel_rfl
theorem Zxl:Z01 Tryz.prog 118 4=some (lFlowMod_4.off,Kd.sz (Z0 .i64)):=by kernel_rfl
theorem Y0h:Z01 Tryz.prog 118 5=some (lFlowMod_5.off,Kd.sz (Z0 .i64)):=by kernel_rfl
theorem Y21:Z01 Tryz.prog 118 10=some (lFlowMod_10.off,Kd.sz (Z0 .i64)):=by kernel_rfl
theorem Zoa:Z01 Tryz.prog 118 11=some (lFlowMod_11.off,Kd.sz (Z1 Z0e)):=by kernel_rfl
theorem Zq9:Z01 Tryz.prog 118 12=some (lFlowMod_12.off,Kd.sz (Z1 Z0f)):=by kernel_rfl
theorem Zid:Z1d Tryz.prog 118=true:=by kernel_rfl
theorem Yhb:Z01 Tryz.prog 118 2=some (lFlowMod_2.off,Kd.sz (Z0 .i64)):=by kernel_rfl
theorem Ykv:Z01 Tryz.prog 118 3=some (lFlowMod_3.off,Kd.sz (Z0 .i64)):=by kernel_rfl
theorem Yfr:Z01 Tryz.prog 118 7=some (lFlowMod_7.off,Kd.sz (Z0 .i64)):=by kernel_rfl
theorem Y9w:Z01 Tryz.prog 118 8=some (lFlowMod_8.off,Kd.sz (Z0 .i64)):=by kernel_rfl
theorem Y8e:Z01 Tryz.prog 118 9=some (lFlowMod_9.off,Kd.sz (Z0 .i64)):=by kernel_rfl
theorem Z3f:Ty Tryz.prog 118 Z1b:=⟨by kernel_rfl,by kernel_rfl⟩
theorem Z1n:Sl Tryz.prog 63 83 Zt:=⟨by kernel_rfl,by kernel_rfl⟩
theorem Zn8:El Tryz.prog 63 83 Zt:=⟨by kernel_rfl,by kernel_rfl,by kernel_rfl,by kernel_rfl,by kernel_rfl⟩
theorem Z3a:Zr Tryz.prog 83 Zt Z8p:=⟨_,Zyn,by kernel_rfl⟩
theorem Z90:Fl Tryz.prog 83 0 lGroup_0:=⟨by kernel_rfl,rfl⟩
theorem Z1m:Ty Tryz.prog 83 Zt:=⟨by kernel_rfl,by kernel_rfl⟩
theorem Z2y:Sl Tryz.prog 81 105 Z16:=⟨by kernel_rfl,by kernel_rfl⟩
theorem Yas:El Tryz.prog 81 105 Z16:=⟨by kernel_rfl,by kernel_rfl,by kernel_rfl,by kernel_rfl,by kernel_rfl⟩
theorem Z8i:Zr Tryz.prog 105 Z16 Zzb:=⟨_,Yle,by kernel_rfl⟩
theorem Zc9:Fl Tryz.prog 105 3 lBucket_3:=⟨by kernel_rfl,rfl⟩
theorem Z4o:Fl Tryz.prog 83 2 lGroup_2:=⟨by kernel_rfl,rfl⟩
theorem Z3u:Ty Tryz.prog 81 (Z1 Z16):=⟨by kernel_rfl,by kernel_rfl⟩
theorem Zy9:Z1d Tryz.prog 83=true:=by kernel_rfl
theorem Z9s:Fl Tryz.prog 71 0 Z8c:=⟨by kernel_rfl,rfl⟩
theorem Y0r:Ty Tryz.prog 69 (Z4 4 (Z1 Zp)):=⟨by kernel_rfl,by kernel_rfl⟩
theorem Z77:Fl Tryz.prog 71 1 Z66:=⟨by kernel_rfl,rfl⟩
theorem Z3r:Ty Tryz.prog 63 (Z1 Zt):=⟨by kernel_rfl,by kernel_rfl⟩
theorem Zl5:Ty Tryz.prog 63 kraw:=⟨by kernel_rfl,by kernel_rfl⟩
theorem Zqg:Fl Tryz.prog 71 1 Zhf:=⟨by kernel_rfl,rfl⟩
theorem Za3:Ar Tryz.prog 69 68 4 (Z1 Zp):=⟨by kernel_rfl,by kernel_rfl⟩
theorem Z2n:Ty Tryz.prog 68 (Z1 Zp):=⟨by kernel_rfl,by kernel_rfl⟩
theorem Z76:Ty Tryz.prog 105 Z16:=⟨by kernel_rfl,by kernel_rfl⟩
theorem Y0z:Zr Tryz.prog 406 (Z4 24 Z1r) (Vector.replicate 24 Zga):=⟨_,(Z3e 24 Y0b),by kernel_rfl⟩
theorem Yii:Z01 Tryz.prog 364 1=some (lfield_row_1.off,Kd.sz (Z0 .i64)):=by kernel_rfl
theorem Z2t:Zr Tryz.prog 364 Z1r Zga:=⟨_,Y0b,by kernel_rfl⟩
theorem Zyf:Ty Tryz.prog 406 (Z4 24 Z1r):=⟨by kernel_rfl,by kernel_rfl⟩
theorem Ybb:Z1d Tryz.prog 364=true:=by kernel_rfl
theorem Zf2:Ty Tryz.prog 364 Z1r:=⟨by kernel_rfl,by kernel_rfl⟩
theorem Yk4:Ar Tryz.prog 406 364 24 Z1r:=⟨by kernel_rfl,by kernel_rfl⟩
theorem Ymy:Z8m Tryz.prog 364 3=some 4:=by kernel_rfl
theorem Ygb:Fl Tryz.prog 364 3 Z2q:=⟨by kernel_rfl,rfl⟩
theorem ty4:Ty Tryz.prog 4 Z3:=⟨by kernel_rfl,by kernel_rfl⟩
theorem Z5d:Fl Tryz.prog 28 0 lWide_0:=⟨by kernel_rfl,rfl⟩
theorem Z5t:Fl Tryz.prog 28 1 lWide_1:=⟨by kernel_rfl,rfl⟩
theorem Y0s:Z8m Tryz.prog 364 2=some 3:=by kernel_rfl
theorem Zxk:Fl Tryz.prog 364 2 Z2i:=⟨by kernel_rfl,rfl⟩
theorem Z39:Zr Tryz.prog 28 Zw Z0r:=⟨_,Z7l,by kernel_rfl⟩
theorem Zct:Z01 Tryz.prog 28 0=some (lWide_0.off,Kd.sz Zx):=by kernel_rfl
theorem Z7y:Z01 Tryz.prog 28 1=some (lWide_1.off,Kd.sz Zx):=by kernel_rfl
theorem Z5z:Z1d Tryz.prog 28=true:=by kernel_rfl
theorem Z06:Ty Tryz.prog 28 Zw:=⟨by kernel_rfl,by kernel_rfl⟩
theorem Z45:Fl Tryz.prog 107 0 lOxm_0:=⟨by kernel_rfl,rfl⟩
theorem Zbw:Fl Tryz.prog 107 2 lOxm_2:=⟨by kernel_rfl,rfl⟩
theorem Z9x:Fl Tryz.prog 107 1 Z91:=⟨by kernel_rfl,rfl⟩
theorem Zbm:Fl Tryz.prog 107 3 Zac:=⟨by kernel_rfl,rfl⟩
theorem Z3m:Ty Tryz.prog 107 Z0e:=⟨by kernel_rfl,by kernel_rfl⟩
theorem Z57:Fl Tryz.prog 109 0 lAction_0:=⟨by kernel_rfl,rfl⟩
theorem Zq5:Z01 Tryz.prog 109 0=some (lAction_0.off,Kd.sz (Z0 .i64)):=by kernel_rfl
theorem Zrw:Z1d Tryz.prog 109=true:=by kernel_rfl
theorem Z0v:Ty Tryz.prog 109 Zj:=⟨by kernel_rfl,by kernel_rfl⟩
theorem Z8k:Fl Tryz.prog 109 1 lAction_1:=⟨by kernel_rfl,rfl⟩
theorem Zao:Fl Tryz.prog 109 2 Z81:=⟨by kernel_rfl,rfl⟩
theorem Z9e:Fl Tryz.prog 109 3 lAction_3:=⟨by kernel_rfl,rfl⟩
theorem Zd5:Fl Tryz.prog 109 4 Zcj:=⟨by kernel_rfl,rfl⟩
theorem Z6r:Fl Tryz.prog 109 5 Z6g:=⟨by kernel_rfl,rfl⟩
theorem eqk3:EqK Tryz.prog 1 3 (Z0 .i64):=Yku (by kernel_rfl)
theorem eqk4:EqK Tryz.prog 1 4 Z3:=Y95 (by kernel_rfl)
theorem Y1x:EqK Tryz.prog 1 26 Zx:=Yfa (by kernel_rfl)
theorem Zae:EqK Tryz.prog 2 28 Zw:=Z9m (fun x y e=>by cases x;cases y;simp only [Prod.mk.injEq] at e;simp [e]) (l:=_) (by kernel_rfl) (by kernel_rfl) (Z5n Y1x Z1q (Zag Y1x Z1q))
theorem Yfx:EqK Tryz.prog 3 107 Z0e:=Z9m (fun x y e=>by cases x;cases y;simp only [Prod.mk.injEq] at e;simp [e]) (l:=_) (by kernel_rfl) (by kernel_rfl) (Z5n (eqk3.le (by decide)) Zc (Z5n (eqk4.le (by decide)) ty4 (Z5n Zae Z06 (Zag Zae Z06))))
theorem Y3u:EqK Tryz.prog 4 109 Zj:=Z9m (fun x y e=>by cases x;cases y;simp only [Prod.mk.injEq] at e;simp [e]) (l:=_) (by kernel_rfl) (by kernel_rfl) (Z5n (eqk3.le (by decide)) Zc (Z5n (eqk3.le (by decide)) Zc (Z5n (eqk3.le (by decide)) Zc (Z5n (eqk3.le (by decide)) Zc (Z5n (eqk3.le (by decide)) Zc (Zag Yfx Z3m))))))
theorem Zy1:Tryz.prog.eqGuardType Tryz.prog.depth 109=false:=by kernel_rfl
theorem Z4q:El Tryz.prog 125 5 (Z0 .u8):=⟨by kernel_rfl,by kernel_rfl,by kernel_rfl,by kernel_rfl,by kernel_rfl⟩
theorem Yf1:Zr Tryz.prog 231 (Z4 4 (Z0 .u8)) (Vector.replicate 4 0):=⟨_,(Z3e 4 (Ziw _ ⟨by decide,by decide⟩)),by kernel_rfl⟩
theorem Z3w:Sl Tryz.prog 125 5 (Z0 .u8):=⟨by kernel_rfl,by kernel_rfl⟩
theorem Zzg:Ar Tryz.prog 231 5 4 (Z0 .u8):=⟨by kernel_rfl,by kernel_rfl⟩
theorem us3:(Tryz.prog.underlying 3).isSome=true:=by kernel_rfl
theorem un5:Tryz.prog.underlying 5=some (.int .u8):=by kernel_rfl
theorem ty5:Ty Tryz.prog 5 (Z0 .u8):=⟨by kernel_rfl,by kernel_rfl⟩
theorem Yg2:Zr Tryz.prog 366 (Z4 16 (Z0 .u8)) (Vector.replicate 16 0):=⟨_,(Z3e 16 (Ziw _ ⟨by decide,by decide⟩)),by kernel_rfl⟩
theorem Zqb:Ar Tryz.prog 366 5 16 (Z0 .u8):=⟨by kernel_rfl,by kernel_rfl⟩
theorem Zus:(Tryz.prog.underlying 26).isSome=true:=by kernel_rfl
theorem Ya9:Z8m Tryz.prog 364 1=some 3:=by kernel_rfl
theorem Y8n:Fl Tryz.prog 364 1 lfield_row_1:=⟨by kernel_rfl,rfl⟩
theorem zr5:Zr Tryz.prog 5 (Z0 .u8) 0:=⟨_,(Ziw _ ⟨by decide,by decide⟩),by kernel_rfl⟩
theorem un3:Tryz.prog.underlying 3=some (.int .i64):=by kernel_rfl
theorem Zuw:Fl Tryz.prog 105 0 lBucket_0:=⟨by kernel_rfl,rfl⟩
theorem Zfm:Fl Tryz.prog 105 1 lBucket_1:=⟨by kernel_rfl,rfl⟩
theorem Zs8:Fl Tryz.prog 105 2 lBucket_2:=⟨by kernel_rfl,rfl⟩
theorem Zqw:Fl Tryz.prog 111 3 lGroupMod_3:=⟨by kernel_rfl,rfl⟩
theorem Z80:Fl Tryz.prog 111 0 Z7j:=⟨by kernel_rfl,rfl⟩
theorem Zpa:Fl Tryz.prog 111 1 lGroupMod_1:=⟨by kernel_rfl,rfl⟩
theorem Zhi:Fl Tryz.prog 111 2 lGroupMod_2:=⟨by kernel_rfl,rfl⟩
theorem Zc2:Z01 Tryz.prog 99 0=some (lFault_0.off,Kd.sz Z3):=by kernel_rfl
theorem Zce:Z01 Tryz.prog 99 1=some (lFault_1.off,Kd.sz (Z0 .i64)):=by kernel_rfl
theorem Zbu:Z01 Tryz.prog 99 2=some (lFault_2.off,Kd.sz (Z0 .i64)):=by kernel_rfl
theorem Z1t:Zr Tryz.prog 99 Z12 Z4g:=⟨_,Y1t,by kernel_rfl⟩
theorem Z41:Z1d Tryz.prog 99=true:=by kernel_rfl
theorem Y1r:Z01 Tryz.prog 218 0=some (lstate_refused_0.off,Kd.sz Z12):=by kernel_rfl
theorem Zts:Zr Tryz.prog 218 Z5i Zo3:=⟨_,Ycj,by kernel_rfl⟩
theorem Y08:Z1d Tryz.prog 218=true:=by kernel_rfl
theorem Zwd:Zcz Tryz.prog 218=true:=by kernel_rfl
theorem Z05:Ty Tryz.prog 99 Z12:=⟨by kernel_rfl,by kernel_rfl⟩
theorem Z15:Sl Tryz.prog 37 3 (Z0 .i64):=⟨by kernel_rfl,by kernel_rfl⟩
theorem zr3:Zr Tryz.prog 3 (Z0 .i64) 0:=⟨_,Z13,by kernel_rfl⟩
theorem Z74:El Tryz.prog 37 3 (Z0 .i64):=⟨by kernel_rfl,by kernel_rfl,by kernel_rfl,by kernel_rfl,by kernel_rfl⟩
theorem Y1e:Fl Tryz.prog 235 0 lgroup_walk_o1_0:=⟨by kernel_rfl,rfl⟩
theorem Zkc:Fl Tryz.prog 235 1 lgroup_walk_o1_1:=⟨by kernel_rfl,rfl⟩
theorem Zij:Ty Tryz.prog 233 kraw:=⟨by kernel_rfl,by kernel_rfl⟩
theorem Z9u:MTy Tryz.prog 233 3 (Z0 .i64):=⟨⟨3,by kernel_rfl,by kernel_rfl⟩,Y5y (by kernel_rfl)⟩
theorem Ya5:Z01 Tryz.prog 235 0=some (lgroup_walk_o1_0.off,Kd.sz (Z1 Zt)):=by kernel_rfl
theorem Y6z:Z01 Tryz.prog 235 1=some (lgroup_walk_o1_1.off,Kd.sz kraw):=by kernel_rfl
theorem Yl7:Zr Tryz.prog 235 Z5e Zz4:=⟨_,Yi2,by kernel_rfl⟩
theorem Y93:Z1d Tryz.prog 235=true:=by kernel_rfl
theorem Yoy:(Tryz.prog.underlying 233).isSome=true:=by kernel_rfl
theorem Zan:Fl Tryz.prog 99 0 lFault_0:=⟨by kernel_rfl,rfl⟩
theorem Ya7:Z01 Tryz.prog 83 0=some (lGroup_0.off,Kd.sz (Z0 .i64)):=by kernel_rfl
theorem Yhj:Z01 Tryz.prog 83 1=some (lGroup_1.off,Kd.sz (Z0 .i64)):=by kernel_rfl
theorem Yi0:Z01 Tryz.prog 83 2=some (lGroup_2.off,Kd.sz (Z1 Z16)):=by kernel_rfl
theorem Zla:Ty Tryz.prog 111 Z5m:=⟨by kernel_rfl,by kernel_rfl⟩
theorem Z2h:Ty Tryz.prog 115 Z0f:=⟨by kernel_rfl,by kernel_rfl⟩
theorem Z5w:Fl Tryz.prog 115 0 lInst_0:=⟨by kernel_rfl,rfl⟩
theorem Zap:Fl Tryz.prog 133 0 lstate_work_0:=⟨by kernel_rfl,rfl⟩
theorem Yf2:Zr Tryz.prog 63 (Z1 Zt) []:=⟨_,(Z2m _),by kernel_rfl⟩
theorem Y4g:Ty Tryz.prog 218 Z5i:=⟨by kernel_rfl,by kernel_rfl⟩
theorem Ydk:Zcz Tryz.prog 220=true:=by kernel_rfl
theorem Yfc:Fl Tryz.prog 218 0 lstate_refused_0:=⟨by kernel_rfl,rfl⟩
theorem Zv3:Z01 Tryz.prog 133 0=some (lstate_work_0.off,Kd.sz kSwitch):=by kernel_rfl
theorem Zsy:Zr Tryz.prog 133 Z2g Y1w:=⟨_,Ye1,by kernel_rfl⟩
theorem Zp5:Z1d Tryz.prog 133=true:=by kernel_rfl
theorem Z3v:Fl Tryz.prog 183 0 lflowmod_mod_0:=⟨by kernel_rfl,rfl⟩
theorem Z7e:Fl Tryz.prog 118 3 lFlowMod_3:=⟨by kernel_rfl,rfl⟩
theorem Zgk:Zr Tryz.prog 358 kNeed Zp0:=⟨_,Ykt,by kernel_rfl⟩
theorem Y6w:Z01 Tryz.prog 358 0=some (lNeed_o1_0.off,Kd.sz (Z0 .i64)):=by kernel_rfl
theorem Y1d:Zr Tryz.prog 358 kNeed_o1 Zw0:=⟨_,Yja,by kernel_rfl⟩
theorem Yox:Z1d Tryz.prog 358=true:=by kernel_rfl
theorem Y7h:Ty Tryz.prog 358 kNeed_o1:=⟨by kernel_rfl,by kernel_rfl⟩
theorem Z51:Sl Tryz.prog 404 26 Zx:=⟨by kernel_rfl,by kernel_rfl⟩
theorem Zav:Ty Tryz.prog 358 kNeed:=⟨by kernel_rfl,by kernel_rfl⟩
theorem Zxd:Fl Tryz.prog 358 1 Zoe:=⟨by kernel_rfl,rfl⟩
theorem Zxt:Ty Tryz.prog 356 kraw:=⟨by kernel_rfl,by kernel_rfl⟩
theorem Zk8:Sl Tryz.prog 356 28 Zw:=⟨by kernel_rfl,by kernel_rfl⟩
theorem Y9v:El Tryz.prog 356 28 Zw:=⟨by kernel_rfl,by kernel_rfl,by kernel_rfl,by kernel_rfl,by kernel_rfl⟩
theorem Zgl:Sl Tryz.prog 354 358 kNeed:=⟨by kernel_rfl,by kernel_rfl⟩
theorem Yaf:El Tryz.prog 354 358 kNeed:=⟨by kernel_rfl,by kernel_rfl,by kernel_rfl,by kernel_rfl,by kernel_rfl⟩
theorem Z6b:Zr Tryz.prog 26 Zx 0:=⟨_,Zak,by kernel_rfl⟩
theorem Zum:Tryz.prog.eqGuardType Tryz.prog.depth 28=false:=by kernel_rfl
theorem Ycr:Fl Tryz.prog 358 0 Y03:=⟨by kernel_rfl,rfl⟩
theorem Zx0:Fl Tryz.prog 358 1 Zup:=⟨by kernel_rfl,rfl⟩
theorem Y2p:Ty Tryz.prog 356 (Z1 Zw):=⟨by kernel_rfl,by kernel_rfl⟩
theorem Zwv:Z01 Tryz.prog 183 0=some (lflowmod_mod_0.off,Kd.sz Z1b):=by kernel_rfl
theorem Y2m:Zr Tryz.prog 183 Z33 Y3j:=⟨_,Yia,by kernel_rfl⟩
theorem Zz6:Z1d Tryz.prog 183=true:=by kernel_rfl
theorem Zfz:Zr Tryz.prog 184 (Z4 9 (Z0 .i64)) (Vector.replicate 9 0):=⟨_,(Z3e 9 Z13),by kernel_rfl⟩
theorem Zgx:Ty Tryz.prog 184 (Z4 9 (Z0 .i64)):=⟨by kernel_rfl,by kernel_rfl⟩
theorem Zf1:Fl Tryz.prog 118 2 lFlowMod_2:=⟨by kernel_rfl,rfl⟩
theorem Yn3:Fl Tryz.prog 118 7 lFlowMod_7:=⟨by kernel_rfl,rfl⟩
theorem Zxz:Fl Tryz.prog 118 8 lFlowMod_8:=⟨by kernel_rfl,rfl⟩
theorem Y3i:Fl Tryz.prog 118 9 lFlowMod_9:=⟨by kernel_rfl,rfl⟩
theorem Zoj:Z8m Tryz.prog 99 0=some 4:=by kernel_rfl
theorem Z8x:Fl Tryz.prog 115 2 Z7g:=⟨by kernel_rfl,rfl⟩
theorem Z8d:Fl Tryz.prog 115 3 Z7r:=⟨by kernel_rfl,rfl⟩
theorem Z5r:Fl Tryz.prog 115 1 Z5o:=⟨by kernel_rfl,rfl⟩
theorem Zza:Z01 Tryz.prog 115 0=some (lInst_0.off,Kd.sz (Z0 .i64)):=by kernel_rfl
theorem Zo1:Z1d Tryz.prog 115=true:=by kernel_rfl
theorem Y4j:Ar Tryz.prog 184 3 9 (Z0 .i64):=⟨by kernel_rfl,by kernel_rfl⟩
theorem Z22:Zr Tryz.prog 32 (Z4 24 Z7) (Vector.replicate 24 Z1h):=⟨_,(Z3e 24 Z5g),by kernel_rfl⟩
theorem Z09:Ty Tryz.prog 32 (Z4 24 Z7):=⟨by kernel_rfl,by kernel_rfl⟩
theorem Z2l:Zr Tryz.prog 30 Z7 Z1h:=⟨_,Z5g,by kernel_rfl⟩
theorem Z78:Z1d Tryz.prog 30=true:=by kernel_rfl
theorem Z0j:Ty Tryz.prog 30 Z7:=⟨by kernel_rfl,by kernel_rfl⟩
theorem Z8t:Z01 Tryz.prog 30 0=some (lTern_0.off,Kd.sz Zw):=by kernel_rfl
theorem Z8s:Z01 Tryz.prog 30 1=some (lTern_1.off,Kd.sz Zw):=by kernel_rfl
theorem Z3t:Ar Tryz.prog 32 30 24 Z7:=⟨by kernel_rfl,by kernel_rfl⟩
theorem Z42:Fl Tryz.prog 30 0 lTern_0:=⟨by kernel_rfl,rfl⟩
theorem Z3q:Fl Tryz.prog 30 1 lTern_1:=⟨by kernel_rfl,rfl⟩
theorem Zy0:Zr Tryz.prog 254 Z7u Y2w:=⟨_,Ymz,by kernel_rfl⟩
theorem Ybg:Z01 Tryz.prog 254 0=some (lflow_place_0.off,Kd.sz (Z0 .i64)):=by kernel_rfl
theorem Yfd:Z01 Tryz.prog 254 1=some (lflow_place_1.off,Kd.sz (Z4 24 Z7)):=by kernel_rfl
theorem Y6k:Z1d Tryz.prog 254=true:=by kernel_rfl
theorem Y2k:Ty Tryz.prog 254 Z7u:=⟨by kernel_rfl,by kernel_rfl⟩
theorem Yiz:EqK Tryz.prog 3 30 Z7:=Z9m (fun x y e=>by cases x;cases y;simp only [Prod.mk.injEq] at e;simp [e]) (l:=_) (by kernel_rfl) (by kernel_rfl) (Z5n Zae Z06 (Zag Zae Z06))
theorem Y15:EqK Tryz.prog 4 32 (Z4 24 Z7):=Yns Yiz Z0j Z3t
theorem Ym9:EqK Tryz.prog 5 254 Z7u:=Z9m (fun x y e=>by cases x;cases y;simp only [Prod.mk.injEq] at e;simp [e]) (l:=_) (by kernel_rfl) (by kernel_rfl) (Z5n (eqk3.le (by decide)) Zc (Zag Y15 Z09))
theorem Yng:Tryz.prog.eqGuardType Tryz.prog.depth 254=false:=by kernel_rfl
theorem Yof:Fl Tryz.prog 118 1 Zvs:=⟨by kernel_rfl,rfl⟩
theorem Zb8:Sl Tryz.prog 434 399 (Z2a Tryz.prog Zp Z3):=⟨by kernel_rfl,by kernel_rfl⟩
theorem Yls:Ty Tryz.prog 399 (Z2a Tryz.prog Zp Z3):=⟨by kernel_rfl,by kernel_rfl⟩
theorem Yhn:Ty Tryz.prog 434 (Z1 (Z2a Tryz.prog Zp Z3)):=⟨by kernel_rfl,by kernel_rfl⟩
theorem Zmg:Zr Tryz.prog 399 (Z2a Tryz.prog Zp Z3) (fun _=>none):=⟨_,(Yes _ _ _),by kernel_rfl⟩
theorem Yfo:Zr Tryz.prog 68 (Z1 Zp) []:=⟨_,(Z2m _),by kernel_rfl⟩
theorem Z9o:Fl Tryz.prog 296 0 ltable_change_0:=⟨by kernel_rfl,rfl⟩
theorem Zah:Fl Tryz.prog 296 1 ltable_change_1:=⟨by kernel_rfl,rfl⟩
theorem Y5n:Zr Tryz.prog 68 kraw (.slice none 0 0):=⟨_,Za9 rfl,by kernel_rfl⟩
theorem Zkm:Ty Tryz.prog 68 kraw:=⟨by kernel_rfl,by kernel_rfl⟩
theorem Zu2:Ty Tryz.prog 37 kraw:=⟨by kernel_rfl,by kernel_rfl⟩
theorem Y6e:Z8m Tryz.prog 135 6=some 116:=by kernel_rfl
theorem Yio:Z01 Tryz.prog 296 0=some (ltable_change_0.off,Kd.sz Z1b):=by kernel_rfl
theorem Ydz:Z01 Tryz.prog 296 1=some (ltable_change_1.off,Kd.sz (Z1 Zp)):=by kernel_rfl
theorem Yf6:Zr Tryz.prog 296 Z3g Y3e:=⟨_,Y7p,by kernel_rfl⟩
theorem Yk8:Z1d Tryz.prog 296=true:=by kernel_rfl
theorem Zpo:Zli Tryz.prog 139=true:=by kernel_rfl
theorem Zy7:Z01 Tryz.prog 105 0=some (lBucket_0.off,Kd.sz (Z0 .i64)):=by kernel_rfl
theorem Y2n:Z01 Tryz.prog 105 1=some (lBucket_1.off,Kd.sz (Z0 .i64)):=by kernel_rfl
theorem Y0f:Z01 Tryz.prog 105 2=some (lBucket_2.off,Kd.sz (Z0 .i64)):=by kernel_rfl
theorem Zz1:Z1d Tryz.prog 105=true:=by kernel_rfl
theorem Yfe:Z01 Tryz.prog 109 1=some (lAction_1.off,Kd.sz (Z0 .i64)):=by kernel_rfl
theorem Yc3:Z01 Tryz.prog 105 3=some (lBucket_3.off,Kd.sz (Z1 Zj)):=by kernel_rfl
theorem Y9z:Z01 Tryz.prog 111 2=some (lGroupMod_2.off,Kd.sz (Z0 .i64)):=by kernel_rfl
theorem Yg7:Z01 Tryz.prog 111 1=some (lGroupMod_1.off,Kd.sz (Z0 .i64)):=by kernel_rfl
theorem Yd8:Z01 Tryz.prog 111 3=some (lGroupMod_3.off,Kd.sz (Z1 Z16)):=by kernel_rfl
theorem Ygh:Zr Tryz.prog 111 Z5m Y47:=⟨_,Yep,by kernel_rfl⟩
theorem Ymx:Z1d Tryz.prog 111=true:=by kernel_rfl
theorem Zy2:Tryz.prog.underlying 26=some (.int .u64):=by kernel_rfl
theorem Yke:Z01 Tryz.prog 107 0=some (lOxm_0.off,Kd.sz (Z0 .i64)):=by kernel_rfl
theorem Yjp:Z01 Tryz.prog 107 2=some (lOxm_2.off,Kd.sz Zw):=by kernel_rfl
theorem Y4t:Z1d Tryz.prog 107=true:=by kernel_rfl
theorem Yh7:Z01 Tryz.prog 109 3=some (lAction_3.off,Kd.sz (Z0 .i64)):=by kernel_rfl
theorem Y7f:Z01 Tryz.prog 115 4=some (lInst_4.off,Kd.sz (Z1 Zj)):=by kernel_rfl
theorem Zoy:Zr Tryz.prog 48 Z1v Zsg:=⟨_,Y2d,by kernel_rfl⟩
theorem Z7v:Sl Tryz.prog 45 71 kSwitch:=⟨by kernel_rfl,by kernel_rfl⟩
theorem Y5h:Z01 Tryz.prog 74 0=some (lLink_0.off,Kd.sz (Z0 .i64)):=by kernel_rfl
theorem Y7z:Z01 Tryz.prog 74 1=some (lLink_1.off,Kd.sz (Z0 .i64)):=by kernel_rfl
theorem Ya3:Z01 Tryz.prog 74 2=some (lLink_2.off,Kd.sz (Z0 .i64)):=by kernel_rfl
theorem Ynx:Z01 Tryz.prog 74 3=some (lLink_3.off,Kd.sz (Z0 .i64)):=by kernel_rfl
theorem Zja:Zr Tryz.prog 74 Z31 Zme:=⟨_,Yaa,by kernel_rfl⟩
theorem Y96:Z1d Tryz.prog 74=true:=by kernel_rfl
theorem Z9t:Sl Tryz.prog 46 74 Z31:=⟨by kernel_rfl,by kernel_rfl⟩
theorem Yex:Z01 Tryz.prog 48 0=some (lNet_0.off,Kd.sz (Z1 kSwitch)):=by kernel_rfl
theorem Y46:Z01 Tryz.prog 48 1=some (lNet_1.off,Kd.sz (Z1 Z31)):=by kernel_rfl
theorem Y35:Z1d Tryz.prog 48=true:=by kernel_rfl
theorem Z61:Ty Tryz.prog 48 Z1v:=⟨by kernel_rfl,by kernel_rfl⟩
theorem Zh7:Fl Tryz.prog 48 0 lNet_0:=⟨by kernel_rfl,rfl⟩
theorem Zfp:Ty Tryz.prog 45 (Z1 kSwitch):=⟨by kernel_rfl,by kernel_rfl⟩
theorem Y0u:laidOutB Tryz.prog=true:=by kernel_rfl
theorem Zws:MTy Tryz.prog 119 122 Z6a:=⟨⟨3,by kernel_rfl,by kernel_rfl⟩,(Yjx (ti:=3) (f:=fun (x:links_plug)=>(x.at_,x.port)) (n:=468) (a:="at") (b:="port") (Go.Maps.Keyed.of_law (deep_law_laid Y0u (m:=2) (by omega) (Nat.lt_of_lt_of_eq (by decide:122<469) (by kernel_rfl)) (by kernel_rfl) (by kernel_rfl))) (by kernel_rfl) (by decide) (by decide) (by kernel_rfl) (by kernel_rfl) (by kernel_rfl) (by kernel_rfl) (by kernel_rfl) (fun x y e=>by cases x;cases y;simp at e;simp [e]))⟩
theorem Zkz:Fl Tryz.prog 48 1 lNet_1:=⟨by kernel_rfl,rfl⟩
theorem Zje:Ty Tryz.prog 46 (Z1 Z31):=⟨by kernel_rfl,by kernel_rfl⟩
theorem Zqs:Ty Tryz.prog 74 Z31:=⟨by kernel_rfl,by kernel_rfl⟩
theorem Zu5:Fl Tryz.prog 74 0 lLink_0:=⟨by kernel_rfl,rfl⟩
theorem Znq:Fl Tryz.prog 74 1 lLink_1:=⟨by kernel_rfl,rfl⟩
theorem Yei:Z01 Tryz.prog 122 0=some (llinks_plug_0.off,Kd.sz (Z0 .i64)):=by kernel_rfl
theorem Yju:Z01 Tryz.prog 122 1=some (llinks_plug_1.off,Kd.sz (Z0 .i64)):=by kernel_rfl
theorem Zz5:Zr Tryz.prog 122 Z6a Y2u:=⟨_,Ydx,by kernel_rfl⟩
theorem Yb1:Z1d Tryz.prog 122=true:=by kernel_rfl
theorem Zo2:Ty Tryz.prog 122 Z6a:=⟨by kernel_rfl,by kernel_rfl⟩
theorem Zop:Fl Tryz.prog 74 2 lLink_2:=⟨by kernel_rfl,rfl⟩
theorem Zzj:Fl Tryz.prog 74 3 lLink_3:=⟨by kernel_rfl,rfl⟩
theorem Zo8:Fl Tryz.prog 83 1 lGroup_1:=⟨by kernel_rfl,rfl⟩
theorem Ztm:Ty Tryz.prog 131 (Z6w Z2g):=⟨by kernel_rfl,by kernel_rfl⟩
theorem Ynn:Zr Tryz.prog 131 (Z6w Z2g) (none:Option state_work):=⟨_,(Yat _),by kernel_rfl⟩
theorem Y8b:Zr Tryz.prog 144 (Z4 7 Z3) (Vector.replicate 7 false):=⟨_,(Z3e 7 Z7x),by kernel_rfl⟩
theorem Ygd:Ty Tryz.prog 144 (Z4 7 Z3):=⟨by kernel_rfl,by kernel_rfl⟩
theorem Y1z:Ar Tryz.prog 144 4 7 Z3:=⟨by kernel_rfl,by kernel_rfl⟩
theorem Yjw:Z01 Tryz.prog 39 0=some (lEnv_0.off,Kd.sz (Z0 .i64)):=by kernel_rfl
theorem Yc9:Z01 Tryz.prog 39 1=some (lEnv_1.off,Kd.sz (Z1 (Z0 .i64))):=by kernel_rfl
theorem Y3l:Zr Tryz.prog 39 Z1a Z59:=⟨_,Zf9,by kernel_rfl⟩
theorem Ya2:Z1d Tryz.prog 39=true:=by kernel_rfl
theorem Z60:Zr Tryz.prog 52 (Z4 24 Z7) (Vector.replicate 24 Z1h):=⟨_,(Z3e 24 Z5g),by kernel_rfl⟩
theorem Z0s:Ty Tryz.prog 52 (Z4 24 Z7):=⟨by kernel_rfl,by kernel_rfl⟩
theorem Z86:Tryz.prog.underlying 307=some (.int .u64):=by kernel_rfl
theorem Z84:(Tryz.prog.underlying 307).isSome=true:=by kernel_rfl
theorem Z8n:Ar Tryz.prog 52 30 24 Z7:=⟨by kernel_rfl,by kernel_rfl⟩
theorem Zaz:Zr Tryz.prog 324 Z1o Zby:=⟨_,Yjc,by kernel_rfl⟩
theorem Zd6:Fl Tryz.prog 324 1 lwalk_way_1:=⟨by kernel_rfl,rfl⟩
theorem Zyu:Z1d Tryz.prog 324=true:=by kernel_rfl
theorem Z37:Ty Tryz.prog 324 Z1o:=⟨by kernel_rfl,by kernel_rfl⟩
theorem Zt0:Fl Tryz.prog 324 0 lwalk_way_0:=⟨by kernel_rfl,rfl⟩
theorem Ykr:Zr Tryz.prog 430 (Z4 2 Zx) (Vector.replicate 2 0):=⟨_,(Z3e 2 Zak),by kernel_rfl⟩
theorem Zsd:Ar Tryz.prog 430 26 2 Zx:=⟨by kernel_rfl,by kernel_rfl⟩
theorem Zl0:Fl Tryz.prog 387 0 latom_trace_o1_0:=⟨by kernel_rfl,rfl⟩
theorem Ylv:Z01 Tryz.prog 206 0=some (lAtom_0.off,Kd.sz (Z4 24 Z7)):=by kernel_rfl
theorem Z9p:Zr Tryz.prog 206 Z0p Y0l:=⟨_,Ydw,by kernel_rfl⟩
theorem Y88:Z1d Tryz.prog 206=true:=by kernel_rfl
theorem Zad:Ty Tryz.prog 206 Z0p:=⟨by kernel_rfl,by kernel_rfl⟩
theorem Zeo:Fl Tryz.prog 206 2 Zcf:=⟨by kernel_rfl,rfl⟩
theorem Zx1:Fl Tryz.prog 206 3 Zt5:=⟨by kernel_rfl,rfl⟩
theorem Y27:Fl Tryz.prog 206 1 Ztu:=⟨by kernel_rfl,rfl⟩
theorem Zv1:Fl Tryz.prog 387 1 Zf4:=⟨by kernel_rfl,rfl⟩
theorem Zq6:Ty Tryz.prog 162 kraw:=⟨by kernel_rfl,by kernel_rfl⟩
theorem Z67:Sl Tryz.prog 162 206 Z0p:=⟨by kernel_rfl,by kernel_rfl⟩
theorem Zcp:El Tryz.prog 162 206 Z0p:=⟨by kernel_rfl,by kernel_rfl,by kernel_rfl,by kernel_rfl,by kernel_rfl⟩
theorem Ydv:Z01 Tryz.prog 387 0=some (latom_trace_o1_0.off,Kd.sz (Z4 24 Z7)):=by kernel_rfl
theorem Yds:Zr Tryz.prog 387 Z4p Y2z:=⟨_,Yne,by kernel_rfl⟩
theorem Y66:Z1d Tryz.prog 387=true:=by kernel_rfl
theorem Zfd:Fl Tryz.prog 324 2 Zcy:=⟨by kernel_rfl,rfl⟩
theorem Z82:Ty Tryz.prog 162 (Z1 Z0p):=⟨by kernel_rfl,by kernel_rfl⟩
theorem Zec:Zr Tryz.prog 394 Z5l Zm1:=⟨_,Yhl,by kernel_rfl⟩
theorem Y0p:Z01 Tryz.prog 394 0=some (laset_spot_0.off,Kd.sz (Z0 .i64)):=by kernel_rfl
theorem Yg9:Z01 Tryz.prog 394 1=some (laset_spot_1.off,Kd.sz (Z0 .i64)):=by kernel_rfl
theorem Y3d:Z1d Tryz.prog 394=true:=by kernel_rfl
theorem Zax:Ty Tryz.prog 394 Z5l:=⟨by kernel_rfl,by kernel_rfl⟩
theorem Yna:EqK Tryz.prog 2 394 Z5l:=Z9m (fun x y e=>by cases x;cases y;simp only [Prod.mk.injEq] at e;simp [e]) (l:=_) (by kernel_rfl) (by kernel_rfl) (Z5n eqk3 Zc (Zag eqk3 Zc))
theorem Yhp:Tryz.prog.eqGuardType Tryz.prog.depth 394=false:=by kernel_rfl
theorem Y12:Fl Tryz.prog 394 0 laset_spot_0:=⟨by kernel_rfl,rfl⟩
theorem Zlt:Fl Tryz.prog 394 1 laset_spot_1:=⟨by kernel_rfl,rfl⟩
theorem zr4:Zr Tryz.prog 4 Z3 false:=⟨_,Z7x,by kernel_rfl⟩
theorem Zmq:Fl Tryz.prog 324 3 Zhe:=⟨by kernel_rfl,rfl⟩
theorem Z8e:Zr Tryz.prog 165 Z0n Y02:=⟨_,Ylm,by kernel_rfl⟩
theorem Ydl:Z01 Tryz.prog 165 0=some (lRule_0.off,Kd.sz (Z4 24 Z7)):=by kernel_rfl
theorem Yn7:Z01 Tryz.prog 165 1=some (lRule_1.off,Kd.sz (Z1 Z0p)):=by kernel_rfl
theorem Ybn:Z1d Tryz.prog 165=true:=by kernel_rfl
theorem Z7h:Ty Tryz.prog 165 Z0n:=⟨by kernel_rfl,by kernel_rfl⟩
theorem Y1s:Fl Tryz.prog 321 0 (Lens.fst kSwitch kraw):=⟨by kernel_rfl,rfl⟩
theorem Y3y (A:Zb):Fl Tryz.prog 321 0 (Zqz kSwitch A):=⟨Y1s.1,Y1s.2⟩
theorem Y05:Fl Tryz.prog 321 1 (Lens.snd kSwitch kraw):=⟨by kernel_rfl,rfl⟩
theorem Y37 (A:Zb):Fl Tryz.prog 321 1 (Zny kSwitch A):=⟨Y05.1,Y05.2⟩
theorem tyr318:Ty Tryz.prog 318 kraw:=⟨by kernel_rfl,by kernel_rfl⟩
theorem Y3w (A:Zb):Ty Tryz.prog 318 (kas A):=⟨tyr318.sz,tyr318.ag⟩
theorem Yel:Zr Tryz.prog 321 (Z2 kSwitch kraw) (Z9c,.nilFunc):=⟨_,Z0b Zp1 (Za9 rfl),by kernel_rfl⟩
theorem Ylk:Z01 Tryz.prog 324 0=some (lwalk_way_0.off,Kd.sz (Z4 24 Z7)):=by kernel_rfl
theorem Y9c:Z01 Tryz.prog 324 1=some (lwalk_way_1.off,Kd.sz (Z4 24 Z7)):=by kernel_rfl
theorem Z4f:Sl Tryz.prog 149 165 Z0n:=⟨by kernel_rfl,by kernel_rfl⟩
theorem Zo5:El Tryz.prog 149 165 Z0n:=⟨by kernel_rfl,by kernel_rfl,by kernel_rfl,by kernel_rfl,by kernel_rfl⟩
theorem Zqe:Ty Tryz.prog 149 kraw:=⟨by kernel_rfl,by kernel_rfl⟩
theorem Yh9:Fl Tryz.prog 312 1 lcover_purse_1:=⟨by kernel_rfl,rfl⟩
theorem Zod:Fl Tryz.prog 312 0 lcover_purse_0:=⟨by kernel_rfl,rfl⟩
theorem Z3b:Sl Tryz.prog 25 32 (Z4 24 Z7):=⟨by kernel_rfl,by kernel_rfl⟩
theorem Z6n:Zr Tryz.prog 36 (Z4 24 Zw) (Vector.replicate 24 Z0r):=⟨_,(Z3e 24 Z7l),by kernel_rfl⟩
theorem Z34:Ty Tryz.prog 36 (Z4 24 Zw):=⟨by kernel_rfl,by kernel_rfl⟩
theorem Y7d:Z8m Tryz.prog 30 0=some 28:=by kernel_rfl
theorem Zww:Ar Tryz.prog 36 28 24 Zw:=⟨by kernel_rfl,by kernel_rfl⟩
theorem tyr310:Ty Tryz.prog 310 kraw:=⟨by kernel_rfl,by kernel_rfl⟩
theorem Zxo (A:Zb):Ty Tryz.prog 310 (kas A):=⟨tyr310.sz,tyr310.ag⟩
theorem Ygs:Fl Tryz.prog 314 0 lcover_look_0:=⟨by kernel_rfl,rfl⟩
theorem Zm7:Ty Tryz.prog 25 (Z1 (Z4 24 Z7)):=⟨by kernel_rfl,by kernel_rfl⟩
theorem Ygw:Z01 Tryz.prog 312 0=some (lcover_purse_0.off,Kd.sz (Z0 .i64)):=by kernel_rfl
theorem Yi3:Z01 Tryz.prog 312 1=some (lcover_purse_1.off,Kd.sz Z3):=by kernel_rfl
theorem Yk0:Zr Tryz.prog 312 Z54 Zou:=⟨_,Y3m,by kernel_rfl⟩
theorem Yj0:Z1d Tryz.prog 312=true:=by kernel_rfl
theorem Ylb:Z01 Tryz.prog 314 0=some (lcover_look_0.off,Kd.sz Z54):=by kernel_rfl
theorem Y5r:Zr Tryz.prog 314 Z20 Y0k:=⟨_,Y91,by kernel_rfl⟩
theorem Yjo:Z1d Tryz.prog 314=true:=by kernel_rfl
theorem Zuy:Fl Tryz.prog 165 1 lRule_1:=⟨by kernel_rfl,rfl⟩
theorem Zn7:Fl Tryz.prog 165 0 lRule_0:=⟨by kernel_rfl,rfl⟩
theorem Zjo:El Tryz.prog 25 32 (Z4 24 Z7):=⟨by kernel_rfl,by kernel_rfl,by kernel_rfl,by kernel_rfl,by kernel_rfl⟩
theorem Zig:Zr Tryz.prog 151 Z4d Zu7:=⟨_,Y23,by kernel_rfl⟩
theorem Zzl:Z1d Tryz.prog 151=true:=by kernel_rfl
theorem Z88:Ty Tryz.prog 151 Z4d:=⟨by kernel_rfl,by kernel_rfl⟩
theorem Yf7:Z01 Tryz.prog 151 0=some (lFlat_0.off,Kd.sz (Z1 Z0n)):=by kernel_rfl
theorem Ynu:Z01 Tryz.prog 151 1=some (lFlat_1.off,Kd.sz (Z1 Zt)):=by kernel_rfl
theorem Zbf:Fl Tryz.prog 267 0 lslice_heap_o0_0:=⟨by kernel_rfl,rfl⟩
theorem Zbb:Ty Tryz.prog 25 kraw:=⟨by kernel_rfl,by kernel_rfl⟩
theorem Ydt:Fl Tryz.prog 267 1 lslice_heap_o0_1:=⟨by kernel_rfl,rfl⟩
theorem tyr265:Ty Tryz.prog 265 kraw:=⟨by kernel_rfl,by kernel_rfl⟩
theorem Zfs (A:Zb):Ty Tryz.prog 265 (kas A):=⟨tyr265.sz,tyr265.ag⟩
theorem Zha:Fl Tryz.prog 151 0 lFlat_0:=⟨by kernel_rfl,rfl⟩
theorem Ze4:Ty Tryz.prog 149 (Z1 Z0n):=⟨by kernel_rfl,by kernel_rfl⟩
theorem Y7n:Z01 Tryz.prog 267 0=some (lslice_heap_o0_0.off,Kd.sz kraw):=by kernel_rfl
theorem Y7a:Z01 Tryz.prog 267 1=some (lslice_heap_o0_1.off,Kd.sz (Z0 .i64)):=by kernel_rfl
theorem Yhv:Zr Tryz.prog 267 Z1x Zxe:=⟨_,Yip,by kernel_rfl⟩
theorem Yc1:Z1d Tryz.prog 267=true:=by kernel_rfl
theorem Zso:Sl Tryz.prog 154 25 (Z1 (Z4 24 Z7)):=⟨by kernel_rfl,by kernel_rfl⟩
theorem Y59:Zr Tryz.prog 25 (Z1 (Z4 24 Z7)) []:=⟨_,(Z2m _),by kernel_rfl⟩
theorem Ybk:El Tryz.prog 154 25 (Z1 (Z4 24 Z7)):=⟨by kernel_rfl,by kernel_rfl,by kernel_rfl,by kernel_rfl,by kernel_rfl⟩
theorem Yj7:Z01 Tryz.prog 158 0=some (lspread_table_0.off,Kd.sz Z4d):=by kernel_rfl
theorem Ya8:Z01 Tryz.prog 158 1=some (lspread_table_1.off,Kd.sz (Z1 (Z1 (Z4 24 Z7)))):=by kernel_rfl
theorem Zsf:Zr Tryz.prog 158 Z2f Zvy:=⟨_,Yah,by kernel_rfl⟩
theorem Yac:Z1d Tryz.prog 158=true:=by kernel_rfl
theorem Zwf:Sl Tryz.prog 86 158 Z2f:=⟨by kernel_rfl,by kernel_rfl⟩
theorem Y84:El Tryz.prog 86 158 Z2f:=⟨by kernel_rfl,by kernel_rfl,by kernel_rfl,by kernel_rfl,by kernel_rfl⟩
theorem Za1:Zr Tryz.prog 96 Z2u Y2o:=⟨_,Yik,by kernel_rfl⟩
theorem Zay:Fl Tryz.prog 96 1 lspread_beam_1:=⟨by kernel_rfl,rfl⟩
theorem Zti:Z1d Tryz.prog 96=true:=by kernel_rfl
theorem Z5b:Ty Tryz.prog 96 Z2u:=⟨by kernel_rfl,by kernel_rfl⟩
theorem Zex:Fl Tryz.prog 96 0 lspread_beam_0:=⟨by kernel_rfl,rfl⟩
theorem Zvv:Fl Tryz.prog 39 0 lEnv_0:=⟨by kernel_rfl,rfl⟩
theorem Yl9:Fl Tryz.prog 39 1 lEnv_1:=⟨by kernel_rfl,rfl⟩
theorem Yf3:Ty Tryz.prog 37 (Z1 (Z0 .i64)):=⟨by kernel_rfl,by kernel_rfl⟩
theorem Y0e:Fl Tryz.prog 382 0 lenv_world_0:=⟨by kernel_rfl,rfl⟩
theorem Z6q:Ty Tryz.prog 39 Z1a:=⟨by kernel_rfl,by kernel_rfl⟩
theorem Zgp:Fl Tryz.prog 382 1 lenv_world_1:=⟨by kernel_rfl,rfl⟩
theorem Y6l:Z01 Tryz.prog 382 0=some (lenv_world_0.off,Kd.sz Z1a):=by kernel_rfl
theorem Ydy:Z01 Tryz.prog 382 1=some (lenv_world_1.off,Kd.sz Zt):=by kernel_rfl
theorem Y2s:Zr Tryz.prog 382 Z7f Zzy:=⟨_,Yha,by kernel_rfl⟩
theorem Ygm:Z1d Tryz.prog 382=true:=by kernel_rfl
theorem Zwr:Ty Tryz.prog 382 Z7f:=⟨by kernel_rfl,by kernel_rfl⟩
theorem Y29:Ty Tryz.prog 213 Z3l:=⟨by kernel_rfl,by kernel_rfl⟩
theorem Zir:Fl Tryz.prog 206 0 lAtom_0:=⟨by kernel_rfl,rfl⟩
theorem Ybe:Fl Tryz.prog 213 1 lnorm_world_1:=⟨by kernel_rfl,rfl⟩
theorem Zs2:Fl Tryz.prog 213 2 Znm:=⟨by kernel_rfl,rfl⟩
theorem Yak:Fl Tryz.prog 213 0 lnorm_world_0:=⟨by kernel_rfl,rfl⟩
theorem Ydc:Z01 Tryz.prog 213 0=some (lnorm_world_0.off,Kd.sz Z1a):=by kernel_rfl
theorem Yek:Z01 Tryz.prog 213 1=some (lnorm_world_1.off,Kd.sz (Z1 Zt)):=by kernel_rfl
theorem Y5z:Zr Tryz.prog 213 Z3l Y4l:=⟨_,Ykd,by kernel_rfl⟩
theorem Yb6:Z1d Tryz.prog 213=true:=by kernel_rfl
theorem Zyt:Z01 Tryz.prog 96 0=some (lspread_beam_0.off,Kd.sz (Z4 24 Z7)):=by kernel_rfl
theorem Y2i:Z01 Tryz.prog 96 1=some (lspread_beam_1.off,Kd.sz (Z4 24 Z7)):=by kernel_rfl
theorem Z9b:Fl Tryz.prog 91 4 Z63:=⟨by kernel_rfl,rfl⟩
theorem Z93:Ty Tryz.prog 22 kraw:=⟨by kernel_rfl,by kernel_rfl⟩
theorem Y4k:Z01 Tryz.prog 54 0=some (lRay_0.off,Kd.sz (Z0 .i64)):=by kernel_rfl
theorem Y33:Z01 Tryz.prog 54 4=some (lRay_4.off,Kd.sz (Z4 24 Z7)):=by kernel_rfl
theorem Zvt:Z01 Tryz.prog 54 5=some (lRay_5.off,Kd.sz (Z4 24 Z7)):=by kernel_rfl
theorem Zd8:Zr Tryz.prog 54 Z0u Zxw:=⟨_,Y82,by kernel_rfl⟩
theorem Zzm:Z1d Tryz.prog 54=true:=by kernel_rfl
theorem Z5h:Sl Tryz.prog 22 54 Z0u:=⟨by kernel_rfl,by kernel_rfl⟩
theorem Zz8:El Tryz.prog 22 54 Z0u:=⟨by kernel_rfl,by kernel_rfl,by kernel_rfl,by kernel_rfl,by kernel_rfl⟩
theorem Ymd:Fl Tryz.prog 91 2 lspread_sun_o4_2:=⟨by kernel_rfl,rfl⟩
theorem Yme:Ty Tryz.prog 86 (Z1 Z2f):=⟨by kernel_rfl,by kernel_rfl⟩
theorem Y38:Ty Tryz.prog 158 Z2f:=⟨by kernel_rfl,by kernel_rfl⟩
theorem Yd4:Fl Tryz.prog 158 1 lspread_table_1:=⟨by kernel_rfl,rfl⟩
theorem Yoz:Ty Tryz.prog 154 (Z1 (Z1 (Z4 24 Z7))):=⟨by kernel_rfl,by kernel_rfl⟩
theorem Zwg:Fl Tryz.prog 91 3 lspread_sun_o4_3:=⟨by kernel_rfl,rfl⟩
theorem Y13:Fl Tryz.prog 158 0 lspread_table_0:=⟨by kernel_rfl,rfl⟩
theorem Ygn:Fl Tryz.prog 151 1 lFlat_1:=⟨by kernel_rfl,rfl⟩
theorem Yjb:Fl Tryz.prog 91 1 lspread_sun_o4_1:=⟨by kernel_rfl,rfl⟩
theorem Yn5:Fl Tryz.prog 91 0 lspread_sun_o4_0:=⟨by kernel_rfl,rfl⟩
theorem Yge:Z01 Tryz.prog 54 1=some (lRay_1.off,Kd.sz (Z0 .i64)):=by kernel_rfl
theorem Yhf:Z01 Tryz.prog 54 2=some (lRay_2.off,Kd.sz (Z0 .i64)):=by kernel_rfl
theorem Ycx:Z01 Tryz.prog 54 3=some (lRay_3.off,Kd.sz Z3):=by kernel_rfl
theorem Yl6:Z01 Tryz.prog 91 0=some (lspread_sun_o4_0.off,Kd.sz Z1v):=by kernel_rfl
theorem Y69:Z01 Tryz.prog 91 1=some (lspread_sun_o4_1.off,Kd.sz Z1a):=by kernel_rfl
theorem Y7u:Z01 Tryz.prog 91 2=some (lspread_sun_o4_2.off,Kd.sz (Z1 Z2f)):=by kernel_rfl
theorem Y7y:Z01 Tryz.prog 91 3=some (lspread_sun_o4_3.off,Kd.sz (Z0 .i64)):=by kernel_rfl
theorem Yli:Zr Tryz.prog 91 Z1e Zwj:=⟨_,Y9m,by kernel_rfl⟩
theorem Yk2:Z1d Tryz.prog 91=true:=by kernel_rfl
theorem Zz2:Fl Tryz.prog 54 3 lRay_3:=⟨by kernel_rfl,rfl⟩
theorem Y1u:Fl Tryz.prog 54 0 lRay_0:=⟨by kernel_rfl,rfl⟩
theorem Zw3:Fl Tryz.prog 54 1 lRay_1:=⟨by kernel_rfl,rfl⟩
theorem Y3v:Z01 Tryz.prog 57 0=some (lisolate_goal_0.off,Kd.sz (Z0 .i64)):=by kernel_rfl
theorem Zwe:Z01 Tryz.prog 57 1=some (lisolate_goal_1.off,Kd.sz (Z0 .i64)):=by kernel_rfl
theorem Y16:Zr Tryz.prog 57 Z70 Zwb:=⟨_,Yaj,by kernel_rfl⟩
theorem Zyp:Z1d Tryz.prog 57=true:=by kernel_rfl
theorem Yix:Ty Tryz.prog 57 Z70:=⟨by kernel_rfl,by kernel_rfl⟩
theorem Yj5:EqK Tryz.prog 2 57 Z70:=Z9m (fun x y e=>by cases x;cases y;simp only [Prod.mk.injEq] at e;simp [e]) (l:=_) (by kernel_rfl) (by kernel_rfl) (Z5n eqk3 Zc (Zag eqk3 Zc))
theorem Yld:Tryz.prog.eqGuardType Tryz.prog.depth 57=false:=by kernel_rfl
theorem Zkv:Ty Tryz.prog 54 Z0u:=⟨by kernel_rfl,by kernel_rfl⟩
theorem Zvq:Fl Tryz.prog 54 4 lRay_4:=⟨by kernel_rfl,rfl⟩
theorem Z94:Zr Tryz.prog 41 Z3k Zbz:=⟨_,Yo1,by kernel_rfl⟩
theorem Yda:Zr Tryz.prog 42 (Z0 .i64) 0:=⟨_,Z13,by kernel_rfl⟩
theorem Zjk:Z1d Tryz.prog 41=true:=by kernel_rfl
theorem Z6p:Ty Tryz.prog 41 Z3k:=⟨by kernel_rfl,by kernel_rfl⟩
theorem Za4:Ty Tryz.prog 42 (Z0 .i64):=⟨by kernel_rfl,by kernel_rfl⟩
theorem Y6p:Z01 Tryz.prog 41 1=some (lVerdict_1.off,Kd.sz (Z4 24 Zw)):=by kernel_rfl
theorem Yoh:Z01 Tryz.prog 41 2=some (lVerdict_2.off,Kd.sz Z1a):=by kernel_rfl
theorem Ycg:Z01 Tryz.prog 41 0=some (lVerdict_0.off,Kd.sz Z3):=by kernel_rfl
theorem Yck:El Tryz.prog 46 74 Z31:=⟨by kernel_rfl,by kernel_rfl,by kernel_rfl,by kernel_rfl,by kernel_rfl⟩
theorem Zyy:Fl Tryz.prog 41 0 lVerdict_0:=⟨by kernel_rfl,rfl⟩
theorem Y6b:Fl Tryz.prog 41 1 lVerdict_1:=⟨by kernel_rfl,rfl⟩
theorem Yhd:Fl Tryz.prog 41 2 lVerdict_2:=⟨by kernel_rfl,rfl⟩
theorem Y7v:Tryz.prog.eqGuardType Tryz.prog.depth 32=false:=by kernel_rfl
theorem Z03:Tryz.prog.follows .mixedOrders=true:=by kernel_rfl
end Go.Proofs.YtjppkmpecdbepaaGreatDoor.W
set_option maxHeartbeats 1000000
set_option maxRecDepth 4000
namespace Go.Proofs.YtjppkmpecdbepaaGreatDoor.W
open Go Go.Wb
theorem Y7g:Ent Tryz.prog 187:=Ent.mk Tryz.func187 rfl rfl
theorem Zfo:Ent Tryz.prog 142:=Ent.mk Tryz.func142 rfl rfl
theorem Y9x:Ent Tryz.prog 134:=Ent.mk Tryz.func134 rfl rfl
theorem Yg3:Ent Tryz.prog 135:=Ent.mk Tryz.func135 rfl rfl
theorem e82:Ent Tryz.prog 82:=Ent.mk Tryz.func82 rfl rfl
def Zog:Option Switch:=
 some (⟨(Vector.replicate 4 []),[]⟩:Switch)
theorem Y79:Q0 Tryz.prog 35 (rd kSwitch) Zog:=fun r h=>I0 Tryz.func35 rfl Tryz.ntmps35 rfl fun w H Z=>by
 unfold Zog at h
 refine SR<|Cv rfl (Zo 1 rfl rfl Z5v) fun g1=>Nl<|SR<|Ac (opb (⟨(Vector.replicate 4 []),[]⟩:Switch) Z5v rfl Zy3 (pn rfl)) rfl<|Ze Z27 1 rfl<|Nl<|rt ?_
 cases h;exact Z9 Tryz.results35 rfl (Zv rfl (i:=1) rfl Z27)
def Zp9 (s:List Flow):Option (List Flow):=Z11 [] s
theorem Yfp (s:List Flow)(r:List Flow)(h:Zp9 s=some r):Con Tryz.prog 106 [rd (Z1 Zp) s] emp (fun v=>Zg v) (fun v=>Zi v 135 Zp r):=by
 refine Con.intro0 Tryz.func106 rfl Tryz.ntmps106 rfl fun w H Z=>?_
 unfold Zp9 at h
 refine AW.newnil 1001 135 Zp<|SR<|Ac (Zn (A:=Zg (.slice none 0 0)) rfl rfl vc) rfl<|Nl<|sq<|SR<|Md rfl<|Ct rfl (Z96 rfl rfl Z25 (vt rfl)) ?_
 rintro _ ⟨b,hb,rfl⟩
 refine Nl<|Cn rfl (fun hc=>?_) (fun hc=>?_)
 ·obtain rfl:=hb hc
  refine SR<|Ac (Zn (A:=Zg (.slice none 0 0)) rfl rfl vc) rfl<|Nl<|rt ?_
  obtain rfl:=(Z5y h).2
  exact Z29 (i:=1001) Tryz.results106 rfl rfl rfl
 ·refine sk<|SR<|Cv rfl (Z65 1002 (ps:=[]) (l:=[]) rfl rfl Z25 Z4j rfl rfl rfl rfl) fun v1=>Md rfl<|Cv rfl (Z1f 1002 h rfl rfl Zg0 (vt rfl) rfl (vt rfl)) fun v2=>Aw rfl<|Nl<|rt ?_
  exact Z29 (i:=1002) Tryz.results106 rfl rfl rfl
def Zlz (s:List Oxm):Option (List Oxm):=Z11 [] s
theorem Ynv (s:List Oxm)(r:List Oxm)(h:Zlz s=some r):Con Tryz.prog 134 [rd (Z1 Z0e) s] emp (fun v=>Zg v) (fun v=>Zi v 107 Z0e r):=by
 refine Con.intro0 Tryz.func134 rfl Tryz.ntmps134 rfl fun w H Z=>?_
 unfold Zlz at h
 refine AW.newnil 1001 107 Z0e<|SR<|Ac (Zn (A:=Zg (.slice none 0 0)) rfl rfl vc) rfl<|Nl<|sq<|SR<|Md rfl<|Ct rfl (Z96 rfl rfl Z4t (vt rfl)) ?_
 rintro _ ⟨b,hb,rfl⟩
 refine Nl<|Cn rfl (fun hc=>?_) (fun hc=>?_)
 ·obtain rfl:=hb hc
  refine SR<|Ac (Zn (A:=Zg (.slice none 0 0)) rfl rfl vc) rfl<|Nl<|rt ?_
  obtain rfl:=(Z5y h).2
  exact Z29 (i:=1001) Tryz.results134 rfl rfl rfl
 ·refine sk<|SR<|Cv rfl (Z65 1002 (ps:=[]) (l:=[]) rfl rfl Z4t Z9h rfl rfl rfl rfl) fun v1=>Md rfl<|Cv rfl (Z1f 1002 h rfl rfl Yh3 (vt rfl) rfl (vt rfl)) fun v2=>Aw rfl<|Nl<|rt ?_
  exact Z29 (i:=1002) Tryz.results134 rfl rfl rfl
theorem Yam (s:List Oxm)(r:List Oxm)(h:Zlz s=some r):PCon Tryz.prog 134 [rd (Z1 Z0e) s] (rd (Z1 Z0e) r):=PCon.of_row (Ynv s r h)
def Zrp (s:List Inst):Option (List Inst):=Z11 [] s
theorem Yjv (s:List Inst)(r:List Inst)(h:Zrp s=some r):Con Tryz.prog 187 [rd (Z1 Z0f) s] emp (fun v=>Zg v) (fun v=>Zi v 115 Z0f r):=by
 refine Con.intro0 Tryz.func187 rfl Tryz.ntmps187 rfl fun w H Z=>?_
 unfold Zrp at h
 refine AW.newnil 1001 115 Z0f<|SR<|Ac (Zn (A:=Zg (.slice none 0 0)) rfl rfl vc) rfl<|Nl<|sq<|SR<|Md rfl<|Ct rfl (Z96 rfl rfl Z46 (vt rfl)) ?_
 rintro _ ⟨b,hb,rfl⟩
 refine Nl<|Cn rfl (fun hc=>?_) (fun hc=>?_)
 ·obtain rfl:=hb hc
  refine SR<|Ac (Zn (A:=Zg (.slice none 0 0)) rfl rfl vc) rfl<|Nl<|rt ?_
  obtain rfl:=(Z5y h).2
  exact Z29 (i:=1001) Tryz.results187 rfl rfl rfl
 ·refine sk<|SR<|Cv rfl (Z65 1002 (ps:=[]) (l:=[]) rfl rfl Z46 Z44 rfl rfl rfl rfl) fun v1=>Md rfl<|Cv rfl (Z1f 1002 h rfl rfl Ybm (vt rfl) rfl (vt rfl)) fun v2=>Aw rfl<|Nl<|rt ?_
  exact Z29 (i:=1002) Tryz.results187 rfl rfl rfl
def Z8z (s:List Action):Option (List Action):=Z11 [] s
theorem Zrg (s:List Action)(r:List Action)(h:Z8z s=some r):Con Tryz.prog 142 [rd (Z1 Zj) s] emp (fun v=>Zg v) (fun v=>Zi v 109 Zj r):=by
 refine Con.intro0 Tryz.func142 rfl Tryz.ntmps142 rfl fun w H Z=>?_
 unfold Z8z at h
 refine AW.newnil 1001 109 Zj<|SR<|Ac (Zn (A:=Zg (.slice none 0 0)) rfl rfl vc) rfl<|Nl<|sq<|SR<|Md rfl<|Ct rfl (Z96 rfl rfl Z17 (vt rfl)) ?_
 rintro _ ⟨b,hb,rfl⟩
 refine Nl<|Cn rfl (fun hc=>?_) (fun hc=>?_)
 ·obtain rfl:=hb hc
  refine SR<|Ac (Zn (A:=Zg (.slice none 0 0)) rfl rfl vc) rfl<|Nl<|rt ?_
  obtain rfl:=(Z5y h).2
  exact Z29 (i:=1001) Tryz.results142 rfl rfl rfl
 ·refine sk<|SR<|Cv rfl (Z65 1002 (ps:=[]) (l:=[]) rfl rfl Z17 Z48 rfl rfl rfl rfl) fun v1=>Md rfl<|Cv rfl (Z1f 1002 h rfl rfl Zz0 (vt rfl) rfl (vt rfl)) fun v2=>Aw rfl<|Nl<|rt ?_
  exact Z29 (i:=1002) Tryz.results142 rfl rfl rfl
theorem Zss (s:List Action)(r:List Action)(h:Z8z s=some r):PCon Tryz.prog 142 [rd (Z1 Zj) s] (rd (Z1 Zj) r):=PCon.of_row (Zrg s r h)
def Zf8:Nat→Nat→(List Inst)→Option (List Inst)
 | 0,i6,l5=>some l5
 | m7+1,i6,l5=>(lget l5 (i6:Int)).bind fun x8=>(Z8z x8.Acts).bind fun x9=>(lget l5 (i6:Int)).bind fun x10=>(Zf8 m7) (i6+1) (List.set l5 (i6:Int).toNat {x10 with Acts:=x9})
def Zs0 (l1:(List Inst)):Option (List Inst):=
 (Zrp l1).bind fun x2=>Zf8 ((x2.length:Int):Int).toNat 0 x2
theorem Ye8:Q1 Tryz.prog 135 (rd (Z1 Z0f)) (rd (Z1 Z0f)) Zs0:=fun l1 r h=>I0 Tryz.func135 rfl Tryz.ntmps135 rfl fun w H Z=>by
 unfold Zs0 at h
 refine SR<|Ac (Zn (A:=rd (Z1 Z0f) []) rfl rfl Z04) rfl<|Nl<|sq ?_
 obtain ⟨x2,hx2,h⟩:=Z6 h
 refine Rg<|Md rfl<|Cv rfl (Z0y 1001 (xs:=[.tmp 5]) (Yjv _ _ hx2) Y7g rfl rfl ⟨vt rfl,trivial⟩ rfl) fun v3=>Aw rfl<|Nl<|sq<|SR<|Mw rfl<|Ac (Z2v 1001 rfl rfl Z46 (vt rfl) rfl) rfl<|Mk rfl<|Nl<|bk<|LG (d:=[]) (ν:=Nat×Nat×(List Inst)) (fun (m7,i6,l5)=>(Cnt (x2.length:Int) i6 m7∧Zf8 m7 i6 l5=some r,m7,[(3,Zg v3),(8,rd (Z0 .i64) (x2.length:Int)),(9,rd (Z0 .i64) (i6:Int))],[(1001,Zi v3 115 Z0f l5)])) (((x2.length:Int):Int).toNat,0,x2) ⟨Cnt.start _,h⟩ (FX rfl) ?_
 rintro ⟨m7,i6,l5⟩ ⟨hsf1,h⟩
 dsimp only at hsf1 h ⊢
 cases m7 with
 | zero=>
  unfold Zf8 at h
  refine SR<|Ac (Zh rfl rfl (vt rfl) (vt rfl)) rfl<|Nl<|sq<|Cn rfl (fun hc=>absurd (of_decide_eq_true hc) hsf1.zero) (fun hc=>?_)
  refine xt<|SR<|Mw rfl<|Aw rfl<|Nl<|AW.freezes [2,3,23] 1001 rfl ⟨rfl,rfl,rfl,trivial⟩ rfl<|rt ?_
  cases h;exact Z9 Tryz.results135 rfl (Z5 rfl)
 | succ m7=>
  unfold Zf8 at h
  refine SR<|Ac (Zh rfl rfl (vt rfl) (vt rfl)) rfl<|Nl<|sq<|Cn rfl (fun hc=>?_) (fun hc=>absurd hsf1.succ (of_decide_eq_false hc))
  have hlti6:=of_decide_eq_true hc
  refine sk<|sq<|bk<|SR<|Md rfl<|As rfl<|Nl ?_
  obtain ⟨x8,hx8,x9,hx9,x10,hx10,h⟩:=bs3 h
  refine Rg<|Mw rfl<|Md rfl<|Mw rfl<|Md rfl<|Ac (Z1w 1001 rfl rfl Z46 (vt rfl) rfl (vt rfl) hx8) rfl<|Ac (Z6j lInst_4 rfl rfl Z4l (vt rfl)) rfl<|Ac (Z1l 1001 rfl rfl Z2x (vt rfl) rfl (Z0l hx8).2) rfl<|Cl [18] (Zss _ _ hx9) Zfo rfl<|Ac (Z1w 1001 rfl rfl Z46 (vt rfl) rfl (vt rfl) hx10) rfl<|Ac (Z6j lInst_4 rfl rfl Z4l (vt rfl)) rfl<|Ac (Z2b 1001 rfl rfl Z2x (vt rfl) rfl (Z0l hx10).2 (vt rfl)) rfl<|Nl<|Rg<|Ac (Z0a (t:=8) rfl rfl (vt rfl) (vk rfl) (vt rfl) hlti6) rfl<|Md rfl<|Nl ?_
  exact ⟨(_,_,_),Nat.lt_succ_self _,⟨hsf1.next,h⟩,FX rfl⟩
def Za0 (m1:FlowMod):Option Flow:=
 (Zlz m1.Match).bind fun x4=>(Zs0 m1.Insts).bind fun x5=>some (⟨m1.Cookie,m1.Priority,m1.Idle,m1.Hard,m1.Flags,x4,x5⟩:Flow)
theorem Zg6:Q1 Tryz.prog 82 (rd Z1b) (rd Zp) Za0:=fun m1 r h=>I0 Tryz.func82 rfl Tryz.ntmps82 rfl fun w H Z=>by
 unfold Za0 at h
 refine SR<|Cv rfl (Zm 2 rfl rfl (vt rfl)) fun g2=>Cv rfl (Zo 3 rfl rfl Z4j) fun g3=>Nl<|sq ?_
 obtain ⟨x4,hx4,x5,hx5,h⟩:=bs2 h
 refine AR Z03 (by kernel_rfl)<|SFd lFlowMod_0 Zpe rfl<|Zu Z1q 2 rfl<|SFd lFlowMod_6 Zrn rfl<|Zu Zc 2 rfl<|SFd lFlowMod_4 Zri rfl<|Zu Zc 2 rfl<|SFd lFlowMod_5 Zrz rfl<|Zu Zc 2 rfl<|SFd lFlowMod_10 Zh1 rfl<|Zu Zc 2 rfl<|SFd lFlowMod_11 Zdx rfl<|Zu Z73 2 rfl<|SCl [14] (Yam _ _ hx4) Y9x rfl<|SFd lFlowMod_12 Zd1 rfl<|Zu Z4r 2 rfl<|SCl [17] (Ye8 _ _ hx5) Yg3 rfl<|Sd (lo [4,6,8,10,12,15,18] [] rfl fun S hs hr=>opb (⟨m1.Cookie,m1.Priority,m1.Idle,m1.Hard,m1.Flags,x4,x5⟩:Flow) Z4j rfl Ymw (pc Ycy (vh hs 4 rfl rfl)<|pc Yie (vh hs 6 rfl rfl)<|pc Ya6 (vh hs 8 rfl rfl)<|pc Ymh (vh hs 10 rfl rfl)<|pc Yp0 (vh hs 12 rfl rfl)<|pc Y7r (vh hs 15 rfl rfl)<|pc Ym8 (vh hs 18 rfl rfl)<|pn rfl))<|SSt Z19 3 rfl<|Sn<|rt ?_
 cases h;exact Z9 Tryz.results82 rfl (Zv rfl (i:=3) rfl Z19)
def Zht (x1:Flow)(t2:Int):Option FlowMod:=
 (Za0 (⟨x1.Cookie,0,0,0,x1.Idle,x1.Hard,x1.Priority,0,0,0,x1.Flags,x1.Match,x1.Insts⟩:FlowMod)).bind fun x5=>some {{{{{{{(⟨0,0,t2,0,0,0,0,4294967295,4294967295,4294967295,0,[],[]⟩:FlowMod) with Cookie:=x5.Cookie} with Priority:=x5.Priority} with Idle:=x5.Idle} with Hard:=x5.Hard} with Flags:=x5.Flags} with Match:=x5.Match} with Insts:=x5.Insts}
theorem Zxg:Q2 Tryz.prog 46 (rd Zp) (rd (Z0 .i64)) (rd Z1b) Zht:=fun x1 t2 r h=>I0 Tryz.func46 rfl Tryz.ntmps46 rfl fun w H Z=>by
 unfold Zht at h
 refine SR<|Cv rfl (Zm 3 rfl rfl (vt rfl)) fun g3=>Cv rfl (Zo 5 rfl rfl Z9l) fun g4=>Nl<|sq ?_
 obtain ⟨x5,hx5,h⟩:=Z6 h
 refine Rg<|Zf lFlow_0 Znl rfl<|Ld Z1q 3 rfl<|Zf lFlow_1 Z6t rfl<|Ld Zc 3 rfl<|Zf lFlow_2 Zsi rfl<|Ld Zc 3 rfl<|Zf lFlow_3 Zpp rfl<|Ld Zc 3 rfl<|Zf lFlow_4 Zjw rfl<|Ld Zc 3 rfl<|Zf lFlow_5 Zhk rfl<|Ld Z73 3 rfl<|Zf lFlow_6 Z7q rfl<|Ld Z4r 3 rfl<|Ac (opb (⟨x1.Cookie,0,0,0,x1.Idle,x1.Hard,x1.Priority,0,0,0,x1.Flags,x1.Match,x1.Insts⟩:FlowMod) Z9l rfl Zid (pc Y1a (vt rfl)<|pc Y4e (vt rfl)<|pc Zxl (vt rfl)<|pc Y0h (vt rfl)<|pc Y21 (vt rfl)<|pc Zoa (vt rfl)<|pc Zq9 (vt rfl)<|pn rfl)) rfl<|Cl [20] (Zg6 _ _ hx5) e82 rfl<|Ze Z19 3 rfl<|Nl<|SR<|Md rfl<|Ac (opb (⟨0,0,t2,0,0,0,0,4294967295,4294967295,4294967295,0,[],[]⟩:FlowMod) Z9l rfl Zid (pc Yhb (vt rfl)<|pc Ykv (vk rfl)<|pc Yfr (vk rfl)<|pc Y9w (vk rfl)<|pc Y8e (vk rfl)<|pn rfl)) rfl<|Cv rfl (Zo 6 rfl rfl Z9l) fun g6=>Ze Z3f 6 rfl<|Nl<|sq<|AR Z03 (by kernel_rfl)<|SFd lFlow_0 Znl rfl<|Zu Z1q 3 rfl<|SFd lFlow_1 Z6t rfl<|Zu Zc 3 rfl<|SFd lFlow_2 Zsi rfl<|Zu Zc 3 rfl<|SFd lFlow_3 Zpp rfl<|Zu Zc 3 rfl<|SFd lFlow_4 Zjw rfl<|Zu Zc 3 rfl<|SFd lFlowMod_0 Zpe rfl<|SSt Z1q 6 rfl<|SFd lFlowMod_6 Zrn rfl<|SSt Zc 6 rfl<|SFd lFlowMod_4 Zri rfl<|SSt Zc 6 rfl<|SFd lFlowMod_5 Zrz rfl<|SSt Zc 6 rfl<|SFd lFlowMod_10 Zh1 rfl<|SSt Zc 6 rfl<|Sn<|sq<|AR Z03 (by kernel_rfl)<|SFd lFlow_5 Zhk rfl<|Zu Z73 3 rfl<|SFd lFlow_6 Z7q rfl<|Zu Z4r 3 rfl<|SFd lFlowMod_11 Zdx rfl<|SSt Z73 6 rfl<|SFd lFlowMod_12 Zd1 rfl<|SSt Z4r 6 rfl<|Sn<|SR<|Ld Z3f 6 rfl<|Ze Z3f 5 rfl<|Nl<|rt ?_
 cases h;exact Z9 Tryz.results46 rfl (Zv rfl (i:=5) rfl Z3f)
def Zfg (s:List Group):Option (List Group):=Z11 [] s
theorem Zqj (s:List Group)(r:List Group)(h:Zfg s=some r):Con Tryz.prog 91 [rd (Z1 Zt) s] emp (fun v=>Zg v) (fun v=>Zi v 83 Zt r):=by
 refine Con.intro0 Tryz.func91 rfl Tryz.ntmps91 rfl fun w H Z=>?_
 unfold Zfg at h
 refine AW.newnil 1001 83 Zt<|SR<|Ac (Zn (A:=Zg (.slice none 0 0)) rfl rfl vc) rfl<|Nl<|sq<|SR<|Md rfl<|Ct rfl (Z96 rfl rfl Z1n (vt rfl)) ?_
 rintro _ ⟨b,hb,rfl⟩
 refine Nl<|Cn rfl (fun hc=>?_) (fun hc=>?_)
 ·obtain rfl:=hb hc
  refine SR<|Ac (Zn (A:=Zg (.slice none 0 0)) rfl rfl vc) rfl<|Nl<|rt ?_
  obtain rfl:=(Z5y h).2
  exact Z29 (i:=1001) Tryz.results91 rfl rfl rfl
 ·refine sk<|SR<|Cv rfl (Z65 1002 (ps:=[]) (l:=[]) rfl rfl Z1n Z3a rfl rfl rfl rfl) fun v1=>Md rfl<|Cv rfl (Z1f 1002 h rfl rfl Zn8 (vt rfl) rfl (vt rfl)) fun v2=>Aw rfl<|Nl<|rt ?_
  exact Z29 (i:=1002) Tryz.results91 rfl rfl rfl
end Go.Proofs.YtjppkmpecdbepaaGreatDoor.W
set_option maxHeartbeats 1000000
set_option maxRecDepth 4000
namespace Go.Proofs.YtjppkmpecdbepaaGreatDoor.W
open Go Go.Wb
theorem e93:Ent Tryz.prog 93:=Ent.mk Tryz.func93 rfl rfl
theorem e75:Ent Tryz.prog 75:=Ent.mk Tryz.func75 rfl rfl
theorem Yic:Ent Tryz.prog 141:=Ent.mk Tryz.func141 rfl rfl
theorem e91:Ent Tryz.prog 91:=Ent.mk Tryz.func91 rfl rfl
theorem e94:Ent Tryz.prog 94:=Ent.mk Tryz.func94 rfl rfl
theorem e52:Ent Tryz.prog 52:=Ent.mk Tryz.func52 rfl rfl
theorem e53:Ent Tryz.prog 53:=Ent.mk Tryz.func53 rfl rfl
theorem e28:Ent Tryz.prog 28:=Ent.mk Tryz.func28 rfl rfl
theorem Ykb:Ent Tryz.prog 106:=Ent.mk Tryz.func106 rfl rfl
theorem e46:Ent Tryz.prog 46:=Ent.mk Tryz.func46 rfl rfl
def Zm6 (x1:Group)(x2:Int):Option Bool:=
 some (decide (x1.ID=x2))
theorem Yed:Q2 Tryz.prog 93 (rd Zt) (rp (Z0 .i64)) (rd Z3) Zm6:=fun x1 x2 r h=>I0 Tryz.func93 rfl Tryz.ntmps93 rfl fun w H Z=>by
 unfold Zm6 at h
 refine SR<|Cv rfl (Zm 3 rfl rfl (vt rfl)) fun g3=>Ab rfl<|Nl<|SR<|Zf lGroup_0 Z90 rfl<|Ld Zc 3 rfl<|Lp1 Zc rfl<|Ac (Zy rfl rfl (vt rfl) (vt rfl)) rfl<|As rfl<|Nl<|rt ?_
 cases h;exact Z9 Tryz.results93 rfl (Z5 rfl)
def Zed (s1:(List Group))(x2:(Group→Option Bool)):Nat→Nat→Option Int
 | 0,i3=>some (-1)
 | m4+1,i3=>(lget s1 (i3:Int)).bind fun x5=>(x2 x5).bind fun x6=>(bif x6 then some (i3:Int) else (Zed s1 x2 m4) (i3+1))
def Zdb (s1:(List Group))(x2:(Group→Option Bool)):Option Int:=
 Zed s1 x2 ((s1.length:Int):Int).toNat 0
theorem Zqv:Q2 Tryz.prog 75 (rd (Z1 Zt)) (fn1 Tryz.prog Zt Z3) (rd (Z0 .i64)) Zdb:=fun s1 x2 r h=>I0 Tryz.func75 rfl Tryz.ntmps75 rfl fun w H Z=>by
 unfold Zdb at h
 refine SR<|Ak rfl<|Nl<|sq<|SR<|Md rfl<|Ac (Z07 rfl rfl Z1n (vt rfl)) rfl<|Mk rfl<|Nl<|bk<|LG (d:=[]) (ν:=Nat×Nat) (fun (m4,i3)=>(Cnt (s1.length:Int) i3 m4∧Zed s1 x2 m4 i3=some r,m4,[(0,rd (Z1 Zt) s1),(1,fn1 Tryz.prog Zt Z3 x2),(7,rd (Z0 .i64) (s1.length:Int)),(8,rd (Z0 .i64) (i3:Int))],[])) (((s1.length:Int):Int).toNat,0) ⟨Cnt.start _,h⟩ (FX rfl) ?_
 rintro ⟨m4,i3⟩ ⟨hsf1,h⟩
 dsimp only at hsf1 h ⊢
 cases m4 with
 | zero=>
  unfold Zed at h
  refine SR<|Ac (Zh rfl rfl (vt rfl) (vt rfl)) rfl<|Nl<|sq<|Cn rfl (fun hc=>absurd (of_decide_eq_true hc) hsf1.zero) (fun hc=>?_)
  refine xt<|SR<|Ak rfl<|Nl<|rt ?_
  cases h;exact Z9 Tryz.results75 rfl (Z5 rfl)
 | succ m4=>
  unfold Zed at h
  refine SR<|Ac (Zh rfl rfl (vt rfl) (vt rfl)) rfl<|Nl<|sq<|Cn rfl (fun hc=>?_) (fun hc=>absurd hsf1.succ (of_decide_eq_false hc))
  have hlti3:=of_decide_eq_true hc
  refine sk<|sq<|bk<|SR<|Md rfl<|As rfl<|Nl<|sq ?_
  obtain ⟨x5,hx5,x6,hx6,h⟩:=bs2 h
  refine Rg<|Ac (Zk (A:=fn1 Tryz.prog Zt Z3 x2) rfl rfl (vt rfl)) rfl<|Md rfl<|Md rfl<|Ac (Z0d rfl rfl Z1n (vt rfl) (vt rfl) hx5) rfl<|Lp1 Z1m rfl<|Ac (Z2z hx6 rfl rfl (vt rfl) (vt rfl)) rfl<|Nl<|Cq rfl h (fun h=>?_) (fun h=>?_)
  ·refine SR<|Md rfl<|As rfl<|Nl<|rt ?_
   cases h;exact Z9 Tryz.results75 rfl (Z5 rfl)
  ·refine sk<|Rg<|Ac (Z0a (t:=7) rfl rfl (vt rfl) (vk rfl) (vt rfl) hlti3) rfl<|Md rfl<|Nl ?_
   exact ⟨(_,_),Nat.lt_succ_self _,⟨hsf1.next,h⟩,FX rfl⟩
def Z83 (l1:(List Group))(i2:Int):Option Int:=
 (Zdb l1 (fun x=>Zm6 x i2)).bind fun x4=>some x4
theorem Zcl:Q2 Tryz.prog 52 (rd (Z1 Zt)) (rd (Z0 .i64)) (rd (Z0 .i64)) Z83:=fun l1 i2 r h=>I0 Tryz.func52 rfl Tryz.ntmps52 rfl fun w H Z=>by
 unfold Z83 at h
 refine SR<|Cv rfl (Zm 4 rfl rfl (vt rfl)) fun g3=>Ak rfl<|Nl<|sq<|AW.freezeB 3 4 rfl rfl rfl ?_
 obtain ⟨x4,hx4,h⟩:=Z6 h
 refine Rg<|Md rfl<|Ac (Z30 (cs:=[.tmp 3]) (CAs:=[rp (Z0 .i64) i2]) (fun x=>Zm6 x i2) rfl rfl e93 ⟨vt rfl,trivial⟩ (fun x y h=>Yed _ _ y h)) rfl<|Cl [5,6] (Zqv _ _ _ hx4) e75 rfl<|As rfl<|Nl<|rt ?_
 cases h;exact Z9 Tryz.results52 rfl (Z5 rfl)
def Zse (s:List Bucket):Option (List Bucket):=Z11 [] s
theorem Yo3 (s:List Bucket)(r:List Bucket)(h:Zse s=some r):Con Tryz.prog 141 [rd (Z1 Z16) s] emp (fun v=>Zg v) (fun v=>Zi v 105 Z16 r):=by
 refine Con.intro0 Tryz.func141 rfl Tryz.ntmps141 rfl fun w H Z=>?_
 unfold Zse at h
 refine AW.newnil 1001 105 Z16<|SR<|Ac (Zn (A:=Zg (.slice none 0 0)) rfl rfl vc) rfl<|Nl<|sq<|SR<|Md rfl<|Ct rfl (Z96 rfl rfl Z2y (vt rfl)) ?_
 rintro _ ⟨b,hb,rfl⟩
 refine Nl<|Cn rfl (fun hc=>?_) (fun hc=>?_)
 ·obtain rfl:=hb hc
  refine SR<|Ac (Zn (A:=Zg (.slice none 0 0)) rfl rfl vc) rfl<|Nl<|rt ?_
  obtain rfl:=(Z5y h).2
  exact Z29 (i:=1001) Tryz.results141 rfl rfl rfl
 ·refine sk<|SR<|Cv rfl (Z65 1002 (ps:=[]) (l:=[]) rfl rfl Z2y Z8i rfl rfl rfl rfl) fun v1=>Md rfl<|Cv rfl (Z1f 1002 h rfl rfl Yas (vt rfl) rfl (vt rfl)) fun v2=>Aw rfl<|Nl<|rt ?_
  exact Z29 (i:=1002) Tryz.results141 rfl rfl rfl
def Zhn:Nat→Nat→(List Bucket)→Option (List Bucket)
 | 0,i6,l5=>some l5
 | m7+1,i6,l5=>(lget l5 (i6:Int)).bind fun x8=>(Z8z x8.Acts).bind fun x9=>(lget l5 (i6:Int)).bind fun x10=>(Zhn m7) (i6+1) (List.set l5 (i6:Int).toNat {x10 with Acts:=x9})
def Zmr (l1:(List Bucket)):Option (List Bucket):=
 (Zse l1).bind fun x2=>Zhn ((x2.length:Int):Int).toNat 0 x2
theorem Zz9:Q1 Tryz.prog 94 (rd (Z1 Z16)) (rd (Z1 Z16)) Zmr:=fun l1 r h=>I0 Tryz.func94 rfl Tryz.ntmps94 rfl fun w H Z=>by
 unfold Zmr at h
 refine SR<|Ac (Zn (A:=rd (Z1 Z16) []) rfl rfl Z04) rfl<|Nl<|sq ?_
 obtain ⟨x2,hx2,h⟩:=Z6 h
 refine Rg<|Md rfl<|Cv rfl (Z0y 1001 (xs:=[.tmp 5]) (Yo3 _ _ hx2) Yic rfl rfl ⟨vt rfl,trivial⟩ rfl) fun v3=>Aw rfl<|Nl<|sq<|SR<|Mw rfl<|Ac (Z2v 1001 rfl rfl Z2y (vt rfl) rfl) rfl<|Mk rfl<|Nl<|bk<|LG (d:=[]) (ν:=Nat×Nat×(List Bucket)) (fun (m7,i6,l5)=>(Cnt (x2.length:Int) i6 m7∧Zhn m7 i6 l5=some r,m7,[(3,Zg v3),(8,rd (Z0 .i64) (x2.length:Int)),(9,rd (Z0 .i64) (i6:Int))],[(1001,Zi v3 105 Z16 l5)])) (((x2.length:Int):Int).toNat,0,x2) ⟨Cnt.start _,h⟩ (FX rfl) ?_
 rintro ⟨m7,i6,l5⟩ ⟨hsf1,h⟩
 dsimp only at hsf1 h ⊢
 cases m7 with
 | zero=>
  unfold Zhn at h
  refine SR<|Ac (Zh rfl rfl (vt rfl) (vt rfl)) rfl<|Nl<|sq<|Cn rfl (fun hc=>absurd (of_decide_eq_true hc) hsf1.zero) (fun hc=>?_)
  refine xt<|SR<|Mw rfl<|Aw rfl<|Nl<|AW.freezes [2,3,23] 1001 rfl ⟨rfl,rfl,rfl,trivial⟩ rfl<|rt ?_
  cases h;exact Z9 Tryz.results94 rfl (Z5 rfl)
 | succ m7=>
  unfold Zhn at h
  refine SR<|Ac (Zh rfl rfl (vt rfl) (vt rfl)) rfl<|Nl<|sq<|Cn rfl (fun hc=>?_) (fun hc=>absurd hsf1.succ (of_decide_eq_false hc))
  have hlti6:=of_decide_eq_true hc
  refine sk<|sq<|bk<|SR<|Md rfl<|As rfl<|Nl ?_
  obtain ⟨x8,hx8,x9,hx9,x10,hx10,h⟩:=bs3 h
  refine Rg<|Mw rfl<|Md rfl<|Mw rfl<|Md rfl<|Ac (Z1w 1001 rfl rfl Z2y (vt rfl) rfl (vt rfl) hx8) rfl<|Ac (Z6j lBucket_3 rfl rfl Zc9 (vt rfl)) rfl<|Ac (Z1l 1001 rfl rfl Z2x (vt rfl) rfl (Z0l hx8).2) rfl<|Cl [18] (Zss _ _ hx9) Zfo rfl<|Ac (Z1w 1001 rfl rfl Z2y (vt rfl) rfl (vt rfl) hx10) rfl<|Ac (Z6j lBucket_3 rfl rfl Zc9 (vt rfl)) rfl<|Ac (Z2b 1001 rfl rfl Z2x (vt rfl) rfl (Z0l hx10).2 (vt rfl)) rfl<|Nl<|Rg<|Ac (Z0a (t:=8) rfl rfl (vt rfl) (vk rfl) (vt rfl) hlti6) rfl<|Md rfl<|Nl ?_
  exact ⟨(_,_,_),Nat.lt_succ_self _,⟨hsf1.next,h⟩,FX rfl⟩
def Zhh:Nat→Nat→(List Group)→Option (List Group)
 | 0,i6,l5=>some l5
 | m7+1,i6,l5=>(lget l5 (i6:Int)).bind fun x8=>(Zmr x8.Buckets).bind fun x9=>(lget l5 (i6:Int)).bind fun x10=>(Zhh m7) (i6+1) (List.set l5 (i6:Int).toNat {x10 with Buckets:=x9})
def Zbj (l1:(List Group)):Option (List Group):=
 (Zfg l1).bind fun x2=>Zhh ((x2.length:Int):Int).toNat 0 x2
theorem Zva (l1:(List Group))(r:(List Group))(h:Zbj l1=some r):Con Tryz.prog 53 [rd (Z1 Zt) l1] emp (fun v=>Zg v) (fun v=>Zi v 83 Zt r):=by
 refine Con.intro0 Tryz.func53 rfl Tryz.ntmps53 rfl fun w H Z=>?_
 unfold Zbj at h
 refine sq<|AW.newnil 1001 83 Zt<|Rg<|Ac (Zn rfl rfl vc) rfl<|Nl<|sq ?_
 obtain ⟨x2,hx2,h⟩:=Z6 h
 refine Rg<|Md rfl<|Cv rfl (Z0y 1002 (xs:=[.tmp 5]) (Zqj _ _ hx2) e91 rfl rfl ⟨vt rfl,trivial⟩ rfl) fun v3=>Aw rfl<|Nl<|sq<|SR<|Mw rfl<|Ac (Z2v 1002 rfl rfl Z1n (vt rfl) rfl) rfl<|Mk rfl<|Nl<|bk<|LG (d:=[]) (ν:=Nat×Nat×(List Group)) (fun (m7,i6,l5)=>(Cnt (x2.length:Int) i6 m7∧Zhh m7 i6 l5=some r,m7,[(3,Zg v3),(8,rd (Z0 .i64) (x2.length:Int)),(9,rd (Z0 .i64) (i6:Int))],[(1002,Zi v3 83 Zt l5)])) (((x2.length:Int):Int).toNat,0,x2) ⟨Cnt.start _,h⟩ (FX rfl) ?_
 rintro ⟨m7,i6,l5⟩ ⟨hsf1,h⟩
 dsimp only at hsf1 h ⊢
 cases m7 with
 | zero=>
  unfold Zhh at h
  refine SR<|Ac (Zh rfl rfl (vt rfl) (vt rfl)) rfl<|Nl<|sq<|Cn rfl (fun hc=>absurd (of_decide_eq_true hc) hsf1.zero) (fun hc=>?_)
  refine xt<|SR<|Mw rfl<|Aw rfl<|Nl<|rt ?_
  cases h;exact Z29 (i:=1002) Tryz.results53 rfl rfl rfl
 | succ m7=>
  unfold Zhh at h
  refine SR<|Ac (Zh rfl rfl (vt rfl) (vt rfl)) rfl<|Nl<|sq<|Cn rfl (fun hc=>?_) (fun hc=>absurd hsf1.succ (of_decide_eq_false hc))
  have hlti6:=of_decide_eq_true hc
  refine sk<|sq<|bk<|SR<|Md rfl<|As rfl<|Nl ?_
  obtain ⟨x8,hx8,x9,hx9,x10,hx10,h⟩:=bs3 h
  refine Rg<|Mw rfl<|Md rfl<|Mw rfl<|Md rfl<|Ac (Z1w 1002 rfl rfl Z1n (vt rfl) rfl (vt rfl) hx8) rfl<|Ac (Z6j lGroup_2 rfl rfl Z4o (vt rfl)) rfl<|Ac (Z1l 1002 rfl rfl Z3u (vt rfl) rfl (Z0l hx8).2) rfl<|Cl [18] (Zz9 _ _ hx9) e94 rfl<|Ac (Z1w 1002 rfl rfl Z1n (vt rfl) rfl (vt rfl) hx10) rfl<|Ac (Z6j lGroup_2 rfl rfl Z4o (vt rfl)) rfl<|Ac (Z2b 1002 rfl rfl Z3u (vt rfl) rfl (Z0l hx10).2 (vt rfl)) rfl<|Nl<|Rg<|Ac (Z0a (t:=8) rfl rfl (vt rfl) (vk rfl) (vt rfl) hlti6) rfl<|Md rfl<|Nl ?_
  exact ⟨(_,_,_),Nat.lt_succ_self _,⟨hsf1.next,h⟩,FX rfl⟩
theorem Ygy (l1:(List Group))(r:(List Group))(h:Zbj l1=some r):PCon Tryz.prog 53 [rd (Z1 Zt) l1] (rd (Z1 Zt) r):=PCon.of_row (Zva l1 r h)
def Za7 (l1:(List Group))(i2:Int):Option (Group×Bool):=
 (Z83 l1 i2).bind fun x4=>(bif (decide (x4<0)) then some ((⟨0,0,[]⟩:Group),false) else (Zmc l1 x4 (IntKind.i64.wrap (x4+1))).bind fun s5=>(Zbj s5).bind fun x6=>(lget x6 0).bind fun x7=>some (x7,true))
theorem Zer:Q2 Tryz.prog 28 (rd (Z1 Zt)) (rd (Z0 .i64)) (fun r=>Z0t (rd Zt r.1) (rd Z3 r.2)) Za7:=fun l1 i2 r h=>I0 Tryz.func28 rfl Tryz.ntmps28 rfl fun w H Z=>by
 unfold Za7 at h
 refine SR<|Cv rfl (Zo 5 rfl rfl Z3a) fun g3=>Ab rfl<|Nl<|sq ?_
 obtain ⟨x4,hx4,h⟩:=Z6 h
 refine Rg<|Md rfl<|Md rfl<|Cl [7,8] (Zcl _ _ _ hx4) e52 rfl<|As rfl<|Nl<|sq<|SR<|Md rfl<|Ac (Zh rfl rfl (vt rfl) (vk rfl)) rfl<|Nl<|Cq rfl h (fun h=>?_) (fun h=>?_)
 ·refine SR<|Ac (opb (⟨0,0,[]⟩:Group) Z3a rfl Zy9 (pn rfl)) rfl<|Ze Z1m 5 rfl<|Ab rfl<|Nl<|rt ?_
  cases h;exact Z0c Tryz.results28 rfl (Zv rfl (i:=5) rfl Z1m) (Z5 rfl)
 ·refine sk<|sq ?_
  obtain ⟨s5,hs5,x6,hx6,x7,hx7,h⟩:=bs3 h
  refine Rg<|Md rfl<|Md rfl<|Md rfl<|Ac (Z0o rfl rfl (vt rfl) (vk rfl)) rfl<|Ac (Ydq hs5 rfl rfl Z1n (vt rfl) (vt rfl) (vt rfl)) rfl<|Cl [17] (Ygy _ _ hx6) e53 rfl<|Ac (Z0d rfl rfl Z1n (vt rfl) (vk rfl) hx7) rfl<|Lp1 Z1m rfl<|Ze Z1m 5 rfl<|Ab rfl<|Nl<|rt ?_
  cases h;exact Z0c Tryz.results28 rfl (Zv rfl (i:=5) rfl Z1m) (Z5 rfl)
def Zf5 (b5:Switch):Nat→Nat→(List Group)→Option Switch
 | 0,i13,l12=>some (⟨b5.Tables,l12⟩:Switch)
 | m14+1,i13,l12=>(lget l12 (i13:Int)).bind fun x15=>(Z3z l12 (i13:Int)).bind fun s17=>(Za7 s17 x15.ID).bind fun x18=>(lget l12 (i13:Int)).bind fun x20=>(Zf5 b5 m14) (i13+1) (List.set l12 (i13:Int).toNat x18.1)
def Ze9 (i6:Nat)(go1:Nat→Switch→Option Switch)(b5:Switch):Nat→Nat→(List Flow)→Option Switch
 | 0,i26,l25=>(chk 4 (i6:Int)).bind fun j28=>go1 (i6+1) {b5 with Tables:=(Vector.set b5.Tables j28.1 l25 j28.2)}
 | m27+1,i26,l25=>(lget l25 (i26:Int)).bind fun x29=>(Zht x29 (i6:Int)).bind fun x31=>(lget l25 (i26:Int)).bind fun x33=>(lget (List.set l25 (i26:Int).toNat {x33 with Match:=x31.Match}) (i26:Int)).bind fun x34=>(Ze9 i6 go1 b5 m27) (i26+1) (List.set (List.set l25 (i26:Int).toNat {x33 with Match:=x31.Match}) (i26:Int).toNat {x34 with Insts:=x31.Insts})
def Zau:(List (List Flow))→Nat→Switch→Option Switch
 | [],i6,b5=>(Zfg b5.Groups).bind fun x8=>Zf5 b5 ((x8.length:Int):Int).toNat 0 x8
 | x21::l7,i6,b5=>(Zp9 x21).bind fun x22=>Ze9 i6 (Zau l7) b5 ((x22.length:Int):Int).toNat 0 x22
def Zls (s1:Switch):Option Switch:=
 Zau (Vector.toList s1.Tables) 0 s1
theorem Zzr:Q1 Tryz.prog 62 (rd kSwitch) (rd kSwitch) Zls:=fun s1 r h=>I0 Tryz.func62 rfl Tryz.ntmps62 rfl fun w H Z=>by
 unfold Zls at h
 refine SR<|Cv rfl (Zm 2 rfl rfl (vt rfl)) fun g2=>Cv rfl (Zo 3 rfl rfl Z5v) fun g3=>Nl<|sq<|SR<|Zf Z8c Z9s rfl<|Ld Y0r 2 rfl<|Mk rfl<|Nl<|bk<|LG (d:=[]) (ν:=(List (List Flow))×Nat×Switch) (fun (l7,i6,b5)=>(Sfx (Vector.toList s1.Tables) i6 l7∧Zau l7 i6 b5=some r,l7.length,[(1,Za g2 (Lens.id kSwitch)),(2,Za g3 (Lens.id kSwitch)),(13,rd (Z4 4 (Z1 Zp)) s1.Tables),(14,rd (Z0 .i64) (i6:Int))],[(2,Zd g2 71 kSwitch b5),(3,Zd g3 71 kSwitch Z9c)])) ((Vector.toList s1.Tables),0,s1) ⟨Sfx.start _,h⟩ (FX rfl) ?_
 rintro ⟨l7,i6,b5⟩ ⟨hsf1,h⟩
 dsimp only at hsf1 h ⊢
 cases l7 with
 | nil=>
  unfold Zau at h
  refine SR<|Ac (Zh rfl rfl (vt rfl) (vk rfl)) rfl<|Nl<|sq<|Cn rfl (fun hc=>absurd (of_decide_eq_true hc) (hsf1.niln (by simp))) (fun hc=>?_)
  refine xt<|sq ?_
  obtain ⟨x8,hx8,h⟩:=Z6 h
  refine Rg<|Zf Z66 Z77 rfl<|Ld Z3r 2 rfl<|Cv rfl (Z0y 1001 (xs:=[.tmp 49]) (Zqj _ _ hx8) e91 rfl rfl ⟨vt rfl,trivial⟩ rfl) fun v9=>Zf Z66 Z77 rfl<|AOps.forgetV 2 rfl (Ydi b5) fun v10=>AOps.tellS 1 (A:=Za g2 (Lens.id kSwitch_o1)) rfl<|AOps.tellS 51 (A:=Za g2 (Lens.comp (Lens.id kSwitch_o1) Zhf)) rfl<|AOps.renameD 1001 2041 (by decide) rfl<|Ac (Z3s rfl rfl Zl5 (vt rfl) (i:=2) rfl (Zbo (i:=2041) rfl rfl)) rfl<|Nl<|sq<|SR<|Zf Zhf Zqg rfl<|Ac (Z3n v9 rfl rfl Zl5 (vt rfl) (i:=2) rfl rfl) rfl<|Ac (Z2v 2041 rfl rfl Z1n (vt rfl) rfl) rfl<|Mk rfl<|Nl<|bk<|LG (d:=[]) (ν:=Nat×Nat×(List Group)) (fun (m14,i13,l12)=>(Cnt (x8.length:Int) i13 m14∧Zf5 b5 m14 i13 l12=some r,m14,[(1,Za g2 (Lens.id kSwitch_o1)),(2,Za g3 (Lens.id kSwitch)),(53,Zg v9),(54,rd (Z0 .i64) (x8.length:Int)),(55,rd (Z0 .i64) (i13:Int))],[(2,Zd g2 71 kSwitch_o1 (⟨b5.Tables,v9⟩:Switch_o1)),(3,Zd g3 71 kSwitch Z9c),(2041,Zi v9 83 Zt l12)])) (((x8.length:Int):Int).toNat,0,x8) ⟨Cnt.start _,h⟩ (FX rfl) ?_
  rintro ⟨m14,i13,l12⟩ ⟨hsf2,h⟩
  dsimp only at hsf2 h ⊢
  cases m14 with
  | zero=>
   unfold Zf5 at h
   refine SR<|Ac (Zh rfl rfl (vt rfl) (vt rfl)) rfl<|Nl<|sq<|Cn rfl (fun hc=>absurd (of_decide_eq_true hc) hsf2.zero) (fun hc=>?_)
   refine xt<|sq<|AW.freezeF 2 2041 kSwitch (⟨b5.Tables,l12⟩:Switch) rfl (by decide) rfl rfl (Yh5 _ _)<|Rg<|Ac (Z08 (L:=(Lens.id kSwitch)) rfl rfl Z27 (vt rfl) (i:=2) rfl) rfl<|Ze Z27 3 rfl<|Nl<|rt ?_
   cases h;exact Z9 Tryz.results62 rfl (Zv rfl (i:=3) rfl Z27)
  | succ m14=>
   unfold Zf5 at h
   refine SR<|Ac (Zh rfl rfl (vt rfl) (vt rfl)) rfl<|Nl<|sq<|Cn rfl (fun hc=>?_) (fun hc=>absurd hsf2.succ (of_decide_eq_false hc))
   have hlti13:=of_decide_eq_true hc
   refine sk<|sq<|bk<|sq ?_
   obtain ⟨x15,hx15,h⟩:=Z6 h
   refine Rg<|Md rfl<|Ac (Z1w 2041 rfl rfl Z1n (vt rfl) rfl (vt rfl) hx15) rfl<|Ac (Z1l 2041 rfl rfl Z1m (vt rfl) rfl (Z0l hx15).2) rfl<|Cv rfl (Zo 10 rfl rfl Z3a) fun g16=>As rfl<|Ze Z1m 10 rfl<|Nl<|sq ?_
   obtain ⟨s17,hs17,x18,hx18,h⟩:=bs2 h
   refine AR Z03 (by kernel_rfl)<|SFd Zhf Zqg rfl<|Sd (lo [61] [2] rfl fun S hs hr=>Z3n v9 rfl rfl Zl5 (vh hs 61 rfl rfl) (i:=2) ((hr 2 rfl).trans rfl) rfl)<|SMd rfl<|Sd (lo [62,63] [2041] rfl fun S hs hr=>Zn3 2041 hs17 rfl rfl Z1n (vh hs 62 rfl rfl) ((hr 2041 rfl).trans rfl) (vh hs 63 rfl rfl))<|SFd lGroup_0 Z90 rfl<|Zu Zc 10 rfl<|Sd (lo [64,66] [2041] rfl fun S hs hr=>Yol (xs:=[.tmp 64,.tmp 66]) 2041 (Zer _ _ _ hx18) e28 rfl rfl ⟨vLi hs17 ((hs 64 rfl).trans rfl) ((hr 2041 rfl).trans rfl),vV (vh hs 66 rfl rfl),trivial⟩ ((hr 2041 rfl).trans rfl))<|Sd (lo [67] [] rfl fun S hs hr=>Zk (A:=Z0t (rd Zt x18.1) (rd Z3 x18.2)) rfl rfl (vh hs 67 rfl rfl))<|Sd (lo [60] [] rfl fun S hs hr=>Z10 rfl rfl (vh hs 60 rfl rfl))<|Sd (lo [60] [] rfl fun S hs hr=>Z0z rfl rfl (vh hs 60 rfl rfl))<|Sd (Z18 (us:=[(10,Z28 83 Zt Z8p)]) (ur:=[]) [] [] rfl fun S hs hr=>Z55 rfl rfl rfl Z3a)<|Sd (Z18 (us:=[(10,Z28 83 Zt x18.1)]) (ur:=[]) [10,68] [] rfl fun S hs hr=>Z4z rfl rfl Z1m ((hs 10 rfl).trans rfl) (vh hs 68 rfl rfl))<|SAs rfl<|Sn<|AW.unpackP 10 11 rfl rfl fun g19=>?_
   obtain ⟨x20,hx20,h⟩:=Z6 h
   refine Rg<|Zf Zhf Zqg rfl<|Ac (Z3n v9 rfl rfl Zl5 (vt rfl) (i:=2) rfl rfl) rfl<|Md rfl<|Ld Z1m 11 rfl<|Ac (Z1w 2041 rfl rfl Z1n (vt rfl) rfl (vt rfl) hx20) rfl<|Ac (Z2b 2041 rfl rfl Z1m (vt rfl) rfl (Z0l hx20).2 (vt rfl)) rfl<|Nl<|Rg<|Ac (Z0a (t:=54) rfl rfl (vt rfl) (vk rfl) (vt rfl) hlti13) rfl<|Md rfl<|Nl ?_
   exact ⟨(_,_,_),Nat.lt_succ_self _,⟨hsf2.next,h⟩,FX rfl⟩
 | cons x21 l7=>
  unfold Zau at h
  refine SR<|Ac (Zh rfl rfl (vt rfl) (vk rfl)) rfl<|Nl<|sq<|Cn rfl (fun hc=>?_) (fun hc=>absurd (hsf1.consn (by simp)) (of_decide_eq_false hc))
  have hlti6:=of_decide_eq_true hc
  refine sk<|sq<|bk<|SR<|Md rfl<|Ac (Z7n rfl rfl Za3 Z2n (vt rfl) (vt rfl) hsf1.lget) rfl<|As rfl<|As rfl<|Nl<|sq ?_
  obtain ⟨x22,hx22,h⟩:=Z6 h
  refine Rg<|Md rfl<|Cv rfl (Z0y 1002 (xs:=[.tmp 18]) (Yfp _ _ hx22) Ykb rfl rfl ⟨vt rfl,trivial⟩ rfl) fun v23=>Aw rfl<|Nl<|sq<|SR<|Mw rfl<|Ac (Z2v 1002 rfl rfl Z25 (vt rfl) rfl) rfl<|Mk rfl<|Nl<|bk<|LG (d:=[]) (ν:=Nat×Nat×(List Flow)) (fun (m27,i26,l25)=>(Cnt (x22.length:Int) i26 m27∧Ze9 i6 (Zau l7) b5 m27 i26 l25=some r,m27,[(1,Za g2 (Lens.id kSwitch)),(2,Za g3 (Lens.id kSwitch)),(3,rd (Z0 .i64) (i6:Int)),(4,Zg v23),(13,rd (Z4 4 (Z1 Zp)) s1.Tables),(14,rd (Z0 .i64) (i6:Int)),(20,Zg v23),(21,rd (Z0 .i64) (x22.length:Int)),(22,rd (Z0 .i64) (i26:Int))],[(2,Zd g2 71 kSwitch b5),(3,Zd g3 71 kSwitch Z9c),(1002,Zi v23 135 Zp l25)])) (((x22.length:Int):Int).toNat,0,x22) ⟨Cnt.start _,h⟩ (FX rfl) ?_
  rintro ⟨m27,i26,l25⟩ ⟨hsf3,h⟩
  dsimp only at hsf3 h ⊢
  cases m27 with
  | zero=>
   unfold Ze9 at h
   refine SR<|Ac (Zh rfl rfl (vt rfl) (vt rfl)) rfl<|Nl<|sq<|Cn rfl (fun hc=>absurd (of_decide_eq_true hc) hsf3.zero) (fun hc=>?_)
   refine xt<|AW.freezes [4,20] 1002 rfl ⟨rfl,rfl,trivial⟩ rfl ?_
   obtain ⟨j28,hj28,h⟩:=Z6 h
   refine Rg<|Md rfl<|Md rfl<|Zf Z8c Z9s rfl<|Ac (Z2o rfl rfl Za3 (vt rfl) (vt rfl) hj28) rfl<|Ze Z2n 2 rfl<|Nl<|Rg<|Ac (Z43 rfl rfl (vt rfl) (vk rfl) rfl hlti6) rfl<|Md rfl<|Nl ?_
   exact ⟨(_,_,_),Nat.lt_succ_self _,⟨hsf1.next,h⟩,FX rfl⟩
  | succ m27=>
   unfold Ze9 at h
   refine SR<|Ac (Zh rfl rfl (vt rfl) (vt rfl)) rfl<|Nl<|sq<|Cn rfl (fun hc=>?_) (fun hc=>absurd hsf3.succ (of_decide_eq_false hc))
   have hlti26:=of_decide_eq_true hc
   refine sk<|sq<|bk<|sq ?_
   obtain ⟨x29,hx29,h⟩:=Z6 h
   refine Rg<|Md rfl<|Ac (Z1w 1002 rfl rfl Z25 (vt rfl) rfl (vt rfl) hx29) rfl<|Ac (Z1l 1002 rfl rfl Z19 (vt rfl) rfl (Z0l hx29).2) rfl<|Cv rfl (Zo 7 rfl rfl Z4j) fun g30=>As rfl<|Ze Z19 7 rfl<|Nl<|sq ?_
   obtain ⟨x31,hx31,h⟩:=Z6 h
   refine Rg<|Ld Z19 7 rfl<|Md rfl<|Cl [27,28] (Zxg _ _ _ hx31) e46 rfl<|Cv rfl (Zo 8 rfl rfl Z9l) fun g32=>Ze Z3f 8 rfl<|Nl<|AW.vlen 1002 rfl fun hvl1002_324=>?_
   obtain ⟨x33,hx33,x34,hx34,h⟩:=bs2 h
   refine AR Z03 (by kernel_rfl)<|SMw rfl<|SMd rfl<|SMw rfl<|SMd rfl<|SFd lFlowMod_11 Zdx rfl<|Zu Z73 8 rfl<|SFd lFlowMod_12 Zd1 rfl<|Zu Z4r 8 rfl<|Sd (lo [30,31] [] rfl fun S hs hr=>Z24 (l:=l25) hvl1002_324 rfl rfl rfl Z25 (vh hs 30 rfl rfl) (vh hs 31 rfl rfl) hx33)<|Sd (lo [38] [] rfl fun S hs hr=>Z6j lFlow_5 rfl rfl Zhk (vh hs 38 rfl rfl))<|Sd (Z3d [39,35] [1002] rfl fun S hs hr=>Z2b 1002 rfl rfl Z73 (vh hs 39 rfl rfl) ((hr 1002 rfl).trans rfl) (Z0l hx33).2 (vh hs 35 rfl rfl))<|Sd (lo [32,33] [] rfl fun S hs hr=>Z24 (l:=(List.set l25 (i26:Int).toNat {x33 with Match:=x31.Match})) hvl1002_324 (by simp) rfl rfl Z25 (vh hs 32 rfl rfl) (vh hs 33 rfl rfl) hx34)<|Sd (lo [40] [] rfl fun S hs hr=>Z6j lFlow_6 rfl rfl Z7q (vh hs 40 rfl rfl))<|Sd (Z3d [41,37] [1002] rfl fun S hs hr=>Z2b 1002 rfl rfl Z4r (vh hs 41 rfl rfl) ((hr 1002 rfl).trans rfl) (Z0l hx34).2 (vh hs 37 rfl rfl))<|Sn<|Rg<|Ac (Z0a (t:=21) rfl rfl (vt rfl) (vk rfl) (vt rfl) hlti26) rfl<|Md rfl<|Nl ?_
   exact ⟨(_,_,_),Nat.lt_succ_self _,⟨hsf3.next,h⟩,FX rfl⟩
def Zge (s1:(List Bucket))(x2:(Bucket→Option Bool)):Nat→Nat→Option Int
 | 0,i3=>some (-1)
 | m4+1,i3=>(lget s1 (i3:Int)).bind fun x5=>(x2 x5).bind fun x6=>(bif x6 then some (i3:Int) else (Zge s1 x2 m4) (i3+1))
def Zi5 (s1:(List Bucket))(x2:(Bucket→Option Bool)):Option Int:=
 Zge s1 x2 ((s1.length:Int):Int).toNat 0
theorem Zzt:Q2 Tryz.prog 116 (rd (Z1 Z16)) (fn1 Tryz.prog Z16 Z3) (rd (Z0 .i64)) Zi5:=fun s1 x2 r h=>I0 Tryz.func116 rfl Tryz.ntmps116 rfl fun w H Z=>by
 unfold Zi5 at h
 refine SR<|Ak rfl<|Nl<|sq<|SR<|Md rfl<|Ac (Z07 rfl rfl Z2y (vt rfl)) rfl<|Mk rfl<|Nl<|bk<|LG (d:=[]) (ν:=Nat×Nat) (fun (m4,i3)=>(Cnt (s1.length:Int) i3 m4∧Zge s1 x2 m4 i3=some r,m4,[(0,rd (Z1 Z16) s1),(1,fn1 Tryz.prog Z16 Z3 x2),(7,rd (Z0 .i64) (s1.length:Int)),(8,rd (Z0 .i64) (i3:Int))],[])) (((s1.length:Int):Int).toNat,0) ⟨Cnt.start _,h⟩ (FX rfl) ?_
 rintro ⟨m4,i3⟩ ⟨hsf1,h⟩
 dsimp only at hsf1 h ⊢
 cases m4 with
 | zero=>
  unfold Zge at h
  refine SR<|Ac (Zh rfl rfl (vt rfl) (vt rfl)) rfl<|Nl<|sq<|Cn rfl (fun hc=>absurd (of_decide_eq_true hc) hsf1.zero) (fun hc=>?_)
  refine xt<|SR<|Ak rfl<|Nl<|rt ?_
  cases h;exact Z9 Tryz.results116 rfl (Z5 rfl)
 | succ m4=>
  unfold Zge at h
  refine SR<|Ac (Zh rfl rfl (vt rfl) (vt rfl)) rfl<|Nl<|sq<|Cn rfl (fun hc=>?_) (fun hc=>absurd hsf1.succ (of_decide_eq_false hc))
  have hlti3:=of_decide_eq_true hc
  refine sk<|sq<|bk<|SR<|Md rfl<|As rfl<|Nl<|sq ?_
  obtain ⟨x5,hx5,x6,hx6,h⟩:=bs2 h
  refine Rg<|Ac (Zk (A:=fn1 Tryz.prog Z16 Z3 x2) rfl rfl (vt rfl)) rfl<|Md rfl<|Md rfl<|Ac (Z0d rfl rfl Z2y (vt rfl) (vt rfl) hx5) rfl<|Lp1 Z76 rfl<|Ac (Z2z hx6 rfl rfl (vt rfl) (vt rfl)) rfl<|Nl<|Cq rfl h (fun h=>?_) (fun h=>?_)
  ·refine SR<|Md rfl<|As rfl<|Nl<|rt ?_
   cases h;exact Z9 Tryz.results116 rfl (Z5 rfl)
  ·refine sk<|Rg<|Ac (Z0a (t:=7) rfl rfl (vt rfl) (vk rfl) (vt rfl) hlti3) rfl<|Md rfl<|Nl ?_
   exact ⟨(_,_),Nat.lt_succ_self _,⟨hsf1.next,h⟩,FX rfl⟩
end Go.Proofs.YtjppkmpecdbepaaGreatDoor.W
set_option maxHeartbeats 1000000
set_option maxRecDepth 4000
namespace Go.Proofs.YtjppkmpecdbepaaGreatDoor.W
open Go Go.Wb
theorem Y3z:Ent Tryz.prog 116:=Ent.mk Tryz.func116 rfl rfl
theorem Zbi:Ent Tryz.prog 158:=Ent.mk Tryz.func158 rfl rfl
theorem Y76:Ent Tryz.prog 260:=Ent.mk Tryz.func260 rfl rfl
theorem Zk9:Ent Tryz.prog 223:=Ent.mk Tryz.func223 rfl rfl
def Zpr (s1:(List Bucket))(x2:(Bucket→Option Bool)):Option Bool:=
 (Zi5 s1 x2).bind fun x3=>some (decide (x3≥0))
theorem Yl0:Q2 Tryz.prog 66 (rd (Z1 Z16)) (fn1 Tryz.prog Z16 Z3) (rd Z3) Zpr:=fun s1 x2 r h=>I0 Tryz.func66 rfl Tryz.ntmps66 rfl fun w H Z=>by
 unfold Zpr at h
 refine SR<|Ab rfl<|Nl<|sq ?_
 obtain ⟨x3,hx3,h⟩:=Z6 h
 refine Rg<|Md rfl<|Ac (Zk (A:=fn1 Tryz.prog Z16 Z3 x2) rfl rfl (vt rfl)) rfl<|Cl [5,6] (Zzt _ _ _ hx3) Y3z rfl<|Ac (Z1z rfl rfl (vt rfl) (vk rfl)) rfl<|As rfl<|Nl<|rt ?_
 cases h;exact Z9 Tryz.results66 rfl (Z5 rfl)
def Zt1 (p1:Int):Option Bool:=
 some (((decide (p1>0))&&(decide (p1≤4294967040)))||(decide (p1=4294967293)))
theorem Y6n:Q1 Tryz.prog 215 (rd (Z0 .i64)) (rd Z3) Zt1:=fun p1 r h=>I0 Tryz.func215 rfl Tryz.ntmps215 rfl fun w H Z=>by
 unfold Zt1 at h
 refine SR<|Ab rfl<|Nl<|SR<|Md rfl<|Ac (Z1s rfl rfl (vt rfl) (vk rfl)) rfl<|Md rfl<|Gd rfl (fun hq=>Zk (A:=rd (Z0 .i64) p1) rfl rfl (vt rfl))<|Gd rfl (fun hq=>Z50 rfl rfl (Z8 rfl hq) (vk rfl))<|Ac (Z0h rfl rfl (vt rfl) (vt rfl)) rfl<|Md rfl<|Gd rfl (fun hq=>Zk (A:=rd (Z0 .i64) p1) rfl rfl (vt rfl))<|Gd rfl (fun hq=>Zy rfl rfl (Z8 rfl hq) (vk rfl))<|Ac (Z1u rfl rfl (vt rfl) (vt rfl)) rfl<|As rfl<|Nl<|rt ?_
 cases h;exact Z9 Tryz.results215 rfl (Z5 rfl)
def Z85 (x1:Int):Option Bool:=
 some ((decide (x1≥0))&&(decide (x1<24)))
theorem Zcm:Q1 Tryz.prog 158 (rd (Z0 .i64)) (rd Z3) Z85:=fun x1 r h=>I0 Tryz.func158 rfl Tryz.ntmps158 rfl fun w H Z=>by
 unfold Z85 at h
 refine SR<|Ab rfl<|Nl<|SR<|Md rfl<|Ac (Z1z rfl rfl (vt rfl) (vk rfl)) rfl<|Md rfl<|Gd rfl (fun hq=>Zk (A:=rd (Z0 .i64) x1) rfl rfl (vt rfl))<|Gd rfl (fun hq=>Zh rfl rfl (Z8 rfl hq) (vk rfl))<|Ac (Z0h rfl rfl (vt rfl) (vt rfl)) rfl<|As rfl<|Nl<|rt ?_
 cases h;exact Z9 Tryz.results158 rfl (Z5 rfl)
def Zr1:Option Ycb:=
 some (Vector.set (Vector.set (Vector.set (Vector.set (Vector.set (Vector.set (Vector.set (Vector.set (Vector.set (Vector.set (Vector.set (Vector.set (Vector.set (Vector.set (Vector.set (Vector.set (Vector.set (Vector.set (Vector.set (Vector.set (Vector.set (Vector.set (Vector.set (Vector.set (Vector.replicate 24 Zga) 0 (⟨{data:= #[105,110,95,112,111,114,116]},0,32,false⟩:field_row) (by decide)) 1 (⟨{data:= #[109,101,116,97,100,97,116,97]},2,64,true⟩:field_row) (by decide)) 2 (⟨{data:= #[101,116,104,95,100,115,116]},3,48,true⟩:field_row) (by decide)) 3 (⟨{data:= #[101,116,104,95,115,114,99]},4,48,true⟩:field_row) (by decide)) 4 (⟨{data:= #[101,116,104,95,116,121,112,101]},5,16,false⟩:field_row) (by decide)) 5 (⟨{data:= #[118,108,97,110,95,118,105,100]},6,13,true⟩:field_row) (by decide)) 6 (⟨{data:= #[118,108,97,110,95,112,99,112]},7,3,false⟩:field_row) (by decide)) 7 (⟨{data:= #[105,112,95,100,115,99,112]},8,6,false⟩:field_row) (by decide)) 8 (⟨{data:= #[105,112,95,101,99,110]},9,2,false⟩:field_row) (by decide)) 9 (⟨{data:= #[105,112,95,112,114,111,116,111]},10,8,false⟩:field_row) (by decide)) 10 (⟨{data:= #[105,112,118,52,95,115,114,99]},11,32,true⟩:field_row) (by decide)) 11 (⟨{data:= #[105,112,118,52,95,100,115,116]},12,32,true⟩:field_row) (by decide)) 12 (⟨{data:= #[116,99,112,95,115,114,99]},13,16,false⟩:field_row) (by decide)) 13 (⟨{data:= #[116,99,112,95,100,115,116]},14,16,false⟩:field_row) (by decide)) 14 (⟨{data:= #[117,100,112,95,115,114,99]},15,16,false⟩:field_row) (by decide)) 15 (⟨{data:= #[117,100,112,95,100,115,116]},16,16,false⟩:field_row) (by decide)) 16 (⟨{data:= #[105,99,109,112,118,52,95,116,121,112,101]},19,8,false⟩:field_row) (by decide)) 17 (⟨{data:= #[105,99,109,112,118,52,95,99,111,100,101]},20,8,false⟩:field_row) (by decide)) 18 (⟨{data:= #[97,114,112,95,111,112]},21,16,false⟩:field_row) (by decide)) 19 (⟨{data:= #[97,114,112,95,115,112,97]},22,32,true⟩:field_row) (by decide)) 20 (⟨{data:= #[97,114,112,95,116,112,97]},23,32,true⟩:field_row) (by decide)) 21 (⟨{data:= #[105,112,118,54,95,115,114,99]},26,128,true⟩:field_row) (by decide)) 22 (⟨{data:= #[105,112,118,54,95,100,115,116]},27,128,true⟩:field_row) (by decide)) 23 (⟨{data:= #[109,112,108,115,95,108,97,98,101,108]},34,20,false⟩:field_row) (by decide))
theorem Yiu:Q0 Tryz.prog 260 (rd (Z4 24 Z1r)) Zr1:=fun r h=>I0 Tryz.func260 rfl Tryz.ntmps260 rfl fun w H Z=>by
 unfold Zr1 at h
 refine SR<|Cv rfl (Zo 1 rfl rfl Y0z) fun g1=>Nl<|SR<|Ac (Z23 (ps:=[(0,.const (Value.string {data:= #[105,110,95,112,111,114,116]})),(1,.const (Value.int IntKind.i64 0)),(2,.const (Value.int IntKind.i64 32)),(3,.const (Value.bool false))]) (x:=(⟨{data:= #[105,110,95,112,111,114,116]},0,32,false⟩:field_row)) rfl rfl rfl (by kernel_rfl) Z2t ⟨_,_,Z32,_,by kernel_rfl,(vs (by decide)),_,_,lfield_row_1,_,by kernel_rfl,(vk rfl),_,_,Z2i,_,by kernel_rfl,(vk rfl),_,_,Z2q,_,by kernel_rfl,vb,rfl⟩) rfl<|Ac (Z23 (ps:=[(0,.const (Value.string {data:= #[109,101,116,97,100,97,116,97]})),(1,.const (Value.int IntKind.i64 2)),(2,.const (Value.int IntKind.i64 64)),(3,.const (Value.bool true))]) (x:=(⟨{data:= #[109,101,116,97,100,97,116,97]},2,64,true⟩:field_row)) rfl rfl rfl (by kernel_rfl) Z2t ⟨_,_,Z32,_,by kernel_rfl,(vs (by decide)),_,_,lfield_row_1,_,by kernel_rfl,(vk rfl),_,_,Z2i,_,by kernel_rfl,(vk rfl),_,_,Z2q,_,by kernel_rfl,vb,rfl⟩) rfl<|Ac (Z23 (ps:=[(0,.const (Value.string {data:= #[101,116,104,95,100,115,116]})),(1,.const (Value.int IntKind.i64 3)),(2,.const (Value.int IntKind.i64 48)),(3,.const (Value.bool true))]) (x:=(⟨{data:= #[101,116,104,95,100,115,116]},3,48,true⟩:field_row)) rfl rfl rfl (by kernel_rfl) Z2t ⟨_,_,Z32,_,by kernel_rfl,(vs (by decide)),_,_,lfield_row_1,_,by kernel_rfl,(vk rfl),_,_,Z2i,_,by kernel_rfl,(vk rfl),_,_,Z2q,_,by kernel_rfl,vb,rfl⟩) rfl<|Ac (Z23 (ps:=[(0,.const (Value.string {data:= #[101,116,104,95,115,114,99]})),(1,.const (Value.int IntKind.i64 4)),(2,.const (Value.int IntKind.i64 48)),(3,.const (Value.bool true))]) (x:=(⟨{data:= #[101,116,104,95,115,114,99]},4,48,true⟩:field_row)) rfl rfl rfl (by kernel_rfl) Z2t ⟨_,_,Z32,_,by kernel_rfl,(vs (by decide)),_,_,lfield_row_1,_,by kernel_rfl,(vk rfl),_,_,Z2i,_,by kernel_rfl,(vk rfl),_,_,Z2q,_,by kernel_rfl,vb,rfl⟩) rfl<|Ac (Z23 (ps:=[(0,.const (Value.string {data:= #[101,116,104,95,116,121,112,101]})),(1,.const (Value.int IntKind.i64 5)),(2,.const (Value.int IntKind.i64 16)),(3,.const (Value.bool false))]) (x:=(⟨{data:= #[101,116,104,95,116,121,112,101]},5,16,false⟩:field_row)) rfl rfl rfl (by kernel_rfl) Z2t ⟨_,_,Z32,_,by kernel_rfl,(vs (by decide)),_,_,lfield_row_1,_,by kernel_rfl,(vk rfl),_,_,Z2i,_,by kernel_rfl,(vk rfl),_,_,Z2q,_,by kernel_rfl,vb,rfl⟩) rfl<|Ac (Z23 (ps:=[(0,.const (Value.string {data:= #[118,108,97,110,95,118,105,100]})),(1,.const (Value.int IntKind.i64 6)),(2,.const (Value.int IntKind.i64 13)),(3,.const (Value.bool true))]) (x:=(⟨{data:= #[118,108,97,110,95,118,105,100]},6,13,true⟩:field_row)) rfl rfl rfl (by kernel_rfl) Z2t ⟨_,_,Z32,_,by kernel_rfl,(vs (by decide)),_,_,lfield_row_1,_,by kernel_rfl,(vk rfl),_,_,Z2i,_,by kernel_rfl,(vk rfl),_,_,Z2q,_,by kernel_rfl,vb,rfl⟩) rfl ?_
 refine Ac (Z23 (ps:=[(0,.const (Value.string {data:= #[118,108,97,110,95,112,99,112]})),(1,.const (Value.int IntKind.i64 7)),(2,.const (Value.int IntKind.i64 3)),(3,.const (Value.bool false))]) (x:=(⟨{data:= #[118,108,97,110,95,112,99,112]},7,3,false⟩:field_row)) rfl rfl rfl (by kernel_rfl) Z2t ⟨_,_,Z32,_,by kernel_rfl,(vs (by decide)),_,_,lfield_row_1,_,by kernel_rfl,(vk rfl),_,_,Z2i,_,by kernel_rfl,(vk rfl),_,_,Z2q,_,by kernel_rfl,vb,rfl⟩) rfl<|Ac (Z23 (ps:=[(0,.const (Value.string {data:= #[105,112,95,100,115,99,112]})),(1,.const (Value.int IntKind.i64 8)),(2,.const (Value.int IntKind.i64 6)),(3,.const (Value.bool false))]) (x:=(⟨{data:= #[105,112,95,100,115,99,112]},8,6,false⟩:field_row)) rfl rfl rfl (by kernel_rfl) Z2t ⟨_,_,Z32,_,by kernel_rfl,(vs (by decide)),_,_,lfield_row_1,_,by kernel_rfl,(vk rfl),_,_,Z2i,_,by kernel_rfl,(vk rfl),_,_,Z2q,_,by kernel_rfl,vb,rfl⟩) rfl<|Ac (Z23 (ps:=[(0,.const (Value.string {data:= #[105,112,95,101,99,110]})),(1,.const (Value.int IntKind.i64 9)),(2,.const (Value.int IntKind.i64 2)),(3,.const (Value.bool false))]) (x:=(⟨{data:= #[105,112,95,101,99,110]},9,2,false⟩:field_row)) rfl rfl rfl (by kernel_rfl) Z2t ⟨_,_,Z32,_,by kernel_rfl,(vs (by decide)),_,_,lfield_row_1,_,by kernel_rfl,(vk rfl),_,_,Z2i,_,by kernel_rfl,(vk rfl),_,_,Z2q,_,by kernel_rfl,vb,rfl⟩) rfl<|Ac (Z23 (ps:=[(0,.const (Value.string {data:= #[105,112,95,112,114,111,116,111]})),(1,.const (Value.int IntKind.i64 10)),(2,.const (Value.int IntKind.i64 8)),(3,.const (Value.bool false))]) (x:=(⟨{data:= #[105,112,95,112,114,111,116,111]},10,8,false⟩:field_row)) rfl rfl rfl (by kernel_rfl) Z2t ⟨_,_,Z32,_,by kernel_rfl,(vs (by decide)),_,_,lfield_row_1,_,by kernel_rfl,(vk rfl),_,_,Z2i,_,by kernel_rfl,(vk rfl),_,_,Z2q,_,by kernel_rfl,vb,rfl⟩) rfl<|Ac (Z23 (ps:=[(0,.const (Value.string {data:= #[105,112,118,52,95,115,114,99]})),(1,.const (Value.int IntKind.i64 11)),(2,.const (Value.int IntKind.i64 32)),(3,.const (Value.bool true))]) (x:=(⟨{data:= #[105,112,118,52,95,115,114,99]},11,32,true⟩:field_row)) rfl rfl rfl (by kernel_rfl) Z2t ⟨_,_,Z32,_,by kernel_rfl,(vs (by decide)),_,_,lfield_row_1,_,by kernel_rfl,(vk rfl),_,_,Z2i,_,by kernel_rfl,(vk rfl),_,_,Z2q,_,by kernel_rfl,vb,rfl⟩) rfl<|Ac (Z23 (ps:=[(0,.const (Value.string {data:= #[105,112,118,52,95,100,115,116]})),(1,.const (Value.int IntKind.i64 12)),(2,.const (Value.int IntKind.i64 32)),(3,.const (Value.bool true))]) (x:=(⟨{data:= #[105,112,118,52,95,100,115,116]},12,32,true⟩:field_row)) rfl rfl rfl (by kernel_rfl) Z2t ⟨_,_,Z32,_,by kernel_rfl,(vs (by decide)),_,_,lfield_row_1,_,by kernel_rfl,(vk rfl),_,_,Z2i,_,by kernel_rfl,(vk rfl),_,_,Z2q,_,by kernel_rfl,vb,rfl⟩) rfl ?_
 refine Ac (Z23 (ps:=[(0,.const (Value.string {data:= #[116,99,112,95,115,114,99]})),(1,.const (Value.int IntKind.i64 13)),(2,.const (Value.int IntKind.i64 16)),(3,.const (Value.bool false))]) (x:=(⟨{data:= #[116,99,112,95,115,114,99]},13,16,false⟩:field_row)) rfl rfl rfl (by kernel_rfl) Z2t ⟨_,_,Z32,_,by kernel_rfl,(vs (by decide)),_,_,lfield_row_1,_,by kernel_rfl,(vk rfl),_,_,Z2i,_,by kernel_rfl,(vk rfl),_,_,Z2q,_,by kernel_rfl,vb,rfl⟩) rfl<|Ac (Z23 (ps:=[(0,.const (Value.string {data:= #[116,99,112,95,100,115,116]})),(1,.const (Value.int IntKind.i64 14)),(2,.const (Value.int IntKind.i64 16)),(3,.const (Value.bool false))]) (x:=(⟨{data:= #[116,99,112,95,100,115,116]},14,16,false⟩:field_row)) rfl rfl rfl (by kernel_rfl) Z2t ⟨_,_,Z32,_,by kernel_rfl,(vs (by decide)),_,_,lfield_row_1,_,by kernel_rfl,(vk rfl),_,_,Z2i,_,by kernel_rfl,(vk rfl),_,_,Z2q,_,by kernel_rfl,vb,rfl⟩) rfl<|Ac (Z23 (ps:=[(0,.const (Value.string {data:= #[117,100,112,95,115,114,99]})),(1,.const (Value.int IntKind.i64 15)),(2,.const (Value.int IntKind.i64 16)),(3,.const (Value.bool false))]) (x:=(⟨{data:= #[117,100,112,95,115,114,99]},15,16,false⟩:field_row)) rfl rfl rfl (by kernel_rfl) Z2t ⟨_,_,Z32,_,by kernel_rfl,(vs (by decide)),_,_,lfield_row_1,_,by kernel_rfl,(vk rfl),_,_,Z2i,_,by kernel_rfl,(vk rfl),_,_,Z2q,_,by kernel_rfl,vb,rfl⟩) rfl<|Ac (Z23 (ps:=[(0,.const (Value.string {data:= #[117,100,112,95,100,115,116]})),(1,.const (Value.int IntKind.i64 16)),(2,.const (Value.int IntKind.i64 16)),(3,.const (Value.bool false))]) (x:=(⟨{data:= #[117,100,112,95,100,115,116]},16,16,false⟩:field_row)) rfl rfl rfl (by kernel_rfl) Z2t ⟨_,_,Z32,_,by kernel_rfl,(vs (by decide)),_,_,lfield_row_1,_,by kernel_rfl,(vk rfl),_,_,Z2i,_,by kernel_rfl,(vk rfl),_,_,Z2q,_,by kernel_rfl,vb,rfl⟩) rfl<|Ac (Z23 (ps:=[(0,.const (Value.string {data:= #[105,99,109,112,118,52,95,116,121,112,101]})),(1,.const (Value.int IntKind.i64 19)),(2,.const (Value.int IntKind.i64 8)),(3,.const (Value.bool false))]) (x:=(⟨{data:= #[105,99,109,112,118,52,95,116,121,112,101]},19,8,false⟩:field_row)) rfl rfl rfl (by kernel_rfl) Z2t ⟨_,_,Z32,_,by kernel_rfl,(vs (by decide)),_,_,lfield_row_1,_,by kernel_rfl,(vk rfl),_,_,Z2i,_,by kernel_rfl,(vk rfl),_,_,Z2q,_,by kernel_rfl,vb,rfl⟩) rfl<|Ac (Z23 (ps:=[(0,.const (Value.string {data:= #[105,99,109,112,118,52,95,99,111,100,101]})),(1,.const (Value.int IntKind.i64 20)),(2,.const (Value.int IntKind.i64 8)),(3,.const (Value.bool false))]) (x:=(⟨{data:= #[105,99,109,112,118,52,95,99,111,100,101]},20,8,false⟩:field_row)) rfl rfl rfl (by kernel_rfl) Z2t ⟨_,_,Z32,_,by kernel_rfl,(vs (by decide)),_,_,lfield_row_1,_,by kernel_rfl,(vk rfl),_,_,Z2i,_,by kernel_rfl,(vk rfl),_,_,Z2q,_,by kernel_rfl,vb,rfl⟩) rfl ?_
 refine Ac (Z23 (ps:=[(0,.const (Value.string {data:= #[97,114,112,95,111,112]})),(1,.const (Value.int IntKind.i64 21)),(2,.const (Value.int IntKind.i64 16)),(3,.const (Value.bool false))]) (x:=(⟨{data:= #[97,114,112,95,111,112]},21,16,false⟩:field_row)) rfl rfl rfl (by kernel_rfl) Z2t ⟨_,_,Z32,_,by kernel_rfl,(vs (by decide)),_,_,lfield_row_1,_,by kernel_rfl,(vk rfl),_,_,Z2i,_,by kernel_rfl,(vk rfl),_,_,Z2q,_,by kernel_rfl,vb,rfl⟩) rfl<|Ac (Z23 (ps:=[(0,.const (Value.string {data:= #[97,114,112,95,115,112,97]})),(1,.const (Value.int IntKind.i64 22)),(2,.const (Value.int IntKind.i64 32)),(3,.const (Value.bool true))]) (x:=(⟨{data:= #[97,114,112,95,115,112,97]},22,32,true⟩:field_row)) rfl rfl rfl (by kernel_rfl) Z2t ⟨_,_,Z32,_,by kernel_rfl,(vs (by decide)),_,_,lfield_row_1,_,by kernel_rfl,(vk rfl),_,_,Z2i,_,by kernel_rfl,(vk rfl),_,_,Z2q,_,by kernel_rfl,vb,rfl⟩) rfl<|Ac (Z23 (ps:=[(0,.const (Value.string {data:= #[97,114,112,95,116,112,97]})),(1,.const (Value.int IntKind.i64 23)),(2,.const (Value.int IntKind.i64 32)),(3,.const (Value.bool true))]) (x:=(⟨{data:= #[97,114,112,95,116,112,97]},23,32,true⟩:field_row)) rfl rfl rfl (by kernel_rfl) Z2t ⟨_,_,Z32,_,by kernel_rfl,(vs (by decide)),_,_,lfield_row_1,_,by kernel_rfl,(vk rfl),_,_,Z2i,_,by kernel_rfl,(vk rfl),_,_,Z2q,_,by kernel_rfl,vb,rfl⟩) rfl<|Ac (Z23 (ps:=[(0,.const (Value.string {data:= #[105,112,118,54,95,115,114,99]})),(1,.const (Value.int IntKind.i64 26)),(2,.const (Value.int IntKind.i64 128)),(3,.const (Value.bool true))]) (x:=(⟨{data:= #[105,112,118,54,95,115,114,99]},26,128,true⟩:field_row)) rfl rfl rfl (by kernel_rfl) Z2t ⟨_,_,Z32,_,by kernel_rfl,(vs (by decide)),_,_,lfield_row_1,_,by kernel_rfl,(vk rfl),_,_,Z2i,_,by kernel_rfl,(vk rfl),_,_,Z2q,_,by kernel_rfl,vb,rfl⟩) rfl<|Ac (Z23 (ps:=[(0,.const (Value.string {data:= #[105,112,118,54,95,100,115,116]})),(1,.const (Value.int IntKind.i64 27)),(2,.const (Value.int IntKind.i64 128)),(3,.const (Value.bool true))]) (x:=(⟨{data:= #[105,112,118,54,95,100,115,116]},27,128,true⟩:field_row)) rfl rfl rfl (by kernel_rfl) Z2t ⟨_,_,Z32,_,by kernel_rfl,(vs (by decide)),_,_,lfield_row_1,_,by kernel_rfl,(vk rfl),_,_,Z2i,_,by kernel_rfl,(vk rfl),_,_,Z2q,_,by kernel_rfl,vb,rfl⟩) rfl<|Ac (Z23 (ps:=[(0,.const (Value.string {data:= #[109,112,108,115,95,108,97,98,101,108]})),(1,.const (Value.int IntKind.i64 34)),(2,.const (Value.int IntKind.i64 20)),(3,.const (Value.bool false))]) (x:=(⟨{data:= #[109,112,108,115,95,108,97,98,101,108]},34,20,false⟩:field_row)) rfl rfl rfl (by kernel_rfl) Z2t ⟨_,_,Z32,_,by kernel_rfl,(vs (by decide)),_,_,lfield_row_1,_,by kernel_rfl,(vk rfl),_,_,Z2i,_,by kernel_rfl,(vk rfl),_,_,Z2q,_,by kernel_rfl,vb,rfl⟩) rfl ?_
 refine Ac (Z23 (ps:=[(0,.tmp 1),(1,.tmp 2),(2,.tmp 3),(3,.tmp 4),(4,.tmp 5),(5,.tmp 6),(6,.tmp 7),(7,.tmp 8),(8,.tmp 9),(9,.tmp 10),(10,.tmp 11),(11,.tmp 12),(12,.tmp 13),(13,.tmp 14),(14,.tmp 15),(15,.tmp 16),(16,.tmp 17),(17,.tmp 18),(18,.tmp 19),(19,.tmp 20),(20,.tmp 21),(21,.tmp 22),(22,.tmp 23),(23,.tmp 24)]) (x:=(Vector.set (Vector.set (Vector.set (Vector.set (Vector.set (Vector.set (Vector.set (Vector.set (Vector.set (Vector.set (Vector.set (Vector.set (Vector.set (Vector.set (Vector.set (Vector.set (Vector.set (Vector.set (Vector.set (Vector.set (Vector.set (Vector.set (Vector.set (Vector.set (Vector.replicate 24 Zga) 0 (⟨{data:= #[105,110,95,112,111,114,116]},0,32,false⟩:field_row) (by decide)) 1 (⟨{data:= #[109,101,116,97,100,97,116,97]},2,64,true⟩:field_row) (by decide)) 2 (⟨{data:= #[101,116,104,95,100,115,116]},3,48,true⟩:field_row) (by decide)) 3 (⟨{data:= #[101,116,104,95,115,114,99]},4,48,true⟩:field_row) (by decide)) 4 (⟨{data:= #[101,116,104,95,116,121,112,101]},5,16,false⟩:field_row) (by decide)) 5 (⟨{data:= #[118,108,97,110,95,118,105,100]},6,13,true⟩:field_row) (by decide)) 6 (⟨{data:= #[118,108,97,110,95,112,99,112]},7,3,false⟩:field_row) (by decide)) 7 (⟨{data:= #[105,112,95,100,115,99,112]},8,6,false⟩:field_row) (by decide)) 8 (⟨{data:= #[105,112,95,101,99,110]},9,2,false⟩:field_row) (by decide)) 9 (⟨{data:= #[105,112,95,112,114,111,116,111]},10,8,false⟩:field_row) (by decide)) 10 (⟨{data:= #[105,112,118,52,95,115,114,99]},11,32,true⟩:field_row) (by decide)) 11 (⟨{data:= #[105,112,118,52,95,100,115,116]},12,32,true⟩:field_row) (by decide)) 12 (⟨{data:= #[116,99,112,95,115,114,99]},13,16,false⟩:field_row) (by decide)) 13 (⟨{data:= #[116,99,112,95,100,115,116]},14,16,false⟩:field_row) (by decide)) 14 (⟨{data:= #[117,100,112,95,115,114,99]},15,16,false⟩:field_row) (by decide)) 15 (⟨{data:= #[117,100,112,95,100,115,116]},16,16,false⟩:field_row) (by decide)) 16 (⟨{data:= #[105,99,109,112,118,52,95,116,121,112,101]},19,8,false⟩:field_row) (by decide)) 17 (⟨{data:= #[105,99,109,112,118,52,95,99,111,100,101]},20,8,false⟩:field_row) (by decide)) 18 (⟨{data:= #[97,114,112,95,111,112]},21,16,false⟩:field_row) (by decide)) 19 (⟨{data:= #[97,114,112,95,115,112,97]},22,32,true⟩:field_row) (by decide)) 20 (⟨{data:= #[97,114,112,95,116,112,97]},23,32,true⟩:field_row) (by decide)) 21 (⟨{data:= #[105,112,118,54,95,115,114,99]},26,128,true⟩:field_row) (by decide)) 22 (⟨{data:= #[105,112,118,54,95,100,115,116]},27,128,true⟩:field_row) (by decide)) 23 (⟨{data:= #[109,112,108,115,95,108,97,98,101,108]},34,20,false⟩:field_row) (by decide))) rfl rfl rfl (by kernel_rfl) Y0z ⟨_,_,Lens.idx 24 Z1r 0 (by decide),_,by kernel_rfl,(vt rfl),_,_,Lens.idx 24 Z1r 1 (by decide),_,by kernel_rfl,(vt rfl),_,_,Lens.idx 24 Z1r 2 (by decide),_,by kernel_rfl,(vt rfl),_,_,Lens.idx 24 Z1r 3 (by decide),_,by kernel_rfl,(vt rfl),_,_,Lens.idx 24 Z1r 4 (by decide),_,by kernel_rfl,(vt rfl),_,_,Lens.idx 24 Z1r 5 (by decide),_,by kernel_rfl,(vt rfl),_,_,Lens.idx 24 Z1r 6 (by decide),_,by kernel_rfl,(vt rfl),_,_,Lens.idx 24 Z1r 7 (by decide),_,by kernel_rfl,(vt rfl),_,_,Lens.idx 24 Z1r 8 (by decide),_,by kernel_rfl,(vt rfl),_,_,Lens.idx 24 Z1r 9 (by decide),_,by kernel_rfl,(vt rfl),_,_,Lens.idx 24 Z1r 10 (by decide),_,by kernel_rfl,(vt rfl),_,_,Lens.idx 24 Z1r 11 (by decide),_,by kernel_rfl,(vt rfl),_,_,Lens.idx 24 Z1r 12 (by decide),_,by kernel_rfl,(vt rfl),_,_,Lens.idx 24 Z1r 13 (by decide),_,by kernel_rfl,(vt rfl),_,_,Lens.idx 24 Z1r 14 (by decide),_,by kernel_rfl,(vt rfl),_,_,Lens.idx 24 Z1r 15 (by decide),_,by kernel_rfl,(vt rfl),_,_,Lens.idx 24 Z1r 16 (by decide),_,by kernel_rfl,(vt rfl),_,_,Lens.idx 24 Z1r 17 (by decide),_,by kernel_rfl,(vt rfl),_,_,Lens.idx 24 Z1r 18 (by decide),_,by kernel_rfl,(vt rfl),_,_,Lens.idx 24 Z1r 19 (by decide),_,by kernel_rfl,(vt rfl),_,_,Lens.idx 24 Z1r 20 (by decide),_,by kernel_rfl,(vt rfl),_,_,Lens.idx 24 Z1r 21 (by decide),_,by kernel_rfl,(vt rfl),_,_,Lens.idx 24 Z1r 22 (by decide),_,by kernel_rfl,(vt rfl),_,_,Lens.idx 24 Z1r 23 (by decide),_,by kernel_rfl,(vt rfl),rfl⟩) rfl ?_
 refine Ze Zyf 1 rfl<|Nl<|rt ?_
 cases h;exact Z9 Tryz.results260 rfl (Zv rfl (i:=1) rfl Zyf)
def Zc8 (x1:Int):Option field_row:=
 (Z85 x1).bind fun x3=>(bif (!x3) then some (⟨(⟨#[]⟩:ByteArray),(-1),0,false⟩:field_row) else (Zr1).bind fun x4=>(lget (Vector.toList x4) x1).bind fun x5=>some x5)
theorem Zjp:Q1 Tryz.prog 223 (rd (Z0 .i64)) (rd Z1r) Zc8:=fun x1 r h=>I0 Tryz.func223 rfl Tryz.ntmps223 rfl fun w H Z=>by
 unfold Zc8 at h
 refine SR<|Cv rfl (Zo 3 rfl rfl Z2t) fun g2=>Nl<|sq<|sq ?_
 obtain ⟨x3,hx3,h⟩:=Z6 h
 refine Rg<|Md rfl<|Cl [3] (Zcm _ _ hx3) Zbi rfl<|Ac (Z0g rfl rfl (vt rfl)) rfl<|Nl<|Cq rfl h (fun h=>?_) (fun h=>?_)
 ·refine SR<|Ac (opb (⟨(⟨#[]⟩:ByteArray),(-1),0,false⟩:field_row) Z2t rfl Ybb (pc Yii (vk rfl)<|pn rfl)) rfl<|Ze Zf2 3 rfl<|Nl<|rt ?_
  cases h;exact Z9 Tryz.results223 rfl (Zv rfl (i:=3) rfl Zf2)
 ·refine sk<|sq ?_
  obtain ⟨x4,hx4,x5,hx5,h⟩:=bs2 h
  refine Rg<|Cl [] (Yiu _ hx4) Y76 rfl<|Md rfl<|Ac (Z7n rfl rfl Yk4 Zf2 (vt rfl) (vt rfl) hx5) rfl<|Ze Zf2 3 rfl<|Nl<|rt ?_
  cases h;exact Z9 Tryz.results223 rfl (Zv rfl (i:=3) rfl Zf2)
def Zu0 (x1:Int):Option Bool:=
 (Zc8 x1).bind fun x2=>some x2.masks
theorem Y8u:Q1 Tryz.prog 220 (rd (Z0 .i64)) (rd Z3) Zu0:=fun x1 r h=>I0 Tryz.func220 rfl Tryz.ntmps220 rfl fun w H Z=>by
 unfold Zu0 at h
 refine SR<|Ab rfl<|Nl<|sq ?_
 obtain ⟨x2,hx2,h⟩:=Z6 h
 refine Rg<|Md rfl<|Cl [3] (Zjp _ _ hx2) Zk9 rfl<|Ac (Z7o Z2q rfl rfl Ygb Ymy ty4 rfl (vt rfl)) rfl<|As rfl<|Nl<|rt ?_
 cases h;exact Z9 Tryz.results220 rfl (Z5 rfl)
def Z7c (a1:Wide):Option Bool:=
 some (decide ((a1.Hi||| a1.Lo)=(0:BitVec 64)))
theorem Z9a:Q1 Tryz.prog 221 (rd Zw) (rd Z3) Z7c:=fun a1 r h=>I0 Tryz.func221 rfl Tryz.ntmps221 rfl fun w H Z=>by
 unfold Z7c at h
 refine SR<|Cv rfl (Zm 2 rfl rfl (vt rfl)) fun g2=>Ab rfl<|Nl<|SR<|Zf lWide_0 Z5d rfl<|Ld Z1q 2 rfl<|Zf lWide_1 Z5t rfl<|Ld Z1q 2 rfl<|Ac (Zk0 rfl rfl (vt rfl) (vt rfl)) rfl<|Ac (Ziu rfl rfl (vt rfl) (vku (0:BitVec 64) rfl)) rfl<|As rfl<|Nl<|rt ?_
 cases h;exact Z9 Tryz.results221 rfl (Z5 rfl)
def Zmh (x1:Int):Option Int:=
 (Zc8 x1).bind fun x2=>some x2.bits
theorem Y00:Q1 Tryz.prog 259 (rd (Z0 .i64)) (rd (Z0 .i64)) Zmh:=fun x1 r h=>I0 Tryz.func259 rfl Tryz.ntmps259 rfl fun w H Z=>by
 unfold Zmh at h
 refine SR<|Ak rfl<|Nl<|sq ?_
 obtain ⟨x2,hx2,h⟩:=Z6 h
 refine Rg<|Md rfl<|Cl [3] (Zjp _ _ hx2) Zk9 rfl<|Ac (Z7o Z2i rfl rfl Zxk Y0s Zc rfl (vt rfl)) rfl<|As rfl<|Nl<|rt ?_
 cases h;exact Z9 Tryz.results259 rfl (Z5 rfl)
def Zih (n1:Int):Option (BitVec 64):=
 (bif (decide (n1≥64)) then some (18446744073709551615:BitVec 64) else (Zg4 (1:BitVec 64) (Z4b n1 0)).bind fun q2=>some (q2 - (1:BitVec 64)))
theorem Y10:Q1 Tryz.prog 160 (rd (Z0 .i64)) (rd Zx) Zih:=fun n1 r h=>I0 Tryz.func160 rfl Tryz.ntmps160 rfl fun w H Z=>by
 unfold Zih at h
 refine SR<|Ac (Zn (A:=rd Zx (0:BitVec 64)) rfl rfl (vku (0:BitVec 64) rfl)) rfl<|Nl<|sq<|SR<|Md rfl<|Ac (Z1z rfl rfl (vt rfl) (vk rfl)) rfl<|Nl<|Cq rfl h (fun h=>?_) (fun h=>?_)
 ·refine SR<|Ac (Zn (A:=rd Zx (18446744073709551615:BitVec 64)) rfl rfl (vku (18446744073709551615:BitVec 64) rfl)) rfl<|Nl<|rt ?_
  cases h;exact Z9 Tryz.results160 rfl (Z5 rfl)
 ·refine sk<|sq ?_
  obtain ⟨q2,hq2,h⟩:=Z6 h
  refine Rg<|Md rfl<|Ac (Za2 rfl rfl (vt rfl) (vk rfl)) rfl<|Ac (Zxx rfl rfl (vku (1:BitVec 64) rfl) (vt rfl) hq2) rfl<|Ac (Ych rfl rfl (vt rfl) (vku (1:BitVec 64) rfl)) rfl<|As rfl<|Nl<|rt ?_
  cases h;exact Z9 Tryz.results160 rfl (Z5 rfl)
end Go.Proofs.YtjppkmpecdbepaaGreatDoor.W
set_option maxHeartbeats 1000000
set_option maxRecDepth 4000
namespace Go.Proofs.YtjppkmpecdbepaaGreatDoor.W
open Go Go.Wb
theorem Zyk:Ent Tryz.prog 160:=Ent.mk Tryz.func160 rfl rfl
theorem Y0a:Ent Tryz.prog 259:=Ent.mk Tryz.func259 rfl rfl
theorem Zew:Ent Tryz.prog 104:=Ent.mk Tryz.func104 rfl rfl
theorem Z8b:Ent Tryz.prog 152:=Ent.mk Tryz.func152 rfl rfl
theorem Z8q:Ent Tryz.prog 221:=Ent.mk Tryz.func221 rfl rfl
theorem Yfu:Ent Tryz.prog 258:=Ent.mk Tryz.func258 rfl rfl
theorem Yml:Ent Tryz.prog 220:=Ent.mk Tryz.func220 rfl rfl
theorem Y92:Ent Tryz.prog 222:=Ent.mk Tryz.func222 rfl rfl
theorem Yla:Ent Tryz.prog 215:=Ent.mk Tryz.func215 rfl rfl
theorem Y2y:Ent Tryz.prog 181:=Ent.mk Tryz.func181 rfl rfl
theorem Yj1:Ent Tryz.prog 216:=Ent.mk Tryz.func216 rfl rfl
theorem Y8x:Ent Tryz.prog 125:=Ent.mk Tryz.func125 rfl rfl
def Za6 (n1:Int):Option Wide:=
 (Zih (IntKind.i64.wrap ((Z6s (Z4b n1 0) 128) - 64))).bind fun x3=>(Zih (Z6s (Z4b n1 0) 128)).bind fun x4=>some (⟨x3,x4⟩:Wide)
theorem Zem:Q1 Tryz.prog 104 (rd (Z0 .i64)) (rd Zw) Za6:=fun n1 r h=>I0 Tryz.func104 rfl Tryz.ntmps104 rfl fun w H Z=>by
 unfold Za6 at h
 refine SR<|Cv rfl (Zo 3 rfl rfl Z39) fun g2=>Nl<|SR<|Md rfl<|Ac (Za2 rfl rfl (vt rfl) (vk rfl)) rfl<|Ac (Zmp rfl rfl (vt rfl) (vk rfl)) rfl<|As rfl<|Nl<|sq ?_
 obtain ⟨x3,hx3,x4,hx4,h⟩:=bs2 h
 refine Rg<|Md rfl<|Ac (Z14 rfl rfl (vt rfl) (vk rfl)) rfl<|Cl [7] (Y10 _ _ hx3) Zyk rfl<|Md rfl<|Cl [9] (Y10 _ _ hx4) Zyk rfl<|Ac (opb (⟨x3,x4⟩:Wide) Z39 rfl Z5z (pc Zct (vt rfl)<|pc Z7y (vt rfl)<|pn rfl)) rfl<|Ze Z06 3 rfl<|Nl<|rt ?_
 cases h;exact Z9 Tryz.results104 rfl (Zv rfl (i:=3) rfl Z06)
def Z7a (a1:Wide)(b2:Wide):Option Wide:=
 some (⟨(a1.Hi&&& ~~~b2.Hi),(a1.Lo&&& ~~~b2.Lo)⟩:Wide)
theorem Z95:Q2 Tryz.prog 152 (rd Zw) (rd Zw) (rd Zw) Z7a:=fun a1 b2 r h=>I0 Tryz.func152 rfl Tryz.ntmps152 rfl fun w H Z=>by
 unfold Z7a at h
 refine SR<|Cv rfl (Zm 3 rfl rfl (vt rfl)) fun g3=>Cv rfl (Zm 4 rfl rfl (vt rfl)) fun g4=>Cv rfl (Zo 5 rfl rfl Z39) fun g5=>Nl<|SR<|Zf lWide_0 Z5d rfl<|Ld Z1q 3 rfl<|Zf lWide_0 Z5d rfl<|Ld Z1q 4 rfl<|Ac (Zwl rfl rfl (vt rfl) (vt rfl)) rfl<|Zf lWide_1 Z5t rfl<|Ld Z1q 3 rfl<|Zf lWide_1 Z5t rfl<|Ld Z1q 4 rfl<|Ac (Zwl rfl rfl (vt rfl) (vt rfl)) rfl<|Ac (opb (⟨(a1.Hi&&& ~~~b2.Hi),(a1.Lo&&& ~~~b2.Lo)⟩:Wide) Z39 rfl Z5z (pc Zct (vt rfl)<|pc Z7y (vt rfl)<|pn rfl)) rfl<|Ze Z06 5 rfl<|Nl<|rt ?_
 cases h;exact Z9 Tryz.results152 rfl (Zv rfl (i:=5) rfl Z06)
def Z6x (w1:Wide)(x2:Oxm):Option Bool:=
 (Zmh x2.Field).bind fun x4=>(Za6 x4).bind fun x5=>(Z7a w1 x5).bind fun x6=>(Z7c x6).bind fun x7=>some (!x7)
theorem Yn6:Q2 Tryz.prog 258 (rd Zw) (rp Z0e) (rd Z3) Z6x:=fun w1 x2 r h=>I0 Tryz.func258 rfl Tryz.ntmps258 rfl fun w H Z=>by
 unfold Z6x at h
 refine SR<|Cv rfl (Zm 3 rfl rfl (vt rfl)) fun g3=>Ab rfl<|Nl<|sq ?_
 obtain ⟨x4,hx4,x5,hx5,x6,hx6,x7,hx7,h⟩:=bs4 h
 refine AR Z03 (by kernel_rfl)<|Zu Z06 3 rfl<|SFp lOxm_0 Z45 rfl<|SLp Zc rfl<|SCl [6] (Y00 _ _ hx4) Y0a rfl<|SCl [7] (Zem _ _ hx5) Zew rfl<|SCl [4,8] (Z95 _ _ _ hx6) Z8b rfl<|SCl [9] (Z9a _ _ hx7) Z8q rfl<|Sd (lo [10] [] rfl fun S hs hr=>Z0g rfl rfl (vh hs 10 rfl rfl))<|SAs rfl<|Sn<|rt ?_
 cases h;exact Z9 Tryz.results258 rfl (Z5 rfl)
def Zo0 (o1:Oxm):Option Int:=
 ((fun x=>Z6x x o1) o1.Value).bind fun x3=>(bif x3 then some 7 else (bif (!o1.Masked) then some 0 else ((fun x=>Z6x x o1) o1.Mask).bind fun x4=>(opt (!x4) (Z7c o1.Mask)).bind fun x5=>(bif (x4||x5) then some 8 else (Z7a o1.Value o1.Mask).bind fun x6=>(Z7c x6).bind fun x7=>(bif (!x7) then some 5 else some 0))))
theorem Y5t:Q1 Tryz.prog 222 (rd Z0e) (rd (Z0 .i64)) Zo0:=fun o1 r h=>I0 Tryz.func222 rfl Tryz.ntmps222 rfl fun w H Z=>by
 unfold Zo0 at h
 refine SR<|Cv rfl (Zm 2 rfl rfl (vt rfl)) fun g2=>Ak rfl<|Nl<|sq<|AW.freezeB 1 2 rfl rfl rfl<|Rg<|Ac (Z30 (cs:=[.tmp 1]) (CAs:=[rp Z0e o1]) (fun x=>Z6x x o1) rfl rfl Yfu ⟨vt rfl,trivial⟩ (fun x y h=>Yn6 _ _ y h)) rfl<|Ac (Zn (A:=fn1 Tryz.prog Zw Z3 (fun x=>Z6x x o1)) rfl rfl (vt rfl)) rfl<|Nl<|sq<|bk<|sq ?_
 obtain ⟨x3,hx3,h⟩:=Z6 h
 refine Rg<|Ac (Zk (A:=fn1 Tryz.prog Zw Z3 (fun x=>Z6x x o1)) rfl rfl (vt rfl)) rfl<|Fp lOxm_2 Zbw rfl<|Lp1 Z06 rfl<|Ac (Z2z (F:=(fun x=>Z6x x o1)) hx3 rfl rfl (vt rfl) (vt rfl)) rfl<|As rfl<|Nl<|Cq rfl h (fun h=>?_) (fun h=>?_)
 ·refine SR<|Ak rfl<|Nl<|rt ?_
  cases h;exact Z9 Tryz.results222 rfl (Z5 rfl)
 ·refine SR<|Fp Z91 Z9x rfl<|Lp1 ty4 rfl<|Ac (Z0g rfl rfl (vt rfl)) rfl<|As rfl<|Nl<|Cq rfl h (fun h=>?_) (fun h=>?_)
  ·refine SR<|Ak rfl<|Nl<|rt ?_
   cases h;exact Z9 Tryz.results222 rfl (Z5 rfl)
  ·refine sq ?_
   obtain ⟨x4,hx4,x5,hx5,h⟩:=bs2 h
   refine Rg<|Ac (Zk (A:=fn1 Tryz.prog Zw Z3 (fun x=>Z6x x o1)) rfl rfl (vt rfl)) rfl<|Fp Zac Zbm rfl<|Lp1 Z06 rfl<|Ac (Z2z (F:=(fun x=>Z6x x o1)) hx4 rfl rfl (vt rfl) (vt rfl)) rfl<|Md rfl<|Gd rfl (fun hq=>Z4n Zac rfl rfl Zbm (vt rfl))<|Gd rfl (fun hq=>Z4i rfl rfl Z06 (Z8 rfl hq))<|Gd rfl (fun hq=>Zz (xs:=[.tmp 21]) (Z9a _ _ (Z4a hx5 hq)) Z8q rfl rfl ⟨Z8 rfl hq,trivial⟩)<|Ac (Z1u rfl rfl (vt rfl) (vt rfl)) rfl<|As rfl<|Nl<|Cq rfl h (fun h=>?_) (fun h=>?_)
   ·refine SR<|Ak rfl<|Nl<|rt ?_
    cases h;exact Z9 Tryz.results222 rfl (Z5 rfl)
   ·refine sq ?_
    obtain ⟨x6,hx6,x7,hx7,h⟩:=bs2 h
    refine Rg<|Fp lOxm_2 Zbw rfl<|Lp1 Z06 rfl<|Fp Zac Zbm rfl<|Lp1 Z06 rfl<|Cl [26,28] (Z95 _ _ _ hx6) Z8b rfl<|Cl [29] (Z9a _ _ hx7) Z8q rfl<|Ac (Z0g rfl rfl (vt rfl)) rfl<|As rfl<|Nl<|Cq rfl h (fun h=>?_) (fun h=>?_)
    ·refine SR<|Ak rfl<|Nl<|rt ?_
     cases h;exact Z9 Tryz.results222 rfl (Z5 rfl)
    ·refine sk<|SR<|Ak rfl<|Nl<|rt ?_
     cases h;exact Z9 Tryz.results222 rfl (Z5 rfl)
def Zmt (o1:Oxm):Option Bool:=
 (Z85 o1.Field).bind fun x3=>(opt (((!x3)==false)&&(o1.Masked==true)) (Zu0 o1.Field)).bind fun x4=>(opt ((((!x3)||(o1.Masked&&(!x4)))==false)&&((!o1.Masked)==true)) (Z7c o1.Mask)).bind fun x5=>(bif (((!x3)||(o1.Masked&&(!x4)))||((!o1.Masked)&&(!x5))) then some false else (Zo0 o1).bind fun x6=>some (decide (x6=0)))
theorem Y19:Q1 Tryz.prog 181 (rd Z0e) (rd Z3) Zmt:=fun o1 r h=>I0 Tryz.func181 rfl Tryz.ntmps181 rfl fun w H Z=>by
 unfold Zmt at h
 refine SR<|Cv rfl (Zm 2 rfl rfl (vt rfl)) fun g2=>Ab rfl<|Nl<|sq<|sq ?_
 obtain ⟨x3,hx3,x4,hx4,x5,hx5,h⟩:=bs3 h
 refine Rg<|Zf lOxm_0 Z45 rfl<|Ld Zc 2 rfl<|Cl [4] (Zcm _ _ hx3) Zbi rfl<|Ac (Z0g rfl rfl (vt rfl)) rfl<|Md rfl<|Gd rfl (fun hq=>Z0i Z91 rfl rfl Z9x (vt rfl))<|Gd rfl (fun hq=>Z08 rfl rfl ty4 (Z8 rfl hq) (i:=2) rfl)<|AOps.consG (OpG.guardX rfl rfl rfl rfl rfl fun hq=>Zk (A:=rd Z3 o1.Masked) rfl rfl (Z8 rfl hq))<|AOps.consG (OpG.guardN rfl rfl rfl rfl rfl fun hq=>Z0i lOxm_0 rfl rfl Z45 (vt rfl))<|AOps.consG (OpG.guardN rfl rfl rfl rfl rfl fun hq=>Z08 rfl rfl Zc (Z8 rfl hq) (i:=2) rfl)<|AOps.consG (OpG.guardN rfl rfl rfl rfl rfl fun hq=>Zz (xs:=[.tmp 12]) (Y8u _ _ (Zj8 hx4 hq)) Yml rfl rfl ⟨Z8 rfl hq,trivial⟩)<|AOps.consG (OpG.guardN rfl rfl rfl rfl rfl fun hq=>Z0g rfl rfl (Z8 rfl hq))<|Gd rfl (fun hq=>Z0h rfl rfl (vgx rfl hq) (vgw rfl hq))<|Ac (Z1u rfl rfl (vt rfl) (vt rfl)) rfl<|Md rfl<|Gd rfl (fun hq=>Z0i Z91 rfl rfl Z9x (vt rfl))<|Gd rfl (fun hq=>Z08 rfl rfl ty4 (Z8 rfl hq) (i:=2) rfl)<|Gd rfl (fun hq=>Z0g rfl rfl (Z8 rfl hq))<|AOps.consG (OpG.guardX rfl rfl rfl rfl rfl fun hq=>Zk (A:=rd Z3 (!o1.Masked)) rfl rfl (Z8 rfl hq))<|AOps.consG (OpG.guardN rfl rfl rfl rfl rfl fun hq=>Z0i Zac rfl rfl Zbm (vt rfl))<|AOps.consG (OpG.guardN rfl rfl rfl rfl rfl fun hq=>Z08 rfl rfl Z06 (Z8 rfl hq) (i:=2) rfl)<|AOps.consG (OpG.guardN rfl rfl rfl rfl rfl fun hq=>Zz (xs:=[.tmp 23]) (Z9a _ _ (Zj8 hx5 hq)) Z8q rfl rfl ⟨Z8 rfl hq,trivial⟩)<|AOps.consG (OpG.guardN rfl rfl rfl rfl rfl fun hq=>Z0g rfl rfl (Z8 rfl hq))<|Gd rfl (fun hq=>Z0h rfl rfl (vgx rfl hq) (vgw rfl hq))<|Ac (Z1u rfl rfl (vt rfl) (vt rfl)) rfl<|Nl<|Cq rfl h (fun h=>?_) (fun h=>?_)
 ·refine SR<|Ab rfl<|Nl<|rt ?_
  cases h;exact Z9 Tryz.results181 rfl (Z5 rfl)
 ·refine sk<|sq ?_
  obtain ⟨x6,hx6,h⟩:=Z6 h
  refine Rg<|Ld Z3m 2 rfl<|Cl [28] (Y5t _ _ hx6) Y92 rfl<|Ac (Zy rfl rfl (vt rfl) (vk rfl)) rfl<|As rfl<|Nl<|rt ?_
  cases h;exact Z9 Tryz.results181 rfl (Z5 rfl)
def Zrk (x1:Int):Option Bool:=
 (Z85 x1).bind fun x2=>some ((x2&&(decide (x1≠0)))&&(decide (x1≠1)))
theorem Yn4:Q1 Tryz.prog 216 (rd (Z0 .i64)) (rd Z3) Zrk:=fun x1 r h=>I0 Tryz.func216 rfl Tryz.ntmps216 rfl fun w H Z=>by
 unfold Zrk at h
 refine SR<|Ab rfl<|Nl<|sq ?_
 obtain ⟨x2,hx2,h⟩:=Z6 h
 refine Rg<|Md rfl<|Cl [3] (Zcm _ _ hx2) Zbi rfl<|Md rfl<|Gd rfl (fun hq=>Zk (A:=rd (Z0 .i64) x1) rfl rfl (vt rfl))<|Gd rfl (fun hq=>Z2j rfl rfl (Z8 rfl hq) (vk rfl))<|Ac (Z0h rfl rfl (vt rfl) (vt rfl)) rfl<|Md rfl<|Gd rfl (fun hq=>Zk (A:=rd (Z0 .i64) x1) rfl rfl (vt rfl))<|Gd rfl (fun hq=>Z2j rfl rfl (Z8 rfl hq) (vk rfl))<|Ac (Z0h rfl rfl (vt rfl) (vt rfl)) rfl<|As rfl<|Nl<|rt ?_
 cases h;exact Z9 Tryz.results216 rfl (Z5 rfl)
def Z99 (a1:Action)(b4:Action)(o5:Bool):Option Bool:=
 some (o5&&(decide (a1=b4)))
def Zr8 (a1:Action):Option Bool:=
 (bif (decide (a1.Kind=0)) then (Zt1 a1.Port).bind fun x6=>Z99 a1 {{(⟨a1.Kind,0,0,0,0,Z3p⟩:Action) with Port:=a1.Port} with Max:=a1.Max} (((x6&&(decide (a1.Max≥0)))&&(decide (a1.Max≤65535)))&&((decide (a1.Max=0))||(decide (a1.Port=4294967293)))) else (bif (decide (a1.Kind=22)) then Z99 a1 {(⟨a1.Kind,0,0,0,0,Z3p⟩:Action) with Group:=a1.Group} ((decide (a1.Group≥0))&&(decide (a1.Group≤4294967040))) else (bif (decide (a1.Kind=17)) then Z99 a1 {(⟨a1.Kind,0,0,0,0,Z3p⟩:Action) with Ether:=a1.Ether} ((decide (a1.Ether=33024))||(decide (a1.Ether=34984))) else (bif (decide (a1.Kind=18)) then Z99 a1 (⟨a1.Kind,0,0,0,0,Z3p⟩:Action) true else (bif (decide (a1.Kind=25)) then (Zmt a1.Oxm).bind fun x7=>(opt (x7&&(!a1.Oxm.Masked)) (Zrk a1.Oxm.Field)).bind fun x8=>Z99 a1 {(⟨a1.Kind,0,0,0,0,Z3p⟩:Action) with Oxm:=a1.Oxm} ((x7&&(!a1.Oxm.Masked))&&x8) else Z99 a1 (⟨a1.Kind,0,0,0,0,Z3p⟩:Action) false)))))
theorem Yk1:Q1 Tryz.prog 174 (rd Zj) (rd Z3) Zr8:=fun a1 r h=>I0 Tryz.func174 rfl Tryz.ntmps174 rfl fun w H Z=>by
 unfold Zr8 at h
 refine SR<|Cv rfl (Zm 2 rfl rfl (vt rfl)) fun g2=>Ab rfl<|Nl<|SR<|Zf lAction_0 Z57 rfl<|Ld Zc 2 rfl<|Ac (opb (⟨a1.Kind,0,0,0,0,Z3p⟩:Action) Z48 rfl Zrw (pc Zq5 (vt rfl)<|pn rfl)) rfl<|Cv rfl (Zo 4 rfl rfl Z48) fun g3=>Ze Z0v 4 rfl<|Nl<|SR<|Ab rfl<|Nl ?_
 refine JN (d:=[]) (ν:=Action×Bool) (fun (b4,o5)=>(Z99 a1 b4 o5=some r,[(1,Za g2 (Lens.id Zj)),(3,Za g3 (Lens.id Zj)),(4,rd Z3 o5)],[(2,Zd g2 109 Zj a1),(4,Zd g3 109 Zj b4)])) ?hx1 ?hy1
 case hy1=>
  rintro ⟨b4,o5⟩ h
  dsimp only at h ⊢
  unfold Z99 at h
  refine SR<|Md rfl<|Md rfl<|Gd rfl (fun hq=>Z08 rfl rfl Z0v (vt rfl) (i:=2) rfl)<|Gd rfl (fun hq=>Z08 rfl rfl Z0v (vt rfl) (i:=4) rfl)<|Gd rfl (fun hq=>Z98 rfl rfl Y3u (by decide) rfl Zy1 (Z8 rfl hq) (Z8 rfl hq))<|Ac (Z0h rfl rfl (vt rfl) (vt rfl)) rfl<|As rfl<|Nl<|rt ?_
  cases h;exact Z9 Tryz.results174 rfl (Z5 rfl)
 case hx1=>
  refine SR<|Zf lAction_0 Z57 rfl<|Ld Zc 2 rfl<|Nl<|bk<|SR<|Ac (Zy rfl rfl (vt rfl) (vk rfl)) rfl<|As rfl<|Nl<|Cq rfl h (fun h=>?_) (fun h=>?_)
  ·refine sq<|AR Z03 (by kernel_rfl)<|SFd lAction_1 Z8k rfl<|Zu Zc 2 rfl<|SFd Z81 Zao rfl<|Zu Zc 2 rfl<|SFd lAction_1 Z8k rfl<|SSt Zc 4 rfl<|SFd Z81 Zao rfl<|SSt Zc 4 rfl<|Sn ?_
   obtain ⟨x6,hx6,h⟩:=Z6 h
   refine Rg<|Zf lAction_1 Z8k rfl<|Ld Zc 2 rfl<|Cl [19] (Y6n _ _ hx6) Yla rfl<|Md rfl<|Gd rfl (fun hq=>Z0i Z81 rfl rfl Zao (vt rfl))<|Gd rfl (fun hq=>Z08 rfl rfl Zc (Z8 rfl hq) (i:=2) rfl)<|Gd rfl (fun hq=>Z1z rfl rfl (Z8 rfl hq) (vk rfl))<|Ac (Z0h rfl rfl (vt rfl) (vt rfl)) rfl<|Md rfl<|Gd rfl (fun hq=>Z0i Z81 rfl rfl Zao (vt rfl))<|Gd rfl (fun hq=>Z08 rfl rfl Zc (Z8 rfl hq) (i:=2) rfl)<|Gd rfl (fun hq=>Z50 rfl rfl (Z8 rfl hq) (vk rfl))<|Ac (Z0h rfl rfl (vt rfl) (vt rfl)) rfl<|Md rfl<|Gd rfl (fun hq=>Z0i Z81 rfl rfl Zao (vt rfl))<|Gd rfl (fun hq=>Z08 rfl rfl Zc (Z8 rfl hq) (i:=2) rfl)<|Gd rfl (fun hq=>Zy rfl rfl (Z8 rfl hq) (vk rfl))<|AOps.consG (OpG.guardX rfl rfl rfl rfl rfl fun hq=>Zk (A:=rd Z3 (decide (a1.Max=0))) rfl rfl (Z8 rfl hq))<|AOps.consG (OpG.guardN rfl rfl rfl rfl rfl fun hq=>Z0i lAction_1 rfl rfl Z8k (vt rfl))<|AOps.consG (OpG.guardN rfl rfl rfl rfl rfl fun hq=>Z08 rfl rfl Zc (Z8 rfl hq) (i:=2) rfl)<|AOps.consG (OpG.guardN rfl rfl rfl rfl rfl fun hq=>Zy rfl rfl (Z8 rfl hq) (vk rfl))<|Gd rfl (fun hq=>Z1u rfl rfl (vgx rfl hq) (vgw rfl hq))<|Ac (Z0h rfl rfl (vt rfl) (vt rfl)) rfl<|As rfl<|Nl ?_
   exact ⟨(_,_),h,FX rfl⟩
  ·refine SR<|Ac (Zy rfl rfl (vt rfl) (vk rfl)) rfl<|As rfl<|Nl<|Cq rfl h (fun h=>?_) (fun h=>?_)
   ·refine SR<|Zf lAction_3 Z9e rfl<|Ld Zc 2 rfl<|Zf lAction_3 Z9e rfl<|Ze Zc 4 rfl<|Nl<|Rg<|Zf lAction_3 Z9e rfl<|Ld Zc 2 rfl<|Ac (Z1z rfl rfl (vt rfl) (vk rfl)) rfl<|Md rfl<|Gd rfl (fun hq=>Z0i lAction_3 rfl rfl Z9e (vt rfl))<|Gd rfl (fun hq=>Z08 rfl rfl Zc (Z8 rfl hq) (i:=2) rfl)<|Gd rfl (fun hq=>Z50 rfl rfl (Z8 rfl hq) (vk rfl))<|Ac (Z0h rfl rfl (vt rfl) (vt rfl)) rfl<|As rfl<|Nl ?_
    exact ⟨(_,_),h,FX rfl⟩
   ·refine SR<|Ac (Zy rfl rfl (vt rfl) (vk rfl)) rfl<|As rfl<|Nl<|Cq rfl h (fun h=>?_) (fun h=>?_)
    ·refine SR<|Zf Zcj Zd5 rfl<|Ld Zc 2 rfl<|Zf Zcj Zd5 rfl<|Ze Zc 4 rfl<|Nl<|Rg<|Zf Zcj Zd5 rfl<|Ld Zc 2 rfl<|Ac (Zy rfl rfl (vt rfl) (vk rfl)) rfl<|Md rfl<|Gd rfl (fun hq=>Z0i Zcj rfl rfl Zd5 (vt rfl))<|Gd rfl (fun hq=>Z08 rfl rfl Zc (Z8 rfl hq) (i:=2) rfl)<|Gd rfl (fun hq=>Zy rfl rfl (Z8 rfl hq) (vk rfl))<|Ac (Z1u rfl rfl (vt rfl) (vt rfl)) rfl<|As rfl<|Nl ?_
     exact ⟨(_,_),h,FX rfl⟩
    ·refine SR<|Ac (Zy rfl rfl (vt rfl) (vk rfl)) rfl<|As rfl<|Nl<|Cq rfl h (fun h=>?_) (fun h=>?_)
     ·refine sk ?_
      exact ⟨(_,_),h,FX rfl⟩
     ·refine SR<|Ac (Zy rfl rfl (vt rfl) (vk rfl)) rfl<|As rfl<|Nl<|Cq rfl h (fun h=>?_) (fun h=>?_)
      ·refine SR<|Zf Z6g Z6r rfl<|Ld Z3m 2 rfl<|Zf Z6g Z6r rfl<|Ze Z3m 4 rfl<|Nl ?_
       obtain ⟨x7,hx7,x8,hx8,h⟩:=bs2 h
       refine Rg<|Zf Z6g Z6r rfl<|Ld Z3m 2 rfl<|Cl [75] (Y19 _ _ hx7) Y2y rfl<|Md rfl<|Gd rfl (fun hq=>Z0i Z6g rfl rfl Z6r (vt rfl))<|Gd rfl (fun hq=>Z0i Z91 rfl rfl Z9x (Z8 rfl hq))<|Gd rfl (fun hq=>Z08 rfl rfl ty4 (Z8 rfl hq) (i:=2) rfl)<|Gd rfl (fun hq=>Z0g rfl rfl (Z8 rfl hq))<|Ac (Z0h rfl rfl (vt rfl) (vt rfl)) rfl<|Md rfl<|Gd rfl (fun hq=>Z0i Z6g rfl rfl Z6r (vt rfl))<|Gd rfl (fun hq=>Z0i lOxm_0 rfl rfl Z45 (Z8 rfl hq))<|Gd rfl (fun hq=>Z08 rfl rfl Zc (Z8 rfl hq) (i:=2) rfl)<|Gd rfl (fun hq=>Zz (xs:=[.tmp 86]) (Yn4 _ _ (Z1p hx8 hq)) Yj1 rfl rfl ⟨Z8 rfl hq,trivial⟩)<|Ac (Z0h rfl rfl (vt rfl) (vt rfl)) rfl<|As rfl<|Nl ?_
       exact ⟨(_,_),h,FX rfl⟩
      ·refine Rg<|Ab rfl<|Nl ?_
       exact ⟨(_,_),h,FX rfl⟩
def Zq8 (s1:Int):Option Bool:=
 some (((decide (s1=1))||(decide (s1=2)))||(decide (s1=4)))
theorem Y7l:Q1 Tryz.prog 125 (rd (Z0 .i64)) (rd Z3) Zq8:=fun s1 r h=>I0 Tryz.func125 rfl Tryz.ntmps125 rfl fun w H Z=>by
 unfold Zq8 at h
 refine SR<|Ab rfl<|Nl<|SR<|Md rfl<|Ac (Zy rfl rfl (vt rfl) (vk rfl)) rfl<|Md rfl<|Gd rfl (fun hq=>Zk (A:=rd (Z0 .i64) s1) rfl rfl (vt rfl))<|Gd rfl (fun hq=>Zy rfl rfl (Z8 rfl hq) (vk rfl))<|Ac (Z1u rfl rfl (vt rfl) (vt rfl)) rfl<|Md rfl<|Gd rfl (fun hq=>Zk (A:=rd (Z0 .i64) s1) rfl rfl (vt rfl))<|Gd rfl (fun hq=>Zy rfl rfl (Z8 rfl hq) (vk rfl))<|Ac (Z1u rfl rfl (vt rfl) (vt rfl)) rfl<|As rfl<|Nl<|rt ?_
 cases h;exact Z9 Tryz.results125 rfl (Z5 rfl)
def Z7z (n1:Int)(s2:Int):Option Bool:=
 (Zq8 s2).bind fun x3=>(opt (x3&&(decide (n1≥0))) (Zam .i64 n1 (IntKind.i64.wrap (8*s2)))).bind fun q4=>some ((x3&&(decide (n1≥0)))&&(decide (q4=0)))
theorem Zco:Q2 Tryz.prog 78 (rd (Z0 .i64)) (rd (Z0 .i64)) (rd Z3) Z7z:=fun n1 s2 r h=>I0 Tryz.func78 rfl Tryz.ntmps78 rfl fun w H Z=>by
 unfold Z7z at h
 refine SR<|Ab rfl<|Nl<|sq ?_
 obtain ⟨x3,hx3,q4,hq4,h⟩:=bs2 h
 refine Rg<|Md rfl<|Cl [5] (Y7l _ _ hx3) Y8x rfl<|Md rfl<|Gd rfl (fun hq=>Zk (A:=rd (Z0 .i64) n1) rfl rfl (vt rfl))<|Gd rfl (fun hq=>Z1z rfl rfl (Z8 rfl hq) (vk rfl))<|Ac (Z0h rfl rfl (vt rfl) (vt rfl)) rfl<|Md rfl<|Gd rfl (fun hq=>Zk (A:=rd (Z0 .i64) n1) rfl rfl (vt rfl))<|Gd rfl (fun hq=>Zk (A:=rd (Z0 .i64) s2) rfl rfl (vt rfl))<|Gd rfl (fun hq=>Z5f rfl rfl (vk rfl) (Z8 rfl hq))<|Gd rfl (fun hq=>Zlr rfl rfl (Z8 rfl hq) (Z8 rfl hq) (Z1p hq4 hq))<|Gd rfl (fun hq=>Zy rfl rfl (Z8 rfl hq) (vk rfl))<|Ac (Z0h rfl rfl (vt rfl) (vt rfl)) rfl<|As rfl<|Nl<|rt ?_
 cases h;exact Z9 Tryz.results78 rfl (Z5 rfl)
end Go.Proofs.YtjppkmpecdbepaaGreatDoor.W
set_option maxHeartbeats 1000000
set_option maxRecDepth 4000
namespace Go.Proofs.YtjppkmpecdbepaaGreatDoor.W
open Go Go.Wb
theorem e78:Ent Tryz.prog 78:=Ent.mk Tryz.func78 rfl rfl
theorem Y5q:Ent Tryz.prog 182:=Ent.mk Tryz.func182 rfl rfl
theorem Zn0:Ent Tryz.prog 183:=Ent.mk Tryz.func183 rfl rfl
theorem Y83:Ent Tryz.prog 184:=Ent.mk Tryz.func184 rfl rfl
theorem e70:Ent Tryz.prog 70:=Ent.mk Tryz.func70 rfl rfl
theorem Y4i:Ent Tryz.prog 127:=Ent.mk Tryz.func127 rfl rfl
theorem Ylc:Ent Tryz.prog 174:=Ent.mk Tryz.func174 rfl rfl
theorem Yfn:Ent Tryz.prog 175:=Ent.mk Tryz.func175 rfl rfl
theorem Yaz:Ent Tryz.prog 117:=Ent.mk Tryz.func117 rfl rfl
theorem e69:Ent Tryz.prog 69:=Ent.mk Tryz.func69 rfl rfl
def Zhj (b1:(List Int))(s3:Int)(n2:Int):Nat→Nat→Y3a→Option (List Int)
 | 0,i10,b9=>(Z5c b1 (b1.length:Int)).bind fun s12=>(Z3z (Vector.toList b9) (IntKind.i64.wrap (4 - s3))).bind fun s13=>(Zt6 s12 s13).bind fun l14=>some l14
 | m11+1,i10,b9=>(Zam .i64 n2 (IntKind.i64.wrap (24 - (IntKind.i64.wrap (8*(i10:Int)))))).bind fun q16=>(chk 4 (i10:Int)).bind fun j17=>(Zhj b1 s3 n2 m11) (i10+1) (Vector.set b9 j17.1 (IntKind.u8.wrap q16) j17.2)
def Z3h (b1:(List Int))(n2:Int)(s3:Int):Option (List Int):=
 (Z7z n2 s3).bind fun x4=>(bif (!x4) then (Z11 [] b1).bind fun l5=>some l5 else Zhj b1 s3 n2 (4:Int).toNat 0 (Vector.replicate 4 0))
theorem Z5p (b1:(List Int))(n2:Int)(s3:Int)(r:(List Int))(h:Z3h b1 n2 s3=some r):Con Tryz.prog 70 [rd (Z1 (Z0 .u8)) b1,rd (Z0 .i64) n2,rd (Z0 .i64) s3] emp (fun v=>Zg v) (fun v=>Zi v 5 (Z0 .u8) r):=by
 refine Con.intro0 Tryz.func70 rfl Tryz.ntmps70 rfl fun w H Z=>?_
 unfold Z3h at h
 refine sq<|AW.newnil 1001 5 (Z0 .u8)<|Rg<|Ac (Zn rfl rfl vc) rfl<|Nl<|sq<|sq ?_
 obtain ⟨x4,hx4,h⟩:=Z6 h
 refine Rg<|Md rfl<|Md rfl<|Cl [9,10] (Zco _ _ _ hx4) e78 rfl<|Ac (Z0g rfl rfl (vt rfl)) rfl<|Nl<|Cq rfl h (fun h=>?_) (fun h=>?_)
 ·refine sq<|AW.newnil 1002 5 (Z0 .u8) ?_
  obtain ⟨l5,hl5,h⟩:=Z6 h
  refine Rg<|Md rfl<|Cv rfl (Z1f 1002 hl5 rfl rfl Z4q vc rfl (vt rfl)) fun v6=>AOps.renameD 1002 1001 (by decide) rfl<|Aw rfl<|Nl<|rt ?_
  cases h;exact Z29 (i:=1001) Tryz.results70 rfl rfl rfl
 ·refine sk<|SR<|Cv rfl (Zo 8 rfl rfl Yf1) fun g7=>Nl<|sq<|SR<|Mk rfl<|Nl<|bk<|LG (d:=[]) (ν:=Nat×Nat×Y3a) (fun (m11,i10,b9)=>(Cnt 4 i10 m11∧Zhj b1 s3 n2 m11 i10 b9=some r,m11,[(0,rd (Z1 (Z0 .u8)) b1),(1,rd (Z0 .i64) n2),(2,rd (Z0 .i64) s3),(7,Za g7 (Lens.id (Z4 4 (Z0 .u8)))),(15,rd (Z0 .i64) (i10:Int))],[(8,Zd g7 231 (Z4 4 (Z0 .u8)) b9)])) ((4:Int).toNat,0,(Vector.replicate 4 0)) ⟨Cnt.start _,h⟩ (FX rfl) ?_
  rintro ⟨m11,i10,b9⟩ ⟨hsf1,h⟩
  dsimp only at hsf1 h ⊢
  cases m11 with
  | zero=>
   unfold Zhj at h
   refine SR<|Ac (Zh rfl rfl (vt rfl) (vk rfl)) rfl<|Nl<|sq<|Cn rfl (fun hc=>absurd (of_decide_eq_true hc) hsf1.zero) (fun hc=>?_)
   refine xt<|sq<|AW.freezeB 7 8 rfl rfl rfl ?_
   obtain ⟨s12,hs12,s13,hs13,l14,hl14,h⟩:=bs3 h
   refine AR Z03 (by kernel_rfl)<|SMd rfl<|SMd rfl<|Sd (lo [28] [] rfl fun S hs hr=>Z07 rfl rfl Z3w (vh hs 28 rfl rfl))<|SMd rfl<|Sd (lo [30] [] rfl fun S hs hr=>Z07 rfl rfl Z3w (vh hs 30 rfl rfl))<|Sd (lo [27,29,31] [] rfl fun S hs hr=>Zw8 hs12 rfl rfl Z3w (vh hs 27 rfl rfl) (vh hs 29 rfl rfl) (vh hs 31 rfl rfl))<|SMd rfl<|Sd (lo [33] [] rfl fun S hs hr=>Z14 rfl rfl (vk rfl) (vh hs 33 rfl rfl))<|Sd (lo [7,34] [] rfl fun S hs hr=>Zyd hs13 rfl rfl Zzg rfl (vh hs 7 rfl rfl) (vh hs 34 rfl rfl))<|Sd (Z18 (us:=[(36,Z1y 5 (Z0 .u8) l14)]) (ur:=[]) [32,35] [1004] rfl fun S hs hr=>Zye (Yc4 1004 hl14 rfl rfl Z4q (vh hs 32 rfl rfl) (vh hs 35 rfl rfl)) rfl ((hr 1004 rfl).trans rfl))<|Sd (Z18 (us:=[(36,top),(6,Z1y 5 (Z0 .u8) l14)]) (ur:=[]) [36] [1005] rfl fun S hs hr=>Zbt 1005 rfl rfl rfl rfl ((hs 36 rfl).trans rfl) ((hr 1005 rfl).trans rfl))<|Sn<|AW.unpackR 6 1003 rfl rfl fun v15=>AW.renameD 1003 1001 (by decide) rfl<|rt ?_
   cases h;exact Z29 (i:=1001) Tryz.results70 rfl rfl rfl
  | succ m11=>
   unfold Zhj at h
   refine SR<|Ac (Zh rfl rfl (vt rfl) (vk rfl)) rfl<|Nl<|sq<|Cn rfl (fun hc=>?_) (fun hc=>absurd hsf1.succ (of_decide_eq_false hc))
   have hlti10:=of_decide_eq_true hc
   refine sk<|sq<|bk<|SR<|Md rfl<|As rfl<|Nl ?_
   obtain ⟨q16,hq16,j17,hj17,h⟩:=bs2 h
   refine Rg<|Md rfl<|Md rfl<|Md rfl<|Ac (Z5f rfl rfl (vk rfl) (vt rfl)) rfl<|Ac (Z14 rfl rfl (vk rfl) (vt rfl)) rfl<|Ac (Zlr rfl rfl (vt rfl) (vt rfl) hq16) rfl<|Ac (Y2t rfl rfl us3 un5 (vt rfl)) rfl<|Ac (Z2o rfl rfl Zzg (vt rfl) (vt rfl) hj17) rfl<|Ze ty5 8 rfl<|Nl<|Rg<|Ac (Z43 rfl rfl (vt rfl) (vk rfl) rfl hlti10) rfl<|Md rfl<|Nl ?_
   exact ⟨(_,_,_),Nat.lt_succ_self _,⟨hsf1.next,h⟩,FX rfl⟩
theorem Zbn (b1:(List Int))(n2:Int)(s3:Int)(r:(List Int))(h:Z3h b1 n2 s3=some r):PCon Tryz.prog 70 [rd (Z1 (Z0 .u8)) b1,rd (Z0 .i64) n2,rd (Z0 .i64) s3] (rd (Z1 (Z0 .u8)) r):=PCon.of_row (Z5p b1 n2 s3 r h)
def Zth (x1:Int):Option Int:=
 (Zc8 x1).bind fun x2=>(Zam .i64 (IntKind.i64.wrap (x2.bits+7)) ((3:BitVec 64).toNat:Int)).bind fun q3=>some q3
theorem Yb8:Q1 Tryz.prog 182 (rd (Z0 .i64)) (rd (Z0 .i64)) Zth:=fun x1 r h=>I0 Tryz.func182 rfl Tryz.ntmps182 rfl fun w H Z=>by
 unfold Zth at h
 refine SR<|Ak rfl<|Nl<|sq ?_
 obtain ⟨x2,hx2,q3,hq3,h⟩:=bs2 h
 refine Rg<|Md rfl<|Cl [3] (Zjp _ _ hx2) Zk9 rfl<|Ac (Z7o Z2i rfl rfl Zxk Y0s Zc rfl (vt rfl)) rfl<|Ac (Z0o rfl rfl (vt rfl) (vk rfl)) rfl<|Ac (Zlr rfl rfl (vt rfl) (Z4h (vku (3:BitVec 64) rfl)) hq3) rfl<|As rfl<|Nl<|rt ?_
 cases h;exact Z9 Tryz.results182 rfl (Z5 rfl)
def Zdk (b1:(List Int))(s3:Int)(a2:Wide):Nat→Nat→Y3n→Option (List Int)
 | 0,i8,b7=>(Z11 [] b1).bind fun l10=>(Z3z (Vector.toList b7) (IntKind.i64.wrap (16 - (Z6s (Z4b s3 0) 16)))).bind fun s12=>(Z11 l10 s12).bind fun l13=>some l13
 | m9+1,i8,b7=>(Z3o a2.Hi (IntKind.i64.wrap (56 - (IntKind.i64.wrap (8*(i8:Int)))))).bind fun q15=>(Z3o a2.Lo (IntKind.i64.wrap (56 - (IntKind.i64.wrap (8*(i8:Int)))))).bind fun q16=>(chk 16 (i8:Int)).bind fun j17=>(chk 16 (IntKind.i64.wrap (8+(i8:Int)))).bind fun j18=>(Zdk b1 s3 a2 m9) (i8+1) (Vector.set (Vector.set b7 j17.1 (IntKind.u8.wrap (q15.toNat:Int)) j17.2) j18.1 (IntKind.u8.wrap (q16.toNat:Int)) j18.2)
def Zci (b1:(List Int))(a2:Wide)(s3:Int):Option (List Int):=
 Zdk b1 s3 a2 (8:Int).toNat 0 (Vector.replicate 16 0)
theorem Zjt:Q3 Tryz.prog 183 (rd (Z1 (Z0 .u8))) (rd Zw) (rd (Z0 .i64)) (rd (Z1 (Z0 .u8))) Zci:=fun b1 a2 s3 r h=>I0 Tryz.func183 rfl Tryz.ntmps183 rfl fun w H Z=>by
 unfold Zci at h
 refine SR<|Cv rfl (Zm 5 rfl rfl (vt rfl)) fun g4=>Ac (Zn (A:=rd (Z1 (Z0 .u8)) []) rfl rfl Z04) rfl<|Nl<|SR<|Cv rfl (Zo 8 rfl rfl Yg2) fun g5=>Nl<|sq<|SR<|Mk rfl<|Nl<|bk<|LG (d:=[]) (ν:=Nat×Nat×Y3n) (fun (m9,i8,b7)=>(Cnt 8 i8 m9∧Zdk b1 s3 a2 m9 i8 b7=some r,m9,[(0,rd (Z1 (Z0 .u8)) b1),(2,rd (Z0 .i64) s3),(4,Za g4 (Lens.id Zw)),(7,Za g5 (Lens.id (Z4 16 (Z0 .u8)))),(10,rd (Z0 .i64) (i8:Int))],[(5,Zd g4 28 Zw a2),(8,Zd g5 366 (Z4 16 (Z0 .u8)) b7)])) ((8:Int).toNat,0,(Vector.replicate 16 0)) ⟨Cnt.start _,h⟩ (FX rfl) ?_
 rintro ⟨m9,i8,b7⟩ ⟨hsf1,h⟩
 dsimp only at hsf1 h ⊢
 cases m9 with
 | zero=>
  unfold Zdk at h
  refine SR<|Ac (Zh rfl rfl (vt rfl) (vk rfl)) rfl<|Nl<|sq<|Cn rfl (fun hc=>absurd (of_decide_eq_true hc) hsf1.zero) (fun hc=>?_)
  refine xt<|sq<|AW.newnil 1001 5 (Z0 .u8) ?_
  obtain ⟨l10,hl10,h⟩:=Z6 h
  refine Rg<|Md rfl<|Cv rfl (Z1f 1001 hl10 rfl rfl Z4q vc rfl (vt rfl)) fun v11=>Aw rfl<|Nl<|sq<|AW.freezeB 7 8 rfl rfl rfl ?_
  obtain ⟨s12,hs12,l13,hl13,h⟩:=bs2 h
  refine Rg<|Mw rfl<|Md rfl<|Ac (Za2 rfl rfl (vt rfl) (vk rfl)) rfl<|Ac (Zmp rfl rfl (vt rfl) (vk rfl)) rfl<|Ac (Z14 rfl rfl (vk rfl) (vt rfl)) rfl<|Ac (Zyd hs12 rfl rfl Zqb rfl (vt rfl) (vt rfl)) rfl<|Cv rfl (Z1f 1001 hl13 rfl rfl Z4q (vt rfl) rfl (vt rfl)) fun v14=>Aw rfl<|Nl<|AW.freezes [6,41] 1001 rfl ⟨rfl,rfl,trivial⟩ rfl<|rt ?_
  cases h;exact Z9 Tryz.results183 rfl (Z5 rfl)
 | succ m9=>
  unfold Zdk at h
  refine SR<|Ac (Zh rfl rfl (vt rfl) (vk rfl)) rfl<|Nl<|sq<|Cn rfl (fun hc=>?_) (fun hc=>absurd hsf1.succ (of_decide_eq_false hc))
  have hlti8:=of_decide_eq_true hc
  refine sk<|sq<|bk<|SR<|Md rfl<|As rfl<|Nl ?_
  obtain ⟨q15,hq15,q16,hq16,j17,hj17,j18,hj18,h⟩:=bs4 h
  refine AR Z03 (by kernel_rfl)<|SMd rfl<|SMd rfl<|Sd (lo [14] [] rfl fun S hs hr=>Z0o rfl rfl (vk rfl) (vh hs 14 rfl rfl))<|SFd lWide_0 Z5d rfl<|Zu Z1q 5 rfl<|SMd rfl<|Sd (lo [18] [] rfl fun S hs hr=>Z5f rfl rfl (vk rfl) (vh hs 18 rfl rfl))<|Sd (lo [19] [] rfl fun S hs hr=>Z14 rfl rfl (vk rfl) (vh hs 19 rfl rfl))<|Sd (lo [17,20] [] rfl fun S hs hr=>Z4k rfl rfl (vh hs 17 rfl rfl) (vh hs 20 rfl rfl) hq15)<|Sd (lo [21] [] rfl fun S hs hr=>Z6h rfl rfl Zus un5 (vh hs 21 rfl rfl))<|SFd lWide_1 Z5t rfl<|Zu Z1q 5 rfl<|SMd rfl<|Sd (lo [25] [] rfl fun S hs hr=>Z5f rfl rfl (vk rfl) (vh hs 25 rfl rfl))<|Sd (lo [26] [] rfl fun S hs hr=>Z14 rfl rfl (vk rfl) (vh hs 26 rfl rfl))<|Sd (lo [24,27] [] rfl fun S hs hr=>Z4k rfl rfl (vh hs 24 rfl rfl) (vh hs 27 rfl rfl) hq16)<|Sd (lo [28] [] rfl fun S hs hr=>Z6h rfl rfl Zus un5 (vh hs 28 rfl rfl))<|Sd (lo [7,13] [] rfl fun S hs hr=>Z2o rfl rfl Zqb (vh hs 7 rfl rfl) (vh hs 13 rfl rfl) hj17)<|SSt ty5 8 rfl<|Sd (lo [7,15] [] rfl fun S hs hr=>Z2o rfl rfl Zqb (vh hs 7 rfl rfl) (vh hs 15 rfl rfl) hj18)<|SSt ty5 8 rfl<|Sn<|Rg<|Ac (Z43 rfl rfl (vt rfl) (vk rfl) rfl hlti8) rfl<|Md rfl<|Nl ?_
  exact ⟨(_,_,_),Nat.lt_succ_self _,⟨hsf1.next,h⟩,FX rfl⟩
def Zsx (x1:Int):Option Int:=
 (Zc8 x1).bind fun x2=>some x2.id
theorem Y6j:Q1 Tryz.prog 184 (rd (Z0 .i64)) (rd (Z0 .i64)) Zsx:=fun x1 r h=>I0 Tryz.func184 rfl Tryz.ntmps184 rfl fun w H Z=>by
 unfold Zsx at h
 refine SR<|Ak rfl<|Nl<|sq ?_
 obtain ⟨x2,hx2,h⟩:=Z6 h
 refine Rg<|Md rfl<|Cl [3] (Zjp _ _ hx2) Zk9 rfl<|Ac (Z7o lfield_row_1 rfl rfl Y8n Ya9 Zc rfl (vt rfl)) rfl<|As rfl<|Nl<|rt ?_
 cases h;exact Z9 Tryz.results184 rfl (Z5 rfl)
def Zi8 (b8:(List Int))(i9:Int):Option ((List Int)×Int):=
 (Z3h [] 32768 2).bind fun x10=>(Z3h x10 i9 1).bind fun x11=>(Z3h x11 (b8.length:Int) 1).bind fun x12=>(Z11 x12 b8).bind fun l14=>some (l14,0)
def Zk6 (o1:Oxm):Option ((List Int)×Int):=
 (Zmt o1).bind fun x3=>(bif (!x3) then some ([],1) else (Zth o1.Field).bind fun x4=>(Zci [] o1.Value x4).bind fun x5=>(Zsx o1.Field).bind fun x6=>(Zfw .i64 x6 ((1:BitVec 64).toNat:Int)).bind fun q7=>(bif o1.Masked then (Zci x5 o1.Mask x4).bind fun x16=>Zi8 x16 (Z71 .or .i64 q7 1) else Zi8 x5 q7))
theorem Zw9:Q1 Tryz.prog 127 (rd Z0e) (fun r=>Z0t (rd (Z1 (Z0 .u8)) r.1) (rd (Z0 .i64) r.2)) Zk6:=fun o1 r h=>I0 Tryz.func127 rfl Tryz.ntmps127 rfl fun w H Z=>by
 unfold Zk6 at h
 refine SR<|Cv rfl (Zm 2 rfl rfl (vt rfl)) fun g2=>Ac (Zn (A:=rd (Z1 (Z0 .u8)) []) rfl rfl Z04) rfl<|Ak rfl<|Nl<|sq<|sq ?_
 obtain ⟨x3,hx3,h⟩:=Z6 h
 refine Rg<|Ld Z3m 2 rfl<|Cl [8] (Y19 _ _ hx3) Y2y rfl<|Ac (Z0g rfl rfl (vt rfl)) rfl<|Nl<|Cq rfl h (fun h=>?_) (fun h=>?_)
 ·refine SR<|Ac (Zn (A:=rd (Z1 (Z0 .u8)) []) rfl rfl Z04) rfl<|Ak rfl<|Nl<|rt ?_
  cases h;exact Z0c Tryz.results127 rfl (Z5 rfl) (Z5 rfl)
 ·refine sk<|sq ?_
  obtain ⟨x4,hx4,h⟩:=Z6 h
  refine Rg<|Zf lOxm_0 Z45 rfl<|Ld Zc 2 rfl<|Cl [12] (Yb8 _ _ hx4) Y5q rfl<|As rfl<|Nl<|sq ?_
  obtain ⟨x5,hx5,h⟩:=Z6 h
  refine Rg<|Zf lOxm_2 Zbw rfl<|Ld Z06 2 rfl<|Md rfl<|Ac (Zz (xs:=[.const (Value.slice none 0 0),.tmp 15,.tmp 16]) (Zjt _ _ _ _ hx5) Zn0 rfl rfl ⟨Z04,vt rfl,vt rfl,trivial⟩) rfl<|As rfl<|Nl<|sq ?_
  obtain ⟨x6,hx6,q7,hq7,h⟩:=bs2 h
  refine Rg<|Zf lOxm_0 Z45 rfl<|Ld Zc 2 rfl<|Cl [19] (Y6j _ _ hx6) Y83 rfl<|Ac (Zz7 rfl rfl (vt rfl) (Z4h (vku (1:BitVec 64) rfl)) hq7) rfl<|As rfl<|Nl ?_
  refine JN (d:=[]) (ν:=(List Int)×Int) (fun (b8,i9)=>(Zi8 b8 i9=some r,[(5,rd (Z1 (Z0 .u8)) b8),(6,rd (Z0 .i64) i9)],[])) ?hx1 ?hy1
  case hy1=>
   rintro ⟨b8,i9⟩ h
   dsimp only at h ⊢
   unfold Zi8 at h
   refine sq ?_
   obtain ⟨x10,hx10,x11,hx11,x12,hx12,h⟩:=bs3 h
   refine Rg<|Ac (Zz (xs:=[.const (Value.slice none 0 0),.const (Value.int IntKind.i64 32768),.const (Value.int IntKind.i64 2)]) (Zbn _ _ _ _ hx10) e70 rfl rfl ⟨Z04,vk rfl,vk rfl,trivial⟩) rfl<|Md rfl<|Ac (Zz (xs:=[.tmp 31,.tmp 32,.const (Value.int IntKind.i64 1)]) (Zbn _ _ _ _ hx11) e70 rfl rfl ⟨vt rfl,vt rfl,vk rfl,trivial⟩) rfl<|Md rfl<|Ac (Z07 rfl rfl Z3w (vt rfl)) rfl<|Cv rfl (Z0y 1001 (xs:=[.tmp 33,.tmp 35,.const (Value.int IntKind.i64 1)]) (Z5p _ _ _ _ hx12) e70 rfl rfl ⟨vt rfl,vt rfl,vk rfl,trivial⟩ rfl) fun v13=>Aw rfl<|Nl<|sq ?_
   obtain ⟨l14,hl14,h⟩:=Z6 h
   refine Rg<|Mw rfl<|Md rfl<|Cv rfl (Z1f 1001 hl14 rfl rfl Z4q (vt rfl) rfl (vt rfl)) fun v15=>Aw rfl<|Ak rfl<|Nl<|AW.freezes [2,39] 1001 rfl ⟨rfl,rfl,trivial⟩ rfl<|rt ?_
   cases h;exact Z0c Tryz.results127 rfl (Z5 rfl) (Z5 rfl)
  case hx1=>
   refine SR<|Zf Z91 Z9x rfl<|Ld ty4 2 rfl<|Nl<|Cq rfl h (fun h=>?_) (fun h=>?_)
   ·refine sq ?_
    obtain ⟨x16,hx16,h⟩:=Z6 h
    refine Rg<|Md rfl<|Zf Zac Zbm rfl<|Ld Z06 2 rfl<|Md rfl<|Cl [24,26,27] (Zjt _ _ _ _ hx16) Zn0 rfl<|As rfl<|Nl<|Rg<|Md rfl<|Ac (Ynp rfl rfl (vt rfl) (vk rfl)) rfl<|As rfl<|Nl ?_
    exact ⟨(_,_),h,FX rfl⟩
   ·refine sk ?_
    exact ⟨(_,_),h,FX rfl⟩
def Ztg (a1:Action):Option (List Int):=
 (bif (decide (a1.Kind=0)) then (Z3h [] a1.Port 4).bind fun x3=>(Z3h x3 a1.Max 2).bind fun x4=>some x4 else (bif (decide (a1.Kind=22)) then (Z3h [] a1.Group 4).bind fun x6=>some x6 else (bif (decide (a1.Kind=17)) then (Z3h [] a1.Ether 2).bind fun x8=>some x8 else (bif (decide (a1.Kind=25)) then (Zk6 a1.Oxm).bind fun x10=>none else some []))))
theorem Yfq (a1:Action)(r:(List Int))(h:Ztg a1=some r):Con Tryz.prog 175 [rd Zj a1] emp (fun v=>Zg v) (fun v=>Zi v 5 (Z0 .u8) r):=by
 refine Con.intro0 Tryz.func175 rfl Tryz.ntmps175 rfl fun w H Z=>?_
 unfold Ztg at h
 refine sq<|AW.newnil 1001 5 (Z0 .u8)<|Rg<|Cv rfl (Zm 2 rfl rfl (vt rfl)) fun g2=>Ac (Zn rfl rfl vc) rfl<|Nl<|sq<|SR<|Zf lAction_0 Z57 rfl<|Ld Zc 2 rfl<|Nl<|bk<|SR<|Ac (Zy rfl rfl (vt rfl) (vk rfl)) rfl<|As rfl<|Nl<|Cq rfl h (fun h=>?_) (fun h=>?_)
 ·refine sq ?_
  obtain ⟨x3,hx3,x4,hx4,h⟩:=bs2 h
  refine AR Z03 (by kernel_rfl)<|SFd lAction_1 Z8k rfl<|Zu Zc 2 rfl<|Sd (lo [10] [] rfl fun S hs hr=>Zz (xs:=[.const (Value.slice none 0 0),.tmp 10,.const (Value.int IntKind.i64 4)]) (Zbn _ _ _ _ hx3) e70 rfl rfl ⟨Z04,vt ((hs 10 rfl).trans rfl),vk rfl,trivial⟩)<|SFd Z81 Zao rfl<|Zu Zc 2 rfl<|Sd (Z18 (us:=[(14,Z1y 5 (Z0 .u8) x4)]) (ur:=[]) [11,13] [] rfl fun S hs hr=>Znr (xs:=[.tmp 11,.tmp 13,.const (Value.int IntKind.i64 2)]) (Z5p _ _ _ _ hx4) e70 rfl rfl rfl ⟨vt ((hs 11 rfl).trans rfl),vt ((hs 13 rfl).trans rfl),vk rfl,trivial⟩)<|Sd (Z18 (us:=[(14,top),(2,Z1y 5 (Z0 .u8) x4)]) (ur:=[]) [14] [1003] rfl fun S hs hr=>Zbt 1003 rfl rfl rfl rfl ((hs 14 rfl).trans rfl) ((hr 1003 rfl).trans rfl))<|Sn<|AW.unpackR 2 1002 rfl rfl fun v5=>AW.renameD 1002 1001 (by decide) rfl<|rt ?_
  cases h;exact Z29 (i:=1001) Tryz.results175 rfl rfl rfl
 ·refine SR<|Ac (Zy rfl rfl (vt rfl) (vk rfl)) rfl<|As rfl<|Nl<|Cq rfl h (fun h=>?_) (fun h=>?_)
  ·refine sq ?_
   obtain ⟨x6,hx6,h⟩:=Z6 h
   refine Rg<|Zf lAction_3 Z9e rfl<|Ld Zc 2 rfl<|Cv rfl (Z0y 1004 (xs:=[.const (Value.slice none 0 0),.tmp 18,.const (Value.int IntKind.i64 4)]) (Z5p _ _ _ _ hx6) e70 rfl rfl ⟨Z04,vt rfl,vk rfl,trivial⟩ rfl) fun v7=>AOps.renameD 1004 1001 (by decide) rfl<|Aw rfl<|Nl<|rt ?_
   cases h;exact Z29 (i:=1001) Tryz.results175 rfl rfl rfl
  ·refine SR<|Ac (Zy rfl rfl (vt rfl) (vk rfl)) rfl<|As rfl<|Nl<|Cq rfl h (fun h=>?_) (fun h=>?_)
   ·refine sq ?_
    obtain ⟨x8,hx8,h⟩:=Z6 h
    refine Rg<|Zf Zcj Zd5 rfl<|Ld Zc 2 rfl<|Cv rfl (Z0y 1005 (xs:=[.const (Value.slice none 0 0),.tmp 23,.const (Value.int IntKind.i64 2)]) (Z5p _ _ _ _ hx8) e70 rfl rfl ⟨Z04,vt rfl,vk rfl,trivial⟩ rfl) fun v9=>AOps.renameD 1005 1001 (by decide) rfl<|Aw rfl<|Nl<|rt ?_
    cases h;exact Z29 (i:=1001) Tryz.results175 rfl rfl rfl
   ·refine SR<|Ac (Zy rfl rfl (vt rfl) (vk rfl)) rfl<|As rfl<|Nl<|Cq rfl h (fun h=>?_) (fun h=>?_)
    ·refine sq ?_
     obtain ⟨x10,hx10,h⟩:=Z6 h
     refine Rg<|Zf Z6g Z6r rfl<|Ld Z3m 2 rfl<|Cl [29] (Zw9 _ _ hx10) Y4i rfl<|Mt2 rfl<|Ac (Z10 rfl rfl (vt rfl)) rfl<|Ac (Z0z rfl rfl (vt rfl)) rfl<|As rfl<|As rfl<|Nl<|SR<|Md rfl<|As rfl<|Nl ?_
     cases h
    ·refine sk<|sq<|AW.newnil 1006 5 (Z0 .u8)<|Rg<|Ac (Zn rfl rfl vc) rfl<|Nl<|rt ?_
     cases h;exact Z29 (i:=1006) Tryz.results175 rfl rfl rfl
def Ztx (a1:Action):Option ((List Int)×Int):=
 (Zr8 a1).bind fun x3=>(bif (!x3) then some ([],1) else (Ztg a1).bind fun x4=>(Z3h [] a1.Kind 2).bind fun x6=>(Z3h x6 (Z4b 8 (Z71 .andNot .i64 (IntKind.i64.wrap ((IntKind.i64.wrap (4+(x4.length:Int)))+7)) 7)) 2).bind fun x7=>(Zeq 0 x4 (IntKind.i64.wrap ((IntKind.i64.wrap ((Z4b 8 (Z71 .andNot .i64 (IntKind.i64.wrap ((IntKind.i64.wrap (4+(x4.length:Int)))+7)) 7)) - 4)) - (x4.length:Int)))).bind fun l9=>(Z11 x7 l9).bind fun l11=>some (l11,0))
theorem Ye0:Q1 Tryz.prog 117 (rd Zj) (fun r=>Z0t (rd (Z1 (Z0 .u8)) r.1) (rd (Z0 .i64) r.2)) Ztx:=fun a1 r h=>I0 Tryz.func117 rfl Tryz.ntmps117 rfl fun w H Z=>by
 unfold Ztx at h
 refine SR<|Cv rfl (Zm 2 rfl rfl (vt rfl)) fun g2=>Ac (Zn (A:=rd (Z1 (Z0 .u8)) []) rfl rfl Z04) rfl<|Ak rfl<|Nl<|sq<|sq ?_
 obtain ⟨x3,hx3,h⟩:=Z6 h
 refine Rg<|Ld Z0v 2 rfl<|Cl [7] (Yk1 _ _ hx3) Ylc rfl<|Ac (Z0g rfl rfl (vt rfl)) rfl<|Nl<|Cq rfl h (fun h=>?_) (fun h=>?_)
 ·refine SR<|Ac (Zn (A:=rd (Z1 (Z0 .u8)) []) rfl rfl Z04) rfl<|Ak rfl<|Nl<|rt ?_
  cases h;exact Z0c Tryz.results117 rfl (Z5 rfl) (Z5 rfl)
 ·refine sk<|sq ?_
  obtain ⟨x4,hx4,h⟩:=Z6 h
  refine Rg<|Ld Z0v 2 rfl<|Cv rfl (Z0y 1001 (xs:=[.tmp 10]) (Yfq _ _ hx4) Yfn rfl rfl ⟨vt rfl,trivial⟩ rfl) fun v5=>Aw rfl<|Nl<|SR<|Mw rfl<|Ac (Z2v 1001 rfl rfl Z3w (vt rfl) rfl) rfl<|Ac (Z0o rfl rfl (vk rfl) (vt rfl)) rfl<|Ac (Z0o rfl rfl (vt rfl) (vk rfl)) rfl<|Ac (Y14 rfl rfl (vt rfl) (vk rfl)) rfl<|Ac (Za2 rfl rfl (vk rfl) (vt rfl)) rfl<|As rfl<|Nl<|sq ?_
  obtain ⟨x6,hx6,x7,hx7,h⟩:=bs2 h
  refine Rg<|Zf lAction_0 Z57 rfl<|Ld Zc 2 rfl<|Ac (Zz (xs:=[.const (Value.slice none 0 0),.tmp 19,.const (Value.int IntKind.i64 2)]) (Zbn _ _ _ _ hx6) e70 rfl rfl ⟨Z04,vt rfl,vk rfl,trivial⟩) rfl<|Md rfl<|Cv rfl (Z0y 1002 (xs:=[.tmp 20,.tmp 21,.const (Value.int IntKind.i64 2)]) (Z5p _ _ _ _ hx7) e70 rfl rfl ⟨vt rfl,vt rfl,vk rfl,trivial⟩ rfl) fun v8=>Aw rfl<|Nl<|sq ?_
  obtain ⟨l9,hl9,l11,hl11,h⟩:=bs2 h
  refine Rg<|Mw rfl<|Mw rfl<|Md rfl<|Ac (Z14 rfl rfl (vt rfl) (vk rfl)) rfl<|Mw rfl<|Ac (Z2v 1001 rfl rfl Z3w (vt rfl) rfl) rfl<|Ac (Z14 rfl rfl (vt rfl) (vt rfl)) rfl<|Cv rfl (Zw6 1001 hl9 rfl rfl Z4q zr5 un3 (vt rfl) rfl (vt rfl)) fun v10=>AOps.freezes [30] 1001 rfl ⟨rfl,trivial⟩ rfl<|Cv rfl (Z1f 1002 hl11 rfl rfl Z4q (vt rfl) rfl (vt rfl)) fun v12=>Aw rfl<|Ak rfl<|Nl<|AW.freezes [2,31] 1002 rfl ⟨rfl,rfl,trivial⟩ rfl<|rt ?_
  cases h;exact Z0c Tryz.results117 rfl (Z5 rfl) (Z5 rfl)
def Zd7:(List Action)→Nat→(List Int)→Option ((List Int)×Int)
 | [],i6,l4=>some (l4,0)
 | x8::l7,i6,l4=>(Ztx x8).bind fun x10=>(bif (decide (x10.2≠0)) then some ([],x10.2) else (Z11 l4 x10.1).bind fun l11=>(Zd7 l7) (i6+1) l11)
def Zca (l1:(List Action)):Option ((List Int)×Int):=
 (bif (decide ((l1.length:Int)>100)) then some ([],1) else Zd7 l1 0 [])
theorem Zi2:Q1 Tryz.prog 69 (rd (Z1 Zj)) (fun r=>Z0t (rd (Z1 (Z0 .u8)) r.1) (rd (Z0 .i64) r.2)) Zca:=fun l1 r h=>I0 Tryz.func69 rfl Tryz.ntmps69 rfl fun w H Z=>by
 unfold Zca at h
 refine SR<|Ac (Zn (A:=rd (Z1 (Z0 .u8)) []) rfl rfl Z04) rfl<|Ak rfl<|Nl<|sq<|SR<|Md rfl<|Ac (Z07 rfl rfl Z17 (vt rfl)) rfl<|Ac (Z1s rfl rfl (vt rfl) (vk rfl)) rfl<|Nl<|Cq rfl h (fun h=>?_) (fun h=>?_)
 ·refine SR<|Ac (Zn (A:=rd (Z1 (Z0 .u8)) []) rfl rfl Z04) rfl<|Ak rfl<|Nl<|rt ?_
  cases h;exact Z0c Tryz.results69 rfl (Z5 rfl) (Z5 rfl)
 ·refine sk<|sq<|AW.newnil 1001 5 (Z0 .u8)<|Rg<|Ac (Zn rfl rfl vc) rfl<|Nl<|sq<|SR<|Md rfl<|Ac (Z07 rfl rfl Z17 (vt rfl)) rfl<|Mk rfl<|Nl<|bk<|LG (d:=[]) (ν:=(List Action)×Nat×(List Int)×Value) (fun (l7,i6,l4,v5)=>(Sfx l1 i6 l7∧Zd7 l7 i6 l4=some r,l7.length,[(4,Zg v5),(12,rd (Z1 Zj) l1),(13,rd (Z0 .i64) (l1.length:Int)),(14,rd (Z0 .i64) (i6:Int))],[(1001,Zi v5 5 (Z0 .u8) l4)])) (l1,0,[],(.slice none 0 0)) ⟨Sfx.start _,h⟩ (FX rfl) ?_
  rintro ⟨l7,i6,l4,v5⟩ ⟨hsf1,h⟩
  dsimp only at hsf1 h ⊢
  cases l7 with
  | nil=>
   unfold Zd7 at h
   refine SR<|Ac (Zh rfl rfl (vt rfl) (vt rfl)) rfl<|Nl<|sq<|Cn rfl (fun hc=>absurd (of_decide_eq_true hc) hsf1.nil) (fun hc=>?_)
   refine xt<|SR<|Mw rfl<|Aw rfl<|Ak rfl<|Nl<|AW.freezes [2,4,30] 1001 rfl ⟨rfl,rfl,rfl,trivial⟩ rfl<|rt ?_
   cases h;exact Z0c Tryz.results69 rfl (Z5 rfl) (Z5 rfl)
  | cons x8 l7=>
   unfold Zd7 at h
   refine SR<|Ac (Zh rfl rfl (vt rfl) (vt rfl)) rfl<|Nl<|sq<|Cn rfl (fun hc=>?_) (fun hc=>absurd hsf1.cons (of_decide_eq_false hc))
   have hlti6:=of_decide_eq_true hc
   refine sk<|sq<|bk<|SR<|Ac (Z0d rfl rfl Z17 (vt rfl) (vt rfl) hsf1.lget) rfl<|Lp1 Z0v rfl<|Cv rfl (Zo 7 rfl rfl Z48) fun g9=>Ze Z0v 7 rfl<|Nl<|sq ?_
   obtain ⟨x10,hx10,h⟩:=Z6 h
   refine Rg<|Ld Z0v 7 rfl<|Cl [19] (Ye0 _ _ hx10) Yaz rfl<|Mt2 rfl<|Ac (Z10 rfl rfl (vt rfl)) rfl<|Ac (Z0z rfl rfl (vt rfl)) rfl<|As rfl<|As rfl<|Nl<|sq<|SR<|Md rfl<|Ac (Z2j rfl rfl (vt rfl) (vk rfl)) rfl<|Nl<|Cq rfl h (fun h=>?_) (fun h=>?_)
   ·refine SR<|Md rfl<|Ac (Zn (A:=rd (Z1 (Z0 .u8)) []) rfl rfl Z04) rfl<|As rfl<|Nl<|rt ?_
    cases h;exact Z0c Tryz.results69 rfl (Z5 rfl) (Z5 rfl)
   ·refine sk ?_
    obtain ⟨l11,hl11,h⟩:=Z6 h
    refine Rg<|Mw rfl<|Md rfl<|Cv rfl (Z1f 1001 hl11 rfl rfl Z4q (vt rfl) rfl (vt rfl)) fun v12=>Aw rfl<|Nl<|Rg<|Ac (Z0a (t:=13) rfl rfl (vt rfl) (vk rfl) (vt rfl) hlti6) rfl<|Md rfl<|Nl ?_
    exact ⟨(_,_,_,_),Nat.lt_succ_self _,⟨hsf1.next,h⟩,FX rfl⟩
def Zoq (x1:Bucket):Option Bool:=
 (Zca x1.Acts).bind fun x3=>(opt (decide (x3.2=0)) (Z7z x1.Weight 2)).bind fun x4=>(opt ((decide (x3.2=0))&&x4) (Z7z x1.Watch 4)).bind fun x5=>(opt (((decide (x3.2=0))&&x4)&&x5) (Z7z x1.WatchGroup 4)).bind fun x6=>some ((((decide (x3.2=0))&&x4)&&x5)&&x6)
theorem Y72:Q1 Tryz.prog 68 (rd Z16) (rd Z3) Zoq:=fun x1 r h=>I0 Tryz.func68 rfl Tryz.ntmps68 rfl fun w H Z=>by
 unfold Zoq at h
 refine SR<|Cv rfl (Zm 2 rfl rfl (vt rfl)) fun g2=>Ab rfl<|Nl<|sq ?_
 obtain ⟨x3,hx3,h⟩:=Z6 h
 refine Rg<|Zf lBucket_3 Zc9 rfl<|Ld Z2x 2 rfl<|Cl [7] (Zi2 _ _ hx3) e69 rfl<|Mt2 rfl<|Ac (Z10 rfl rfl (vt rfl)) rfl<|Ac (Z0z rfl rfl (vt rfl)) rfl<|As rfl<|As rfl<|Nl<|sq ?_
 obtain ⟨x4,hx4,x5,hx5,x6,hx6,h⟩:=bs3 h
 refine Rg<|Md rfl<|Ac (Zy rfl rfl (vt rfl) (vk rfl)) rfl<|Md rfl<|Gd rfl (fun hq=>Z0i lBucket_0 rfl rfl Zuw (vt rfl))<|Gd rfl (fun hq=>Z08 rfl rfl Zc (Z8 rfl hq) (i:=2) rfl)<|Gd rfl (fun hq=>Zz (xs:=[.tmp 15,.const (Value.int IntKind.i64 2)]) (Zco _ _ _ (Z1p hx4 hq)) e78 rfl rfl ⟨Z8 rfl hq,vk rfl,trivial⟩)<|Ac (Z0h rfl rfl (vt rfl) (vt rfl)) rfl<|Md rfl<|Gd rfl (fun hq=>Z0i lBucket_1 rfl rfl Zfm (vt rfl))<|Gd rfl (fun hq=>Z08 rfl rfl Zc (Z8 rfl hq) (i:=2) rfl)<|Gd rfl (fun hq=>Zz (xs:=[.tmp 20,.const (Value.int IntKind.i64 4)]) (Zco _ _ _ (Z1p hx5 hq)) e78 rfl rfl ⟨Z8 rfl hq,vk rfl,trivial⟩)<|Ac (Z0h rfl rfl (vt rfl) (vt rfl)) rfl<|Md rfl<|Gd rfl (fun hq=>Z0i lBucket_2 rfl rfl Zs8 (vt rfl))<|Gd rfl (fun hq=>Z08 rfl rfl Zc (Z8 rfl hq) (i:=2) rfl)<|Gd rfl (fun hq=>Zz (xs:=[.tmp 25,.const (Value.int IntKind.i64 4)]) (Zco _ _ _ (Z1p hx6 hq)) e78 rfl rfl ⟨Z8 rfl hq,vk rfl,trivial⟩)<|Ac (Z0h rfl rfl (vt rfl) (vt rfl)) rfl<|As rfl<|Nl<|rt ?_
 cases h;exact Z9 Tryz.results68 rfl (Z5 rfl)
end Go.Proofs.YtjppkmpecdbepaaGreatDoor.W
