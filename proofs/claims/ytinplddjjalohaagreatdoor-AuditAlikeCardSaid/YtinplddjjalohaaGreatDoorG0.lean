/- A part of the proof. -/
import Derived.Test.YtinplddjjalohaaGreatDoorL2
import Derived.Test.YtinplddjjalohaaGreatDoorProg
import Derived.KernelRfl
set_option linter.unusedVariables false
set_option maxHeartbeats 1000000
set_option maxRecDepth 4000
set_option linter.unusedSimpArgs false
namespace Go.Proofs.YtinplddjjalohaaGreatDoor.W
open Go Go.Wb
structure Wide where
 Hi:(BitVec 64)
 Lo:(BitVec 64)
 deriving DecidableEq,Inhabited
def Zn:Kd Wide:=Z15 (Z2 Z05 Z05) (fun x=>(x.Hi,x.Lo))
instance:PureK Zn:=inferInstanceAs (PureK (Z15 (Z2 Z05 Z05) (fun (x:Wide)=>(x.Hi,x.Lo))))
def lWide_0:Lens Zn Z05:=Lens.iso (k:=(Z2 Z05 Z05)) (Lens.fst _ _) Wide.Hi (fun x y=>{x with Hi:=y}) (fun _=>rfl) (fun _ _=>rfl)
def lWide_1:Lens Zn Z05:=Lens.iso (k:=(Z2 Z05 Z05)) (Lens.snd _ _) Wide.Lo (fun x y=>{x with Lo:=y}) (fun _=>rfl) (fun _ _=>rfl)
def Z0p:Wide:=⟨0,0⟩
def Z90:List Value:=([.int .u64 0]++[.int .u64 0])
theorem Z8f:KZ Zn Z0p Z90:=Z2k (Z0o Zho Zho)
structure Oxm where
 Field:Int
 Masked:Bool
 Value:Wide
 Mask:Wide
 deriving DecidableEq,Inhabited
def Z0h:Kd Oxm:=Z15 (Z2 (Z0 .i64) (Z2 Z6 (Z2 Zn Zn))) (fun x=>(x.Field,(x.Masked,(x.Value,x.Mask))))
instance:PureK Z0h:=inferInstanceAs (PureK (Z15 (Z2 (Z0 .i64) (Z2 Z6 (Z2 Zn Zn))) (fun (x:Oxm)=>(x.Field,(x.Masked,(x.Value,x.Mask))))))
def Z4f:Lens Z0h (Z0 .i64):=Lens.iso (k:=(Z2 (Z0 .i64) (Z2 Z6 (Z2 Zn Zn)))) (Lens.fst _ _) Oxm.Field (fun x y=>{x with Field:=y}) (fun _=>rfl) (fun _ _=>rfl)
def Zxe:Lens Z0h Z6:=Lens.iso (k:=(Z2 (Z0 .i64) (Z2 Z6 (Z2 Zn Zn)))) (Lens.comp (Lens.snd _ _) (Lens.fst _ _)) Oxm.Masked (fun x y=>{x with Masked:=y}) (fun _=>rfl) (fun _ _=>rfl)
def Zmq:Lens Z0h Zn:=Lens.iso (k:=(Z2 (Z0 .i64) (Z2 Z6 (Z2 Zn Zn)))) (Lens.comp (Lens.comp (Lens.snd _ _) (Lens.snd _ _)) (Lens.fst _ _)) Oxm.Value (fun x y=>{x with Value:=y}) (fun _=>rfl) (fun _ _=>rfl)
def Zx3:Lens Z0h Zn:=Lens.iso (k:=(Z2 (Z0 .i64) (Z2 Z6 (Z2 Zn Zn)))) (Lens.comp (Lens.comp (Lens.snd _ _) (Lens.snd _ _)) (Lens.snd _ _)) Oxm.Mask (fun x y=>{x with Mask:=y}) (fun _=>rfl) (fun _ _=>rfl)
def Z7t:Oxm:=⟨0,false,Z0p,Z0p⟩
def Y2o:List Value:=([.int .i64 0]++([.bool false]++(Z90++Z90)))
theorem Ybb:KZ Z0h Z7t Y2o:=Z2k (Z0o Z1l (Z0o Zi2 (Z0o Z8f Z8f)))
structure Action where
 Kind:Int
 Port:Int
 Max:Int
 Group:Int
 Ether:Int
 Oxm:Oxm
 deriving DecidableEq,Inhabited
def Z9:Kd Action:=Z15 (Z2 (Z0 .i64) (Z2 (Z0 .i64) (Z2 (Z0 .i64) (Z2 (Z0 .i64) (Z2 (Z0 .i64) Z0h))))) (fun x=>(x.Kind,(x.Port,(x.Max,(x.Group,(x.Ether,x.Oxm))))))
instance:PureK Z9:=inferInstanceAs (PureK (Z15 (Z2 (Z0 .i64) (Z2 (Z0 .i64) (Z2 (Z0 .i64) (Z2 (Z0 .i64) (Z2 (Z0 .i64) Z0h))))) (fun (x:Action)=>(x.Kind,(x.Port,(x.Max,(x.Group,(x.Ether,x.Oxm))))))))
def Z58:Lens Z9 (Z0 .i64):=Lens.iso (k:=(Z2 (Z0 .i64) (Z2 (Z0 .i64) (Z2 (Z0 .i64) (Z2 (Z0 .i64) (Z2 (Z0 .i64) Z0h)))))) (Lens.fst _ _) Action.Kind (fun x y=>{x with Kind:=y}) (fun _=>rfl) (fun _ _=>rfl)
def Zh5:Lens Z9 (Z0 .i64):=Lens.iso (k:=(Z2 (Z0 .i64) (Z2 (Z0 .i64) (Z2 (Z0 .i64) (Z2 (Z0 .i64) (Z2 (Z0 .i64) Z0h)))))) (Lens.comp (Lens.snd _ _) (Lens.fst _ _)) Action.Port (fun x y=>{x with Port:=y}) (fun _=>rfl) (fun _ _=>rfl)
def Zrp:Lens Z9 (Z0 .i64):=Lens.iso (k:=(Z2 (Z0 .i64) (Z2 (Z0 .i64) (Z2 (Z0 .i64) (Z2 (Z0 .i64) (Z2 (Z0 .i64) Z0h)))))) (Lens.comp (Lens.comp (Lens.snd _ _) (Lens.snd _ _)) (Lens.fst _ _)) Action.Max (fun x y=>{x with Max:=y}) (fun _=>rfl) (fun _ _=>rfl)
def Zp5:Lens Z9 (Z0 .i64):=Lens.iso (k:=(Z2 (Z0 .i64) (Z2 (Z0 .i64) (Z2 (Z0 .i64) (Z2 (Z0 .i64) (Z2 (Z0 .i64) Z0h)))))) (Lens.comp (Lens.comp (Lens.comp (Lens.snd _ _) (Lens.snd _ _)) (Lens.snd _ _)) (Lens.fst _ _)) Action.Group (fun x y=>{x with Group:=y}) (fun _=>rfl) (fun _ _=>rfl)
def Z8t:Lens Z9 Z0h:=Lens.iso (k:=(Z2 (Z0 .i64) (Z2 (Z0 .i64) (Z2 (Z0 .i64) (Z2 (Z0 .i64) (Z2 (Z0 .i64) Z0h)))))) (Lens.comp (Lens.comp (Lens.comp (Lens.comp (Lens.snd _ _) (Lens.snd _ _)) (Lens.snd _ _)) (Lens.snd _ _)) (Lens.snd _ _)) Action.Oxm (fun x y=>{x with Oxm:=y}) (fun _=>rfl) (fun _ _=>rfl)
def Zrw:Action:=⟨0,0,0,0,0,Z7t⟩
def Yww:List Value:=([.int .i64 0]++([.int .i64 0]++([.int .i64 0]++([.int .i64 0]++([.int .i64 0]++Y2o)))))
theorem Yva:KZ Z9 Zrw Yww:=Z2k (Z0o Z1l (Z0o Z1l (Z0o Z1l (Z0o Z1l (Z0o Z1l Ybb)))))
structure Inst where
 Kind:Int
 Table:Int
 Value:Wide
 Mask:Wide
 Acts:(List Action)
 deriving DecidableEq,Inhabited
def Z0a:Kd Inst:=Z15 (Z2 (Z0 .i64) (Z2 (Z0 .i64) (Z2 Zn (Z2 Zn (Z1 Z9))))) (fun x=>(x.Kind,(x.Table,(x.Value,(x.Mask,x.Acts)))))
def Ze4:Lens Z0a (Z0 .i64):=Lens.iso (k:=(Z2 (Z0 .i64) (Z2 (Z0 .i64) (Z2 Zn (Z2 Zn (Z1 Z9)))))) (Lens.fst _ _) Inst.Kind (fun x y=>{x with Kind:=y}) (fun _=>rfl) (fun _ _=>rfl)
def Z73:Lens Z0a (Z0 .i64):=Lens.iso (k:=(Z2 (Z0 .i64) (Z2 (Z0 .i64) (Z2 Zn (Z2 Zn (Z1 Z9)))))) (Lens.comp (Lens.snd _ _) (Lens.fst _ _)) Inst.Table (fun x y=>{x with Table:=y}) (fun _=>rfl) (fun _ _=>rfl)
def Zrk:Lens Z0a Zn:=Lens.iso (k:=(Z2 (Z0 .i64) (Z2 (Z0 .i64) (Z2 Zn (Z2 Zn (Z1 Z9)))))) (Lens.comp (Lens.comp (Lens.snd _ _) (Lens.snd _ _)) (Lens.fst _ _)) Inst.Value (fun x y=>{x with Value:=y}) (fun _=>rfl) (fun _ _=>rfl)
def Zon:Lens Z0a Zn:=Lens.iso (k:=(Z2 (Z0 .i64) (Z2 (Z0 .i64) (Z2 Zn (Z2 Zn (Z1 Z9)))))) (Lens.comp (Lens.comp (Lens.comp (Lens.snd _ _) (Lens.snd _ _)) (Lens.snd _ _)) (Lens.fst _ _)) Inst.Mask (fun x y=>{x with Mask:=y}) (fun _=>rfl) (fun _ _=>rfl)
def Z60:Lens Z0a (Z1 Z9):=Lens.iso (k:=(Z2 (Z0 .i64) (Z2 (Z0 .i64) (Z2 Zn (Z2 Zn (Z1 Z9)))))) (Lens.comp (Lens.comp (Lens.comp (Lens.snd _ _) (Lens.snd _ _)) (Lens.snd _ _)) (Lens.snd _ _)) Inst.Acts (fun x y=>{x with Acts:=y}) (fun _=>rfl) (fun _ _=>rfl)
def Zwf:Inst:=⟨0,0,Z0p,Z0p,[]⟩
def Ygx:List Value:=([.int .i64 0]++([.int .i64 0]++(Z90++(Z90++[.slice none 0 0]))))
theorem Yo8:KZ Z0a Zwf Ygx:=Z2k (Z0o Z1l (Z0o Z1l (Z0o Z8f (Z0o Z8f (Z5d _)))))
structure Flow where
 Cookie:(BitVec 64)
 Priority:Int
 Idle:Int
 Hard:Int
 Flags:Int
 Match:(List Oxm)
 Insts:(List Inst)
 deriving DecidableEq,Inhabited
def Z03:Kd Flow:=Z15 (Z2 Z05 (Z2 (Z0 .i64) (Z2 (Z0 .i64) (Z2 (Z0 .i64) (Z2 (Z0 .i64) (Z2 (Z1 Z0h) (Z1 Z0a))))))) (fun x=>(x.Cookie,(x.Priority,(x.Idle,(x.Hard,(x.Flags,(x.Match,x.Insts)))))))
def lFlow_0:Lens Z03 Z05:=Lens.iso (k:=(Z2 Z05 (Z2 (Z0 .i64) (Z2 (Z0 .i64) (Z2 (Z0 .i64) (Z2 (Z0 .i64) (Z2 (Z1 Z0h) (Z1 Z0a)))))))) (Lens.fst _ _) Flow.Cookie (fun x y=>{x with Cookie:=y}) (fun _=>rfl) (fun _ _=>rfl)
def lFlow_1:Lens Z03 (Z0 .i64):=Lens.iso (k:=(Z2 Z05 (Z2 (Z0 .i64) (Z2 (Z0 .i64) (Z2 (Z0 .i64) (Z2 (Z0 .i64) (Z2 (Z1 Z0h) (Z1 Z0a)))))))) (Lens.comp (Lens.snd _ _) (Lens.fst _ _)) Flow.Priority (fun x y=>{x with Priority:=y}) (fun _=>rfl) (fun _ _=>rfl)
def lFlow_2:Lens Z03 (Z0 .i64):=Lens.iso (k:=(Z2 Z05 (Z2 (Z0 .i64) (Z2 (Z0 .i64) (Z2 (Z0 .i64) (Z2 (Z0 .i64) (Z2 (Z1 Z0h) (Z1 Z0a)))))))) (Lens.comp (Lens.comp (Lens.snd _ _) (Lens.snd _ _)) (Lens.fst _ _)) Flow.Idle (fun x y=>{x with Idle:=y}) (fun _=>rfl) (fun _ _=>rfl)
def lFlow_3:Lens Z03 (Z0 .i64):=Lens.iso (k:=(Z2 Z05 (Z2 (Z0 .i64) (Z2 (Z0 .i64) (Z2 (Z0 .i64) (Z2 (Z0 .i64) (Z2 (Z1 Z0h) (Z1 Z0a)))))))) (Lens.comp (Lens.comp (Lens.comp (Lens.snd _ _) (Lens.snd _ _)) (Lens.snd _ _)) (Lens.fst _ _)) Flow.Hard (fun x y=>{x with Hard:=y}) (fun _=>rfl) (fun _ _=>rfl)
def lFlow_4:Lens Z03 (Z0 .i64):=Lens.iso (k:=(Z2 Z05 (Z2 (Z0 .i64) (Z2 (Z0 .i64) (Z2 (Z0 .i64) (Z2 (Z0 .i64) (Z2 (Z1 Z0h) (Z1 Z0a)))))))) (Lens.comp (Lens.comp (Lens.comp (Lens.comp (Lens.snd _ _) (Lens.snd _ _)) (Lens.snd _ _)) (Lens.snd _ _)) (Lens.fst _ _)) Flow.Flags (fun x y=>{x with Flags:=y}) (fun _=>rfl) (fun _ _=>rfl)
def lFlow_5:Lens Z03 (Z1 Z0h):=Lens.iso (k:=(Z2 Z05 (Z2 (Z0 .i64) (Z2 (Z0 .i64) (Z2 (Z0 .i64) (Z2 (Z0 .i64) (Z2 (Z1 Z0h) (Z1 Z0a)))))))) (Lens.comp (Lens.comp (Lens.comp (Lens.comp (Lens.comp (Lens.snd _ _) (Lens.snd _ _)) (Lens.snd _ _)) (Lens.snd _ _)) (Lens.snd _ _)) (Lens.fst _ _)) Flow.Match (fun x y=>{x with Match:=y}) (fun _=>rfl) (fun _ _=>rfl)
def lFlow_6:Lens Z03 (Z1 Z0a):=Lens.iso (k:=(Z2 Z05 (Z2 (Z0 .i64) (Z2 (Z0 .i64) (Z2 (Z0 .i64) (Z2 (Z0 .i64) (Z2 (Z1 Z0h) (Z1 Z0a)))))))) (Lens.comp (Lens.comp (Lens.comp (Lens.comp (Lens.comp (Lens.snd _ _) (Lens.snd _ _)) (Lens.snd _ _)) (Lens.snd _ _)) (Lens.snd _ _)) (Lens.snd _ _)) Flow.Insts (fun x y=>{x with Insts:=y}) (fun _=>rfl) (fun _ _=>rfl)
def Zu5:Flow:=⟨0,0,0,0,0,[],[]⟩
def Yio:List Value:=([.int .u64 0]++([.int .i64 0]++([.int .i64 0]++([.int .i64 0]++([.int .i64 0]++([.slice none 0 0]++[.slice none 0 0]))))))
theorem Yjj:KZ Z03 Zu5 Yio:=Z2k (Z0o Zho (Z0o Z1l (Z0o Z1l (Z0o Z1l (Z0o Z1l (Z0o (Z5d _) (Z5d _)))))))
structure Bucket where
 Weight:Int
 Watch:Int
 WatchGroup:Int
 Acts:(List Action)
 deriving DecidableEq,Inhabited
def Z1y:Kd Bucket:=Z15 (Z2 (Z0 .i64) (Z2 (Z0 .i64) (Z2 (Z0 .i64) (Z1 Z9)))) (fun x=>(x.Weight,(x.Watch,(x.WatchGroup,x.Acts))))
def Y6j:Lens Z1y (Z0 .i64):=Lens.iso (k:=(Z2 (Z0 .i64) (Z2 (Z0 .i64) (Z2 (Z0 .i64) (Z1 Z9))))) (Lens.comp (Lens.snd _ _) (Lens.fst _ _)) Bucket.Watch (fun x y=>{x with Watch:=y}) (fun _=>rfl) (fun _ _=>rfl)
def Zg5:Lens Z1y (Z1 Z9):=Lens.iso (k:=(Z2 (Z0 .i64) (Z2 (Z0 .i64) (Z2 (Z0 .i64) (Z1 Z9))))) (Lens.comp (Lens.comp (Lens.snd _ _) (Lens.snd _ _)) (Lens.snd _ _)) Bucket.Acts (fun x y=>{x with Acts:=y}) (fun _=>rfl) (fun _ _=>rfl)
def Y5u:Bucket:=⟨0,0,0,[]⟩
def Yv9:List Value:=([.int .i64 0]++([.int .i64 0]++([.int .i64 0]++[.slice none 0 0])))
theorem Ysh:KZ Z1y Y5u Yv9:=Z2k (Z0o Z1l (Z0o Z1l (Z0o Z1l (Z5d _))))
structure Group where
 ID:Int
 Kind:Int
 Buckets:(List Bucket)
 deriving DecidableEq,Inhabited
def Z0d:Kd Group:=Z15 (Z2 (Z0 .i64) (Z2 (Z0 .i64) (Z1 Z1y))) (fun x=>(x.ID,(x.Kind,x.Buckets)))
def lGroup_0:Lens Z0d (Z0 .i64):=Lens.iso (k:=(Z2 (Z0 .i64) (Z2 (Z0 .i64) (Z1 Z1y)))) (Lens.fst _ _) Group.ID (fun x y=>{x with ID:=y}) (fun _=>rfl) (fun _ _=>rfl)
def Zy0:Lens Z0d (Z0 .i64):=Lens.iso (k:=(Z2 (Z0 .i64) (Z2 (Z0 .i64) (Z1 Z1y)))) (Lens.comp (Lens.snd _ _) (Lens.fst _ _)) Group.Kind (fun x y=>{x with Kind:=y}) (fun _=>rfl) (fun _ _=>rfl)
def Z6f:Lens Z0d (Z1 Z1y):=Lens.iso (k:=(Z2 (Z0 .i64) (Z2 (Z0 .i64) (Z1 Z1y)))) (Lens.comp (Lens.snd _ _) (Lens.snd _ _)) Group.Buckets (fun x y=>{x with Buckets:=y}) (fun _=>rfl) (fun _ _=>rfl)
def Zwq:Group:=⟨0,0,[]⟩
def Y4u:List Value:=([.int .i64 0]++([.int .i64 0]++[.slice none 0 0]))
theorem Y4z:KZ Z0d Zwq Y4u:=Z2k (Z0o Z1l (Z0o Z1l (Z5d _)))
abbrev Ynr:=Vector (List Flow) 4
structure Switch where
 Tables:Ynr
 Groups:(List Group)
 deriving DecidableEq,Inhabited
def Z08:Kd Switch:=Z15 (Z2 (Z3 4 (Z1 Z03)) (Z1 Z0d)) (fun x=>(x.Tables,x.Groups))
def Z4n:Lens Z08 (Z3 4 (Z1 Z03)):=Lens.iso (k:=(Z2 (Z3 4 (Z1 Z03)) (Z1 Z0d))) (Lens.fst _ _) Switch.Tables (fun x y=>{x with Tables:=y}) (fun _=>rfl) (fun _ _=>rfl)
def lSwitch_1:Lens Z08 (Z1 Z0d):=Lens.iso (k:=(Z2 (Z3 4 (Z1 Z03)) (Z1 Z0d))) (Lens.snd _ _) Switch.Groups (fun x y=>{x with Groups:=y}) (fun _=>rfl) (fun _ _=>rfl)
def Zep:Switch:=⟨(Vector.replicate 4 []),[]⟩
def Zva:List Value:=((List.replicate 4 [.slice none 0 0]).flatten++[.slice none 0 0])
theorem Zre:KZ Z08 Zep Zva:=Z2k (Z0o (Z4x 4 (Z5d _)) (Z5d _))
structure Tern where
 Value:Wide
 Mask:Wide
 deriving DecidableEq,Inhabited
def Z4:Kd Tern:=Z15 (Z2 Zn Zn) (fun x=>(x.Value,x.Mask))
instance:PureK Z4:=inferInstanceAs (PureK (Z15 (Z2 Zn Zn) (fun (x:Tern)=>(x.Value,x.Mask))))
def lTern_0:Lens Z4 Zn:=Lens.iso (k:=(Z2 Zn Zn)) (Lens.fst _ _) Tern.Value (fun x y=>{x with Value:=y}) (fun _=>rfl) (fun _ _=>rfl)
def lTern_1:Lens Z4 Zn:=Lens.iso (k:=(Z2 Zn Zn)) (Lens.snd _ _) Tern.Mask (fun x y=>{x with Mask:=y}) (fun _=>rfl) (fun _ _=>rfl)
def zTern:Tern:=⟨Z0p,Z0p⟩
def Ze7:List Value:=(Z90++Z90)
theorem Za2:KZ Z4 zTern Ze7:=Z2k (Z0o Z8f Z8f)
abbrev Za:=Vector Tern 24
structure Atom where
 Rewrite:Za
 Group:Bool
 Port:Int
 Max:Int
 deriving DecidableEq,Inhabited
def Z0q:Kd Atom:=Z15 (Z2 (Z3 24 Z4) (Z2 Z6 (Z2 (Z0 .i64) (Z0 .i64)))) (fun x=>(x.Rewrite,(x.Group,(x.Port,x.Max))))
instance:PureK Z0q:=inferInstanceAs (PureK (Z15 (Z2 (Z3 24 Z4) (Z2 Z6 (Z2 (Z0 .i64) (Z0 .i64)))) (fun (x:Atom)=>(x.Rewrite,(x.Group,(x.Port,x.Max))))))
def lAtom_0:Lens Z0q (Z3 24 Z4):=Lens.iso (k:=(Z2 (Z3 24 Z4) (Z2 Z6 (Z2 (Z0 .i64) (Z0 .i64))))) (Lens.fst _ _) Atom.Rewrite (fun x y=>{x with Rewrite:=y}) (fun _=>rfl) (fun _ _=>rfl)
def lAtom_1:Lens Z0q Z6:=Lens.iso (k:=(Z2 (Z3 24 Z4) (Z2 Z6 (Z2 (Z0 .i64) (Z0 .i64))))) (Lens.comp (Lens.snd _ _) (Lens.fst _ _)) Atom.Group (fun x y=>{x with Group:=y}) (fun _=>rfl) (fun _ _=>rfl)
def lAtom_2:Lens Z0q (Z0 .i64):=Lens.iso (k:=(Z2 (Z3 24 Z4) (Z2 Z6 (Z2 (Z0 .i64) (Z0 .i64))))) (Lens.comp (Lens.comp (Lens.snd _ _) (Lens.snd _ _)) (Lens.fst _ _)) Atom.Port (fun x y=>{x with Port:=y}) (fun _=>rfl) (fun _ _=>rfl)
def Zvo:Lens Z0q (Z0 .i64):=Lens.iso (k:=(Z2 (Z3 24 Z4) (Z2 Z6 (Z2 (Z0 .i64) (Z0 .i64))))) (Lens.comp (Lens.comp (Lens.snd _ _) (Lens.snd _ _)) (Lens.snd _ _)) Atom.Max (fun x y=>{x with Max:=y}) (fun _=>rfl) (fun _ _=>rfl)
def Zxy:Atom:=⟨(Vector.replicate 24 zTern),false,0,0⟩
def Yej:List Value:=((List.replicate 24 Ze7).flatten++([.bool false]++([.int .i64 0]++[.int .i64 0])))
theorem Ynm:KZ Z0q Zxy Yej:=Z2k (Z0o (Z4x 24 Za2) (Z0o Zi2 (Z0o Z1l Z1l)))
structure Rule where
 Cube:Za
 Atoms:(List Atom)
 deriving DecidableEq,Inhabited
def Z09:Kd Rule:=Z15 (Z2 (Z3 24 Z4) (Z1 Z0q)) (fun x=>(x.Cube,x.Atoms))
def lRule_0:Lens Z09 (Z3 24 Z4):=Lens.iso (k:=(Z2 (Z3 24 Z4) (Z1 Z0q))) (Lens.fst _ _) Rule.Cube (fun x y=>{x with Cube:=y}) (fun _=>rfl) (fun _ _=>rfl)
def lRule_1:Lens Z09 (Z1 Z0q):=Lens.iso (k:=(Z2 (Z3 24 Z4) (Z1 Z0q))) (Lens.snd _ _) Rule.Atoms (fun x y=>{x with Atoms:=y}) (fun _=>rfl) (fun _ _=>rfl)
def Y4t:Rule:=⟨(Vector.replicate 24 zTern),[]⟩
def Yos:List Value:=((List.replicate 24 Ze7).flatten++[.slice none 0 0])
theorem Yrj:KZ Z09 Y4t Yos:=Z2k (Z0o (Z4x 24 Za2) (Z5d _))
structure field_row where
 name:ByteArray
 id:Int
 bits:Int
 masks:Bool
 deriving DecidableEq,Inhabited
def Z23:Kd field_row:=Z15 (Z2 Z1t (Z2 (Z0 .i64) (Z2 (Z0 .i64) Z6))) (fun x=>(x.name,(x.id,(x.bits,x.masks))))
instance:PureK Z23:=inferInstanceAs (PureK (Z15 (Z2 Z1t (Z2 (Z0 .i64) (Z2 (Z0 .i64) Z6))) (fun (x:field_row)=>(x.name,(x.id,(x.bits,x.masks))))))
def Z3b:Lens Z23 Z1t:=Lens.iso (k:=(Z2 Z1t (Z2 (Z0 .i64) (Z2 (Z0 .i64) Z6)))) (Lens.fst _ _) field_row.name (fun x y=>{x with name:=y}) (fun _=>rfl) (fun _ _=>rfl)
def lfield_row_1:Lens Z23 (Z0 .i64):=Lens.iso (k:=(Z2 Z1t (Z2 (Z0 .i64) (Z2 (Z0 .i64) Z6)))) (Lens.comp (Lens.snd _ _) (Lens.fst _ _)) field_row.id (fun x y=>{x with id:=y}) (fun _=>rfl) (fun _ _=>rfl)
def Z32:Lens Z23 (Z0 .i64):=Lens.iso (k:=(Z2 Z1t (Z2 (Z0 .i64) (Z2 (Z0 .i64) Z6)))) (Lens.comp (Lens.comp (Lens.snd _ _) (Lens.snd _ _)) (Lens.fst _ _)) field_row.bits (fun x y=>{x with bits:=y}) (fun _=>rfl) (fun _ _=>rfl)
def Z3c:Lens Z23 Z6:=Lens.iso (k:=(Z2 Z1t (Z2 (Z0 .i64) (Z2 (Z0 .i64) Z6)))) (Lens.comp (Lens.comp (Lens.snd _ _) (Lens.snd _ _)) (Lens.snd _ _)) field_row.masks (fun x y=>{x with masks:=y}) (fun _=>rfl) (fun _ _=>rfl)
def Zko:field_row:=⟨(⟨#[]⟩:ByteArray),0,0,false⟩
def Yhk:List Value:=([.string ⟨#[]⟩]++([.int .i64 0]++([.int .i64 0]++[.bool false])))
theorem Y68:KZ Z23 Zko Yhk:=Z2k (Z0o Ycy (Z0o Z1l (Z0o Z1l Zi2)))
abbrev Ye0:=Vector field_row 24
structure walk_way where
 cube:Za
 got:Za
 atoms:(List Atom)
 set:(List Action)
 deriving DecidableEq,Inhabited
def Z1v:Kd walk_way:=Z15 (Z2 (Z3 24 Z4) (Z2 (Z3 24 Z4) (Z2 (Z1 Z0q) (Z1 Z9)))) (fun x=>(x.cube,(x.got,(x.atoms,x.set))))
def lwalk_way_0:Lens Z1v (Z3 24 Z4):=Lens.iso (k:=(Z2 (Z3 24 Z4) (Z2 (Z3 24 Z4) (Z2 (Z1 Z0q) (Z1 Z9))))) (Lens.fst _ _) walk_way.cube (fun x y=>{x with cube:=y}) (fun _=>rfl) (fun _ _=>rfl)
def lwalk_way_1:Lens Z1v (Z3 24 Z4):=Lens.iso (k:=(Z2 (Z3 24 Z4) (Z2 (Z3 24 Z4) (Z2 (Z1 Z0q) (Z1 Z9))))) (Lens.comp (Lens.snd _ _) (Lens.fst _ _)) walk_way.got (fun x y=>{x with got:=y}) (fun _=>rfl) (fun _ _=>rfl)
def Zih:Lens Z1v (Z1 Z0q):=Lens.iso (k:=(Z2 (Z3 24 Z4) (Z2 (Z3 24 Z4) (Z2 (Z1 Z0q) (Z1 Z9))))) (Lens.comp (Lens.comp (Lens.snd _ _) (Lens.snd _ _)) (Lens.fst _ _)) walk_way.atoms (fun x y=>{x with atoms:=y}) (fun _=>rfl) (fun _ _=>rfl)
def Zno:Lens Z1v (Z1 Z9):=Lens.iso (k:=(Z2 (Z3 24 Z4) (Z2 (Z3 24 Z4) (Z2 (Z1 Z0q) (Z1 Z9))))) (Lens.comp (Lens.comp (Lens.snd _ _) (Lens.snd _ _)) (Lens.snd _ _)) walk_way.set (fun x y=>{x with set:=y}) (fun _=>rfl) (fun _ _=>rfl)
def Zh7:walk_way:=⟨(Vector.replicate 24 zTern),(Vector.replicate 24 zTern),[],[]⟩
def Yko:List Value:=((List.replicate 24 Ze7).flatten++((List.replicate 24 Ze7).flatten++([.slice none 0 0]++[.slice none 0 0])))
theorem Yu8:KZ Z1v Zh7 Yko:=Z2k (Z0o (Z4x 24 Za2) (Z0o (Z4x 24 Za2) (Z0o (Z5d _) (Z5d _))))
structure Z62 where
 got:Za
 atoms:(List Atom)
 deriving DecidableEq,Inhabited
structure atom_trace_o1 where
 got:Za
 atoms:Value
def Z5p:Kd atom_trace_o1:=Z15 (Z2 (Z3 24 Z4) kraw) (fun x=>(x.got,x.atoms))
def latom_trace_o1_0:Lens Z5p (Z3 24 Z4):=Lens.iso (k:=(Z2 (Z3 24 Z4) kraw)) (Lens.fst _ _) atom_trace_o1.got (fun x y=>{x with got:=y}) (fun _=>rfl) (fun _ _=>rfl)
def Zl5:Lens Z5p kraw:=Lens.iso (k:=(Z2 (Z3 24 Z4) kraw)) (Lens.snd _ _) atom_trace_o1.atoms (fun x y=>{x with atoms:=y}) (fun _=>rfl) (fun _ _=>rfl)
def Yae:atom_trace_o1:=⟨(Vector.replicate 24 zTern),(.slice none 0 0)⟩
theorem Yd4:KZ Z5p Yae ((List.replicate 24 Ze7).flatten++[.slice none 0 0]):=Z2k (Z0o (Z4x 24 Za2) (Zhn rfl))
structure aset_spot where
 kind:Int
 field:Int
 deriving DecidableEq,Inhabited
def Z76:Kd aset_spot:=Z15 (Z2 (Z0 .i64) (Z0 .i64)) (fun x=>(x.kind,x.field))
instance:PureK Z76:=inferInstanceAs (PureK (Z15 (Z2 (Z0 .i64) (Z0 .i64)) (fun (x:aset_spot)=>(x.kind,x.field))))
def laset_spot_0:Lens Z76 (Z0 .i64):=Lens.iso (k:=(Z2 (Z0 .i64) (Z0 .i64))) (Lens.fst _ _) aset_spot.kind (fun x y=>{x with kind:=y}) (fun _=>rfl) (fun _ _=>rfl)
def laset_spot_1:Lens Z76 (Z0 .i64):=Lens.iso (k:=(Z2 (Z0 .i64) (Z0 .i64))) (Lens.snd _ _) aset_spot.field (fun x y=>{x with field:=y}) (fun _=>rfl) (fun _ _=>rfl)
def Zo2:aset_spot:=⟨0,0⟩
def Yco:List Value:=([.int .i64 0]++[.int .i64 0])
theorem Yvp:KZ Z76 Zo2 Yco:=Z2k (Z0o Z1l Z1l)
structure cover_purse where
 left:Int
 free:Bool
 deriving DecidableEq,Inhabited
def Z6q:Kd cover_purse:=Z15 (Z2 (Z0 .i64) Z6) (fun x=>(x.left,x.free))
instance:PureK Z6q:=inferInstanceAs (PureK (Z15 (Z2 (Z0 .i64) Z6) (fun (x:cover_purse)=>(x.left,x.free))))
def lcover_purse_0:Lens Z6q (Z0 .i64):=Lens.iso (k:=(Z2 (Z0 .i64) Z6)) (Lens.fst _ _) cover_purse.left (fun x y=>{x with left:=y}) (fun _=>rfl) (fun _ _=>rfl)
def lcover_purse_1:Lens Z6q Z6:=Lens.iso (k:=(Z2 (Z0 .i64) Z6)) (Lens.snd _ _) cover_purse.free (fun x y=>{x with free:=y}) (fun _=>rfl) (fun _ _=>rfl)
def Zuf:cover_purse:=⟨0,false⟩
def Y61:List Value:=([.int .i64 0]++[.bool false])
theorem Zzr:KZ Z6q Zuf Y61:=Z2k (Z0o Z1l Zi2)
abbrev Z16:=Vector Wide 24
structure cover_look where
 purse:cover_purse
 deriving DecidableEq,Inhabited
def Z2a:Kd cover_look:=Z15 Z6q (fun x=>x.purse)
instance:PureK Z2a:=inferInstanceAs (PureK (Z15 Z6q (fun (x:cover_look)=>x.purse)))
def lcover_look_0:Lens Z2a Z6q:=Lens.iso (k:=Z6q) (Lens.id _) cover_look.purse (fun x y=>{x with purse:=y}) (fun _=>rfl) (fun _ _=>rfl)
def Y9g:cover_look:=⟨Zuf⟩
def Ybt:List Value:=Y61
theorem Yr1:KZ Z2a Y9g Ybt:=Z2k Zzr
structure Env where
 Turn:Int
 Down:(List Int)
 deriving DecidableEq,Inhabited
def Z2s:Kd Env:=Z15 (Z2 (Z0 .i64) (Z1 (Z0 .i64))) (fun x=>(x.Turn,x.Down))
def Zzd:Lens Z2s (Z0 .i64):=Lens.iso (k:=(Z2 (Z0 .i64) (Z1 (Z0 .i64)))) (Lens.fst _ _) Env.Turn (fun x y=>{x with Turn:=y}) (fun _=>rfl) (fun _ _=>rfl)
def Y77:Lens Z2s (Z1 (Z0 .i64)):=Lens.iso (k:=(Z2 (Z0 .i64) (Z1 (Z0 .i64)))) (Lens.snd _ _) Env.Down (fun x y=>{x with Down:=y}) (fun _=>rfl) (fun _ _=>rfl)
def Z6b:Env:=⟨0,[]⟩
def Zoy:List Value:=([.int .i64 0]++[.slice none 0 0])
theorem Zxx:KZ Z2s Z6b Zoy:=Z2k (Z0o Z1l (Z5d _))
structure env_world where
 Env:Env
 Group:Group
 deriving DecidableEq,Inhabited
def Zcg:Kd env_world:=Z15 (Z2 Z2s Z0d) (fun x=>(x.Env,x.Group))
def lenv_world_0:Lens Zcg Z2s:=Lens.iso (k:=(Z2 Z2s Z0d)) (Lens.fst _ _) env_world.Env (fun x y=>{x with Env:=y}) (fun _=>rfl) (fun _ _=>rfl)
def lenv_world_1:Lens Zcg Z0d:=Lens.iso (k:=(Z2 Z2s Z0d)) (Lens.snd _ _) env_world.Group (fun x y=>{x with Group:=y}) (fun _=>rfl) (fun _ _=>rfl)
def Y6g:env_world:=⟨Z6b,Zwq⟩
def Yrl:List Value:=(Zoy++Y4u)
theorem Yui:KZ Zcg Y6g Yrl:=Z2k (Z0o Zxx Y4z)
structure Out where
 Port:Int
 Max:Int
 Header:Z16
 deriving DecidableEq,Inhabited
def Z14:Kd Out:=Z15 (Z2 (Z0 .i64) (Z2 (Z0 .i64) (Z3 24 Zn))) (fun x=>(x.Port,(x.Max,x.Header)))
instance:PureK Z14:=inferInstanceAs (PureK (Z15 (Z2 (Z0 .i64) (Z2 (Z0 .i64) (Z3 24 Zn))) (fun (x:Out)=>(x.Port,(x.Max,x.Header)))))
def lOut_0:Lens Z14 (Z0 .i64):=Lens.iso (k:=(Z2 (Z0 .i64) (Z2 (Z0 .i64) (Z3 24 Zn)))) (Lens.fst _ _) Out.Port (fun x y=>{x with Port:=y}) (fun _=>rfl) (fun _ _=>rfl)
def lOut_1:Lens Z14 (Z0 .i64):=Lens.iso (k:=(Z2 (Z0 .i64) (Z2 (Z0 .i64) (Z3 24 Zn)))) (Lens.comp (Lens.snd _ _) (Lens.fst _ _)) Out.Max (fun x y=>{x with Max:=y}) (fun _=>rfl) (fun _ _=>rfl)
def lOut_2:Lens Z14 (Z3 24 Zn):=Lens.iso (k:=(Z2 (Z0 .i64) (Z2 (Z0 .i64) (Z3 24 Zn)))) (Lens.comp (Lens.snd _ _) (Lens.snd _ _)) Out.Header (fun x y=>{x with Header:=y}) (fun _=>rfl) (fun _ _=>rfl)
def Y4k:Out:=⟨0,0,(Vector.replicate 24 Z0p)⟩
def Yqf:List Value:=([.int .i64 0]++([.int .i64 0]++(List.replicate 24 Z90).flatten))
theorem Yh2:KZ Z14 Y4k Yqf:=Z2k (Z0o Z1l (Z0o Z1l (Z4x 24 Z8f)))
structure Z0w where
 Env:Env
 groups:(List Group)
 out:(List Out)
 header:Z16
 depth:Int
 deriving DecidableEq,Inhabited
structure exec_run_o2 where
 Env:Env
 groups:(List Group)
 out:Value
 header:Z16
 depth:Int
def Z1r:Kd exec_run_o2:=Z15 (Z2 Z2s (Z2 (Z1 Z0d) (Z2 kraw (Z2 (Z3 24 Zn) (Z0 .i64))))) (fun x=>(x.Env,(x.groups,(x.out,(x.header,x.depth)))))
def lexec_run_o2_0:Lens Z1r Z2s:=Lens.iso (k:=(Z2 Z2s (Z2 (Z1 Z0d) (Z2 kraw (Z2 (Z3 24 Zn) (Z0 .i64)))))) (Lens.fst _ _) exec_run_o2.Env (fun x y=>{x with Env:=y}) (fun _=>rfl) (fun _ _=>rfl)
def lexec_run_o2_1:Lens Z1r (Z1 Z0d):=Lens.iso (k:=(Z2 Z2s (Z2 (Z1 Z0d) (Z2 kraw (Z2 (Z3 24 Zn) (Z0 .i64)))))) (Lens.comp (Lens.snd _ _) (Lens.fst _ _)) exec_run_o2.groups (fun x y=>{x with groups:=y}) (fun _=>rfl) (fun _ _=>rfl)
def Zn7:Lens Z1r kraw:=Lens.iso (k:=(Z2 Z2s (Z2 (Z1 Z0d) (Z2 kraw (Z2 (Z3 24 Zn) (Z0 .i64)))))) (Lens.comp (Lens.comp (Lens.snd _ _) (Lens.snd _ _)) (Lens.fst _ _)) exec_run_o2.out (fun x y=>{x with out:=y}) (fun _=>rfl) (fun _ _=>rfl)
def lexec_run_o2_3:Lens Z1r (Z3 24 Zn):=Lens.iso (k:=(Z2 Z2s (Z2 (Z1 Z0d) (Z2 kraw (Z2 (Z3 24 Zn) (Z0 .i64)))))) (Lens.comp (Lens.comp (Lens.comp (Lens.snd _ _) (Lens.snd _ _)) (Lens.snd _ _)) (Lens.fst _ _)) exec_run_o2.header (fun x y=>{x with header:=y}) (fun _=>rfl) (fun _ _=>rfl)
def Zig:Lens Z1r (Z0 .i64):=Lens.iso (k:=(Z2 Z2s (Z2 (Z1 Z0d) (Z2 kraw (Z2 (Z3 24 Zn) (Z0 .i64)))))) (Lens.comp (Lens.comp (Lens.comp (Lens.snd _ _) (Lens.snd _ _)) (Lens.snd _ _)) (Lens.snd _ _)) exec_run_o2.depth (fun x y=>{x with depth:=y}) (fun _=>rfl) (fun _ _=>rfl)
def Y8j:exec_run_o2:=⟨Z6b,[],(.slice none 0 0),(Vector.replicate 24 Z0p),0⟩
theorem Ykx:KZ Z1r Y8j (Zoy++([.slice none 0 0]++([.slice none 0 0]++((List.replicate 24 Z90).flatten++[.int .i64 0])))):=Z2k (Z0o Zxx (Z0o (Z5d _) (Z0o (Zhn rfl) (Z0o (Z4x 24 Z8f) Z1l))))
structure Place where
 Table:Int
 Flow:Int
 deriving DecidableEq,Inhabited
def Z0x:Kd Place:=Z15 (Z2 (Z0 .i64) (Z0 .i64)) (fun x=>(x.Table,x.Flow))
instance:PureK Z0x:=inferInstanceAs (PureK (Z15 (Z2 (Z0 .i64) (Z0 .i64)) (fun (x:Place)=>(x.Table,x.Flow))))
def lPlace_0:Lens Z0x (Z0 .i64):=Lens.iso (k:=(Z2 (Z0 .i64) (Z0 .i64))) (Lens.fst _ _) Place.Table (fun x y=>{x with Table:=y}) (fun _=>rfl) (fun _ _=>rfl)
def lPlace_1:Lens Z0x (Z0 .i64):=Lens.iso (k:=(Z2 (Z0 .i64) (Z0 .i64))) (Lens.snd _ _) Place.Flow (fun x y=>{x with Flow:=y}) (fun _=>rfl) (fun _ _=>rfl)
def Zud:Place:=⟨0,0⟩
def Y4f:List Value:=([.int .i64 0]++[.int .i64 0])
theorem Zzu:KZ Z0x Zud Y4f:=Z2k (Z0o Z1l Z1l)
structure Z34 where
 Switch:Switch
 env:Env
 header:Z16
 set:(List Action)
 out:(List Out)
 path:(List Place)
 deriving DecidableEq,Inhabited
structure sem_packet_o4_5 where
 Switch:Switch
 env:Env
 header:Z16
 set:(List Action)
 out:Value
 path:Value
def Z24:Kd sem_packet_o4_5:=Z15 (Z2 Z08 (Z2 Z2s (Z2 (Z3 24 Zn) (Z2 (Z1 Z9) (Z2 kraw kraw))))) (fun x=>(x.Switch,(x.env,(x.header,(x.set,(x.out,x.path))))))
def lsem_packet_o4_5_0:Lens Z24 Z08:=Lens.iso (k:=(Z2 Z08 (Z2 Z2s (Z2 (Z3 24 Zn) (Z2 (Z1 Z9) (Z2 kraw kraw)))))) (Lens.fst _ _) sem_packet_o4_5.Switch (fun x y=>{x with Switch:=y}) (fun _=>rfl) (fun _ _=>rfl)
def Y9q:Lens Z24 Z2s:=Lens.iso (k:=(Z2 Z08 (Z2 Z2s (Z2 (Z3 24 Zn) (Z2 (Z1 Z9) (Z2 kraw kraw)))))) (Lens.comp (Lens.snd _ _) (Lens.fst _ _)) sem_packet_o4_5.env (fun x y=>{x with env:=y}) (fun _=>rfl) (fun _ _=>rfl)
def lsem_packet_o4_5_2:Lens Z24 (Z3 24 Zn):=Lens.iso (k:=(Z2 Z08 (Z2 Z2s (Z2 (Z3 24 Zn) (Z2 (Z1 Z9) (Z2 kraw kraw)))))) (Lens.comp (Lens.comp (Lens.snd _ _) (Lens.snd _ _)) (Lens.fst _ _)) sem_packet_o4_5.header (fun x y=>{x with header:=y}) (fun _=>rfl) (fun _ _=>rfl)
def Zlx:Lens Z24 (Z1 Z9):=Lens.iso (k:=(Z2 Z08 (Z2 Z2s (Z2 (Z3 24 Zn) (Z2 (Z1 Z9) (Z2 kraw kraw)))))) (Lens.comp (Lens.comp (Lens.comp (Lens.snd _ _) (Lens.snd _ _)) (Lens.snd _ _)) (Lens.fst _ _)) sem_packet_o4_5.set (fun x y=>{x with set:=y}) (fun _=>rfl) (fun _ _=>rfl)
def Zs3:Lens Z24 kraw:=Lens.iso (k:=(Z2 Z08 (Z2 Z2s (Z2 (Z3 24 Zn) (Z2 (Z1 Z9) (Z2 kraw kraw)))))) (Lens.comp (Lens.comp (Lens.comp (Lens.comp (Lens.snd _ _) (Lens.snd _ _)) (Lens.snd _ _)) (Lens.snd _ _)) (Lens.fst _ _)) sem_packet_o4_5.out (fun x y=>{x with out:=y}) (fun _=>rfl) (fun _ _=>rfl)
def Zj5:Lens Z24 kraw:=Lens.iso (k:=(Z2 Z08 (Z2 Z2s (Z2 (Z3 24 Zn) (Z2 (Z1 Z9) (Z2 kraw kraw)))))) (Lens.comp (Lens.comp (Lens.comp (Lens.comp (Lens.snd _ _) (Lens.snd _ _)) (Lens.snd _ _)) (Lens.snd _ _)) (Lens.snd _ _)) sem_packet_o4_5.path (fun x y=>{x with path:=y}) (fun _=>rfl) (fun _ _=>rfl)
def Yay:sem_packet_o4_5:=⟨Zep,Z6b,(Vector.replicate 24 Z0p),[],(.slice none 0 0),(.slice none 0 0)⟩
theorem Yj0:KZ Z24 Yay (Zva++(Zoy++((List.replicate 24 Z90).flatten++([.slice none 0 0]++([.slice none 0 0]++[.slice none 0 0]))))):=Z2k (Z0o Zre (Z0o Zxx (Z0o (Z4x 24 Z8f) (Z0o (Z5d _) (Z0o (Zhn rfl) (Zhn rfl))))))
structure Yxp where
 groups:(List Group)
 seen:(List (Int×Int))
 deriving DecidableEq,Inhabited
structure group_walk_o1 where
 groups:(List Group)
 seen:Value
def Z6n:Kd group_walk_o1:=Z15 (Z2 (Z1 Z0d) kraw) (fun x=>(x.groups,x.seen))
def lgroup_walk_o1_0:Lens Z6n (Z1 Z0d):=Lens.iso (k:=(Z2 (Z1 Z0d) kraw)) (Lens.fst _ _) group_walk_o1.groups (fun x y=>{x with groups:=y}) (fun _=>rfl) (fun _ _=>rfl)
def lgroup_walk_o1_1:Lens Z6n kraw:=Lens.iso (k:=(Z2 (Z1 Z0d) kraw)) (Lens.snd _ _) group_walk_o1.seen (fun x y=>{x with seen:=y}) (fun _=>rfl) (fun _ _=>rfl)
def Yb4:group_walk_o1:=⟨[],(.map none)⟩
theorem Ygo:KZ Z6n Yb4 ([.slice none 0 0]++[.map none]):=Z2k (Z0o (Z5d _) (Zhn rfl))
structure Fault where
 Is:Bool
 Type_:Int
 Code:Int
 deriving DecidableEq,Inhabited
def Z3o:Kd Fault:=Z15 (Z2 Z6 (Z2 (Z0 .i64) (Z0 .i64))) (fun x=>(x.Is,(x.Type_,x.Code)))
instance:PureK Z3o:=inferInstanceAs (PureK (Z15 (Z2 Z6 (Z2 (Z0 .i64) (Z0 .i64))) (fun (x:Fault)=>(x.Is,(x.Type_,x.Code)))))
def lFault_0:Lens Z3o Z6:=Lens.iso (k:=(Z2 Z6 (Z2 (Z0 .i64) (Z0 .i64)))) (Lens.fst _ _) Fault.Is (fun x y=>{x with Is:=y}) (fun _=>rfl) (fun _ _=>rfl)
def lFault_1:Lens Z3o (Z0 .i64):=Lens.iso (k:=(Z2 Z6 (Z2 (Z0 .i64) (Z0 .i64)))) (Lens.comp (Lens.snd _ _) (Lens.fst _ _)) Fault.Type_ (fun x y=>{x with Type_:=y}) (fun _=>rfl) (fun _ _=>rfl)
def lFault_2:Lens Z3o (Z0 .i64):=Lens.iso (k:=(Z2 Z6 (Z2 (Z0 .i64) (Z0 .i64)))) (Lens.comp (Lens.snd _ _) (Lens.snd _ _)) Fault.Code (fun x y=>{x with Code:=y}) (fun _=>rfl) (fun _ _=>rfl)
def Zjq:Fault:=⟨false,0,0⟩
def Zzf:List Value:=([.bool false]++([.int .i64 0]++[.int .i64 0]))
theorem Yai:KZ Z3o Zjq Zzf:=Z2k (Z0o Zi2 (Z0o Z1l Z1l))
structure audit_wrong where
 Place:Place
 deriving DecidableEq,Inhabited
def Z7h:Kd audit_wrong:=Z15 Z0x (fun x=>x.Place)
instance:PureK Z7h:=inferInstanceAs (PureK (Z15 Z0x (fun (x:audit_wrong)=>x.Place)))
def laudit_wrong_0:Lens Z7h Z0x:=Lens.iso (k:=Z0x) (Lens.id _) audit_wrong.Place (fun x y=>{x with Place:=y}) (fun _=>rfl) (fun _ _=>rfl)
def Zxq:audit_wrong:=⟨Zud⟩
def Yxm:List Value:=Y4f
theorem Yp8:KZ Z7h Zxq Yxm:=Z2k Zzu
structure state_refused where
 Fault:Fault
 deriving DecidableEq,Inhabited
def Z72:Kd state_refused:=Z15 Z3o (fun x=>x.Fault)
instance:PureK Z72:=inferInstanceAs (PureK (Z15 Z3o (fun (x:state_refused)=>x.Fault)))
def lstate_refused_0:Lens Z72 Z3o:=Lens.iso (k:=Z3o) (Lens.id _) state_refused.Fault (fun x y=>{x with Fault:=y}) (fun _=>rfl) (fun _ _=>rfl)
def Zw9:state_refused:=⟨Zjq⟩
def Yg3:List Value:=Zzf
theorem Yhm:KZ Z72 Zw9 Yg3:=Z2k Yai
inductive Err where
 | no
 | e85 (x:audit_wrong)
 | e265 (x:state_refused)
 deriving DecidableEq,Inhabited
def Ziv:Err→Option Dy
 | .no=>none
 | .e85 x=>some (dy 85 Z7h x)
 | .e265 x=>some (dy 265 Z72 x)
abbrev Z4y:Kd Err:=Zg0 Ziv
def Err.isNo:Err→Bool
 | .no=>true
 | _=>false
theorem Y14 (e:Err):(Ziv e).isNone=e.isNo:=by cases e<;>rfl
structure flow_place where
 priority:Int
 cube:Za
 deriving DecidableEq,Inhabited
def Zcs:Kd flow_place:=Z15 (Z2 (Z0 .i64) (Z3 24 Z4)) (fun x=>(x.priority,x.cube))
instance:PureK Zcs:=inferInstanceAs (PureK (Z15 (Z2 (Z0 .i64) (Z3 24 Z4)) (fun (x:flow_place)=>(x.priority,x.cube))))
def lflow_place_0:Lens Zcs (Z0 .i64):=Lens.iso (k:=(Z2 (Z0 .i64) (Z3 24 Z4))) (Lens.fst _ _) flow_place.priority (fun x y=>{x with priority:=y}) (fun _=>rfl) (fun _ _=>rfl)
def lflow_place_1:Lens Zcs (Z3 24 Z4):=Lens.iso (k:=(Z2 (Z0 .i64) (Z3 24 Z4))) (Lens.snd _ _) flow_place.cube (fun x y=>{x with cube:=y}) (fun _=>rfl) (fun _ _=>rfl)
def Y2i:flow_place:=⟨0,(Vector.replicate 24 zTern)⟩
def Ywo:List Value:=([.int .i64 0]++(List.replicate 24 Ze7).flatten)
theorem Yud:KZ Zcs Y2i Ywo:=Z2k (Z0o Z1l (Z4x 24 Za2))
structure FlowMod where
 Cookie:(BitVec 64)
 CookieMask:(BitVec 64)
 Table:Int
 Command:Int
 Idle:Int
 Hard:Int
 Priority:Int
 Buffer:Int
 OutPort:Int
 OutGroup:Int
 Flags:Int
 Match:(List Oxm)
 Insts:(List Inst)
 deriving DecidableEq,Inhabited
def Z39:Kd FlowMod:=Z15 (Z2 Z05 (Z2 Z05 (Z2 (Z0 .i64) (Z2 (Z0 .i64) (Z2 (Z0 .i64) (Z2 (Z0 .i64) (Z2 (Z0 .i64) (Z2 (Z0 .i64) (Z2 (Z0 .i64) (Z2 (Z0 .i64) (Z2 (Z0 .i64) (Z2 (Z1 Z0h) (Z1 Z0a))))))))))))) (fun x=>(x.Cookie,(x.CookieMask,(x.Table,(x.Command,(x.Idle,(x.Hard,(x.Priority,(x.Buffer,(x.OutPort,(x.OutGroup,(x.Flags,(x.Match,x.Insts)))))))))))))
def lFlowMod_0:Lens Z39 Z05:=Lens.iso (k:=(Z2 Z05 (Z2 Z05 (Z2 (Z0 .i64) (Z2 (Z0 .i64) (Z2 (Z0 .i64) (Z2 (Z0 .i64) (Z2 (Z0 .i64) (Z2 (Z0 .i64) (Z2 (Z0 .i64) (Z2 (Z0 .i64) (Z2 (Z0 .i64) (Z2 (Z1 Z0h) (Z1 Z0a)))))))))))))) (Lens.fst _ _) FlowMod.Cookie (fun x y=>{x with Cookie:=y}) (fun _=>rfl) (fun _ _=>rfl)
def lFlowMod_2:Lens Z39 (Z0 .i64):=Lens.iso (k:=(Z2 Z05 (Z2 Z05 (Z2 (Z0 .i64) (Z2 (Z0 .i64) (Z2 (Z0 .i64) (Z2 (Z0 .i64) (Z2 (Z0 .i64) (Z2 (Z0 .i64) (Z2 (Z0 .i64) (Z2 (Z0 .i64) (Z2 (Z0 .i64) (Z2 (Z1 Z0h) (Z1 Z0a)))))))))))))) (Lens.comp (Lens.comp (Lens.snd _ _) (Lens.snd _ _)) (Lens.fst _ _)) FlowMod.Table (fun x y=>{x with Table:=y}) (fun _=>rfl) (fun _ _=>rfl)
def lFlowMod_3:Lens Z39 (Z0 .i64):=Lens.iso (k:=(Z2 Z05 (Z2 Z05 (Z2 (Z0 .i64) (Z2 (Z0 .i64) (Z2 (Z0 .i64) (Z2 (Z0 .i64) (Z2 (Z0 .i64) (Z2 (Z0 .i64) (Z2 (Z0 .i64) (Z2 (Z0 .i64) (Z2 (Z0 .i64) (Z2 (Z1 Z0h) (Z1 Z0a)))))))))))))) (Lens.comp (Lens.comp (Lens.comp (Lens.snd _ _) (Lens.snd _ _)) (Lens.snd _ _)) (Lens.fst _ _)) FlowMod.Command (fun x y=>{x with Command:=y}) (fun _=>rfl) (fun _ _=>rfl)
def lFlowMod_4:Lens Z39 (Z0 .i64):=Lens.iso (k:=(Z2 Z05 (Z2 Z05 (Z2 (Z0 .i64) (Z2 (Z0 .i64) (Z2 (Z0 .i64) (Z2 (Z0 .i64) (Z2 (Z0 .i64) (Z2 (Z0 .i64) (Z2 (Z0 .i64) (Z2 (Z0 .i64) (Z2 (Z0 .i64) (Z2 (Z1 Z0h) (Z1 Z0a)))))))))))))) (Lens.comp (Lens.comp (Lens.comp (Lens.comp (Lens.snd _ _) (Lens.snd _ _)) (Lens.snd _ _)) (Lens.snd _ _)) (Lens.fst _ _)) FlowMod.Idle (fun x y=>{x with Idle:=y}) (fun _=>rfl) (fun _ _=>rfl)
def lFlowMod_5:Lens Z39 (Z0 .i64):=Lens.iso (k:=(Z2 Z05 (Z2 Z05 (Z2 (Z0 .i64) (Z2 (Z0 .i64) (Z2 (Z0 .i64) (Z2 (Z0 .i64) (Z2 (Z0 .i64) (Z2 (Z0 .i64) (Z2 (Z0 .i64) (Z2 (Z0 .i64) (Z2 (Z0 .i64) (Z2 (Z1 Z0h) (Z1 Z0a)))))))))))))) (Lens.comp (Lens.comp (Lens.comp (Lens.comp (Lens.comp (Lens.snd _ _) (Lens.snd _ _)) (Lens.snd _ _)) (Lens.snd _ _)) (Lens.snd _ _)) (Lens.fst _ _)) FlowMod.Hard (fun x y=>{x with Hard:=y}) (fun _=>rfl) (fun _ _=>rfl)
def lFlowMod_6:Lens Z39 (Z0 .i64):=Lens.iso (k:=(Z2 Z05 (Z2 Z05 (Z2 (Z0 .i64) (Z2 (Z0 .i64) (Z2 (Z0 .i64) (Z2 (Z0 .i64) (Z2 (Z0 .i64) (Z2 (Z0 .i64) (Z2 (Z0 .i64) (Z2 (Z0 .i64) (Z2 (Z0 .i64) (Z2 (Z1 Z0h) (Z1 Z0a)))))))))))))) (Lens.comp (Lens.comp (Lens.comp (Lens.comp (Lens.comp (Lens.comp (Lens.snd _ _) (Lens.snd _ _)) (Lens.snd _ _)) (Lens.snd _ _)) (Lens.snd _ _)) (Lens.snd _ _)) (Lens.fst _ _)) FlowMod.Priority (fun x y=>{x with Priority:=y}) (fun _=>rfl) (fun _ _=>rfl)
def lFlowMod_7:Lens Z39 (Z0 .i64):=Lens.iso (k:=(Z2 Z05 (Z2 Z05 (Z2 (Z0 .i64) (Z2 (Z0 .i64) (Z2 (Z0 .i64) (Z2 (Z0 .i64) (Z2 (Z0 .i64) (Z2 (Z0 .i64) (Z2 (Z0 .i64) (Z2 (Z0 .i64) (Z2 (Z0 .i64) (Z2 (Z1 Z0h) (Z1 Z0a)))))))))))))) (Lens.comp (Lens.comp (Lens.comp (Lens.comp (Lens.comp (Lens.comp (Lens.comp (Lens.snd _ _) (Lens.snd _ _)) (Lens.snd _ _)) (Lens.snd _ _)) (Lens.snd _ _)) (Lens.snd _ _)) (Lens.snd _ _)) (Lens.fst _ _)) FlowMod.Buffer (fun x y=>{x with Buffer:=y}) (fun _=>rfl) (fun _ _=>rfl)
def lFlowMod_8:Lens Z39 (Z0 .i64):=Lens.iso (k:=(Z2 Z05 (Z2 Z05 (Z2 (Z0 .i64) (Z2 (Z0 .i64) (Z2 (Z0 .i64) (Z2 (Z0 .i64) (Z2 (Z0 .i64) (Z2 (Z0 .i64) (Z2 (Z0 .i64) (Z2 (Z0 .i64) (Z2 (Z0 .i64) (Z2 (Z1 Z0h) (Z1 Z0a)))))))))))))) (Lens.comp (Lens.comp (Lens.comp (Lens.comp (Lens.comp (Lens.comp (Lens.comp (Lens.comp (Lens.snd _ _) (Lens.snd _ _)) (Lens.snd _ _)) (Lens.snd _ _)) (Lens.snd _ _)) (Lens.snd _ _)) (Lens.snd _ _)) (Lens.snd _ _)) (Lens.fst _ _)) FlowMod.OutPort (fun x y=>{x with OutPort:=y}) (fun _=>rfl) (fun _ _=>rfl)
def lFlowMod_9:Lens Z39 (Z0 .i64):=Lens.iso (k:=(Z2 Z05 (Z2 Z05 (Z2 (Z0 .i64) (Z2 (Z0 .i64) (Z2 (Z0 .i64) (Z2 (Z0 .i64) (Z2 (Z0 .i64) (Z2 (Z0 .i64) (Z2 (Z0 .i64) (Z2 (Z0 .i64) (Z2 (Z0 .i64) (Z2 (Z1 Z0h) (Z1 Z0a)))))))))))))) (Lens.comp (Lens.comp (Lens.comp (Lens.comp (Lens.comp (Lens.comp (Lens.comp (Lens.comp (Lens.comp (Lens.snd _ _) (Lens.snd _ _)) (Lens.snd _ _)) (Lens.snd _ _)) (Lens.snd _ _)) (Lens.snd _ _)) (Lens.snd _ _)) (Lens.snd _ _)) (Lens.snd _ _)) (Lens.fst _ _)) FlowMod.OutGroup (fun x y=>{x with OutGroup:=y}) (fun _=>rfl) (fun _ _=>rfl)
def lFlowMod_10:Lens Z39 (Z0 .i64):=Lens.iso (k:=(Z2 Z05 (Z2 Z05 (Z2 (Z0 .i64) (Z2 (Z0 .i64) (Z2 (Z0 .i64) (Z2 (Z0 .i64) (Z2 (Z0 .i64) (Z2 (Z0 .i64) (Z2 (Z0 .i64) (Z2 (Z0 .i64) (Z2 (Z0 .i64) (Z2 (Z1 Z0h) (Z1 Z0a)))))))))))))) (Lens.comp (Lens.comp (Lens.comp (Lens.comp (Lens.comp (Lens.comp (Lens.comp (Lens.comp (Lens.comp (Lens.comp (Lens.snd _ _) (Lens.snd _ _)) (Lens.snd _ _)) (Lens.snd _ _)) (Lens.snd _ _)) (Lens.snd _ _)) (Lens.snd _ _)) (Lens.snd _ _)) (Lens.snd _ _)) (Lens.snd _ _)) (Lens.fst _ _)) FlowMod.Flags (fun x y=>{x with Flags:=y}) (fun _=>rfl) (fun _ _=>rfl)
def lFlowMod_11:Lens Z39 (Z1 Z0h):=Lens.iso (k:=(Z2 Z05 (Z2 Z05 (Z2 (Z0 .i64) (Z2 (Z0 .i64) (Z2 (Z0 .i64) (Z2 (Z0 .i64) (Z2 (Z0 .i64) (Z2 (Z0 .i64) (Z2 (Z0 .i64) (Z2 (Z0 .i64) (Z2 (Z0 .i64) (Z2 (Z1 Z0h) (Z1 Z0a)))))))))))))) (Lens.comp (Lens.comp (Lens.comp (Lens.comp (Lens.comp (Lens.comp (Lens.comp (Lens.comp (Lens.comp (Lens.comp (Lens.comp (Lens.snd _ _) (Lens.snd _ _)) (Lens.snd _ _)) (Lens.snd _ _)) (Lens.snd _ _)) (Lens.snd _ _)) (Lens.snd _ _)) (Lens.snd _ _)) (Lens.snd _ _)) (Lens.snd _ _)) (Lens.snd _ _)) (Lens.fst _ _)) FlowMod.Match (fun x y=>{x with Match:=y}) (fun _=>rfl) (fun _ _=>rfl)
def lFlowMod_12:Lens Z39 (Z1 Z0a):=Lens.iso (k:=(Z2 Z05 (Z2 Z05 (Z2 (Z0 .i64) (Z2 (Z0 .i64) (Z2 (Z0 .i64) (Z2 (Z0 .i64) (Z2 (Z0 .i64) (Z2 (Z0 .i64) (Z2 (Z0 .i64) (Z2 (Z0 .i64) (Z2 (Z0 .i64) (Z2 (Z1 Z0h) (Z1 Z0a)))))))))))))) (Lens.comp (Lens.comp (Lens.comp (Lens.comp (Lens.comp (Lens.comp (Lens.comp (Lens.comp (Lens.comp (Lens.comp (Lens.comp (Lens.snd _ _) (Lens.snd _ _)) (Lens.snd _ _)) (Lens.snd _ _)) (Lens.snd _ _)) (Lens.snd _ _)) (Lens.snd _ _)) (Lens.snd _ _)) (Lens.snd _ _)) (Lens.snd _ _)) (Lens.snd _ _)) (Lens.snd _ _)) FlowMod.Insts (fun x y=>{x with Insts:=y}) (fun _=>rfl) (fun _ _=>rfl)
def Zys:FlowMod:=⟨0,0,0,0,0,0,0,0,0,0,0,[],[]⟩
def Y9z:List Value:=([.int .u64 0]++([.int .u64 0]++([.int .i64 0]++([.int .i64 0]++([.int .i64 0]++([.int .i64 0]++([.int .i64 0]++([.int .i64 0]++([.int .i64 0]++([.int .i64 0]++([.int .i64 0]++([.slice none 0 0]++[.slice none 0 0]))))))))))))
theorem Y3p:KZ Z39 Zys Y9z:=Z2k (Z0o Zho (Z0o Zho (Z0o Z1l (Z0o Z1l (Z0o Z1l (Z0o Z1l (Z0o Z1l (Z0o Z1l (Z0o Z1l (Z0o Z1l (Z0o Z1l (Z0o (Z5d _) (Z5d _)))))))))))))
abbrev Zsc:=Vector Int 9
structure flowmod_mod where
 FlowMod:FlowMod
 deriving DecidableEq,Inhabited
def Z40:Kd flowmod_mod:=Z15 Z39 (fun x=>x.FlowMod)
def lflowmod_mod_0:Lens Z40 Z39:=Lens.iso (k:=Z39) (Lens.id _) flowmod_mod.FlowMod (fun x y=>{x with FlowMod:=y}) (fun _=>rfl) (fun _ _=>rfl)
def Yat:flowmod_mod:=⟨Zys⟩
def Yga:List Value:=Y9z
theorem Yhu:KZ Z40 Yat Yga:=Z2k Y3p
abbrev Y8x:=Vector Int 4
structure state_work where
 Switch:Switch
 deriving DecidableEq,Inhabited
def Z9i:Kd state_work:=Z15 Z08 (fun x=>x.Switch)
def lstate_work_0:Lens Z9i Z08:=Lens.iso (k:=Z08) (Lens.id _) state_work.Switch (fun x y=>{x with Switch:=y}) (fun _=>rfl) (fun _ _=>rfl)
def Y4p:state_work:=⟨Zep⟩
def Ylw:List Value:=Zva
theorem Ymx:KZ Z9i Y4p Ylw:=Z2k Zre
theorem Z2e:Sl Tryz.prog 22 48 Z03:=⟨by kernel_rfl,by kernel_rfl⟩
theorem Z2b:Ty Tryz.prog 48 Z03:=⟨by kernel_rfl,by kernel_rfl⟩
theorem Z4p:Sl Tryz.prog 46 140 Z0a:=⟨by kernel_rfl,by kernel_rfl⟩
theorem Z25:Ty Tryz.prog 140 Z0a:=⟨by kernel_rfl,by kernel_rfl⟩
theorem Z0g:Sl Tryz.prog 77 219 Z9:=⟨by kernel_rfl,by kernel_rfl⟩
theorem Z6w:Fl Tryz.prog 140 4 Z60:=⟨by kernel_rfl,rfl⟩
theorem Z2z:Ty Tryz.prog 77 (Z1 Z9):=⟨by kernel_rfl,by kernel_rfl⟩
theorem Zln:Fl Tryz.prog 48 5 lFlow_5:=⟨by kernel_rfl,rfl⟩
theorem Zce:Ty Tryz.prog 45 (Z1 Z0h):=⟨by kernel_rfl,by kernel_rfl⟩
theorem Z4w:Sl Tryz.prog 45 217 Z0h:=⟨by kernel_rfl,by kernel_rfl⟩
theorem Z8h:Fl Tryz.prog 48 6 lFlow_6:=⟨by kernel_rfl,rfl⟩
theorem Z5v:Ty Tryz.prog 46 (Z1 Z0a):=⟨by kernel_rfl,by kernel_rfl⟩
theorem Z6d:Sl Tryz.prog 69 168 Z1y:=⟨by kernel_rfl,by kernel_rfl⟩
theorem Zw8:Ty Tryz.prog 168 Z1y:=⟨by kernel_rfl,by kernel_rfl⟩
theorem Zjn:Fl Tryz.prog 168 3 Zg5:=⟨by kernel_rfl,rfl⟩
theorem Z6z:Fl Tryz.prog 71 2 Z6f:=⟨by kernel_rfl,rfl⟩
theorem Z7l:Ty Tryz.prog 69 (Z1 Z1y):=⟨by kernel_rfl,by kernel_rfl⟩
theorem Zp:Ty Tryz.prog 3 (Z0 .i64):=⟨by kernel_rfl,by kernel_rfl⟩
theorem Z55:Sl Tryz.prog 24 71 Z0d:=⟨by kernel_rfl,by kernel_rfl⟩
theorem Z6t:Ty Tryz.prog 71 Z0d:=⟨by kernel_rfl,by kernel_rfl⟩
theorem Z4u:Fl Tryz.prog 26 0 Z4n:=⟨by kernel_rfl,rfl⟩
theorem Zuo:Ty Tryz.prog 23 (Z3 4 (Z1 Z03)):=⟨by kernel_rfl,by kernel_rfl⟩
theorem Zp6:Fl Tryz.prog 26 1 lSwitch_1:=⟨by kernel_rfl,rfl⟩
theorem Zet:Ty Tryz.prog 24 (Z1 Z0d):=⟨by kernel_rfl,by kernel_rfl⟩
theorem Z51:Ar Tryz.prog 23 22 4 (Z1 Z03):=⟨by kernel_rfl,by kernel_rfl⟩
theorem Z38:Ty Tryz.prog 22 (Z1 Z03):=⟨by kernel_rfl,by kernel_rfl⟩
theorem Z1i:Zr Tryz.prog 123 (Z3 24 Z4) (Vector.replicate 24 zTern):=⟨_,(Z4x 24 Za2),by kernel_rfl⟩
theorem Z02:Ty Tryz.prog 123 (Z3 24 Z4):=⟨by kernel_rfl,by kernel_rfl⟩
theorem Z3p:Zr Tryz.prog 131 (Z3 24 Z4) (Vector.replicate 24 zTern):=⟨_,(Z4x 24 Za2),by kernel_rfl⟩
theorem Z04:Ty Tryz.prog 131 (Z3 24 Z4):=⟨by kernel_rfl,by kernel_rfl⟩
theorem Z11:Sl Tryz.prog 55 3 (Z0 .i64):=⟨by kernel_rfl,by kernel_rfl⟩
theorem zr3:Zr Tryz.prog 3 (Z0 .i64) 0:=⟨_,Z1l,by kernel_rfl⟩
theorem Zao:Fl Tryz.prog 48 1 lFlow_1:=⟨by kernel_rfl,rfl⟩
theorem Zg9:El Tryz.prog 55 3 (Z0 .i64):=⟨by kernel_rfl,by kernel_rfl,by kernel_rfl,by kernel_rfl,by kernel_rfl⟩
theorem Z27:Zr Tryz.prog 29 Zn Z0p:=⟨_,Z8f,by kernel_rfl⟩
theorem Z4h:Z2f Tryz.prog 29=true:=by kernel_rfl
theorem Zw:Ty Tryz.prog 29 Zn:=⟨by kernel_rfl,by kernel_rfl⟩
theorem us3:(Tryz.prog.underlying 3).isSome=true:=by kernel_rfl
theorem Z94:Tryz.prog.underlying 331=some (.int .u64):=by kernel_rfl
theorem Z84:Z0l Tryz.prog 29 1=some (lWide_1.off,Kd.sz Z05):=by kernel_rfl
theorem Z7q:Z0l Tryz.prog 29 0=some (lWide_0.off,Kd.sz Z05):=by kernel_rfl
theorem Z4b:Fl Tryz.prog 29 0 lWide_0:=⟨by kernel_rfl,rfl⟩
theorem Z1g:Ty Tryz.prog 27 Z05:=⟨by kernel_rfl,by kernel_rfl⟩
theorem Z4d:Fl Tryz.prog 29 1 lWide_1:=⟨by kernel_rfl,rfl⟩
theorem Z1n:Zr Tryz.prog 121 Z4 zTern:=⟨_,Za2,by kernel_rfl⟩
theorem Z4r:Fl Tryz.prog 217 0 Z4f:=⟨by kernel_rfl,rfl⟩
theorem Z4c:Z2f Tryz.prog 121=true:=by kernel_rfl
theorem Z01:Ty Tryz.prog 121 Z4:=⟨by kernel_rfl,by kernel_rfl⟩
theorem Zzn:Fl Tryz.prog 217 1 Zxe:=⟨by kernel_rfl,rfl⟩
theorem ty4:Ty Tryz.prog 4 Z6:=⟨by kernel_rfl,by kernel_rfl⟩
theorem Zq2:Fl Tryz.prog 217 2 Zmq:=⟨by kernel_rfl,rfl⟩
theorem Y8z:Fl Tryz.prog 217 3 Zx3:=⟨by kernel_rfl,rfl⟩
theorem Z5n:Z0l Tryz.prog 121 0=some (lTern_0.off,Kd.sz Zn):=by kernel_rfl
theorem Z5s:Z0l Tryz.prog 121 1=some (lTern_1.off,Kd.sz Zn):=by kernel_rfl
theorem Z7f:Ty Tryz.prog 217 Z0h:=⟨by kernel_rfl,by kernel_rfl⟩
theorem Z2l:Ar Tryz.prog 123 121 24 Z4:=⟨by kernel_rfl,by kernel_rfl⟩
theorem Z2x:Fl Tryz.prog 121 0 lTern_0:=⟨by kernel_rfl,rfl⟩
theorem Z2c:Fl Tryz.prog 121 1 lTern_1:=⟨by kernel_rfl,rfl⟩
theorem Z47:Ar Tryz.prog 131 121 24 Z4:=⟨by kernel_rfl,by kernel_rfl⟩
theorem Z3f:Zr Tryz.prog 140 Z0a Zwf:=⟨_,Yo8,by kernel_rfl⟩
theorem Zf7:Fl Tryz.prog 140 0 Ze4:=⟨by kernel_rfl,rfl⟩
theorem Y86:Z2f Tryz.prog 140=true:=by kernel_rfl
theorem Z5u:Fl Tryz.prog 219 0 Z58:=⟨by kernel_rfl,rfl⟩
theorem Za9:Fl Tryz.prog 219 5 Z8t:=⟨by kernel_rfl,rfl⟩
theorem Z7n:Sl Tryz.prog 124 296 Z0q:=⟨by kernel_rfl,by kernel_rfl⟩
theorem Z7b:Zr Tryz.prog 296 Z0q Zxy:=⟨_,Ynm,by kernel_rfl⟩
theorem Zli:Fl Tryz.prog 219 1 Zh5:=⟨by kernel_rfl,rfl⟩
theorem Zxg:Z0l Tryz.prog 296 0=some (lAtom_0.off,Kd.sz (Z3 24 Z4)):=by kernel_rfl
theorem Y6n:Z0l Tryz.prog 296 2=some (lAtom_2.off,Kd.sz (Z0 .i64)):=by kernel_rfl
theorem Ztu:Z2f Tryz.prog 296=true:=by kernel_rfl
theorem Zp9:Ty Tryz.prog 296 Z0q:=⟨by kernel_rfl,by kernel_rfl⟩
theorem Ztc:Fl Tryz.prog 296 2 lAtom_2:=⟨by kernel_rfl,rfl⟩
theorem Zyj:Fl Tryz.prog 219 2 Zrp:=⟨by kernel_rfl,rfl⟩
theorem Y6t:Fl Tryz.prog 296 3 Zvo:=⟨by kernel_rfl,rfl⟩
theorem Zak:El Tryz.prog 124 296 Z0q:=⟨by kernel_rfl,by kernel_rfl,by kernel_rfl,by kernel_rfl,by kernel_rfl⟩
theorem Zu3:Fl Tryz.prog 219 3 Zp5:=⟨by kernel_rfl,rfl⟩
theorem Ybw:Z0l Tryz.prog 296 1=some (lAtom_1.off,Kd.sz Z6):=by kernel_rfl
theorem Z0z:Ty Tryz.prog 219 Z9:=⟨by kernel_rfl,by kernel_rfl⟩
theorem Z66:Zr Tryz.prog 219 Z9 Zrw:=⟨_,Yva,by kernel_rfl⟩
theorem Z8l:El Tryz.prog 77 219 Z9:=⟨by kernel_rfl,by kernel_rfl,by kernel_rfl,by kernel_rfl,by kernel_rfl⟩
theorem Yvo:Z2f Tryz.prog 219=true:=by kernel_rfl
theorem Z3q:Sl Tryz.prog 67 126 Z09:=⟨by kernel_rfl,by kernel_rfl⟩
theorem Z6p:Zr Tryz.prog 126 Z09 Y4t:=⟨_,Yrj,by kernel_rfl⟩
theorem Z61:Zr Tryz.prog 48 Z03 Zu5:=⟨_,Yjj,by kernel_rfl⟩
theorem Z20:Ty Tryz.prog 26 Z08:=⟨by kernel_rfl,by kernel_rfl⟩
theorem Zkv:El Tryz.prog 67 126 Z09:=⟨by kernel_rfl,by kernel_rfl,by kernel_rfl,by kernel_rfl,by kernel_rfl⟩
theorem Zvg:Z0l Tryz.prog 126 0=some (lRule_0.off,Kd.sz (Z3 24 Z4)):=by kernel_rfl
theorem Zxi:Z0l Tryz.prog 126 1=some (lRule_1.off,Kd.sz (Z1 Z0q)):=by kernel_rfl
theorem Zuz:Z2f Tryz.prog 126=true:=by kernel_rfl
theorem Zuh:Fl Tryz.prog 140 2 Zrk:=⟨by kernel_rfl,rfl⟩
theorem Zyf:Fl Tryz.prog 140 3 Zon:=⟨by kernel_rfl,rfl⟩
theorem Z87:Fl Tryz.prog 140 1 Z73:=⟨by kernel_rfl,rfl⟩
theorem Z4l:Sl Tryz.prog 127 123 (Z3 24 Z4):=⟨by kernel_rfl,by kernel_rfl⟩
theorem Zmp:Fl Tryz.prog 126 0 lRule_0:=⟨by kernel_rfl,rfl⟩
theorem Zqq:El Tryz.prog 127 123 (Z3 24 Z4):=⟨by kernel_rfl,by kernel_rfl,by kernel_rfl,by kernel_rfl,by kernel_rfl⟩
theorem Zc2:(Tryz.prog.underlying 331).isSome=true:=by kernel_rfl
theorem un3:Tryz.prog.underlying 3=some (.int .i64):=by kernel_rfl
theorem Y3d:Zr Tryz.prog 399 (Z3 24 Z23) (Vector.replicate 24 Zko):=⟨_,(Z4x 24 Y68),by kernel_rfl⟩
theorem Yx2:Z0l Tryz.prog 381 1=some (lfield_row_1.off,Kd.sz (Z0 .i64)):=by kernel_rfl
theorem Z33:Zr Tryz.prog 381 Z23 Zko:=⟨_,Y68,by kernel_rfl⟩
theorem Y7l:Ty Tryz.prog 399 (Z3 24 Z23):=⟨by kernel_rfl,by kernel_rfl⟩
theorem Yf9:Z2f Tryz.prog 381=true:=by kernel_rfl
theorem Zjs:Ty Tryz.prog 381 Z23:=⟨by kernel_rfl,by kernel_rfl⟩
theorem Yjv:Ar Tryz.prog 399 381 24 Z23:=⟨by kernel_rfl,by kernel_rfl⟩
theorem Yu5:Zm1 Tryz.prog 381 2=some 3:=by kernel_rfl
theorem Yo1:Fl Tryz.prog 381 2 Z32:=⟨by kernel_rfl,rfl⟩
theorem Zri:Zr Tryz.prog 217 Z0h Z7t:=⟨_,Ybb,by kernel_rfl⟩
theorem Zgb:Zr Tryz.prog 304 Z1v Zh7:=⟨_,Yu8,by kernel_rfl⟩
theorem Zjp:Fl Tryz.prog 304 1 lwalk_way_1:=⟨by kernel_rfl,rfl⟩
theorem Y1h:Z2f Tryz.prog 304=true:=by kernel_rfl
theorem Z3i:Ty Tryz.prog 304 Z1v:=⟨by kernel_rfl,by kernel_rfl⟩
theorem Zvk:Fl Tryz.prog 304 0 lwalk_way_0:=⟨by kernel_rfl,rfl⟩
theorem Yq9:Zr Tryz.prog 409 (Z3 2 Z05) (Vector.replicate 2 0):=⟨_,(Z4x 2 Zho),by kernel_rfl⟩
theorem Zyl:Ar Tryz.prog 409 27 2 Z05:=⟨by kernel_rfl,by kernel_rfl⟩
theorem Zo3:Fl Tryz.prog 416 0 latom_trace_o1_0:=⟨by kernel_rfl,rfl⟩
theorem Yuq:Fl Tryz.prog 296 1 lAtom_1:=⟨by kernel_rfl,rfl⟩
theorem Zsy:Fl Tryz.prog 416 1 Zl5:=⟨by kernel_rfl,rfl⟩
theorem Zwy:Ty Tryz.prog 124 kraw:=⟨by kernel_rfl,by kernel_rfl⟩
theorem Yum:Z0l Tryz.prog 416 0=some (latom_trace_o1_0.off,Kd.sz (Z3 24 Z4)):=by kernel_rfl
theorem Yl6:Zr Tryz.prog 416 Z5p Yae:=⟨_,Yd4,by kernel_rfl⟩
theorem Yf6:Z2f Tryz.prog 416=true:=by kernel_rfl
theorem Zl7:Fl Tryz.prog 304 2 Zih:=⟨by kernel_rfl,rfl⟩
theorem Zeu:Ty Tryz.prog 124 (Z1 Z0q):=⟨by kernel_rfl,by kernel_rfl⟩
theorem Zl8:Zr Tryz.prog 225 Z76 Zo2:=⟨_,Yvp,by kernel_rfl⟩
theorem Y80:Z0l Tryz.prog 225 0=some (laset_spot_0.off,Kd.sz (Z0 .i64)):=by kernel_rfl
theorem Yqv:Z0l Tryz.prog 225 1=some (laset_spot_1.off,Kd.sz (Z0 .i64)):=by kernel_rfl
theorem Y90:Z2f Tryz.prog 225=true:=by kernel_rfl
theorem Zfl:Ty Tryz.prog 225 Z76:=⟨by kernel_rfl,by kernel_rfl⟩
theorem eqk3:EqK Tryz.prog 1 3 (Z0 .i64):=Ybu (by kernel_rfl)
theorem Yo6:EqK Tryz.prog 2 225 Z76:=Zmc (fun x y e=>by cases x;cases y;simp only [Prod.mk.injEq] at e;simp [e]) (l:=_) (by kernel_rfl) (by kernel_rfl) (Zj9 eqk3 Zp (Znt eqk3 Zp))
theorem Ypf:Tryz.prog.eqGuardType Tryz.prog.depth 225=false:=by kernel_rfl
theorem Y3a:Fl Tryz.prog 225 0 laset_spot_0:=⟨by kernel_rfl,rfl⟩
theorem Zrt:Fl Tryz.prog 225 1 laset_spot_1:=⟨by kernel_rfl,rfl⟩
theorem zr4:Zr Tryz.prog 4 Z6 false:=⟨_,Zi2,by kernel_rfl⟩
theorem Zrs:Fl Tryz.prog 304 3 Zno:=⟨by kernel_rfl,rfl⟩
theorem Z9j:Ty Tryz.prog 126 Z09:=⟨by kernel_rfl,by kernel_rfl⟩
theorem Yan:Fl Tryz.prog 301 0 (Lens.fst Z08 kraw):=⟨by kernel_rfl,rfl⟩
theorem Y0p (A:Z8):Fl Tryz.prog 301 0 (Zvp Z08 A):=⟨Yan.1,Yan.2⟩
theorem Y6d:Fl Tryz.prog 301 1 (Lens.snd Z08 kraw):=⟨by kernel_rfl,rfl⟩
theorem Y9i (A:Z8):Fl Tryz.prog 301 1 (Zx9 Z08 A):=⟨Y6d.1,Y6d.2⟩
theorem tyr298:Ty Tryz.prog 298 kraw:=⟨by kernel_rfl,by kernel_rfl⟩
theorem Y04 (A:Z8):Ty Tryz.prog 298 (kas A):=⟨tyr298.sz,tyr298.ag⟩
theorem Yt1:Zr Tryz.prog 301 (Z2 Z08 kraw) (Zep,.nilFunc):=⟨_,Z0o Zre (Zhn rfl),by kernel_rfl⟩
theorem Ytz:Z0l Tryz.prog 304 0=some (lwalk_way_0.off,Kd.sz (Z3 24 Z4)):=by kernel_rfl
theorem Yvz:Z0l Tryz.prog 304 1=some (lwalk_way_1.off,Kd.sz (Z3 24 Z4)):=by kernel_rfl
theorem Zxd:Ty Tryz.prog 67 kraw:=⟨by kernel_rfl,by kernel_rfl⟩
theorem Ydq:Fl Tryz.prog 289 1 lcover_purse_1:=⟨by kernel_rfl,rfl⟩
theorem Zu7:Fl Tryz.prog 289 0 lcover_purse_0:=⟨by kernel_rfl,rfl⟩
theorem Z53:Zr Tryz.prog 31 (Z3 24 Zn) (Vector.replicate 24 Z0p):=⟨_,(Z4x 24 Z8f),by kernel_rfl⟩
theorem Z17:Ty Tryz.prog 31 (Z3 24 Zn):=⟨by kernel_rfl,by kernel_rfl⟩
theorem Yku:Zm1 Tryz.prog 121 0=some 29:=by kernel_rfl
theorem Zo9:Ar Tryz.prog 31 29 24 Zn:=⟨by kernel_rfl,by kernel_rfl⟩
theorem Yc8:(Tryz.prog.underlying 27).isSome=true:=by kernel_rfl
theorem tyr287:Ty Tryz.prog 287 kraw:=⟨by kernel_rfl,by kernel_rfl⟩
theorem Y7m (A:Z8):Ty Tryz.prog 287 (kas A):=⟨tyr287.sz,tyr287.ag⟩
theorem Yoo:Fl Tryz.prog 291 0 lcover_look_0:=⟨by kernel_rfl,rfl⟩
theorem Zv3:Ty Tryz.prog 127 (Z1 (Z3 24 Z4)):=⟨by kernel_rfl,by kernel_rfl⟩
theorem Yt2:Z0l Tryz.prog 289 0=some (lcover_purse_0.off,Kd.sz (Z0 .i64)):=by kernel_rfl
theorem Yd6:Z0l Tryz.prog 289 1=some (lcover_purse_1.off,Kd.sz Z6):=by kernel_rfl
theorem Yso:Zr Tryz.prog 289 Z6q Zuf:=⟨_,Zzr,by kernel_rfl⟩
theorem Yqt:Z2f Tryz.prog 289=true:=by kernel_rfl
theorem Yca:Z0l Tryz.prog 291 0=some (lcover_look_0.off,Kd.sz Z6q):=by kernel_rfl
theorem Ydz:Zr Tryz.prog 291 Z2a Y9g:=⟨_,Yr1,by kernel_rfl⟩
theorem Yp4:Z2f Tryz.prog 291=true:=by kernel_rfl
theorem Y0i:Fl Tryz.prog 126 1 lRule_1:=⟨by kernel_rfl,rfl⟩
theorem Zyk:Fl Tryz.prog 71 0 lGroup_0:=⟨by kernel_rfl,rfl⟩
theorem Yd1:El Tryz.prog 24 71 Z0d:=⟨by kernel_rfl,by kernel_rfl,by kernel_rfl,by kernel_rfl,by kernel_rfl⟩
theorem Zcl:Zr Tryz.prog 71 Z0d Zwq:=⟨_,Y4z,by kernel_rfl⟩
theorem Ype:El Tryz.prog 69 168 Z1y:=⟨by kernel_rfl,by kernel_rfl,by kernel_rfl,by kernel_rfl,by kernel_rfl⟩
theorem Y6w:Zr Tryz.prog 168 Z1y Y5u:=⟨_,Ysh,by kernel_rfl⟩
theorem Y4l:Z2f Tryz.prog 71=true:=by kernel_rfl
theorem Ye4:Fl Tryz.prog 57 0 Zzd:=⟨by kernel_rfl,rfl⟩
theorem Yg8:Fl Tryz.prog 57 1 Y77:=⟨by kernel_rfl,rfl⟩
theorem Yqb:Ty Tryz.prog 55 (Z1 (Z0 .i64)):=⟨by kernel_rfl,by kernel_rfl⟩
theorem Y1b:Fl Tryz.prog 406 0 lenv_world_0:=⟨by kernel_rfl,rfl⟩
theorem Zh9:Ty Tryz.prog 57 Z2s:=⟨by kernel_rfl,by kernel_rfl⟩
theorem Yf8:Fl Tryz.prog 168 1 Y6j:=⟨by kernel_rfl,rfl⟩
theorem Zlb:Fl Tryz.prog 406 1 lenv_world_1:=⟨by kernel_rfl,rfl⟩
theorem Ykg:Z0l Tryz.prog 406 0=some (lenv_world_0.off,Kd.sz Z2s):=by kernel_rfl
theorem Yen:Z0l Tryz.prog 406 1=some (lenv_world_1.off,Kd.sz Z0d):=by kernel_rfl
theorem Y4g:Zr Tryz.prog 406 Zcg Y6g:=⟨_,Yui,by kernel_rfl⟩
theorem Yv6:Z2f Tryz.prog 406=true:=by kernel_rfl
theorem Y1f:Ty Tryz.prog 406 Zcg:=⟨by kernel_rfl,by kernel_rfl⟩
theorem Y81:Fl Tryz.prog 71 1 Zy0:=⟨by kernel_rfl,rfl⟩
theorem Zsx:Fl Tryz.prog 311 2 Zn7:=⟨by kernel_rfl,rfl⟩
theorem Zj8:Ty Tryz.prog 61 kraw:=⟨by kernel_rfl,by kernel_rfl⟩
theorem Zhv:Fl Tryz.prog 311 3 lexec_run_o2_3:=⟨by kernel_rfl,rfl⟩
theorem Yoq:Z0l Tryz.prog 111 0=some (lOut_0.off,Kd.sz (Z0 .i64)):=by kernel_rfl
theorem Yur:Z0l Tryz.prog 111 1=some (lOut_1.off,Kd.sz (Z0 .i64)):=by kernel_rfl
theorem Yfz:Z0l Tryz.prog 111 2=some (lOut_2.off,Kd.sz (Z3 24 Zn)):=by kernel_rfl
theorem Y7x:Zr Tryz.prog 111 Z14 Y4k:=⟨_,Yh2,by kernel_rfl⟩
theorem Yg7:Z2f Tryz.prog 111=true:=by kernel_rfl
theorem Ypw:Sl Tryz.prog 61 111 Z14:=⟨by kernel_rfl,by kernel_rfl⟩
theorem Yau:El Tryz.prog 61 111 Z14:=⟨by kernel_rfl,by kernel_rfl,by kernel_rfl,by kernel_rfl,by kernel_rfl⟩
theorem Ysr:Fl Tryz.prog 311 1 lexec_run_o2_1:=⟨by kernel_rfl,rfl⟩
theorem Zn0:Fl Tryz.prog 311 4 Zig:=⟨by kernel_rfl,rfl⟩
theorem Yj8:Fl Tryz.prog 311 0 lexec_run_o2_0:=⟨by kernel_rfl,rfl⟩
theorem Yop:Z0l Tryz.prog 311 0=some (lexec_run_o2_0.off,Kd.sz Z2s):=by kernel_rfl
theorem Ygk:Z0l Tryz.prog 311 1=some (lexec_run_o2_1.off,Kd.sz (Z1 Z0d)):=by kernel_rfl
theorem Ymn:Z0l Tryz.prog 311 3=some (lexec_run_o2_3.off,Kd.sz (Z3 24 Zn)):=by kernel_rfl
theorem Yh6:Zr Tryz.prog 311 Z1r Y8j:=⟨_,Ykx,by kernel_rfl⟩
theorem Ykq:Z2f Tryz.prog 311=true:=by kernel_rfl
theorem Zsv:Fl Tryz.prog 79 0 lsem_packet_o4_5_0:=⟨by kernel_rfl,rfl⟩
theorem Ym1:Fl Tryz.prog 79 1 Y9q:=⟨by kernel_rfl,rfl⟩
theorem Zn4:Fl Tryz.prog 79 2 lsem_packet_o4_5_2:=⟨by kernel_rfl,rfl⟩
theorem Y2f:Fl Tryz.prog 79 4 Zs3:=⟨by kernel_rfl,rfl⟩
theorem Zpl:Fl Tryz.prog 79 3 Zlx:=⟨by kernel_rfl,rfl⟩
theorem Zmt:Fl Tryz.prog 79 5 Zj5:=⟨by kernel_rfl,rfl⟩
theorem Zkf:Ty Tryz.prog 34 kraw:=⟨by kernel_rfl,by kernel_rfl⟩
theorem Zar:Z0l Tryz.prog 40 0=some (lPlace_0.off,Kd.sz (Z0 .i64)):=by kernel_rfl
theorem Z9y:Z0l Tryz.prog 40 1=some (lPlace_1.off,Kd.sz (Z0 .i64)):=by kernel_rfl
theorem Z48:Zr Tryz.prog 40 Z0x Zud:=⟨_,Zzu,by kernel_rfl⟩
theorem Z7z:Z2f Tryz.prog 40=true:=by kernel_rfl
theorem Z6k:Sl Tryz.prog 34 40 Z0x:=⟨by kernel_rfl,by kernel_rfl⟩
theorem Zsz:El Tryz.prog 34 40 Z0x:=⟨by kernel_rfl,by kernel_rfl,by kernel_rfl,by kernel_rfl,by kernel_rfl⟩
theorem Yrp:Z0l Tryz.prog 79 0=some (lsem_packet_o4_5_0.off,Kd.sz Z08):=by kernel_rfl
theorem Ygi:Z0l Tryz.prog 79 2=some (lsem_packet_o4_5_2.off,Kd.sz (Z3 24 Zn)):=by kernel_rfl
theorem Yn5:Zr Tryz.prog 79 Z24 Yay:=⟨_,Yj0,by kernel_rfl⟩
theorem Yfc:Z2f Tryz.prog 79=true:=by kernel_rfl
theorem Y7r:laidOutB Tryz.prog=true:=by kernel_rfl
theorem Zsu:MTy Tryz.prog 72 40 Z0x:=⟨⟨3,by kernel_rfl,by kernel_rfl⟩,(Ydl (ti:=3) (f:=fun (x:Place)=>(x.Table,x.Flow)) (n:=449) (a:="Table") (b:="Flow") (Go.Maps.Keyed.of_law (deep_law_laid Y7r (m:=2) (by omega) (Nat.lt_of_lt_of_eq (by decide:40<450) (by kernel_rfl)) (by kernel_rfl) (by kernel_rfl))) (by kernel_rfl) (by decide) (by decide) (by kernel_rfl) (by kernel_rfl) (by kernel_rfl) (by kernel_rfl) (by kernel_rfl) (fun x y e=>by cases x;cases y;simp at e;simp [e]))⟩
theorem Z4i:Ty Tryz.prog 40 Z0x:=⟨by kernel_rfl,by kernel_rfl⟩
theorem Z8u:Zr Tryz.prog 26 Z08 Zep:=⟨_,Zre,by kernel_rfl⟩
theorem Zo1:Z2f Tryz.prog 26=true:=by kernel_rfl
theorem Zwn:El Tryz.prog 22 48 Z03:=⟨by kernel_rfl,by kernel_rfl,by kernel_rfl,by kernel_rfl,by kernel_rfl⟩
theorem Y9n:Fl Tryz.prog 253 0 lgroup_walk_o1_0:=⟨by kernel_rfl,rfl⟩
theorem Zs2:Fl Tryz.prog 253 1 lgroup_walk_o1_1:=⟨by kernel_rfl,rfl⟩
theorem Zs0:Ty Tryz.prog 251 kraw:=⟨by kernel_rfl,by kernel_rfl⟩
theorem Zdj:MTy Tryz.prog 251 3 (Z0 .i64):=⟨⟨3,by kernel_rfl,by kernel_rfl⟩,Ysm (by kernel_rfl)⟩
theorem Yd9:Z0l Tryz.prog 253 0=some (lgroup_walk_o1_0.off,Kd.sz (Z1 Z0d)):=by kernel_rfl
theorem Yod:Z0l Tryz.prog 253 1=some (lgroup_walk_o1_1.off,Kd.sz kraw):=by kernel_rfl
theorem Yv7:Zr Tryz.prog 253 Z6n Yb4:=⟨_,Ygo,by kernel_rfl⟩
theorem Ywh:Z2f Tryz.prog 253=true:=by kernel_rfl
theorem Yx4:(Tryz.prog.underlying 251).isSome=true:=by kernel_rfl
theorem Zqd:Zm1 Tryz.prog 98 0=some 4:=by kernel_rfl
theorem Zop:Fl Tryz.prog 98 0 lFault_0:=⟨by kernel_rfl,rfl⟩
theorem Zus:Z0l Tryz.prog 85 0=some (laudit_wrong_0.off,Kd.sz Z0x):=by kernel_rfl
theorem Zof:Zr Tryz.prog 85 Z7h Zxq:=⟨_,Yp8,by kernel_rfl⟩
theorem Zvq:Z2f Tryz.prog 85=true:=by kernel_rfl
theorem Zy6:Zb7 Tryz.prog 85=true:=by kernel_rfl
theorem Y9t:Zr Tryz.prog 269 Zcs Y2i:=⟨_,Yud,by kernel_rfl⟩
theorem Ym8:Z0l Tryz.prog 269 0=some (lflow_place_0.off,Kd.sz (Z0 .i64)):=by kernel_rfl
theorem Yev:Z0l Tryz.prog 269 1=some (lflow_place_1.off,Kd.sz (Z3 24 Z4)):=by kernel_rfl
theorem Yfu:Z2f Tryz.prog 269=true:=by kernel_rfl
theorem Y0e:Ty Tryz.prog 269 Zcs:=⟨by kernel_rfl,by kernel_rfl⟩
theorem Yb3:EqK Tryz.prog 1 27 Z05:=Yih (by kernel_rfl)
theorem Y06:EqK Tryz.prog 2 29 Zn:=Zmc (fun x y e=>by cases x;cases y;simp only [Prod.mk.injEq] at e;simp [e]) (l:=_) (by kernel_rfl) (by kernel_rfl) (Zj9 Yb3 Z1g (Znt Yb3 Z1g))
theorem Yjl:EqK Tryz.prog 3 121 Z4:=Zmc (fun x y e=>by cases x;cases y;simp only [Prod.mk.injEq] at e;simp [e]) (l:=_) (by kernel_rfl) (by kernel_rfl) (Zj9 Y06 Zw (Znt Y06 Zw))
theorem Yx3:EqK Tryz.prog 4 123 (Z3 24 Z4):=Yom Yjl Z01 Z2l
theorem Yks:EqK Tryz.prog 5 269 Zcs:=Zmc (fun x y e=>by cases x;cases y;simp only [Prod.mk.injEq] at e;simp [e]) (l:=_) (by kernel_rfl) (by kernel_rfl) (Zj9 (eqk3.le (by decide)) Zp (Znt Yx3 Z02))
theorem Yrd:Tryz.prog.eqGuardType Tryz.prog.depth 269=false:=by kernel_rfl
theorem Zz1:Fl Tryz.prog 48 4 lFlow_4:=⟨by kernel_rfl,rfl⟩
theorem Yxk:El Tryz.prog 45 217 Z0h:=⟨by kernel_rfl,by kernel_rfl,by kernel_rfl,by kernel_rfl,by kernel_rfl⟩
theorem Ydj:El Tryz.prog 46 140 Z0a:=⟨by kernel_rfl,by kernel_rfl,by kernel_rfl,by kernel_rfl,by kernel_rfl⟩
theorem Y0c:Fl Tryz.prog 95 0 lFlowMod_0:=⟨by kernel_rfl,rfl⟩
theorem Zv1:Fl Tryz.prog 95 6 lFlowMod_6:=⟨by kernel_rfl,rfl⟩
theorem Zxz:Fl Tryz.prog 95 4 lFlowMod_4:=⟨by kernel_rfl,rfl⟩
theorem Zvf:Fl Tryz.prog 95 5 lFlowMod_5:=⟨by kernel_rfl,rfl⟩
theorem Zrn:Fl Tryz.prog 95 10 lFlowMod_10:=⟨by kernel_rfl,rfl⟩
theorem Zst:Fl Tryz.prog 95 11 lFlowMod_11:=⟨by kernel_rfl,rfl⟩
theorem Zp8:Fl Tryz.prog 95 12 lFlowMod_12:=⟨by kernel_rfl,rfl⟩
theorem Yho:Z0l Tryz.prog 48 0=some (lFlow_0.off,Kd.sz Z05):=by kernel_rfl
theorem Zv6:Z0l Tryz.prog 48 1=some (lFlow_1.off,Kd.sz (Z0 .i64)):=by kernel_rfl
theorem Yj6:Z0l Tryz.prog 48 2=some (lFlow_2.off,Kd.sz (Z0 .i64)):=by kernel_rfl
theorem Yrk:Z0l Tryz.prog 48 3=some (lFlow_3.off,Kd.sz (Z0 .i64)):=by kernel_rfl
theorem Ylx:Z0l Tryz.prog 48 4=some (lFlow_4.off,Kd.sz (Z0 .i64)):=by kernel_rfl
theorem Ye8:Z0l Tryz.prog 48 5=some (lFlow_5.off,Kd.sz (Z1 Z0h)):=by kernel_rfl
theorem Yjt:Z0l Tryz.prog 48 6=some (lFlow_6.off,Kd.sz (Z1 Z0a)):=by kernel_rfl
theorem Zvw:Z2f Tryz.prog 48=true:=by kernel_rfl
theorem Zp2:Zr Tryz.prog 95 Z39 Zys:=⟨_,Y3p,by kernel_rfl⟩
theorem Y67:Fl Tryz.prog 48 0 lFlow_0:=⟨by kernel_rfl,rfl⟩
theorem Y22:Fl Tryz.prog 48 2 lFlow_2:=⟨by kernel_rfl,rfl⟩
theorem Zzh:Fl Tryz.prog 48 3 lFlow_3:=⟨by kernel_rfl,rfl⟩
theorem Yfy:Z0l Tryz.prog 95 0=some (lFlowMod_0.off,Kd.sz Z05):=by kernel_rfl
theorem Ywb:Z0l Tryz.prog 95 6=some (lFlowMod_6.off,Kd.sz (Z0 .i64)):=by kernel_rfl
theorem Ywx:Z0l Tryz.prog 95 4=some (lFlowMod_4.off,Kd.sz (Z0 .i64)):=by kernel_rfl
theorem Ypn:Z0l Tryz.prog 95 5=some (lFlowMod_5.off,Kd.sz (Z0 .i64)):=by kernel_rfl
theorem Yl7:Z0l Tryz.prog 95 10=some (lFlowMod_10.off,Kd.sz (Z0 .i64)):=by kernel_rfl
theorem Yo0:Z0l Tryz.prog 95 11=some (lFlowMod_11.off,Kd.sz (Z1 Z0h)):=by kernel_rfl
theorem Yf7:Z0l Tryz.prog 95 12=some (lFlowMod_12.off,Kd.sz (Z1 Z0a)):=by kernel_rfl
theorem Zza:Z2f Tryz.prog 95=true:=by kernel_rfl
theorem Yfv:Z0l Tryz.prog 95 2=some (lFlowMod_2.off,Kd.sz (Z0 .i64)):=by kernel_rfl
theorem Ygg:Z0l Tryz.prog 95 3=some (lFlowMod_3.off,Kd.sz (Z0 .i64)):=by kernel_rfl
theorem Ym2:Z0l Tryz.prog 95 7=some (lFlowMod_7.off,Kd.sz (Z0 .i64)):=by kernel_rfl
theorem Ykr:Z0l Tryz.prog 95 8=some (lFlowMod_8.off,Kd.sz (Z0 .i64)):=by kernel_rfl
theorem Ymt:Z0l Tryz.prog 95 9=some (lFlowMod_9.off,Kd.sz (Z0 .i64)):=by kernel_rfl
theorem Zdq:Ty Tryz.prog 95 Z39:=⟨by kernel_rfl,by kernel_rfl⟩
theorem Zji:Zr Tryz.prog 180 (Z3 9 (Z0 .i64)) (Vector.replicate 9 0):=⟨_,(Z4x 9 Z1l),by kernel_rfl⟩
theorem Zkr:Ty Tryz.prog 180 (Z3 9 (Z0 .i64)):=⟨by kernel_rfl,by kernel_rfl⟩
theorem Z50:Fl Tryz.prog 179 0 lflowmod_mod_0:=⟨by kernel_rfl,rfl⟩
theorem Ybr:Fl Tryz.prog 95 2 lFlowMod_2:=⟨by kernel_rfl,rfl⟩
theorem Zlk:Fl Tryz.prog 95 3 lFlowMod_3:=⟨by kernel_rfl,rfl⟩
theorem Ygt:Fl Tryz.prog 95 7 lFlowMod_7:=⟨by kernel_rfl,rfl⟩
theorem Yw6:Fl Tryz.prog 95 8 lFlowMod_8:=⟨by kernel_rfl,rfl⟩
theorem Yjs:Fl Tryz.prog 95 9 lFlowMod_9:=⟨by kernel_rfl,rfl⟩
theorem Z5x:Zr Tryz.prog 98 Z3o Zjq:=⟨_,Yai,by kernel_rfl⟩
theorem Zup:Z0l Tryz.prog 98 0=some (lFault_0.off,Kd.sz Z6):=by kernel_rfl
theorem Zy4:Z0l Tryz.prog 98 1=some (lFault_1.off,Kd.sz (Z0 .i64)):=by kernel_rfl
theorem Ztw:Z0l Tryz.prog 98 2=some (lFault_2.off,Kd.sz (Z0 .i64)):=by kernel_rfl
theorem Zdw:Z2f Tryz.prog 98=true:=by kernel_rfl
theorem Z2u:Ty Tryz.prog 98 Z3o:=⟨by kernel_rfl,by kernel_rfl⟩
theorem Zla:El Tryz.prog 100 5 (Z0 .u8):=⟨by kernel_rfl,by kernel_rfl,by kernel_rfl,by kernel_rfl,by kernel_rfl⟩
theorem Yct:Zr Tryz.prog 249 (Z3 4 (Z0 .u8)) (Vector.replicate 4 0):=⟨_,(Z4x 4 (Zu2 _ ⟨by decide,by decide⟩)),by kernel_rfl⟩
theorem Z86:Sl Tryz.prog 100 5 (Z0 .u8):=⟨by kernel_rfl,by kernel_rfl⟩
theorem Y9u:Ar Tryz.prog 249 5 4 (Z0 .u8):=⟨by kernel_rfl,by kernel_rfl⟩
theorem un5:Tryz.prog.underlying 5=some (.int .u8):=by kernel_rfl
theorem ty5:Ty Tryz.prog 5 (Z0 .u8):=⟨by kernel_rfl,by kernel_rfl⟩
theorem zr5:Zr Tryz.prog 5 (Z0 .u8) 0:=⟨_,(Zu2 _ ⟨by decide,by decide⟩),by kernel_rfl⟩
theorem Y7y:Z0l Tryz.prog 179 0=some (lflowmod_mod_0.off,Kd.sz Z39):=by kernel_rfl
theorem Y91:Zr Tryz.prog 179 Z40 Yat:=⟨_,Yhu,by kernel_rfl⟩
theorem Yas:Z2f Tryz.prog 179=true:=by kernel_rfl
theorem Y1j:Ar Tryz.prog 180 3 9 (Z0 .i64):=⟨by kernel_rfl,by kernel_rfl⟩
theorem Yh4:Z0l Tryz.prog 265 0=some (lstate_refused_0.off,Kd.sz Z3o):=by kernel_rfl
theorem Y1p:Zr Tryz.prog 265 Z72 Zw9:=⟨_,Yhm,by kernel_rfl⟩
theorem Ydg:Z2f Tryz.prog 265=true:=by kernel_rfl
theorem Yf2:Zb7 Tryz.prog 265=true:=by kernel_rfl
theorem Y5p:Fl Tryz.prog 107 0 lstate_work_0:=⟨by kernel_rfl,rfl⟩
theorem Ya7:Ty Tryz.prog 85 Z7h:=⟨by kernel_rfl,by kernel_rfl⟩
theorem Yb9:Ty Tryz.prog 265 Z72:=⟨by kernel_rfl,by kernel_rfl⟩
theorem Yry:Zb7 Tryz.prog 369=true:=by kernel_rfl
theorem Yxj:Fl Tryz.prog 265 0 lstate_refused_0:=⟨by kernel_rfl,rfl⟩
theorem Ymu:Z0l Tryz.prog 107 0=some (lstate_work_0.off,Kd.sz Z08):=by kernel_rfl
theorem Yua:Zr Tryz.prog 107 Z9i Y4p:=⟨_,Ymx,by kernel_rfl⟩
theorem Yog:Z2f Tryz.prog 107=true:=by kernel_rfl
theorem Y55:Zok Tryz.prog 88=true:=by kernel_rfl
theorem Ylg:Zb7 Tryz.prog 90=true:=by kernel_rfl
theorem Yde:Fl Tryz.prog 85 0 laudit_wrong_0:=⟨by kernel_rfl,rfl⟩
theorem Zvl:EqK Tryz.prog 2 40 Z0x:=Zmc (fun x y e=>by cases x;cases y;simp only [Prod.mk.injEq] at e;simp [e]) (l:=_) (by kernel_rfl) (by kernel_rfl) (Zj9 eqk3 Zp (Znt eqk3 Zp))
theorem Zt2:Tryz.prog.eqGuardType Tryz.prog.depth 40=false:=by kernel_rfl
theorem Ywp:Z0l Tryz.prog 71 0=some (lGroup_0.off,Kd.sz (Z0 .i64)):=by kernel_rfl
theorem Yhr:Z0l Tryz.prog 26 1=some (lSwitch_1.off,Kd.sz (Z1 Z0d)):=by kernel_rfl
theorem us5:(Tryz.prog.underlying 5).isSome=true:=by kernel_rfl
theorem Z00:Tryz.prog.follows .mixedOrders=true:=by kernel_rfl
end Go.Proofs.YtinplddjjalohaaGreatDoor.W
set_option maxHeartbeats 1000000
set_option maxRecDepth 4000
namespace Go.Proofs.YtinplddjjalohaaGreatDoor.W
open Go Go.Wb
theorem Yic:Ent Tryz.prog 119:=Ent.mk Tryz.func119 rfl rfl
theorem Y88:Ent Tryz.prog 154:=Ent.mk Tryz.func154 rfl rfl
theorem e75:Ent Tryz.prog 75:=Ent.mk Tryz.func75 rfl rfl
theorem e73:Ent Tryz.prog 73:=Ent.mk Tryz.func73 rfl rfl
theorem e74:Ent Tryz.prog 74:=Ent.mk Tryz.func74 rfl rfl
theorem e34:Ent Tryz.prog 34:=Ent.mk Tryz.func34 rfl rfl
theorem e15:Ent Tryz.prog 15:=Ent.mk Tryz.func15 rfl rfl
def Zda (s1:(List Flow))(x2:(Flow→Option Bool)):Nat→Nat→Option Int
 | 0,i3=>some (-1)
 | m4+1,i3=>(lget s1 (i3:Int)).bind fun x5=>(x2 x5).bind fun x6=>(bif x6 then some (i3:Int) else (Zda s1 x2 m4) (i3+1))
def Zkz (s1:(List Flow))(x2:(Flow→Option Bool)):Option Int:=
 Zda s1 x2 ((s1.length:Int):Int).toNat 0
theorem Ynh:Q2 Tryz.prog 119 (rd (Z1 Z03)) (fn1 Tryz.prog Z03 Z6) (rd (Z0 .i64)) Zkz:=fun s1 x2 r h=>I0 Tryz.func119 rfl Tryz.ntmps119 rfl fun w H Z=>by
 unfold Zkz at h
 refine SR<|Ak rfl<|Nl<|sq<|SR<|Md rfl<|Ac (Z0i rfl rfl Z2e (vt rfl)) rfl<|Mk rfl<|Nl<|bk<|LG (d:=[]) (ν:=Nat×Nat) (fun (m4,i3)=>(Cnt (s1.length:Int) i3 m4∧Zda s1 x2 m4 i3=some r,m4,[(0,rd (Z1 Z03) s1),(1,fn1 Tryz.prog Z03 Z6 x2),(7,rd (Z0 .i64) (s1.length:Int)),(8,rd (Z0 .i64) (i3:Int))],[])) (((s1.length:Int):Int).toNat,0) ⟨Cnt.start _,h⟩ (FX rfl) ?_
 rintro ⟨m4,i3⟩ ⟨hsf1,h⟩
 dsimp only at hsf1 h ⊢
 cases m4 with
 | zero=>
  unfold Zda at h
  refine SR<|Ac (Zj rfl rfl (vt rfl) (vt rfl)) rfl<|Nl<|sq<|Cn rfl (fun hc=>absurd (of_decide_eq_true hc) hsf1.zero) (fun hc=>?_)
  refine xt<|SR<|Ak rfl<|Nl<|rt ?_
  cases h;exact Zd Tryz.results119 rfl (Z5 rfl)
 | succ m4=>
  unfold Zda at h
  refine SR<|Ac (Zj rfl rfl (vt rfl) (vt rfl)) rfl<|Nl<|sq<|Cn rfl (fun hc=>?_) (fun hc=>absurd hsf1.succ (of_decide_eq_false hc))
  have hlti3:=of_decide_eq_true hc
  refine sk<|sq<|bk<|SR<|Md rfl<|As rfl<|Nl<|sq ?_
  obtain ⟨x5,hx5,x6,hx6,h⟩:=bs2 h
  refine Rg<|Ac (Zq (A:=fn1 Tryz.prog Z03 Z6 x2) rfl rfl (vt rfl)) rfl<|Md rfl<|Md rfl<|Ac (Z0k rfl rfl Z2e (vt rfl) (vt rfl) hx5) rfl<|Lp1 Z2b rfl<|Ac (Zat hx6 rfl rfl (vt rfl) (vt rfl)) rfl<|Nl<|Cq rfl h (fun h=>?_) (fun h=>?_)
  ·refine SR<|Md rfl<|As rfl<|Nl<|rt ?_
   cases h;exact Zd Tryz.results119 rfl (Z5 rfl)
  ·refine sk<|Rg<|Ac (Z12 (t:=7) rfl rfl (vt rfl) (vk rfl) (vt rfl) hlti3) rfl<|Md rfl<|Nl ?_
   exact ⟨(_,_),Nat.lt_succ_self _,⟨hsf1.next,h⟩,FX rfl⟩
def Zmv (s1:(List Flow))(x2:(Flow→Option Bool)):Option Bool:=
 (Zkz s1 x2).bind fun x3=>some (decide (x3≥0))
theorem Yun:Q2 Tryz.prog 53 (rd (Z1 Z03)) (fn1 Tryz.prog Z03 Z6) (rd Z6) Zmv:=fun s1 x2 r h=>I0 Tryz.func53 rfl Tryz.ntmps53 rfl fun w H Z=>by
 unfold Zmv at h
 refine SR<|Ab rfl<|Nl<|sq ?_
 obtain ⟨x3,hx3,h⟩:=Z7 h
 refine Rg<|Md rfl<|Ac (Zq (A:=fn1 Tryz.prog Z03 Z6 x2) rfl rfl (vt rfl)) rfl<|Cl [5,6] (Ynh _ _ _ hx3) Yic rfl<|Ac (Z3v rfl rfl (vt rfl) (vk rfl)) rfl<|As rfl<|Nl<|rt ?_
 cases h;exact Zd Tryz.results53 rfl (Z5 rfl)
def Zd0 (s1:(List Inst))(x2:(Inst→Option Bool)):Nat→Nat→Option Int
 | 0,i3=>some (-1)
 | m4+1,i3=>(lget s1 (i3:Int)).bind fun x5=>(x2 x5).bind fun x6=>(bif x6 then some (i3:Int) else (Zd0 s1 x2 m4) (i3+1))
def Zg6 (s1:(List Inst))(x2:(Inst→Option Bool)):Option Int:=
 Zd0 s1 x2 ((s1.length:Int):Int).toNat 0
theorem Y5f:Q2 Tryz.prog 154 (rd (Z1 Z0a)) (fn1 Tryz.prog Z0a Z6) (rd (Z0 .i64)) Zg6:=fun s1 x2 r h=>I0 Tryz.func154 rfl Tryz.ntmps154 rfl fun w H Z=>by
 unfold Zg6 at h
 refine SR<|Ak rfl<|Nl<|sq<|SR<|Md rfl<|Ac (Z0i rfl rfl Z4p (vt rfl)) rfl<|Mk rfl<|Nl<|bk<|LG (d:=[]) (ν:=Nat×Nat) (fun (m4,i3)=>(Cnt (s1.length:Int) i3 m4∧Zd0 s1 x2 m4 i3=some r,m4,[(0,rd (Z1 Z0a) s1),(1,fn1 Tryz.prog Z0a Z6 x2),(7,rd (Z0 .i64) (s1.length:Int)),(8,rd (Z0 .i64) (i3:Int))],[])) (((s1.length:Int):Int).toNat,0) ⟨Cnt.start _,h⟩ (FX rfl) ?_
 rintro ⟨m4,i3⟩ ⟨hsf1,h⟩
 dsimp only at hsf1 h ⊢
 cases m4 with
 | zero=>
  unfold Zd0 at h
  refine SR<|Ac (Zj rfl rfl (vt rfl) (vt rfl)) rfl<|Nl<|sq<|Cn rfl (fun hc=>absurd (of_decide_eq_true hc) hsf1.zero) (fun hc=>?_)
  refine xt<|SR<|Ak rfl<|Nl<|rt ?_
  cases h;exact Zd Tryz.results154 rfl (Z5 rfl)
 | succ m4=>
  unfold Zd0 at h
  refine SR<|Ac (Zj rfl rfl (vt rfl) (vt rfl)) rfl<|Nl<|sq<|Cn rfl (fun hc=>?_) (fun hc=>absurd hsf1.succ (of_decide_eq_false hc))
  have hlti3:=of_decide_eq_true hc
  refine sk<|sq<|bk<|SR<|Md rfl<|As rfl<|Nl<|sq ?_
  obtain ⟨x5,hx5,x6,hx6,h⟩:=bs2 h
  refine Rg<|Ac (Zq (A:=fn1 Tryz.prog Z0a Z6 x2) rfl rfl (vt rfl)) rfl<|Md rfl<|Md rfl<|Ac (Z0k rfl rfl Z4p (vt rfl) (vt rfl) hx5) rfl<|Lp1 Z25 rfl<|Ac (Zat hx6 rfl rfl (vt rfl) (vt rfl)) rfl<|Nl<|Cq rfl h (fun h=>?_) (fun h=>?_)
  ·refine SR<|Md rfl<|As rfl<|Nl<|rt ?_
   cases h;exact Zd Tryz.results154 rfl (Z5 rfl)
  ·refine sk<|Rg<|Ac (Z12 (t:=7) rfl rfl (vt rfl) (vk rfl) (vt rfl) hlti3) rfl<|Md rfl<|Nl ?_
   exact ⟨(_,_),Nat.lt_succ_self _,⟨hsf1.next,h⟩,FX rfl⟩
def Zjt (s1:(List Inst))(x2:(Inst→Option Bool)):Option Bool:=
 (Zg6 s1 x2).bind fun x3=>some (decide (x3≥0))
theorem Ytb:Q2 Tryz.prog 73 (rd (Z1 Z0a)) (fn1 Tryz.prog Z0a Z6) (rd Z6) Zjt:=fun s1 x2 r h=>I0 Tryz.func73 rfl Tryz.ntmps73 rfl fun w H Z=>by
 unfold Zjt at h
 refine SR<|Ab rfl<|Nl<|sq ?_
 obtain ⟨x3,hx3,h⟩:=Z7 h
 refine Rg<|Md rfl<|Ac (Zq (A:=fn1 Tryz.prog Z0a Z6 x2) rfl rfl (vt rfl)) rfl<|Cl [5,6] (Y5f _ _ _ hx3) Y88 rfl<|Ac (Z3v rfl rfl (vt rfl) (vk rfl)) rfl<|As rfl<|Nl<|rt ?_
 cases h;exact Zd Tryz.results73 rfl (Z5 rfl)
def Zrq (l1:(List Action)):Option Bool:=
 some (decide ((l1.length:Int)≤12))
theorem Y1u:Q1 Tryz.prog 75 (rd (Z1 Z9)) (rd Z6) Zrq:=fun l1 r h=>I0 Tryz.func75 rfl Tryz.ntmps75 rfl fun w H Z=>by
 unfold Zrq at h
 refine SR<|Ab rfl<|Nl<|SR<|Md rfl<|Ac (Z0i rfl rfl Z0g (vt rfl)) rfl<|Ac (Z5j rfl rfl (vt rfl) (vk rfl)) rfl<|As rfl<|Nl<|rt ?_
 cases h;exact Zd Tryz.results75 rfl (Z5 rfl)
def Zom (i1:Inst):Option Bool:=
 (Zrq i1.Acts).bind fun x3=>some (!x3)
theorem Yhl:Q1 Tryz.prog 74 (rd Z0a) (rd Z6) Zom:=fun i1 r h=>I0 Tryz.func74 rfl Tryz.ntmps74 rfl fun w H Z=>by
 unfold Zom at h
 refine SR<|Cv rfl (Zs 2 rfl rfl (vt rfl)) fun g2=>Ab rfl<|Nl<|sq ?_
 obtain ⟨x3,hx3,h⟩:=Z7 h
 refine Rg<|Zk Z60 Z6w rfl<|Ld Z2z 2 rfl<|Cl [4] (Y1u _ _ hx3) e75 rfl<|Ac (Z0y rfl rfl (vt rfl)) rfl<|As rfl<|Nl<|rt ?_
 cases h;exact Zd Tryz.results74 rfl (Z5 rfl)
def Znw (l1:(List Inst)):Option Bool:=
 (opt (decide ((l1.length:Int)≤8)) (Zjt l1 Zom)).bind fun x2=>some ((decide ((l1.length:Int)≤8))&&(!x2))
theorem Ysk:Q1 Tryz.prog 34 (rd (Z1 Z0a)) (rd Z6) Znw:=fun l1 r h=>I0 Tryz.func34 rfl Tryz.ntmps34 rfl fun w H Z=>by
 unfold Znw at h
 refine SR<|Ab rfl<|Nl<|sq ?_
 obtain ⟨x2,hx2,h⟩:=Z7 h
 refine Rg<|Md rfl<|Ac (Z0i rfl rfl Z4p (vt rfl)) rfl<|Ac (Z5j rfl rfl (vt rfl) (vk rfl)) rfl<|Md rfl<|Gd rfl (fun hq=>Zq (A:=rd (Z1 Z0a) l1) rfl rfl (vt rfl))<|Gd rfl (fun hq=>Z0c (xs:=[.tmp 7,.func 74]) (Ytb _ _ _ (Z2i hx2 hq)) e73 rfl rfl ⟨Zi rfl hq,vf1 e74 Yhl,trivial⟩)<|Gd rfl (fun hq=>Z0y rfl rfl (Zi rfl hq))<|Ac (Z1k rfl rfl (vt rfl) (vt rfl)) rfl<|As rfl<|Nl<|rt ?_
 cases h;exact Zd Tryz.results34 rfl (Z5 rfl)
def Zhd (x1:Flow):Option Bool:=
 (opt (decide ((x1.Match.length:Int)≤30)) (Znw x1.Insts)).bind fun x3=>some ((decide ((x1.Match.length:Int)≤30))&&x3)
theorem Y3o:Q1 Tryz.prog 15 (rd Z03) (rd Z6) Zhd:=fun x1 r h=>I0 Tryz.func15 rfl Tryz.ntmps15 rfl fun w H Z=>by
 unfold Zhd at h
 refine SR<|Cv rfl (Zs 2 rfl rfl (vt rfl)) fun g2=>Ab rfl<|Nl<|sq ?_
 obtain ⟨x3,hx3,h⟩:=Z7 h
 refine Rg<|Zk lFlow_5 Zln rfl<|Ld Zce 2 rfl<|Ac (Z0i rfl rfl Z4w (vt rfl)) rfl<|Ac (Z5j rfl rfl (vt rfl) (vk rfl)) rfl<|Md rfl<|Gd rfl (fun hq=>Z2n lFlow_6 rfl rfl Z8h (vt rfl))<|Gd rfl (fun hq=>Z1s rfl rfl Z5v (Zi rfl hq) (i:=2) rfl)<|Gd rfl (fun hq=>Z0c (xs:=[.tmp 9]) (Ysk _ _ (Z2i hx3 hq)) e34 rfl rfl ⟨Zi rfl hq,trivial⟩)<|Ac (Z1k rfl rfl (vt rfl) (vt rfl)) rfl<|As rfl<|Nl<|rt ?_
 cases h;exact Zd Tryz.results15 rfl (Z5 rfl)
def Zn3 (x1:Flow):Option Bool:=
 (Zhd x1).bind fun x3=>some (!x3)
theorem Yte:Q1 Tryz.prog 76 (rd Z03) (rd Z6) Zn3:=fun x1 r h=>I0 Tryz.func76 rfl Tryz.ntmps76 rfl fun w H Z=>by
 unfold Zn3 at h
 refine SR<|Cv rfl (Zs 2 rfl rfl (vt rfl)) fun g2=>Ab rfl<|Nl<|sq ?_
 obtain ⟨x3,hx3,h⟩:=Z7 h
 refine Rg<|Ld Z2b 2 rfl<|Cl [3] (Y3o _ _ hx3) e15 rfl<|Ac (Z0y rfl rfl (vt rfl)) rfl<|As rfl<|Nl<|rt ?_
 cases h;exact Zd Tryz.results76 rfl (Z5 rfl)
end Go.Proofs.YtinplddjjalohaaGreatDoor.W
set_option maxHeartbeats 1000000
set_option maxRecDepth 4000
namespace Go.Proofs.YtinplddjjalohaaGreatDoor.W
open Go Go.Wb
theorem e53:Ent Tryz.prog 53:=Ent.mk Tryz.func53 rfl rfl
theorem e76:Ent Tryz.prog 76:=Ent.mk Tryz.func76 rfl rfl
theorem Y4j:Ent Tryz.prog 174:=Ent.mk Tryz.func174 rfl rfl
theorem e95:Ent Tryz.prog 95:=Ent.mk Tryz.func95 rfl rfl
theorem Ynq:Ent Tryz.prog 155:=Ent.mk Tryz.func155 rfl rfl
theorem e78:Ent Tryz.prog 78:=Ent.mk Tryz.func78 rfl rfl
theorem Y45:Ent Tryz.prog 105:=Ent.mk Tryz.func105 rfl rfl
theorem e77:Ent Tryz.prog 77:=Ent.mk Tryz.func77 rfl rfl
theorem e47:Ent Tryz.prog 47:=Ent.mk Tryz.func47 rfl rfl
def Zm2 (l1:(List Flow))(m2:Int):Option Bool:=
 (opt (decide ((l1.length:Int)≤m2)) (Zmv l1 Zn3)).bind fun x3=>some ((decide ((l1.length:Int)≤m2))&&(!x3))
theorem Yu0:Q2 Tryz.prog 35 (rd (Z1 Z03)) (rd (Z0 .i64)) (rd Z6) Zm2:=fun l1 m2 r h=>I0 Tryz.func35 rfl Tryz.ntmps35 rfl fun w H Z=>by
 unfold Zm2 at h
 refine SR<|Ab rfl<|Nl<|sq ?_
 obtain ⟨x3,hx3,h⟩:=Z7 h
 refine Rg<|Md rfl<|Ac (Z0i rfl rfl Z2e (vt rfl)) rfl<|Md rfl<|Ac (Z5j rfl rfl (vt rfl) (vt rfl)) rfl<|Md rfl<|Gd rfl (fun hq=>Zq (A:=rd (Z1 Z03) l1) rfl rfl (vt rfl))<|Gd rfl (fun hq=>Z0c (xs:=[.tmp 10,.func 76]) (Yun _ _ _ (Z2i hx3 hq)) e53 rfl rfl ⟨Zi rfl hq,vf1 e76 Yte,trivial⟩)<|Gd rfl (fun hq=>Z0y rfl rfl (Zi rfl hq))<|Ac (Z1k rfl rfl (vt rfl) (vt rfl)) rfl<|As rfl<|Nl<|rt ?_
 cases h;exact Zd Tryz.results35 rfl (Z5 rfl)
def Zed (s1:(List Bucket))(x2:(Bucket→Option Bool)):Nat→Nat→Option Int
 | 0,i3=>some (-1)
 | m4+1,i3=>(lget s1 (i3:Int)).bind fun x5=>(x2 x5).bind fun x6=>(bif x6 then some (i3:Int) else (Zed s1 x2 m4) (i3+1))
def Zgq (s1:(List Bucket))(x2:(Bucket→Option Bool)):Option Int:=
 Zed s1 x2 ((s1.length:Int):Int).toNat 0
theorem Y12:Q2 Tryz.prog 174 (rd (Z1 Z1y)) (fn1 Tryz.prog Z1y Z6) (rd (Z0 .i64)) Zgq:=fun s1 x2 r h=>I0 Tryz.func174 rfl Tryz.ntmps174 rfl fun w H Z=>by
 unfold Zgq at h
 refine SR<|Ak rfl<|Nl<|sq<|SR<|Md rfl<|Ac (Z0i rfl rfl Z6d (vt rfl)) rfl<|Mk rfl<|Nl<|bk<|LG (d:=[]) (ν:=Nat×Nat) (fun (m4,i3)=>(Cnt (s1.length:Int) i3 m4∧Zed s1 x2 m4 i3=some r,m4,[(0,rd (Z1 Z1y) s1),(1,fn1 Tryz.prog Z1y Z6 x2),(7,rd (Z0 .i64) (s1.length:Int)),(8,rd (Z0 .i64) (i3:Int))],[])) (((s1.length:Int):Int).toNat,0) ⟨Cnt.start _,h⟩ (FX rfl) ?_
 rintro ⟨m4,i3⟩ ⟨hsf1,h⟩
 dsimp only at hsf1 h ⊢
 cases m4 with
 | zero=>
  unfold Zed at h
  refine SR<|Ac (Zj rfl rfl (vt rfl) (vt rfl)) rfl<|Nl<|sq<|Cn rfl (fun hc=>absurd (of_decide_eq_true hc) hsf1.zero) (fun hc=>?_)
  refine xt<|SR<|Ak rfl<|Nl<|rt ?_
  cases h;exact Zd Tryz.results174 rfl (Z5 rfl)
 | succ m4=>
  unfold Zed at h
  refine SR<|Ac (Zj rfl rfl (vt rfl) (vt rfl)) rfl<|Nl<|sq<|Cn rfl (fun hc=>?_) (fun hc=>absurd hsf1.succ (of_decide_eq_false hc))
  have hlti3:=of_decide_eq_true hc
  refine sk<|sq<|bk<|SR<|Md rfl<|As rfl<|Nl<|sq ?_
  obtain ⟨x5,hx5,x6,hx6,h⟩:=bs2 h
  refine Rg<|Ac (Zq (A:=fn1 Tryz.prog Z1y Z6 x2) rfl rfl (vt rfl)) rfl<|Md rfl<|Md rfl<|Ac (Z0k rfl rfl Z6d (vt rfl) (vt rfl) hx5) rfl<|Lp1 Zw8 rfl<|Ac (Zat hx6 rfl rfl (vt rfl) (vt rfl)) rfl<|Nl<|Cq rfl h (fun h=>?_) (fun h=>?_)
  ·refine SR<|Md rfl<|As rfl<|Nl<|rt ?_
   cases h;exact Zd Tryz.results174 rfl (Z5 rfl)
  ·refine sk<|Rg<|Ac (Z12 (t:=7) rfl rfl (vt rfl) (vk rfl) (vt rfl) hlti3) rfl<|Md rfl<|Nl ?_
   exact ⟨(_,_),Nat.lt_succ_self _,⟨hsf1.next,h⟩,FX rfl⟩
def Znc (s1:(List Bucket))(x2:(Bucket→Option Bool)):Option Bool:=
 (Zgq s1 x2).bind fun x3=>some (decide (x3≥0))
theorem Ybi:Q2 Tryz.prog 95 (rd (Z1 Z1y)) (fn1 Tryz.prog Z1y Z6) (rd Z6) Znc:=fun s1 x2 r h=>I0 Tryz.func95 rfl Tryz.ntmps95 rfl fun w H Z=>by
 unfold Znc at h
 refine SR<|Ab rfl<|Nl<|sq ?_
 obtain ⟨x3,hx3,h⟩:=Z7 h
 refine Rg<|Md rfl<|Ac (Zq (A:=fn1 Tryz.prog Z1y Z6 x2) rfl rfl (vt rfl)) rfl<|Cl [5,6] (Y12 _ _ _ hx3) Y4j rfl<|Ac (Z3v rfl rfl (vt rfl) (vk rfl)) rfl<|As rfl<|Nl<|rt ?_
 cases h;exact Zd Tryz.results95 rfl (Z5 rfl)
def Zrv (x1:Bucket):Option Bool:=
 (Zrq x1.Acts).bind fun x3=>some (!x3)
theorem Yoz:Q1 Tryz.prog 155 (rd Z1y) (rd Z6) Zrv:=fun x1 r h=>I0 Tryz.func155 rfl Tryz.ntmps155 rfl fun w H Z=>by
 unfold Zrv at h
 refine SR<|Cv rfl (Zs 2 rfl rfl (vt rfl)) fun g2=>Ab rfl<|Nl<|sq ?_
 obtain ⟨x3,hx3,h⟩:=Z7 h
 refine Rg<|Zk Zg5 Zjn rfl<|Ld Z2z 2 rfl<|Cl [4] (Y1u _ _ hx3) e75 rfl<|Ac (Z0y rfl rfl (vt rfl)) rfl<|As rfl<|Nl<|rt ?_
 cases h;exact Zd Tryz.results155 rfl (Z5 rfl)
def Zjr (l1:(List Bucket))(m2:Int):Option Bool:=
 (opt (decide ((l1.length:Int)≤m2)) (Znc l1 Zrv)).bind fun x3=>some ((decide ((l1.length:Int)≤m2))&&(!x3))
theorem Ypa:Q2 Tryz.prog 78 (rd (Z1 Z1y)) (rd (Z0 .i64)) (rd Z6) Zjr:=fun l1 m2 r h=>I0 Tryz.func78 rfl Tryz.ntmps78 rfl fun w H Z=>by
 unfold Zjr at h
 refine SR<|Ab rfl<|Nl<|sq ?_
 obtain ⟨x3,hx3,h⟩:=Z7 h
 refine Rg<|Md rfl<|Ac (Z0i rfl rfl Z6d (vt rfl)) rfl<|Md rfl<|Ac (Z5j rfl rfl (vt rfl) (vt rfl)) rfl<|Md rfl<|Gd rfl (fun hq=>Zq (A:=rd (Z1 Z1y) l1) rfl rfl (vt rfl))<|Gd rfl (fun hq=>Z0c (xs:=[.tmp 10,.func 155]) (Ybi _ _ _ (Z2i hx3 hq)) e95 rfl rfl ⟨Zi rfl hq,vf1 Ynq Yoz,trivial⟩)<|Gd rfl (fun hq=>Z0y rfl rfl (Zi rfl hq))<|Ac (Z1k rfl rfl (vt rfl) (vt rfl)) rfl<|As rfl<|Nl<|rt ?_
 cases h;exact Zd Tryz.results78 rfl (Z5 rfl)
def Zfr (x1:Group)(x2:Int):Option Bool:=
 (Zjr x1.Buckets x2).bind fun x4=>some (!x4)
theorem Yi0:Q2 Tryz.prog 77 (rd Z0d) (rp (Z0 .i64)) (rd Z6) Zfr:=fun x1 x2 r h=>I0 Tryz.func77 rfl Tryz.ntmps77 rfl fun w H Z=>by
 unfold Zfr at h
 refine SR<|Cv rfl (Zs 3 rfl rfl (vt rfl)) fun g3=>Ab rfl<|Nl<|sq ?_
 obtain ⟨x4,hx4,h⟩:=Z7 h
 refine Rg<|Zk Z6f Z6z rfl<|Ld Z7l 3 rfl<|Lp1 Zp rfl<|Cl [5,6] (Ypa _ _ _ hx4) e78 rfl<|Ac (Z0y rfl rfl (vt rfl)) rfl<|As rfl<|Nl<|rt ?_
 cases h;exact Zd Tryz.results77 rfl (Z5 rfl)
def Zd5 (s1:(List Group))(x2:(Group→Option Bool)):Nat→Nat→Option Int
 | 0,i3=>some (-1)
 | m4+1,i3=>(lget s1 (i3:Int)).bind fun x5=>(x2 x5).bind fun x6=>(bif x6 then some (i3:Int) else (Zd5 s1 x2 m4) (i3+1))
def Zj1 (s1:(List Group))(x2:(Group→Option Bool)):Option Int:=
 Zd5 s1 x2 ((s1.length:Int):Int).toNat 0
theorem Yal:Q2 Tryz.prog 105 (rd (Z1 Z0d)) (fn1 Tryz.prog Z0d Z6) (rd (Z0 .i64)) Zj1:=fun s1 x2 r h=>I0 Tryz.func105 rfl Tryz.ntmps105 rfl fun w H Z=>by
 unfold Zj1 at h
 refine SR<|Ak rfl<|Nl<|sq<|SR<|Md rfl<|Ac (Z0i rfl rfl Z55 (vt rfl)) rfl<|Mk rfl<|Nl<|bk<|LG (d:=[]) (ν:=Nat×Nat) (fun (m4,i3)=>(Cnt (s1.length:Int) i3 m4∧Zd5 s1 x2 m4 i3=some r,m4,[(0,rd (Z1 Z0d) s1),(1,fn1 Tryz.prog Z0d Z6 x2),(7,rd (Z0 .i64) (s1.length:Int)),(8,rd (Z0 .i64) (i3:Int))],[])) (((s1.length:Int):Int).toNat,0) ⟨Cnt.start _,h⟩ (FX rfl) ?_
 rintro ⟨m4,i3⟩ ⟨hsf1,h⟩
 dsimp only at hsf1 h ⊢
 cases m4 with
 | zero=>
  unfold Zd5 at h
  refine SR<|Ac (Zj rfl rfl (vt rfl) (vt rfl)) rfl<|Nl<|sq<|Cn rfl (fun hc=>absurd (of_decide_eq_true hc) hsf1.zero) (fun hc=>?_)
  refine xt<|SR<|Ak rfl<|Nl<|rt ?_
  cases h;exact Zd Tryz.results105 rfl (Z5 rfl)
 | succ m4=>
  unfold Zd5 at h
  refine SR<|Ac (Zj rfl rfl (vt rfl) (vt rfl)) rfl<|Nl<|sq<|Cn rfl (fun hc=>?_) (fun hc=>absurd hsf1.succ (of_decide_eq_false hc))
  have hlti3:=of_decide_eq_true hc
  refine sk<|sq<|bk<|SR<|Md rfl<|As rfl<|Nl<|sq ?_
  obtain ⟨x5,hx5,x6,hx6,h⟩:=bs2 h
  refine Rg<|Ac (Zq (A:=fn1 Tryz.prog Z0d Z6 x2) rfl rfl (vt rfl)) rfl<|Md rfl<|Md rfl<|Ac (Z0k rfl rfl Z55 (vt rfl) (vt rfl) hx5) rfl<|Lp1 Z6t rfl<|Ac (Zat hx6 rfl rfl (vt rfl) (vt rfl)) rfl<|Nl<|Cq rfl h (fun h=>?_) (fun h=>?_)
  ·refine SR<|Md rfl<|As rfl<|Nl<|rt ?_
   cases h;exact Zd Tryz.results105 rfl (Z5 rfl)
  ·refine sk<|Rg<|Ac (Z12 (t:=7) rfl rfl (vt rfl) (vk rfl) (vt rfl) hlti3) rfl<|Md rfl<|Nl ?_
   exact ⟨(_,_),Nat.lt_succ_self _,⟨hsf1.next,h⟩,FX rfl⟩
def Zgh (s1:(List Group))(x2:(Group→Option Bool)):Option Bool:=
 (Zj1 s1 x2).bind fun x3=>some (decide (x3≥0))
theorem Y0b:Q2 Tryz.prog 47 (rd (Z1 Z0d)) (fn1 Tryz.prog Z0d Z6) (rd Z6) Zgh:=fun s1 x2 r h=>I0 Tryz.func47 rfl Tryz.ntmps47 rfl fun w H Z=>by
 unfold Zgh at h
 refine SR<|Ab rfl<|Nl<|sq ?_
 obtain ⟨x3,hx3,h⟩:=Z7 h
 refine Rg<|Md rfl<|Ac (Zq (A:=fn1 Tryz.prog Z0d Z6 x2) rfl rfl (vt rfl)) rfl<|Cl [5,6] (Yal _ _ _ hx3) Y45 rfl<|Ac (Z3v rfl rfl (vt rfl) (vk rfl)) rfl<|As rfl<|Nl<|rt ?_
 cases h;exact Zd Tryz.results47 rfl (Z5 rfl)
def Znh (l1:(List Group))(m2:Int)(b3:Int):Option Bool:=
 (opt (decide ((l1.length:Int)≤m2)) (Zgh l1 (fun x=>Zfr x b3))).bind fun x5=>some ((decide ((l1.length:Int)≤m2))&&(!x5))
theorem Yqo:Q3 Tryz.prog 36 (rd (Z1 Z0d)) (rd (Z0 .i64)) (rd (Z0 .i64)) (rd Z6) Znh:=fun l1 m2 b3 r h=>I0 Tryz.func36 rfl Tryz.ntmps36 rfl fun w H Z=>by
 unfold Znh at h
 refine SR<|Cv rfl (Zs 6 rfl rfl (vt rfl)) fun g4=>Ab rfl<|Nl<|sq<|AW.freezeB 5 6 rfl rfl rfl ?_
 obtain ⟨x5,hx5,h⟩:=Z7 h
 refine Rg<|Md rfl<|Ac (Z0i rfl rfl Z55 (vt rfl)) rfl<|Md rfl<|Ac (Z5j rfl rfl (vt rfl) (vt rfl)) rfl<|Md rfl<|Gd rfl (fun hq=>Zq (A:=rd (Z1 Z0d) l1) rfl rfl (vt rfl))<|Gd rfl (fun hq=>Z9b (cs:=[.tmp 5]) (CAs:=[rp (Z0 .i64) b3]) (fun x=>Zfr x b3) rfl rfl e77 ⟨vt rfl,trivial⟩ (fun x y h=>Yi0 _ _ y h))<|Gd rfl (fun hq=>Z0c (xs:=[.tmp 12,.tmp 13]) (Y0b _ _ _ (Z2i hx5 hq)) e47 rfl rfl ⟨Zi rfl hq,Zi rfl hq,trivial⟩)<|Gd rfl (fun hq=>Z0y rfl rfl (Zi rfl hq))<|Ac (Z1k rfl rfl (vt rfl) (vt rfl)) rfl<|As rfl<|Nl<|rt ?_
 cases h;exact Zd Tryz.results36 rfl (Z5 rfl)
end Go.Proofs.YtinplddjjalohaaGreatDoor.W
set_option maxHeartbeats 1000000
set_option maxRecDepth 4000
namespace Go.Proofs.YtinplddjjalohaaGreatDoor.W
open Go Go.Wb
theorem e36:Ent Tryz.prog 36:=Ent.mk Tryz.func36 rfl rfl
theorem e35:Ent Tryz.prog 35:=Ent.mk Tryz.func35 rfl rfl
theorem Yn6:Ent Tryz.prog 363:=Ent.mk Tryz.func363 rfl rfl
theorem Yg2:Ent Tryz.prog 322:=Ent.mk Tryz.func322 rfl rfl
def Zb2 (s1:Switch)(m2:Int):(List (List Flow))→Nat→Option Bool
 | [],i4=>(Znh s1.Groups 9 3).bind fun x6=>some x6
 | x7::l5,i4=>(Zm2 x7 m2).bind fun x8=>(bif (!x8) then some false else (Zb2 s1 m2 l5) (i4+1))
def Znj (s1:Switch)(m2:Int):Option Bool:=
 Zb2 s1 m2 (Vector.toList s1.Tables) 0
theorem Y7f:Q2 Tryz.prog 16 (rd Z08) (rd (Z0 .i64)) (rd Z6) Znj:=fun s1 m2 r h=>I0 Tryz.func16 rfl Tryz.ntmps16 rfl fun w H Z=>by
 unfold Znj at h
 refine SR<|Cv rfl (Zs 3 rfl rfl (vt rfl)) fun g3=>Ab rfl<|Nl<|sq<|SR<|Zk Z4n Z4u rfl<|Ld Zuo 3 rfl<|Mk rfl<|Nl<|bk<|LG (d:=[]) (ν:=(List (List Flow))×Nat) (fun (l5,i4)=>(Sfx (Vector.toList s1.Tables) i4 l5∧Zb2 s1 m2 l5 i4=some r,l5.length,[(1,rd (Z0 .i64) m2),(2,Zc g3 (Lens.id Z08)),(8,rd (Z3 4 (Z1 Z03)) s1.Tables),(9,rd (Z0 .i64) (i4:Int))],[(3,Zh g3 26 Z08 s1)])) ((Vector.toList s1.Tables),0) ⟨Sfx.start _,h⟩ (FX rfl) ?_
 rintro ⟨l5,i4⟩ ⟨hsf1,h⟩
 dsimp only at hsf1 h ⊢
 cases l5 with
 | nil=>
  unfold Zb2 at h
  refine SR<|Ac (Zj rfl rfl (vt rfl) (vk rfl)) rfl<|Nl<|sq<|Cn rfl (fun hc=>absurd (of_decide_eq_true hc) (hsf1.niln (by simp))) (fun hc=>?_)
  refine xt<|sq ?_
  obtain ⟨x6,hx6,h⟩:=Z7 h
  refine Rg<|Zk lSwitch_1 Zp6 rfl<|Ld Zet 3 rfl<|Ac (Z0c (xs:=[.tmp 18,.const (Value.int IntKind.i64 9),.const (Value.int IntKind.i64 3)]) (Yqo _ _ _ _ hx6) e36 rfl rfl ⟨vt rfl,vk rfl,vk rfl,trivial⟩) rfl<|As rfl<|Nl<|rt ?_
  cases h;exact Zd Tryz.results16 rfl (Z5 rfl)
 | cons x7 l5=>
  unfold Zb2 at h
  refine SR<|Ac (Zj rfl rfl (vt rfl) (vk rfl)) rfl<|Nl<|sq<|Cn rfl (fun hc=>?_) (fun hc=>absurd (hsf1.consn (by simp)) (of_decide_eq_false hc))
  have hlti4:=of_decide_eq_true hc
  refine sk<|sq<|bk<|SR<|Ac (Z8d rfl rfl Z51 Z38 (vt rfl) (vt rfl) hsf1.lget) rfl<|As rfl<|Nl<|sq ?_
  obtain ⟨x8,hx8,h⟩:=Z7 h
  refine Rg<|Md rfl<|Md rfl<|Cl [12,13] (Yu0 _ _ _ hx8) e35 rfl<|Ac (Z0y rfl rfl (vt rfl)) rfl<|Nl<|Cq rfl h (fun h=>?_) (fun h=>?_)
  ·refine SR<|Ab rfl<|Nl<|rt ?_
   cases h;exact Zd Tryz.results16 rfl (Z5 rfl)
  ·refine sk<|Rg<|Ac (Z5f rfl rfl (vt rfl) (vk rfl) rfl hlti4) rfl<|Md rfl<|Nl ?_
   exact ⟨(_,_),Nat.lt_succ_self _,⟨hsf1.next,h⟩,FX rfl⟩
def Zp3:Option Za:=
 some (Vector.replicate 24 zTern)
theorem Yxe:Q0 Tryz.prog 64 (rd (Z3 24 Z4)) Zp3:=fun r h=>I0 Tryz.func64 rfl Tryz.ntmps64 rfl fun w H Z=>by
 unfold Zp3 at h
 refine SR<|Cv rfl (Zm 1 rfl rfl Z1i) fun g1=>Nl<|SR<|Ac (Z1m (ps:=[]) (x:=(Vector.replicate 24 zTern)) rfl rfl rfl (by kernel_rfl) Z1i rfl) rfl<|Zg Z02 1 rfl<|Nl<|rt ?_
 cases h;exact Zd Tryz.results64 rfl (Zx rfl (i:=1) rfl Z02)
def Za8:Option Za:=
 some (Vector.replicate 24 zTern)
theorem Zke:Q0 Tryz.prog 65 (rd (Z3 24 Z4)) Za8:=fun r h=>I0 Tryz.func65 rfl Tryz.ntmps65 rfl fun w H Z=>by
 unfold Za8 at h
 refine SR<|Cv rfl (Zm 1 rfl rfl Z3p) fun g1=>Nl<|SR<|Ac (Z1m (ps:=[]) (x:=(Vector.replicate 24 zTern)) rfl rfl rfl (by kernel_rfl) Z3p rfl) rfl<|Zg Z04 1 rfl<|Nl<|rt ?_
 cases h;exact Zd Tryz.results65 rfl (Zx rfl (i:=1) rfl Z04)
def Zdm (a11:Int)(go1:(List Int)→Int→Option (List Int))(i8:Int):Nat→(List Int)→Int→Option (List Int)
 | 0,_,_=>none
 | m22+1,l20,j21=>(bif (decide (j21>a11)) then (lget l20 (IntKind.i64.wrap (j21 - 1))).bind fun x23=>(lget l20 j21).bind fun x24=>(Zdm a11 go1 i8 m22) (List.set l20 j21.toNat x23) (IntKind.i64.wrap (j21 - 1)) else (lget l20 a11).bind fun x25=>go1 (List.set l20 a11.toNat i8) (IntKind.i64.wrap (i8+1)))
def Zej (l6:(List Int))(t1:(List Flow))(i8:Int)(go1:(List Int)→Int→Option (List Int)):Nat→Int→Option (List Int)
 | 0,_=>none
 | m12+1,a11=>(opt (decide (a11>0)) (lget l6 (IntKind.i64.wrap (a11 - 1)))).bind fun x13=>(opt (decide (a11>0)) (lget t1 x13)).bind fun x14=>(opt (decide (a11>0)) (lget t1 i8)).bind fun x15=>(bif ((decide (a11>0))&&(decide (x14.Priority<x15.Priority))) then (Zej l6 t1 i8 go1 m12) (IntKind.i64.wrap (a11 - 1)) else (Z0v l6 [0]).bind fun l16=>Zdm a11 go1 i8 ((((IntKind.i64.wrap ((l16.length:Int) - 1)):Int) - a11).toNat+1) l16 (IntKind.i64.wrap ((l16.length:Int) - 1)))
def Zag (t1:(List Flow)):Nat→(List Int)→Int→Option (List Int)
 | 0,_,_=>none
 | m9+1,l6,i8=>(bif (decide (i8<(t1.length:Int))) then Zej l6 t1 i8 (Zag t1 m9) Z0s (l6.length:Int) else some l6)
def Zkl (t1:(List Flow)):Option (List Int):=
 Zag t1 ((((t1.length:Int):Int) - 0).toNat+1) [] 0
theorem Yk0:Q1 Tryz.prog 128 (rd (Z1 Z03)) (rd (Z1 (Z0 .i64))) Zkl:=fun t1 r h=>I0 Tryz.func128 rfl Tryz.ntmps128 rfl fun w H Z=>by
 unfold Zkl at h
 refine SR<|Ac (Zv (A:=rd (Z1 (Z0 .i64)) []) rfl rfl Z1f) rfl<|Nl<|SR<|Cv rfl (Z4q 1001 (ps:=[]) (l:=[]) rfl rfl Z11 zr3 rfl rfl rfl rfl) fun v2=>Aw rfl<|Nl<|sq<|SR<|Ak rfl<|Nl<|bk<|LG (d:=[]) (ν:=Nat×(List Int)×Int×Value) (fun (m9,l6,i8,v7)=>(True∧Zag t1 m9 l6 i8=some r,m9,[(0,rd (Z1 Z03) t1),(3,Zb v7),(4,rd (Z0 .i64) i8)],[(1001,Zf v7 3 (Z0 .i64) l6)])) (((((t1.length:Int):Int) - 0).toNat+1),[],0,v2) ⟨trivial,h⟩ (FX rfl) ?_
 rintro ⟨m9,l6,i8,v7⟩ ⟨hsf1,h⟩
 dsimp only at h ⊢
 cases m9 with
 | zero=>cases h
 | succ m9=>
  unfold Zag at h
  refine sq<|SR<|Md rfl<|Md rfl<|Ac (Z0i rfl rfl Z2e (vt rfl)) rfl<|Ac (Zj rfl rfl (vt rfl) (vt rfl)) rfl<|Nl<|Cq rfl h (fun h=>?_) (fun h=>?_)
  ·refine sk<|sq<|bk<|SR<|Mw rfl<|Ac (Z4k 1001 rfl rfl Z11 (vt rfl) rfl) rfl<|As rfl<|Nl<|sq<|bk<|LG (d:=[]) (ν:=Nat×Int) (fun (m12,a11)=>(True∧Zej l6 t1 i8 (Zag t1 m9) m12 a11=some r,m12,[(0,rd (Z1 Z03) t1),(3,Zb v7),(4,rd (Z0 .i64) i8),(5,rd (Z0 .i64) a11)],[(1001,Zf v7 3 (Z0 .i64) l6)])) (Z0s,(l6.length:Int)) ⟨trivial,h⟩ (FX rfl) ?_
   rintro ⟨m12,a11⟩ ⟨hsf2,h⟩
   dsimp only at h ⊢
   cases m12 with
   | zero=>cases h
   | succ m12=>
    unfold Zej at h
    refine sq<|sq ?_
    obtain ⟨x13,hx13,x14,hx14,x15,hx15,h⟩:=bs3 h
    refine AR Z00 (by kernel_rfl)<|Zt rfl<|Sd (lo [16] [] rfl fun S hs hr=>Z2m rfl rfl (vh hs 16 rfl rfl) (vk rfl))<|Zt rfl<|Sd (lg [0,18] [] rfl fun hq S hs hr=>Zq (A:=rd (Z1 Z03) t1) rfl rfl (vh hs 0 rfl rfl))<|Sd (lg [3,18] [] rfl fun hq S hs hr=>Zq (A:=Zb v7) rfl rfl (vh hs 3 rfl rfl))<|Sd (lg [5,18] [] rfl fun hq S hs hr=>Zq (A:=rd (Z0 .i64) a11) rfl rfl (vh hs 5 rfl rfl))<|Sd (lg [21,18] [] rfl fun hq S hs hr=>Z0r rfl rfl (Zi ((hs 21 rfl).trans rfl) hq) (vk rfl))<|Sd (lg [20,22,18] [1001] rfl fun hq S hs hr=>Z22 1001 rfl rfl Z11 (Zi ((hs 20 rfl).trans rfl) hq) ((hr 1001 rfl).trans rfl) (Zi ((hs 22 rfl).trans rfl) hq) (Z2i hx13 hq))<|Sd (lg [23,18] [1001] rfl fun hq S hs hr=>Z1q 1001 rfl rfl Zp (Zi ((hs 23 rfl).trans rfl) hq) ((hr 1001 rfl).trans rfl) (Z0m (Z2i hx13 hq)).2)<|Sd (lg [19,24,18] [] rfl fun hq S hs hr=>Z0k rfl rfl Z2e (Zi ((hs 19 rfl).trans rfl) hq) (Zi ((hs 24 rfl).trans rfl) hq) (Z2i hx14 hq))<|Sd (lg [25,18] [] rfl fun hq S hs hr=>Z6e lFlow_1 rfl rfl Zao (Zi ((hs 25 rfl).trans rfl) hq))<|Sd (lg [26,18] [] rfl fun hq S hs hr=>Z9u rfl rfl Zp (Zi ((hs 26 rfl).trans rfl) hq))<|Sd (lg [0,18] [] rfl fun hq S hs hr=>Zq (A:=rd (Z1 Z03) t1) rfl rfl (vh hs 0 rfl rfl))<|Sd (lg [4,18] [] rfl fun hq S hs hr=>Zq (A:=rd (Z0 .i64) i8) rfl rfl (vh hs 4 rfl rfl))<|Sd (lg [28,29,18] [] rfl fun hq S hs hr=>Z0k rfl rfl Z2e (Zi ((hs 28 rfl).trans rfl) hq) (Zi ((hs 29 rfl).trans rfl) hq) (Z2i hx15 hq))<|Sd (lg [30,18] [] rfl fun hq S hs hr=>Z6e lFlow_1 rfl rfl Zao (Zi ((hs 30 rfl).trans rfl) hq))<|Sd (lg [31,18] [] rfl fun hq S hs hr=>Z9u rfl rfl Zp (Zi ((hs 31 rfl).trans rfl) hq))<|Sd (lg [27,32,18] [] rfl fun hq S hs hr=>Zj rfl rfl (Zi ((hs 27 rfl).trans rfl) hq) (Zi ((hs 32 rfl).trans rfl) hq))<|Sd (lo [33,18] [] rfl fun S hs hr=>Z1k rfl rfl (vh hs 18 rfl rfl) (vh hs 33 rfl rfl))<|Sn<|Cq rfl h (fun h=>?_) (fun h=>?_)
    ·refine sk<|bk<|Rg<|Md rfl<|Ac (Z0r rfl rfl (vt rfl) (vk rfl)) rfl<|As rfl<|Nl ?_
     exact ⟨(_,_),Nat.lt_succ_self _,⟨trivial,h⟩,FX rfl⟩
    ·refine xt<|sq ?_
     obtain ⟨l16,hl16,h⟩:=Z7 h
     refine Rg<|Mw rfl<|Ac (osl Z11 zr3 rfl (vk rfl)) rfl<|Cv rfl (Z29 1001 hl16 rfl rfl Zg9 (vt rfl) rfl (vt rfl)) fun v17=>Aw rfl<|Nl<|sq<|SR<|Mw rfl<|Ac (Z4k 1001 rfl rfl Z11 (vt rfl) rfl) rfl<|Ac (Z0r rfl rfl (vt rfl) (vk rfl)) rfl<|As rfl<|Nl<|bk<|LG (d:=[]) (ν:=Nat×(List Int)×Int) (fun (m22,l20,j21)=>(True∧Zdm a11 (Zag t1 m9) i8 m22 l20 j21=some r,m22,[(0,rd (Z1 Z03) t1),(3,Zb v17),(4,rd (Z0 .i64) i8),(5,rd (Z0 .i64) a11),(6,rd (Z0 .i64) j21)],[(1001,Zf v17 3 (Z0 .i64) l20)])) (((((IntKind.i64.wrap ((l16.length:Int) - 1)):Int) - a11).toNat+1),l16,(IntKind.i64.wrap ((l16.length:Int) - 1))) ⟨trivial,h⟩ (FX rfl) ?_
     rintro ⟨m22,l20,j21⟩ ⟨hsf3,h⟩
     dsimp only at h ⊢
     cases m22 with
     | zero=>cases h
     | succ m22=>
      unfold Zdm at h
      refine sq<|SR<|Md rfl<|Md rfl<|Ac (Z2m rfl rfl (vt rfl) (vt rfl)) rfl<|Nl<|Cq rfl h (fun h=>?_) (fun h=>?_)
      ·refine sk<|sq<|bk ?_
       obtain ⟨x23,hx23,x24,hx24,h⟩:=bs2 h
       refine Rg<|Mw rfl<|Md rfl<|Mw rfl<|Md rfl<|Ac (Z0r rfl rfl (vt rfl) (vk rfl)) rfl<|Ac (Z22 1001 rfl rfl Z11 (vt rfl) rfl (vt rfl) hx23) rfl<|Ac (Z1q 1001 rfl rfl Zp (vt rfl) rfl (Z0m hx23).2) rfl<|Ac (Z22 1001 rfl rfl Z11 (vt rfl) rfl (vt rfl) hx24) rfl<|Ac (Z2w 1001 rfl rfl Zp (vt rfl) rfl (Z0m hx24).2 (vt rfl)) rfl<|Nl<|Rg<|Md rfl<|Ac (Z0r rfl rfl (vt rfl) (vk rfl)) rfl<|As rfl<|Nl ?_
       exact ⟨(_,_,_),Nat.lt_succ_self _,⟨trivial,h⟩,FX rfl⟩
      ·refine xt ?_
       obtain ⟨x25,hx25,h⟩:=Z7 h
       refine Rg<|Mw rfl<|Md rfl<|Md rfl<|Ac (Z22 1001 rfl rfl Z11 (vt rfl) rfl (vt rfl) hx25) rfl<|Ac (Z2w 1001 rfl rfl Zp (vt rfl) rfl (Z0m hx25).2 (vt rfl)) rfl<|Nl<|Rg<|Md rfl<|Ac (Z06 rfl rfl (vt rfl) (vk rfl)) rfl<|As rfl<|Nl ?_
       exact ⟨(_,_,_,_),Nat.lt_succ_self _,⟨trivial,h⟩,FX rfl⟩
  ·refine xt<|SR<|Mw rfl<|Aw rfl<|Nl<|AW.freezes [2,3,60] 1001 rfl ⟨rfl,rfl,rfl,trivial⟩ rfl<|rt ?_
   cases h;exact Zd Tryz.results128 rfl (Z5 rfl)
def Zc8 (x1:Int):Option Bool:=
 some ((decide (x1≥0))&&(decide (x1<24)))
theorem Zsm:Q1 Tryz.prog 285 (rd (Z0 .i64)) (rd Z6) Zc8:=fun x1 r h=>I0 Tryz.func285 rfl Tryz.ntmps285 rfl fun w H Z=>by
 unfold Zc8 at h
 refine SR<|Ab rfl<|Nl<|SR<|Md rfl<|Ac (Z3v rfl rfl (vt rfl) (vk rfl)) rfl<|Md rfl<|Gd rfl (fun hq=>Zq (A:=rd (Z0 .i64) x1) rfl rfl (vt rfl))<|Gd rfl (fun hq=>Zj rfl rfl (Zi rfl hq) (vk rfl))<|Ac (Z1k rfl rfl (vt rfl) (vt rfl)) rfl<|As rfl<|Nl<|rt ?_
 cases h;exact Zd Tryz.results285 rfl (Z5 rfl)
def Zv8 (x1:Int):Option (ByteArray×Int×Int×Bool):=
 (bif (decide (x1=12)) then some ({data:= #[116,99,112,95,115,114,99]},13,16,false) else (bif (decide (x1=13)) then some ({data:= #[116,99,112,95,100,115,116]},14,16,false) else (bif (decide (x1=14)) then some ({data:= #[117,100,112,95,115,114,99]},15,16,false) else (bif (decide (x1=15)) then some ({data:= #[117,100,112,95,100,115,116]},16,16,false) else (bif (decide (x1=16)) then some ({data:= #[105,99,109,112,118,52,95,116,121,112,101]},19,8,false) else (bif (decide (x1=17)) then some ({data:= #[105,99,109,112,118,52,95,99,111,100,101]},20,8,false) else (bif (decide (x1=18)) then some ({data:= #[97,114,112,95,111,112]},21,16,false) else (bif (decide (x1=19)) then some ({data:= #[97,114,112,95,115,112,97]},22,32,true) else (bif (decide (x1=20)) then some ({data:= #[97,114,112,95,116,112,97]},23,32,true) else (bif (decide (x1=21)) then some ({data:= #[105,112,118,54,95,115,114,99]},26,128,true) else (bif (decide (x1=22)) then some ({data:= #[105,112,118,54,95,100,115,116]},27,128,true) else (bif (decide (x1=23)) then some ({data:= #[109,112,108,115,95,108,97,98,101,108]},34,20,false) else some ({data:= #[]},(-1),0,false)))))))))))))
theorem Ymp:Q1 Tryz.prog 363 (rd (Z0 .i64)) (fun r=>Zau (rd Z1t r.1) (rd (Z0 .i64) r.2.1) (rd (Z0 .i64) r.2.2.1) (rd Z6 r.2.2.2)) Zv8:=fun x1 r h=>I0 Tryz.func363 rfl Tryz.ntmps363 rfl fun w H Z=>by
 unfold Zv8 at h
 refine SR<|Ac (Zv (A:=rd Z1t {data:= #[]}) rfl rfl (vs (by decide))) rfl<|Ak rfl<|Ak rfl<|Ab rfl<|Nl<|sq<|SR<|Md rfl<|Nl<|bk<|SR<|Ac (Z0j rfl rfl (vt rfl) (vk rfl)) rfl<|As rfl<|Nl<|Cq rfl h (fun h=>?_) (fun h=>?_)
 ·refine SR<|Ac (Zv (A:=rd Z1t {data:= #[116,99,112,95,115,114,99]}) rfl rfl (vs (by decide))) rfl<|Ak rfl<|Ak rfl<|Ab rfl<|Nl<|rt ?_
  cases h;exact Z2y Tryz.results363 rfl (Z5 rfl) (Z5 rfl) (Z5 rfl) (Z5 rfl)
 ·refine SR<|Ac (Z0j rfl rfl (vt rfl) (vk rfl)) rfl<|As rfl<|Nl<|Cq rfl h (fun h=>?_) (fun h=>?_)
  ·refine SR<|Ac (Zv (A:=rd Z1t {data:= #[116,99,112,95,100,115,116]}) rfl rfl (vs (by decide))) rfl<|Ak rfl<|Ak rfl<|Ab rfl<|Nl<|rt ?_
   cases h;exact Z2y Tryz.results363 rfl (Z5 rfl) (Z5 rfl) (Z5 rfl) (Z5 rfl)
  ·refine SR<|Ac (Z0j rfl rfl (vt rfl) (vk rfl)) rfl<|As rfl<|Nl<|Cq rfl h (fun h=>?_) (fun h=>?_)
   ·refine SR<|Ac (Zv (A:=rd Z1t {data:= #[117,100,112,95,115,114,99]}) rfl rfl (vs (by decide))) rfl<|Ak rfl<|Ak rfl<|Ab rfl<|Nl<|rt ?_
    cases h;exact Z2y Tryz.results363 rfl (Z5 rfl) (Z5 rfl) (Z5 rfl) (Z5 rfl)
   ·refine SR<|Ac (Z0j rfl rfl (vt rfl) (vk rfl)) rfl<|As rfl<|Nl<|Cq rfl h (fun h=>?_) (fun h=>?_)
    ·refine SR<|Ac (Zv (A:=rd Z1t {data:= #[117,100,112,95,100,115,116]}) rfl rfl (vs (by decide))) rfl<|Ak rfl<|Ak rfl<|Ab rfl<|Nl<|rt ?_
     cases h;exact Z2y Tryz.results363 rfl (Z5 rfl) (Z5 rfl) (Z5 rfl) (Z5 rfl)
    ·refine SR<|Ac (Z0j rfl rfl (vt rfl) (vk rfl)) rfl<|As rfl<|Nl<|Cq rfl h (fun h=>?_) (fun h=>?_)
     ·refine SR<|Ac (Zv (A:=rd Z1t {data:= #[105,99,109,112,118,52,95,116,121,112,101]}) rfl rfl (vs (by decide))) rfl<|Ak rfl<|Ak rfl<|Ab rfl<|Nl<|rt ?_
      cases h;exact Z2y Tryz.results363 rfl (Z5 rfl) (Z5 rfl) (Z5 rfl) (Z5 rfl)
     ·refine SR<|Ac (Z0j rfl rfl (vt rfl) (vk rfl)) rfl<|As rfl<|Nl<|Cq rfl h (fun h=>?_) (fun h=>?_)
      ·refine SR<|Ac (Zv (A:=rd Z1t {data:= #[105,99,109,112,118,52,95,99,111,100,101]}) rfl rfl (vs (by decide))) rfl<|Ak rfl<|Ak rfl<|Ab rfl<|Nl<|rt ?_
       cases h;exact Z2y Tryz.results363 rfl (Z5 rfl) (Z5 rfl) (Z5 rfl) (Z5 rfl)
      ·refine SR<|Ac (Z0j rfl rfl (vt rfl) (vk rfl)) rfl<|As rfl<|Nl<|Cq rfl h (fun h=>?_) (fun h=>?_)
       ·refine SR<|Ac (Zv (A:=rd Z1t {data:= #[97,114,112,95,111,112]}) rfl rfl (vs (by decide))) rfl<|Ak rfl<|Ak rfl<|Ab rfl<|Nl<|rt ?_
        cases h;exact Z2y Tryz.results363 rfl (Z5 rfl) (Z5 rfl) (Z5 rfl) (Z5 rfl)
       ·refine SR<|Ac (Z0j rfl rfl (vt rfl) (vk rfl)) rfl<|As rfl<|Nl<|Cq rfl h (fun h=>?_) (fun h=>?_)
        ·refine SR<|Ac (Zv (A:=rd Z1t {data:= #[97,114,112,95,115,112,97]}) rfl rfl (vs (by decide))) rfl<|Ak rfl<|Ak rfl<|Ab rfl<|Nl<|rt ?_
         cases h;exact Z2y Tryz.results363 rfl (Z5 rfl) (Z5 rfl) (Z5 rfl) (Z5 rfl)
        ·refine SR<|Ac (Z0j rfl rfl (vt rfl) (vk rfl)) rfl<|As rfl<|Nl<|Cq rfl h (fun h=>?_) (fun h=>?_)
         ·refine SR<|Ac (Zv (A:=rd Z1t {data:= #[97,114,112,95,116,112,97]}) rfl rfl (vs (by decide))) rfl<|Ak rfl<|Ak rfl<|Ab rfl<|Nl<|rt ?_
          cases h;exact Z2y Tryz.results363 rfl (Z5 rfl) (Z5 rfl) (Z5 rfl) (Z5 rfl)
         ·refine SR<|Ac (Z0j rfl rfl (vt rfl) (vk rfl)) rfl<|As rfl<|Nl<|Cq rfl h (fun h=>?_) (fun h=>?_)
          ·refine SR<|Ac (Zv (A:=rd Z1t {data:= #[105,112,118,54,95,115,114,99]}) rfl rfl (vs (by decide))) rfl<|Ak rfl<|Ak rfl<|Ab rfl<|Nl<|rt ?_
           cases h;exact Z2y Tryz.results363 rfl (Z5 rfl) (Z5 rfl) (Z5 rfl) (Z5 rfl)
          ·refine SR<|Ac (Z0j rfl rfl (vt rfl) (vk rfl)) rfl<|As rfl<|Nl<|Cq rfl h (fun h=>?_) (fun h=>?_)
           ·refine SR<|Ac (Zv (A:=rd Z1t {data:= #[105,112,118,54,95,100,115,116]}) rfl rfl (vs (by decide))) rfl<|Ak rfl<|Ak rfl<|Ab rfl<|Nl<|rt ?_
            cases h;exact Z2y Tryz.results363 rfl (Z5 rfl) (Z5 rfl) (Z5 rfl) (Z5 rfl)
           ·refine SR<|Ac (Z0j rfl rfl (vt rfl) (vk rfl)) rfl<|As rfl<|Nl<|Cq rfl h (fun h=>?_) (fun h=>?_)
            ·refine SR<|Ac (Zv (A:=rd Z1t {data:= #[109,112,108,115,95,108,97,98,101,108]}) rfl rfl (vs (by decide))) rfl<|Ak rfl<|Ak rfl<|Ab rfl<|Nl<|rt ?_
             cases h;exact Z2y Tryz.results363 rfl (Z5 rfl) (Z5 rfl) (Z5 rfl) (Z5 rfl)
            ·refine sk<|SR<|Ac (Zv (A:=rd Z1t {data:= #[]}) rfl rfl (vs (by decide))) rfl<|Ak rfl<|Ak rfl<|Ab rfl<|Nl<|rt ?_
             cases h;exact Z2y Tryz.results363 rfl (Z5 rfl) (Z5 rfl) (Z5 rfl) (Z5 rfl)
def Ztf (x1:Int):Option (ByteArray×Int×Int×Bool):=
 (bif (decide (x1=0)) then some ({data:= #[105,110,95,112,111,114,116]},0,32,false) else (bif (decide (x1=1)) then some ({data:= #[109,101,116,97,100,97,116,97]},2,64,true) else (bif (decide (x1=2)) then some ({data:= #[101,116,104,95,100,115,116]},3,48,true) else (bif (decide (x1=3)) then some ({data:= #[101,116,104,95,115,114,99]},4,48,true) else (bif (decide (x1=4)) then some ({data:= #[101,116,104,95,116,121,112,101]},5,16,false) else (bif (decide (x1=5)) then some ({data:= #[118,108,97,110,95,118,105,100]},6,13,true) else (bif (decide (x1=6)) then some ({data:= #[118,108,97,110,95,112,99,112]},7,3,false) else (bif (decide (x1=7)) then some ({data:= #[105,112,95,100,115,99,112]},8,6,false) else (bif (decide (x1=8)) then some ({data:= #[105,112,95,101,99,110]},9,2,false) else (bif (decide (x1=9)) then some ({data:= #[105,112,95,112,114,111,116,111]},10,8,false) else (bif (decide (x1=10)) then some ({data:= #[105,112,118,52,95,115,114,99]},11,32,true) else (bif (decide (x1=11)) then some ({data:= #[105,112,118,52,95,100,115,116]},12,32,true) else (Zv8 x1).bind fun x2=>some (x2.1,x2.2.1,x2.2.2.1,x2.2.2.2)))))))))))))
theorem Yx6:Q1 Tryz.prog 322 (rd (Z0 .i64)) (fun r=>Zau (rd Z1t r.1) (rd (Z0 .i64) r.2.1) (rd (Z0 .i64) r.2.2.1) (rd Z6 r.2.2.2)) Ztf:=fun x1 r h=>I0 Tryz.func322 rfl Tryz.ntmps322 rfl fun w H Z=>by
 unfold Ztf at h
 refine SR<|Ac (Zv (A:=rd Z1t {data:= #[]}) rfl rfl (vs (by decide))) rfl<|Ak rfl<|Ak rfl<|Ab rfl<|Nl<|sq<|SR<|Md rfl<|Nl<|bk<|SR<|Ac (Z0j rfl rfl (vt rfl) (vk rfl)) rfl<|As rfl<|Nl<|Cq rfl h (fun h=>?_) (fun h=>?_)
 ·refine SR<|Ac (Zv (A:=rd Z1t {data:= #[105,110,95,112,111,114,116]}) rfl rfl (vs (by decide))) rfl<|Ak rfl<|Ak rfl<|Ab rfl<|Nl<|rt ?_
  cases h;exact Z2y Tryz.results322 rfl (Z5 rfl) (Z5 rfl) (Z5 rfl) (Z5 rfl)
 ·refine SR<|Ac (Z0j rfl rfl (vt rfl) (vk rfl)) rfl<|As rfl<|Nl<|Cq rfl h (fun h=>?_) (fun h=>?_)
  ·refine SR<|Ac (Zv (A:=rd Z1t {data:= #[109,101,116,97,100,97,116,97]}) rfl rfl (vs (by decide))) rfl<|Ak rfl<|Ak rfl<|Ab rfl<|Nl<|rt ?_
   cases h;exact Z2y Tryz.results322 rfl (Z5 rfl) (Z5 rfl) (Z5 rfl) (Z5 rfl)
  ·refine SR<|Ac (Z0j rfl rfl (vt rfl) (vk rfl)) rfl<|As rfl<|Nl<|Cq rfl h (fun h=>?_) (fun h=>?_)
   ·refine SR<|Ac (Zv (A:=rd Z1t {data:= #[101,116,104,95,100,115,116]}) rfl rfl (vs (by decide))) rfl<|Ak rfl<|Ak rfl<|Ab rfl<|Nl<|rt ?_
    cases h;exact Z2y Tryz.results322 rfl (Z5 rfl) (Z5 rfl) (Z5 rfl) (Z5 rfl)
   ·refine SR<|Ac (Z0j rfl rfl (vt rfl) (vk rfl)) rfl<|As rfl<|Nl<|Cq rfl h (fun h=>?_) (fun h=>?_)
    ·refine SR<|Ac (Zv (A:=rd Z1t {data:= #[101,116,104,95,115,114,99]}) rfl rfl (vs (by decide))) rfl<|Ak rfl<|Ak rfl<|Ab rfl<|Nl<|rt ?_
     cases h;exact Z2y Tryz.results322 rfl (Z5 rfl) (Z5 rfl) (Z5 rfl) (Z5 rfl)
    ·refine SR<|Ac (Z0j rfl rfl (vt rfl) (vk rfl)) rfl<|As rfl<|Nl<|Cq rfl h (fun h=>?_) (fun h=>?_)
     ·refine SR<|Ac (Zv (A:=rd Z1t {data:= #[101,116,104,95,116,121,112,101]}) rfl rfl (vs (by decide))) rfl<|Ak rfl<|Ak rfl<|Ab rfl<|Nl<|rt ?_
      cases h;exact Z2y Tryz.results322 rfl (Z5 rfl) (Z5 rfl) (Z5 rfl) (Z5 rfl)
     ·refine SR<|Ac (Z0j rfl rfl (vt rfl) (vk rfl)) rfl<|As rfl<|Nl<|Cq rfl h (fun h=>?_) (fun h=>?_)
      ·refine SR<|Ac (Zv (A:=rd Z1t {data:= #[118,108,97,110,95,118,105,100]}) rfl rfl (vs (by decide))) rfl<|Ak rfl<|Ak rfl<|Ab rfl<|Nl<|rt ?_
       cases h;exact Z2y Tryz.results322 rfl (Z5 rfl) (Z5 rfl) (Z5 rfl) (Z5 rfl)
      ·refine SR<|Ac (Z0j rfl rfl (vt rfl) (vk rfl)) rfl<|As rfl<|Nl<|Cq rfl h (fun h=>?_) (fun h=>?_)
       ·refine SR<|Ac (Zv (A:=rd Z1t {data:= #[118,108,97,110,95,112,99,112]}) rfl rfl (vs (by decide))) rfl<|Ak rfl<|Ak rfl<|Ab rfl<|Nl<|rt ?_
        cases h;exact Z2y Tryz.results322 rfl (Z5 rfl) (Z5 rfl) (Z5 rfl) (Z5 rfl)
       ·refine SR<|Ac (Z0j rfl rfl (vt rfl) (vk rfl)) rfl<|As rfl<|Nl<|Cq rfl h (fun h=>?_) (fun h=>?_)
        ·refine SR<|Ac (Zv (A:=rd Z1t {data:= #[105,112,95,100,115,99,112]}) rfl rfl (vs (by decide))) rfl<|Ak rfl<|Ak rfl<|Ab rfl<|Nl<|rt ?_
         cases h;exact Z2y Tryz.results322 rfl (Z5 rfl) (Z5 rfl) (Z5 rfl) (Z5 rfl)
        ·refine SR<|Ac (Z0j rfl rfl (vt rfl) (vk rfl)) rfl<|As rfl<|Nl<|Cq rfl h (fun h=>?_) (fun h=>?_)
         ·refine SR<|Ac (Zv (A:=rd Z1t {data:= #[105,112,95,101,99,110]}) rfl rfl (vs (by decide))) rfl<|Ak rfl<|Ak rfl<|Ab rfl<|Nl<|rt ?_
          cases h;exact Z2y Tryz.results322 rfl (Z5 rfl) (Z5 rfl) (Z5 rfl) (Z5 rfl)
         ·refine SR<|Ac (Z0j rfl rfl (vt rfl) (vk rfl)) rfl<|As rfl<|Nl<|Cq rfl h (fun h=>?_) (fun h=>?_)
          ·refine SR<|Ac (Zv (A:=rd Z1t {data:= #[105,112,95,112,114,111,116,111]}) rfl rfl (vs (by decide))) rfl<|Ak rfl<|Ak rfl<|Ab rfl<|Nl<|rt ?_
           cases h;exact Z2y Tryz.results322 rfl (Z5 rfl) (Z5 rfl) (Z5 rfl) (Z5 rfl)
          ·refine SR<|Ac (Z0j rfl rfl (vt rfl) (vk rfl)) rfl<|As rfl<|Nl<|Cq rfl h (fun h=>?_) (fun h=>?_)
           ·refine SR<|Ac (Zv (A:=rd Z1t {data:= #[105,112,118,52,95,115,114,99]}) rfl rfl (vs (by decide))) rfl<|Ak rfl<|Ak rfl<|Ab rfl<|Nl<|rt ?_
            cases h;exact Z2y Tryz.results322 rfl (Z5 rfl) (Z5 rfl) (Z5 rfl) (Z5 rfl)
           ·refine SR<|Ac (Z0j rfl rfl (vt rfl) (vk rfl)) rfl<|As rfl<|Nl<|Cq rfl h (fun h=>?_) (fun h=>?_)
            ·refine SR<|Ac (Zv (A:=rd Z1t {data:= #[105,112,118,52,95,100,115,116]}) rfl rfl (vs (by decide))) rfl<|Ak rfl<|Ak rfl<|Ab rfl<|Nl<|rt ?_
             cases h;exact Z2y Tryz.results322 rfl (Z5 rfl) (Z5 rfl) (Z5 rfl) (Z5 rfl)
            ·refine sk<|sq ?_
             obtain ⟨x2,hx2,h⟩:=Z7 h
             refine Rg<|Md rfl<|Cl [31] (Ymp _ _ hx2) Yn6 rfl<|Ac (Yaj rfl rfl (vt rfl)) rfl<|Ac (Y6r rfl rfl (vt rfl)) rfl<|Ac (Y6a rfl rfl (vt rfl)) rfl<|Ac (Y3q rfl rfl (vt rfl)) rfl<|As rfl<|As rfl<|As rfl<|As rfl<|Nl<|rt ?_
             cases h;exact Z2y Tryz.results322 rfl (Z5 rfl) (Z5 rfl) (Z5 rfl) (Z5 rfl)
def Zo4 (x1:Int):Option Int:=
 (Ztf x1).bind fun x2=>some x2.2.2.1
theorem Ylo:Q1 Tryz.prog 320 (rd (Z0 .i64)) (rd (Z0 .i64)) Zo4:=fun x1 r h=>I0 Tryz.func320 rfl Tryz.ntmps320 rfl fun w H Z=>by
 unfold Zo4 at h
 refine SR<|Ak rfl<|Nl<|sq ?_
 obtain ⟨x2,hx2,h⟩:=Z7 h
 refine Rg<|Md rfl<|Cl [8] (Yx6 _ _ hx2) Yg2 rfl<|Ac (Zq (A:=Zau (rd Z1t x2.1) (rd (Z0 .i64) x2.2.1) (rd (Z0 .i64) x2.2.2.1) (rd Z6 x2.2.2.2)) rfl rfl (vt rfl)) rfl<|Ac (Yaj rfl rfl (vt rfl)) rfl<|Ac (Y6r rfl rfl (vt rfl)) rfl<|Ac (Y6a rfl rfl (vt rfl)) rfl<|Ac (Y3q rfl rfl (vt rfl)) rfl<|As rfl<|As rfl<|As rfl<|As rfl<|Nl<|SR<|Md rfl<|As rfl<|Nl<|rt ?_
 cases h;exact Zd Tryz.results320 rfl (Z5 rfl)
def Zav (i1:Int):Option Wide:=
 (bif ((decide (i1<0))||(decide (i1>127))) then some (⟨0,0⟩:Wide) else (bif (decide (i1<64)) then (Za7 (1:BitVec 64) ((BitVec.ofInt 64 i1).toNat:Int)).bind fun q3=>some (⟨0,q3⟩:Wide) else (Za7 (1:BitVec 64) ((BitVec.ofInt 64 (IntKind.i64.wrap (i1 - 64))).toNat:Int)).bind fun q4=>some (⟨q4,0⟩:Wide)))
theorem Zrr:Q1 Tryz.prog 345 (rd (Z0 .i64)) (rd Zn) Zav:=fun i1 r h=>I0 Tryz.func345 rfl Tryz.ntmps345 rfl fun w H Z=>by
 unfold Zav at h
 refine SR<|Cv rfl (Zm 3 rfl rfl Z27) fun g2=>Nl<|sq<|bk<|SR<|Md rfl<|Ac (Zj rfl rfl (vt rfl) (vk rfl)) rfl<|Md rfl<|Gd rfl (fun hq=>Zq (A:=rd (Z0 .i64) i1) rfl rfl (vt rfl))<|Gd rfl (fun hq=>Z2m rfl rfl (Zi rfl hq) (vk rfl))<|Ac (Z3j rfl rfl (vt rfl) (vt rfl)) rfl<|As rfl<|Nl<|Cq rfl h (fun h=>?_) (fun h=>?_)
 ·refine SR<|Ac (opb (⟨0,0⟩:Wide) Z27 rfl Z4h (pn rfl)) rfl<|Zg Zw 3 rfl<|Nl<|rt ?_
  cases h;exact Zd Tryz.results345 rfl (Zx rfl (i:=3) rfl Zw)
 ·refine SR<|Md rfl<|Ac (Zj rfl rfl (vt rfl) (vk rfl)) rfl<|As rfl<|Nl<|Cq rfl h (fun h=>?_) (fun h=>?_)
  ·refine sq ?_
   obtain ⟨q3,hq3,h⟩:=Z7 h
   refine Rg<|Md rfl<|Ac (Z8s rfl rfl us3 Z94 (vt rfl)) rfl<|Ac (Zsa rfl rfl (vku (1:BitVec 64) rfl) (Z5a (vt rfl)) hq3) rfl<|Ac (opb (⟨0,q3⟩:Wide) Z27 rfl Z4h (pc Z84 (vt rfl)<|pn rfl)) rfl<|Zg Zw 3 rfl<|Nl<|rt ?_
   cases h;exact Zd Tryz.results345 rfl (Zx rfl (i:=3) rfl Zw)
  ·refine sk<|sq ?_
   obtain ⟨q4,hq4,h⟩:=Z7 h
   refine Rg<|Md rfl<|Ac (Z0r rfl rfl (vt rfl) (vk rfl)) rfl<|Ac (Z8s rfl rfl us3 Z94 (vt rfl)) rfl<|Ac (Zsa rfl rfl (vku (1:BitVec 64) rfl) (Z5a (vt rfl)) hq4) rfl<|Ac (opb (⟨q4,0⟩:Wide) Z27 rfl Z4h (pc Z7q (vt rfl)<|pn rfl)) rfl<|Zg Zw 3 rfl<|Nl<|rt ?_
   cases h;exact Zd Tryz.results345 rfl (Zx rfl (i:=3) rfl Zw)
end Go.Proofs.YtinplddjjalohaaGreatDoor.W
set_option maxHeartbeats 1000000
set_option maxRecDepth 4000
namespace Go.Proofs.YtinplddjjalohaaGreatDoor.W
open Go Go.Wb
theorem Zr5:Ent Tryz.prog 345:=Ent.mk Tryz.func345 rfl rfl
theorem Znz:Ent Tryz.prog 283:=Ent.mk Tryz.func283 rfl rfl
theorem Zyu:Ent Tryz.prog 285:=Ent.mk Tryz.func285 rfl rfl
theorem Yhd:Ent Tryz.prog 320:=Ent.mk Tryz.func320 rfl rfl
theorem Zun:Ent Tryz.prog 319:=Ent.mk Tryz.func319 rfl rfl
theorem Zz7:Ent Tryz.prog 297:=Ent.mk Tryz.func297 rfl rfl
theorem Zp7:Ent Tryz.prog 284:=Ent.mk Tryz.func284 rfl rfl
theorem Zms:Ent Tryz.prog 215:=Ent.mk Tryz.func215 rfl rfl
theorem Yi5:Ent Tryz.prog 218:=Ent.mk Tryz.func218 rfl rfl
theorem Yjw:Ent Tryz.prog 217:=Ent.mk Tryz.func217 rfl rfl
def Zby (a1:Wide)(b2:Wide):Option Wide:=
 some (⟨(a1.Hi||| b2.Hi),(a1.Lo||| b2.Lo)⟩:Wide)
theorem Zk2:Q2 Tryz.prog 283 (rd Zn) (rd Zn) (rd Zn) Zby:=fun a1 b2 r h=>I0 Tryz.func283 rfl Tryz.ntmps283 rfl fun w H Z=>by
 unfold Zby at h
 refine SR<|Cv rfl (Zs 3 rfl rfl (vt rfl)) fun g3=>Cv rfl (Zs 4 rfl rfl (vt rfl)) fun g4=>Cv rfl (Zm 5 rfl rfl Z27) fun g5=>Nl<|SR<|Zk lWide_0 Z4b rfl<|Ld Z1g 3 rfl<|Zk lWide_0 Z4b rfl<|Ld Z1g 4 rfl<|Ac (Znm rfl rfl (vt rfl) (vt rfl)) rfl<|Zk lWide_1 Z4d rfl<|Ld Z1g 3 rfl<|Zk lWide_1 Z4d rfl<|Ld Z1g 4 rfl<|Ac (Znm rfl rfl (vt rfl) (vt rfl)) rfl<|Ac (opb (⟨(a1.Hi||| b2.Hi),(a1.Lo||| b2.Lo)⟩:Wide) Z27 rfl Z4h (pc Z7q (vt rfl)<|pc Z84 (vt rfl)<|pn rfl)) rfl<|Zg Zw 5 rfl<|Nl<|rt ?_
 cases h;exact Zd Tryz.results283 rfl (Zx rfl (i:=5) rfl Zw)
def Zpq (n1:Int):Nat→Wide→Int→Option Wide
 | 0,_,_=>none
 | m8+1,b6,i7=>(bif ((decide (i7<n1))&&(decide (i7<128))) then (Zav i7).bind fun x9=>(Zby b6 x9).bind fun x10=>(Zpq n1 m8) x10 (IntKind.i64.wrap (i7+1)) else some b6)
def Zaz (n1:Int):Option Wide:=
 Zpq n1 Z0s (⟨0,0⟩:Wide) 0
theorem Ztz:Q1 Tryz.prog 319 (rd (Z0 .i64)) (rd Zn) Zaz:=fun n1 r h=>I0 Tryz.func319 rfl Tryz.ntmps319 rfl fun w H Z=>by
 unfold Zaz at h
 refine SR<|Cv rfl (Zm 3 rfl rfl Z27) fun g2=>Nl<|SR<|Ac (opb (⟨0,0⟩:Wide) Z27 rfl Z4h (pn rfl)) rfl<|Cv rfl (Zm 4 rfl rfl Z27) fun g3=>Zg Zw 4 rfl<|Nl<|sq<|SR<|Ak rfl<|Nl<|bk<|LG (d:=[]) (ν:=Nat×Wide×Int) (fun (m8,b6,i7)=>(True∧Zpq n1 m8 b6 i7=some r,m8,[(0,rd (Z0 .i64) n1),(2,Zc g2 (Lens.id Zn)),(3,Zc g3 (Lens.id Zn)),(4,rd (Z0 .i64) i7)],[(3,Zh g2 29 Zn Z0p),(4,Zh g3 29 Zn b6)])) (Z0s,(⟨0,0⟩:Wide),0) ⟨trivial,h⟩ (FX rfl) ?_
 rintro ⟨m8,b6,i7⟩ ⟨hsf1,h⟩
 dsimp only at h ⊢
 cases m8 with
 | zero=>cases h
 | succ m8=>
  unfold Zpq at h
  refine sq<|SR<|Md rfl<|Md rfl<|Ac (Zj rfl rfl (vt rfl) (vt rfl)) rfl<|Md rfl<|Gd rfl (fun hq=>Zq (A:=rd (Z0 .i64) i7) rfl rfl (vt rfl))<|Gd rfl (fun hq=>Zj rfl rfl (Zi rfl hq) (vk rfl))<|Ac (Z1k rfl rfl (vt rfl) (vt rfl)) rfl<|Nl<|Cq rfl h (fun h=>?_) (fun h=>?_)
  ·refine sk<|sq<|bk ?_
   obtain ⟨x9,hx9,x10,hx10,h⟩:=bs2 h
   refine AR Z00 (by kernel_rfl)<|Zo Zw 4 rfl<|Zt rfl<|SCl [16] (Zrr _ _ hx9) Zr5 rfl<|SCl [15,17] (Zk2 _ _ _ hx10) Znz rfl<|SSt Zw 4 rfl<|Sn<|Rg<|Md rfl<|Ac (Z06 rfl rfl (vt rfl) (vk rfl)) rfl<|As rfl<|Nl ?_
   exact ⟨(_,_,_),Nat.lt_succ_self _,⟨trivial,h⟩,FX rfl⟩
  ·refine xt<|SR<|Ld Zw 4 rfl<|Zg Zw 3 rfl<|Nl<|rt ?_
   cases h;exact Zd Tryz.results319 rfl (Zx rfl (i:=3) rfl Zw)
def Zh1 (o1:Oxm):Option Tern:=
 (Zc8 o1.Field).bind fun x4=>(bif (!x4) then some (⟨Z0p,Z0p⟩:Tern) else (bif o1.Masked then some (⟨o1.Value,o1.Mask⟩:Tern) else (Zo4 o1.Field).bind fun x5=>(Zaz x5).bind fun x6=>some (⟨o1.Value,x6⟩:Tern)))
theorem Zzg:Q1 Tryz.prog 297 (rd Z0h) (rd Z4) Zh1:=fun o1 r h=>I0 Tryz.func297 rfl Tryz.ntmps297 rfl fun w H Z=>by
 unfold Zh1 at h
 refine SR<|Cv rfl (Zs 2 rfl rfl (vt rfl)) fun g2=>Cv rfl (Zm 3 rfl rfl Z1n) fun g3=>Nl<|sq<|sq ?_
 obtain ⟨x4,hx4,h⟩:=Z7 h
 refine Rg<|Zk Z4f Z4r rfl<|Ld Zp 2 rfl<|Cl [4] (Zsm _ _ hx4) Zyu rfl<|Ac (Z0y rfl rfl (vt rfl)) rfl<|Nl<|Cq rfl h (fun h=>?_) (fun h=>?_)
 ·refine SR<|Ac (opb (⟨Z0p,Z0p⟩:Tern) Z1n rfl Z4c (pn rfl)) rfl<|Zg Z01 3 rfl<|Nl<|rt ?_
  cases h;exact Zd Tryz.results297 rfl (Zx rfl (i:=3) rfl Z01)
 ·refine sk<|sq<|SR<|Zk Zxe Zzn rfl<|Ld ty4 2 rfl<|Nl<|Cq rfl h (fun h=>?_) (fun h=>?_)
  ·refine SR<|Zk Zmq Zq2 rfl<|Ld Zw 2 rfl<|Zk Zx3 Y8z rfl<|Ld Zw 2 rfl<|Ac (opb (⟨o1.Value,o1.Mask⟩:Tern) Z1n rfl Z4c (pc Z5n (vt rfl)<|pc Z5s (vt rfl)<|pn rfl)) rfl<|Zg Z01 3 rfl<|Nl<|rt ?_
   cases h;exact Zd Tryz.results297 rfl (Zx rfl (i:=3) rfl Z01)
  ·refine sk<|sq ?_
   obtain ⟨x5,hx5,x6,hx6,h⟩:=bs2 h
   refine AR Z00 (by kernel_rfl)<|SFd Zmq Zq2 rfl<|Zo Zw 2 rfl<|SFd Z4f Z4r rfl<|Zo Zp 2 rfl<|SCl [18] (Ylo _ _ hx5) Yhd rfl<|SCl [19] (Ztz _ _ hx6) Zun rfl<|Sd (lo [16,20] [] rfl fun S hs hr=>opb (⟨o1.Value,x6⟩:Tern) Z1n rfl Z4c (pc Z5n (vh hs 16 rfl rfl)<|pc Z5s (vh hs 20 rfl rfl)<|pn rfl))<|SSt Z01 3 rfl<|Sn<|rt ?_
   cases h;exact Zd Tryz.results297 rfl (Zx rfl (i:=3) rfl Z01)
def Zcu (l1:(List Oxm)):Nat→Za→Int→Option Za
 | 0,_,_=>none
 | m8+1,b6,i7=>(bif (decide (i7<(l1.length:Int))) then (lget l1 i7).bind fun x9=>(Zc8 x9.Field).bind fun x10=>(bif x10 then (lget l1 i7).bind fun x11=>(lget l1 i7).bind fun x12=>(Zh1 x12).bind fun x13=>(chk 24 x11.Field).bind fun j14=>(Zcu l1 m8) (Vector.set b6 j14.1 x13 j14.2) (IntKind.i64.wrap (i7+1)) else (Zcu l1 m8) b6 (IntKind.i64.wrap (i7+1))) else some b6)
def Zsb (l1:(List Oxm)):Option Za:=
 Zcu l1 ((((l1.length:Int):Int) - 0).toNat+1) (Vector.replicate 24 zTern) 0
theorem Yms:Q1 Tryz.prog 218 (rd (Z1 Z0h)) (rd (Z3 24 Z4)) Zsb:=fun l1 r h=>I0 Tryz.func218 rfl Tryz.ntmps218 rfl fun w H Z=>by
 unfold Zsb at h
 refine SR<|Cv rfl (Zm 3 rfl rfl Z1i) fun g2=>Nl<|SR<|Ac (Z1m (ps:=[]) (x:=(Vector.replicate 24 zTern)) rfl rfl rfl (by kernel_rfl) Z1i rfl) rfl<|Cv rfl (Zm 4 rfl rfl Z1i) fun g3=>Zg Z02 4 rfl<|Nl<|sq<|SR<|Ak rfl<|Nl<|bk<|LG (d:=[]) (ν:=Nat×Za×Int) (fun (m8,b6,i7)=>(True∧Zcu l1 m8 b6 i7=some r,m8,[(0,rd (Z1 Z0h) l1),(2,Zc g2 (Lens.id (Z3 24 Z4))),(3,Zc g3 (Lens.id (Z3 24 Z4))),(4,rd (Z0 .i64) i7)],[(3,Zh g2 123 (Z3 24 Z4) (Vector.replicate 24 zTern)),(4,Zh g3 123 (Z3 24 Z4) b6)])) (((((l1.length:Int):Int) - 0).toNat+1),(Vector.replicate 24 zTern),0) ⟨trivial,h⟩ (FX rfl) ?_
 rintro ⟨m8,b6,i7⟩ ⟨hsf1,h⟩
 dsimp only at h ⊢
 cases m8 with
 | zero=>cases h
 | succ m8=>
  unfold Zcu at h
  refine sq<|SR<|Md rfl<|Md rfl<|Ac (Z0i rfl rfl Z4w (vt rfl)) rfl<|Ac (Zj rfl rfl (vt rfl) (vt rfl)) rfl<|Nl<|Cq rfl h (fun h=>?_) (fun h=>?_)
  ·refine sk<|sq<|bk<|sq ?_
   obtain ⟨x9,hx9,x10,hx10,h⟩:=bs2 h
   refine Rg<|Md rfl<|Md rfl<|Ac (Z0k rfl rfl Z4w (vt rfl) (vt rfl) hx9) rfl<|Fp Z4f Z4r rfl<|Lp1 Zp rfl<|Cl [16] (Zsm _ _ hx10) Zyu rfl<|Nl<|Cq rfl h (fun h=>?_) (fun h=>?_)
   ·obtain ⟨x11,hx11,x12,hx12,x13,hx13,j14,hj14,h⟩:=bs4 h
    refine AR Z00 (by kernel_rfl)<|Zt rfl<|Zt rfl<|Sd (lo [18,19] [] rfl fun S hs hr=>Z0k rfl rfl Z4w (vh hs 18 rfl rfl) (vh hs 19 rfl rfl) hx11)<|SFp Z4f Z4r rfl<|SLp Zp rfl<|Zt rfl<|Zt rfl<|Sd (lo [23,24] [] rfl fun S hs hr=>Z0k rfl rfl Z4w (vh hs 23 rfl rfl) (vh hs 24 rfl rfl) hx12)<|SLp Z7f rfl<|SCl [26] (Zzg _ _ hx13) Zz7 rfl<|Sd (lo [3,22] [] rfl fun S hs hr=>Z13 rfl rfl Z2l (vh hs 3 rfl rfl) (vh hs 22 rfl rfl) hj14)<|SSt Z01 4 rfl<|Sn<|Rg<|Md rfl<|Ac (Z06 rfl rfl (vt rfl) (vk rfl)) rfl<|As rfl<|Nl ?_
    exact ⟨(_,_,_),Nat.lt_succ_self _,⟨trivial,h⟩,FX rfl⟩
   ·refine sk<|Rg<|Md rfl<|Ac (Z06 rfl rfl (vt rfl) (vk rfl)) rfl<|As rfl<|Nl ?_
    exact ⟨(_,_,_),Nat.lt_succ_self _,⟨trivial,h⟩,FX rfl⟩
  ·refine xt<|SR<|Ld Z02 4 rfl<|Zg Z02 3 rfl<|Nl<|rt ?_
   cases h;exact Zd Tryz.results218 rfl (Zx rfl (i:=3) rfl Z02)
def Zf5 (a1:Wide)(b2:Wide):Option Wide:=
 some (⟨(a1.Hi&&& b2.Hi),(a1.Lo&&& b2.Lo)⟩:Wide)
theorem Zq5:Q2 Tryz.prog 284 (rd Zn) (rd Zn) (rd Zn) Zf5:=fun a1 b2 r h=>I0 Tryz.func284 rfl Tryz.ntmps284 rfl fun w H Z=>by
 unfold Zf5 at h
 refine SR<|Cv rfl (Zs 3 rfl rfl (vt rfl)) fun g3=>Cv rfl (Zs 4 rfl rfl (vt rfl)) fun g4=>Cv rfl (Zm 5 rfl rfl Z27) fun g5=>Nl<|SR<|Zk lWide_0 Z4b rfl<|Ld Z1g 3 rfl<|Zk lWide_0 Z4b rfl<|Ld Z1g 4 rfl<|Ac (Zal rfl rfl (vt rfl) (vt rfl)) rfl<|Zk lWide_1 Z4d rfl<|Ld Z1g 3 rfl<|Zk lWide_1 Z4d rfl<|Ld Z1g 4 rfl<|Ac (Zal rfl rfl (vt rfl) (vt rfl)) rfl<|Ac (opb (⟨(a1.Hi&&& b2.Hi),(a1.Lo&&& b2.Lo)⟩:Wide) Z27 rfl Z4h (pc Z7q (vt rfl)<|pc Z84 (vt rfl)<|pn rfl)) rfl<|Zg Zw 5 rfl<|Nl<|rt ?_
 cases h;exact Zd Tryz.results284 rfl (Zx rfl (i:=5) rfl Zw)
def Za0 (t1:Tern):Option Tern:=
 (Zf5 t1.Value t1.Mask).bind fun x4=>some (⟨x4,t1.Mask⟩:Tern)
theorem Zn1:Q1 Tryz.prog 215 (rd Z4) (rd Z4) Za0:=fun t1 r h=>I0 Tryz.func215 rfl Tryz.ntmps215 rfl fun w H Z=>by
 unfold Za0 at h
 refine SR<|Cv rfl (Zs 2 rfl rfl (vt rfl)) fun g2=>Cv rfl (Zm 3 rfl rfl Z1n) fun g3=>Nl<|sq ?_
 obtain ⟨x4,hx4,h⟩:=Z7 h
 refine AR Z00 (by kernel_rfl)<|SFd lTern_0 Z2x rfl<|Zo Zw 2 rfl<|SFd lTern_1 Z2c rfl<|Zo Zw 2 rfl<|SCl [4,6] (Zq5 _ _ _ hx4) Zp7 rfl<|SFd lTern_1 Z2c rfl<|Zo Zw 2 rfl<|Sd (lo [7,9] [] rfl fun S hs hr=>opb (⟨x4,t1.Mask⟩:Tern) Z1n rfl Z4c (pc Z5n (vh hs 7 rfl rfl)<|pc Z5s (vh hs 9 rfl rfl)<|pn rfl))<|SSt Z01 3 rfl<|Sn<|rt ?_
 cases h;exact Zd Tryz.results215 rfl (Zx rfl (i:=3) rfl Z01)
def Zcy:Nat→Za→Int→Option Za
 | 0,_,_=>none
 | m8+1,b6,x7=>(bif (decide (x7<24)) then (chk 24 x7).bind fun j9=>(Za0 (Vector.get b6 j9)).bind fun x10=>(chk 24 x7).bind fun j11=>(Zcy m8) (Vector.set b6 j11.1 x10 j11.2) (IntKind.i64.wrap (x7+1)) else some b6)
def Zm6 (x1:Za):Option Za:=
 Zcy (((24:Int) - 0).toNat+1) x1 0
theorem Ypq:Q1 Tryz.prog 217 (rd (Z3 24 Z4)) (rd (Z3 24 Z4)) Zm6:=fun x1 r h=>I0 Tryz.func217 rfl Tryz.ntmps217 rfl fun w H Z=>by
 unfold Zm6 at h
 refine SR<|Cv rfl (Zs 2 rfl rfl (vt rfl)) fun g2=>Cv rfl (Zm 3 rfl rfl Z1i) fun g3=>Nl<|sq<|SR<|Ak rfl<|Nl<|bk<|LG (d:=[]) (ν:=Nat×Za×Int) (fun (m8,b6,x7)=>(True∧Zcy m8 b6 x7=some r,m8,[(1,Zc g2 (Lens.id (Z3 24 Z4))),(2,Zc g3 (Lens.id (Z3 24 Z4))),(3,rd (Z0 .i64) x7)],[(2,Zh g2 123 (Z3 24 Z4) b6),(3,Zh g3 123 (Z3 24 Z4) (Vector.replicate 24 zTern))])) ((((24:Int) - 0).toNat+1),x1,0) ⟨trivial,h⟩ (FX rfl) ?_
 rintro ⟨m8,b6,x7⟩ ⟨hsf1,h⟩
 dsimp only at h ⊢
 cases m8 with
 | zero=>cases h
 | succ m8=>
  unfold Zcy at h
  refine sq<|SR<|Md rfl<|Ac (Zj rfl rfl (vt rfl) (vk rfl)) rfl<|Nl<|Cq rfl h (fun h=>?_) (fun h=>?_)
  ·refine sk<|sq<|bk ?_
   obtain ⟨j9,hj9,x10,hx10,j11,hj11,h⟩:=bs3 h
   refine Rg<|Md rfl<|Md rfl<|Ac (Z13 rfl rfl Z2l (vt rfl) (vt rfl) hj9) rfl<|Ld Z01 2 rfl<|Cl [11] (Zn1 _ _ hx10) Zms rfl<|Ac (Z13 rfl rfl Z2l (vt rfl) (vt rfl) hj11) rfl<|Zg Z01 2 rfl<|Nl<|Rg<|Md rfl<|Ac (Z06 rfl rfl (vt rfl) (vk rfl)) rfl<|As rfl<|Nl ?_
   exact ⟨(_,_,_),Nat.lt_succ_self _,⟨trivial,h⟩,FX rfl⟩
  ·refine xt<|SR<|Ld Z02 2 rfl<|Zg Z02 3 rfl<|Nl<|rt ?_
   cases h;exact Zd Tryz.results217 rfl (Zx rfl (i:=3) rfl Z02)
def Zkp (x1:Flow):Option Za:=
 (Zsb x1.Match).bind fun x4=>(Zm6 x4).bind fun x5=>some x5
theorem Yqm:Q1 Tryz.prog 130 (rd Z03) (rd (Z3 24 Z4)) Zkp:=fun x1 r h=>I0 Tryz.func130 rfl Tryz.ntmps130 rfl fun w H Z=>by
 unfold Zkp at h
 refine SR<|Cv rfl (Zs 2 rfl rfl (vt rfl)) fun g2=>Cv rfl (Zm 3 rfl rfl Z1i) fun g3=>Nl<|sq ?_
 obtain ⟨x4,hx4,x5,hx5,h⟩:=bs2 h
 refine Rg<|Zk lFlow_5 Zln rfl<|Ld Zce 2 rfl<|Cl [4] (Yms _ _ hx4) Yi5 rfl<|Cl [5] (Ypq _ _ hx5) Yjw rfl<|Zg Z02 3 rfl<|Nl<|rt ?_
 cases h;exact Zd Tryz.results130 rfl (Zx rfl (i:=3) rfl Z02)
def Zq8 (a1:Wide)(b2:Wide):Option Wide:=
 some (⟨(a1.Hi ^^^ b2.Hi),(a1.Lo ^^^ b2.Lo)⟩:Wide)
theorem Yk5:Q2 Tryz.prog 296 (rd Zn) (rd Zn) (rd Zn) Zq8:=fun a1 b2 r h=>I0 Tryz.func296 rfl Tryz.ntmps296 rfl fun w H Z=>by
 unfold Zq8 at h
 refine SR<|Cv rfl (Zs 3 rfl rfl (vt rfl)) fun g3=>Cv rfl (Zs 4 rfl rfl (vt rfl)) fun g4=>Cv rfl (Zm 5 rfl rfl Z27) fun g5=>Nl<|SR<|Zk lWide_0 Z4b rfl<|Ld Z1g 3 rfl<|Zk lWide_0 Z4b rfl<|Ld Z1g 4 rfl<|Ac (Zph rfl rfl (vt rfl) (vt rfl)) rfl<|Zk lWide_1 Z4d rfl<|Ld Z1g 3 rfl<|Zk lWide_1 Z4d rfl<|Ld Z1g 4 rfl<|Ac (Zph rfl rfl (vt rfl) (vt rfl)) rfl<|Ac (opb (⟨(a1.Hi ^^^ b2.Hi),(a1.Lo ^^^ b2.Lo)⟩:Wide) Z27 rfl Z4h (pc Z7q (vt rfl)<|pc Z84 (vt rfl)<|pn rfl)) rfl<|Zg Zw 5 rfl<|Nl<|rt ?_
 cases h;exact Zd Tryz.results296 rfl (Zx rfl (i:=5) rfl Zw)
end Go.Proofs.YtinplddjjalohaaGreatDoor.W
set_option maxHeartbeats 1000000
set_option maxRecDepth 4000
namespace Go.Proofs.YtinplddjjalohaaGreatDoor.W
open Go Go.Wb
theorem Yrt:Ent Tryz.prog 296:=Ent.mk Tryz.func296 rfl rfl
theorem Y6x:Ent Tryz.prog 295:=Ent.mk Tryz.func295 rfl rfl
theorem Y5v:Ent Tryz.prog 214:=Ent.mk Tryz.func214 rfl rfl
theorem Zzt:Ent Tryz.prog 216:=Ent.mk Tryz.func216 rfl rfl
theorem Zv2:Ent Tryz.prog 298:=Ent.mk Tryz.func298 rfl rfl
theorem Yb2:Ent Tryz.prog 286:=Ent.mk Tryz.func286 rfl rfl
def Zg7 (a1:Wide):Option Bool:=
 some ((decide (a1.Hi=(0:BitVec 64)))&&(decide (a1.Lo=(0:BitVec 64))))
theorem Y8h:Q1 Tryz.prog 295 (rd Zn) (rd Z6) Zg7:=fun a1 r h=>I0 Tryz.func295 rfl Tryz.ntmps295 rfl fun w H Z=>by
 unfold Zg7 at h
 refine SR<|Cv rfl (Zs 2 rfl rfl (vt rfl)) fun g2=>Ab rfl<|Nl<|SR<|Zk lWide_0 Z4b rfl<|Ld Z1g 2 rfl<|Ac (Zsj rfl rfl (vt rfl) (vku (0:BitVec 64) rfl)) rfl<|Md rfl<|Gd rfl (fun hq=>Z2n lWide_1 rfl rfl Z4d (vt rfl))<|Gd rfl (fun hq=>Z1s rfl rfl Z1g (Zi rfl hq) (i:=2) rfl)<|Gd rfl (fun hq=>Zsj rfl rfl (Zi rfl hq) (vku (0:BitVec 64) rfl))<|Ac (Z1k rfl rfl (vt rfl) (vt rfl)) rfl<|As rfl<|Nl<|rt ?_
 cases h;exact Zd Tryz.results295 rfl (Z5 rfl)
def Ziz (a1:Tern)(b2:Tern):Option (Tern×Bool):=
 (Zf5 a1.Mask b2.Mask).bind fun x6=>(Zq8 a1.Value b2.Value).bind fun x8=>(Zf5 x8 x6).bind fun x9=>(Zg7 x9).bind fun x10=>(bif (!x10) then some ((⟨Z0p,Z0p⟩:Tern),false) else (Za0 a1).bind fun x11=>(Za0 b2).bind fun x12=>(Zby x11.Value x12.Value).bind fun x13=>(Zby x11.Mask x12.Mask).bind fun x14=>some ((⟨x13,x14⟩:Tern),true))
theorem Y2w:Q2 Tryz.prog 214 (rd Z4) (rd Z4) (fun r=>Z10 (rd Z4 r.1) (rd Z6 r.2)) Ziz:=fun a1 b2 r h=>I0 Tryz.func214 rfl Tryz.ntmps214 rfl fun w H Z=>by
 unfold Ziz at h
 refine SR<|Cv rfl (Zs 3 rfl rfl (vt rfl)) fun g3=>Cv rfl (Zs 4 rfl rfl (vt rfl)) fun g4=>Cv rfl (Zm 5 rfl rfl Z1n) fun g5=>Ab rfl<|Nl<|sq ?_
 obtain ⟨x6,hx6,h⟩:=Z7 h
 refine Rg<|Zk lTern_1 Z2c rfl<|Ld Zw 3 rfl<|Zk lTern_1 Z2c rfl<|Ld Zw 4 rfl<|Cl [8,10] (Zq5 _ _ _ hx6) Zp7 rfl<|Cv rfl (Zm 7 rfl rfl Z27) fun g7=>Zg Zw 7 rfl<|Nl<|sq<|sq ?_
 obtain ⟨x8,hx8,x9,hx9,x10,hx10,h⟩:=bs3 h
 refine AR Z00 (by kernel_rfl)<|SFd lTern_0 Z2x rfl<|Zo Zw 3 rfl<|SFd lTern_0 Z2x rfl<|Zo Zw 4 rfl<|SCl [13,15] (Yk5 _ _ _ hx8) Yrt rfl<|Zo Zw 7 rfl<|SCl [16,17] (Zq5 _ _ _ hx9) Zp7 rfl<|SCl [18] (Y8h _ _ hx10) Y6x rfl<|Sd (lo [19] [] rfl fun S hs hr=>Z0y rfl rfl (vh hs 19 rfl rfl))<|Sn<|Cq rfl h (fun h=>?_) (fun h=>?_)
 ·refine SR<|Ac (opb (⟨Z0p,Z0p⟩:Tern) Z1n rfl Z4c (pn rfl)) rfl<|Zg Z01 5 rfl<|Ab rfl<|Nl<|rt ?_
  cases h;exact Z1d Tryz.results214 rfl (Zx rfl (i:=5) rfl Z01) (Z5 rfl)
 ·refine sk<|sq ?_
  obtain ⟨x11,hx11,x12,hx12,h⟩:=bs2 h
  refine AR Z00 (by kernel_rfl)<|Zo Z01 3 rfl<|SCl [22] (Zn1 _ _ hx11) Zms rfl<|Zo Z01 4 rfl<|SCl [24] (Zn1 _ _ hx12) Zms rfl<|SSt Z01 3 rfl<|SSt Z01 4 rfl<|Sn<|sq ?_
  obtain ⟨x13,hx13,x14,hx14,h⟩:=bs2 h
  refine AR Z00 (by kernel_rfl)<|SFd lTern_0 Z2x rfl<|Zo Zw 3 rfl<|SFd lTern_0 Z2x rfl<|Zo Zw 4 rfl<|SCl [27,29] (Zk2 _ _ _ hx13) Znz rfl<|SFd lTern_1 Z2c rfl<|Zo Zw 3 rfl<|SFd lTern_1 Z2c rfl<|Zo Zw 4 rfl<|SCl [32,34] (Zk2 _ _ _ hx14) Znz rfl<|Sd (lo [30,35] [] rfl fun S hs hr=>opb (⟨x13,x14⟩:Tern) Z1n rfl Z4c (pc Z5n (vh hs 30 rfl rfl)<|pc Z5s (vh hs 35 rfl rfl)<|pn rfl))<|SSt Z01 5 rfl<|Sd (lo [] [] rfl fun S hs hr=>Zv (A:=rd Z6 true) rfl rfl vb)<|Sn<|rt ?_
  cases h;exact Z1d Tryz.results214 rfl (Zx rfl (i:=5) rfl Z01) (Z5 rfl)
def Zm4 (a1:Wide)(b2:Wide):Option Wide:=
 some (⟨(a1.Hi&&& ~~~b2.Hi),(a1.Lo&&& ~~~b2.Lo)⟩:Wide)
theorem Zzw:Q2 Tryz.prog 216 (rd Zn) (rd Zn) (rd Zn) Zm4:=fun a1 b2 r h=>I0 Tryz.func216 rfl Tryz.ntmps216 rfl fun w H Z=>by
 unfold Zm4 at h
 refine SR<|Cv rfl (Zs 3 rfl rfl (vt rfl)) fun g3=>Cv rfl (Zs 4 rfl rfl (vt rfl)) fun g4=>Cv rfl (Zm 5 rfl rfl Z27) fun g5=>Nl<|SR<|Zk lWide_0 Z4b rfl<|Ld Z1g 3 rfl<|Zk lWide_0 Z4b rfl<|Ld Z1g 4 rfl<|Ac (Zqt rfl rfl (vt rfl) (vt rfl)) rfl<|Zk lWide_1 Z4d rfl<|Ld Z1g 3 rfl<|Zk lWide_1 Z4d rfl<|Ld Z1g 4 rfl<|Ac (Zqt rfl rfl (vt rfl) (vt rfl)) rfl<|Ac (opb (⟨(a1.Hi&&& ~~~b2.Hi),(a1.Lo&&& ~~~b2.Lo)⟩:Wide) Z27 rfl Z4h (pc Z7q (vt rfl)<|pc Z84 (vt rfl)<|pn rfl)) rfl<|Zg Zw 5 rfl<|Nl<|rt ?_
 cases h;exact Zd Tryz.results216 rfl (Zx rfl (i:=5) rfl Zw)
def Ze9 (x1:Za)(x2:Za):Nat→Za→Int→Option (Za×Bool)
 | 0,_,_=>none
 | m11+1,b9,x10=>(bif (decide (x10<24)) then (chk 24 x10).bind fun j12=>(chk 24 x10).bind fun j13=>(Ziz (Vector.get x1 j12) (Vector.get x2 j13)).bind fun x14=>(bif (!x14.2) then some ((Vector.replicate 24 zTern),false) else (chk 24 x10).bind fun j16=>(chk 24 x10).bind fun j17=>(chk 24 x10).bind fun j18=>(Zm4 ((Vector.get x2 j17).Mask) ((Vector.get x1 j18).Mask)).bind fun x19=>(Za0 (⟨(Vector.get x2 j16).Value,x19⟩:Tern)).bind fun x20=>(chk 24 x10).bind fun j21=>(Ze9 x1 x2 m11) (Vector.set b9 j21.1 x20 j21.2) (IntKind.i64.wrap (x10+1))) else some (b9,true))
def Znd (x1:Za)(x2:Za):Option (Za×Bool):=
 Ze9 x1 x2 (((24:Int) - 0).toNat+1) (Vector.replicate 24 zTern) 0
theorem Ywl:Q2 Tryz.prog 129 (rd (Z3 24 Z4)) (rd (Z3 24 Z4)) (fun r=>Z10 (rd (Z3 24 Z4) r.1) (rd Z6 r.2)) Znd:=fun x1 x2 r h=>I0 Tryz.func129 rfl Tryz.ntmps129 rfl fun w H Z=>by
 unfold Znd at h
 refine SR<|Cv rfl (Zs 3 rfl rfl (vt rfl)) fun g3=>Cv rfl (Zs 4 rfl rfl (vt rfl)) fun g4=>Cv rfl (Zm 5 rfl rfl Z1i) fun g5=>Ab rfl<|Nl<|SR<|Ac (Z1m (ps:=[]) (x:=(Vector.replicate 24 zTern)) rfl rfl rfl (by kernel_rfl) Z1i rfl) rfl<|Cv rfl (Zm 7 rfl rfl Z1i) fun g6=>Zg Z02 7 rfl<|Nl<|sq<|SR<|Ak rfl<|Nl<|bk<|LG (d:=[]) (ν:=Nat×Za×Int) (fun (m11,b9,x10)=>(True∧Ze9 x1 x2 m11 b9 x10=some r,m11,[(2,Zc g3 (Lens.id (Z3 24 Z4))),(3,Zc g4 (Lens.id (Z3 24 Z4))),(4,Zc g5 (Lens.id (Z3 24 Z4))),(6,Zc g6 (Lens.id (Z3 24 Z4))),(7,rd (Z0 .i64) x10)],[(3,Zh g3 131 (Z3 24 Z4) x1),(4,Zh g4 123 (Z3 24 Z4) x2),(5,Zh g5 123 (Z3 24 Z4) (Vector.replicate 24 zTern)),(7,Zh g6 123 (Z3 24 Z4) b9)])) ((((24:Int) - 0).toNat+1),(Vector.replicate 24 zTern),0) ⟨trivial,h⟩ (FX rfl) ?_
 rintro ⟨m11,b9,x10⟩ ⟨hsf1,h⟩
 dsimp only at h ⊢
 cases m11 with
 | zero=>cases h
 | succ m11=>
  unfold Ze9 at h
  refine sq<|SR<|Md rfl<|Ac (Zj rfl rfl (vt rfl) (vk rfl)) rfl<|Nl<|Cq rfl h (fun h=>?_) (fun h=>?_)
  ·refine sk<|sq<|bk<|sq<|sq ?_
   obtain ⟨j12,hj12,j13,hj13,x14,hx14,h⟩:=bs3 h
   refine AR Z00 (by kernel_rfl)<|Zt rfl<|Sd (lo [2,16] [] rfl fun S hs hr=>Z13 rfl rfl Z47 (vh hs 2 rfl rfl) (vh hs 16 rfl rfl) hj12)<|Zo Z01 3 rfl<|Zt rfl<|Sd (lo [3,19] [] rfl fun S hs hr=>Z13 rfl rfl Z2l (vh hs 3 rfl rfl) (vh hs 19 rfl rfl) hj13)<|Zo Z01 4 rfl<|SCl [18,21] (Y2w _ _ _ hx14) Y5v rfl<|Sd (lo [22] [] rfl fun S hs hr=>Zq (A:=Z10 (rd Z4 x14.1) (rd Z6 x14.2)) rfl rfl (vh hs 22 rfl rfl))<|Sd (lo [15] [] rfl fun S hs hr=>Z1c rfl rfl (vh hs 15 rfl rfl))<|Sd (lo [15] [] rfl fun S hs hr=>Z18 rfl rfl (vh hs 15 rfl rfl))<|Sd (Z19 (us:=[(8,Z2t 121 Z4 zTern)]) (ur:=[]) [] [] rfl fun S hs hr=>Z7k rfl rfl rfl Z1n)<|Sd (Z19 (us:=[(8,Z2t 121 Z4 x14.1)]) (ur:=[]) [8,23] [] rfl fun S hs hr=>Z70 rfl rfl Z01 ((hs 8 rfl).trans rfl) (vh hs 23 rfl rfl))<|SAs rfl<|Sn<|AW.unpackP 8 9 rfl rfl fun g15=>SR<|Md rfl<|Ac (Z0y rfl rfl (vt rfl)) rfl<|Nl<|Cq rfl h (fun h=>?_) (fun h=>?_)
   ·refine SR<|Ac (Z1m (ps:=[]) (x:=(Vector.replicate 24 zTern)) rfl rfl rfl (by kernel_rfl) Z1i rfl) rfl<|Zg Z02 5 rfl<|Ab rfl<|Nl<|rt ?_
    cases h;exact Z1d Tryz.results129 rfl (Zx rfl (i:=5) rfl Z02) (Z5 rfl)
   ·refine sk ?_
    obtain ⟨j16,hj16,j17,hj17,j18,hj18,x19,hx19,h⟩:=bs4 h
    obtain ⟨x20,hx20,j21,hj21,h⟩:=bs2 h
    refine AR Z00 (by kernel_rfl)<|Zt rfl<|Zt rfl<|Sd (lo [3,29] [] rfl fun S hs hr=>Z13 rfl rfl Z2l (vh hs 3 rfl rfl) (vh hs 29 rfl rfl) hj16)<|SFd lTern_0 Z2x rfl<|Zo Zw 4 rfl<|Zt rfl<|Sd (lo [3,33] [] rfl fun S hs hr=>Z13 rfl rfl Z2l (vh hs 3 rfl rfl) (vh hs 33 rfl rfl) hj17)<|SFd lTern_1 Z2c rfl<|Zo Zw 4 rfl<|Zt rfl<|Sd (lo [2,37] [] rfl fun S hs hr=>Z13 rfl rfl Z47 (vh hs 2 rfl rfl) (vh hs 37 rfl rfl) hj18)<|SFd lTern_1 Z2c rfl<|Zo Zw 3 rfl<|SCl [36,40] (Zzw _ _ _ hx19) Zzt rfl<|Sd (lo [32,41] [] rfl fun S hs hr=>opb (⟨(Vector.get x2 j16).Value,x19⟩:Tern) Z1n rfl Z4c (pc Z5n (vh hs 32 rfl rfl)<|pc Z5s (vh hs 41 rfl rfl)<|pn rfl))<|SCl [42] (Zn1 _ _ hx20) Zms rfl<|Sd (lo [6,28] [] rfl fun S hs hr=>Z13 rfl rfl Z2l (vh hs 6 rfl rfl) (vh hs 28 rfl rfl) hj21)<|SSt Z01 7 rfl<|Sn<|Rg<|Md rfl<|Ac (Z06 rfl rfl (vt rfl) (vk rfl)) rfl<|As rfl<|Nl ?_
    exact ⟨(_,_,_),Nat.lt_succ_self _,⟨trivial,h⟩,FX rfl⟩
  ·refine xt<|SR<|Ld Z02 7 rfl<|Zg Z02 5 rfl<|Ab rfl<|Nl<|rt ?_
   cases h;exact Z1d Tryz.results129 rfl (Zx rfl (i:=5) rfl Z02) (Z5 rfl)
def Zdk (a1:Za)(b2:Za):Nat→Za→Int→Option (Za×Bool)
 | 0,_,_=>none
 | m11+1,b9,x10=>(bif (decide (x10<24)) then (chk 24 x10).bind fun j12=>(chk 24 x10).bind fun j13=>(Ziz (Vector.get a1 j12) (Vector.get b2 j13)).bind fun x14=>(bif (!x14.2) then some ((Vector.replicate 24 zTern),false) else (chk 24 x10).bind fun j16=>(Zdk a1 b2 m11) (Vector.set b9 j16.1 x14.1 j16.2) (IntKind.i64.wrap (x10+1))) else some (b9,true))
def Zgz (a1:Za)(b2:Za):Option (Za×Bool):=
 Zdk a1 b2 (((24:Int) - 0).toNat+1) (Vector.replicate 24 zTern) 0
theorem Y35:Q2 Tryz.prog 131 (rd (Z3 24 Z4)) (rd (Z3 24 Z4)) (fun r=>Z10 (rd (Z3 24 Z4) r.1) (rd Z6 r.2)) Zgz:=fun a1 b2 r h=>I0 Tryz.func131 rfl Tryz.ntmps131 rfl fun w H Z=>by
 unfold Zgz at h
 refine SR<|Cv rfl (Zs 3 rfl rfl (vt rfl)) fun g3=>Cv rfl (Zs 4 rfl rfl (vt rfl)) fun g4=>Cv rfl (Zm 5 rfl rfl Z1i) fun g5=>Ab rfl<|Nl<|SR<|Ac (Z1m (ps:=[]) (x:=(Vector.replicate 24 zTern)) rfl rfl rfl (by kernel_rfl) Z1i rfl) rfl<|Cv rfl (Zm 7 rfl rfl Z1i) fun g6=>Zg Z02 7 rfl<|Nl<|sq<|SR<|Ak rfl<|Nl<|bk<|LG (d:=[]) (ν:=Nat×Za×Int) (fun (m11,b9,x10)=>(True∧Zdk a1 b2 m11 b9 x10=some r,m11,[(2,Zc g3 (Lens.id (Z3 24 Z4))),(3,Zc g4 (Lens.id (Z3 24 Z4))),(4,Zc g5 (Lens.id (Z3 24 Z4))),(6,Zc g6 (Lens.id (Z3 24 Z4))),(7,rd (Z0 .i64) x10)],[(3,Zh g3 123 (Z3 24 Z4) a1),(4,Zh g4 123 (Z3 24 Z4) b2),(5,Zh g5 123 (Z3 24 Z4) (Vector.replicate 24 zTern)),(7,Zh g6 123 (Z3 24 Z4) b9)])) ((((24:Int) - 0).toNat+1),(Vector.replicate 24 zTern),0) ⟨trivial,h⟩ (FX rfl) ?_
 rintro ⟨m11,b9,x10⟩ ⟨hsf1,h⟩
 dsimp only at h ⊢
 cases m11 with
 | zero=>cases h
 | succ m11=>
  unfold Zdk at h
  refine sq<|SR<|Md rfl<|Ac (Zj rfl rfl (vt rfl) (vk rfl)) rfl<|Nl<|Cq rfl h (fun h=>?_) (fun h=>?_)
  ·refine sk<|sq<|bk<|sq ?_
   obtain ⟨j12,hj12,j13,hj13,x14,hx14,h⟩:=bs3 h
   refine AR Z00 (by kernel_rfl)<|Zt rfl<|Sd (lo [2,16] [] rfl fun S hs hr=>Z13 rfl rfl Z2l (vh hs 2 rfl rfl) (vh hs 16 rfl rfl) hj12)<|Zo Z01 3 rfl<|Zt rfl<|Sd (lo [3,19] [] rfl fun S hs hr=>Z13 rfl rfl Z2l (vh hs 3 rfl rfl) (vh hs 19 rfl rfl) hj13)<|Zo Z01 4 rfl<|SCl [18,21] (Y2w _ _ _ hx14) Y5v rfl<|Sd (lo [22] [] rfl fun S hs hr=>Zq (A:=Z10 (rd Z4 x14.1) (rd Z6 x14.2)) rfl rfl (vh hs 22 rfl rfl))<|Sd (lo [15] [] rfl fun S hs hr=>Z1c rfl rfl (vh hs 15 rfl rfl))<|Sd (lo [15] [] rfl fun S hs hr=>Z18 rfl rfl (vh hs 15 rfl rfl))<|Sd (Z19 (us:=[(8,Z2t 121 Z4 zTern)]) (ur:=[]) [] [] rfl fun S hs hr=>Z7k rfl rfl rfl Z1n)<|Sd (Z19 (us:=[(8,Z2t 121 Z4 x14.1)]) (ur:=[]) [8,23] [] rfl fun S hs hr=>Z70 rfl rfl Z01 ((hs 8 rfl).trans rfl) (vh hs 23 rfl rfl))<|SAs rfl<|Sn<|AW.unpackP 8 9 rfl rfl fun g15=>sq<|SR<|Md rfl<|Ac (Z0y rfl rfl (vt rfl)) rfl<|Nl<|Cq rfl h (fun h=>?_) (fun h=>?_)
   ·refine SR<|Ac (Z1m (ps:=[]) (x:=(Vector.replicate 24 zTern)) rfl rfl rfl (by kernel_rfl) Z1i rfl) rfl<|Zg Z02 5 rfl<|Ab rfl<|Nl<|rt ?_
    cases h;exact Z1d Tryz.results131 rfl (Zx rfl (i:=5) rfl Z02) (Z5 rfl)
   ·refine sk ?_
    obtain ⟨j16,hj16,h⟩:=Z7 h
    refine Rg<|Md rfl<|Ld Z01 9 rfl<|Ac (Z13 rfl rfl Z2l (vt rfl) (vt rfl) hj16) rfl<|Zg Z01 7 rfl<|Nl<|Rg<|Md rfl<|Ac (Z06 rfl rfl (vt rfl) (vk rfl)) rfl<|As rfl<|Nl ?_
    exact ⟨(_,_,_),Nat.lt_succ_self _,⟨trivial,h⟩,FX rfl⟩
  ·refine xt<|SR<|Ld Z02 7 rfl<|Zg Z02 5 rfl<|Ab rfl<|Nl<|rt ?_
   cases h;exact Z1d Tryz.results131 rfl (Zx rfl (i:=5) rfl Z02) (Z5 rfl)
def Zg8 (l1:(List Inst))(k2:Int):Nat→Int→Option (Inst×Bool)
 | 0,_=>none
 | m6+1,i5=>(bif (decide (i5<(l1.length:Int))) then (lget l1 i5).bind fun x7=>(bif (decide (x7.Kind=k2)) then (lget l1 i5).bind fun x8=>some (x8,true) else (Zg8 l1 k2 m6) (IntKind.i64.wrap (i5+1))) else some ((⟨0,0,Z0p,Z0p,[]⟩:Inst),false))
def Zaw (l1:(List Inst))(k2:Int):Option (Inst×Bool):=
 Zg8 l1 k2 ((((l1.length:Int):Int) - 0).toNat+1) 0
theorem Zn5:Q2 Tryz.prog 170 (rd (Z1 Z0a)) (rd (Z0 .i64)) (fun r=>Z10 (rd Z0a r.1) (rd Z6 r.2)) Zaw:=fun l1 k2 r h=>I0 Tryz.func170 rfl Tryz.ntmps170 rfl fun w H Z=>by
 unfold Zaw at h
 refine SR<|Cv rfl (Zm 5 rfl rfl Z3f) fun g3=>Ab rfl<|Nl<|sq<|SR<|Ak rfl<|Nl<|bk<|LG (d:=[]) (ν:=Nat×Int) (fun (m6,i5)=>(True∧Zg8 l1 k2 m6 i5=some r,m6,[(0,rd (Z1 Z0a) l1),(1,rd (Z0 .i64) k2),(4,Zc g3 (Lens.id Z0a)),(6,rd (Z0 .i64) i5)],[(5,Zh g3 140 Z0a Zwf)])) (((((l1.length:Int):Int) - 0).toNat+1),0) ⟨trivial,h⟩ (FX rfl) ?_
 rintro ⟨m6,i5⟩ ⟨hsf1,h⟩
 dsimp only at h ⊢
 cases m6 with
 | zero=>cases h
 | succ m6=>
  unfold Zg8 at h
  refine sq<|SR<|Md rfl<|Md rfl<|Ac (Z0i rfl rfl Z4p (vt rfl)) rfl<|Ac (Zj rfl rfl (vt rfl) (vt rfl)) rfl<|Nl<|Cq rfl h (fun h=>?_) (fun h=>?_)
  ·refine sk<|sq<|bk<|sq ?_
   obtain ⟨x7,hx7,h⟩:=Z7 h
   refine Rg<|Md rfl<|Md rfl<|Ac (Z0k rfl rfl Z4p (vt rfl) (vt rfl) hx7) rfl<|Fp Ze4 Zf7 rfl<|Lp1 Zp rfl<|Md rfl<|Ac (Z0j rfl rfl (vt rfl) (vt rfl)) rfl<|Nl<|Cq rfl h (fun h=>?_) (fun h=>?_)
   ·refine sq ?_
    obtain ⟨x8,hx8,h⟩:=Z7 h
    refine Rg<|Md rfl<|Md rfl<|Ac (Z0k rfl rfl Z4p (vt rfl) (vt rfl) hx8) rfl<|Lp1 Z25 rfl<|Zg Z25 5 rfl<|Ab rfl<|Nl<|rt ?_
    cases h;exact Z1d Tryz.results170 rfl (Zx rfl (i:=5) rfl Z25) (Z5 rfl)
   ·refine sk<|Rg<|Md rfl<|Ac (Z06 rfl rfl (vt rfl) (vk rfl)) rfl<|As rfl<|Nl ?_
    exact ⟨(_,_),Nat.lt_succ_self _,⟨trivial,h⟩,FX rfl⟩
  ·refine xt<|SR<|Ac (opb (⟨0,0,Z0p,Z0p,[]⟩:Inst) Z3f rfl Y86 (pn rfl)) rfl<|Zg Z25 5 rfl<|Ab rfl<|Nl<|rt ?_
   cases h;exact Z1d Tryz.results170 rfl (Zx rfl (i:=5) rfl Z25) (Z5 rfl)
def Zd6:Nat→Za→Int→Option Za
 | 0,_,_=>none
 | m8+1,b6,x7=>(bif (decide (x7<24)) then (chk 24 x7).bind fun j9=>(Za0 (Vector.get b6 j9)).bind fun x10=>(chk 24 x7).bind fun j11=>(Zd6 m8) (Vector.set b6 j11.1 x10 j11.2) (IntKind.i64.wrap (x7+1)) else some b6)
def Zdi (x1:Za):Option Za:=
 Zd6 (((24:Int) - 0).toNat+1) x1 0
theorem Zt1:Q1 Tryz.prog 298 (rd (Z3 24 Z4)) (rd (Z3 24 Z4)) Zdi:=fun x1 r h=>I0 Tryz.func298 rfl Tryz.ntmps298 rfl fun w H Z=>by
 unfold Zdi at h
 refine SR<|Cv rfl (Zs 2 rfl rfl (vt rfl)) fun g2=>Cv rfl (Zm 3 rfl rfl Z3p) fun g3=>Nl<|sq<|SR<|Ak rfl<|Nl<|bk<|LG (d:=[]) (ν:=Nat×Za×Int) (fun (m8,b6,x7)=>(True∧Zd6 m8 b6 x7=some r,m8,[(1,Zc g2 (Lens.id (Z3 24 Z4))),(2,Zc g3 (Lens.id (Z3 24 Z4))),(3,rd (Z0 .i64) x7)],[(2,Zh g2 131 (Z3 24 Z4) b6),(3,Zh g3 131 (Z3 24 Z4) (Vector.replicate 24 zTern))])) ((((24:Int) - 0).toNat+1),x1,0) ⟨trivial,h⟩ (FX rfl) ?_
 rintro ⟨m8,b6,x7⟩ ⟨hsf1,h⟩
 dsimp only at h ⊢
 cases m8 with
 | zero=>cases h
 | succ m8=>
  unfold Zd6 at h
  refine sq<|SR<|Md rfl<|Ac (Zj rfl rfl (vt rfl) (vk rfl)) rfl<|Nl<|Cq rfl h (fun h=>?_) (fun h=>?_)
  ·refine sk<|sq<|bk ?_
   obtain ⟨j9,hj9,x10,hx10,j11,hj11,h⟩:=bs3 h
   refine Rg<|Md rfl<|Md rfl<|Ac (Z13 rfl rfl Z47 (vt rfl) (vt rfl) hj9) rfl<|Ld Z01 2 rfl<|Cl [11] (Zn1 _ _ hx10) Zms rfl<|Ac (Z13 rfl rfl Z47 (vt rfl) (vt rfl) hj11) rfl<|Zg Z01 2 rfl<|Nl<|Rg<|Md rfl<|Ac (Z06 rfl rfl (vt rfl) (vk rfl)) rfl<|As rfl<|Nl ?_
   exact ⟨(_,_,_),Nat.lt_succ_self _,⟨trivial,h⟩,FX rfl⟩
  ·refine xt<|SR<|Ld Z04 2 rfl<|Zg Z04 3 rfl<|Nl<|rt ?_
   cases h;exact Zd Tryz.results298 rfl (Zx rfl (i:=3) rfl Z04)
def Zdr (x7:Za):Nat→Za→Int→Option Za
 | 0,_,_=>none
 | m12+1,b10,x11=>(bif (decide (x11<24)) then (chk 24 x11).bind fun j13=>(chk 24 x11).bind fun j14=>(Zm4 ((Vector.get b10 j13).Value) ((Vector.get x7 j14).Mask)).bind fun x15=>(chk 24 x11).bind fun j16=>(Zby x15 ((Vector.get x7 j16).Value)).bind fun x17=>(chk 24 x11).bind fun j18=>(chk 24 x11).bind fun j19=>(Zby ((Vector.get b10 j18).Mask) ((Vector.get x7 j19).Mask)).bind fun x20=>(chk 24 x11).bind fun j21=>(Zdr x7 m12) (Vector.set b10 j21.1 (⟨x17,x20⟩:Tern) j21.2) (IntKind.i64.wrap (x11+1)) else some b10)
def Zfk (a1:Za)(b2:Za):Option Za:=
 (Zdi a1).bind fun x6=>(Zdi b2).bind fun x7=>Zdr x7 (((24:Int) - 0).toNat+1) x6 0
theorem Yax:Q2 Tryz.prog 286 (rd (Z3 24 Z4)) (rd (Z3 24 Z4)) (rd (Z3 24 Z4)) Zfk:=fun a1 b2 r h=>I0 Tryz.func286 rfl Tryz.ntmps286 rfl fun w H Z=>by
 unfold Zfk at h
 refine SR<|Cv rfl (Zs 3 rfl rfl (vt rfl)) fun g3=>Cv rfl (Zs 4 rfl rfl (vt rfl)) fun g4=>Cv rfl (Zm 5 rfl rfl Z3p) fun g5=>Nl<|sq ?_
 obtain ⟨x6,hx6,x7,hx7,h⟩:=bs2 h
 refine AR Z00 (by kernel_rfl)<|Zo Z04 3 rfl<|SCl [6] (Zt1 _ _ hx6) Zv2 rfl<|Zo Z04 4 rfl<|SCl [8] (Zt1 _ _ hx7) Zv2 rfl<|SSt Z04 3 rfl<|SSt Z04 4 rfl<|Sn<|sq<|SR<|Ak rfl<|Nl<|bk<|LG (d:=[]) (ν:=Nat×Za×Int) (fun (m12,b10,x11)=>(True∧Zdr x7 m12 b10 x11=some r,m12,[(2,Zc g3 (Lens.id (Z3 24 Z4))),(3,Zc g4 (Lens.id (Z3 24 Z4))),(4,Zc g5 (Lens.id (Z3 24 Z4))),(5,rd (Z0 .i64) x11)],[(3,Zh g3 131 (Z3 24 Z4) b10),(4,Zh g4 131 (Z3 24 Z4) x7),(5,Zh g5 131 (Z3 24 Z4) (Vector.replicate 24 zTern))])) ((((24:Int) - 0).toNat+1),x6,0) ⟨trivial,h⟩ (FX rfl) ?_
 rintro ⟨m12,b10,x11⟩ ⟨hsf1,h⟩
 dsimp only at h ⊢
 cases m12 with
 | zero=>cases h
 | succ m12=>
  unfold Zdr at h
  refine sq<|SR<|Md rfl<|Ac (Zj rfl rfl (vt rfl) (vk rfl)) rfl<|Nl<|Cq rfl h (fun h=>?_) (fun h=>?_)
  ·refine sk<|sq<|bk ?_
   obtain ⟨j13,hj13,j14,hj14,x15,hx15,j16,hj16,h⟩:=bs4 h
   obtain ⟨x17,hx17,j18,hj18,j19,hj19,x20,hx20,h⟩:=bs4 h
   obtain ⟨j21,hj21,h⟩:=Z7 h
   refine AR Z00 (by kernel_rfl)<|Zt rfl<|Zt rfl<|Sd (lo [2,15] [] rfl fun S hs hr=>Z13 rfl rfl Z47 (vh hs 2 rfl rfl) (vh hs 15 rfl rfl) hj13)<|SFd lTern_0 Z2x rfl<|Zo Zw 3 rfl<|Zt rfl<|Sd (lo [3,19] [] rfl fun S hs hr=>Z13 rfl rfl Z47 (vh hs 3 rfl rfl) (vh hs 19 rfl rfl) hj14)<|SFd lTern_1 Z2c rfl<|Zo Zw 4 rfl<|SCl [18,22] (Zzw _ _ _ hx15) Zzt rfl<|Zt rfl<|Sd (lo [3,24] [] rfl fun S hs hr=>Z13 rfl rfl Z47 (vh hs 3 rfl rfl) (vh hs 24 rfl rfl) hj16)<|SFd lTern_0 Z2x rfl<|Zo Zw 4 rfl<|SCl [23,27] (Zk2 _ _ _ hx17) Znz rfl<|Zt rfl<|Sd (lo [2,29] [] rfl fun S hs hr=>Z13 rfl rfl Z47 (vh hs 2 rfl rfl) (vh hs 29 rfl rfl) hj18)<|SFd lTern_1 Z2c rfl<|Zo Zw 3 rfl<|Zt rfl<|Sd (lo [3,33] [] rfl fun S hs hr=>Z13 rfl rfl Z47 (vh hs 3 rfl rfl) (vh hs 33 rfl rfl) hj19)<|SFd lTern_1 Z2c rfl<|Zo Zw 4 rfl<|SCl [32,36] (Zk2 _ _ _ hx20) Znz rfl<|Sd (lo [28,37] [] rfl fun S hs hr=>opb (⟨x17,x20⟩:Tern) Z1n rfl Z4c (pc Z5n (vh hs 28 rfl rfl)<|pc Z5s (vh hs 37 rfl rfl)<|pn rfl))<|Sd (lo [2,14] [] rfl fun S hs hr=>Z13 rfl rfl Z47 (vh hs 2 rfl rfl) (vh hs 14 rfl rfl) hj21)<|SSt Z01 3 rfl<|Sn<|Rg<|Md rfl<|Ac (Z06 rfl rfl (vt rfl) (vk rfl)) rfl<|As rfl<|Nl ?_
   exact ⟨(_,_,_),Nat.lt_succ_self _,⟨trivial,h⟩,FX rfl⟩
  ·refine xt<|SR<|Ld Z04 3 rfl<|Zg Z04 5 rfl<|Nl<|rt ?_
   cases h;exact Zd Tryz.results286 rfl (Zx rfl (i:=5) rfl Z04)
def Zhr (x1:Za)(b10:Za):Option Za:=
 (Zfk x1 b10).bind fun x11=>some x11
def Zaj (x1:Za)(x2:Int)(x3:Wide)(m4:Wide):Option Za:=
 (Zc8 x2).bind fun x12=>(bif x12 then (chk 24 x2).bind fun j13=>Zhr x1 (Vector.set (Vector.replicate 24 zTern) j13.1 (⟨x3,m4⟩:Tern) j13.2) else Zhr x1 (Vector.replicate 24 zTern))
theorem Zmo:Q4 Tryz.prog 207 (rd (Z3 24 Z4)) (rd (Z0 .i64)) (rd Zn) (rd Zn) (rd (Z3 24 Z4)) Zaj:=fun x1 x2 x3 m4 r h=>I0 Tryz.func207 rfl Tryz.ntmps207 rfl fun w H Z=>by
 unfold Zaj at h
 refine SR<|Cv rfl (Zs 5 rfl rfl (vt rfl)) fun g5=>Cv rfl (Zs 7 rfl rfl (vt rfl)) fun g6=>Cv rfl (Zs 8 rfl rfl (vt rfl)) fun g7=>Cv rfl (Zm 9 rfl rfl Z3p) fun g8=>Nl<|SR<|Ac (Z1m (ps:=[]) (x:=(Vector.replicate 24 zTern)) rfl rfl rfl (by kernel_rfl) Z3p rfl) rfl<|Cv rfl (Zm 10 rfl rfl Z3p) fun g9=>Zg Z04 10 rfl<|Nl ?_
 refine JN (d:=[]) (ν:=Za) (fun b10=>(Zhr x1 b10=some r,[(4,Zc g5 (Lens.id (Z3 24 Z4))),(8,Zc g8 (Lens.id (Z3 24 Z4))),(9,Zc g9 (Lens.id (Z3 24 Z4)))],[(5,Zh g5 131 (Z3 24 Z4) x1),(9,Zh g8 131 (Z3 24 Z4) (Vector.replicate 24 zTern)),(10,Zh g9 131 (Z3 24 Z4) b10)])) ?hx1 ?hy1
 case hy1=>
  intro b10 h
  dsimp only at h ⊢
  unfold Zhr at h
  refine sq ?_
  obtain ⟨x11,hx11,h⟩:=Z7 h
  refine Rg<|Ld Z04 5 rfl<|Ld Z04 10 rfl<|Cl [18,19] (Yax _ _ _ hx11) Yb2 rfl<|Zg Z04 9 rfl<|Nl<|rt ?_
  cases h;exact Zd Tryz.results207 rfl (Zx rfl (i:=9) rfl Z04)
 case hx1=>
  refine sq ?_
  obtain ⟨x12,hx12,h⟩:=Z7 h
  refine Rg<|Md rfl<|Cl [11] (Zsm _ _ hx12) Zyu rfl<|Nl<|Cq rfl h (fun h=>?_) (fun h=>?_)
  ·obtain ⟨j13,hj13,h⟩:=Z7 h
   refine Rg<|Md rfl<|Ld Zw 7 rfl<|Ld Zw 8 rfl<|Ac (opb (⟨x3,m4⟩:Tern) Z1n rfl Z4c (pc Z5n (vt rfl)<|pc Z5s (vt rfl)<|pn rfl)) rfl<|Ac (Z13 rfl rfl Z47 (vt rfl) (vt rfl) hj13) rfl<|Zg Z01 10 rfl<|Nl ?_
   exact ⟨_,h,FX rfl⟩
  ·refine sk ?_
   exact ⟨_,h,FX rfl⟩
end Go.Proofs.YtinplddjjalohaaGreatDoor.W
set_option maxHeartbeats 1000000
set_option maxRecDepth 4000
namespace Go.Proofs.YtinplddjjalohaaGreatDoor.W
open Go Go.Wb
theorem e65:Ent Tryz.prog 65:=Ent.mk Tryz.func65 rfl rfl
theorem Zk0:Ent Tryz.prog 207:=Ent.mk Tryz.func207 rfl rfl
theorem Yfn:Ent Tryz.prog 299:=Ent.mk Tryz.func299 rfl rfl
theorem Ybm:Ent Tryz.prog 282:=Ent.mk Tryz.func282 rfl rfl
theorem Zmf:Ent Tryz.prog 287:=Ent.mk Tryz.func287 rfl rfl
theorem Ycl:Ent Tryz.prog 288:=Ent.mk Tryz.func288 rfl rfl
theorem Yc1:Ent Tryz.prog 128:=Ent.mk Tryz.func128 rfl rfl
theorem Yp5:Ent Tryz.prog 130:=Ent.mk Tryz.func130 rfl rfl
theorem Ylu:Ent Tryz.prog 129:=Ent.mk Tryz.func129 rfl rfl
theorem Zzl:Ent Tryz.prog 131:=Ent.mk Tryz.func131 rfl rfl
theorem Yw4:Ent Tryz.prog 132:=Ent.mk Tryz.func132 rfl rfl
theorem Zjo:Ent Tryz.prog 170:=Ent.mk Tryz.func170 rfl rfl
theorem e63:Ent Tryz.prog 63:=Ent.mk Tryz.func63 rfl rfl
theorem Yd3:Ent Tryz.prog 208:=Ent.mk Tryz.func208 rfl rfl
theorem Y82:Ent Tryz.prog 219:=Ent.mk Tryz.func219 rfl rfl
theorem Yv3:Ent Tryz.prog 205:=Ent.mk Tryz.func205 rfl rfl
def Zma (a1:Action):Option Za:=
 (bif (decide (a1.Kind=25)) then (Zh1 a1.Oxm).bind fun x4=>(Za8).bind fun x6=>(Zaj x6 a1.Oxm.Field x4.Value x4.Mask).bind fun x7=>some x7 else (bif (decide (a1.Kind=17)) then (Za8).bind fun x8=>(Zav 12).bind fun x9=>(Zav 12).bind fun x10=>(Zaj x8 5 x9 x10).bind fun x11=>some x11 else (bif (decide (a1.Kind=18)) then (Za8).bind fun x12=>(Zaz 13).bind fun x13=>(Zaj x12 5 (⟨0,0⟩:Wide) x13).bind fun x14=>(Zaz 3).bind fun x16=>(Zaj x14 6 (⟨0,0⟩:Wide) x16).bind fun x17=>some x17 else (Za8).bind fun x18=>some x18)))
theorem Yjx:Q1 Tryz.prog 299 (rd Z9) (rd (Z3 24 Z4)) Zma:=fun a1 r h=>I0 Tryz.func299 rfl Tryz.ntmps299 rfl fun w H Z=>by
 unfold Zma at h
 refine SR<|Cv rfl (Zs 2 rfl rfl (vt rfl)) fun g2=>Cv rfl (Zm 3 rfl rfl Z3p) fun g3=>Nl<|sq<|SR<|Zk Z58 Z5u rfl<|Ld Zp 2 rfl<|Nl<|bk<|SR<|Ac (Z0j rfl rfl (vt rfl) (vk rfl)) rfl<|As rfl<|Nl<|Cq rfl h (fun h=>?_) (fun h=>?_)
 ·refine sq ?_
  obtain ⟨x4,hx4,h⟩:=Z7 h
  refine Rg<|Zk Z8t Za9 rfl<|Ld Z7f 2 rfl<|Cl [10] (Zzg _ _ hx4) Zz7 rfl<|Cv rfl (Zm 4 rfl rfl Z1n) fun g5=>Zg Z01 4 rfl<|Nl<|sq ?_
  obtain ⟨x6,hx6,x7,hx7,h⟩:=bs2 h
  refine AR Z00 (by kernel_rfl)<|SCl [] (Zke _ hx6) e65 rfl<|SFd Z8t Za9 rfl<|SFd Z4f Z4r rfl<|Zo Zp 2 rfl<|SFd lTern_0 Z2x rfl<|Zo Zw 4 rfl<|SFd lTern_1 Z2c rfl<|Zo Zw 4 rfl<|SCl [12,15,17,19] (Zmo _ _ _ _ _ hx7) Zk0 rfl<|SSt Z04 3 rfl<|Sn<|rt ?_
  cases h;exact Zd Tryz.results299 rfl (Zx rfl (i:=3) rfl Z04)
 ·refine SR<|Ac (Z0j rfl rfl (vt rfl) (vk rfl)) rfl<|As rfl<|Nl<|Cq rfl h (fun h=>?_) (fun h=>?_)
  ·refine sq ?_
   obtain ⟨x8,hx8,x9,hx9,x10,hx10,x11,hx11,h⟩:=bs4 h
   refine Rg<|Cl [] (Zke _ hx8) e65 rfl<|Ac (Z0c (xs:=[.const (Value.int IntKind.i64 12)]) (Zrr _ _ hx9) Zr5 rfl rfl ⟨vk rfl,trivial⟩) rfl<|Ac (Z0c (xs:=[.const (Value.int IntKind.i64 12)]) (Zrr _ _ hx10) Zr5 rfl rfl ⟨vk rfl,trivial⟩) rfl<|Ac (Z0c (xs:=[.tmp 23,.const (Value.int IntKind.i64 5),.tmp 24,.tmp 25]) (Zmo _ _ _ _ _ hx11) Zk0 rfl rfl ⟨vt rfl,vk rfl,vt rfl,vt rfl,trivial⟩) rfl<|Zg Z04 3 rfl<|Nl<|rt ?_
   cases h;exact Zd Tryz.results299 rfl (Zx rfl (i:=3) rfl Z04)
  ·refine SR<|Ac (Z0j rfl rfl (vt rfl) (vk rfl)) rfl<|As rfl<|Nl<|Cq rfl h (fun h=>?_) (fun h=>?_)
   ·refine sq ?_
    obtain ⟨x12,hx12,x13,hx13,x14,hx14,h⟩:=bs3 h
    refine Rg<|Cl [] (Zke _ hx12) e65 rfl<|Ac (opb (⟨0,0⟩:Wide) Z27 rfl Z4h (pn rfl)) rfl<|Ac (Z0c (xs:=[.const (Value.int IntKind.i64 13)]) (Ztz _ _ hx13) Zun rfl rfl ⟨vk rfl,trivial⟩) rfl<|Ac (Z0c (xs:=[.tmp 29,.const (Value.int IntKind.i64 5),.tmp 30,.tmp 31]) (Zmo _ _ _ _ _ hx14) Zk0 rfl rfl ⟨vt rfl,vk rfl,vt rfl,vt rfl,trivial⟩) rfl<|Cv rfl (Zm 5 rfl rfl Z3p) fun g15=>Zg Z04 5 rfl<|Nl<|sq ?_
    obtain ⟨x16,hx16,x17,hx17,h⟩:=bs2 h
    refine AR Z00 (by kernel_rfl)<|Zo Z04 5 rfl<|Sd (lo [] [] rfl fun S hs hr=>opb (⟨0,0⟩:Wide) Z27 rfl Z4h (pn rfl))<|Sd (lo [] [] rfl fun S hs hr=>Z0c (xs:=[.const (Value.int IntKind.i64 3)]) (Ztz _ _ hx16) Zun rfl rfl ⟨vk rfl,trivial⟩)<|Sd (lo [33,34,35] [] rfl fun S hs hr=>Z0c (xs:=[.tmp 33,.const (Value.int IntKind.i64 6),.tmp 34,.tmp 35]) (Zmo _ _ _ _ _ hx17) Zk0 rfl rfl ⟨vt ((hs 33 rfl).trans rfl),vk rfl,vt ((hs 34 rfl).trans rfl),vt ((hs 35 rfl).trans rfl),trivial⟩)<|SSt Z04 3 rfl<|Sn<|rt ?_
    cases h;exact Zd Tryz.results299 rfl (Zx rfl (i:=3) rfl Z04)
   ·refine sk<|sq ?_
    obtain ⟨x18,hx18,h⟩:=Z7 h
    refine Rg<|Cl [] (Zke _ hx18) e65 rfl<|Zg Z04 3 rfl<|Nl<|rt ?_
    cases h;exact Zd Tryz.results299 rfl (Zx rfl (i:=3) rfl Z04)
def Zhy (l12:(List Atom))(go1:Za→(List Atom)→Int→Option ((List Atom)×Za))(b11:Za)(i14:Int)(b19:Atom):Option ((List Atom)×Za):=
 (Z0v l12 [b19]).bind fun l20=>go1 b11 l20 (IntKind.i64.wrap (i14+1))
def Z88 (a1:(List Action)):Nat→Za→(List Atom)→Int→Option ((List Atom)×Za)
 | 0,_,_,_=>none
 | m15+1,b11,l12,i14=>(bif (decide (i14<(a1.length:Int))) then (lget a1 i14).bind fun x16=>(bif (decide (x16.Kind=0)) then (lget a1 i14).bind fun x17=>(bif (decide (((⟨b11,false,x17.Port,0⟩:Atom).Port)=4294967293)) then (lget a1 i14).bind fun x22=>Zhy l12 (Z88 a1 m15) b11 i14 {(⟨b11,false,x17.Port,0⟩:Atom) with Max:=x22.Max} else Zhy l12 (Z88 a1 m15) b11 i14 (⟨b11,false,x17.Port,0⟩:Atom)) else (bif (decide (x16.Kind=22)) then (lget a1 i14).bind fun x23=>(Z0v l12 [(⟨b11,true,x23.Group,0⟩:Atom)]).bind fun l24=>(Z88 a1 m15) b11 l24 (IntKind.i64.wrap (i14+1)) else (lget a1 i14).bind fun x26=>(Zma x26).bind fun x27=>(Zfk b11 x27).bind fun x28=>(Z88 a1 m15) x28 l12 (IntKind.i64.wrap (i14+1)))) else some (l12,b11))
def Zdy (a1:(List Action))(x2:Za):Option ((List Atom)×Za):=
 (Zdi x2).bind fun x5=>Z88 a1 ((((a1.length:Int):Int) - 0).toNat+1) x5 [] 0
theorem Y53:Q2 Tryz.prog 219 (rd (Z1 Z9)) (rd (Z3 24 Z4)) (fun r=>Z10 (rd (Z1 Z0q) r.1) (rd (Z3 24 Z4) r.2)) Zdy:=fun a1 x2 r h=>I0 Tryz.func219 rfl Tryz.ntmps219 rfl fun w H Z=>by
 unfold Zdy at h
 refine SR<|Cv rfl (Zs 4 rfl rfl (vt rfl)) fun g3=>Ac (Zv (A:=rd (Z1 Z0q) []) rfl rfl Z1f) rfl<|Cv rfl (Zm 6 rfl rfl Z3p) fun g4=>Nl<|sq ?_
 obtain ⟨x5,hx5,h⟩:=Z7 h
 refine Rg<|Ld Z04 4 rfl<|Cl [9] (Zt1 _ _ hx5) Zv2 rfl<|Zg Z04 4 rfl<|Nl<|SR<|Cv rfl (Z4q 1001 (ps:=[]) (l:=[]) rfl rfl Z7n Z7b rfl rfl rfl rfl) fun v6=>Aw rfl<|Nl<|sq<|SR<|Ak rfl<|Nl<|bk<|LG (d:=[]) (ν:=Nat×Za×(List Atom)×Int×Value) (fun (m15,b11,l12,i14,v13)=>(True∧Z88 a1 m15 b11 l12 i14=some r,m15,[(0,rd (Z1 Z9) a1),(3,Zc g3 (Lens.id (Z3 24 Z4))),(5,Zc g4 (Lens.id (Z3 24 Z4))),(6,Zb v13),(7,rd (Z0 .i64) i14)],[(4,Zh g3 131 (Z3 24 Z4) b11),(6,Zh g4 131 (Z3 24 Z4) (Vector.replicate 24 zTern)),(1001,Zf v13 296 Z0q l12)])) (((((a1.length:Int):Int) - 0).toNat+1),x5,[],0,v6) ⟨trivial,h⟩ (FX rfl) ?_
 rintro ⟨m15,b11,l12,i14,v13⟩ ⟨hsf1,h⟩
 dsimp only at h ⊢
 cases m15 with
 | zero=>cases h
 | succ m15=>
  unfold Z88 at h
  refine sq<|SR<|Md rfl<|Md rfl<|Ac (Z0i rfl rfl Z0g (vt rfl)) rfl<|Ac (Zj rfl rfl (vt rfl) (vt rfl)) rfl<|Nl<|Cq rfl h (fun h=>?_) (fun h=>?_)
  ·refine sk<|sq<|bk<|sq ?_
   obtain ⟨x16,hx16,h⟩:=Z7 h
   refine Rg<|Md rfl<|Md rfl<|Ac (Z0k rfl rfl Z0g (vt rfl) (vt rfl) hx16) rfl<|Fp Z58 Z5u rfl<|Lp1 Zp rfl<|Nl<|bk<|SR<|Ac (Z0j rfl rfl (vt rfl) (vk rfl)) rfl<|As rfl<|Nl<|Cq rfl h (fun h=>?_) (fun h=>?_)
   ·refine sq ?_
    obtain ⟨x17,hx17,h⟩:=Z7 h
    refine AR Z00 (by kernel_rfl)<|Zo Z04 4 rfl<|Zt rfl<|Zt rfl<|Sd (lo [33,34] [] rfl fun S hs hr=>Z0k rfl rfl Z0g (vh hs 33 rfl rfl) (vh hs 34 rfl rfl) hx17)<|SFp Zh5 Zli rfl<|SLp Zp rfl<|Sd (lo [32,37] [] rfl fun S hs hr=>opb (⟨b11,false,x17.Port,0⟩:Atom) Z7b rfl Ztu (pc Zxg (vh hs 32 rfl rfl)<|pc Y6n (vh hs 37 rfl rfl)<|pn rfl))<|Sd (Z19 (us:=[(8,Z2t 296 Z0q Zxy)]) (ur:=[]) [] [] rfl fun S hs hr=>Z7k rfl rfl rfl Z7b)<|Sd (Z19 (us:=[(8,Z2t 296 Z0q (⟨b11,false,x17.Port,0⟩:Atom))]) (ur:=[]) [8,38] [] rfl fun S hs hr=>Z70 rfl rfl Zp9 ((hs 8 rfl).trans rfl) (vh hs 38 rfl rfl))<|Sn<|AW.unpackP 8 9 rfl rfl fun g18=>?_
    refine JN (d:=[]) (ν:=Atom) (fun b19=>(Zhy l12 (Z88 a1 m15) b11 i14 b19=some r,[(0,rd (Z1 Z9) a1),(3,Zc g3 (Lens.id (Z3 24 Z4))),(5,Zc g4 (Lens.id (Z3 24 Z4))),(6,Zb v13),(7,rd (Z0 .i64) i14),(8,Zc g18 (Lens.id Z0q))],[(4,Zh g3 131 (Z3 24 Z4) b11),(6,Zh g4 131 (Z3 24 Z4) (Vector.replicate 24 zTern)),(9,Zh g18 296 Z0q b19),(1001,Zf v13 296 Z0q l12)])) ?hx2 ?hy2
    case hy2=>
     intro b19 h
     dsimp only at h ⊢
     unfold Zhy at h
     obtain ⟨l20,hl20,h⟩:=Z7 h
     refine Rg<|Mw rfl<|Ld Zp9 9 rfl<|Ac (osl Z7n Z7b rfl (vt rfl)) rfl<|Cv rfl (Z29 1001 hl20 rfl rfl Zak (vt rfl) rfl (vt rfl)) fun v21=>Aw rfl<|Nl<|Rg<|Md rfl<|Ac (Z06 rfl rfl (vt rfl) (vk rfl)) rfl<|As rfl<|Nl ?_
     exact ⟨(_,_,_,_,_),Nat.lt_succ_self _,⟨trivial,h⟩,FX rfl⟩
    case hx2=>
     refine SR<|Zk lAtom_2 Ztc rfl<|Ld Zp 9 rfl<|Ac (Z0j rfl rfl (vt rfl) (vk rfl)) rfl<|Nl<|Cq rfl h (fun h=>?_) (fun h=>?_)
     ·obtain ⟨x22,hx22,h⟩:=Z7 h
      refine Rg<|Md rfl<|Md rfl<|Ac (Z0k rfl rfl Z0g (vt rfl) (vt rfl) hx22) rfl<|Fp Zrp Zyj rfl<|Lp1 Zp rfl<|Zk Zvo Y6t rfl<|Zg Zp 9 rfl<|Nl ?_
      exact ⟨_,h,FX rfl⟩
     ·refine sk ?_
      exact ⟨_,h,FX rfl⟩
   ·refine SR<|Ac (Z0j rfl rfl (vt rfl) (vk rfl)) rfl<|As rfl<|Nl<|Cq rfl h (fun h=>?_) (fun h=>?_)
    ·obtain ⟨x23,hx23,l24,hl24,h⟩:=bs2 h
     refine AR Z00 (by kernel_rfl)<|SMw rfl<|Zo Z04 4 rfl<|Zt rfl<|Zt rfl<|Sd (lo [56,57] [] rfl fun S hs hr=>Z0k rfl rfl Z0g (vh hs 56 rfl rfl) (vh hs 57 rfl rfl) hx23)<|SFp Zp5 Zu3 rfl<|SLp Zp rfl<|Sd (lo [55,60] [] rfl fun S hs hr=>opb (⟨b11,true,x23.Group,0⟩:Atom) Z7b rfl Ztu (pc Zxg (vh hs 55 rfl rfl)<|pc Ybw vb<|pc Y6n (vh hs 60 rfl rfl)<|pn rfl))<|Sd (lo [61] [] rfl fun S hs hr=>osl Z7n Z7b rfl (vh hs 61 rfl rfl))<|Sd (Z19 (us:=[(63,Z1p 296 Z0q l24)]) (ur:=[(1001,emp)]) [54,62] [1001] rfl fun S hs hr=>Z8k 1001 hl24 rfl rfl rfl Zak (vh hs 54 rfl rfl) ((hr 1001 rfl).trans rfl) (vh hs 62 rfl rfl))<|Sd (Z19 (us:=[(63,top),(6,Z1p 296 Z0q l24)]) (ur:=[]) [63] [1002] rfl fun S hs hr=>Zif 1002 rfl rfl rfl rfl ((hs 63 rfl).trans rfl) ((hr 1002 rfl).trans rfl))<|Sn<|AW.unpackR 6 1001 rfl rfl fun v25=>Rg<|Md rfl<|Ac (Z06 rfl rfl (vt rfl) (vk rfl)) rfl<|As rfl<|Nl ?_
     exact ⟨(_,_,_,_,_),Nat.lt_succ_self _,⟨trivial,h⟩,FX rfl⟩
    ·obtain ⟨x26,hx26,x27,hx27,x28,hx28,h⟩:=bs3 h
     refine AR Z00 (by kernel_rfl)<|Zo Z04 4 rfl<|Zt rfl<|Zt rfl<|Sd (lo [24,25] [] rfl fun S hs hr=>Z0k rfl rfl Z0g (vh hs 24 rfl rfl) (vh hs 25 rfl rfl) hx26)<|SLp Z0z rfl<|SCl [27] (Yjx _ _ hx27) Yfn rfl<|SCl [23,28] (Yax _ _ _ hx28) Yb2 rfl<|SSt Z04 4 rfl<|Sn<|Rg<|Md rfl<|Ac (Z06 rfl rfl (vt rfl) (vk rfl)) rfl<|As rfl<|Nl ?_
     exact ⟨(_,_,_,_,_),Nat.lt_succ_self _,⟨trivial,h⟩,FX rfl⟩
  ·refine xt<|sq<|AR Z00 (by kernel_rfl)<|SMw rfl<|Zo Z04 4 rfl<|Sd (lo [64] [] rfl fun S hs hr=>Zv (A:=Zb v13) rfl rfl (vh hs 64 rfl rfl))<|SSt Z04 6 rfl<|Sn<|AW.freezes [4,6,64] 1001 rfl ⟨rfl,rfl,rfl,trivial⟩ rfl<|rt ?_
   cases h;exact Z1d Tryz.results219 rfl (Z5 rfl) (Zx rfl (i:=6) rfl Z04)
def Znu (a1:Action)(b2:Action):Option Bool:=
 some ((decide (a1.Kind=b2.Kind))&&((decide (a1.Kind≠25))||(decide (a1.Oxm.Field=b2.Oxm.Field))))
theorem Yrw:Q2 Tryz.prog 282 (rd Z9) (rd Z9) (rd Z6) Znu:=fun a1 b2 r h=>I0 Tryz.func282 rfl Tryz.ntmps282 rfl fun w H Z=>by
 unfold Znu at h
 refine SR<|Cv rfl (Zs 3 rfl rfl (vt rfl)) fun g3=>Cv rfl (Zs 4 rfl rfl (vt rfl)) fun g4=>Ab rfl<|Nl<|SR<|Zk Z58 Z5u rfl<|Ld Zp 3 rfl<|Zk Z58 Z5u rfl<|Ld Zp 4 rfl<|Ac (Z0j rfl rfl (vt rfl) (vt rfl)) rfl<|Md rfl<|Gd rfl (fun hq=>Z2n Z58 rfl rfl Z5u (vt rfl))<|Gd rfl (fun hq=>Z1s rfl rfl Zp (Zi rfl hq) (i:=3) rfl)<|Gd rfl (fun hq=>Z5t rfl rfl (Zi rfl hq) (vk rfl))<|AOps.consG (OpG.guardX rfl rfl rfl rfl rfl fun hq=>Zq (A:=rd Z6 (decide (a1.Kind≠25))) rfl rfl (Zi rfl hq))<|AOps.consG (OpG.guardN rfl rfl rfl rfl rfl fun hq=>Z2n Z8t rfl rfl Za9 (vt rfl))<|AOps.consG (OpG.guardN rfl rfl rfl rfl rfl fun hq=>Z2n Z4f rfl rfl Z4r (Zi rfl hq))<|AOps.consG (OpG.guardN rfl rfl rfl rfl rfl fun hq=>Z1s rfl rfl Zp (Zi rfl hq) (i:=3) rfl)<|AOps.consG (OpG.guardN rfl rfl rfl rfl rfl fun hq=>Z2n Z8t rfl rfl Za9 (vt rfl))<|AOps.consG (OpG.guardN rfl rfl rfl rfl rfl fun hq=>Z2n Z4f rfl rfl Z4r (Zi rfl hq))<|AOps.consG (OpG.guardN rfl rfl rfl rfl rfl fun hq=>Z1s rfl rfl Zp (Zi rfl hq) (i:=4) rfl)<|AOps.consG (OpG.guardN rfl rfl rfl rfl rfl fun hq=>Z0j rfl rfl (Zi rfl hq) (Zi rfl hq))<|Gd rfl (fun hq=>Z3j rfl rfl (vgx rfl hq) (vgw rfl hq))<|Ac (Z1k rfl rfl (vt rfl) (vt rfl)) rfl<|As rfl<|Nl<|rt ?_
 cases h;exact Zd Tryz.results282 rfl (Z5 rfl)
def Zdc (l9:(List Action))(l2:(List Action))(i11:Int)(go1:(List Action)→Int→Option (List Action)):Nat→Int→Int→Option (List Action)
 | 0,_,_=>none
 | m17+1,a15,j16=>(bif (decide (j16<(l9.length:Int))) then (opt (decide (a15<0)) (lget l9 j16)).bind fun x18=>(opt (decide (a15<0)) (lget l2 i11)).bind fun x19=>(opt (decide (a15<0)) (Znu x18 x19)).bind fun x20=>(bif ((decide (a15<0))&&x20) then (Zdc l9 l2 i11 go1 m17) j16 (IntKind.i64.wrap (j16+1)) else (Zdc l9 l2 i11 go1 m17) a15 (IntKind.i64.wrap (j16+1))) else (bif (decide (a15<0)) then (lget l2 i11).bind fun x21=>(Z0v l9 [x21]).bind fun l22=>go1 l22 (IntKind.i64.wrap (i11+1)) else (lget l2 i11).bind fun x24=>(lget l9 a15).bind fun x25=>go1 (List.set l9 a15.toNat x24) (IntKind.i64.wrap (i11+1))))
def Zbq (l2:(List Action)):Nat→(List Action)→Int→Option (List Action)
 | 0,_,_=>none
 | m12+1,l9,i11=>(bif (decide (i11<(l2.length:Int))) then Zdc l9 l2 i11 (Zbq l2 m12) ((((l9.length:Int):Int) - 0).toNat+1) (-1) 0 else some l9)
def Zn8 (s1:(List Action))(l2:(List Action)):Option (List Action):=
 (Z0v [] s1).bind fun l4=>Zbq l2 ((((l2.length:Int):Int) - 0).toNat+1) l4 0
theorem Yhv:Q2 Tryz.prog 205 (rd (Z1 Z9)) (rd (Z1 Z9)) (rd (Z1 Z9)) Zn8:=fun s1 l2 r h=>I0 Tryz.func205 rfl Tryz.ntmps205 rfl fun w H Z=>by
 unfold Zn8 at h
 refine SR<|Ac (Zv (A:=rd (Z1 Z9) []) rfl rfl Z1f) rfl<|Nl<|sq ?_
 obtain ⟨l4,hl4,h⟩:=Z7 h
 refine Rg<|Cv rfl (Z4q 1001 (ps:=[]) (l:=[]) rfl rfl Z0g Z66 rfl rfl rfl rfl) fun v3=>Md rfl<|Cv rfl (Z29 1001 hl4 rfl rfl Z8l (vt rfl) rfl (vt rfl)) fun v5=>Aw rfl<|Nl<|sq<|SR<|Ak rfl<|Nl<|bk<|LG (d:=[]) (ν:=Nat×(List Action)×Int×Value) (fun (m12,l9,i11,v10)=>(True∧Zbq l2 m12 l9 i11=some r,m12,[(1,rd (Z1 Z9) l2),(5,Zb v10),(6,rd (Z0 .i64) i11)],[(1001,Zf v10 219 Z9 l9)])) (((((l2.length:Int):Int) - 0).toNat+1),l4,0,v5) ⟨trivial,h⟩ (FX rfl) ?_
 rintro ⟨m12,l9,i11,v10⟩ ⟨hsf1,h⟩
 dsimp only at h ⊢
 cases m12 with
 | zero=>cases h
 | succ m12=>
  unfold Zbq at h
  refine sq<|SR<|Md rfl<|Md rfl<|Ac (Z0i rfl rfl Z0g (vt rfl)) rfl<|Ac (Zj rfl rfl (vt rfl) (vt rfl)) rfl<|Nl<|Cq rfl h (fun h=>?_) (fun h=>?_)
  ·refine sk<|sq<|bk<|SR<|Ak rfl<|Nl<|sq<|SR<|Ak rfl<|Nl<|bk<|LG (d:=[]) (ν:=Nat×Int×Int) (fun (m17,a15,j16)=>(True∧Zdc l9 l2 i11 (Zbq l2 m12) m17 a15 j16=some r,m17,[(1,rd (Z1 Z9) l2),(5,Zb v10),(6,rd (Z0 .i64) i11),(7,rd (Z0 .i64) a15),(8,rd (Z0 .i64) j16)],[(1001,Zf v10 219 Z9 l9)])) (((((l9.length:Int):Int) - 0).toNat+1),(-1),0) ⟨trivial,h⟩ (FX rfl) ?_
   rintro ⟨m17,a15,j16⟩ ⟨hsf2,h⟩
   dsimp only at h ⊢
   cases m17 with
   | zero=>cases h
   | succ m17=>
    unfold Zdc at h
    refine sq<|SR<|Md rfl<|Mw rfl<|Ac (Z4k 1001 rfl rfl Z0g (vt rfl) rfl) rfl<|Ac (Zj rfl rfl (vt rfl) (vt rfl)) rfl<|Nl<|Cq rfl h (fun h=>?_) (fun h=>?_)
    ·refine sk<|sq<|bk<|sq ?_
     obtain ⟨x18,hx18,x19,hx19,x20,hx20,h⟩:=bs3 h
     refine AR Z00 (by kernel_rfl)<|Zt rfl<|Sd (lo [24] [] rfl fun S hs hr=>Zj rfl rfl (vh hs 24 rfl rfl) (vk rfl))<|Zt rfl<|Sd (lg [5,26] [] rfl fun hq S hs hr=>Zq (A:=Zb v10) rfl rfl (vh hs 5 rfl rfl))<|Sd (lg [8,26] [] rfl fun hq S hs hr=>Zq (A:=rd (Z0 .i64) j16) rfl rfl (vh hs 8 rfl rfl))<|Sd (lg [27,28,26] [1001] rfl fun hq S hs hr=>Z22 1001 rfl rfl Z0g (Zi ((hs 27 rfl).trans rfl) hq) ((hr 1001 rfl).trans rfl) (Zi ((hs 28 rfl).trans rfl) hq) (Z2i hx18 hq))<|Sd (lg [29,26] [1001] rfl fun hq S hs hr=>Z1q 1001 rfl rfl Z0z (Zi ((hs 29 rfl).trans rfl) hq) ((hr 1001 rfl).trans rfl) (Z0m (Z2i hx18 hq)).2)<|Sd (lg [1,26] [] rfl fun hq S hs hr=>Zq (A:=rd (Z1 Z9) l2) rfl rfl (vh hs 1 rfl rfl))<|Sd (lg [6,26] [] rfl fun hq S hs hr=>Zq (A:=rd (Z0 .i64) i11) rfl rfl (vh hs 6 rfl rfl))<|Sd (lg [31,32,26] [] rfl fun hq S hs hr=>Z0k rfl rfl Z0g (Zi ((hs 31 rfl).trans rfl) hq) (Zi ((hs 32 rfl).trans rfl) hq) (Z2i hx19 hq))<|Sd (lg [33,26] [] rfl fun hq S hs hr=>Z9u rfl rfl Z0z (Zi ((hs 33 rfl).trans rfl) hq))<|Sd (lg [30,34,26] [] rfl fun hq S hs hr=>Z0c (xs:=[.tmp 30,.tmp 34]) (Yrw _ _ _ (Z2i hx20 hq)) Ybm rfl rfl ⟨Zi ((hs 30 rfl).trans rfl) hq,Zi ((hs 34 rfl).trans rfl) hq,trivial⟩)<|Sd (lo [35,26] [] rfl fun S hs hr=>Z1k rfl rfl (vh hs 26 rfl rfl) (vh hs 35 rfl rfl))<|Sn<|Cq rfl h (fun h=>?_) (fun h=>?_)
     ·refine Rg<|Md rfl<|As rfl<|Nl<|Rg<|Md rfl<|Ac (Z06 rfl rfl (vt rfl) (vk rfl)) rfl<|As rfl<|Nl ?_
      exact ⟨(_,_,_),Nat.lt_succ_self _,⟨trivial,h⟩,FX rfl⟩
     ·refine sk<|Rg<|Md rfl<|Ac (Z06 rfl rfl (vt rfl) (vk rfl)) rfl<|As rfl<|Nl ?_
      exact ⟨(_,_,_),Nat.lt_succ_self _,⟨trivial,h⟩,FX rfl⟩
    ·refine xt<|SR<|Md rfl<|Ac (Zj rfl rfl (vt rfl) (vk rfl)) rfl<|Nl<|Cq rfl h (fun h=>?_) (fun h=>?_)
     ·obtain ⟨x21,hx21,l22,hl22,h⟩:=bs2 h
      refine Rg<|Mw rfl<|Md rfl<|Md rfl<|Ac (Z0k rfl rfl Z0g (vt rfl) (vt rfl) hx21) rfl<|Lp1 Z0z rfl<|Ac (osl Z0g Z66 rfl (vt rfl)) rfl<|Cv rfl (Z29 1001 hl22 rfl rfl Z8l (vt rfl) rfl (vt rfl)) fun v23=>Aw rfl<|Nl<|Rg<|Md rfl<|Ac (Z06 rfl rfl (vt rfl) (vk rfl)) rfl<|As rfl<|Nl ?_
      exact ⟨(_,_,_,_),Nat.lt_succ_self _,⟨trivial,h⟩,FX rfl⟩
     ·obtain ⟨x24,hx24,x25,hx25,h⟩:=bs2 h
      refine Rg<|Mw rfl<|Md rfl<|Md rfl<|Md rfl<|Ac (Z0k rfl rfl Z0g (vt rfl) (vt rfl) hx24) rfl<|Lp1 Z0z rfl<|Ac (Z22 1001 rfl rfl Z0g (vt rfl) rfl (vt rfl) hx25) rfl<|Ac (Z2w 1001 rfl rfl Z0z (vt rfl) rfl (Z0m hx25).2 (vt rfl)) rfl<|Nl<|Rg<|Md rfl<|Ac (Z06 rfl rfl (vt rfl) (vk rfl)) rfl<|As rfl<|Nl ?_
      exact ⟨(_,_,_,_),Nat.lt_succ_self _,⟨trivial,h⟩,FX rfl⟩
  ·refine xt<|SR<|Mw rfl<|Aw rfl<|Nl<|AW.freezes [4,5,54] 1001 rfl ⟨rfl,rfl,rfl,trivial⟩ rfl<|rt ?_
   cases h;exact Zd Tryz.results205 rfl (Z5 rfl)
def Zea (l1:(List Action))(k2:Int):Nat→(List Action)→Int→Option (List Action)
 | 0,_,_=>none
 | m10+1,l7,i9=>(bif (decide (i9<(l1.length:Int))) then (lget l1 i9).bind fun x11=>(bif (decide (x11.Kind=k2)) then (lget l1 i9).bind fun x12=>(Z0v l7 [x12]).bind fun l13=>(Zea l1 k2 m10) l13 (IntKind.i64.wrap (i9+1)) else (Zea l1 k2 m10) l7 (IntKind.i64.wrap (i9+1))) else some l7)
def Z8r (l1:(List Action))(k2:Int):Option (List Action):=
 Zea l1 k2 ((((l1.length:Int):Int) - 0).toNat+1) [] 0
theorem Y7p (l1:(List Action))(k2:Int)(r:(List Action))(h:Z8r l1 k2=some r):Con Tryz.prog 287 [rd (Z1 Z9) l1,rd (Z0 .i64) k2] emp (fun v=>Zb v) (fun v=>Zf v 219 Z9 r):=by
 refine Con.intro0 Tryz.func287 rfl Tryz.ntmps287 rfl fun w H Z=>?_
 unfold Z8r at h
 refine sq<|AW.newnil 1001 219 Z9<|Rg<|Ac (Zv rfl rfl vc) rfl<|Nl<|SR<|Cv rfl (Z4q 1002 (ps:=[]) (l:=[]) rfl rfl Z0g Z66 rfl rfl rfl rfl) fun v3=>Aw rfl<|Nl<|sq<|SR<|Ak rfl<|Nl<|bk<|LG (d:=[]) (ν:=Nat×(List Action)×Int×Value) (fun (m10,l7,i9,v8)=>(True∧Zea l1 k2 m10 l7 i9=some r,m10,[(0,rd (Z1 Z9) l1),(1,rd (Z0 .i64) k2),(5,Zb v8),(6,rd (Z0 .i64) i9)],[(1002,Zf v8 219 Z9 l7)])) (((((l1.length:Int):Int) - 0).toNat+1),[],0,v3) ⟨trivial,h⟩ (FX rfl) ?_
 rintro ⟨m10,l7,i9,v8⟩ ⟨hsf1,h⟩
 dsimp only at h ⊢
 cases m10 with
 | zero=>cases h
 | succ m10=>
  unfold Zea at h
  refine sq<|SR<|Md rfl<|Md rfl<|Ac (Z0i rfl rfl Z0g (vt rfl)) rfl<|Ac (Zj rfl rfl (vt rfl) (vt rfl)) rfl<|Nl<|Cq rfl h (fun h=>?_) (fun h=>?_)
  ·refine sk<|sq<|bk<|sq ?_
   obtain ⟨x11,hx11,h⟩:=Z7 h
   refine Rg<|Md rfl<|Md rfl<|Ac (Z0k rfl rfl Z0g (vt rfl) (vt rfl) hx11) rfl<|Fp Z58 Z5u rfl<|Lp1 Zp rfl<|Md rfl<|Ac (Z0j rfl rfl (vt rfl) (vt rfl)) rfl<|Nl<|Cq rfl h (fun h=>?_) (fun h=>?_)
   ·obtain ⟨x12,hx12,l13,hl13,h⟩:=bs2 h
    refine Rg<|Mw rfl<|Md rfl<|Md rfl<|Ac (Z0k rfl rfl Z0g (vt rfl) (vt rfl) hx12) rfl<|Lp1 Z0z rfl<|Ac (osl Z0g Z66 rfl (vt rfl)) rfl<|Cv rfl (Z29 1002 hl13 rfl rfl Z8l (vt rfl) rfl (vt rfl)) fun v14=>Aw rfl<|Nl<|Rg<|Md rfl<|Ac (Z06 rfl rfl (vt rfl) (vk rfl)) rfl<|As rfl<|Nl ?_
    exact ⟨(_,_,_,_),Nat.lt_succ_self _,⟨trivial,h⟩,FX rfl⟩
   ·refine sk<|Rg<|Md rfl<|Ac (Z06 rfl rfl (vt rfl) (vk rfl)) rfl<|As rfl<|Nl ?_
    exact ⟨(_,_,_,_),Nat.lt_succ_self _,⟨trivial,h⟩,FX rfl⟩
  ·refine xt<|SR<|Mw rfl<|Aw rfl<|Nl<|rt ?_
   cases h;exact Z3m (i:=1002) Tryz.results287 rfl rfl rfl
theorem Zr4 (l1:(List Action))(k2:Int)(r:(List Action))(h:Z8r l1 k2=some r):PCon Tryz.prog 287 [rd (Z1 Z9) l1,rd (Z0 .i64) k2] (rd (Z1 Z9) r):=PCon.of_row (Y7p l1 k2 r h)
def Zeh (a11:Int)(l1:(List Action))(i8:Int)(go1:(List Action)→Int→Option (List Action)):Nat→(List Action)→Int→Option (List Action)
 | 0,_,_=>none
 | m21+1,l19,j20=>(bif (decide (j20>a11)) then (lget l19 (IntKind.i64.wrap (j20 - 1))).bind fun x22=>(lget l19 j20).bind fun x23=>(Zeh a11 l1 i8 go1 m21) (List.set l19 j20.toNat x22) (IntKind.i64.wrap (j20 - 1)) else (lget l1 i8).bind fun x24=>(lget l19 a11).bind fun x25=>go1 (List.set l19 a11.toNat x24) (IntKind.i64.wrap (i8+1)))
def Zem (l6:(List Action))(l1:(List Action))(i8:Int)(go1:(List Action)→Int→Option (List Action)):Nat→Int→Option (List Action)
 | 0,_=>none
 | m12+1,a11=>(opt (decide (a11>0)) (lget l6 (IntKind.i64.wrap (a11 - 1)))).bind fun x13=>(opt (decide (a11>0)) (lget l1 i8)).bind fun x14=>(bif ((decide (a11>0))&&(decide (x13.Oxm.Field>x14.Oxm.Field))) then (Zem l6 l1 i8 go1 m12) (IntKind.i64.wrap (a11 - 1)) else (Z0v l6 [(⟨0,0,0,0,0,Z7t⟩:Action)]).bind fun l15=>Zeh a11 l1 i8 go1 ((((IntKind.i64.wrap ((l15.length:Int) - 1)):Int) - a11).toNat+1) l15 (IntKind.i64.wrap ((l15.length:Int) - 1)))
def Zaq (l1:(List Action)):Nat→(List Action)→Int→Option (List Action)
 | 0,_,_=>none
 | m9+1,l6,i8=>(bif (decide (i8<(l1.length:Int))) then Zem l6 l1 i8 (Zaq l1 m9) Z0s (l6.length:Int) else some l6)
def Zmh (l1:(List Action)):Option (List Action):=
 Zaq l1 ((((l1.length:Int):Int) - 0).toNat+1) [] 0
theorem Yfj:Q1 Tryz.prog 288 (rd (Z1 Z9)) (rd (Z1 Z9)) Zmh:=fun l1 r h=>I0 Tryz.func288 rfl Tryz.ntmps288 rfl fun w H Z=>by
 unfold Zmh at h
 refine SR<|Ac (Zv (A:=rd (Z1 Z9) []) rfl rfl Z1f) rfl<|Nl<|SR<|Cv rfl (Z4q 1001 (ps:=[]) (l:=[]) rfl rfl Z0g Z66 rfl rfl rfl rfl) fun v2=>Aw rfl<|Nl<|sq<|SR<|Ak rfl<|Nl<|bk<|LG (d:=[]) (ν:=Nat×(List Action)×Int×Value) (fun (m9,l6,i8,v7)=>(True∧Zaq l1 m9 l6 i8=some r,m9,[(0,rd (Z1 Z9) l1),(3,Zb v7),(4,rd (Z0 .i64) i8)],[(1001,Zf v7 219 Z9 l6)])) (((((l1.length:Int):Int) - 0).toNat+1),[],0,v2) ⟨trivial,h⟩ (FX rfl) ?_
 rintro ⟨m9,l6,i8,v7⟩ ⟨hsf1,h⟩
 dsimp only at h ⊢
 cases m9 with
 | zero=>cases h
 | succ m9=>
  unfold Zaq at h
  refine sq<|SR<|Md rfl<|Md rfl<|Ac (Z0i rfl rfl Z0g (vt rfl)) rfl<|Ac (Zj rfl rfl (vt rfl) (vt rfl)) rfl<|Nl<|Cq rfl h (fun h=>?_) (fun h=>?_)
  ·refine sk<|sq<|bk<|SR<|Mw rfl<|Ac (Z4k 1001 rfl rfl Z0g (vt rfl) rfl) rfl<|As rfl<|Nl<|sq<|bk<|LG (d:=[]) (ν:=Nat×Int) (fun (m12,a11)=>(True∧Zem l6 l1 i8 (Zaq l1 m9) m12 a11=some r,m12,[(0,rd (Z1 Z9) l1),(3,Zb v7),(4,rd (Z0 .i64) i8),(5,rd (Z0 .i64) a11)],[(1001,Zf v7 219 Z9 l6)])) (Z0s,(l6.length:Int)) ⟨trivial,h⟩ (FX rfl) ?_
   rintro ⟨m12,a11⟩ ⟨hsf2,h⟩
   dsimp only at h ⊢
   cases m12 with
   | zero=>cases h
   | succ m12=>
    unfold Zem at h
    refine sq<|sq ?_
    obtain ⟨x13,hx13,x14,hx14,h⟩:=bs2 h
    refine AR Z00 (by kernel_rfl)<|Zt rfl<|Sd (lo [16] [] rfl fun S hs hr=>Z2m rfl rfl (vh hs 16 rfl rfl) (vk rfl))<|Zt rfl<|Sd (lg [3,18] [] rfl fun hq S hs hr=>Zq (A:=Zb v7) rfl rfl (vh hs 3 rfl rfl))<|Sd (lg [5,18] [] rfl fun hq S hs hr=>Zq (A:=rd (Z0 .i64) a11) rfl rfl (vh hs 5 rfl rfl))<|Sd (lg [20,18] [] rfl fun hq S hs hr=>Z0r rfl rfl (Zi ((hs 20 rfl).trans rfl) hq) (vk rfl))<|Sd (lg [19,21,18] [1001] rfl fun hq S hs hr=>Z22 1001 rfl rfl Z0g (Zi ((hs 19 rfl).trans rfl) hq) ((hr 1001 rfl).trans rfl) (Zi ((hs 21 rfl).trans rfl) hq) (Z2i hx13 hq))<|Sd (lg [22,18] [] rfl fun hq S hs hr=>Z8v Z8t rfl rfl Za9 (Zi ((hs 22 rfl).trans rfl) hq))<|Sd (lg [23,18] [] rfl fun hq S hs hr=>Z8v Z4f rfl rfl Z4r (Zi ((hs 23 rfl).trans rfl) hq))<|Sd (lg [24,18] [1001] rfl fun hq S hs hr=>Z1q 1001 rfl rfl Zp (Zi ((hs 24 rfl).trans rfl) hq) ((hr 1001 rfl).trans rfl) (Z0m (Z2i hx13 hq)).2)<|Sd (lg [0,18] [] rfl fun hq S hs hr=>Zq (A:=rd (Z1 Z9) l1) rfl rfl (vh hs 0 rfl rfl))<|Sd (lg [4,18] [] rfl fun hq S hs hr=>Zq (A:=rd (Z0 .i64) i8) rfl rfl (vh hs 4 rfl rfl))<|Sd (lg [26,27,18] [] rfl fun hq S hs hr=>Z0k rfl rfl Z0g (Zi ((hs 26 rfl).trans rfl) hq) (Zi ((hs 27 rfl).trans rfl) hq) (Z2i hx14 hq))<|Sd (lg [28,18] [] rfl fun hq S hs hr=>Z6e Z8t rfl rfl Za9 (Zi ((hs 28 rfl).trans rfl) hq))<|Sd (lg [29,18] [] rfl fun hq S hs hr=>Z6e Z4f rfl rfl Z4r (Zi ((hs 29 rfl).trans rfl) hq))<|Sd (lg [30,18] [] rfl fun hq S hs hr=>Z9u rfl rfl Zp (Zi ((hs 30 rfl).trans rfl) hq))<|Sd (lg [25,31,18] [] rfl fun hq S hs hr=>Z2m rfl rfl (Zi ((hs 25 rfl).trans rfl) hq) (Zi ((hs 31 rfl).trans rfl) hq))<|Sd (lo [32,18] [] rfl fun S hs hr=>Z1k rfl rfl (vh hs 18 rfl rfl) (vh hs 32 rfl rfl))<|Sn<|Cq rfl h (fun h=>?_) (fun h=>?_)
    ·refine sk<|bk<|Rg<|Md rfl<|Ac (Z0r rfl rfl (vt rfl) (vk rfl)) rfl<|As rfl<|Nl ?_
     exact ⟨(_,_),Nat.lt_succ_self _,⟨trivial,h⟩,FX rfl⟩
    ·refine xt<|sq ?_
     obtain ⟨l15,hl15,h⟩:=Z7 h
     refine Rg<|Mw rfl<|Ac (opb (⟨0,0,0,0,0,Z7t⟩:Action) Z66 rfl Yvo (pn rfl)) rfl<|Ac (osl Z0g Z66 rfl (vt rfl)) rfl<|Cv rfl (Z29 1001 hl15 rfl rfl Z8l (vt rfl) rfl (vt rfl)) fun v16=>Aw rfl<|Nl<|sq<|SR<|Mw rfl<|Ac (Z4k 1001 rfl rfl Z0g (vt rfl) rfl) rfl<|Ac (Z0r rfl rfl (vt rfl) (vk rfl)) rfl<|As rfl<|Nl<|bk<|LG (d:=[]) (ν:=Nat×(List Action)×Int) (fun (m21,l19,j20)=>(True∧Zeh a11 l1 i8 (Zaq l1 m9) m21 l19 j20=some r,m21,[(0,rd (Z1 Z9) l1),(3,Zb v16),(4,rd (Z0 .i64) i8),(5,rd (Z0 .i64) a11),(6,rd (Z0 .i64) j20)],[(1001,Zf v16 219 Z9 l19)])) (((((IntKind.i64.wrap ((l15.length:Int) - 1)):Int) - a11).toNat+1),l15,(IntKind.i64.wrap ((l15.length:Int) - 1))) ⟨trivial,h⟩ (FX rfl) ?_
     rintro ⟨m21,l19,j20⟩ ⟨hsf3,h⟩
     dsimp only at h ⊢
     cases m21 with
     | zero=>cases h
     | succ m21=>
      unfold Zeh at h
      refine sq<|SR<|Md rfl<|Md rfl<|Ac (Z2m rfl rfl (vt rfl) (vt rfl)) rfl<|Nl<|Cq rfl h (fun h=>?_) (fun h=>?_)
      ·refine sk<|sq<|bk ?_
       obtain ⟨x22,hx22,x23,hx23,h⟩:=bs2 h
       refine Rg<|Mw rfl<|Md rfl<|Mw rfl<|Md rfl<|Ac (Z0r rfl rfl (vt rfl) (vk rfl)) rfl<|Ac (Z22 1001 rfl rfl Z0g (vt rfl) rfl (vt rfl) hx22) rfl<|Ac (Z1q 1001 rfl rfl Z0z (vt rfl) rfl (Z0m hx22).2) rfl<|Ac (Z22 1001 rfl rfl Z0g (vt rfl) rfl (vt rfl) hx23) rfl<|Ac (Z2w 1001 rfl rfl Z0z (vt rfl) rfl (Z0m hx23).2 (vt rfl)) rfl<|Nl<|Rg<|Md rfl<|Ac (Z0r rfl rfl (vt rfl) (vk rfl)) rfl<|As rfl<|Nl ?_
       exact ⟨(_,_,_),Nat.lt_succ_self _,⟨trivial,h⟩,FX rfl⟩
      ·refine xt ?_
       obtain ⟨x24,hx24,x25,hx25,h⟩:=bs2 h
       refine Rg<|Mw rfl<|Md rfl<|Md rfl<|Md rfl<|Ac (Z0k rfl rfl Z0g (vt rfl) (vt rfl) hx24) rfl<|Lp1 Z0z rfl<|Ac (Z22 1001 rfl rfl Z0g (vt rfl) rfl (vt rfl) hx25) rfl<|Ac (Z2w 1001 rfl rfl Z0z (vt rfl) rfl (Z0m hx25).2 (vt rfl)) rfl<|Nl<|Rg<|Md rfl<|Ac (Z06 rfl rfl (vt rfl) (vk rfl)) rfl<|As rfl<|Nl ?_
       exact ⟨(_,_,_,_),Nat.lt_succ_self _,⟨trivial,h⟩,FX rfl⟩
  ·refine xt<|SR<|Mw rfl<|Aw rfl<|Nl<|AW.freezes [2,3,63] 1001 rfl ⟨rfl,rfl,rfl,trivial⟩ rfl<|rt ?_
   cases h;exact Zd Tryz.results288 rfl (Z5 rfl)
def Zis (s1:(List Action)):Option (List Action):=
 (Z8r s1 18).bind fun x2=>(Z8r s1 17).bind fun x4=>(Z0v x2 x4).bind fun l5=>(Z8r s1 25).bind fun x7=>(Zmh x7).bind fun x8=>(Z0v l5 x8).bind fun l9=>(Z8r s1 22).bind fun x11=>(bif (decide ((x11.length:Int)>0)) then (Z0v l9 x11).bind fun l12=>some l12 else (Z8r s1 0).bind fun x14=>(Z0v l9 x14).bind fun l15=>some l15)
theorem Yqs:Q1 Tryz.prog 208 (rd (Z1 Z9)) (rd (Z1 Z9)) Zis:=fun s1 r h=>I0 Tryz.func208 rfl Tryz.ntmps208 rfl fun w H Z=>by
 unfold Zis at h
 refine SR<|Ac (Zv (A:=rd (Z1 Z9) []) rfl rfl Z1f) rfl<|Nl<|sq ?_
 obtain ⟨x2,hx2,x4,hx4,l5,hl5,h⟩:=bs3 h
 refine Rg<|Md rfl<|Cv rfl (Z1a 1001 (xs:=[.tmp 5,.const (Value.int IntKind.i64 18)]) (Y7p _ _ _ hx2) Zmf rfl rfl ⟨vt rfl,vk rfl,trivial⟩ rfl) fun v3=>Md rfl<|Ac (Z0c (xs:=[.tmp 7,.const (Value.int IntKind.i64 17)]) (Zr4 _ _ _ hx4) Zmf rfl rfl ⟨vt rfl,vk rfl,trivial⟩) rfl<|Cv rfl (Z29 1001 hl5 rfl rfl Z8l (vt rfl) rfl (vt rfl)) fun v6=>Aw rfl<|Nl<|sq ?_
 obtain ⟨x7,hx7,x8,hx8,l9,hl9,h⟩:=bs3 h
 refine Rg<|Mw rfl<|Md rfl<|Ac (Z0c (xs:=[.tmp 11,.const (Value.int IntKind.i64 25)]) (Zr4 _ _ _ hx7) Zmf rfl rfl ⟨vt rfl,vk rfl,trivial⟩) rfl<|Cl [12] (Yfj _ _ hx8) Ycl rfl<|Cv rfl (Z29 1001 hl9 rfl rfl Z8l (vt rfl) rfl (vt rfl)) fun v10=>Aw rfl<|Nl<|sq<|sq ?_
 obtain ⟨x11,hx11,h⟩:=Z7 h
 refine Rg<|Md rfl<|Ac (Z0c (xs:=[.tmp 15,.const (Value.int IntKind.i64 22)]) (Zr4 _ _ _ hx11) Zmf rfl rfl ⟨vt rfl,vk rfl,trivial⟩) rfl<|As rfl<|Nl<|SR<|Md rfl<|Ac (Z0i rfl rfl Z0g (vt rfl)) rfl<|Ac (Z2m rfl rfl (vt rfl) (vk rfl)) rfl<|Nl<|Cq rfl h (fun h=>?_) (fun h=>?_)
 ·refine sq ?_
  obtain ⟨l12,hl12,h⟩:=Z7 h
  refine Rg<|Mw rfl<|Md rfl<|Cv rfl (Z29 1001 hl12 rfl rfl Z8l (vt rfl) rfl (vt rfl)) fun v13=>Aw rfl<|Nl<|AW.freezes [2,22] 1001 rfl ⟨rfl,rfl,trivial⟩ rfl<|rt ?_
  cases h;exact Zd Tryz.results208 rfl (Z5 rfl)
 ·refine sk<|sq ?_
  obtain ⟨x14,hx14,l15,hl15,h⟩:=bs2 h
  refine Rg<|Mw rfl<|Md rfl<|Ac (Z0c (xs:=[.tmp 24,.const (Value.int IntKind.i64 0)]) (Zr4 _ _ _ hx14) Zmf rfl rfl ⟨vt rfl,vk rfl,trivial⟩) rfl<|Cv rfl (Z29 1001 hl15 rfl rfl Z8l (vt rfl) rfl (vt rfl)) fun v16=>Aw rfl<|Nl<|AW.freezes [2,26] 1001 rfl ⟨rfl,rfl,trivial⟩ rfl<|rt ?_
  cases h;exact Zd Tryz.results208 rfl (Z5 rfl)
def Zch (x12:(List Int))(t2:Int)(s1:Switch)(x4:Za)(x3:Za)(R_r33_one:(Switch→Int→Flow→Za→Za→(List Atom)→(List Action)→Option (List Rule)))(a5:(List Atom))(s6:(List Action)):Nat→(List Rule)→Int→Option (List Rule)
 | 0,_,_=>none
 | m19+1,l16,i18=>(bif (decide (i18<(x12.length:Int))) then (chk 4 t2).bind fun j20=>(lget x12 i18).bind fun x21=>(lget (Vector.get s1.Tables j20) x21).bind fun x22=>(Zkp x22).bind fun x24=>(Znd x4 x24).bind fun x25=>(bif (!x25.2) then (Zch x12 t2 s1 x4 x3 R_r33_one a5 s6 m19) l16 (IntKind.i64.wrap (i18+1)) else (Zgz x25.1 x3).bind fun x27=>(bif x27.2 then (R_r33_one s1 t2 x22 x27.1 x4 a5 s6).bind fun x29=>(Z0v l16 x29).bind fun l30=>(Zch x12 t2 s1 x4 x3 R_r33_one a5 s6 m19) l30 (IntKind.i64.wrap (i18+1)) else (Zch x12 t2 s1 x4 x3 R_r33_one a5 s6 m19) l16 (IntKind.i64.wrap (i18+1)))) else (Z0v [] a5).bind fun l33=>(Z0v l16 [(⟨x3,l33⟩:Rule)]).bind fun l34=>some l34)
def Zk9 (R_r33_walk:(Switch→Int→Za→Za→(List Atom)→(List Action)→Option (List Rule)))(R_r33_one:(Switch→Int→Flow→Za→Za→(List Atom)→(List Action)→Option (List Rule)))(s1:Switch)(t2:Int)(x3:Za)(x4:Za)(a5:(List Atom))(s6:(List Action)):Option (List Rule):=
 (chk 4 t2).bind fun j11=>(Zkl (Vector.get s1.Tables j11)).bind fun x12=>Zch x12 t2 s1 x4 x3 R_r33_one a5 s6 ((((x12.length:Int):Int) - 0).toNat+1) [] 0
theorem Yey (R_r33_walk:(Switch→Int→Za→Za→(List Atom)→(List Action)→Option (List Rule)))(hR_r33_walk:∀(s1:Switch) (t2:Int) (x3:Za) (x4:Za) (a5:(List Atom)) (s6:(List Action)) (r:(List Rule)),R_r33_walk s1 t2 x3 x4 a5 s6=some r→PCon Tryz.prog 63 [rd Z08 s1,rd (Z0 .i64) t2,rd (Z3 24 Z4) x3,rd (Z3 24 Z4) x4,rd (Z1 Z0q) a5,rd (Z1 Z9) s6] (rd (Z1 Z09) r))(R_r33_one:(Switch→Int→Flow→Za→Za→(List Atom)→(List Action)→Option (List Rule)))(hR_r33_one:∀(s1:Switch) (t2:Int) (x3:Flow) (x4:Za) (x5:Za) (a6:(List Atom)) (s7:(List Action)) (r:(List Rule)),R_r33_one s1 t2 x3 x4 x5 a6 s7=some r→PCon Tryz.prog 132 [rd Z08 s1,rd (Z0 .i64) t2,rd Z03 x3,rd (Z3 24 Z4) x4,rd (Z3 24 Z4) x5,rd (Z1 Z0q) a6,rd (Z1 Z9) s7] (rd (Z1 Z09) r))(s1:Switch)(t2:Int)(x3:Za)(x4:Za)(a5:(List Atom))(s6:(List Action))(r:(List Rule))(h:Zk9 R_r33_walk R_r33_one s1 t2 x3 x4 a5 s6=some r):PCon Tryz.prog 63 [rd Z08 s1,rd (Z0 .i64) t2,rd (Z3 24 Z4) x3,rd (Z3 24 Z4) x4,rd (Z1 Z0q) a5,rd (Z1 Z9) s6] (rd (Z1 Z09) r):=by
 refine PCon.of (Con.intro0 Tryz.func63 rfl Tryz.ntmps63 rfl fun w H Z=>?_)
 unfold Zk9 at h
 refine SR<|Cv rfl (Zs 7 rfl rfl (vt rfl)) fun g7=>Cv rfl (Zs 9 rfl rfl (vt rfl)) fun g8=>Cv rfl (Zs 10 rfl rfl (vt rfl)) fun g9=>Ac (Zv (A:=rd (Z1 Z09) []) rfl rfl Z1f) rfl<|Nl<|SR<|Cv rfl (Z4q 1001 (ps:=[]) (l:=[]) rfl rfl Z3q Z6p rfl rfl rfl rfl) fun v10=>Aw rfl<|Nl<|sq ?_
 obtain ⟨j11,hj11,x12,hx12,h⟩:=bs2 h
 refine Rg<|Md rfl<|Zk Z4n Z4u rfl<|Ac (Z13 rfl rfl Z51 (vt rfl) (vt rfl) hj11) rfl<|Ld Z38 7 rfl<|Cl [24] (Yk0 _ _ hx12) Yc1 rfl<|As rfl<|Nl<|sq<|SR<|Ak rfl<|Nl<|bk<|LG (d:=[]) (ν:=Nat×(List Rule)×Int×Value) (fun (m19,l16,i18,v17)=>(True∧Zch x12 t2 s1 x4 x3 R_r33_one a5 s6 m19 l16 i18=some r,m19,[(1,rd (Z0 .i64) t2),(4,rd (Z1 Z0q) a5),(5,rd (Z1 Z9) s6),(6,Zc g7 (Lens.id Z08)),(8,Zc g8 (Lens.id (Z3 24 Z4))),(9,Zc g9 (Lens.id (Z3 24 Z4))),(13,Zb v17),(14,rd (Z1 (Z0 .i64)) x12),(15,rd (Z0 .i64) i18)],[(7,Zh g7 26 Z08 s1),(9,Zh g8 123 (Z3 24 Z4) x3),(10,Zh g9 131 (Z3 24 Z4) x4),(1001,Zf v17 126 Z09 l16)])) (((((x12.length:Int):Int) - 0).toNat+1),[],0,v10) ⟨trivial,h⟩ (FX rfl) ?_
 rintro ⟨m19,l16,i18,v17⟩ ⟨hsf1,h⟩
 dsimp only at h ⊢
 cases m19 with
 | zero=>cases h
 | succ m19=>
  unfold Zch at h
  refine sq<|SR<|Md rfl<|Md rfl<|Ac (Z0i rfl rfl Z11 (vt rfl)) rfl<|Ac (Zj rfl rfl (vt rfl) (vt rfl)) rfl<|Nl<|Cq rfl h (fun h=>?_) (fun h=>?_)
  ·refine sk<|sq<|bk<|sq ?_
   obtain ⟨j20,hj20,x21,hx21,x22,hx22,h⟩:=bs3 h
   refine AR Z00 (by kernel_rfl)<|Zt rfl<|SFd Z4n Z4u rfl<|Sd (lo [33,32] [] rfl fun S hs hr=>Z13 rfl rfl Z51 (vh hs 33 rfl rfl) (vh hs 32 rfl rfl) hj20)<|Zo Z38 7 rfl<|Zt rfl<|Zt rfl<|Sd (lo [36,37] [] rfl fun S hs hr=>Z0k rfl rfl Z11 (vh hs 36 rfl rfl) (vh hs 37 rfl rfl) hx21)<|SLp Zp rfl<|Sd (lo [35,39] [] rfl fun S hs hr=>Z0k rfl rfl Z2e (vh hs 35 rfl rfl) (vh hs 39 rfl rfl) hx22)<|SLp Z2b rfl<|Sd (Z19 (us:=[(16,Z2t 48 Z03 Zu5)]) (ur:=[]) [] [] rfl fun S hs hr=>Z7k rfl rfl rfl Z61)<|Sd (Z19 (us:=[(16,Z2t 48 Z03 x22)]) (ur:=[]) [16,41] [] rfl fun S hs hr=>Z70 rfl rfl Z2b ((hs 16 rfl).trans rfl) (vh hs 41 rfl rfl))<|Sn<|AW.unpackP 16 17 rfl rfl fun g23=>sq ?_
   obtain ⟨x24,hx24,x25,hx25,h⟩:=bs2 h
   refine AR Z00 (by kernel_rfl)<|Zo Z04 10 rfl<|Zo Z2b 17 rfl<|SCl [44] (Yqm _ _ hx24) Yp5 rfl<|SCl [43,45] (Ywl _ _ _ hx25) Ylu rfl<|Sd (lo [46] [] rfl fun S hs hr=>Zq (A:=Z10 (rd (Z3 24 Z4) x25.1) (rd Z6 x25.2)) rfl rfl (vh hs 46 rfl rfl))<|Sd (lo [42] [] rfl fun S hs hr=>Z1c rfl rfl (vh hs 42 rfl rfl))<|Sd (lo [42] [] rfl fun S hs hr=>Z18 rfl rfl (vh hs 42 rfl rfl))<|Sd (Z19 (us:=[(17,Z2t 123 (Z3 24 Z4) (Vector.replicate 24 zTern))]) (ur:=[]) [] [] rfl fun S hs hr=>Z7k rfl rfl rfl Z1i)<|Sd (Z19 (us:=[(17,Z2t 123 (Z3 24 Z4) x25.1)]) (ur:=[]) [17,47] [] rfl fun S hs hr=>Z70 rfl rfl Z02 ((hs 17 rfl).trans rfl) (vh hs 47 rfl rfl))<|SAs rfl<|Sn<|AW.unpackP 17 18 rfl rfl fun g26=>sq<|SR<|Md rfl<|Ac (Z0y rfl rfl (vt rfl)) rfl<|Nl<|Cq rfl h (fun h=>?_) (fun h=>?_)
   ·refine xt<|Rg<|Md rfl<|Ac (Z06 rfl rfl (vt rfl) (vk rfl)) rfl<|As rfl<|Nl ?_
    exact ⟨(_,_,_,_),Nat.lt_succ_self _,⟨trivial,h⟩,FX rfl⟩
   ·refine sk<|sq ?_
    obtain ⟨x27,hx27,h⟩:=Z7 h
    refine Rg<|Ld Z02 18 rfl<|Ld Z02 9 rfl<|Cl [52,53] (Y35 _ _ _ hx27) Zzl rfl<|Mt2 rfl<|Ac (Z1c rfl rfl (vt rfl)) rfl<|Ac (Z18 rfl rfl (vt rfl)) rfl<|Cv rfl (Zm 20 rfl rfl Z1i) fun g28=>Zg Z02 20 rfl<|As rfl<|Nl<|SR<|Md rfl<|Nl<|Cq rfl h (fun h=>?_) (fun h=>?_)
    ·obtain ⟨x29,hx29,l30,hl30,h⟩:=bs2 h
     refine Rg<|Mw rfl<|Ld Z20 7 rfl<|Md rfl<|Ld Z2b 17 rfl<|Ld Z02 20 rfl<|Ld Z04 10 rfl<|Md rfl<|Md rfl<|Cl [59,60,61,62,63,64,65] (hR_r33_one _ _ _ _ _ _ _ _ hx29) Yw4 rfl<|Cv rfl (Z29 1001 hl30 rfl rfl Zkv (vt rfl) rfl (vt rfl)) fun v31=>Aw rfl<|Nl<|Rg<|Md rfl<|Ac (Z06 rfl rfl (vt rfl) (vk rfl)) rfl<|As rfl<|Nl ?_
     exact ⟨(_,_,_,_),Nat.lt_succ_self _,⟨trivial,h⟩,FX rfl⟩
    ·refine sk<|Rg<|Md rfl<|Ac (Z06 rfl rfl (vt rfl) (vk rfl)) rfl<|As rfl<|Nl ?_
     exact ⟨(_,_,_,_),Nat.lt_succ_self _,⟨trivial,h⟩,FX rfl⟩
  ·refine xt<|sq ?_
   obtain ⟨l33,hl33,l34,hl34,h⟩:=bs2 h
   refine AR Z00 (by kernel_rfl)<|SMw rfl<|Zo Z02 9 rfl<|Sd (Z19 (us:=[(70,Z1p 296 Z0q ([]:List Atom))]) (ur:=[]) [] [1003] rfl fun S hs hr=>Y7j (Z4q 1003 (ps:=[]) (l:=[]) rfl rfl Z7n Z7b rfl rfl rfl rfl) rfl ((hr 1003 rfl).trans rfl))<|Zt rfl<|Sd (Z19 (us:=[(70,top),(72,rd (Z1 Z0q) l33)]) (ur:=[]) [70,71] [1004] rfl fun S hs hr=>Y0s 1004 rfl hl33 rfl rfl rfl Zak ((hs 70 rfl).trans rfl) ((hr 1004 rfl).trans rfl) (fun v=>vtS rfl ((hs 71 rfl).trans rfl)))<|Sd (lo [69,72] [] rfl fun S hs hr=>opb (⟨x3,l33⟩:Rule) Z6p rfl Zuz (pc Zvg (vh hs 69 rfl rfl)<|pc Zxi (vh hs 72 rfl rfl)<|pn rfl))<|Sd (lo [73] [] rfl fun S hs hr=>osl Z3q Z6p rfl (vh hs 73 rfl rfl))<|Sd (Z19 (us:=[(75,Z1p 126 Z09 l34)]) (ur:=[(1001,emp)]) [68,74] [1001] rfl fun S hs hr=>Z8k 1001 hl34 rfl rfl rfl Zkv (vh hs 68 rfl rfl) ((hr 1001 rfl).trans rfl) (vh hs 74 rfl rfl))<|Sd (Z19 (us:=[(75,top),(12,Z1p 126 Z09 l34)]) (ur:=[]) [75] [1005] rfl fun S hs hr=>Zif 1005 rfl rfl rfl rfl ((hs 75 rfl).trans rfl) ((hr 1005 rfl).trans rfl))<|Sn<|AW.unpackR 12 1001 rfl rfl fun v35=>AW.freezes [12] 1001 rfl ⟨rfl,trivial⟩ rfl<|rt ?_
   cases h;exact Zd Tryz.results63 rfl (Z5 rfl)
def Zff (x3:Flow)(t2:Int)(R_r33_walk:(Switch→Int→Za→Za→(List Atom)→(List Action)→Option (List Rule)))(s1:Switch)(x4:Za)(l15:(List Atom))(s19:(List Action))(b20:Za):Option (List Rule):=
 (Zaw x3.Insts 1).bind fun x21=>(bif ((x21.2&&(decide (x21.1.Table>t2)))&&(decide (x21.1.Table<4))) then (R_r33_walk s1 x21.1.Table x4 b20 l15 s19).bind fun x23=>some x23 else (Zis s19).bind fun x24=>(Zdy x24 b20).bind fun x25=>(Z0v l15 x25.1).bind fun l27=>some [(⟨x4,l27⟩:Rule)])
def Zi0 (x3:Flow)(b17:Za)(t2:Int)(R_r33_walk:(Switch→Int→Za→Za→(List Atom)→(List Action)→Option (List Rule)))(s1:Switch)(x4:Za)(l15:(List Atom))(s19:(List Action)):Option (List Rule):=
 (Zaw x3.Insts 2).bind fun x28=>(bif x28.2 then (Zaj b17 1 x28.1.Value x28.1.Mask).bind fun x30=>Zff x3 t2 R_r33_walk s1 x4 l15 s19 x30 else Zff x3 t2 R_r33_walk s1 x4 l15 s19 b17)
def Zgk (x3:Flow)(b17:Za)(t2:Int)(R_r33_walk:(Switch→Int→Za→Za→(List Atom)→(List Action)→Option (List Rule)))(s1:Switch)(x4:Za)(l15:(List Atom))(s18:(List Action)):Option (List Rule):=
 (Zaw x3.Insts 3).bind fun x31=>(bif x31.2 then (Zn8 s18 x31.1.Acts).bind fun x33=>Zi0 x3 b17 t2 R_r33_walk s1 x4 l15 x33 else Zi0 x3 b17 t2 R_r33_walk s1 x4 l15 s18)
def Zio (x3:Flow)(t2:Int)(R_r33_walk:(Switch→Int→Za→Za→(List Atom)→(List Action)→Option (List Rule)))(s1:Switch)(x4:Za)(s7:(List Action))(l15:(List Atom))(b17:Za):Option (List Rule):=
 (Zaw x3.Insts 5).bind fun x34=>(bif x34.2 then Zgk x3 b17 t2 R_r33_walk s1 x4 l15 [] else Zgk x3 b17 t2 R_r33_walk s1 x4 l15 s7)
def Zik (R_r33_walk:(Switch→Int→Za→Za→(List Atom)→(List Action)→Option (List Rule)))(R_r33_one:(Switch→Int→Flow→Za→Za→(List Atom)→(List Action)→Option (List Rule)))(s1:Switch)(t2:Int)(x3:Flow)(x4:Za)(x5:Za)(a6:(List Atom))(s7:(List Action)):Option (List Rule):=
 (Z0v [] a6).bind fun l13=>(Zaw x3.Insts 4).bind fun x36=>(bif x36.2 then (Zdy x36.1.Acts x5).bind fun x38=>(Z0v l13 x38.1).bind fun l40=>Zio x3 t2 R_r33_walk s1 x4 s7 l40 x38.2 else Zio x3 t2 R_r33_walk s1 x4 s7 l13 x5)
theorem Yq1 (R_r33_walk:(Switch→Int→Za→Za→(List Atom)→(List Action)→Option (List Rule)))(hR_r33_walk:∀(s1:Switch) (t2:Int) (x3:Za) (x4:Za) (a5:(List Atom)) (s6:(List Action)) (r:(List Rule)),R_r33_walk s1 t2 x3 x4 a5 s6=some r→PCon Tryz.prog 63 [rd Z08 s1,rd (Z0 .i64) t2,rd (Z3 24 Z4) x3,rd (Z3 24 Z4) x4,rd (Z1 Z0q) a5,rd (Z1 Z9) s6] (rd (Z1 Z09) r))(R_r33_one:(Switch→Int→Flow→Za→Za→(List Atom)→(List Action)→Option (List Rule)))(hR_r33_one:∀(s1:Switch) (t2:Int) (x3:Flow) (x4:Za) (x5:Za) (a6:(List Atom)) (s7:(List Action)) (r:(List Rule)),R_r33_one s1 t2 x3 x4 x5 a6 s7=some r→PCon Tryz.prog 132 [rd Z08 s1,rd (Z0 .i64) t2,rd Z03 x3,rd (Z3 24 Z4) x4,rd (Z3 24 Z4) x5,rd (Z1 Z0q) a6,rd (Z1 Z9) s7] (rd (Z1 Z09) r))(s1:Switch)(t2:Int)(x3:Flow)(x4:Za)(x5:Za)(a6:(List Atom))(s7:(List Action))(r:(List Rule))(h:Zik R_r33_walk R_r33_one s1 t2 x3 x4 x5 a6 s7=some r):PCon Tryz.prog 132 [rd Z08 s1,rd (Z0 .i64) t2,rd Z03 x3,rd (Z3 24 Z4) x4,rd (Z3 24 Z4) x5,rd (Z1 Z0q) a6,rd (Z1 Z9) s7] (rd (Z1 Z09) r):=by
 refine PCon.of (Con.intro0 Tryz.func132 rfl Tryz.ntmps132 rfl fun w H Z=>?_)
 unfold Zik at h
 refine SR<|Cv rfl (Zs 8 rfl rfl (vt rfl)) fun g8=>Cv rfl (Zs 10 rfl rfl (vt rfl)) fun g9=>Cv rfl (Zs 11 rfl rfl (vt rfl)) fun g10=>Cv rfl (Zs 12 rfl rfl (vt rfl)) fun g11=>Ac (Zv (A:=rd (Z1 Z09) []) rfl rfl Z1f) rfl<|Nl<|sq ?_
 obtain ⟨l13,hl13,h⟩:=Z7 h
 refine Rg<|Cv rfl (Z4q 1001 (ps:=[]) (l:=[]) rfl rfl Z7n Z7b rfl rfl rfl rfl) fun v12=>Md rfl<|Cv rfl (Z29 1001 hl13 rfl rfl Zak (vt rfl) rfl (vt rfl)) fun v14=>Aw rfl<|Nl ?_
 refine JN (d:=[]) (ν:=(List Atom)×Za×Value) (fun (l15,b17,v16)=>(Zio x3 t2 R_r33_walk s1 x4 s7 l15 b17=some r,[(1,rd (Z0 .i64) t2),(5,Zb v16),(6,rd (Z1 Z9) s7),(7,Zc g8 (Lens.id Z08)),(9,Zc g9 (Lens.id Z03)),(10,Zc g10 (Lens.id (Z3 24 Z4))),(11,Zc g11 (Lens.id (Z3 24 Z4)))],[(8,Zh g8 26 Z08 s1),(10,Zh g9 48 Z03 x3),(11,Zh g10 123 (Z3 24 Z4) x4),(12,Zh g11 131 (Z3 24 Z4) b17),(1001,Zf v16 296 Z0q l15)])) ?hx1 ?hy1
 case hy1=>
  rintro ⟨l15,b17,v16⟩ h
  dsimp only at h ⊢
  unfold Zio at h
  refine JN (d:=[]) (ν:=(List Action)) (fun s18=>(Zgk x3 b17 t2 R_r33_walk s1 x4 l15 s18=some r,[(1,rd (Z0 .i64) t2),(5,Zb v16),(6,rd (Z1 Z9) s18),(7,Zc g8 (Lens.id Z08)),(9,Zc g9 (Lens.id Z03)),(10,Zc g10 (Lens.id (Z3 24 Z4))),(11,Zc g11 (Lens.id (Z3 24 Z4)))],[(8,Zh g8 26 Z08 s1),(10,Zh g9 48 Z03 x3),(11,Zh g10 123 (Z3 24 Z4) x4),(12,Zh g11 131 (Z3 24 Z4) b17),(1001,Zf v16 296 Z0q l15)])) ?hx2 ?hy2
  case hy2=>
   intro s18 h
   dsimp only at h ⊢
   unfold Zgk at h
   refine JN (d:=[]) (ν:=(List Action)) (fun s19=>(Zi0 x3 b17 t2 R_r33_walk s1 x4 l15 s19=some r,[(1,rd (Z0 .i64) t2),(5,Zb v16),(6,rd (Z1 Z9) s19),(7,Zc g8 (Lens.id Z08)),(9,Zc g9 (Lens.id Z03)),(10,Zc g10 (Lens.id (Z3 24 Z4))),(11,Zc g11 (Lens.id (Z3 24 Z4)))],[(8,Zh g8 26 Z08 s1),(10,Zh g9 48 Z03 x3),(11,Zh g10 123 (Z3 24 Z4) x4),(12,Zh g11 131 (Z3 24 Z4) b17),(1001,Zf v16 296 Z0q l15)])) ?hx3 ?hy3
   case hy3=>
    intro s19 h
    dsimp only at h ⊢
    unfold Zi0 at h
    refine JN (d:=[]) (ν:=Za) (fun b20=>(Zff x3 t2 R_r33_walk s1 x4 l15 s19 b20=some r,[(1,rd (Z0 .i64) t2),(5,Zb v16),(6,rd (Z1 Z9) s19),(7,Zc g8 (Lens.id Z08)),(9,Zc g9 (Lens.id Z03)),(10,Zc g10 (Lens.id (Z3 24 Z4))),(11,Zc g11 (Lens.id (Z3 24 Z4)))],[(8,Zh g8 26 Z08 s1),(10,Zh g9 48 Z03 x3),(11,Zh g10 123 (Z3 24 Z4) x4),(12,Zh g11 131 (Z3 24 Z4) b20),(1001,Zf v16 296 Z0q l15)])) ?hx4 ?hy4
    case hy4=>
     intro b20 h
     dsimp only at h ⊢
     unfold Zff at h
     refine sq ?_
     obtain ⟨x21,hx21,h⟩:=Z7 h
     refine Rg<|Zk lFlow_6 Z8h rfl<|Ld Z5v 10 rfl<|Ac (Z0c (xs:=[.tmp 83,.const (Value.int IntKind.i64 1)]) (Zn5 _ _ _ hx21) Zjo rfl rfl ⟨vt rfl,vk rfl,trivial⟩) rfl<|Mt2 rfl<|Ac (Z1c rfl rfl (vt rfl)) rfl<|Ac (Z18 rfl rfl (vt rfl)) rfl<|Cv rfl (Zm 26 rfl rfl Z3f) fun g22=>Zg Z25 26 rfl<|As rfl<|Nl<|sq<|SR<|Md rfl<|Md rfl<|Gd rfl (fun hq=>Z2n Z73 rfl rfl Z87 (vt rfl))<|Gd rfl (fun hq=>Z1s rfl rfl Zp (Zi rfl hq) (i:=26) rfl)<|Gd rfl (fun hq=>Zq (A:=rd (Z0 .i64) t2) rfl rfl (vt rfl))<|Gd rfl (fun hq=>Z2m rfl rfl (Zi rfl hq) (Zi rfl hq))<|Ac (Z1k rfl rfl (vt rfl) (vt rfl)) rfl<|Md rfl<|Gd rfl (fun hq=>Z2n Z73 rfl rfl Z87 (vt rfl))<|Gd rfl (fun hq=>Z1s rfl rfl Zp (Zi rfl hq) (i:=26) rfl)<|Gd rfl (fun hq=>Zj rfl rfl (Zi rfl hq) (vk rfl))<|Ac (Z1k rfl rfl (vt rfl) (vt rfl)) rfl<|Nl<|Cq rfl h (fun h=>?_) (fun h=>?_)
     ·refine sq<|AW.freezes [5] 1001 rfl ⟨rfl,trivial⟩ rfl ?_
      obtain ⟨x23,hx23,h⟩:=Z7 h
      refine Rg<|Ld Z20 8 rfl<|Zk Z73 Z87 rfl<|Ld Zp 26 rfl<|Ld Z02 11 rfl<|Ld Z04 12 rfl<|Md rfl<|Md rfl<|Cl [99,101,102,103,104,105] (hR_r33_walk _ _ _ _ _ _ _ hx23) e63 rfl<|As rfl<|Nl<|rt ?_
      cases h;exact Zd Tryz.results132 rfl (Z5 rfl)
     ·refine sk<|sq ?_
      obtain ⟨x24,hx24,x25,hx25,h⟩:=bs2 h
      refine AR Z00 (by kernel_rfl)<|Zt rfl<|SCl [108] (Yqs _ _ hx24) Yd3 rfl<|Zo Z04 12 rfl<|SCl [109,110] (Y53 _ _ _ hx25) Y82 rfl<|Sd (lo [111] [] rfl fun S hs hr=>Zq (A:=Z10 (rd (Z1 Z0q) x25.1) (rd (Z3 24 Z4) x25.2)) rfl rfl (vh hs 111 rfl rfl))<|Sd (lo [107] [] rfl fun S hs hr=>Z1c rfl rfl (vh hs 107 rfl rfl))<|Sd (lo [107] [] rfl fun S hs hr=>Z18 rfl rfl (vh hs 107 rfl rfl))<|Sd (Z19 (us:=[(28,Z2t 131 (Z3 24 Z4) (Vector.replicate 24 zTern))]) (ur:=[]) [] [] rfl fun S hs hr=>Z7k rfl rfl rfl Z3p)<|SAs rfl<|Sd (Z19 (us:=[(28,Z2t 131 (Z3 24 Z4) x25.2)]) (ur:=[]) [28,113] [] rfl fun S hs hr=>Z70 rfl rfl Z04 ((hs 28 rfl).trans rfl) (vh hs 113 rfl rfl))<|Sn<|AW.unpackP 28 29 rfl rfl fun g26=>sq ?_
      obtain ⟨l27,hl27,h⟩:=Z7 h
      refine AR Z00 (by kernel_rfl)<|Zo Z02 11 rfl<|SMw rfl<|Zt rfl<|Sd (Z19 (us:=[(117,rd (Z1 Z0q) l27)]) (ur:=[(1001,emp)]) [115,116] [1001] rfl fun S hs hr=>Ycp 1001 rfl hl27 rfl rfl rfl Zak (vh hs 115 rfl rfl) ((hr 1001 rfl).trans rfl) (vh hs 116 rfl rfl))<|Sd (lo [114,117] [] rfl fun S hs hr=>opb (⟨x4,l27⟩:Rule) Z6p rfl Zuz (pc Zvg (vh hs 114 rfl rfl)<|pc Zxi (vh hs 117 rfl rfl)<|pn rfl))<|Sd (lo [118] [] rfl fun S hs hr=>osl Z3q Z6p rfl (vh hs 118 rfl rfl))<|SAs rfl<|Sn<|rt ?_
      cases h;exact Zd Tryz.results132 rfl (Z5 rfl)
    case hx4=>
     refine sq ?_
     obtain ⟨x28,hx28,h⟩:=Z7 h
     refine Rg<|Zk lFlow_6 Z8h rfl<|Ld Z5v 10 rfl<|Ac (Z0c (xs:=[.tmp 70,.const (Value.int IntKind.i64 2)]) (Zn5 _ _ _ hx28) Zjo rfl rfl ⟨vt rfl,vk rfl,trivial⟩) rfl<|Mt2 rfl<|Ac (Z1c rfl rfl (vt rfl)) rfl<|Ac (Z18 rfl rfl (vt rfl)) rfl<|Cv rfl (Zm 24 rfl rfl Z3f) fun g29=>Zg Z25 24 rfl<|As rfl<|Nl<|SR<|Md rfl<|Nl<|Cq rfl h (fun h=>?_) (fun h=>?_)
     ·obtain ⟨x30,hx30,h⟩:=Z7 h
      refine Rg<|Ld Z04 12 rfl<|Zk Zrk Zuh rfl<|Ld Zw 24 rfl<|Zk Zon Zyf rfl<|Ld Zw 24 rfl<|Ac (Z0c (xs:=[.tmp 75,.const (Value.int IntKind.i64 1),.tmp 77,.tmp 79]) (Zmo _ _ _ _ _ hx30) Zk0 rfl rfl ⟨vt rfl,vk rfl,vt rfl,vt rfl,trivial⟩) rfl<|Zg Z04 12 rfl<|Nl ?_
      exact ⟨_,h,FX rfl⟩
     ·refine sk ?_
      exact ⟨_,h,FX rfl⟩
   case hx3=>
    refine sq ?_
    obtain ⟨x31,hx31,h⟩:=Z7 h
    refine Rg<|Zk lFlow_6 Z8h rfl<|Ld Z5v 10 rfl<|Ac (Z0c (xs:=[.tmp 59,.const (Value.int IntKind.i64 3)]) (Zn5 _ _ _ hx31) Zjo rfl rfl ⟨vt rfl,vk rfl,trivial⟩) rfl<|Mt2 rfl<|Ac (Z1c rfl rfl (vt rfl)) rfl<|Ac (Z18 rfl rfl (vt rfl)) rfl<|Cv rfl (Zm 22 rfl rfl Z3f) fun g32=>Zg Z25 22 rfl<|As rfl<|Nl<|SR<|Md rfl<|Nl<|Cq rfl h (fun h=>?_) (fun h=>?_)
    ·obtain ⟨x33,hx33,h⟩:=Z7 h
     refine Rg<|Md rfl<|Zk Z60 Z6w rfl<|Ld Z2z 22 rfl<|Cl [64,66] (Yhv _ _ _ hx33) Yv3 rfl<|As rfl<|Nl ?_
     exact ⟨_,h,FX rfl⟩
    ·refine sk ?_
     exact ⟨_,h,FX rfl⟩
  case hx2=>
   refine sq ?_
   obtain ⟨x34,hx34,h⟩:=Z7 h
   refine Rg<|Zk lFlow_6 Z8h rfl<|Ld Z5v 10 rfl<|Ac (Z0c (xs:=[.tmp 52,.const (Value.int IntKind.i64 5)]) (Zn5 _ _ _ hx34) Zjo rfl rfl ⟨vt rfl,vk rfl,trivial⟩) rfl<|Mt2 rfl<|Ac (Z1c rfl rfl (vt rfl)) rfl<|Ac (Z18 rfl rfl (vt rfl)) rfl<|Cv rfl (Zm 20 rfl rfl Z3f) fun g35=>Zg Z25 20 rfl<|As rfl<|Nl<|SR<|Md rfl<|Nl<|Cq rfl h (fun h=>?_) (fun h=>?_)
   ·refine Rg<|Ac (Zv (A:=rd (Z1 Z9) []) rfl rfl Z1f) rfl<|Nl ?_
    exact ⟨_,h,FX rfl⟩
   ·refine sk ?_
    exact ⟨_,h,FX rfl⟩
 case hx1=>
  refine sq ?_
  obtain ⟨x36,hx36,h⟩:=Z7 h
  refine Rg<|Zk lFlow_6 Z8h rfl<|Ld Z5v 10 rfl<|Ac (Z0c (xs:=[.tmp 34,.const (Value.int IntKind.i64 4)]) (Zn5 _ _ _ hx36) Zjo rfl rfl ⟨vt rfl,vk rfl,trivial⟩) rfl<|Mt2 rfl<|Ac (Z1c rfl rfl (vt rfl)) rfl<|Ac (Z18 rfl rfl (vt rfl)) rfl<|Cv rfl (Zm 16 rfl rfl Z3f) fun g37=>Zg Z25 16 rfl<|As rfl<|Nl<|SR<|Md rfl<|Nl<|Cq rfl h (fun h=>?_) (fun h=>?_)
  ·refine sq ?_
   obtain ⟨x38,hx38,h⟩:=Z7 h
   refine Rg<|Zk Z60 Z6w rfl<|Ld Z2z 16 rfl<|Ld Z04 12 rfl<|Cl [41,42] (Y53 _ _ _ hx38) Y82 rfl<|Mt2 rfl<|Ac (Z1c rfl rfl (vt rfl)) rfl<|Ac (Z18 rfl rfl (vt rfl)) rfl<|Cv rfl (Zm 19 rfl rfl Z3p) fun g39=>As rfl<|Zg Z04 19 rfl<|Nl ?_
   obtain ⟨l40,hl40,h⟩:=Z7 h
   refine AW.endT<|AR Z00 (by kernel_rfl)<|SMw rfl<|Zt rfl<|Sd (Z19 (us:=[(48,Z1p 296 Z0q l40)]) (ur:=[(1001,emp)]) [46,47] [1001] rfl fun S hs hr=>Z8k 1001 hl40 rfl rfl rfl Zak (vh hs 46 rfl rfl) ((hr 1001 rfl).trans rfl) (vh hs 47 rfl rfl))<|Zo Z04 19 rfl<|Sd (Z19 (us:=[(48,top),(5,Z1p 296 Z0q l40)]) (ur:=[]) [48] [1002] rfl fun S hs hr=>Zif 1002 rfl rfl rfl rfl ((hs 48 rfl).trans rfl) ((hr 1002 rfl).trans rfl))<|SSt Z04 12 rfl<|Sn<|EndT.unpackR 5 1001 rfl rfl fun v41=>EndT.done ?_
   exact ⟨(_,_,_),h,FX rfl⟩
  ·refine sk ?_
   exact ⟨(_,_,_),h,FX rfl⟩
def Z4m:Nat→(Switch→Int→Za→Za→(List Atom)→(List Action)→Option (List Rule))×(Switch→Int→Flow→Za→Za→(List Atom)→(List Action)→Option (List Rule))
 | 0=>((fun _ _ _ _ _ _=>none),(fun _ _ _ _ _ _ _=>none))
 | n+1=>((Zk9 (Z4m n).1 (Z4m n).2),(Zik (Z4m n).1 (Z4m n).2))
theorem Y9v:∀n:Nat,(∀(s1:Switch) (t2:Int) (x3:Za) (x4:Za) (a5:(List Atom)) (s6:(List Action)) (r:(List Rule)),(Z4m n).1 s1 t2 x3 x4 a5 s6=some r→PCon Tryz.prog 63 [rd Z08 s1,rd (Z0 .i64) t2,rd (Z3 24 Z4) x3,rd (Z3 24 Z4) x4,rd (Z1 Z0q) a5,rd (Z1 Z9) s6] (rd (Z1 Z09) r))∧(∀(s1:Switch) (t2:Int) (x3:Flow) (x4:Za) (x5:Za) (a6:(List Atom)) (s7:(List Action)) (r:(List Rule)),(Z4m n).2 s1 t2 x3 x4 x5 a6 s7=some r→PCon Tryz.prog 132 [rd Z08 s1,rd (Z0 .i64) t2,rd Z03 x3,rd (Z3 24 Z4) x4,rd (Z3 24 Z4) x5,rd (Z1 Z0q) a6,rd (Z1 Z9) s7] (rd (Z1 Z09) r))
 | 0=>⟨(by intros;rename_i h;cases h),(by intros;rename_i h;cases h)⟩
 | n+1=>by
  have ih:=Y9v n
  exact ⟨(Yey (Z4m n).1 ih.1 (Z4m n).2 ih.2),(Yq1 (Z4m n).1 ih.1 (Z4m n).2 ih.2)⟩
def Zvt (s1:Switch)(t2:Int)(x3:Za)(x4:Za)(a5:(List Atom))(s6:(List Action)):Option (List Rule):=(Z4m Z0s).1 s1 t2 x3 x4 a5 s6
theorem Ynb:∀(s1:Switch) (t2:Int) (x3:Za) (x4:Za) (a5:(List Atom)) (s6:(List Action)) (r:(List Rule)),Zvt s1 t2 x3 x4 a5 s6=some r→PCon Tryz.prog 63 [rd Z08 s1,rd (Z0 .i64) t2,rd (Z3 24 Z4) x3,rd (Z3 24 Z4) x4,rd (Z1 Z0q) a5,rd (Z1 Z9) s6] (rd (Z1 Z09) r):=(Y9v Z0s).1
end Go.Proofs.YtinplddjjalohaaGreatDoor.W
