/- A part of the proof. -/
import Derived.Test.YtinplddjjalohaaGreatDoorL2
import Derived.Test.YtinplddjjalohaaGreatDoorProg
import Derived.KernelRfl
set_option linter.unusedVariables false
set_option maxHeartbeats 1000000
set_option maxRecDepth 4000
set_option linter.unusedSimpArgs false
namespace Go.Proofs.YtinplddjjalohaaGreatDoor.W
open Go Go.Wb
structure Wide where
 Hi:(BitVec 64)
 Lo:(BitVec 64)
 deriving DecidableEq,Inhabited
def Zn:Kd Wide:=Z18 (Z2 Z04 Z04) (fun x=>(x.Hi,x.Lo))
instance:PureK Zn:=inferInstanceAs (PureK (Z18 (Z2 Z04 Z04) (fun (x:Wide)=>(x.Hi,x.Lo))))
def lWide_0:Lens Zn Z04:=Lens.iso (k:=(Z2 Z04 Z04)) (Lens.fst _ _) Wide.Hi (fun x y=>{x with Hi:=y}) (fun _=>rfl) (fun _ _=>rfl)
def lWide_1:Lens Zn Z04:=Lens.iso (k:=(Z2 Z04 Z04)) (Lens.snd _ _) Wide.Lo (fun x y=>{x with Lo:=y}) (fun _=>rfl) (fun _ _=>rfl)
def Z0s:Wide:=⟨0,0⟩
def Z9f:List Value:=([.int .u64 0]++[.int .u64 0])
theorem Z8o:KZ Zn Z0s Z9f:=Z2o (Z0q Zj0 Zj0)
structure Oxm where
 Field:Int
 Masked:Bool
 Value:Wide
 Mask:Wide
 deriving DecidableEq,Inhabited
def Z0k:Kd Oxm:=Z18 (Z2 (Z0 .i64) (Z2 Z6 (Z2 Zn Zn))) (fun x=>(x.Field,(x.Masked,(x.Value,x.Mask))))
instance:PureK Z0k:=inferInstanceAs (PureK (Z18 (Z2 (Z0 .i64) (Z2 Z6 (Z2 Zn Zn))) (fun (x:Oxm)=>(x.Field,(x.Masked,(x.Value,x.Mask))))))
def Z4w:Lens Z0k (Z0 .i64):=Lens.iso (k:=(Z2 (Z0 .i64) (Z2 Z6 (Z2 Zn Zn)))) (Lens.fst _ _) Oxm.Field (fun x y=>{x with Field:=y}) (fun _=>rfl) (fun _ _=>rfl)
def Zvg:Lens Z0k Z6:=Lens.iso (k:=(Z2 (Z0 .i64) (Z2 Z6 (Z2 Zn Zn)))) (Lens.comp (Lens.snd _ _) (Lens.fst _ _)) Oxm.Masked (fun x y=>{x with Masked:=y}) (fun _=>rfl) (fun _ _=>rfl)
def Zm6:Lens Z0k Zn:=Lens.iso (k:=(Z2 (Z0 .i64) (Z2 Z6 (Z2 Zn Zn)))) (Lens.comp (Lens.comp (Lens.snd _ _) (Lens.snd _ _)) (Lens.fst _ _)) Oxm.Value (fun x y=>{x with Value:=y}) (fun _=>rfl) (fun _ _=>rfl)
def Zxk:Lens Z0k Zn:=Lens.iso (k:=(Z2 (Z0 .i64) (Z2 Z6 (Z2 Zn Zn)))) (Lens.comp (Lens.comp (Lens.snd _ _) (Lens.snd _ _)) (Lens.snd _ _)) Oxm.Mask (fun x y=>{x with Mask:=y}) (fun _=>rfl) (fun _ _=>rfl)
def Z8q:Oxm:=⟨0,false,Z0s,Z0s⟩
def Ya5:List Value:=([.int .i64 0]++([.bool false]++(Z9f++Z9f)))
theorem Y7f:KZ Z0k Z8q Ya5:=Z2o (Z0q Z1q (Z0q Zit (Z0q Z8o Z8o)))
structure Action where
 Kind:Int
 Port:Int
 Max:Int
 Group:Int
 Ether:Int
 Oxm:Oxm
 deriving DecidableEq,Inhabited
def Z9:Kd Action:=Z18 (Z2 (Z0 .i64) (Z2 (Z0 .i64) (Z2 (Z0 .i64) (Z2 (Z0 .i64) (Z2 (Z0 .i64) Z0k))))) (fun x=>(x.Kind,(x.Port,(x.Max,(x.Group,(x.Ether,x.Oxm))))))
instance:PureK Z9:=inferInstanceAs (PureK (Z18 (Z2 (Z0 .i64) (Z2 (Z0 .i64) (Z2 (Z0 .i64) (Z2 (Z0 .i64) (Z2 (Z0 .i64) Z0k))))) (fun (x:Action)=>(x.Kind,(x.Port,(x.Max,(x.Group,(x.Ether,x.Oxm))))))))
def Z5t:Lens Z9 (Z0 .i64):=Lens.iso (k:=(Z2 (Z0 .i64) (Z2 (Z0 .i64) (Z2 (Z0 .i64) (Z2 (Z0 .i64) (Z2 (Z0 .i64) Z0k)))))) (Lens.fst _ _) Action.Kind (fun x y=>{x with Kind:=y}) (fun _=>rfl) (fun _ _=>rfl)
def Zgl:Lens Z9 (Z0 .i64):=Lens.iso (k:=(Z2 (Z0 .i64) (Z2 (Z0 .i64) (Z2 (Z0 .i64) (Z2 (Z0 .i64) (Z2 (Z0 .i64) Z0k)))))) (Lens.comp (Lens.snd _ _) (Lens.fst _ _)) Action.Port (fun x y=>{x with Port:=y}) (fun _=>rfl) (fun _ _=>rfl)
def Zse:Lens Z9 (Z0 .i64):=Lens.iso (k:=(Z2 (Z0 .i64) (Z2 (Z0 .i64) (Z2 (Z0 .i64) (Z2 (Z0 .i64) (Z2 (Z0 .i64) Z0k)))))) (Lens.comp (Lens.comp (Lens.snd _ _) (Lens.snd _ _)) (Lens.fst _ _)) Action.Max (fun x y=>{x with Max:=y}) (fun _=>rfl) (fun _ _=>rfl)
def Zs6:Lens Z9 (Z0 .i64):=Lens.iso (k:=(Z2 (Z0 .i64) (Z2 (Z0 .i64) (Z2 (Z0 .i64) (Z2 (Z0 .i64) (Z2 (Z0 .i64) Z0k)))))) (Lens.comp (Lens.comp (Lens.comp (Lens.snd _ _) (Lens.snd _ _)) (Lens.snd _ _)) (Lens.fst _ _)) Action.Group (fun x y=>{x with Group:=y}) (fun _=>rfl) (fun _ _=>rfl)
def Z9s:Lens Z9 Z0k:=Lens.iso (k:=(Z2 (Z0 .i64) (Z2 (Z0 .i64) (Z2 (Z0 .i64) (Z2 (Z0 .i64) (Z2 (Z0 .i64) Z0k)))))) (Lens.comp (Lens.comp (Lens.comp (Lens.comp (Lens.snd _ _) (Lens.snd _ _)) (Lens.snd _ _)) (Lens.snd _ _)) (Lens.snd _ _)) Action.Oxm (fun x y=>{x with Oxm:=y}) (fun _=>rfl) (fun _ _=>rfl)
def Zsm:Action:=⟨0,0,0,0,0,Z8q⟩
def Yii:List Value:=([.int .i64 0]++([.int .i64 0]++([.int .i64 0]++([.int .i64 0]++([.int .i64 0]++Ya5)))))
theorem Yi3:KZ Z9 Zsm Yii:=Z2o (Z0q Z1q (Z0q Z1q (Z0q Z1q (Z0q Z1q (Z0q Z1q Y7f)))))
structure Inst where
 Kind:Int
 Table:Int
 Value:Wide
 Mask:Wide
 Acts:(List Action)
 deriving DecidableEq,Inhabited
def Z0b:Kd Inst:=Z18 (Z2 (Z0 .i64) (Z2 (Z0 .i64) (Z2 Zn (Z2 Zn (Z1 Z9))))) (fun x=>(x.Kind,(x.Table,(x.Value,(x.Mask,x.Acts)))))
def Zfa:Lens Z0b (Z0 .i64):=Lens.iso (k:=(Z2 (Z0 .i64) (Z2 (Z0 .i64) (Z2 Zn (Z2 Zn (Z1 Z9)))))) (Lens.fst _ _) Inst.Kind (fun x y=>{x with Kind:=y}) (fun _=>rfl) (fun _ _=>rfl)
def Z84:Lens Z0b (Z0 .i64):=Lens.iso (k:=(Z2 (Z0 .i64) (Z2 (Z0 .i64) (Z2 Zn (Z2 Zn (Z1 Z9)))))) (Lens.comp (Lens.snd _ _) (Lens.fst _ _)) Inst.Table (fun x y=>{x with Table:=y}) (fun _=>rfl) (fun _ _=>rfl)
def Zrv:Lens Z0b Zn:=Lens.iso (k:=(Z2 (Z0 .i64) (Z2 (Z0 .i64) (Z2 Zn (Z2 Zn (Z1 Z9)))))) (Lens.comp (Lens.comp (Lens.snd _ _) (Lens.snd _ _)) (Lens.fst _ _)) Inst.Value (fun x y=>{x with Value:=y}) (fun _=>rfl) (fun _ _=>rfl)
def Zsy:Lens Z0b Zn:=Lens.iso (k:=(Z2 (Z0 .i64) (Z2 (Z0 .i64) (Z2 Zn (Z2 Zn (Z1 Z9)))))) (Lens.comp (Lens.comp (Lens.comp (Lens.snd _ _) (Lens.snd _ _)) (Lens.snd _ _)) (Lens.fst _ _)) Inst.Mask (fun x y=>{x with Mask:=y}) (fun _=>rfl) (fun _ _=>rfl)
def Z6g:Lens Z0b (Z1 Z9):=Lens.iso (k:=(Z2 (Z0 .i64) (Z2 (Z0 .i64) (Z2 Zn (Z2 Zn (Z1 Z9)))))) (Lens.comp (Lens.comp (Lens.comp (Lens.snd _ _) (Lens.snd _ _)) (Lens.snd _ _)) (Lens.snd _ _)) Inst.Acts (fun x y=>{x with Acts:=y}) (fun _=>rfl) (fun _ _=>rfl)
def Ztw:Inst:=⟨0,0,Z0s,Z0s,[]⟩
def Yze:List Value:=([.int .i64 0]++([.int .i64 0]++(Z9f++(Z9f++[.slice none 0 0]))))
theorem Yfi:KZ Z0b Ztw Yze:=Z2o (Z0q Z1q (Z0q Z1q (Z0q Z8o (Z0q Z8o (Z5d _)))))
structure Flow where
 Cookie:(BitVec 64)
 Priority:Int
 Idle:Int
 Hard:Int
 Flags:Int
 Match:(List Oxm)
 Insts:(List Inst)
 deriving DecidableEq,Inhabited
def Z08:Kd Flow:=Z18 (Z2 Z04 (Z2 (Z0 .i64) (Z2 (Z0 .i64) (Z2 (Z0 .i64) (Z2 (Z0 .i64) (Z2 (Z1 Z0k) (Z1 Z0b))))))) (fun x=>(x.Cookie,(x.Priority,(x.Idle,(x.Hard,(x.Flags,(x.Match,x.Insts)))))))
def lFlow_0:Lens Z08 Z04:=Lens.iso (k:=(Z2 Z04 (Z2 (Z0 .i64) (Z2 (Z0 .i64) (Z2 (Z0 .i64) (Z2 (Z0 .i64) (Z2 (Z1 Z0k) (Z1 Z0b)))))))) (Lens.fst _ _) Flow.Cookie (fun x y=>{x with Cookie:=y}) (fun _=>rfl) (fun _ _=>rfl)
def lFlow_1:Lens Z08 (Z0 .i64):=Lens.iso (k:=(Z2 Z04 (Z2 (Z0 .i64) (Z2 (Z0 .i64) (Z2 (Z0 .i64) (Z2 (Z0 .i64) (Z2 (Z1 Z0k) (Z1 Z0b)))))))) (Lens.comp (Lens.snd _ _) (Lens.fst _ _)) Flow.Priority (fun x y=>{x with Priority:=y}) (fun _=>rfl) (fun _ _=>rfl)
def lFlow_2:Lens Z08 (Z0 .i64):=Lens.iso (k:=(Z2 Z04 (Z2 (Z0 .i64) (Z2 (Z0 .i64) (Z2 (Z0 .i64) (Z2 (Z0 .i64) (Z2 (Z1 Z0k) (Z1 Z0b)))))))) (Lens.comp (Lens.comp (Lens.snd _ _) (Lens.snd _ _)) (Lens.fst _ _)) Flow.Idle (fun x y=>{x with Idle:=y}) (fun _=>rfl) (fun _ _=>rfl)
def lFlow_3:Lens Z08 (Z0 .i64):=Lens.iso (k:=(Z2 Z04 (Z2 (Z0 .i64) (Z2 (Z0 .i64) (Z2 (Z0 .i64) (Z2 (Z0 .i64) (Z2 (Z1 Z0k) (Z1 Z0b)))))))) (Lens.comp (Lens.comp (Lens.comp (Lens.snd _ _) (Lens.snd _ _)) (Lens.snd _ _)) (Lens.fst _ _)) Flow.Hard (fun x y=>{x with Hard:=y}) (fun _=>rfl) (fun _ _=>rfl)
def lFlow_4:Lens Z08 (Z0 .i64):=Lens.iso (k:=(Z2 Z04 (Z2 (Z0 .i64) (Z2 (Z0 .i64) (Z2 (Z0 .i64) (Z2 (Z0 .i64) (Z2 (Z1 Z0k) (Z1 Z0b)))))))) (Lens.comp (Lens.comp (Lens.comp (Lens.comp (Lens.snd _ _) (Lens.snd _ _)) (Lens.snd _ _)) (Lens.snd _ _)) (Lens.fst _ _)) Flow.Flags (fun x y=>{x with Flags:=y}) (fun _=>rfl) (fun _ _=>rfl)
def lFlow_5:Lens Z08 (Z1 Z0k):=Lens.iso (k:=(Z2 Z04 (Z2 (Z0 .i64) (Z2 (Z0 .i64) (Z2 (Z0 .i64) (Z2 (Z0 .i64) (Z2 (Z1 Z0k) (Z1 Z0b)))))))) (Lens.comp (Lens.comp (Lens.comp (Lens.comp (Lens.comp (Lens.snd _ _) (Lens.snd _ _)) (Lens.snd _ _)) (Lens.snd _ _)) (Lens.snd _ _)) (Lens.fst _ _)) Flow.Match (fun x y=>{x with Match:=y}) (fun _=>rfl) (fun _ _=>rfl)
def lFlow_6:Lens Z08 (Z1 Z0b):=Lens.iso (k:=(Z2 Z04 (Z2 (Z0 .i64) (Z2 (Z0 .i64) (Z2 (Z0 .i64) (Z2 (Z0 .i64) (Z2 (Z1 Z0k) (Z1 Z0b)))))))) (Lens.comp (Lens.comp (Lens.comp (Lens.comp (Lens.comp (Lens.snd _ _) (Lens.snd _ _)) (Lens.snd _ _)) (Lens.snd _ _)) (Lens.snd _ _)) (Lens.snd _ _)) Flow.Insts (fun x y=>{x with Insts:=y}) (fun _=>rfl) (fun _ _=>rfl)
def Ztx:Flow:=⟨0,0,0,0,0,[],[]⟩
def Yrh:List Value:=([.int .u64 0]++([.int .i64 0]++([.int .i64 0]++([.int .i64 0]++([.int .i64 0]++([.slice none 0 0]++[.slice none 0 0]))))))
theorem Yji:KZ Z08 Ztx Yrh:=Z2o (Z0q Zj0 (Z0q Z1q (Z0q Z1q (Z0q Z1q (Z0q Z1q (Z0q (Z5d _) (Z5d _)))))))
structure Bucket where
 Weight:Int
 Watch:Int
 WatchGroup:Int
 Acts:(List Action)
 deriving DecidableEq,Inhabited
def Z1y:Kd Bucket:=Z18 (Z2 (Z0 .i64) (Z2 (Z0 .i64) (Z2 (Z0 .i64) (Z1 Z9)))) (fun x=>(x.Weight,(x.Watch,(x.WatchGroup,x.Acts))))
def Y3i:Lens Z1y (Z0 .i64):=Lens.iso (k:=(Z2 (Z0 .i64) (Z2 (Z0 .i64) (Z2 (Z0 .i64) (Z1 Z9))))) (Lens.comp (Lens.snd _ _) (Lens.fst _ _)) Bucket.Watch (fun x y=>{x with Watch:=y}) (fun _=>rfl) (fun _ _=>rfl)
def Zfw:Lens Z1y (Z1 Z9):=Lens.iso (k:=(Z2 (Z0 .i64) (Z2 (Z0 .i64) (Z2 (Z0 .i64) (Z1 Z9))))) (Lens.comp (Lens.comp (Lens.snd _ _) (Lens.snd _ _)) (Lens.snd _ _)) Bucket.Acts (fun x y=>{x with Acts:=y}) (fun _=>rfl) (fun _ _=>rfl)
def Y67:Bucket:=⟨0,0,0,[]⟩
def Yzc:List Value:=([.int .i64 0]++([.int .i64 0]++([.int .i64 0]++[.slice none 0 0])))
theorem Yhf:KZ Z1y Y67 Yzc:=Z2o (Z0q Z1q (Z0q Z1q (Z0q Z1q (Z5d _))))
structure Group where
 ID:Int
 Kind:Int
 Buckets:(List Bucket)
 deriving DecidableEq,Inhabited
def Z0e:Kd Group:=Z18 (Z2 (Z0 .i64) (Z2 (Z0 .i64) (Z1 Z1y))) (fun x=>(x.ID,(x.Kind,x.Buckets)))
def lGroup_0:Lens Z0e (Z0 .i64):=Lens.iso (k:=(Z2 (Z0 .i64) (Z2 (Z0 .i64) (Z1 Z1y)))) (Lens.fst _ _) Group.ID (fun x y=>{x with ID:=y}) (fun _=>rfl) (fun _ _=>rfl)
def Zun:Lens Z0e (Z0 .i64):=Lens.iso (k:=(Z2 (Z0 .i64) (Z2 (Z0 .i64) (Z1 Z1y)))) (Lens.comp (Lens.snd _ _) (Lens.fst _ _)) Group.Kind (fun x y=>{x with Kind:=y}) (fun _=>rfl) (fun _ _=>rfl)
def Z79:Lens Z0e (Z1 Z1y):=Lens.iso (k:=(Z2 (Z0 .i64) (Z2 (Z0 .i64) (Z1 Z1y)))) (Lens.comp (Lens.snd _ _) (Lens.snd _ _)) Group.Buckets (fun x y=>{x with Buckets:=y}) (fun _=>rfl) (fun _ _=>rfl)
def Zyo:Group:=⟨0,0,[]⟩
def Yce:List Value:=([.int .i64 0]++([.int .i64 0]++[.slice none 0 0]))
theorem Y8q:KZ Z0e Zyo Yce:=Z2o (Z0q Z1q (Z0q Z1q (Z5d _)))
abbrev Yq2:=Vector (List Flow) 4
structure Switch where
 Tables:Yq2
 Groups:(List Group)
 deriving DecidableEq,Inhabited
def Z09:Kd Switch:=Z18 (Z2 (Z3 4 (Z1 Z08)) (Z1 Z0e)) (fun x=>(x.Tables,x.Groups))
def Z64:Lens Z09 (Z3 4 (Z1 Z08)):=Lens.iso (k:=(Z2 (Z3 4 (Z1 Z08)) (Z1 Z0e))) (Lens.fst _ _) Switch.Tables (fun x y=>{x with Tables:=y}) (fun _=>rfl) (fun _ _=>rfl)
def lSwitch_1:Lens Z09 (Z1 Z0e):=Lens.iso (k:=(Z2 (Z3 4 (Z1 Z08)) (Z1 Z0e))) (Lens.snd _ _) Switch.Groups (fun x y=>{x with Groups:=y}) (fun _=>rfl) (fun _ _=>rfl)
def Zer:Switch:=⟨(Vector.replicate 4 []),[]⟩
def Zuz:List Value:=((List.replicate 4 [.slice none 0 0]).flatten++[.slice none 0 0])
theorem Zqw:KZ Z09 Zer Zuz:=Z2o (Z0q (Z5a 4 (Z5d _)) (Z5d _))
structure Tern where
 Value:Wide
 Mask:Wide
 deriving DecidableEq,Inhabited
def Z4:Kd Tern:=Z18 (Z2 Zn Zn) (fun x=>(x.Value,x.Mask))
instance:PureK Z4:=inferInstanceAs (PureK (Z18 (Z2 Zn Zn) (fun (x:Tern)=>(x.Value,x.Mask))))
def lTern_0:Lens Z4 Zn:=Lens.iso (k:=(Z2 Zn Zn)) (Lens.fst _ _) Tern.Value (fun x y=>{x with Value:=y}) (fun _=>rfl) (fun _ _=>rfl)
def lTern_1:Lens Z4 Zn:=Lens.iso (k:=(Z2 Zn Zn)) (Lens.snd _ _) Tern.Mask (fun x y=>{x with Mask:=y}) (fun _=>rfl) (fun _ _=>rfl)
def zTern:Tern:=⟨Z0s,Z0s⟩
def Zes:List Value:=(Z9f++Z9f)
theorem Zal:KZ Z4 zTern Zes:=Z2o (Z0q Z8o Z8o)
abbrev Za:=Vector Tern 24
structure Atom where
 Rewrite:Za
 Group:Bool
 Port:Int
 Max:Int
 deriving DecidableEq,Inhabited
def Z0r:Kd Atom:=Z18 (Z2 (Z3 24 Z4) (Z2 Z6 (Z2 (Z0 .i64) (Z0 .i64)))) (fun x=>(x.Rewrite,(x.Group,(x.Port,x.Max))))
instance:PureK Z0r:=inferInstanceAs (PureK (Z18 (Z2 (Z3 24 Z4) (Z2 Z6 (Z2 (Z0 .i64) (Z0 .i64)))) (fun (x:Atom)=>(x.Rewrite,(x.Group,(x.Port,x.Max))))))
def lAtom_0:Lens Z0r (Z3 24 Z4):=Lens.iso (k:=(Z2 (Z3 24 Z4) (Z2 Z6 (Z2 (Z0 .i64) (Z0 .i64))))) (Lens.fst _ _) Atom.Rewrite (fun x y=>{x with Rewrite:=y}) (fun _=>rfl) (fun _ _=>rfl)
def lAtom_1:Lens Z0r Z6:=Lens.iso (k:=(Z2 (Z3 24 Z4) (Z2 Z6 (Z2 (Z0 .i64) (Z0 .i64))))) (Lens.comp (Lens.snd _ _) (Lens.fst _ _)) Atom.Group (fun x y=>{x with Group:=y}) (fun _=>rfl) (fun _ _=>rfl)
def lAtom_2:Lens Z0r (Z0 .i64):=Lens.iso (k:=(Z2 (Z3 24 Z4) (Z2 Z6 (Z2 (Z0 .i64) (Z0 .i64))))) (Lens.comp (Lens.comp (Lens.snd _ _) (Lens.snd _ _)) (Lens.fst _ _)) Atom.Port (fun x y=>{x with Port:=y}) (fun _=>rfl) (fun _ _=>rfl)
def Zzt:Lens Z0r (Z0 .i64):=Lens.iso (k:=(Z2 (Z3 24 Z4) (Z2 Z6 (Z2 (Z0 .i64) (Z0 .i64))))) (Lens.comp (Lens.comp (Lens.snd _ _) (Lens.snd _ _)) (Lens.snd _ _)) Atom.Max (fun x y=>{x with Max:=y}) (fun _=>rfl) (fun _ _=>rfl)
def Zyi:Atom:=⟨(Vector.replicate 24 zTern),false,0,0⟩
def Yvs:List Value:=((List.replicate 24 Zes).flatten++([.bool false]++([.int .i64 0]++[.int .i64 0])))
theorem Yyk:KZ Z0r Zyi Yvs:=Z2o (Z0q (Z5a 24 Zal) (Z0q Zit (Z0q Z1q Z1q)))
structure Rule where
 Cube:Za
 Atoms:(List Atom)
 deriving DecidableEq,Inhabited
def Z0a:Kd Rule:=Z18 (Z2 (Z3 24 Z4) (Z1 Z0r)) (fun x=>(x.Cube,x.Atoms))
def lRule_0:Lens Z0a (Z3 24 Z4):=Lens.iso (k:=(Z2 (Z3 24 Z4) (Z1 Z0r))) (Lens.fst _ _) Rule.Cube (fun x y=>{x with Cube:=y}) (fun _=>rfl) (fun _ _=>rfl)
def lRule_1:Lens Z0a (Z1 Z0r):=Lens.iso (k:=(Z2 (Z3 24 Z4) (Z1 Z0r))) (Lens.snd _ _) Rule.Atoms (fun x y=>{x with Atoms:=y}) (fun _=>rfl) (fun _ _=>rfl)
def Y81:Rule:=⟨(Vector.replicate 24 zTern),[]⟩
def Ygb:List Value:=((List.replicate 24 Zes).flatten++[.slice none 0 0])
theorem Ynd:KZ Z0a Y81 Ygb:=Z2o (Z0q (Z5a 24 Zal) (Z5d _))
structure field_row where
 name:ByteArray
 id:Int
 bits:Int
 masks:Bool
 deriving DecidableEq,Inhabited
def Z27:Kd field_row:=Z18 (Z2 Z1x (Z2 (Z0 .i64) (Z2 (Z0 .i64) Z6))) (fun x=>(x.name,(x.id,(x.bits,x.masks))))
instance:PureK Z27:=inferInstanceAs (PureK (Z18 (Z2 Z1x (Z2 (Z0 .i64) (Z2 (Z0 .i64) Z6))) (fun (x:field_row)=>(x.name,(x.id,(x.bits,x.masks))))))
def Z3n:Lens Z27 Z1x:=Lens.iso (k:=(Z2 Z1x (Z2 (Z0 .i64) (Z2 (Z0 .i64) Z6)))) (Lens.fst _ _) field_row.name (fun x y=>{x with name:=y}) (fun _=>rfl) (fun _ _=>rfl)
def lfield_row_1:Lens Z27 (Z0 .i64):=Lens.iso (k:=(Z2 Z1x (Z2 (Z0 .i64) (Z2 (Z0 .i64) Z6)))) (Lens.comp (Lens.snd _ _) (Lens.fst _ _)) field_row.id (fun x y=>{x with id:=y}) (fun _=>rfl) (fun _ _=>rfl)
def Z3a:Lens Z27 (Z0 .i64):=Lens.iso (k:=(Z2 Z1x (Z2 (Z0 .i64) (Z2 (Z0 .i64) Z6)))) (Lens.comp (Lens.comp (Lens.snd _ _) (Lens.snd _ _)) (Lens.fst _ _)) field_row.bits (fun x y=>{x with bits:=y}) (fun _=>rfl) (fun _ _=>rfl)
def Z3i:Lens Z27 Z6:=Lens.iso (k:=(Z2 Z1x (Z2 (Z0 .i64) (Z2 (Z0 .i64) Z6)))) (Lens.comp (Lens.comp (Lens.snd _ _) (Lens.snd _ _)) (Lens.snd _ _)) field_row.masks (fun x y=>{x with masks:=y}) (fun _=>rfl) (fun _ _=>rfl)
def Zkg:field_row:=⟨(⟨#[]⟩:ByteArray),0,0,false⟩
def Ye7:List Value:=([.string ⟨#[]⟩]++([.int .i64 0]++([.int .i64 0]++[.bool false])))
theorem Y3v:KZ Z27 Zkg Ye7:=Z2o (Z0q Ygz (Z0q Z1q (Z0q Z1q Zit)))
abbrev Yis:=Vector field_row 24
structure walk_way where
 cube:Za
 got:Za
 atoms:(List Atom)
 set:(List Action)
 deriving DecidableEq,Inhabited
def Z22:Kd walk_way:=Z18 (Z2 (Z3 24 Z4) (Z2 (Z3 24 Z4) (Z2 (Z1 Z0r) (Z1 Z9)))) (fun x=>(x.cube,(x.got,(x.atoms,x.set))))
def lwalk_way_0:Lens Z22 (Z3 24 Z4):=Lens.iso (k:=(Z2 (Z3 24 Z4) (Z2 (Z3 24 Z4) (Z2 (Z1 Z0r) (Z1 Z9))))) (Lens.fst _ _) walk_way.cube (fun x y=>{x with cube:=y}) (fun _=>rfl) (fun _ _=>rfl)
def lwalk_way_1:Lens Z22 (Z3 24 Z4):=Lens.iso (k:=(Z2 (Z3 24 Z4) (Z2 (Z3 24 Z4) (Z2 (Z1 Z0r) (Z1 Z9))))) (Lens.comp (Lens.snd _ _) (Lens.fst _ _)) walk_way.got (fun x y=>{x with got:=y}) (fun _=>rfl) (fun _ _=>rfl)
def Zi8:Lens Z22 (Z1 Z0r):=Lens.iso (k:=(Z2 (Z3 24 Z4) (Z2 (Z3 24 Z4) (Z2 (Z1 Z0r) (Z1 Z9))))) (Lens.comp (Lens.comp (Lens.snd _ _) (Lens.snd _ _)) (Lens.fst _ _)) walk_way.atoms (fun x y=>{x with atoms:=y}) (fun _=>rfl) (fun _ _=>rfl)
def Zk8:Lens Z22 (Z1 Z9):=Lens.iso (k:=(Z2 (Z3 24 Z4) (Z2 (Z3 24 Z4) (Z2 (Z1 Z0r) (Z1 Z9))))) (Lens.comp (Lens.comp (Lens.snd _ _) (Lens.snd _ _)) (Lens.snd _ _)) walk_way.set (fun x y=>{x with set:=y}) (fun _=>rfl) (fun _ _=>rfl)
def Zgd:walk_way:=⟨(Vector.replicate 24 zTern),(Vector.replicate 24 zTern),[],[]⟩
def Yod:List Value:=((List.replicate 24 Zes).flatten++((List.replicate 24 Zes).flatten++([.slice none 0 0]++[.slice none 0 0])))
theorem Yuv:KZ Z22 Zgd Yod:=Z2o (Z0q (Z5a 24 Zal) (Z0q (Z5a 24 Zal) (Z0q (Z5d _) (Z5d _))))
structure Z6r where
 got:Za
 atoms:(List Atom)
 deriving DecidableEq,Inhabited
structure atom_trace_o1 where
 got:Za
 atoms:Value
def Z65:Kd atom_trace_o1:=Z18 (Z2 (Z3 24 Z4) kraw) (fun x=>(x.got,x.atoms))
def latom_trace_o1_0:Lens Z65 (Z3 24 Z4):=Lens.iso (k:=(Z2 (Z3 24 Z4) kraw)) (Lens.fst _ _) atom_trace_o1.got (fun x y=>{x with got:=y}) (fun _=>rfl) (fun _ _=>rfl)
def Zjy:Lens Z65 kraw:=Lens.iso (k:=(Z2 (Z3 24 Z4) kraw)) (Lens.snd _ _) atom_trace_o1.atoms (fun x y=>{x with atoms:=y}) (fun _=>rfl) (fun _ _=>rfl)
def Y4t:atom_trace_o1:=⟨(Vector.replicate 24 zTern),(.slice none 0 0)⟩
theorem Yoi:KZ Z65 Y4t ((List.replicate 24 Zes).flatten++[.slice none 0 0]):=Z2o (Z0q (Z5a 24 Zal) (Zg5 rfl))
structure aset_spot where
 kind:Int
 field:Int
 deriving DecidableEq,Inhabited
def Z7t:Kd aset_spot:=Z18 (Z2 (Z0 .i64) (Z0 .i64)) (fun x=>(x.kind,x.field))
instance:PureK Z7t:=inferInstanceAs (PureK (Z18 (Z2 (Z0 .i64) (Z0 .i64)) (fun (x:aset_spot)=>(x.kind,x.field))))
def laset_spot_0:Lens Z7t (Z0 .i64):=Lens.iso (k:=(Z2 (Z0 .i64) (Z0 .i64))) (Lens.fst _ _) aset_spot.kind (fun x y=>{x with kind:=y}) (fun _=>rfl) (fun _ _=>rfl)
def laset_spot_1:Lens Z7t (Z0 .i64):=Lens.iso (k:=(Z2 (Z0 .i64) (Z0 .i64))) (Lens.snd _ _) aset_spot.field (fun x y=>{x with field:=y}) (fun _=>rfl) (fun _ _=>rfl)
def Zs2:aset_spot:=⟨0,0⟩
def Yd4:List Value:=([.int .i64 0]++[.int .i64 0])
theorem Yfh:KZ Z7t Zs2 Yd4:=Z2o (Z0q Z1q Z1q)
structure cover_purse where
 left:Int
 free:Bool
 deriving DecidableEq,Inhabited
def Z7a:Kd cover_purse:=Z18 (Z2 (Z0 .i64) Z6) (fun x=>(x.left,x.free))
instance:PureK Z7a:=inferInstanceAs (PureK (Z18 (Z2 (Z0 .i64) Z6) (fun (x:cover_purse)=>(x.left,x.free))))
def lcover_purse_0:Lens Z7a (Z0 .i64):=Lens.iso (k:=(Z2 (Z0 .i64) Z6)) (Lens.fst _ _) cover_purse.left (fun x y=>{x with left:=y}) (fun _=>rfl) (fun _ _=>rfl)
def lcover_purse_1:Lens Z7a Z6:=Lens.iso (k:=(Z2 (Z0 .i64) Z6)) (Lens.snd _ _) cover_purse.free (fun x y=>{x with free:=y}) (fun _=>rfl) (fun _ _=>rfl)
def Zvh:cover_purse:=⟨0,false⟩
def Yb3:List Value:=([.int .i64 0]++[.bool false])
theorem Y39:KZ Z7a Zvh Yb3:=Z2o (Z0q Z1q Zit)
abbrev Z16:=Vector Wide 24
structure cover_look where
 purse:cover_purse
 deriving DecidableEq,Inhabited
def Z2d:Kd cover_look:=Z18 Z7a (fun x=>x.purse)
instance:PureK Z2d:=inferInstanceAs (PureK (Z18 Z7a (fun (x:cover_look)=>x.purse)))
def lcover_look_0:Lens Z2d Z7a:=Lens.iso (k:=Z7a) (Lens.id _) cover_look.purse (fun x y=>{x with purse:=y}) (fun _=>rfl) (fun _ _=>rfl)
def Y44:cover_look:=⟨Zvh⟩
def Yez:List Value:=Yb3
theorem Yya:KZ Z2d Y44 Yez:=Z2o Y39
structure Env where
 Turn:Int
 Down:(List Int)
 deriving DecidableEq,Inhabited
def Z2y:Kd Env:=Z18 (Z2 (Z0 .i64) (Z1 (Z0 .i64))) (fun x=>(x.Turn,x.Down))
def Ycj:Lens Z2y (Z0 .i64):=Lens.iso (k:=(Z2 (Z0 .i64) (Z1 (Z0 .i64)))) (Lens.fst _ _) Env.Turn (fun x y=>{x with Turn:=y}) (fun _=>rfl) (fun _ _=>rfl)
def Y4d:Lens Z2y (Z1 (Z0 .i64)):=Lens.iso (k:=(Z2 (Z0 .i64) (Z1 (Z0 .i64)))) (Lens.snd _ _) Env.Down (fun x y=>{x with Down:=y}) (fun _=>rfl) (fun _ _=>rfl)
def Z6c:Env:=⟨0,[]⟩
def Zry:List Value:=([.int .i64 0]++[.slice none 0 0])
theorem Zxy:KZ Z2y Z6c Zry:=Z2o (Z0q Z1q (Z5d _))
structure env_world where
 Env:Env
 Group:Group
 deriving DecidableEq,Inhabited
def Zc2:Kd env_world:=Z18 (Z2 Z2y Z0e) (fun x=>(x.Env,x.Group))
def lenv_world_0:Lens Zc2 Z2y:=Lens.iso (k:=(Z2 Z2y Z0e)) (Lens.fst _ _) env_world.Env (fun x y=>{x with Env:=y}) (fun _=>rfl) (fun _ _=>rfl)
def lenv_world_1:Lens Zc2 Z0e:=Lens.iso (k:=(Z2 Z2y Z0e)) (Lens.snd _ _) env_world.Group (fun x y=>{x with Group:=y}) (fun _=>rfl) (fun _ _=>rfl)
def Y5m:env_world:=⟨Z6c,Zyo⟩
def Ysh:List Value:=(Zry++Yce)
theorem Yrq:KZ Zc2 Y5m Ysh:=Z2o (Z0q Zxy Y8q)
structure Out where
 Port:Int
 Max:Int
 Header:Z16
 deriving DecidableEq,Inhabited
def Z14:Kd Out:=Z18 (Z2 (Z0 .i64) (Z2 (Z0 .i64) (Z3 24 Zn))) (fun x=>(x.Port,(x.Max,x.Header)))
instance:PureK Z14:=inferInstanceAs (PureK (Z18 (Z2 (Z0 .i64) (Z2 (Z0 .i64) (Z3 24 Zn))) (fun (x:Out)=>(x.Port,(x.Max,x.Header)))))
def lOut_0:Lens Z14 (Z0 .i64):=Lens.iso (k:=(Z2 (Z0 .i64) (Z2 (Z0 .i64) (Z3 24 Zn)))) (Lens.fst _ _) Out.Port (fun x y=>{x with Port:=y}) (fun _=>rfl) (fun _ _=>rfl)
def lOut_1:Lens Z14 (Z0 .i64):=Lens.iso (k:=(Z2 (Z0 .i64) (Z2 (Z0 .i64) (Z3 24 Zn)))) (Lens.comp (Lens.snd _ _) (Lens.fst _ _)) Out.Max (fun x y=>{x with Max:=y}) (fun _=>rfl) (fun _ _=>rfl)
def lOut_2:Lens Z14 (Z3 24 Zn):=Lens.iso (k:=(Z2 (Z0 .i64) (Z2 (Z0 .i64) (Z3 24 Zn)))) (Lens.comp (Lens.snd _ _) (Lens.snd _ _)) Out.Header (fun x y=>{x with Header:=y}) (fun _=>rfl) (fun _ _=>rfl)
def Ya7:Out:=⟨0,0,(Vector.replicate 24 Z0s)⟩
def Yxj:List Value:=([.int .i64 0]++([.int .i64 0]++(List.replicate 24 Z9f).flatten))
theorem Yll:KZ Z14 Ya7 Yxj:=Z2o (Z0q Z1q (Z0q Z1q (Z5a 24 Z8o)))
structure Z0x where
 Env:Env
 groups:(List Group)
 out:(List Out)
 header:Z16
 depth:Int
 deriving DecidableEq,Inhabited
structure exec_run_o2 where
 Env:Env
 groups:(List Group)
 out:Value
 header:Z16
 depth:Int
def Z1s:Kd exec_run_o2:=Z18 (Z2 Z2y (Z2 (Z1 Z0e) (Z2 kraw (Z2 (Z3 24 Zn) (Z0 .i64))))) (fun x=>(x.Env,(x.groups,(x.out,(x.header,x.depth)))))
def lexec_run_o2_0:Lens Z1s Z2y:=Lens.iso (k:=(Z2 Z2y (Z2 (Z1 Z0e) (Z2 kraw (Z2 (Z3 24 Zn) (Z0 .i64)))))) (Lens.fst _ _) exec_run_o2.Env (fun x y=>{x with Env:=y}) (fun _=>rfl) (fun _ _=>rfl)
def lexec_run_o2_1:Lens Z1s (Z1 Z0e):=Lens.iso (k:=(Z2 Z2y (Z2 (Z1 Z0e) (Z2 kraw (Z2 (Z3 24 Zn) (Z0 .i64)))))) (Lens.comp (Lens.snd _ _) (Lens.fst _ _)) exec_run_o2.groups (fun x y=>{x with groups:=y}) (fun _=>rfl) (fun _ _=>rfl)
def Zl6:Lens Z1s kraw:=Lens.iso (k:=(Z2 Z2y (Z2 (Z1 Z0e) (Z2 kraw (Z2 (Z3 24 Zn) (Z0 .i64)))))) (Lens.comp (Lens.comp (Lens.snd _ _) (Lens.snd _ _)) (Lens.fst _ _)) exec_run_o2.out (fun x y=>{x with out:=y}) (fun _=>rfl) (fun _ _=>rfl)
def lexec_run_o2_3:Lens Z1s (Z3 24 Zn):=Lens.iso (k:=(Z2 Z2y (Z2 (Z1 Z0e) (Z2 kraw (Z2 (Z3 24 Zn) (Z0 .i64)))))) (Lens.comp (Lens.comp (Lens.comp (Lens.snd _ _) (Lens.snd _ _)) (Lens.snd _ _)) (Lens.fst _ _)) exec_run_o2.header (fun x y=>{x with header:=y}) (fun _=>rfl) (fun _ _=>rfl)
def Zgw:Lens Z1s (Z0 .i64):=Lens.iso (k:=(Z2 Z2y (Z2 (Z1 Z0e) (Z2 kraw (Z2 (Z3 24 Zn) (Z0 .i64)))))) (Lens.comp (Lens.comp (Lens.comp (Lens.snd _ _) (Lens.snd _ _)) (Lens.snd _ _)) (Lens.snd _ _)) exec_run_o2.depth (fun x y=>{x with depth:=y}) (fun _=>rfl) (fun _ _=>rfl)
def Y46:exec_run_o2:=⟨Z6c,[],(.slice none 0 0),(Vector.replicate 24 Z0s),0⟩
theorem Ygt:KZ Z1s Y46 (Zry++([.slice none 0 0]++([.slice none 0 0]++((List.replicate 24 Z9f).flatten++[.int .i64 0])))):=Z2o (Z0q Zxy (Z0q (Z5d _) (Z0q (Zg5 rfl) (Z0q (Z5a 24 Z8o) Z1q))))
structure Place where
 Table:Int
 Flow:Int
 deriving DecidableEq,Inhabited
def Z0l:Kd Place:=Z18 (Z2 (Z0 .i64) (Z0 .i64)) (fun x=>(x.Table,x.Flow))
instance:PureK Z0l:=inferInstanceAs (PureK (Z18 (Z2 (Z0 .i64) (Z0 .i64)) (fun (x:Place)=>(x.Table,x.Flow))))
def lPlace_0:Lens Z0l (Z0 .i64):=Lens.iso (k:=(Z2 (Z0 .i64) (Z0 .i64))) (Lens.fst _ _) Place.Table (fun x y=>{x with Table:=y}) (fun _=>rfl) (fun _ _=>rfl)
def lPlace_1:Lens Z0l (Z0 .i64):=Lens.iso (k:=(Z2 (Z0 .i64) (Z0 .i64))) (Lens.snd _ _) Place.Flow (fun x y=>{x with Flow:=y}) (fun _=>rfl) (fun _ _=>rfl)
def Zx3:Place:=⟨0,0⟩
def Yat:List Value:=([.int .i64 0]++[.int .i64 0])
theorem Y24:KZ Z0l Zx3 Yat:=Z2o (Z0q Z1q Z1q)
structure Z35 where
 Switch:Switch
 env:Env
 header:Z16
 set:(List Action)
 out:(List Out)
 path:(List Place)
 deriving DecidableEq,Inhabited
structure sem_packet_o4_5 where
 Switch:Switch
 env:Env
 header:Z16
 set:(List Action)
 out:Value
 path:Value
def Z26:Kd sem_packet_o4_5:=Z18 (Z2 Z09 (Z2 Z2y (Z2 (Z3 24 Zn) (Z2 (Z1 Z9) (Z2 kraw kraw))))) (fun x=>(x.Switch,(x.env,(x.header,(x.set,(x.out,x.path))))))
def lsem_packet_o4_5_0:Lens Z26 Z09:=Lens.iso (k:=(Z2 Z09 (Z2 Z2y (Z2 (Z3 24 Zn) (Z2 (Z1 Z9) (Z2 kraw kraw)))))) (Lens.fst _ _) sem_packet_o4_5.Switch (fun x y=>{x with Switch:=y}) (fun _=>rfl) (fun _ _=>rfl)
def Y8y:Lens Z26 Z2y:=Lens.iso (k:=(Z2 Z09 (Z2 Z2y (Z2 (Z3 24 Zn) (Z2 (Z1 Z9) (Z2 kraw kraw)))))) (Lens.comp (Lens.snd _ _) (Lens.fst _ _)) sem_packet_o4_5.env (fun x y=>{x with env:=y}) (fun _=>rfl) (fun _ _=>rfl)
def lsem_packet_o4_5_2:Lens Z26 (Z3 24 Zn):=Lens.iso (k:=(Z2 Z09 (Z2 Z2y (Z2 (Z3 24 Zn) (Z2 (Z1 Z9) (Z2 kraw kraw)))))) (Lens.comp (Lens.comp (Lens.snd _ _) (Lens.snd _ _)) (Lens.fst _ _)) sem_packet_o4_5.header (fun x y=>{x with header:=y}) (fun _=>rfl) (fun _ _=>rfl)
def Zoc:Lens Z26 (Z1 Z9):=Lens.iso (k:=(Z2 Z09 (Z2 Z2y (Z2 (Z3 24 Zn) (Z2 (Z1 Z9) (Z2 kraw kraw)))))) (Lens.comp (Lens.comp (Lens.comp (Lens.snd _ _) (Lens.snd _ _)) (Lens.snd _ _)) (Lens.fst _ _)) sem_packet_o4_5.set (fun x y=>{x with set:=y}) (fun _=>rfl) (fun _ _=>rfl)
def Zqz:Lens Z26 kraw:=Lens.iso (k:=(Z2 Z09 (Z2 Z2y (Z2 (Z3 24 Zn) (Z2 (Z1 Z9) (Z2 kraw kraw)))))) (Lens.comp (Lens.comp (Lens.comp (Lens.comp (Lens.snd _ _) (Lens.snd _ _)) (Lens.snd _ _)) (Lens.snd _ _)) (Lens.fst _ _)) sem_packet_o4_5.out (fun x y=>{x with out:=y}) (fun _=>rfl) (fun _ _=>rfl)
def Zge:Lens Z26 kraw:=Lens.iso (k:=(Z2 Z09 (Z2 Z2y (Z2 (Z3 24 Zn) (Z2 (Z1 Z9) (Z2 kraw kraw)))))) (Lens.comp (Lens.comp (Lens.comp (Lens.comp (Lens.snd _ _) (Lens.snd _ _)) (Lens.snd _ _)) (Lens.snd _ _)) (Lens.snd _ _)) sem_packet_o4_5.path (fun x y=>{x with path:=y}) (fun _=>rfl) (fun _ _=>rfl)
def Ya0:sem_packet_o4_5:=⟨Zer,Z6c,(Vector.replicate 24 Z0s),[],(.slice none 0 0),(.slice none 0 0)⟩
theorem Yuq:KZ Z26 Ya0 (Zuz++(Zry++((List.replicate 24 Z9f).flatten++([.slice none 0 0]++([.slice none 0 0]++[.slice none 0 0]))))):=Z2o (Z0q Zqw (Z0q Zxy (Z0q (Z5a 24 Z8o) (Z0q (Z5d _) (Z0q (Zg5 rfl) (Zg5 rfl))))))
structure Yzg where
 groups:(List Group)
 seen:(List (Int×Int))
 deriving DecidableEq,Inhabited
structure group_walk_o1 where
 groups:(List Group)
 seen:Value
def Z77:Kd group_walk_o1:=Z18 (Z2 (Z1 Z0e) kraw) (fun x=>(x.groups,x.seen))
def lgroup_walk_o1_0:Lens Z77 (Z1 Z0e):=Lens.iso (k:=(Z2 (Z1 Z0e) kraw)) (Lens.fst _ _) group_walk_o1.groups (fun x y=>{x with groups:=y}) (fun _=>rfl) (fun _ _=>rfl)
def lgroup_walk_o1_1:Lens Z77 kraw:=Lens.iso (k:=(Z2 (Z1 Z0e) kraw)) (Lens.snd _ _) group_walk_o1.seen (fun x y=>{x with seen:=y}) (fun _=>rfl) (fun _ _=>rfl)
def Yb9:group_walk_o1:=⟨[],(.map none)⟩
theorem Yus:KZ Z77 Yb9 ([.slice none 0 0]++[.map none]):=Z2o (Z0q (Z5d _) (Zg5 rfl))
structure Fault where
 Is:Bool
 Type_:Int
 Code:Int
 deriving DecidableEq,Inhabited
def Z3u:Kd Fault:=Z18 (Z2 Z6 (Z2 (Z0 .i64) (Z0 .i64))) (fun x=>(x.Is,(x.Type_,x.Code)))
instance:PureK Z3u:=inferInstanceAs (PureK (Z18 (Z2 Z6 (Z2 (Z0 .i64) (Z0 .i64))) (fun (x:Fault)=>(x.Is,(x.Type_,x.Code)))))
def lFault_0:Lens Z3u Z6:=Lens.iso (k:=(Z2 Z6 (Z2 (Z0 .i64) (Z0 .i64)))) (Lens.fst _ _) Fault.Is (fun x y=>{x with Is:=y}) (fun _=>rfl) (fun _ _=>rfl)
def lFault_1:Lens Z3u (Z0 .i64):=Lens.iso (k:=(Z2 Z6 (Z2 (Z0 .i64) (Z0 .i64)))) (Lens.comp (Lens.snd _ _) (Lens.fst _ _)) Fault.Type_ (fun x y=>{x with Type_:=y}) (fun _=>rfl) (fun _ _=>rfl)
def lFault_2:Lens Z3u (Z0 .i64):=Lens.iso (k:=(Z2 Z6 (Z2 (Z0 .i64) (Z0 .i64)))) (Lens.comp (Lens.snd _ _) (Lens.snd _ _)) Fault.Code (fun x y=>{x with Code:=y}) (fun _=>rfl) (fun _ _=>rfl)
def Zne:Fault:=⟨false,0,0⟩
def Y6r:List Value:=([.bool false]++([.int .i64 0]++[.int .i64 0]))
theorem Y54:KZ Z3u Zne Y6r:=Z2o (Z0q Zit (Z0q Z1q Z1q))
structure audit_wrong where
 Place:Place
 deriving DecidableEq,Inhabited
def Z7y:Kd audit_wrong:=Z18 Z0l (fun x=>x.Place)
instance:PureK Z7y:=inferInstanceAs (PureK (Z18 Z0l (fun (x:audit_wrong)=>x.Place)))
def laudit_wrong_0:Lens Z7y Z0l:=Lens.iso (k:=Z0l) (Lens.id _) audit_wrong.Place (fun x y=>{x with Place:=y}) (fun _=>rfl) (fun _ _=>rfl)
def Zx7:audit_wrong:=⟨Zx3⟩
def Ycu:List Value:=Yat
theorem Yo9:KZ Z7y Zx7 Ycu:=Z2o Y24
structure state_refused where
 Fault:Fault
 deriving DecidableEq,Inhabited
def Z7m:Kd state_refused:=Z18 Z3u (fun x=>x.Fault)
instance:PureK Z7m:=inferInstanceAs (PureK (Z18 Z3u (fun (x:state_refused)=>x.Fault)))
def lstate_refused_0:Lens Z7m Z3u:=Lens.iso (k:=Z3u) (Lens.id _) state_refused.Fault (fun x y=>{x with Fault:=y}) (fun _=>rfl) (fun _ _=>rfl)
def Zyj:state_refused:=⟨Zne⟩
def Ytn:List Value:=Y6r
theorem Yee:KZ Z7m Zyj Ytn:=Z2o Y54
inductive Err where
 | no
 | e85 (x:audit_wrong)
 | e265 (x:state_refused)
 deriving DecidableEq,Inhabited
def Zi0:Err→Option Dy
 | .no=>none
 | .e85 x=>some (dy 85 Z7y x)
 | .e265 x=>some (dy 265 Z7m x)
abbrev Z59:Kd Err:=Zh2 Zi0
def Err.isNo:Err→Bool
 | .no=>true
 | _=>false
theorem Ybb (e:Err):(Zi0 e).isNone=e.isNo:=by cases e<;>rfl
structure flow_place where
 priority:Int
 cube:Za
 deriving DecidableEq,Inhabited
def Zcq:Kd flow_place:=Z18 (Z2 (Z0 .i64) (Z3 24 Z4)) (fun x=>(x.priority,x.cube))
instance:PureK Zcq:=inferInstanceAs (PureK (Z18 (Z2 (Z0 .i64) (Z3 24 Z4)) (fun (x:flow_place)=>(x.priority,x.cube))))
def lflow_place_0:Lens Zcq (Z0 .i64):=Lens.iso (k:=(Z2 (Z0 .i64) (Z3 24 Z4))) (Lens.fst _ _) flow_place.priority (fun x y=>{x with priority:=y}) (fun _=>rfl) (fun _ _=>rfl)
def lflow_place_1:Lens Zcq (Z3 24 Z4):=Lens.iso (k:=(Z2 (Z0 .i64) (Z3 24 Z4))) (Lens.snd _ _) flow_place.cube (fun x y=>{x with cube:=y}) (fun _=>rfl) (fun _ _=>rfl)
def Y3r:flow_place:=⟨0,(Vector.replicate 24 zTern)⟩
def Yi4:List Value:=([.int .i64 0]++(List.replicate 24 Zes).flatten)
theorem Ywc:KZ Zcq Y3r Yi4:=Z2o (Z0q Z1q (Z5a 24 Zal))
structure FlowMod where
 Cookie:(BitVec 64)
 CookieMask:(BitVec 64)
 Table:Int
 Command:Int
 Idle:Int
 Hard:Int
 Priority:Int
 Buffer:Int
 OutPort:Int
 OutGroup:Int
 Flags:Int
 Match:(List Oxm)
 Insts:(List Inst)
 deriving DecidableEq,Inhabited
def Z3c:Kd FlowMod:=Z18 (Z2 Z04 (Z2 Z04 (Z2 (Z0 .i64) (Z2 (Z0 .i64) (Z2 (Z0 .i64) (Z2 (Z0 .i64) (Z2 (Z0 .i64) (Z2 (Z0 .i64) (Z2 (Z0 .i64) (Z2 (Z0 .i64) (Z2 (Z0 .i64) (Z2 (Z1 Z0k) (Z1 Z0b))))))))))))) (fun x=>(x.Cookie,(x.CookieMask,(x.Table,(x.Command,(x.Idle,(x.Hard,(x.Priority,(x.Buffer,(x.OutPort,(x.OutGroup,(x.Flags,(x.Match,x.Insts)))))))))))))
def lFlowMod_0:Lens Z3c Z04:=Lens.iso (k:=(Z2 Z04 (Z2 Z04 (Z2 (Z0 .i64) (Z2 (Z0 .i64) (Z2 (Z0 .i64) (Z2 (Z0 .i64) (Z2 (Z0 .i64) (Z2 (Z0 .i64) (Z2 (Z0 .i64) (Z2 (Z0 .i64) (Z2 (Z0 .i64) (Z2 (Z1 Z0k) (Z1 Z0b)))))))))))))) (Lens.fst _ _) FlowMod.Cookie (fun x y=>{x with Cookie:=y}) (fun _=>rfl) (fun _ _=>rfl)
def lFlowMod_2:Lens Z3c (Z0 .i64):=Lens.iso (k:=(Z2 Z04 (Z2 Z04 (Z2 (Z0 .i64) (Z2 (Z0 .i64) (Z2 (Z0 .i64) (Z2 (Z0 .i64) (Z2 (Z0 .i64) (Z2 (Z0 .i64) (Z2 (Z0 .i64) (Z2 (Z0 .i64) (Z2 (Z0 .i64) (Z2 (Z1 Z0k) (Z1 Z0b)))))))))))))) (Lens.comp (Lens.comp (Lens.snd _ _) (Lens.snd _ _)) (Lens.fst _ _)) FlowMod.Table (fun x y=>{x with Table:=y}) (fun _=>rfl) (fun _ _=>rfl)
def lFlowMod_3:Lens Z3c (Z0 .i64):=Lens.iso (k:=(Z2 Z04 (Z2 Z04 (Z2 (Z0 .i64) (Z2 (Z0 .i64) (Z2 (Z0 .i64) (Z2 (Z0 .i64) (Z2 (Z0 .i64) (Z2 (Z0 .i64) (Z2 (Z0 .i64) (Z2 (Z0 .i64) (Z2 (Z0 .i64) (Z2 (Z1 Z0k) (Z1 Z0b)))))))))))))) (Lens.comp (Lens.comp (Lens.comp (Lens.snd _ _) (Lens.snd _ _)) (Lens.snd _ _)) (Lens.fst _ _)) FlowMod.Command (fun x y=>{x with Command:=y}) (fun _=>rfl) (fun _ _=>rfl)
def lFlowMod_4:Lens Z3c (Z0 .i64):=Lens.iso (k:=(Z2 Z04 (Z2 Z04 (Z2 (Z0 .i64) (Z2 (Z0 .i64) (Z2 (Z0 .i64) (Z2 (Z0 .i64) (Z2 (Z0 .i64) (Z2 (Z0 .i64) (Z2 (Z0 .i64) (Z2 (Z0 .i64) (Z2 (Z0 .i64) (Z2 (Z1 Z0k) (Z1 Z0b)))))))))))))) (Lens.comp (Lens.comp (Lens.comp (Lens.comp (Lens.snd _ _) (Lens.snd _ _)) (Lens.snd _ _)) (Lens.snd _ _)) (Lens.fst _ _)) FlowMod.Idle (fun x y=>{x with Idle:=y}) (fun _=>rfl) (fun _ _=>rfl)
def lFlowMod_5:Lens Z3c (Z0 .i64):=Lens.iso (k:=(Z2 Z04 (Z2 Z04 (Z2 (Z0 .i64) (Z2 (Z0 .i64) (Z2 (Z0 .i64) (Z2 (Z0 .i64) (Z2 (Z0 .i64) (Z2 (Z0 .i64) (Z2 (Z0 .i64) (Z2 (Z0 .i64) (Z2 (Z0 .i64) (Z2 (Z1 Z0k) (Z1 Z0b)))))))))))))) (Lens.comp (Lens.comp (Lens.comp (Lens.comp (Lens.comp (Lens.snd _ _) (Lens.snd _ _)) (Lens.snd _ _)) (Lens.snd _ _)) (Lens.snd _ _)) (Lens.fst _ _)) FlowMod.Hard (fun x y=>{x with Hard:=y}) (fun _=>rfl) (fun _ _=>rfl)
def lFlowMod_6:Lens Z3c (Z0 .i64):=Lens.iso (k:=(Z2 Z04 (Z2 Z04 (Z2 (Z0 .i64) (Z2 (Z0 .i64) (Z2 (Z0 .i64) (Z2 (Z0 .i64) (Z2 (Z0 .i64) (Z2 (Z0 .i64) (Z2 (Z0 .i64) (Z2 (Z0 .i64) (Z2 (Z0 .i64) (Z2 (Z1 Z0k) (Z1 Z0b)))))))))))))) (Lens.comp (Lens.comp (Lens.comp (Lens.comp (Lens.comp (Lens.comp (Lens.snd _ _) (Lens.snd _ _)) (Lens.snd _ _)) (Lens.snd _ _)) (Lens.snd _ _)) (Lens.snd _ _)) (Lens.fst _ _)) FlowMod.Priority (fun x y=>{x with Priority:=y}) (fun _=>rfl) (fun _ _=>rfl)
def lFlowMod_7:Lens Z3c (Z0 .i64):=Lens.iso (k:=(Z2 Z04 (Z2 Z04 (Z2 (Z0 .i64) (Z2 (Z0 .i64) (Z2 (Z0 .i64) (Z2 (Z0 .i64) (Z2 (Z0 .i64) (Z2 (Z0 .i64) (Z2 (Z0 .i64) (Z2 (Z0 .i64) (Z2 (Z0 .i64) (Z2 (Z1 Z0k) (Z1 Z0b)))))))))))))) (Lens.comp (Lens.comp (Lens.comp (Lens.comp (Lens.comp (Lens.comp (Lens.comp (Lens.snd _ _) (Lens.snd _ _)) (Lens.snd _ _)) (Lens.snd _ _)) (Lens.snd _ _)) (Lens.snd _ _)) (Lens.snd _ _)) (Lens.fst _ _)) FlowMod.Buffer (fun x y=>{x with Buffer:=y}) (fun _=>rfl) (fun _ _=>rfl)
def lFlowMod_8:Lens Z3c (Z0 .i64):=Lens.iso (k:=(Z2 Z04 (Z2 Z04 (Z2 (Z0 .i64) (Z2 (Z0 .i64) (Z2 (Z0 .i64) (Z2 (Z0 .i64) (Z2 (Z0 .i64) (Z2 (Z0 .i64) (Z2 (Z0 .i64) (Z2 (Z0 .i64) (Z2 (Z0 .i64) (Z2 (Z1 Z0k) (Z1 Z0b)))))))))))))) (Lens.comp (Lens.comp (Lens.comp (Lens.comp (Lens.comp (Lens.comp (Lens.comp (Lens.comp (Lens.snd _ _) (Lens.snd _ _)) (Lens.snd _ _)) (Lens.snd _ _)) (Lens.snd _ _)) (Lens.snd _ _)) (Lens.snd _ _)) (Lens.snd _ _)) (Lens.fst _ _)) FlowMod.OutPort (fun x y=>{x with OutPort:=y}) (fun _=>rfl) (fun _ _=>rfl)
def lFlowMod_9:Lens Z3c (Z0 .i64):=Lens.iso (k:=(Z2 Z04 (Z2 Z04 (Z2 (Z0 .i64) (Z2 (Z0 .i64) (Z2 (Z0 .i64) (Z2 (Z0 .i64) (Z2 (Z0 .i64) (Z2 (Z0 .i64) (Z2 (Z0 .i64) (Z2 (Z0 .i64) (Z2 (Z0 .i64) (Z2 (Z1 Z0k) (Z1 Z0b)))))))))))))) (Lens.comp (Lens.comp (Lens.comp (Lens.comp (Lens.comp (Lens.comp (Lens.comp (Lens.comp (Lens.comp (Lens.snd _ _) (Lens.snd _ _)) (Lens.snd _ _)) (Lens.snd _ _)) (Lens.snd _ _)) (Lens.snd _ _)) (Lens.snd _ _)) (Lens.snd _ _)) (Lens.snd _ _)) (Lens.fst _ _)) FlowMod.OutGroup (fun x y=>{x with OutGroup:=y}) (fun _=>rfl) (fun _ _=>rfl)
def lFlowMod_10:Lens Z3c (Z0 .i64):=Lens.iso (k:=(Z2 Z04 (Z2 Z04 (Z2 (Z0 .i64) (Z2 (Z0 .i64) (Z2 (Z0 .i64) (Z2 (Z0 .i64) (Z2 (Z0 .i64) (Z2 (Z0 .i64) (Z2 (Z0 .i64) (Z2 (Z0 .i64) (Z2 (Z0 .i64) (Z2 (Z1 Z0k) (Z1 Z0b)))))))))))))) (Lens.comp (Lens.comp (Lens.comp (Lens.comp (Lens.comp (Lens.comp (Lens.comp (Lens.comp (Lens.comp (Lens.comp (Lens.snd _ _) (Lens.snd _ _)) (Lens.snd _ _)) (Lens.snd _ _)) (Lens.snd _ _)) (Lens.snd _ _)) (Lens.snd _ _)) (Lens.snd _ _)) (Lens.snd _ _)) (Lens.snd _ _)) (Lens.fst _ _)) FlowMod.Flags (fun x y=>{x with Flags:=y}) (fun _=>rfl) (fun _ _=>rfl)
def lFlowMod_11:Lens Z3c (Z1 Z0k):=Lens.iso (k:=(Z2 Z04 (Z2 Z04 (Z2 (Z0 .i64) (Z2 (Z0 .i64) (Z2 (Z0 .i64) (Z2 (Z0 .i64) (Z2 (Z0 .i64) (Z2 (Z0 .i64) (Z2 (Z0 .i64) (Z2 (Z0 .i64) (Z2 (Z0 .i64) (Z2 (Z1 Z0k) (Z1 Z0b)))))))))))))) (Lens.comp (Lens.comp (Lens.comp (Lens.comp (Lens.comp (Lens.comp (Lens.comp (Lens.comp (Lens.comp (Lens.comp (Lens.comp (Lens.snd _ _) (Lens.snd _ _)) (Lens.snd _ _)) (Lens.snd _ _)) (Lens.snd _ _)) (Lens.snd _ _)) (Lens.snd _ _)) (Lens.snd _ _)) (Lens.snd _ _)) (Lens.snd _ _)) (Lens.snd _ _)) (Lens.fst _ _)) FlowMod.Match (fun x y=>{x with Match:=y}) (fun _=>rfl) (fun _ _=>rfl)
def lFlowMod_12:Lens Z3c (Z1 Z0b):=Lens.iso (k:=(Z2 Z04 (Z2 Z04 (Z2 (Z0 .i64) (Z2 (Z0 .i64) (Z2 (Z0 .i64) (Z2 (Z0 .i64) (Z2 (Z0 .i64) (Z2 (Z0 .i64) (Z2 (Z0 .i64) (Z2 (Z0 .i64) (Z2 (Z0 .i64) (Z2 (Z1 Z0k) (Z1 Z0b)))))))))))))) (Lens.comp (Lens.comp (Lens.comp (Lens.comp (Lens.comp (Lens.comp (Lens.comp (Lens.comp (Lens.comp (Lens.comp (Lens.comp (Lens.snd _ _) (Lens.snd _ _)) (Lens.snd _ _)) (Lens.snd _ _)) (Lens.snd _ _)) (Lens.snd _ _)) (Lens.snd _ _)) (Lens.snd _ _)) (Lens.snd _ _)) (Lens.snd _ _)) (Lens.snd _ _)) (Lens.snd _ _)) FlowMod.Insts (fun x y=>{x with Insts:=y}) (fun _=>rfl) (fun _ _=>rfl)
def Zvt:FlowMod:=⟨0,0,0,0,0,0,0,0,0,0,0,[],[]⟩
def Y5b:List Value:=([.int .u64 0]++([.int .u64 0]++([.int .i64 0]++([.int .i64 0]++([.int .i64 0]++([.int .i64 0]++([.int .i64 0]++([.int .i64 0]++([.int .i64 0]++([.int .i64 0]++([.int .i64 0]++([.slice none 0 0]++[.slice none 0 0]))))))))))))
theorem Y2i:KZ Z3c Zvt Y5b:=Z2o (Z0q Zj0 (Z0q Zj0 (Z0q Z1q (Z0q Z1q (Z0q Z1q (Z0q Z1q (Z0q Z1q (Z0q Z1q (Z0q Z1q (Z0q Z1q (Z0q Z1q (Z0q (Z5d _) (Z5d _)))))))))))))
abbrev Zza:=Vector Int 9
structure flowmod_mod where
 FlowMod:FlowMod
 deriving DecidableEq,Inhabited
def Z4b:Kd flowmod_mod:=Z18 Z3c (fun x=>x.FlowMod)
def lflowmod_mod_0:Lens Z4b Z3c:=Lens.iso (k:=Z3c) (Lens.id _) flowmod_mod.FlowMod (fun x y=>{x with FlowMod:=y}) (fun _=>rfl) (fun _ _=>rfl)
def Y88:flowmod_mod:=⟨Zvt⟩
def Yre:List Value:=Y5b
theorem Yz4:KZ Z4b Y88 Yre:=Z2o Y2i
abbrev Ybf:=Vector Int 4
structure state_work where
 Switch:Switch
 deriving DecidableEq,Inhabited
def Zag:Kd state_work:=Z18 Z09 (fun x=>x.Switch)
def lstate_work_0:Lens Zag Z09:=Lens.iso (k:=Z09) (Lens.id _) state_work.Switch (fun x y=>{x with Switch:=y}) (fun _=>rfl) (fun _ _=>rfl)
def Y4k:state_work:=⟨Zer⟩
def Yvx:List Value:=Zuz
theorem Yit:KZ Zag Y4k Yvx:=Z2o Zqw
theorem Z2q:Sl Tryz.prog 22 48 Z08:=⟨by kernel_rfl,by kernel_rfl⟩
theorem Z2n:Ty Tryz.prog 48 Z08:=⟨by kernel_rfl,by kernel_rfl⟩
theorem Z50:Sl Tryz.prog 46 140 Z0b:=⟨by kernel_rfl,by kernel_rfl⟩
theorem Z2b:Ty Tryz.prog 140 Z0b:=⟨by kernel_rfl,by kernel_rfl⟩
theorem Z0h:Sl Tryz.prog 77 219 Z9:=⟨by kernel_rfl,by kernel_rfl⟩
theorem Z7h:Fl Tryz.prog 140 4 Z6g:=⟨by kernel_rfl,rfl⟩
theorem Z34:Ty Tryz.prog 77 (Z1 Z9):=⟨by kernel_rfl,by kernel_rfl⟩
theorem Zlc:Fl Tryz.prog 48 5 lFlow_5:=⟨by kernel_rfl,rfl⟩
theorem Zca:Ty Tryz.prog 45 (Z1 Z0k):=⟨by kernel_rfl,by kernel_rfl⟩
theorem Z5f:Sl Tryz.prog 45 217 Z0k:=⟨by kernel_rfl,by kernel_rfl⟩
theorem Z8v:Fl Tryz.prog 48 6 lFlow_6:=⟨by kernel_rfl,rfl⟩
theorem Z69:Ty Tryz.prog 46 (Z1 Z0b):=⟨by kernel_rfl,by kernel_rfl⟩
theorem Z6z:Sl Tryz.prog 69 168 Z1y:=⟨by kernel_rfl,by kernel_rfl⟩
theorem Zvk:Ty Tryz.prog 168 Z1y:=⟨by kernel_rfl,by kernel_rfl⟩
theorem Zle:Fl Tryz.prog 168 3 Zfw:=⟨by kernel_rfl,rfl⟩
theorem Z7v:Fl Tryz.prog 71 2 Z79:=⟨by kernel_rfl,rfl⟩
theorem Z85:Ty Tryz.prog 69 (Z1 Z1y):=⟨by kernel_rfl,by kernel_rfl⟩
theorem Zo:Ty Tryz.prog 3 (Z0 .i64):=⟨by kernel_rfl,by kernel_rfl⟩
theorem Z5b:Sl Tryz.prog 24 71 Z0e:=⟨by kernel_rfl,by kernel_rfl⟩
theorem Z7g:Ty Tryz.prog 71 Z0e:=⟨by kernel_rfl,by kernel_rfl⟩
theorem Z6o:Fl Tryz.prog 26 0 Z64:=⟨by kernel_rfl,rfl⟩
theorem Ztj:Ty Tryz.prog 23 (Z3 4 (Z1 Z08)):=⟨by kernel_rfl,by kernel_rfl⟩
theorem Zsd:Fl Tryz.prog 26 1 lSwitch_1:=⟨by kernel_rfl,rfl⟩
theorem Zdk:Ty Tryz.prog 24 (Z1 Z0e):=⟨by kernel_rfl,by kernel_rfl⟩
theorem Z6p:Ar Tryz.prog 23 22 4 (Z1 Z08):=⟨by kernel_rfl,by kernel_rfl⟩
theorem Z46:Ty Tryz.prog 22 (Z1 Z08):=⟨by kernel_rfl,by kernel_rfl⟩
theorem Z1l:Zr Tryz.prog 123 (Z3 24 Z4) (Vector.replicate 24 zTern):=⟨_,(Z5a 24 Zal),by kernel_rfl⟩
theorem Z02:Ty Tryz.prog 123 (Z3 24 Z4):=⟨by kernel_rfl,by kernel_rfl⟩
theorem Z3v:Zr Tryz.prog 131 (Z3 24 Z4) (Vector.replicate 24 zTern):=⟨_,(Z5a 24 Zal),by kernel_rfl⟩
theorem Z03:Ty Tryz.prog 131 (Z3 24 Z4):=⟨by kernel_rfl,by kernel_rfl⟩
theorem Z15:Sl Tryz.prog 55 3 (Z0 .i64):=⟨by kernel_rfl,by kernel_rfl⟩
theorem zr3:Zr Tryz.prog 3 (Z0 .i64) 0:=⟨_,Z1q,by kernel_rfl⟩
theorem Zbf:Fl Tryz.prog 48 1 lFlow_1:=⟨by kernel_rfl,rfl⟩
theorem Zik:El Tryz.prog 55 3 (Z0 .i64):=⟨by kernel_rfl,by kernel_rfl,by kernel_rfl,by kernel_rfl,by kernel_rfl⟩
theorem Z2c:Zr Tryz.prog 29 Zn Z0s:=⟨_,Z8o,by kernel_rfl⟩
theorem Z4t:Z2i Tryz.prog 29=true:=by kernel_rfl
theorem Zw:Ty Tryz.prog 29 Zn:=⟨by kernel_rfl,by kernel_rfl⟩
theorem us3:(Tryz.prog.underlying 3).isSome=true:=by kernel_rfl
theorem Z96:Tryz.prog.underlying 331=some (.int .u64):=by kernel_rfl
theorem Z8i:Z0o Tryz.prog 29 1=some (lWide_1.off,Kd.sz Z04):=by kernel_rfl
theorem Z8y:Z0o Tryz.prog 29 0=some (lWide_0.off,Kd.sz Z04):=by kernel_rfl
theorem Z4s:Fl Tryz.prog 29 0 lWide_0:=⟨by kernel_rfl,rfl⟩
theorem Z1h:Ty Tryz.prog 27 Z04:=⟨by kernel_rfl,by kernel_rfl⟩
theorem Z4r:Fl Tryz.prog 29 1 lWide_1:=⟨by kernel_rfl,rfl⟩
theorem Z1n:Zr Tryz.prog 121 Z4 zTern:=⟨_,Zal,by kernel_rfl⟩
theorem Z52:Fl Tryz.prog 217 0 Z4w:=⟨by kernel_rfl,rfl⟩
theorem Z4x:Z2i Tryz.prog 121=true:=by kernel_rfl
theorem Z01:Ty Tryz.prog 121 Z4:=⟨by kernel_rfl,by kernel_rfl⟩
theorem Y9z:Fl Tryz.prog 217 1 Zvg:=⟨by kernel_rfl,rfl⟩
theorem ty4:Ty Tryz.prog 4 Z6:=⟨by kernel_rfl,by kernel_rfl⟩
theorem Zss:Fl Tryz.prog 217 2 Zm6:=⟨by kernel_rfl,rfl⟩
theorem Y7u:Fl Tryz.prog 217 3 Zxk:=⟨by kernel_rfl,rfl⟩
theorem Z5x:Z0o Tryz.prog 121 0=some (lTern_0.off,Kd.sz Zn):=by kernel_rfl
theorem Z6e:Z0o Tryz.prog 121 1=some (lTern_1.off,Kd.sz Zn):=by kernel_rfl
theorem Z7p:Ty Tryz.prog 217 Z0k:=⟨by kernel_rfl,by kernel_rfl⟩
theorem Z2p:Ar Tryz.prog 123 121 24 Z4:=⟨by kernel_rfl,by kernel_rfl⟩
theorem Z32:Fl Tryz.prog 121 0 lTern_0:=⟨by kernel_rfl,rfl⟩
theorem Z2g:Fl Tryz.prog 121 1 lTern_1:=⟨by kernel_rfl,rfl⟩
theorem Z4k:Ar Tryz.prog 131 121 24 Z4:=⟨by kernel_rfl,by kernel_rfl⟩
theorem Z3k:Zr Tryz.prog 140 Z0b Ztw:=⟨_,Yfi,by kernel_rfl⟩
theorem Zjo:Fl Tryz.prog 140 0 Zfa:=⟨by kernel_rfl,rfl⟩
theorem Yau:Z2i Tryz.prog 140=true:=by kernel_rfl
theorem Z67:Fl Tryz.prog 219 0 Z5t:=⟨by kernel_rfl,rfl⟩
theorem Zaa:Fl Tryz.prog 219 5 Z9s:=⟨by kernel_rfl,rfl⟩
theorem Z8p:Sl Tryz.prog 124 296 Z0r:=⟨by kernel_rfl,by kernel_rfl⟩
theorem Z87:Zr Tryz.prog 296 Z0r Zyi:=⟨_,Yyk,by kernel_rfl⟩
theorem Zju:Fl Tryz.prog 219 1 Zgl:=⟨by kernel_rfl,rfl⟩
theorem Zvi:Z0o Tryz.prog 296 0=some (lAtom_0.off,Kd.sz (Z3 24 Z4)):=by kernel_rfl
theorem Y9j:Z0o Tryz.prog 296 2=some (lAtom_2.off,Kd.sz (Z0 .i64)):=by kernel_rfl
theorem Zte:Z2i Tryz.prog 296=true:=by kernel_rfl
theorem Zop:Ty Tryz.prog 296 Z0r:=⟨by kernel_rfl,by kernel_rfl⟩
theorem Zwi:Fl Tryz.prog 296 2 lAtom_2:=⟨by kernel_rfl,rfl⟩
theorem Zw1:Fl Tryz.prog 219 2 Zse:=⟨by kernel_rfl,rfl⟩
theorem Y4b:Fl Tryz.prog 296 3 Zzt:=⟨by kernel_rfl,rfl⟩
theorem Zap:El Tryz.prog 124 296 Z0r:=⟨by kernel_rfl,by kernel_rfl,by kernel_rfl,by kernel_rfl,by kernel_rfl⟩
theorem Zy6:Fl Tryz.prog 219 3 Zs6:=⟨by kernel_rfl,rfl⟩
theorem Ys9:Z0o Tryz.prog 296 1=some (lAtom_1.off,Kd.sz Z6):=by kernel_rfl
theorem Z11:Ty Tryz.prog 219 Z9:=⟨by kernel_rfl,by kernel_rfl⟩
theorem Z71:Zr Tryz.prog 219 Z9 Zsm:=⟨_,Yi3,by kernel_rfl⟩
theorem Z9m:El Tryz.prog 77 219 Z9:=⟨by kernel_rfl,by kernel_rfl,by kernel_rfl,by kernel_rfl,by kernel_rfl⟩
theorem Yeg:Z2i Tryz.prog 219=true:=by kernel_rfl
theorem Z44:Sl Tryz.prog 67 126 Z0a:=⟨by kernel_rfl,by kernel_rfl⟩
theorem Z7k:Zr Tryz.prog 126 Z0a Y81:=⟨_,Ynd,by kernel_rfl⟩
theorem Z7u:Zr Tryz.prog 48 Z08 Ztx:=⟨_,Yji,by kernel_rfl⟩
theorem Z28:Ty Tryz.prog 26 Z09:=⟨by kernel_rfl,by kernel_rfl⟩
theorem Zkv:El Tryz.prog 67 126 Z0a:=⟨by kernel_rfl,by kernel_rfl,by kernel_rfl,by kernel_rfl,by kernel_rfl⟩
theorem Zvd:Z0o Tryz.prog 126 0=some (lRule_0.off,Kd.sz (Z3 24 Z4)):=by kernel_rfl
theorem Zu4:Z0o Tryz.prog 126 1=some (lRule_1.off,Kd.sz (Z1 Z0r)):=by kernel_rfl
theorem Zx8:Z2i Tryz.prog 126=true:=by kernel_rfl
theorem Zui:Fl Tryz.prog 140 2 Zrv:=⟨by kernel_rfl,rfl⟩
theorem Zy5:Fl Tryz.prog 140 3 Zsy:=⟨by kernel_rfl,rfl⟩
theorem Z8s:Fl Tryz.prog 140 1 Z84:=⟨by kernel_rfl,rfl⟩
theorem Z4z:Sl Tryz.prog 127 123 (Z3 24 Z4):=⟨by kernel_rfl,by kernel_rfl⟩
theorem Zo2:Fl Tryz.prog 126 0 lRule_0:=⟨by kernel_rfl,rfl⟩
theorem Zsj:El Tryz.prog 127 123 (Z3 24 Z4):=⟨by kernel_rfl,by kernel_rfl,by kernel_rfl,by kernel_rfl,by kernel_rfl⟩
theorem Zbk:(Tryz.prog.underlying 331).isSome=true:=by kernel_rfl
theorem un3:Tryz.prog.underlying 3=some (.int .i64):=by kernel_rfl
theorem Y5c:Zr Tryz.prog 399 (Z3 24 Z27) (Vector.replicate 24 Zkg):=⟨_,(Z5a 24 Y3v),by kernel_rfl⟩
theorem Ynk:Z0o Tryz.prog 381 1=some (lfield_row_1.off,Kd.sz (Z0 .i64)):=by kernel_rfl
theorem Z38:Zr Tryz.prog 381 Z27 Zkg:=⟨_,Y3v,by kernel_rfl⟩
theorem Y5d:Ty Tryz.prog 399 (Z3 24 Z27):=⟨by kernel_rfl,by kernel_rfl⟩
theorem Yxm:Z2i Tryz.prog 381=true:=by kernel_rfl
theorem Znn:Ty Tryz.prog 381 Z27:=⟨by kernel_rfl,by kernel_rfl⟩
theorem Ytg:Ar Tryz.prog 399 381 24 Z27:=⟨by kernel_rfl,by kernel_rfl⟩
theorem Yp0:Zng Tryz.prog 381 2=some 3:=by kernel_rfl
theorem Yxp:Fl Tryz.prog 381 2 Z3a:=⟨by kernel_rfl,rfl⟩
theorem Zsk:Zr Tryz.prog 217 Z0k Z8q:=⟨_,Y7f,by kernel_rfl⟩
theorem Zjk:Zr Tryz.prog 304 Z22 Zgd:=⟨_,Yuv,by kernel_rfl⟩
theorem Zof:Fl Tryz.prog 304 1 lwalk_way_1:=⟨by kernel_rfl,rfl⟩
theorem Y1n:Z2i Tryz.prog 304=true:=by kernel_rfl
theorem Z3z:Ty Tryz.prog 304 Z22:=⟨by kernel_rfl,by kernel_rfl⟩
theorem Zz9:Fl Tryz.prog 304 0 lwalk_way_0:=⟨by kernel_rfl,rfl⟩
theorem Ynj:Zr Tryz.prog 409 (Z3 2 Z04) (Vector.replicate 2 0):=⟨_,(Z5a 2 Zj0),by kernel_rfl⟩
theorem Zzg:Ar Tryz.prog 409 27 2 Z04:=⟨by kernel_rfl,by kernel_rfl⟩
theorem Zoy:Fl Tryz.prog 416 0 latom_trace_o1_0:=⟨by kernel_rfl,rfl⟩
theorem Yka:Fl Tryz.prog 296 1 lAtom_1:=⟨by kernel_rfl,rfl⟩
theorem Zz2:Fl Tryz.prog 416 1 Zjy:=⟨by kernel_rfl,rfl⟩
theorem Ztq:Ty Tryz.prog 124 kraw:=⟨by kernel_rfl,by kernel_rfl⟩
theorem Yz6:Z0o Tryz.prog 416 0=some (latom_trace_o1_0.off,Kd.sz (Z3 24 Z4)):=by kernel_rfl
theorem Yky:Zr Tryz.prog 416 Z65 Y4t:=⟨_,Yoi,by kernel_rfl⟩
theorem Yl6:Z2i Tryz.prog 416=true:=by kernel_rfl
theorem Zk4:Fl Tryz.prog 304 2 Zi8:=⟨by kernel_rfl,rfl⟩
theorem Zf6:Ty Tryz.prog 124 (Z1 Z0r):=⟨by kernel_rfl,by kernel_rfl⟩
theorem Zm7:Zr Tryz.prog 225 Z7t Zs2:=⟨_,Yfh,by kernel_rfl⟩
theorem Y12:Z0o Tryz.prog 225 0=some (laset_spot_0.off,Kd.sz (Z0 .i64)):=by kernel_rfl
theorem Ykz:Z0o Tryz.prog 225 1=some (laset_spot_1.off,Kd.sz (Z0 .i64)):=by kernel_rfl
theorem Y73:Z2i Tryz.prog 225=true:=by kernel_rfl
theorem Zjn:Ty Tryz.prog 225 Z7t:=⟨by kernel_rfl,by kernel_rfl⟩
theorem eqk3:EqK Tryz.prog 1 3 (Z0 .i64):=Yrk (by kernel_rfl)
theorem Yl5:EqK Tryz.prog 2 225 Z7t:=Zoj (fun x y e=>by cases x;cases y;simp only [Prod.mk.injEq] at e;simp [e]) (l:=_) (by kernel_rfl) (by kernel_rfl) (Zlh eqk3 Zo (Zkf eqk3 Zo))
theorem Yfl:Tryz.prog.eqGuardType Tryz.prog.depth 225=false:=by kernel_rfl
theorem Y7h:Fl Tryz.prog 225 0 laset_spot_0:=⟨by kernel_rfl,rfl⟩
theorem Zon:Fl Tryz.prog 225 1 laset_spot_1:=⟨by kernel_rfl,rfl⟩
theorem zr4:Zr Tryz.prog 4 Z6 false:=⟨_,Zit,by kernel_rfl⟩
theorem Zqj:Fl Tryz.prog 304 3 Zk8:=⟨by kernel_rfl,rfl⟩
theorem Zau:Ty Tryz.prog 126 Z0a:=⟨by kernel_rfl,by kernel_rfl⟩
theorem Y96:Fl Tryz.prog 301 0 (Lens.fst Z09 kraw):=⟨by kernel_rfl,rfl⟩
theorem Y9v (A:Z8):Fl Tryz.prog 301 0 (Zw7 Z09 A):=⟨Y96.1,Y96.2⟩
theorem Y23:Fl Tryz.prog 301 1 (Lens.snd Z09 kraw):=⟨by kernel_rfl,rfl⟩
theorem Y1x (A:Z8):Fl Tryz.prog 301 1 (Zt5 Z09 A):=⟨Y23.1,Y23.2⟩
theorem tyr298:Ty Tryz.prog 298 kraw:=⟨by kernel_rfl,by kernel_rfl⟩
theorem Y2g (A:Z8):Ty Tryz.prog 298 (kas A):=⟨tyr298.sz,tyr298.ag⟩
theorem Ywh:Zr Tryz.prog 301 (Z2 Z09 kraw) (Zer,.nilFunc):=⟨_,Z0q Zqw (Zg5 rfl),by kernel_rfl⟩
theorem Yxz:Z0o Tryz.prog 304 0=some (lwalk_way_0.off,Kd.sz (Z3 24 Z4)):=by kernel_rfl
theorem Yu1:Z0o Tryz.prog 304 1=some (lwalk_way_1.off,Kd.sz (Z3 24 Z4)):=by kernel_rfl
theorem Zzk:Ty Tryz.prog 67 kraw:=⟨by kernel_rfl,by kernel_rfl⟩
theorem Yl9:Fl Tryz.prog 289 1 lcover_purse_1:=⟨by kernel_rfl,rfl⟩
theorem Zxa:Fl Tryz.prog 289 0 lcover_purse_0:=⟨by kernel_rfl,rfl⟩
theorem Z55:Zr Tryz.prog 31 (Z3 24 Zn) (Vector.replicate 24 Z0s):=⟨_,(Z5a 24 Z8o),by kernel_rfl⟩
theorem Z17:Ty Tryz.prog 31 (Z3 24 Zn):=⟨by kernel_rfl,by kernel_rfl⟩
theorem Yg3:Zng Tryz.prog 121 0=some 29:=by kernel_rfl
theorem Zq9:Ar Tryz.prog 31 29 24 Zn:=⟨by kernel_rfl,by kernel_rfl⟩
theorem Ylj:(Tryz.prog.underlying 27).isSome=true:=by kernel_rfl
theorem tyr287:Ty Tryz.prog 287 kraw:=⟨by kernel_rfl,by kernel_rfl⟩
theorem Y8w (A:Z8):Ty Tryz.prog 287 (kas A):=⟨tyr287.sz,tyr287.ag⟩
theorem Yey:Fl Tryz.prog 291 0 lcover_look_0:=⟨by kernel_rfl,rfl⟩
theorem Zyz:Ty Tryz.prog 127 (Z1 (Z3 24 Z4)):=⟨by kernel_rfl,by kernel_rfl⟩
theorem Yx6:Z0o Tryz.prog 289 0=some (lcover_purse_0.off,Kd.sz (Z0 .i64)):=by kernel_rfl
theorem Ykd:Z0o Tryz.prog 289 1=some (lcover_purse_1.off,Kd.sz Z6):=by kernel_rfl
theorem Ysn:Zr Tryz.prog 289 Z7a Zvh:=⟨_,Y39,by kernel_rfl⟩
theorem Ywj:Z2i Tryz.prog 289=true:=by kernel_rfl
theorem Yfo:Z0o Tryz.prog 291 0=some (lcover_look_0.off,Kd.sz Z7a):=by kernel_rfl
theorem Ycz:Zr Tryz.prog 291 Z2d Y44:=⟨_,Yya,by kernel_rfl⟩
theorem Yo5:Z2i Tryz.prog 291=true:=by kernel_rfl
theorem Y7a:Fl Tryz.prog 126 1 lRule_1:=⟨by kernel_rfl,rfl⟩
theorem Zzd:Fl Tryz.prog 71 0 lGroup_0:=⟨by kernel_rfl,rfl⟩
theorem Yop:El Tryz.prog 24 71 Z0e:=⟨by kernel_rfl,by kernel_rfl,by kernel_rfl,by kernel_rfl,by kernel_rfl⟩
theorem Zd7:Zr Tryz.prog 71 Z0e Zyo:=⟨_,Y8q,by kernel_rfl⟩
theorem Yhc:El Tryz.prog 69 168 Z1y:=⟨by kernel_rfl,by kernel_rfl,by kernel_rfl,by kernel_rfl,by kernel_rfl⟩
theorem Y0a:Zr Tryz.prog 168 Z1y Y67:=⟨_,Yhf,by kernel_rfl⟩
theorem Y2t:Z2i Tryz.prog 71=true:=by kernel_rfl
theorem Yil:Fl Tryz.prog 57 0 Ycj:=⟨by kernel_rfl,rfl⟩
theorem Yri:Fl Tryz.prog 57 1 Y4d:=⟨by kernel_rfl,rfl⟩
theorem Yxn:Ty Tryz.prog 55 (Z1 (Z0 .i64)):=⟨by kernel_rfl,by kernel_rfl⟩
theorem Y6u:Fl Tryz.prog 406 0 lenv_world_0:=⟨by kernel_rfl,rfl⟩
theorem Zjp:Ty Tryz.prog 57 Z2y:=⟨by kernel_rfl,by kernel_rfl⟩
theorem Ywe:Fl Tryz.prog 168 1 Y3i:=⟨by kernel_rfl,rfl⟩
theorem Zl5:Fl Tryz.prog 406 1 lenv_world_1:=⟨by kernel_rfl,rfl⟩
theorem Yvt:Z0o Tryz.prog 406 0=some (lenv_world_0.off,Kd.sz Z2y):=by kernel_rfl
theorem Yrl:Z0o Tryz.prog 406 1=some (lenv_world_1.off,Kd.sz Z0e):=by kernel_rfl
theorem Y7l:Zr Tryz.prog 406 Zc2 Y5m:=⟨_,Yrq,by kernel_rfl⟩
theorem Yfd:Z2i Tryz.prog 406=true:=by kernel_rfl
theorem Y6v:Ty Tryz.prog 406 Zc2:=⟨by kernel_rfl,by kernel_rfl⟩
theorem Y91:Fl Tryz.prog 71 1 Zun:=⟨by kernel_rfl,rfl⟩
theorem Zzb:Fl Tryz.prog 311 2 Zl6:=⟨by kernel_rfl,rfl⟩
theorem Zmy:Ty Tryz.prog 61 kraw:=⟨by kernel_rfl,by kernel_rfl⟩
theorem Zg7:Fl Tryz.prog 311 3 lexec_run_o2_3:=⟨by kernel_rfl,rfl⟩
theorem Yu8:Z0o Tryz.prog 111 0=some (lOut_0.off,Kd.sz (Z0 .i64)):=by kernel_rfl
theorem Yft:Z0o Tryz.prog 111 1=some (lOut_1.off,Kd.sz (Z0 .i64)):=by kernel_rfl
theorem Yqy:Z0o Tryz.prog 111 2=some (lOut_2.off,Kd.sz (Z3 24 Zn)):=by kernel_rfl
theorem Yb6:Zr Tryz.prog 111 Z14 Ya7:=⟨_,Yll,by kernel_rfl⟩
theorem Yu9:Z2i Tryz.prog 111=true:=by kernel_rfl
theorem Yxr:Sl Tryz.prog 61 111 Z14:=⟨by kernel_rfl,by kernel_rfl⟩
theorem Y8k:El Tryz.prog 61 111 Z14:=⟨by kernel_rfl,by kernel_rfl,by kernel_rfl,by kernel_rfl,by kernel_rfl⟩
theorem Yqg:Fl Tryz.prog 311 1 lexec_run_o2_1:=⟨by kernel_rfl,rfl⟩
theorem Znc:Fl Tryz.prog 311 4 Zgw:=⟨by kernel_rfl,rfl⟩
theorem Yhn:Fl Tryz.prog 311 0 lexec_run_o2_0:=⟨by kernel_rfl,rfl⟩
theorem Yxh:Z0o Tryz.prog 311 0=some (lexec_run_o2_0.off,Kd.sz Z2y):=by kernel_rfl
theorem Yo4:Z0o Tryz.prog 311 1=some (lexec_run_o2_1.off,Kd.sz (Z1 Z0e)):=by kernel_rfl
theorem Ym2:Z0o Tryz.prog 311 3=some (lexec_run_o2_3.off,Kd.sz (Z3 24 Zn)):=by kernel_rfl
theorem Yct:Zr Tryz.prog 311 Z1s Y46:=⟨_,Ygt,by kernel_rfl⟩
theorem Yy2:Z2i Tryz.prog 311=true:=by kernel_rfl
theorem Zth:Fl Tryz.prog 79 0 lsem_packet_o4_5_0:=⟨by kernel_rfl,rfl⟩
theorem Yw4:Fl Tryz.prog 79 1 Y8y:=⟨by kernel_rfl,rfl⟩
theorem Zm3:Fl Tryz.prog 79 2 lsem_packet_o4_5_2:=⟨by kernel_rfl,rfl⟩
theorem Y2v:Fl Tryz.prog 79 4 Zqz:=⟨by kernel_rfl,rfl⟩
theorem Zsg:Fl Tryz.prog 79 3 Zoc:=⟨by kernel_rfl,rfl⟩
theorem Zl2:Fl Tryz.prog 79 5 Zge:=⟨by kernel_rfl,rfl⟩
theorem Zog:Ty Tryz.prog 34 kraw:=⟨by kernel_rfl,by kernel_rfl⟩
theorem Zcn:Z0o Tryz.prog 40 0=some (lPlace_0.off,Kd.sz (Z0 .i64)):=by kernel_rfl
theorem Zdb:Z0o Tryz.prog 40 1=some (lPlace_1.off,Kd.sz (Z0 .i64)):=by kernel_rfl
theorem Z4u:Zr Tryz.prog 40 Z0l Zx3:=⟨_,Y24,by kernel_rfl⟩
theorem Z98:Z2i Tryz.prog 40=true:=by kernel_rfl
theorem Z61:Sl Tryz.prog 34 40 Z0l:=⟨by kernel_rfl,by kernel_rfl⟩
theorem Zvw:El Tryz.prog 34 40 Z0l:=⟨by kernel_rfl,by kernel_rfl,by kernel_rfl,by kernel_rfl,by kernel_rfl⟩
theorem Yuf:Z0o Tryz.prog 79 0=some (lsem_packet_o4_5_0.off,Kd.sz Z09):=by kernel_rfl
theorem Yqt:Z0o Tryz.prog 79 2=some (lsem_packet_o4_5_2.off,Kd.sz (Z3 24 Zn)):=by kernel_rfl
theorem Ywx:Zr Tryz.prog 79 Z26 Ya0:=⟨_,Yuq,by kernel_rfl⟩
theorem Yse:Z2i Tryz.prog 79=true:=by kernel_rfl
theorem Yaj:laidOutB Tryz.prog=true:=by kernel_rfl
theorem Zue:MTy Tryz.prog 72 40 Z0l:=⟨⟨3,by kernel_rfl,by kernel_rfl⟩,(Yhj (ti:=3) (f:=fun (x:Place)=>(x.Table,x.Flow)) (n:=449) (a:="Table") (b:="Flow") (Go.Maps.Keyed.of_law (deep_law_laid Yaj (m:=2) (by omega) (Nat.lt_of_lt_of_eq (by decide:40<450) (by kernel_rfl)) (by kernel_rfl) (by kernel_rfl))) (by kernel_rfl) (by decide) (by decide) (by kernel_rfl) (by kernel_rfl) (by kernel_rfl) (by kernel_rfl) (by kernel_rfl) (fun x y e=>by cases x;cases y;simp at e;simp [e]))⟩
theorem Z4h:Ty Tryz.prog 40 Z0l:=⟨by kernel_rfl,by kernel_rfl⟩
theorem Zbb:Zr Tryz.prog 26 Z09 Zer:=⟨_,Zqw,by kernel_rfl⟩
theorem Zrn:Z2i Tryz.prog 26=true:=by kernel_rfl
theorem Yht:El Tryz.prog 22 48 Z08:=⟨by kernel_rfl,by kernel_rfl,by kernel_rfl,by kernel_rfl,by kernel_rfl⟩
theorem Y33:Fl Tryz.prog 253 0 lgroup_walk_o1_0:=⟨by kernel_rfl,rfl⟩
theorem Zqr:Fl Tryz.prog 253 1 lgroup_walk_o1_1:=⟨by kernel_rfl,rfl⟩
theorem Zpr:Ty Tryz.prog 251 kraw:=⟨by kernel_rfl,by kernel_rfl⟩
theorem Zfq:MTy Tryz.prog 251 3 (Z0 .i64):=⟨⟨3,by kernel_rfl,by kernel_rfl⟩,Yio (by kernel_rfl)⟩
theorem Ykq:Z0o Tryz.prog 253 0=some (lgroup_walk_o1_0.off,Kd.sz (Z1 Z0e)):=by kernel_rfl
theorem Yif:Z0o Tryz.prog 253 1=some (lgroup_walk_o1_1.off,Kd.sz kraw):=by kernel_rfl
theorem Yup:Zr Tryz.prog 253 Z77 Yb9:=⟨_,Yus,by kernel_rfl⟩
theorem Ymi:Z2i Tryz.prog 253=true:=by kernel_rfl
theorem Yn0:(Tryz.prog.underlying 251).isSome=true:=by kernel_rfl
theorem Zrf:Zng Tryz.prog 98 0=some 4:=by kernel_rfl
theorem Zqi:Fl Tryz.prog 98 0 lFault_0:=⟨by kernel_rfl,rfl⟩
theorem Ztv:Z0o Tryz.prog 85 0=some (laudit_wrong_0.off,Kd.sz Z0l):=by kernel_rfl
theorem Zr6:Zr Tryz.prog 85 Z7y Zx7:=⟨_,Yo9,by kernel_rfl⟩
theorem Zyq:Z2i Tryz.prog 85=true:=by kernel_rfl
theorem Zzq:Zct Tryz.prog 85=true:=by kernel_rfl
theorem Y4o:Zr Tryz.prog 269 Zcq Y3r:=⟨_,Ywc,by kernel_rfl⟩
theorem Yd5:Z0o Tryz.prog 269 0=some (lflow_place_0.off,Kd.sz (Z0 .i64)):=by kernel_rfl
theorem Yun:Z0o Tryz.prog 269 1=some (lflow_place_1.off,Kd.sz (Z3 24 Z4)):=by kernel_rfl
theorem Yqx:Z2i Tryz.prog 269=true:=by kernel_rfl
theorem Y3j:Ty Tryz.prog 269 Zcq:=⟨by kernel_rfl,by kernel_rfl⟩
theorem Y0q:EqK Tryz.prog 1 27 Z04:=Ydn (by kernel_rfl)
theorem Y2u:EqK Tryz.prog 2 29 Zn:=Zoj (fun x y e=>by cases x;cases y;simp only [Prod.mk.injEq] at e;simp [e]) (l:=_) (by kernel_rfl) (by kernel_rfl) (Zlh Y0q Z1h (Zkf Y0q Z1h))
theorem Yiq:EqK Tryz.prog 3 121 Z4:=Zoj (fun x y e=>by cases x;cases y;simp only [Prod.mk.injEq] at e;simp [e]) (l:=_) (by kernel_rfl) (by kernel_rfl) (Zlh Y2u Zw (Zkf Y2u Zw))
theorem Ytw:EqK Tryz.prog 4 123 (Z3 24 Z4):=Yhy Yiq Z01 Z2p
theorem Yhw:EqK Tryz.prog 5 269 Zcq:=Zoj (fun x y e=>by cases x;cases y;simp only [Prod.mk.injEq] at e;simp [e]) (l:=_) (by kernel_rfl) (by kernel_rfl) (Zlh (eqk3.le (by decide)) Zo (Zkf Ytw Z02))
theorem Yfa:Tryz.prog.eqGuardType Tryz.prog.depth 269=false:=by kernel_rfl
theorem Zz3:Fl Tryz.prog 48 4 lFlow_4:=⟨by kernel_rfl,rfl⟩
theorem Yvh:El Tryz.prog 45 217 Z0k:=⟨by kernel_rfl,by kernel_rfl,by kernel_rfl,by kernel_rfl,by kernel_rfl⟩
theorem Ynn:El Tryz.prog 46 140 Z0b:=⟨by kernel_rfl,by kernel_rfl,by kernel_rfl,by kernel_rfl,by kernel_rfl⟩
theorem Yah:Fl Tryz.prog 95 0 lFlowMod_0:=⟨by kernel_rfl,rfl⟩
theorem Zv6:Fl Tryz.prog 95 6 lFlowMod_6:=⟨by kernel_rfl,rfl⟩
theorem Zyp:Fl Tryz.prog 95 4 lFlowMod_4:=⟨by kernel_rfl,rfl⟩
theorem Ztk:Fl Tryz.prog 95 5 lFlowMod_5:=⟨by kernel_rfl,rfl⟩
theorem Zok:Fl Tryz.prog 95 10 lFlowMod_10:=⟨by kernel_rfl,rfl⟩
theorem Zwf:Fl Tryz.prog 95 11 lFlowMod_11:=⟨by kernel_rfl,rfl⟩
theorem Zs7:Fl Tryz.prog 95 12 lFlowMod_12:=⟨by kernel_rfl,rfl⟩
theorem Yom:Z0o Tryz.prog 48 0=some (lFlow_0.off,Kd.sz Z04):=by kernel_rfl
theorem Zv4:Z0o Tryz.prog 48 1=some (lFlow_1.off,Kd.sz (Z0 .i64)):=by kernel_rfl
theorem Yi8:Z0o Tryz.prog 48 2=some (lFlow_2.off,Kd.sz (Z0 .i64)):=by kernel_rfl
theorem Yev:Z0o Tryz.prog 48 3=some (lFlow_3.off,Kd.sz (Z0 .i64)):=by kernel_rfl
theorem Yj8:Z0o Tryz.prog 48 4=some (lFlow_4.off,Kd.sz (Z0 .i64)):=by kernel_rfl
theorem Yog:Z0o Tryz.prog 48 5=some (lFlow_5.off,Kd.sz (Z1 Z0k)):=by kernel_rfl
theorem Yw9:Z0o Tryz.prog 48 6=some (lFlow_6.off,Kd.sz (Z1 Z0b)):=by kernel_rfl
theorem Zup:Z2i Tryz.prog 48=true:=by kernel_rfl
theorem Zpu:Zr Tryz.prog 95 Z3c Zvt:=⟨_,Y2i,by kernel_rfl⟩
theorem Y0s:Fl Tryz.prog 48 0 lFlow_0:=⟨by kernel_rfl,rfl⟩
theorem Y5q:Fl Tryz.prog 48 2 lFlow_2:=⟨by kernel_rfl,rfl⟩
theorem Ycd:Fl Tryz.prog 48 3 lFlow_3:=⟨by kernel_rfl,rfl⟩
theorem Yj6:Z0o Tryz.prog 95 0=some (lFlowMod_0.off,Kd.sz Z04):=by kernel_rfl
theorem Yk6:Z0o Tryz.prog 95 6=some (lFlowMod_6.off,Kd.sz (Z0 .i64)):=by kernel_rfl
theorem Ywn:Z0o Tryz.prog 95 4=some (lFlowMod_4.off,Kd.sz (Z0 .i64)):=by kernel_rfl
theorem Yut:Z0o Tryz.prog 95 5=some (lFlowMod_5.off,Kd.sz (Z0 .i64)):=by kernel_rfl
theorem Yx0:Z0o Tryz.prog 95 10=some (lFlowMod_10.off,Kd.sz (Z0 .i64)):=by kernel_rfl
theorem Yqn:Z0o Tryz.prog 95 11=some (lFlowMod_11.off,Kd.sz (Z1 Z0k)):=by kernel_rfl
theorem Ycn:Z0o Tryz.prog 95 12=some (lFlowMod_12.off,Kd.sz (Z1 Z0b)):=by kernel_rfl
theorem Yc5:Z2i Tryz.prog 95=true:=by kernel_rfl
theorem Ytv:Z0o Tryz.prog 95 2=some (lFlowMod_2.off,Kd.sz (Z0 .i64)):=by kernel_rfl
theorem Yj7:Z0o Tryz.prog 95 3=some (lFlowMod_3.off,Kd.sz (Z0 .i64)):=by kernel_rfl
theorem Ygf:Z0o Tryz.prog 95 7=some (lFlowMod_7.off,Kd.sz (Z0 .i64)):=by kernel_rfl
theorem Yd9:Z0o Tryz.prog 95 8=some (lFlowMod_8.off,Kd.sz (Z0 .i64)):=by kernel_rfl
theorem Yh3:Z0o Tryz.prog 95 9=some (lFlowMod_9.off,Kd.sz (Z0 .i64)):=by kernel_rfl
theorem Zel:Ty Tryz.prog 95 Z3c:=⟨by kernel_rfl,by kernel_rfl⟩
theorem Zme:Zr Tryz.prog 180 (Z3 9 (Z0 .i64)) (Vector.replicate 9 0):=⟨_,(Z5a 9 Z1q),by kernel_rfl⟩
theorem Zlz:Ty Tryz.prog 180 (Z3 9 (Z0 .i64)):=⟨by kernel_rfl,by kernel_rfl⟩
theorem Z5c:Fl Tryz.prog 179 0 lflowmod_mod_0:=⟨by kernel_rfl,rfl⟩
theorem Ypy:Fl Tryz.prog 95 2 lFlowMod_2:=⟨by kernel_rfl,rfl⟩
theorem Zmj:Fl Tryz.prog 95 3 lFlowMod_3:=⟨by kernel_rfl,rfl⟩
theorem Yz5:Fl Tryz.prog 95 7 lFlowMod_7:=⟨by kernel_rfl,rfl⟩
theorem Ylm:Fl Tryz.prog 95 8 lFlowMod_8:=⟨by kernel_rfl,rfl⟩
theorem Ym4:Fl Tryz.prog 95 9 lFlowMod_9:=⟨by kernel_rfl,rfl⟩
theorem Z6x:Zr Tryz.prog 98 Z3u Zne:=⟨_,Y54,by kernel_rfl⟩
theorem Zt8:Z0o Tryz.prog 98 0=some (lFault_0.off,Kd.sz Z6):=by kernel_rfl
theorem Ztg:Z0o Tryz.prog 98 1=some (lFault_1.off,Kd.sz (Z0 .i64)):=by kernel_rfl
theorem Zxg:Z0o Tryz.prog 98 2=some (lFault_2.off,Kd.sz (Z0 .i64)):=by kernel_rfl
theorem Zeb:Z2i Tryz.prog 98=true:=by kernel_rfl
theorem Z2x:Ty Tryz.prog 98 Z3u:=⟨by kernel_rfl,by kernel_rfl⟩
theorem Zmo:El Tryz.prog 100 5 (Z0 .u8):=⟨by kernel_rfl,by kernel_rfl,by kernel_rfl,by kernel_rfl,by kernel_rfl⟩
theorem Yfu:Zr Tryz.prog 249 (Z3 4 (Z0 .u8)) (Vector.replicate 4 0):=⟨_,(Z5a 4 (Ztn _ ⟨by decide,by decide⟩)),by kernel_rfl⟩
theorem Z8j:Sl Tryz.prog 100 5 (Z0 .u8):=⟨by kernel_rfl,by kernel_rfl⟩
theorem Y7z:Ar Tryz.prog 249 5 4 (Z0 .u8):=⟨by kernel_rfl,by kernel_rfl⟩
theorem un5:Tryz.prog.underlying 5=some (.int .u8):=by kernel_rfl
theorem ty5:Ty Tryz.prog 5 (Z0 .u8):=⟨by kernel_rfl,by kernel_rfl⟩
theorem zr5:Zr Tryz.prog 5 (Z0 .u8) 0:=⟨_,(Ztn _ ⟨by decide,by decide⟩),by kernel_rfl⟩
theorem Y4q:Z0o Tryz.prog 179 0=some (lflowmod_mod_0.off,Kd.sz Z3c):=by kernel_rfl
theorem Y0p:Zr Tryz.prog 179 Z4b Y88:=⟨_,Yz4,by kernel_rfl⟩
theorem Y0u:Z2i Tryz.prog 179=true:=by kernel_rfl
theorem Yal:Ar Tryz.prog 180 3 9 (Z0 .i64):=⟨by kernel_rfl,by kernel_rfl⟩
theorem Yon:Z0o Tryz.prog 265 0=some (lstate_refused_0.off,Kd.sz Z3u):=by kernel_rfl
theorem Y9c:Zr Tryz.prog 265 Z7m Zyj:=⟨_,Yee,by kernel_rfl⟩
theorem Yl2:Z2i Tryz.prog 265=true:=by kernel_rfl
theorem Yo7:Zct Tryz.prog 265=true:=by kernel_rfl
theorem Y9g:Fl Tryz.prog 107 0 lstate_work_0:=⟨by kernel_rfl,rfl⟩
theorem Y9l:Ty Tryz.prog 85 Z7y:=⟨by kernel_rfl,by kernel_rfl⟩
theorem Y3z:Ty Tryz.prog 265 Z7m:=⟨by kernel_rfl,by kernel_rfl⟩
theorem Yja:Zct Tryz.prog 369=true:=by kernel_rfl
theorem Yq0:Fl Tryz.prog 265 0 lstate_refused_0:=⟨by kernel_rfl,rfl⟩
theorem Yw1:Z0o Tryz.prog 107 0=some (lstate_work_0.off,Kd.sz Z09):=by kernel_rfl
theorem Yid:Zr Tryz.prog 107 Zag Y4k:=⟨_,Yit,by kernel_rfl⟩
theorem Ysp:Z2i Tryz.prog 107=true:=by kernel_rfl
theorem Y9w:Zpl Tryz.prog 88=true:=by kernel_rfl
theorem Yk5:Zct Tryz.prog 90=true:=by kernel_rfl
theorem Yjd:Fl Tryz.prog 85 0 laudit_wrong_0:=⟨by kernel_rfl,rfl⟩
theorem Zxe:EqK Tryz.prog 2 40 Z0l:=Zoj (fun x y e=>by cases x;cases y;simp only [Prod.mk.injEq] at e;simp [e]) (l:=_) (by kernel_rfl) (by kernel_rfl) (Zlh eqk3 Zo (Zkf eqk3 Zo))
theorem Zzm:Tryz.prog.eqGuardType Tryz.prog.depth 40=false:=by kernel_rfl
theorem Yx9:Z0o Tryz.prog 71 0=some (lGroup_0.off,Kd.sz (Z0 .i64)):=by kernel_rfl
theorem Ymx:Z0o Tryz.prog 26 1=some (lSwitch_1.off,Kd.sz (Z1 Z0e)):=by kernel_rfl
theorem Y3w:Ty Tryz.prog 34 (Z1 Z0l):=⟨by kernel_rfl,by kernel_rfl⟩
theorem Ypq:Zr Tryz.prog 34 (Z1 Z0l) []:=⟨_,(Z5d _),by kernel_rfl⟩
theorem Z00:Tryz.prog.follows .mixedOrders=true:=by kernel_rfl
end Go.Proofs.YtinplddjjalohaaGreatDoor.W
set_option maxHeartbeats 1000000
set_option maxRecDepth 4000
namespace Go.Proofs.YtinplddjjalohaaGreatDoor.W
open Go Go.Wb
theorem Ygx:Ent Tryz.prog 119:=Ent.mk Tryz.func119 rfl rfl
theorem Y2j:Ent Tryz.prog 154:=Ent.mk Tryz.func154 rfl rfl
theorem e75:Ent Tryz.prog 75:=Ent.mk Tryz.func75 rfl rfl
theorem e73:Ent Tryz.prog 73:=Ent.mk Tryz.func73 rfl rfl
theorem e74:Ent Tryz.prog 74:=Ent.mk Tryz.func74 rfl rfl
theorem e34:Ent Tryz.prog 34:=Ent.mk Tryz.func34 rfl rfl
theorem e15:Ent Tryz.prog 15:=Ent.mk Tryz.func15 rfl rfl
def Zeq (s1:(List Flow))(x2:(Flow→Option Bool)):Nat→Nat→Option Int
 | 0,i3=>some (-1)
 | m4+1,i3=>(lget s1 (i3:Int)).bind fun x5=>(x2 x5).bind fun x6=>(bif x6 then some (i3:Int) else (Zeq s1 x2 m4) (i3+1))
def Znz (s1:(List Flow))(x2:(Flow→Option Bool)):Option Int:=
 Zeq s1 x2 ((s1.length:Int):Int).toNat 0
theorem Ydd:Q2 Tryz.prog 119 (rd (Z1 Z08)) (fn1 Tryz.prog Z08 Z6) (rd (Z0 .i64)) Znz:=fun s1 x2 r h=>I0 Tryz.func119 rfl Tryz.ntmps119 rfl fun w H Z=>by
 unfold Znz at h
 refine SR<|Ak rfl<|Nl<|sq<|SR<|Md rfl<|Ac (Z0i rfl rfl Z2q (vt rfl)) rfl<|Mk rfl<|Nl<|bk<|LG (d:=[]) (ν:=Nat×Nat) (fun (m4,i3)=>(Cnt (s1.length:Int) i3 m4∧Zeq s1 x2 m4 i3=some r,m4,[(0,rd (Z1 Z08) s1),(1,fn1 Tryz.prog Z08 Z6 x2),(7,rd (Z0 .i64) (s1.length:Int)),(8,rd (Z0 .i64) (i3:Int))],[])) (((s1.length:Int):Int).toNat,0) ⟨Cnt.start _,h⟩ (FX rfl) ?_
 rintro ⟨m4,i3⟩ ⟨hsf1,h⟩
 dsimp only at hsf1 h ⊢
 cases m4 with
 | zero=>
  unfold Zeq at h
  refine SR<|Ac (Zj rfl rfl (vt rfl) (vt rfl)) rfl<|Nl<|sq<|Cn rfl (fun hc=>absurd (of_decide_eq_true hc) hsf1.zero) (fun hc=>?_)
  refine xt<|SR<|Ak rfl<|Nl<|rt ?_
  cases h;exact Zd Tryz.results119 rfl (Z5 rfl)
 | succ m4=>
  unfold Zeq at h
  refine SR<|Ac (Zj rfl rfl (vt rfl) (vt rfl)) rfl<|Nl<|sq<|Cn rfl (fun hc=>?_) (fun hc=>absurd hsf1.succ (of_decide_eq_false hc))
  have hlti3:=of_decide_eq_true hc
  refine sk<|sq<|bk<|SR<|Md rfl<|As rfl<|Nl<|sq ?_
  obtain ⟨x5,hx5,x6,hx6,h⟩:=bs2 h
  refine Rg<|Ac (Zq (A:=fn1 Tryz.prog Z08 Z6 x2) rfl rfl (vt rfl)) rfl<|Md rfl<|Md rfl<|Ac (Z0j rfl rfl Z2q (vt rfl) (vt rfl) hx5) rfl<|Lp1 Z2n rfl<|Ac (Z9a hx6 rfl rfl (vt rfl) (vt rfl)) rfl<|Nl<|Cq rfl h (fun h=>?_) (fun h=>?_)
  ·refine SR<|Md rfl<|As rfl<|Nl<|rt ?_
   cases h;exact Zd Tryz.results119 rfl (Z5 rfl)
  ·refine sk<|Rg<|Ac (Z13 (t:=7) rfl rfl (vt rfl) (vk rfl) (vt rfl) hlti3) rfl<|Md rfl<|Nl ?_
   exact ⟨(_,_),Nat.lt_succ_self _,⟨hsf1.next,h⟩,FX rfl⟩
def Zlp (s1:(List Flow))(x2:(Flow→Option Bool)):Option Bool:=
 (Znz s1 x2).bind fun x3=>some (decide (x3≥0))
theorem Yrx:Q2 Tryz.prog 53 (rd (Z1 Z08)) (fn1 Tryz.prog Z08 Z6) (rd Z6) Zlp:=fun s1 x2 r h=>I0 Tryz.func53 rfl Tryz.ntmps53 rfl fun w H Z=>by
 unfold Zlp at h
 refine SR<|Ab rfl<|Nl<|sq ?_
 obtain ⟨x3,hx3,h⟩:=Z7 h
 refine Rg<|Md rfl<|Ac (Zq (A:=fn1 Tryz.prog Z08 Z6 x2) rfl rfl (vt rfl)) rfl<|Cl [5,6] (Ydd _ _ _ hx3) Ygx rfl<|Ac (Z45 rfl rfl (vt rfl) (vk rfl)) rfl<|As rfl<|Nl<|rt ?_
 cases h;exact Zd Tryz.results53 rfl (Z5 rfl)
def Zek (s1:(List Inst))(x2:(Inst→Option Bool)):Nat→Nat→Option Int
 | 0,i3=>some (-1)
 | m4+1,i3=>(lget s1 (i3:Int)).bind fun x5=>(x2 x5).bind fun x6=>(bif x6 then some (i3:Int) else (Zek s1 x2 m4) (i3+1))
def Zhu (s1:(List Inst))(x2:(Inst→Option Bool)):Option Int:=
 Zek s1 x2 ((s1.length:Int):Int).toNat 0
theorem Y49:Q2 Tryz.prog 154 (rd (Z1 Z0b)) (fn1 Tryz.prog Z0b Z6) (rd (Z0 .i64)) Zhu:=fun s1 x2 r h=>I0 Tryz.func154 rfl Tryz.ntmps154 rfl fun w H Z=>by
 unfold Zhu at h
 refine SR<|Ak rfl<|Nl<|sq<|SR<|Md rfl<|Ac (Z0i rfl rfl Z50 (vt rfl)) rfl<|Mk rfl<|Nl<|bk<|LG (d:=[]) (ν:=Nat×Nat) (fun (m4,i3)=>(Cnt (s1.length:Int) i3 m4∧Zek s1 x2 m4 i3=some r,m4,[(0,rd (Z1 Z0b) s1),(1,fn1 Tryz.prog Z0b Z6 x2),(7,rd (Z0 .i64) (s1.length:Int)),(8,rd (Z0 .i64) (i3:Int))],[])) (((s1.length:Int):Int).toNat,0) ⟨Cnt.start _,h⟩ (FX rfl) ?_
 rintro ⟨m4,i3⟩ ⟨hsf1,h⟩
 dsimp only at hsf1 h ⊢
 cases m4 with
 | zero=>
  unfold Zek at h
  refine SR<|Ac (Zj rfl rfl (vt rfl) (vt rfl)) rfl<|Nl<|sq<|Cn rfl (fun hc=>absurd (of_decide_eq_true hc) hsf1.zero) (fun hc=>?_)
  refine xt<|SR<|Ak rfl<|Nl<|rt ?_
  cases h;exact Zd Tryz.results154 rfl (Z5 rfl)
 | succ m4=>
  unfold Zek at h
  refine SR<|Ac (Zj rfl rfl (vt rfl) (vt rfl)) rfl<|Nl<|sq<|Cn rfl (fun hc=>?_) (fun hc=>absurd hsf1.succ (of_decide_eq_false hc))
  have hlti3:=of_decide_eq_true hc
  refine sk<|sq<|bk<|SR<|Md rfl<|As rfl<|Nl<|sq ?_
  obtain ⟨x5,hx5,x6,hx6,h⟩:=bs2 h
  refine Rg<|Ac (Zq (A:=fn1 Tryz.prog Z0b Z6 x2) rfl rfl (vt rfl)) rfl<|Md rfl<|Md rfl<|Ac (Z0j rfl rfl Z50 (vt rfl) (vt rfl) hx5) rfl<|Lp1 Z2b rfl<|Ac (Z9a hx6 rfl rfl (vt rfl) (vt rfl)) rfl<|Nl<|Cq rfl h (fun h=>?_) (fun h=>?_)
  ·refine SR<|Md rfl<|As rfl<|Nl<|rt ?_
   cases h;exact Zd Tryz.results154 rfl (Z5 rfl)
  ·refine sk<|Rg<|Ac (Z13 (t:=7) rfl rfl (vt rfl) (vk rfl) (vt rfl) hlti3) rfl<|Md rfl<|Nl ?_
   exact ⟨(_,_),Nat.lt_succ_self _,⟨hsf1.next,h⟩,FX rfl⟩
def Zk2 (s1:(List Inst))(x2:(Inst→Option Bool)):Option Bool:=
 (Zhu s1 x2).bind fun x3=>some (decide (x3≥0))
theorem Ykw:Q2 Tryz.prog 73 (rd (Z1 Z0b)) (fn1 Tryz.prog Z0b Z6) (rd Z6) Zk2:=fun s1 x2 r h=>I0 Tryz.func73 rfl Tryz.ntmps73 rfl fun w H Z=>by
 unfold Zk2 at h
 refine SR<|Ab rfl<|Nl<|sq ?_
 obtain ⟨x3,hx3,h⟩:=Z7 h
 refine Rg<|Md rfl<|Ac (Zq (A:=fn1 Tryz.prog Z0b Z6 x2) rfl rfl (vt rfl)) rfl<|Cl [5,6] (Y49 _ _ _ hx3) Y2j rfl<|Ac (Z45 rfl rfl (vt rfl) (vk rfl)) rfl<|As rfl<|Nl<|rt ?_
 cases h;exact Zd Tryz.results73 rfl (Z5 rfl)
def Zrc (l1:(List Action)):Option Bool:=
 some (decide ((l1.length:Int)≤12))
theorem Yai:Q1 Tryz.prog 75 (rd (Z1 Z9)) (rd Z6) Zrc:=fun l1 r h=>I0 Tryz.func75 rfl Tryz.ntmps75 rfl fun w H Z=>by
 unfold Zrc at h
 refine SR<|Ab rfl<|Nl<|SR<|Md rfl<|Ac (Z0i rfl rfl Z0h (vt rfl)) rfl<|Ac (Z68 rfl rfl (vt rfl) (vk rfl)) rfl<|As rfl<|Nl<|rt ?_
 cases h;exact Zd Tryz.results75 rfl (Z5 rfl)
def Zpw (i1:Inst):Option Bool:=
 (Zrc i1.Acts).bind fun x3=>some (!x3)
theorem Yve:Q1 Tryz.prog 74 (rd Z0b) (rd Z6) Zpw:=fun i1 r h=>I0 Tryz.func74 rfl Tryz.ntmps74 rfl fun w H Z=>by
 unfold Zpw at h
 refine SR<|Cv rfl (Zs 2 rfl rfl (vt rfl)) fun g2=>Ab rfl<|Nl<|sq ?_
 obtain ⟨x3,hx3,h⟩:=Z7 h
 refine Rg<|Zk Z6g Z7h rfl<|Ld Z34 2 rfl<|Cl [4] (Yai _ _ hx3) e75 rfl<|Ac (Z0z rfl rfl (vt rfl)) rfl<|As rfl<|Nl<|rt ?_
 cases h;exact Zd Tryz.results74 rfl (Z5 rfl)
def Zo0 (l1:(List Inst)):Option Bool:=
 (opt (decide ((l1.length:Int)≤8)) (Zk2 l1 Zpw)).bind fun x2=>some ((decide ((l1.length:Int)≤8))&&(!x2))
theorem Yvb:Q1 Tryz.prog 34 (rd (Z1 Z0b)) (rd Z6) Zo0:=fun l1 r h=>I0 Tryz.func34 rfl Tryz.ntmps34 rfl fun w H Z=>by
 unfold Zo0 at h
 refine SR<|Ab rfl<|Nl<|sq ?_
 obtain ⟨x2,hx2,h⟩:=Z7 h
 refine Rg<|Md rfl<|Ac (Z0i rfl rfl Z50 (vt rfl)) rfl<|Ac (Z68 rfl rfl (vt rfl) (vk rfl)) rfl<|Md rfl<|Gd rfl (fun hq=>Zq (A:=rd (Z1 Z0b) l1) rfl rfl (vt rfl))<|Gd rfl (fun hq=>Z0g (xs:=[.tmp 7,.func 74]) (Ykw _ _ _ (Z2j hx2 hq)) e73 rfl rfl ⟨Zi rfl hq,vf1 e74 Yve,trivial⟩)<|Gd rfl (fun hq=>Z0z rfl rfl (Zi rfl hq))<|Ac (Z1m rfl rfl (vt rfl) (vt rfl)) rfl<|As rfl<|Nl<|rt ?_
 cases h;exact Zd Tryz.results34 rfl (Z5 rfl)
def Zkj (x1:Flow):Option Bool:=
 (opt (decide ((x1.Match.length:Int)≤30)) (Zo0 x1.Insts)).bind fun x3=>some ((decide ((x1.Match.length:Int)≤30))&&x3)
theorem Yj3:Q1 Tryz.prog 15 (rd Z08) (rd Z6) Zkj:=fun x1 r h=>I0 Tryz.func15 rfl Tryz.ntmps15 rfl fun w H Z=>by
 unfold Zkj at h
 refine SR<|Cv rfl (Zs 2 rfl rfl (vt rfl)) fun g2=>Ab rfl<|Nl<|sq ?_
 obtain ⟨x3,hx3,h⟩:=Z7 h
 refine Rg<|Zk lFlow_5 Zlc rfl<|Ld Zca 2 rfl<|Ac (Z0i rfl rfl Z5f (vt rfl)) rfl<|Ac (Z68 rfl rfl (vt rfl) (vk rfl)) rfl<|Md rfl<|Gd rfl (fun hq=>Z2v lFlow_6 rfl rfl Z8v (vt rfl))<|Gd rfl (fun hq=>Z1z rfl rfl Z69 (Zi rfl hq) (i:=2) rfl)<|Gd rfl (fun hq=>Z0g (xs:=[.tmp 9]) (Yvb _ _ (Z2j hx3 hq)) e34 rfl rfl ⟨Zi rfl hq,trivial⟩)<|Ac (Z1m rfl rfl (vt rfl) (vt rfl)) rfl<|As rfl<|Nl<|rt ?_
 cases h;exact Zd Tryz.results15 rfl (Z5 rfl)
def Zod (x1:Flow):Option Bool:=
 (Zkj x1).bind fun x3=>some (!x3)
theorem Yov:Q1 Tryz.prog 76 (rd Z08) (rd Z6) Zod:=fun x1 r h=>I0 Tryz.func76 rfl Tryz.ntmps76 rfl fun w H Z=>by
 unfold Zod at h
 refine SR<|Cv rfl (Zs 2 rfl rfl (vt rfl)) fun g2=>Ab rfl<|Nl<|sq ?_
 obtain ⟨x3,hx3,h⟩:=Z7 h
 refine Rg<|Ld Z2n 2 rfl<|Cl [3] (Yj3 _ _ hx3) e15 rfl<|Ac (Z0z rfl rfl (vt rfl)) rfl<|As rfl<|Nl<|rt ?_
 cases h;exact Zd Tryz.results76 rfl (Z5 rfl)
end Go.Proofs.YtinplddjjalohaaGreatDoor.W
set_option maxHeartbeats 1000000
set_option maxRecDepth 4000
namespace Go.Proofs.YtinplddjjalohaaGreatDoor.W
open Go Go.Wb
theorem e53:Ent Tryz.prog 53:=Ent.mk Tryz.func53 rfl rfl
theorem e76:Ent Tryz.prog 76:=Ent.mk Tryz.func76 rfl rfl
theorem Y2o:Ent Tryz.prog 174:=Ent.mk Tryz.func174 rfl rfl
theorem e95:Ent Tryz.prog 95:=Ent.mk Tryz.func95 rfl rfl
theorem Ym9:Ent Tryz.prog 155:=Ent.mk Tryz.func155 rfl rfl
theorem e78:Ent Tryz.prog 78:=Ent.mk Tryz.func78 rfl rfl
theorem Y6i:Ent Tryz.prog 105:=Ent.mk Tryz.func105 rfl rfl
theorem e77:Ent Tryz.prog 77:=Ent.mk Tryz.func77 rfl rfl
theorem e47:Ent Tryz.prog 47:=Ent.mk Tryz.func47 rfl rfl
def Zoe (l1:(List Flow))(m2:Int):Option Bool:=
 (opt (decide ((l1.length:Int)≤m2)) (Zlp l1 Zod)).bind fun x3=>some ((decide ((l1.length:Int)≤m2))&&(!x3))
theorem Yqo:Q2 Tryz.prog 35 (rd (Z1 Z08)) (rd (Z0 .i64)) (rd Z6) Zoe:=fun l1 m2 r h=>I0 Tryz.func35 rfl Tryz.ntmps35 rfl fun w H Z=>by
 unfold Zoe at h
 refine SR<|Ab rfl<|Nl<|sq ?_
 obtain ⟨x3,hx3,h⟩:=Z7 h
 refine Rg<|Md rfl<|Ac (Z0i rfl rfl Z2q (vt rfl)) rfl<|Md rfl<|Ac (Z68 rfl rfl (vt rfl) (vt rfl)) rfl<|Md rfl<|Gd rfl (fun hq=>Zq (A:=rd (Z1 Z08) l1) rfl rfl (vt rfl))<|Gd rfl (fun hq=>Z0g (xs:=[.tmp 10,.func 76]) (Yrx _ _ _ (Z2j hx3 hq)) e53 rfl rfl ⟨Zi rfl hq,vf1 e76 Yov,trivial⟩)<|Gd rfl (fun hq=>Z0z rfl rfl (Zi rfl hq))<|Ac (Z1m rfl rfl (vt rfl) (vt rfl)) rfl<|As rfl<|Nl<|rt ?_
 cases h;exact Zd Tryz.results35 rfl (Z5 rfl)
def Zdt (s1:(List Bucket))(x2:(Bucket→Option Bool)):Nat→Nat→Option Int
 | 0,i3=>some (-1)
 | m4+1,i3=>(lget s1 (i3:Int)).bind fun x5=>(x2 x5).bind fun x6=>(bif x6 then some (i3:Int) else (Zdt s1 x2 m4) (i3+1))
def Zhz (s1:(List Bucket))(x2:(Bucket→Option Bool)):Option Int:=
 Zdt s1 x2 ((s1.length:Int):Int).toNat 0
theorem Y2h:Q2 Tryz.prog 174 (rd (Z1 Z1y)) (fn1 Tryz.prog Z1y Z6) (rd (Z0 .i64)) Zhz:=fun s1 x2 r h=>I0 Tryz.func174 rfl Tryz.ntmps174 rfl fun w H Z=>by
 unfold Zhz at h
 refine SR<|Ak rfl<|Nl<|sq<|SR<|Md rfl<|Ac (Z0i rfl rfl Z6z (vt rfl)) rfl<|Mk rfl<|Nl<|bk<|LG (d:=[]) (ν:=Nat×Nat) (fun (m4,i3)=>(Cnt (s1.length:Int) i3 m4∧Zdt s1 x2 m4 i3=some r,m4,[(0,rd (Z1 Z1y) s1),(1,fn1 Tryz.prog Z1y Z6 x2),(7,rd (Z0 .i64) (s1.length:Int)),(8,rd (Z0 .i64) (i3:Int))],[])) (((s1.length:Int):Int).toNat,0) ⟨Cnt.start _,h⟩ (FX rfl) ?_
 rintro ⟨m4,i3⟩ ⟨hsf1,h⟩
 dsimp only at hsf1 h ⊢
 cases m4 with
 | zero=>
  unfold Zdt at h
  refine SR<|Ac (Zj rfl rfl (vt rfl) (vt rfl)) rfl<|Nl<|sq<|Cn rfl (fun hc=>absurd (of_decide_eq_true hc) hsf1.zero) (fun hc=>?_)
  refine xt<|SR<|Ak rfl<|Nl<|rt ?_
  cases h;exact Zd Tryz.results174 rfl (Z5 rfl)
 | succ m4=>
  unfold Zdt at h
  refine SR<|Ac (Zj rfl rfl (vt rfl) (vt rfl)) rfl<|Nl<|sq<|Cn rfl (fun hc=>?_) (fun hc=>absurd hsf1.succ (of_decide_eq_false hc))
  have hlti3:=of_decide_eq_true hc
  refine sk<|sq<|bk<|SR<|Md rfl<|As rfl<|Nl<|sq ?_
  obtain ⟨x5,hx5,x6,hx6,h⟩:=bs2 h
  refine Rg<|Ac (Zq (A:=fn1 Tryz.prog Z1y Z6 x2) rfl rfl (vt rfl)) rfl<|Md rfl<|Md rfl<|Ac (Z0j rfl rfl Z6z (vt rfl) (vt rfl) hx5) rfl<|Lp1 Zvk rfl<|Ac (Z9a hx6 rfl rfl (vt rfl) (vt rfl)) rfl<|Nl<|Cq rfl h (fun h=>?_) (fun h=>?_)
  ·refine SR<|Md rfl<|As rfl<|Nl<|rt ?_
   cases h;exact Zd Tryz.results174 rfl (Z5 rfl)
  ·refine sk<|Rg<|Ac (Z13 (t:=7) rfl rfl (vt rfl) (vk rfl) (vt rfl) hlti3) rfl<|Md rfl<|Nl ?_
   exact ⟨(_,_),Nat.lt_succ_self _,⟨hsf1.next,h⟩,FX rfl⟩
def Zl8 (s1:(List Bucket))(x2:(Bucket→Option Bool)):Option Bool:=
 (Zhz s1 x2).bind fun x3=>some (decide (x3≥0))
theorem Yng:Q2 Tryz.prog 95 (rd (Z1 Z1y)) (fn1 Tryz.prog Z1y Z6) (rd Z6) Zl8:=fun s1 x2 r h=>I0 Tryz.func95 rfl Tryz.ntmps95 rfl fun w H Z=>by
 unfold Zl8 at h
 refine SR<|Ab rfl<|Nl<|sq ?_
 obtain ⟨x3,hx3,h⟩:=Z7 h
 refine Rg<|Md rfl<|Ac (Zq (A:=fn1 Tryz.prog Z1y Z6 x2) rfl rfl (vt rfl)) rfl<|Cl [5,6] (Y2h _ _ _ hx3) Y2o rfl<|Ac (Z45 rfl rfl (vt rfl) (vk rfl)) rfl<|As rfl<|Nl<|rt ?_
 cases h;exact Zd Tryz.results95 rfl (Z5 rfl)
def Zpe (x1:Bucket):Option Bool:=
 (Zrc x1.Acts).bind fun x3=>some (!x3)
theorem Yuy:Q1 Tryz.prog 155 (rd Z1y) (rd Z6) Zpe:=fun x1 r h=>I0 Tryz.func155 rfl Tryz.ntmps155 rfl fun w H Z=>by
 unfold Zpe at h
 refine SR<|Cv rfl (Zs 2 rfl rfl (vt rfl)) fun g2=>Ab rfl<|Nl<|sq ?_
 obtain ⟨x3,hx3,h⟩:=Z7 h
 refine Rg<|Zk Zfw Zle rfl<|Ld Z34 2 rfl<|Cl [4] (Yai _ _ hx3) e75 rfl<|Ac (Z0z rfl rfl (vt rfl)) rfl<|As rfl<|Nl<|rt ?_
 cases h;exact Zd Tryz.results155 rfl (Z5 rfl)
def Zkb (l1:(List Bucket))(m2:Int):Option Bool:=
 (opt (decide ((l1.length:Int)≤m2)) (Zl8 l1 Zpe)).bind fun x3=>some ((decide ((l1.length:Int)≤m2))&&(!x3))
theorem Yqq:Q2 Tryz.prog 78 (rd (Z1 Z1y)) (rd (Z0 .i64)) (rd Z6) Zkb:=fun l1 m2 r h=>I0 Tryz.func78 rfl Tryz.ntmps78 rfl fun w H Z=>by
 unfold Zkb at h
 refine SR<|Ab rfl<|Nl<|sq ?_
 obtain ⟨x3,hx3,h⟩:=Z7 h
 refine Rg<|Md rfl<|Ac (Z0i rfl rfl Z6z (vt rfl)) rfl<|Md rfl<|Ac (Z68 rfl rfl (vt rfl) (vt rfl)) rfl<|Md rfl<|Gd rfl (fun hq=>Zq (A:=rd (Z1 Z1y) l1) rfl rfl (vt rfl))<|Gd rfl (fun hq=>Z0g (xs:=[.tmp 10,.func 155]) (Yng _ _ _ (Z2j hx3 hq)) e95 rfl rfl ⟨Zi rfl hq,vf1 Ym9 Yuy,trivial⟩)<|Gd rfl (fun hq=>Z0z rfl rfl (Zi rfl hq))<|Ac (Z1m rfl rfl (vt rfl) (vt rfl)) rfl<|As rfl<|Nl<|rt ?_
 cases h;exact Zd Tryz.results78 rfl (Z5 rfl)
def Zix (x1:Group)(x2:Int):Option Bool:=
 (Zkb x1.Buckets x2).bind fun x4=>some (!x4)
theorem Yjq:Q2 Tryz.prog 77 (rd Z0e) (rp (Z0 .i64)) (rd Z6) Zix:=fun x1 x2 r h=>I0 Tryz.func77 rfl Tryz.ntmps77 rfl fun w H Z=>by
 unfold Zix at h
 refine SR<|Cv rfl (Zs 3 rfl rfl (vt rfl)) fun g3=>Ab rfl<|Nl<|sq ?_
 obtain ⟨x4,hx4,h⟩:=Z7 h
 refine Rg<|Zk Z79 Z7v rfl<|Ld Z85 3 rfl<|Lp1 Zo rfl<|Cl [5,6] (Yqq _ _ _ hx4) e78 rfl<|Ac (Z0z rfl rfl (vt rfl)) rfl<|As rfl<|Nl<|rt ?_
 cases h;exact Zd Tryz.results77 rfl (Z5 rfl)
def Zdi (s1:(List Group))(x2:(Group→Option Bool)):Nat→Nat→Option Int
 | 0,i3=>some (-1)
 | m4+1,i3=>(lget s1 (i3:Int)).bind fun x5=>(x2 x5).bind fun x6=>(bif x6 then some (i3:Int) else (Zdi s1 x2 m4) (i3+1))
def Zgu (s1:(List Group))(x2:(Group→Option Bool)):Option Int:=
 Zdi s1 x2 ((s1.length:Int):Int).toNat 0
theorem Y2m:Q2 Tryz.prog 105 (rd (Z1 Z0e)) (fn1 Tryz.prog Z0e Z6) (rd (Z0 .i64)) Zgu:=fun s1 x2 r h=>I0 Tryz.func105 rfl Tryz.ntmps105 rfl fun w H Z=>by
 unfold Zgu at h
 refine SR<|Ak rfl<|Nl<|sq<|SR<|Md rfl<|Ac (Z0i rfl rfl Z5b (vt rfl)) rfl<|Mk rfl<|Nl<|bk<|LG (d:=[]) (ν:=Nat×Nat) (fun (m4,i3)=>(Cnt (s1.length:Int) i3 m4∧Zdi s1 x2 m4 i3=some r,m4,[(0,rd (Z1 Z0e) s1),(1,fn1 Tryz.prog Z0e Z6 x2),(7,rd (Z0 .i64) (s1.length:Int)),(8,rd (Z0 .i64) (i3:Int))],[])) (((s1.length:Int):Int).toNat,0) ⟨Cnt.start _,h⟩ (FX rfl) ?_
 rintro ⟨m4,i3⟩ ⟨hsf1,h⟩
 dsimp only at hsf1 h ⊢
 cases m4 with
 | zero=>
  unfold Zdi at h
  refine SR<|Ac (Zj rfl rfl (vt rfl) (vt rfl)) rfl<|Nl<|sq<|Cn rfl (fun hc=>absurd (of_decide_eq_true hc) hsf1.zero) (fun hc=>?_)
  refine xt<|SR<|Ak rfl<|Nl<|rt ?_
  cases h;exact Zd Tryz.results105 rfl (Z5 rfl)
 | succ m4=>
  unfold Zdi at h
  refine SR<|Ac (Zj rfl rfl (vt rfl) (vt rfl)) rfl<|Nl<|sq<|Cn rfl (fun hc=>?_) (fun hc=>absurd hsf1.succ (of_decide_eq_false hc))
  have hlti3:=of_decide_eq_true hc
  refine sk<|sq<|bk<|SR<|Md rfl<|As rfl<|Nl<|sq ?_
  obtain ⟨x5,hx5,x6,hx6,h⟩:=bs2 h
  refine Rg<|Ac (Zq (A:=fn1 Tryz.prog Z0e Z6 x2) rfl rfl (vt rfl)) rfl<|Md rfl<|Md rfl<|Ac (Z0j rfl rfl Z5b (vt rfl) (vt rfl) hx5) rfl<|Lp1 Z7g rfl<|Ac (Z9a hx6 rfl rfl (vt rfl) (vt rfl)) rfl<|Nl<|Cq rfl h (fun h=>?_) (fun h=>?_)
  ·refine SR<|Md rfl<|As rfl<|Nl<|rt ?_
   cases h;exact Zd Tryz.results105 rfl (Z5 rfl)
  ·refine sk<|Rg<|Ac (Z13 (t:=7) rfl rfl (vt rfl) (vk rfl) (vt rfl) hlti3) rfl<|Md rfl<|Nl ?_
   exact ⟨(_,_),Nat.lt_succ_self _,⟨hsf1.next,h⟩,FX rfl⟩
def Zh1 (s1:(List Group))(x2:(Group→Option Bool)):Option Bool:=
 (Zgu s1 x2).bind fun x3=>some (decide (x3≥0))
theorem Y7k:Q2 Tryz.prog 47 (rd (Z1 Z0e)) (fn1 Tryz.prog Z0e Z6) (rd Z6) Zh1:=fun s1 x2 r h=>I0 Tryz.func47 rfl Tryz.ntmps47 rfl fun w H Z=>by
 unfold Zh1 at h
 refine SR<|Ab rfl<|Nl<|sq ?_
 obtain ⟨x3,hx3,h⟩:=Z7 h
 refine Rg<|Md rfl<|Ac (Zq (A:=fn1 Tryz.prog Z0e Z6 x2) rfl rfl (vt rfl)) rfl<|Cl [5,6] (Y2m _ _ _ hx3) Y6i rfl<|Ac (Z45 rfl rfl (vt rfl) (vk rfl)) rfl<|As rfl<|Nl<|rt ?_
 cases h;exact Zd Tryz.results47 rfl (Z5 rfl)
def Zo8 (l1:(List Group))(m2:Int)(b3:Int):Option Bool:=
 (opt (decide ((l1.length:Int)≤m2)) (Zh1 l1 (fun x=>Zix x b3))).bind fun x5=>some ((decide ((l1.length:Int)≤m2))&&(!x5))
theorem Yue:Q3 Tryz.prog 36 (rd (Z1 Z0e)) (rd (Z0 .i64)) (rd (Z0 .i64)) (rd Z6) Zo8:=fun l1 m2 b3 r h=>I0 Tryz.func36 rfl Tryz.ntmps36 rfl fun w H Z=>by
 unfold Zo8 at h
 refine SR<|Cv rfl (Zs 6 rfl rfl (vt rfl)) fun g4=>Ab rfl<|Nl<|sq<|AW.freezeB 5 6 rfl rfl rfl ?_
 obtain ⟨x5,hx5,h⟩:=Z7 h
 refine Rg<|Md rfl<|Ac (Z0i rfl rfl Z5b (vt rfl)) rfl<|Md rfl<|Ac (Z68 rfl rfl (vt rfl) (vt rfl)) rfl<|Md rfl<|Gd rfl (fun hq=>Zq (A:=rd (Z1 Z0e) l1) rfl rfl (vt rfl))<|Gd rfl (fun hq=>Z8l (cs:=[.tmp 5]) (CAs:=[rp (Z0 .i64) b3]) (fun x=>Zix x b3) rfl rfl e77 ⟨vt rfl,trivial⟩ (fun x y h=>Yjq _ _ y h))<|Gd rfl (fun hq=>Z0g (xs:=[.tmp 12,.tmp 13]) (Y7k _ _ _ (Z2j hx5 hq)) e47 rfl rfl ⟨Zi rfl hq,Zi rfl hq,trivial⟩)<|Gd rfl (fun hq=>Z0z rfl rfl (Zi rfl hq))<|Ac (Z1m rfl rfl (vt rfl) (vt rfl)) rfl<|As rfl<|Nl<|rt ?_
 cases h;exact Zd Tryz.results36 rfl (Z5 rfl)
end Go.Proofs.YtinplddjjalohaaGreatDoor.W
set_option maxHeartbeats 1000000
set_option maxRecDepth 4000
namespace Go.Proofs.YtinplddjjalohaaGreatDoor.W
open Go Go.Wb
theorem e36:Ent Tryz.prog 36:=Ent.mk Tryz.func36 rfl rfl
theorem e35:Ent Tryz.prog 35:=Ent.mk Tryz.func35 rfl rfl
theorem Yo0:Ent Tryz.prog 363:=Ent.mk Tryz.func363 rfl rfl
theorem Yw8:Ent Tryz.prog 322:=Ent.mk Tryz.func322 rfl rfl
def Zdg (s1:Switch)(m2:Int):(List (List Flow))→Nat→Option Bool
 | [],i4=>(Zo8 s1.Groups 9 3).bind fun x6=>some x6
 | x7::l5,i4=>(Zoe x7 m2).bind fun x8=>(bif (!x8) then some false else (Zdg s1 m2 l5) (i4+1))
def Zp0 (s1:Switch)(m2:Int):Option Bool:=
 Zdg s1 m2 (Vector.toList s1.Tables) 0
theorem Ylq:Q2 Tryz.prog 16 (rd Z09) (rd (Z0 .i64)) (rd Z6) Zp0:=fun s1 m2 r h=>I0 Tryz.func16 rfl Tryz.ntmps16 rfl fun w H Z=>by
 unfold Zp0 at h
 refine SR<|Cv rfl (Zs 3 rfl rfl (vt rfl)) fun g3=>Ab rfl<|Nl<|sq<|SR<|Zk Z64 Z6o rfl<|Ld Ztj 3 rfl<|Mk rfl<|Nl<|bk<|LG (d:=[]) (ν:=(List (List Flow))×Nat) (fun (l5,i4)=>(Sfx (Vector.toList s1.Tables) i4 l5∧Zdg s1 m2 l5 i4=some r,l5.length,[(1,rd (Z0 .i64) m2),(2,Zb g3 (Lens.id Z09)),(8,rd (Z3 4 (Z1 Z08)) s1.Tables),(9,rd (Z0 .i64) (i4:Int))],[(3,Zh g3 26 Z09 s1)])) ((Vector.toList s1.Tables),0) ⟨Sfx.start _,h⟩ (FX rfl) ?_
 rintro ⟨l5,i4⟩ ⟨hsf1,h⟩
 dsimp only at hsf1 h ⊢
 cases l5 with
 | nil=>
  unfold Zdg at h
  refine SR<|Ac (Zj rfl rfl (vt rfl) (vk rfl)) rfl<|Nl<|sq<|Cn rfl (fun hc=>absurd (of_decide_eq_true hc) (hsf1.niln (by simp))) (fun hc=>?_)
  refine xt<|sq ?_
  obtain ⟨x6,hx6,h⟩:=Z7 h
  refine Rg<|Zk lSwitch_1 Zsd rfl<|Ld Zdk 3 rfl<|Ac (Z0g (xs:=[.tmp 18,.const (Value.int IntKind.i64 9),.const (Value.int IntKind.i64 3)]) (Yue _ _ _ _ hx6) e36 rfl rfl ⟨vt rfl,vk rfl,vk rfl,trivial⟩) rfl<|As rfl<|Nl<|rt ?_
  cases h;exact Zd Tryz.results16 rfl (Z5 rfl)
 | cons x7 l5=>
  unfold Zdg at h
  refine SR<|Ac (Zj rfl rfl (vt rfl) (vk rfl)) rfl<|Nl<|sq<|Cn rfl (fun hc=>?_) (fun hc=>absurd (hsf1.consn (by simp)) (of_decide_eq_false hc))
  have hlti4:=of_decide_eq_true hc
  refine sk<|sq<|bk<|SR<|Ac (Z8w rfl rfl Z6p Z46 (vt rfl) (vt rfl) hsf1.lget) rfl<|As rfl<|Nl<|sq ?_
  obtain ⟨x8,hx8,h⟩:=Z7 h
  refine Rg<|Md rfl<|Md rfl<|Cl [12,13] (Yqo _ _ _ hx8) e35 rfl<|Ac (Z0z rfl rfl (vt rfl)) rfl<|Nl<|Cq rfl h (fun h=>?_) (fun h=>?_)
  ·refine SR<|Ab rfl<|Nl<|rt ?_
   cases h;exact Zd Tryz.results16 rfl (Z5 rfl)
  ·refine sk<|Rg<|Ac (Z5r rfl rfl (vt rfl) (vk rfl) rfl hlti4) rfl<|Md rfl<|Nl ?_
   exact ⟨(_,_),Nat.lt_succ_self _,⟨hsf1.next,h⟩,FX rfl⟩
def Zpg:Option Za:=
 some (Vector.replicate 24 zTern)
theorem Ys7:Q0 Tryz.prog 64 (rd (Z3 24 Z4)) Zpg:=fun r h=>I0 Tryz.func64 rfl Tryz.ntmps64 rfl fun w H Z=>by
 unfold Zpg at h
 refine SR<|Cv rfl (Zm 1 rfl rfl Z1l) fun g1=>Nl<|SR<|Ac (Z1o (ps:=[]) (x:=(Vector.replicate 24 zTern)) rfl rfl rfl (by kernel_rfl) Z1l rfl) rfl<|Zf Z02 1 rfl<|Nl<|rt ?_
 cases h;exact Zd Tryz.results64 rfl (Zx rfl (i:=1) rfl Z02)
def Zac:Option Za:=
 some (Vector.replicate 24 zTern)
theorem Zoh:Q0 Tryz.prog 65 (rd (Z3 24 Z4)) Zac:=fun r h=>I0 Tryz.func65 rfl Tryz.ntmps65 rfl fun w H Z=>by
 unfold Zac at h
 refine SR<|Cv rfl (Zm 1 rfl rfl Z3v) fun g1=>Nl<|SR<|Ac (Z1o (ps:=[]) (x:=(Vector.replicate 24 zTern)) rfl rfl rfl (by kernel_rfl) Z3v rfl) rfl<|Zf Z03 1 rfl<|Nl<|rt ?_
 cases h;exact Zd Tryz.results65 rfl (Zx rfl (i:=1) rfl Z03)
def Zf9 (a11:Int)(go1:(List Int)→Int→Option (List Int))(i8:Int):Nat→(List Int)→Int→Option (List Int)
 | 0,_,_=>none
 | m22+1,l20,j21=>(bif (decide (j21>a11)) then (lget l20 (IntKind.i64.wrap (j21 - 1))).bind fun x23=>(lget l20 j21).bind fun x24=>(Zf9 a11 go1 i8 m22) (List.set l20 j21.toNat x23) (IntKind.i64.wrap (j21 - 1)) else (lget l20 a11).bind fun x25=>go1 (List.set l20 a11.toNat i8) (IntKind.i64.wrap (i8+1)))
def Zec (l6:(List Int))(t1:(List Flow))(i8:Int)(go1:(List Int)→Int→Option (List Int)):Nat→Int→Option (List Int)
 | 0,_=>none
 | m12+1,a11=>(opt (decide (a11>0)) (lget l6 (IntKind.i64.wrap (a11 - 1)))).bind fun x13=>(opt (decide (a11>0)) (lget t1 x13)).bind fun x14=>(opt (decide (a11>0)) (lget t1 i8)).bind fun x15=>(bif ((decide (a11>0))&&(decide (x14.Priority<x15.Priority))) then (Zec l6 t1 i8 go1 m12) (IntKind.i64.wrap (a11 - 1)) else (Z0y l6 [0]).bind fun l16=>Zf9 a11 go1 i8 ((((IntKind.i64.wrap ((l16.length:Int) - 1)):Int) - a11).toNat+1) l16 (IntKind.i64.wrap ((l16.length:Int) - 1)))
def Zam (t1:(List Flow)):Nat→(List Int)→Int→Option (List Int)
 | 0,_,_=>none
 | m9+1,l6,i8=>(bif (decide (i8<(t1.length:Int))) then Zec l6 t1 i8 (Zam t1 m9) Z0v (l6.length:Int) else some l6)
def Zmw (t1:(List Flow)):Option (List Int):=
 Zam t1 ((((t1.length:Int):Int) - 0).toNat+1) [] 0
theorem Yih:Q1 Tryz.prog 128 (rd (Z1 Z08)) (rd (Z1 (Z0 .i64))) Zmw:=fun t1 r h=>I0 Tryz.func128 rfl Tryz.ntmps128 rfl fun w H Z=>by
 unfold Zmw at h
 refine SR<|Ac (Zv (A:=rd (Z1 (Z0 .i64)) []) rfl rfl Z1j) rfl<|Nl<|SR<|Cv rfl (Z5g 1001 (ps:=[]) (l:=[]) rfl rfl Z15 zr3 rfl rfl rfl rfl) fun v2=>Aw rfl<|Nl<|sq<|SR<|Ak rfl<|Nl<|bk<|LG (d:=[]) (ν:=Nat×(List Int)×Int×Value) (fun (m9,l6,i8,v7)=>(True∧Zam t1 m9 l6 i8=some r,m9,[(0,rd (Z1 Z08) t1),(3,Zc v7),(4,rd (Z0 .i64) i8)],[(1001,Zg v7 3 (Z0 .i64) l6)])) (((((t1.length:Int):Int) - 0).toNat+1),[],0,v2) ⟨trivial,h⟩ (FX rfl) ?_
 rintro ⟨m9,l6,i8,v7⟩ ⟨hsf1,h⟩
 dsimp only at h ⊢
 cases m9 with
 | zero=>cases h
 | succ m9=>
  unfold Zam at h
  refine sq<|SR<|Md rfl<|Md rfl<|Ac (Z0i rfl rfl Z2q (vt rfl)) rfl<|Ac (Zj rfl rfl (vt rfl) (vt rfl)) rfl<|Nl<|Cq rfl h (fun h=>?_) (fun h=>?_)
  ·refine sk<|sq<|bk<|SR<|Mw rfl<|Ac (Z51 1001 rfl rfl Z15 (vt rfl) rfl) rfl<|As rfl<|Nl<|sq<|bk<|LG (d:=[]) (ν:=Nat×Int) (fun (m12,a11)=>(True∧Zec l6 t1 i8 (Zam t1 m9) m12 a11=some r,m12,[(0,rd (Z1 Z08) t1),(3,Zc v7),(4,rd (Z0 .i64) i8),(5,rd (Z0 .i64) a11)],[(1001,Zg v7 3 (Z0 .i64) l6)])) (Z0v,(l6.length:Int)) ⟨trivial,h⟩ (FX rfl) ?_
   rintro ⟨m12,a11⟩ ⟨hsf2,h⟩
   dsimp only at h ⊢
   cases m12 with
   | zero=>cases h
   | succ m12=>
    unfold Zec at h
    refine sq<|sq ?_
    obtain ⟨x13,hx13,x14,hx14,x15,hx15,h⟩:=bs3 h
    refine AR Z00 (by kernel_rfl)<|Zt rfl<|Sd (lo [16] [] rfl fun S hs hr=>Z2s rfl rfl (vh hs 16 rfl rfl) (vk rfl))<|Zt rfl<|Sd (lg [0,18] [] rfl fun hq S hs hr=>Zq (A:=rd (Z1 Z08) t1) rfl rfl (vh hs 0 rfl rfl))<|Sd (lg [3,18] [] rfl fun hq S hs hr=>Zq (A:=Zc v7) rfl rfl (vh hs 3 rfl rfl))<|Sd (lg [5,18] [] rfl fun hq S hs hr=>Zq (A:=rd (Z0 .i64) a11) rfl rfl (vh hs 5 rfl rfl))<|Sd (lg [21,18] [] rfl fun hq S hs hr=>Z0t rfl rfl (Zi ((hs 21 rfl).trans rfl) hq) (vk rfl))<|Sd (lg [20,22,18] [1001] rfl fun hq S hs hr=>Z23 1001 rfl rfl Z15 (Zi ((hs 20 rfl).trans rfl) hq) ((hr 1001 rfl).trans rfl) (Zi ((hs 22 rfl).trans rfl) hq) (Z2j hx13 hq))<|Sd (lg [23,18] [1001] rfl fun hq S hs hr=>Z1r 1001 rfl rfl Zo (Zi ((hs 23 rfl).trans rfl) hq) ((hr 1001 rfl).trans rfl) (Z0n (Z2j hx13 hq)).2)<|Sd (lg [19,24,18] [] rfl fun hq S hs hr=>Z0j rfl rfl Z2q (Zi ((hs 19 rfl).trans rfl) hq) (Zi ((hs 24 rfl).trans rfl) hq) (Z2j hx14 hq))<|Sd (lg [25,18] [] rfl fun hq S hs hr=>Z7c lFlow_1 rfl rfl Zbf (Zi ((hs 25 rfl).trans rfl) hq))<|Sd (lg [26,18] [] rfl fun hq S hs hr=>Zav rfl rfl Zo (Zi ((hs 26 rfl).trans rfl) hq))<|Sd (lg [0,18] [] rfl fun hq S hs hr=>Zq (A:=rd (Z1 Z08) t1) rfl rfl (vh hs 0 rfl rfl))<|Sd (lg [4,18] [] rfl fun hq S hs hr=>Zq (A:=rd (Z0 .i64) i8) rfl rfl (vh hs 4 rfl rfl))<|Sd (lg [28,29,18] [] rfl fun hq S hs hr=>Z0j rfl rfl Z2q (Zi ((hs 28 rfl).trans rfl) hq) (Zi ((hs 29 rfl).trans rfl) hq) (Z2j hx15 hq))<|Sd (lg [30,18] [] rfl fun hq S hs hr=>Z7c lFlow_1 rfl rfl Zbf (Zi ((hs 30 rfl).trans rfl) hq))<|Sd (lg [31,18] [] rfl fun hq S hs hr=>Zav rfl rfl Zo (Zi ((hs 31 rfl).trans rfl) hq))<|Sd (lg [27,32,18] [] rfl fun hq S hs hr=>Zj rfl rfl (Zi ((hs 27 rfl).trans rfl) hq) (Zi ((hs 32 rfl).trans rfl) hq))<|Sd (lo [33,18] [] rfl fun S hs hr=>Z1m rfl rfl (vh hs 18 rfl rfl) (vh hs 33 rfl rfl))<|Sn<|Cq rfl h (fun h=>?_) (fun h=>?_)
    ·refine sk<|bk<|Rg<|Md rfl<|Ac (Z0t rfl rfl (vt rfl) (vk rfl)) rfl<|As rfl<|Nl ?_
     exact ⟨(_,_),Nat.lt_succ_self _,⟨trivial,h⟩,FX rfl⟩
    ·refine xt<|sq ?_
     obtain ⟨l16,hl16,h⟩:=Z7 h
     refine Rg<|Mw rfl<|Ac (osl Z15 zr3 rfl (vk rfl)) rfl<|Cv rfl (Z2f 1001 hl16 rfl rfl Zik (vt rfl) rfl (vt rfl)) fun v17=>Aw rfl<|Nl<|sq<|SR<|Mw rfl<|Ac (Z51 1001 rfl rfl Z15 (vt rfl) rfl) rfl<|Ac (Z0t rfl rfl (vt rfl) (vk rfl)) rfl<|As rfl<|Nl<|bk<|LG (d:=[]) (ν:=Nat×(List Int)×Int) (fun (m22,l20,j21)=>(True∧Zf9 a11 (Zam t1 m9) i8 m22 l20 j21=some r,m22,[(0,rd (Z1 Z08) t1),(3,Zc v17),(4,rd (Z0 .i64) i8),(5,rd (Z0 .i64) a11),(6,rd (Z0 .i64) j21)],[(1001,Zg v17 3 (Z0 .i64) l20)])) (((((IntKind.i64.wrap ((l16.length:Int) - 1)):Int) - a11).toNat+1),l16,(IntKind.i64.wrap ((l16.length:Int) - 1))) ⟨trivial,h⟩ (FX rfl) ?_
     rintro ⟨m22,l20,j21⟩ ⟨hsf3,h⟩
     dsimp only at h ⊢
     cases m22 with
     | zero=>cases h
     | succ m22=>
      unfold Zf9 at h
      refine sq<|SR<|Md rfl<|Md rfl<|Ac (Z2s rfl rfl (vt rfl) (vt rfl)) rfl<|Nl<|Cq rfl h (fun h=>?_) (fun h=>?_)
      ·refine sk<|sq<|bk ?_
       obtain ⟨x23,hx23,x24,hx24,h⟩:=bs2 h
       refine Rg<|Mw rfl<|Md rfl<|Mw rfl<|Md rfl<|Ac (Z0t rfl rfl (vt rfl) (vk rfl)) rfl<|Ac (Z23 1001 rfl rfl Z15 (vt rfl) rfl (vt rfl) hx23) rfl<|Ac (Z1r 1001 rfl rfl Zo (vt rfl) rfl (Z0n hx23).2) rfl<|Ac (Z23 1001 rfl rfl Z15 (vt rfl) rfl (vt rfl) hx24) rfl<|Ac (Z30 1001 rfl rfl Zo (vt rfl) rfl (Z0n hx24).2 (vt rfl)) rfl<|Nl<|Rg<|Md rfl<|Ac (Z0t rfl rfl (vt rfl) (vk rfl)) rfl<|As rfl<|Nl ?_
       exact ⟨(_,_,_),Nat.lt_succ_self _,⟨trivial,h⟩,FX rfl⟩
      ·refine xt ?_
       obtain ⟨x25,hx25,h⟩:=Z7 h
       refine Rg<|Mw rfl<|Md rfl<|Md rfl<|Ac (Z23 1001 rfl rfl Z15 (vt rfl) rfl (vt rfl) hx25) rfl<|Ac (Z30 1001 rfl rfl Zo (vt rfl) rfl (Z0n hx25).2 (vt rfl)) rfl<|Nl<|Rg<|Md rfl<|Ac (Z05 rfl rfl (vt rfl) (vk rfl)) rfl<|As rfl<|Nl ?_
       exact ⟨(_,_,_,_),Nat.lt_succ_self _,⟨trivial,h⟩,FX rfl⟩
  ·refine xt<|SR<|Mw rfl<|Aw rfl<|Nl<|AW.freezes [2,3,60] 1001 rfl ⟨rfl,rfl,rfl,trivial⟩ rfl<|rt ?_
   cases h;exact Zd Tryz.results128 rfl (Z5 rfl)
def Zc9 (x1:Int):Option Bool:=
 some ((decide (x1≥0))&&(decide (x1<24)))
theorem Zwk:Q1 Tryz.prog 285 (rd (Z0 .i64)) (rd Z6) Zc9:=fun x1 r h=>I0 Tryz.func285 rfl Tryz.ntmps285 rfl fun w H Z=>by
 unfold Zc9 at h
 refine SR<|Ab rfl<|Nl<|SR<|Md rfl<|Ac (Z45 rfl rfl (vt rfl) (vk rfl)) rfl<|Md rfl<|Gd rfl (fun hq=>Zq (A:=rd (Z0 .i64) x1) rfl rfl (vt rfl))<|Gd rfl (fun hq=>Zj rfl rfl (Zi rfl hq) (vk rfl))<|Ac (Z1m rfl rfl (vt rfl) (vt rfl)) rfl<|As rfl<|Nl<|rt ?_
 cases h;exact Zd Tryz.results285 rfl (Z5 rfl)
def Zz6 (x1:Int):Option (ByteArray×Int×Int×Bool):=
 (bif (decide (x1=12)) then some ({data:= #[116,99,112,95,115,114,99]},13,16,false) else (bif (decide (x1=13)) then some ({data:= #[116,99,112,95,100,115,116]},14,16,false) else (bif (decide (x1=14)) then some ({data:= #[117,100,112,95,115,114,99]},15,16,false) else (bif (decide (x1=15)) then some ({data:= #[117,100,112,95,100,115,116]},16,16,false) else (bif (decide (x1=16)) then some ({data:= #[105,99,109,112,118,52,95,116,121,112,101]},19,8,false) else (bif (decide (x1=17)) then some ({data:= #[105,99,109,112,118,52,95,99,111,100,101]},20,8,false) else (bif (decide (x1=18)) then some ({data:= #[97,114,112,95,111,112]},21,16,false) else (bif (decide (x1=19)) then some ({data:= #[97,114,112,95,115,112,97]},22,32,true) else (bif (decide (x1=20)) then some ({data:= #[97,114,112,95,116,112,97]},23,32,true) else (bif (decide (x1=21)) then some ({data:= #[105,112,118,54,95,115,114,99]},26,128,true) else (bif (decide (x1=22)) then some ({data:= #[105,112,118,54,95,100,115,116]},27,128,true) else (bif (decide (x1=23)) then some ({data:= #[109,112,108,115,95,108,97,98,101,108]},34,20,false) else some ({data:= #[]},(-1),0,false)))))))))))))
theorem Yqm:Q1 Tryz.prog 363 (rd (Z0 .i64)) (fun r=>Zb3 (rd Z1x r.1) (rd (Z0 .i64) r.2.1) (rd (Z0 .i64) r.2.2.1) (rd Z6 r.2.2.2)) Zz6:=fun x1 r h=>I0 Tryz.func363 rfl Tryz.ntmps363 rfl fun w H Z=>by
 unfold Zz6 at h
 refine SR<|Ac (Zv (A:=rd Z1x {data:= #[]}) rfl rfl (vs (by decide))) rfl<|Ak rfl<|Ak rfl<|Ab rfl<|Nl<|sq<|SR<|Md rfl<|Nl<|bk<|SR<|Ac (Z0m rfl rfl (vt rfl) (vk rfl)) rfl<|As rfl<|Nl<|Cq rfl h (fun h=>?_) (fun h=>?_)
 ·refine SR<|Ac (Zv (A:=rd Z1x {data:= #[116,99,112,95,115,114,99]}) rfl rfl (vs (by decide))) rfl<|Ak rfl<|Ak rfl<|Ab rfl<|Nl<|rt ?_
  cases h;exact Z37 Tryz.results363 rfl (Z5 rfl) (Z5 rfl) (Z5 rfl) (Z5 rfl)
 ·refine SR<|Ac (Z0m rfl rfl (vt rfl) (vk rfl)) rfl<|As rfl<|Nl<|Cq rfl h (fun h=>?_) (fun h=>?_)
  ·refine SR<|Ac (Zv (A:=rd Z1x {data:= #[116,99,112,95,100,115,116]}) rfl rfl (vs (by decide))) rfl<|Ak rfl<|Ak rfl<|Ab rfl<|Nl<|rt ?_
   cases h;exact Z37 Tryz.results363 rfl (Z5 rfl) (Z5 rfl) (Z5 rfl) (Z5 rfl)
  ·refine SR<|Ac (Z0m rfl rfl (vt rfl) (vk rfl)) rfl<|As rfl<|Nl<|Cq rfl h (fun h=>?_) (fun h=>?_)
   ·refine SR<|Ac (Zv (A:=rd Z1x {data:= #[117,100,112,95,115,114,99]}) rfl rfl (vs (by decide))) rfl<|Ak rfl<|Ak rfl<|Ab rfl<|Nl<|rt ?_
    cases h;exact Z37 Tryz.results363 rfl (Z5 rfl) (Z5 rfl) (Z5 rfl) (Z5 rfl)
   ·refine SR<|Ac (Z0m rfl rfl (vt rfl) (vk rfl)) rfl<|As rfl<|Nl<|Cq rfl h (fun h=>?_) (fun h=>?_)
    ·refine SR<|Ac (Zv (A:=rd Z1x {data:= #[117,100,112,95,100,115,116]}) rfl rfl (vs (by decide))) rfl<|Ak rfl<|Ak rfl<|Ab rfl<|Nl<|rt ?_
     cases h;exact Z37 Tryz.results363 rfl (Z5 rfl) (Z5 rfl) (Z5 rfl) (Z5 rfl)
    ·refine SR<|Ac (Z0m rfl rfl (vt rfl) (vk rfl)) rfl<|As rfl<|Nl<|Cq rfl h (fun h=>?_) (fun h=>?_)
     ·refine SR<|Ac (Zv (A:=rd Z1x {data:= #[105,99,109,112,118,52,95,116,121,112,101]}) rfl rfl (vs (by decide))) rfl<|Ak rfl<|Ak rfl<|Ab rfl<|Nl<|rt ?_
      cases h;exact Z37 Tryz.results363 rfl (Z5 rfl) (Z5 rfl) (Z5 rfl) (Z5 rfl)
     ·refine SR<|Ac (Z0m rfl rfl (vt rfl) (vk rfl)) rfl<|As rfl<|Nl<|Cq rfl h (fun h=>?_) (fun h=>?_)
      ·refine SR<|Ac (Zv (A:=rd Z1x {data:= #[105,99,109,112,118,52,95,99,111,100,101]}) rfl rfl (vs (by decide))) rfl<|Ak rfl<|Ak rfl<|Ab rfl<|Nl<|rt ?_
       cases h;exact Z37 Tryz.results363 rfl (Z5 rfl) (Z5 rfl) (Z5 rfl) (Z5 rfl)
      ·refine SR<|Ac (Z0m rfl rfl (vt rfl) (vk rfl)) rfl<|As rfl<|Nl<|Cq rfl h (fun h=>?_) (fun h=>?_)
       ·refine SR<|Ac (Zv (A:=rd Z1x {data:= #[97,114,112,95,111,112]}) rfl rfl (vs (by decide))) rfl<|Ak rfl<|Ak rfl<|Ab rfl<|Nl<|rt ?_
        cases h;exact Z37 Tryz.results363 rfl (Z5 rfl) (Z5 rfl) (Z5 rfl) (Z5 rfl)
       ·refine SR<|Ac (Z0m rfl rfl (vt rfl) (vk rfl)) rfl<|As rfl<|Nl<|Cq rfl h (fun h=>?_) (fun h=>?_)
        ·refine SR<|Ac (Zv (A:=rd Z1x {data:= #[97,114,112,95,115,112,97]}) rfl rfl (vs (by decide))) rfl<|Ak rfl<|Ak rfl<|Ab rfl<|Nl<|rt ?_
         cases h;exact Z37 Tryz.results363 rfl (Z5 rfl) (Z5 rfl) (Z5 rfl) (Z5 rfl)
        ·refine SR<|Ac (Z0m rfl rfl (vt rfl) (vk rfl)) rfl<|As rfl<|Nl<|Cq rfl h (fun h=>?_) (fun h=>?_)
         ·refine SR<|Ac (Zv (A:=rd Z1x {data:= #[97,114,112,95,116,112,97]}) rfl rfl (vs (by decide))) rfl<|Ak rfl<|Ak rfl<|Ab rfl<|Nl<|rt ?_
          cases h;exact Z37 Tryz.results363 rfl (Z5 rfl) (Z5 rfl) (Z5 rfl) (Z5 rfl)
         ·refine SR<|Ac (Z0m rfl rfl (vt rfl) (vk rfl)) rfl<|As rfl<|Nl<|Cq rfl h (fun h=>?_) (fun h=>?_)
          ·refine SR<|Ac (Zv (A:=rd Z1x {data:= #[105,112,118,54,95,115,114,99]}) rfl rfl (vs (by decide))) rfl<|Ak rfl<|Ak rfl<|Ab rfl<|Nl<|rt ?_
           cases h;exact Z37 Tryz.results363 rfl (Z5 rfl) (Z5 rfl) (Z5 rfl) (Z5 rfl)
          ·refine SR<|Ac (Z0m rfl rfl (vt rfl) (vk rfl)) rfl<|As rfl<|Nl<|Cq rfl h (fun h=>?_) (fun h=>?_)
           ·refine SR<|Ac (Zv (A:=rd Z1x {data:= #[105,112,118,54,95,100,115,116]}) rfl rfl (vs (by decide))) rfl<|Ak rfl<|Ak rfl<|Ab rfl<|Nl<|rt ?_
            cases h;exact Z37 Tryz.results363 rfl (Z5 rfl) (Z5 rfl) (Z5 rfl) (Z5 rfl)
           ·refine SR<|Ac (Z0m rfl rfl (vt rfl) (vk rfl)) rfl<|As rfl<|Nl<|Cq rfl h (fun h=>?_) (fun h=>?_)
            ·refine SR<|Ac (Zv (A:=rd Z1x {data:= #[109,112,108,115,95,108,97,98,101,108]}) rfl rfl (vs (by decide))) rfl<|Ak rfl<|Ak rfl<|Ab rfl<|Nl<|rt ?_
             cases h;exact Z37 Tryz.results363 rfl (Z5 rfl) (Z5 rfl) (Z5 rfl) (Z5 rfl)
            ·refine sk<|SR<|Ac (Zv (A:=rd Z1x {data:= #[]}) rfl rfl (vs (by decide))) rfl<|Ak rfl<|Ak rfl<|Ab rfl<|Nl<|rt ?_
             cases h;exact Z37 Tryz.results363 rfl (Z5 rfl) (Z5 rfl) (Z5 rfl) (Z5 rfl)
def Zul (x1:Int):Option (ByteArray×Int×Int×Bool):=
 (bif (decide (x1=0)) then some ({data:= #[105,110,95,112,111,114,116]},0,32,false) else (bif (decide (x1=1)) then some ({data:= #[109,101,116,97,100,97,116,97]},2,64,true) else (bif (decide (x1=2)) then some ({data:= #[101,116,104,95,100,115,116]},3,48,true) else (bif (decide (x1=3)) then some ({data:= #[101,116,104,95,115,114,99]},4,48,true) else (bif (decide (x1=4)) then some ({data:= #[101,116,104,95,116,121,112,101]},5,16,false) else (bif (decide (x1=5)) then some ({data:= #[118,108,97,110,95,118,105,100]},6,13,true) else (bif (decide (x1=6)) then some ({data:= #[118,108,97,110,95,112,99,112]},7,3,false) else (bif (decide (x1=7)) then some ({data:= #[105,112,95,100,115,99,112]},8,6,false) else (bif (decide (x1=8)) then some ({data:= #[105,112,95,101,99,110]},9,2,false) else (bif (decide (x1=9)) then some ({data:= #[105,112,95,112,114,111,116,111]},10,8,false) else (bif (decide (x1=10)) then some ({data:= #[105,112,118,52,95,115,114,99]},11,32,true) else (bif (decide (x1=11)) then some ({data:= #[105,112,118,52,95,100,115,116]},12,32,true) else (Zz6 x1).bind fun x2=>some (x2.1,x2.2.1,x2.2.2.1,x2.2.2.2)))))))))))))
theorem Yqi:Q1 Tryz.prog 322 (rd (Z0 .i64)) (fun r=>Zb3 (rd Z1x r.1) (rd (Z0 .i64) r.2.1) (rd (Z0 .i64) r.2.2.1) (rd Z6 r.2.2.2)) Zul:=fun x1 r h=>I0 Tryz.func322 rfl Tryz.ntmps322 rfl fun w H Z=>by
 unfold Zul at h
 refine SR<|Ac (Zv (A:=rd Z1x {data:= #[]}) rfl rfl (vs (by decide))) rfl<|Ak rfl<|Ak rfl<|Ab rfl<|Nl<|sq<|SR<|Md rfl<|Nl<|bk<|SR<|Ac (Z0m rfl rfl (vt rfl) (vk rfl)) rfl<|As rfl<|Nl<|Cq rfl h (fun h=>?_) (fun h=>?_)
 ·refine SR<|Ac (Zv (A:=rd Z1x {data:= #[105,110,95,112,111,114,116]}) rfl rfl (vs (by decide))) rfl<|Ak rfl<|Ak rfl<|Ab rfl<|Nl<|rt ?_
  cases h;exact Z37 Tryz.results322 rfl (Z5 rfl) (Z5 rfl) (Z5 rfl) (Z5 rfl)
 ·refine SR<|Ac (Z0m rfl rfl (vt rfl) (vk rfl)) rfl<|As rfl<|Nl<|Cq rfl h (fun h=>?_) (fun h=>?_)
  ·refine SR<|Ac (Zv (A:=rd Z1x {data:= #[109,101,116,97,100,97,116,97]}) rfl rfl (vs (by decide))) rfl<|Ak rfl<|Ak rfl<|Ab rfl<|Nl<|rt ?_
   cases h;exact Z37 Tryz.results322 rfl (Z5 rfl) (Z5 rfl) (Z5 rfl) (Z5 rfl)
  ·refine SR<|Ac (Z0m rfl rfl (vt rfl) (vk rfl)) rfl<|As rfl<|Nl<|Cq rfl h (fun h=>?_) (fun h=>?_)
   ·refine SR<|Ac (Zv (A:=rd Z1x {data:= #[101,116,104,95,100,115,116]}) rfl rfl (vs (by decide))) rfl<|Ak rfl<|Ak rfl<|Ab rfl<|Nl<|rt ?_
    cases h;exact Z37 Tryz.results322 rfl (Z5 rfl) (Z5 rfl) (Z5 rfl) (Z5 rfl)
   ·refine SR<|Ac (Z0m rfl rfl (vt rfl) (vk rfl)) rfl<|As rfl<|Nl<|Cq rfl h (fun h=>?_) (fun h=>?_)
    ·refine SR<|Ac (Zv (A:=rd Z1x {data:= #[101,116,104,95,115,114,99]}) rfl rfl (vs (by decide))) rfl<|Ak rfl<|Ak rfl<|Ab rfl<|Nl<|rt ?_
     cases h;exact Z37 Tryz.results322 rfl (Z5 rfl) (Z5 rfl) (Z5 rfl) (Z5 rfl)
    ·refine SR<|Ac (Z0m rfl rfl (vt rfl) (vk rfl)) rfl<|As rfl<|Nl<|Cq rfl h (fun h=>?_) (fun h=>?_)
     ·refine SR<|Ac (Zv (A:=rd Z1x {data:= #[101,116,104,95,116,121,112,101]}) rfl rfl (vs (by decide))) rfl<|Ak rfl<|Ak rfl<|Ab rfl<|Nl<|rt ?_
      cases h;exact Z37 Tryz.results322 rfl (Z5 rfl) (Z5 rfl) (Z5 rfl) (Z5 rfl)
     ·refine SR<|Ac (Z0m rfl rfl (vt rfl) (vk rfl)) rfl<|As rfl<|Nl<|Cq rfl h (fun h=>?_) (fun h=>?_)
      ·refine SR<|Ac (Zv (A:=rd Z1x {data:= #[118,108,97,110,95,118,105,100]}) rfl rfl (vs (by decide))) rfl<|Ak rfl<|Ak rfl<|Ab rfl<|Nl<|rt ?_
       cases h;exact Z37 Tryz.results322 rfl (Z5 rfl) (Z5 rfl) (Z5 rfl) (Z5 rfl)
      ·refine SR<|Ac (Z0m rfl rfl (vt rfl) (vk rfl)) rfl<|As rfl<|Nl<|Cq rfl h (fun h=>?_) (fun h=>?_)
       ·refine SR<|Ac (Zv (A:=rd Z1x {data:= #[118,108,97,110,95,112,99,112]}) rfl rfl (vs (by decide))) rfl<|Ak rfl<|Ak rfl<|Ab rfl<|Nl<|rt ?_
        cases h;exact Z37 Tryz.results322 rfl (Z5 rfl) (Z5 rfl) (Z5 rfl) (Z5 rfl)
       ·refine SR<|Ac (Z0m rfl rfl (vt rfl) (vk rfl)) rfl<|As rfl<|Nl<|Cq rfl h (fun h=>?_) (fun h=>?_)
        ·refine SR<|Ac (Zv (A:=rd Z1x {data:= #[105,112,95,100,115,99,112]}) rfl rfl (vs (by decide))) rfl<|Ak rfl<|Ak rfl<|Ab rfl<|Nl<|rt ?_
         cases h;exact Z37 Tryz.results322 rfl (Z5 rfl) (Z5 rfl) (Z5 rfl) (Z5 rfl)
        ·refine SR<|Ac (Z0m rfl rfl (vt rfl) (vk rfl)) rfl<|As rfl<|Nl<|Cq rfl h (fun h=>?_) (fun h=>?_)
         ·refine SR<|Ac (Zv (A:=rd Z1x {data:= #[105,112,95,101,99,110]}) rfl rfl (vs (by decide))) rfl<|Ak rfl<|Ak rfl<|Ab rfl<|Nl<|rt ?_
          cases h;exact Z37 Tryz.results322 rfl (Z5 rfl) (Z5 rfl) (Z5 rfl) (Z5 rfl)
         ·refine SR<|Ac (Z0m rfl rfl (vt rfl) (vk rfl)) rfl<|As rfl<|Nl<|Cq rfl h (fun h=>?_) (fun h=>?_)
          ·refine SR<|Ac (Zv (A:=rd Z1x {data:= #[105,112,95,112,114,111,116,111]}) rfl rfl (vs (by decide))) rfl<|Ak rfl<|Ak rfl<|Ab rfl<|Nl<|rt ?_
           cases h;exact Z37 Tryz.results322 rfl (Z5 rfl) (Z5 rfl) (Z5 rfl) (Z5 rfl)
          ·refine SR<|Ac (Z0m rfl rfl (vt rfl) (vk rfl)) rfl<|As rfl<|Nl<|Cq rfl h (fun h=>?_) (fun h=>?_)
           ·refine SR<|Ac (Zv (A:=rd Z1x {data:= #[105,112,118,52,95,115,114,99]}) rfl rfl (vs (by decide))) rfl<|Ak rfl<|Ak rfl<|Ab rfl<|Nl<|rt ?_
            cases h;exact Z37 Tryz.results322 rfl (Z5 rfl) (Z5 rfl) (Z5 rfl) (Z5 rfl)
           ·refine SR<|Ac (Z0m rfl rfl (vt rfl) (vk rfl)) rfl<|As rfl<|Nl<|Cq rfl h (fun h=>?_) (fun h=>?_)
            ·refine SR<|Ac (Zv (A:=rd Z1x {data:= #[105,112,118,52,95,100,115,116]}) rfl rfl (vs (by decide))) rfl<|Ak rfl<|Ak rfl<|Ab rfl<|Nl<|rt ?_
             cases h;exact Z37 Tryz.results322 rfl (Z5 rfl) (Z5 rfl) (Z5 rfl) (Z5 rfl)
            ·refine sk<|sq ?_
             obtain ⟨x2,hx2,h⟩:=Z7 h
             refine Rg<|Md rfl<|Cl [31] (Yqm _ _ hx2) Yo0 rfl<|Ac (Y63 rfl rfl (vt rfl)) rfl<|Ac (Y0f rfl rfl (vt rfl)) rfl<|Ac (Y2z rfl rfl (vt rfl)) rfl<|Ac (Y07 rfl rfl (vt rfl)) rfl<|As rfl<|As rfl<|As rfl<|As rfl<|Nl<|rt ?_
             cases h;exact Z37 Tryz.results322 rfl (Z5 rfl) (Z5 rfl) (Z5 rfl) (Z5 rfl)
def Zr7 (x1:Int):Option Int:=
 (Zul x1).bind fun x2=>some x2.2.2.1
theorem Yhk:Q1 Tryz.prog 320 (rd (Z0 .i64)) (rd (Z0 .i64)) Zr7:=fun x1 r h=>I0 Tryz.func320 rfl Tryz.ntmps320 rfl fun w H Z=>by
 unfold Zr7 at h
 refine SR<|Ak rfl<|Nl<|sq ?_
 obtain ⟨x2,hx2,h⟩:=Z7 h
 refine Rg<|Md rfl<|Cl [8] (Yqi _ _ hx2) Yw8 rfl<|Ac (Zq (A:=Zb3 (rd Z1x x2.1) (rd (Z0 .i64) x2.2.1) (rd (Z0 .i64) x2.2.2.1) (rd Z6 x2.2.2.2)) rfl rfl (vt rfl)) rfl<|Ac (Y63 rfl rfl (vt rfl)) rfl<|Ac (Y0f rfl rfl (vt rfl)) rfl<|Ac (Y2z rfl rfl (vt rfl)) rfl<|Ac (Y07 rfl rfl (vt rfl)) rfl<|As rfl<|As rfl<|As rfl<|As rfl<|Nl<|SR<|Md rfl<|As rfl<|Nl<|rt ?_
 cases h;exact Zd Tryz.results320 rfl (Z5 rfl)
def Zb4 (i1:Int):Option Wide:=
 (bif ((decide (i1<0))||(decide (i1>127))) then some (⟨0,0⟩:Wide) else (bif (decide (i1<64)) then (Zae (1:BitVec 64) ((BitVec.ofInt 64 i1).toNat:Int)).bind fun q3=>some (⟨0,q3⟩:Wide) else (Zae (1:BitVec 64) ((BitVec.ofInt 64 (IntKind.i64.wrap (i1 - 64))).toNat:Int)).bind fun q4=>some (⟨q4,0⟩:Wide)))
theorem Zp3:Q1 Tryz.prog 345 (rd (Z0 .i64)) (rd Zn) Zb4:=fun i1 r h=>I0 Tryz.func345 rfl Tryz.ntmps345 rfl fun w H Z=>by
 unfold Zb4 at h
 refine SR<|Cv rfl (Zm 3 rfl rfl Z2c) fun g2=>Nl<|sq<|bk<|SR<|Md rfl<|Ac (Zj rfl rfl (vt rfl) (vk rfl)) rfl<|Md rfl<|Gd rfl (fun hq=>Zq (A:=rd (Z0 .i64) i1) rfl rfl (vt rfl))<|Gd rfl (fun hq=>Z2s rfl rfl (Zi rfl hq) (vk rfl))<|Ac (Z4d rfl rfl (vt rfl) (vt rfl)) rfl<|As rfl<|Nl<|Cq rfl h (fun h=>?_) (fun h=>?_)
 ·refine SR<|Ac (opb (⟨0,0⟩:Wide) Z2c rfl Z4t (pn rfl)) rfl<|Zf Zw 3 rfl<|Nl<|rt ?_
  cases h;exact Zd Tryz.results345 rfl (Zx rfl (i:=3) rfl Zw)
 ·refine SR<|Md rfl<|Ac (Zj rfl rfl (vt rfl) (vk rfl)) rfl<|As rfl<|Nl<|Cq rfl h (fun h=>?_) (fun h=>?_)
  ·refine sq ?_
   obtain ⟨q3,hq3,h⟩:=Z7 h
   refine Rg<|Md rfl<|Ac (Z9n rfl rfl us3 Z96 (vt rfl)) rfl<|Ac (Zph rfl rfl (vku (1:BitVec 64) rfl) (Z5s (vt rfl)) hq3) rfl<|Ac (opb (⟨0,q3⟩:Wide) Z2c rfl Z4t (pc Z8i (vt rfl)<|pn rfl)) rfl<|Zf Zw 3 rfl<|Nl<|rt ?_
   cases h;exact Zd Tryz.results345 rfl (Zx rfl (i:=3) rfl Zw)
  ·refine sk<|sq ?_
   obtain ⟨q4,hq4,h⟩:=Z7 h
   refine Rg<|Md rfl<|Ac (Z0t rfl rfl (vt rfl) (vk rfl)) rfl<|Ac (Z9n rfl rfl us3 Z96 (vt rfl)) rfl<|Ac (Zph rfl rfl (vku (1:BitVec 64) rfl) (Z5s (vt rfl)) hq4) rfl<|Ac (opb (⟨q4,0⟩:Wide) Z2c rfl Z4t (pc Z8y (vt rfl)<|pn rfl)) rfl<|Zf Zw 3 rfl<|Nl<|rt ?_
   cases h;exact Zd Tryz.results345 rfl (Zx rfl (i:=3) rfl Zw)
end Go.Proofs.YtinplddjjalohaaGreatDoor.W
set_option maxHeartbeats 1000000
set_option maxRecDepth 4000
namespace Go.Proofs.YtinplddjjalohaaGreatDoor.W
open Go Go.Wb
theorem Zrx:Ent Tryz.prog 345:=Ent.mk Tryz.func345 rfl rfl
theorem Zml:Ent Tryz.prog 283:=Ent.mk Tryz.func283 rfl rfl
theorem Zxi:Ent Tryz.prog 285:=Ent.mk Tryz.func285 rfl rfl
theorem Yyz:Ent Tryz.prog 320:=Ent.mk Tryz.func320 rfl rfl
theorem Zxo:Ent Tryz.prog 319:=Ent.mk Tryz.func319 rfl rfl
theorem Yac:Ent Tryz.prog 297:=Ent.mk Tryz.func297 rfl rfl
theorem Zpd:Ent Tryz.prog 284:=Ent.mk Tryz.func284 rfl rfl
theorem Zlo:Ent Tryz.prog 215:=Ent.mk Tryz.func215 rfl rfl
theorem Yxc:Ent Tryz.prog 218:=Ent.mk Tryz.func218 rfl rfl
theorem Yga:Ent Tryz.prog 217:=Ent.mk Tryz.func217 rfl rfl
def Zbz (a1:Wide)(b2:Wide):Option Wide:=
 some (⟨(a1.Hi||| b2.Hi),(a1.Lo||| b2.Lo)⟩:Wide)
theorem Zk6:Q2 Tryz.prog 283 (rd Zn) (rd Zn) (rd Zn) Zbz:=fun a1 b2 r h=>I0 Tryz.func283 rfl Tryz.ntmps283 rfl fun w H Z=>by
 unfold Zbz at h
 refine SR<|Cv rfl (Zs 3 rfl rfl (vt rfl)) fun g3=>Cv rfl (Zs 4 rfl rfl (vt rfl)) fun g4=>Cv rfl (Zm 5 rfl rfl Z2c) fun g5=>Nl<|SR<|Zk lWide_0 Z4s rfl<|Ld Z1h 3 rfl<|Zk lWide_0 Z4s rfl<|Ld Z1h 4 rfl<|Ac (Zl7 rfl rfl (vt rfl) (vt rfl)) rfl<|Zk lWide_1 Z4r rfl<|Ld Z1h 3 rfl<|Zk lWide_1 Z4r rfl<|Ld Z1h 4 rfl<|Ac (Zl7 rfl rfl (vt rfl) (vt rfl)) rfl<|Ac (opb (⟨(a1.Hi||| b2.Hi),(a1.Lo||| b2.Lo)⟩:Wide) Z2c rfl Z4t (pc Z8y (vt rfl)<|pc Z8i (vt rfl)<|pn rfl)) rfl<|Zf Zw 5 rfl<|Nl<|rt ?_
 cases h;exact Zd Tryz.results283 rfl (Zx rfl (i:=5) rfl Zw)
def Zqe (n1:Int):Nat→Wide→Int→Option Wide
 | 0,_,_=>none
 | m8+1,b6,i7=>(bif ((decide (i7<n1))&&(decide (i7<128))) then (Zb4 i7).bind fun x9=>(Zbz b6 x9).bind fun x10=>(Zqe n1 m8) x10 (IntKind.i64.wrap (i7+1)) else some b6)
def Zdd (n1:Int):Option Wide:=
 Zqe n1 Z0v (⟨0,0⟩:Wide) 0
theorem Zwr:Q1 Tryz.prog 319 (rd (Z0 .i64)) (rd Zn) Zdd:=fun n1 r h=>I0 Tryz.func319 rfl Tryz.ntmps319 rfl fun w H Z=>by
 unfold Zdd at h
 refine SR<|Cv rfl (Zm 3 rfl rfl Z2c) fun g2=>Nl<|SR<|Ac (opb (⟨0,0⟩:Wide) Z2c rfl Z4t (pn rfl)) rfl<|Cv rfl (Zm 4 rfl rfl Z2c) fun g3=>Zf Zw 4 rfl<|Nl<|sq<|SR<|Ak rfl<|Nl<|bk<|LG (d:=[]) (ν:=Nat×Wide×Int) (fun (m8,b6,i7)=>(True∧Zqe n1 m8 b6 i7=some r,m8,[(0,rd (Z0 .i64) n1),(2,Zb g2 (Lens.id Zn)),(3,Zb g3 (Lens.id Zn)),(4,rd (Z0 .i64) i7)],[(3,Zh g2 29 Zn Z0s),(4,Zh g3 29 Zn b6)])) (Z0v,(⟨0,0⟩:Wide),0) ⟨trivial,h⟩ (FX rfl) ?_
 rintro ⟨m8,b6,i7⟩ ⟨hsf1,h⟩
 dsimp only at h ⊢
 cases m8 with
 | zero=>cases h
 | succ m8=>
  unfold Zqe at h
  refine sq<|SR<|Md rfl<|Md rfl<|Ac (Zj rfl rfl (vt rfl) (vt rfl)) rfl<|Md rfl<|Gd rfl (fun hq=>Zq (A:=rd (Z0 .i64) i7) rfl rfl (vt rfl))<|Gd rfl (fun hq=>Zj rfl rfl (Zi rfl hq) (vk rfl))<|Ac (Z1m rfl rfl (vt rfl) (vt rfl)) rfl<|Nl<|Cq rfl h (fun h=>?_) (fun h=>?_)
  ·refine sk<|sq<|bk ?_
   obtain ⟨x9,hx9,x10,hx10,h⟩:=bs2 h
   refine AR Z00 (by kernel_rfl)<|Zp Zw 4 rfl<|Zt rfl<|SCl [16] (Zp3 _ _ hx9) Zrx rfl<|SCl [15,17] (Zk6 _ _ _ hx10) Zml rfl<|SSt Zw 4 rfl<|Sn<|Rg<|Md rfl<|Ac (Z05 rfl rfl (vt rfl) (vk rfl)) rfl<|As rfl<|Nl ?_
   exact ⟨(_,_,_),Nat.lt_succ_self _,⟨trivial,h⟩,FX rfl⟩
  ·refine xt<|SR<|Ld Zw 4 rfl<|Zf Zw 3 rfl<|Nl<|rt ?_
   cases h;exact Zd Tryz.results319 rfl (Zx rfl (i:=3) rfl Zw)
def Zgc (o1:Oxm):Option Tern:=
 (Zc9 o1.Field).bind fun x4=>(bif (!x4) then some (⟨Z0s,Z0s⟩:Tern) else (bif o1.Masked then some (⟨o1.Value,o1.Mask⟩:Tern) else (Zr7 o1.Field).bind fun x5=>(Zdd x5).bind fun x6=>some (⟨o1.Value,x6⟩:Tern)))
theorem Y8o:Q1 Tryz.prog 297 (rd Z0k) (rd Z4) Zgc:=fun o1 r h=>I0 Tryz.func297 rfl Tryz.ntmps297 rfl fun w H Z=>by
 unfold Zgc at h
 refine SR<|Cv rfl (Zs 2 rfl rfl (vt rfl)) fun g2=>Cv rfl (Zm 3 rfl rfl Z1n) fun g3=>Nl<|sq<|sq ?_
 obtain ⟨x4,hx4,h⟩:=Z7 h
 refine Rg<|Zk Z4w Z52 rfl<|Ld Zo 2 rfl<|Cl [4] (Zwk _ _ hx4) Zxi rfl<|Ac (Z0z rfl rfl (vt rfl)) rfl<|Nl<|Cq rfl h (fun h=>?_) (fun h=>?_)
 ·refine SR<|Ac (opb (⟨Z0s,Z0s⟩:Tern) Z1n rfl Z4x (pn rfl)) rfl<|Zf Z01 3 rfl<|Nl<|rt ?_
  cases h;exact Zd Tryz.results297 rfl (Zx rfl (i:=3) rfl Z01)
 ·refine sk<|sq<|SR<|Zk Zvg Y9z rfl<|Ld ty4 2 rfl<|Nl<|Cq rfl h (fun h=>?_) (fun h=>?_)
  ·refine SR<|Zk Zm6 Zss rfl<|Ld Zw 2 rfl<|Zk Zxk Y7u rfl<|Ld Zw 2 rfl<|Ac (opb (⟨o1.Value,o1.Mask⟩:Tern) Z1n rfl Z4x (pc Z5x (vt rfl)<|pc Z6e (vt rfl)<|pn rfl)) rfl<|Zf Z01 3 rfl<|Nl<|rt ?_
   cases h;exact Zd Tryz.results297 rfl (Zx rfl (i:=3) rfl Z01)
  ·refine sk<|sq ?_
   obtain ⟨x5,hx5,x6,hx6,h⟩:=bs2 h
   refine AR Z00 (by kernel_rfl)<|SFd Zm6 Zss rfl<|Zp Zw 2 rfl<|SFd Z4w Z52 rfl<|Zp Zo 2 rfl<|SCl [18] (Yhk _ _ hx5) Yyz rfl<|SCl [19] (Zwr _ _ hx6) Zxo rfl<|Sd (lo [16,20] [] rfl fun S hs hr=>opb (⟨o1.Value,x6⟩:Tern) Z1n rfl Z4x (pc Z5x (vh hs 16 rfl rfl)<|pc Z6e (vh hs 20 rfl rfl)<|pn rfl))<|SSt Z01 3 rfl<|Sn<|rt ?_
   cases h;exact Zd Tryz.results297 rfl (Zx rfl (i:=3) rfl Z01)
def Zbp (l1:(List Oxm)):Nat→Za→Int→Option Za
 | 0,_,_=>none
 | m8+1,b6,i7=>(bif (decide (i7<(l1.length:Int))) then (lget l1 i7).bind fun x9=>(Zc9 x9.Field).bind fun x10=>(bif x10 then (lget l1 i7).bind fun x11=>(lget l1 i7).bind fun x12=>(Zgc x12).bind fun x13=>(chk 24 x11.Field).bind fun j14=>(Zbp l1 m8) (Vector.set b6 j14.1 x13 j14.2) (IntKind.i64.wrap (i7+1)) else (Zbp l1 m8) b6 (IntKind.i64.wrap (i7+1))) else some b6)
def Zqd (l1:(List Oxm)):Option Za:=
 Zbp l1 ((((l1.length:Int):Int) - 0).toNat+1) (Vector.replicate 24 zTern) 0
theorem Yst:Q1 Tryz.prog 218 (rd (Z1 Z0k)) (rd (Z3 24 Z4)) Zqd:=fun l1 r h=>I0 Tryz.func218 rfl Tryz.ntmps218 rfl fun w H Z=>by
 unfold Zqd at h
 refine SR<|Cv rfl (Zm 3 rfl rfl Z1l) fun g2=>Nl<|SR<|Ac (Z1o (ps:=[]) (x:=(Vector.replicate 24 zTern)) rfl rfl rfl (by kernel_rfl) Z1l rfl) rfl<|Cv rfl (Zm 4 rfl rfl Z1l) fun g3=>Zf Z02 4 rfl<|Nl<|sq<|SR<|Ak rfl<|Nl<|bk<|LG (d:=[]) (ν:=Nat×Za×Int) (fun (m8,b6,i7)=>(True∧Zbp l1 m8 b6 i7=some r,m8,[(0,rd (Z1 Z0k) l1),(2,Zb g2 (Lens.id (Z3 24 Z4))),(3,Zb g3 (Lens.id (Z3 24 Z4))),(4,rd (Z0 .i64) i7)],[(3,Zh g2 123 (Z3 24 Z4) (Vector.replicate 24 zTern)),(4,Zh g3 123 (Z3 24 Z4) b6)])) (((((l1.length:Int):Int) - 0).toNat+1),(Vector.replicate 24 zTern),0) ⟨trivial,h⟩ (FX rfl) ?_
 rintro ⟨m8,b6,i7⟩ ⟨hsf1,h⟩
 dsimp only at h ⊢
 cases m8 with
 | zero=>cases h
 | succ m8=>
  unfold Zbp at h
  refine sq<|SR<|Md rfl<|Md rfl<|Ac (Z0i rfl rfl Z5f (vt rfl)) rfl<|Ac (Zj rfl rfl (vt rfl) (vt rfl)) rfl<|Nl<|Cq rfl h (fun h=>?_) (fun h=>?_)
  ·refine sk<|sq<|bk<|sq ?_
   obtain ⟨x9,hx9,x10,hx10,h⟩:=bs2 h
   refine Rg<|Md rfl<|Md rfl<|Ac (Z0j rfl rfl Z5f (vt rfl) (vt rfl) hx9) rfl<|Fp Z4w Z52 rfl<|Lp1 Zo rfl<|Cl [16] (Zwk _ _ hx10) Zxi rfl<|Nl<|Cq rfl h (fun h=>?_) (fun h=>?_)
   ·obtain ⟨x11,hx11,x12,hx12,x13,hx13,j14,hj14,h⟩:=bs4 h
    refine AR Z00 (by kernel_rfl)<|Zt rfl<|Zt rfl<|Sd (lo [18,19] [] rfl fun S hs hr=>Z0j rfl rfl Z5f (vh hs 18 rfl rfl) (vh hs 19 rfl rfl) hx11)<|SFp Z4w Z52 rfl<|SLp Zo rfl<|Zt rfl<|Zt rfl<|Sd (lo [23,24] [] rfl fun S hs hr=>Z0j rfl rfl Z5f (vh hs 23 rfl rfl) (vh hs 24 rfl rfl) hx12)<|SLp Z7p rfl<|SCl [26] (Y8o _ _ hx13) Yac rfl<|Sd (lo [3,22] [] rfl fun S hs hr=>Z19 rfl rfl Z2p (vh hs 3 rfl rfl) (vh hs 22 rfl rfl) hj14)<|SSt Z01 4 rfl<|Sn<|Rg<|Md rfl<|Ac (Z05 rfl rfl (vt rfl) (vk rfl)) rfl<|As rfl<|Nl ?_
    exact ⟨(_,_,_),Nat.lt_succ_self _,⟨trivial,h⟩,FX rfl⟩
   ·refine sk<|Rg<|Md rfl<|Ac (Z05 rfl rfl (vt rfl) (vk rfl)) rfl<|As rfl<|Nl ?_
    exact ⟨(_,_,_),Nat.lt_succ_self _,⟨trivial,h⟩,FX rfl⟩
  ·refine xt<|SR<|Ld Z02 4 rfl<|Zf Z02 3 rfl<|Nl<|rt ?_
   cases h;exact Zd Tryz.results218 rfl (Zx rfl (i:=3) rfl Z02)
def Ze4 (a1:Wide)(b2:Wide):Option Wide:=
 some (⟨(a1.Hi&&& b2.Hi),(a1.Lo&&& b2.Lo)⟩:Wide)
theorem Zr2:Q2 Tryz.prog 284 (rd Zn) (rd Zn) (rd Zn) Ze4:=fun a1 b2 r h=>I0 Tryz.func284 rfl Tryz.ntmps284 rfl fun w H Z=>by
 unfold Ze4 at h
 refine SR<|Cv rfl (Zs 3 rfl rfl (vt rfl)) fun g3=>Cv rfl (Zs 4 rfl rfl (vt rfl)) fun g4=>Cv rfl (Zm 5 rfl rfl Z2c) fun g5=>Nl<|SR<|Zk lWide_0 Z4s rfl<|Ld Z1h 3 rfl<|Zk lWide_0 Z4s rfl<|Ld Z1h 4 rfl<|Ac (Zat rfl rfl (vt rfl) (vt rfl)) rfl<|Zk lWide_1 Z4r rfl<|Ld Z1h 3 rfl<|Zk lWide_1 Z4r rfl<|Ld Z1h 4 rfl<|Ac (Zat rfl rfl (vt rfl) (vt rfl)) rfl<|Ac (opb (⟨(a1.Hi&&& b2.Hi),(a1.Lo&&& b2.Lo)⟩:Wide) Z2c rfl Z4t (pc Z8y (vt rfl)<|pc Z8i (vt rfl)<|pn rfl)) rfl<|Zf Zw 5 rfl<|Nl<|rt ?_
 cases h;exact Zd Tryz.results284 rfl (Zx rfl (i:=5) rfl Zw)
def Zad (t1:Tern):Option Tern:=
 (Ze4 t1.Value t1.Mask).bind fun x4=>some (⟨x4,t1.Mask⟩:Tern)
theorem Zmm:Q1 Tryz.prog 215 (rd Z4) (rd Z4) Zad:=fun t1 r h=>I0 Tryz.func215 rfl Tryz.ntmps215 rfl fun w H Z=>by
 unfold Zad at h
 refine SR<|Cv rfl (Zs 2 rfl rfl (vt rfl)) fun g2=>Cv rfl (Zm 3 rfl rfl Z1n) fun g3=>Nl<|sq ?_
 obtain ⟨x4,hx4,h⟩:=Z7 h
 refine AR Z00 (by kernel_rfl)<|SFd lTern_0 Z32 rfl<|Zp Zw 2 rfl<|SFd lTern_1 Z2g rfl<|Zp Zw 2 rfl<|SCl [4,6] (Zr2 _ _ _ hx4) Zpd rfl<|SFd lTern_1 Z2g rfl<|Zp Zw 2 rfl<|Sd (lo [7,9] [] rfl fun S hs hr=>opb (⟨x4,t1.Mask⟩:Tern) Z1n rfl Z4x (pc Z5x (vh hs 7 rfl rfl)<|pc Z6e (vh hs 9 rfl rfl)<|pn rfl))<|SSt Z01 3 rfl<|Sn<|rt ?_
 cases h;exact Zd Tryz.results215 rfl (Zx rfl (i:=3) rfl Z01)
def Zfo:Nat→Za→Int→Option Za
 | 0,_,_=>none
 | m8+1,b6,x7=>(bif (decide (x7<24)) then (chk 24 x7).bind fun j9=>(Zad (Vector.get b6 j9)).bind fun x10=>(chk 24 x7).bind fun j11=>(Zfo m8) (Vector.set b6 j11.1 x10 j11.2) (IntKind.i64.wrap (x7+1)) else some b6)
def Zk3 (x1:Za):Option Za:=
 Zfo (((24:Int) - 0).toNat+1) x1 0
theorem Yt8:Q1 Tryz.prog 217 (rd (Z3 24 Z4)) (rd (Z3 24 Z4)) Zk3:=fun x1 r h=>I0 Tryz.func217 rfl Tryz.ntmps217 rfl fun w H Z=>by
 unfold Zk3 at h
 refine SR<|Cv rfl (Zs 2 rfl rfl (vt rfl)) fun g2=>Cv rfl (Zm 3 rfl rfl Z1l) fun g3=>Nl<|sq<|SR<|Ak rfl<|Nl<|bk<|LG (d:=[]) (ν:=Nat×Za×Int) (fun (m8,b6,x7)=>(True∧Zfo m8 b6 x7=some r,m8,[(1,Zb g2 (Lens.id (Z3 24 Z4))),(2,Zb g3 (Lens.id (Z3 24 Z4))),(3,rd (Z0 .i64) x7)],[(2,Zh g2 123 (Z3 24 Z4) b6),(3,Zh g3 123 (Z3 24 Z4) (Vector.replicate 24 zTern))])) ((((24:Int) - 0).toNat+1),x1,0) ⟨trivial,h⟩ (FX rfl) ?_
 rintro ⟨m8,b6,x7⟩ ⟨hsf1,h⟩
 dsimp only at h ⊢
 cases m8 with
 | zero=>cases h
 | succ m8=>
  unfold Zfo at h
  refine sq<|SR<|Md rfl<|Ac (Zj rfl rfl (vt rfl) (vk rfl)) rfl<|Nl<|Cq rfl h (fun h=>?_) (fun h=>?_)
  ·refine sk<|sq<|bk ?_
   obtain ⟨j9,hj9,x10,hx10,j11,hj11,h⟩:=bs3 h
   refine Rg<|Md rfl<|Md rfl<|Ac (Z19 rfl rfl Z2p (vt rfl) (vt rfl) hj9) rfl<|Ld Z01 2 rfl<|Cl [11] (Zmm _ _ hx10) Zlo rfl<|Ac (Z19 rfl rfl Z2p (vt rfl) (vt rfl) hj11) rfl<|Zf Z01 2 rfl<|Nl<|Rg<|Md rfl<|Ac (Z05 rfl rfl (vt rfl) (vk rfl)) rfl<|As rfl<|Nl ?_
   exact ⟨(_,_,_),Nat.lt_succ_self _,⟨trivial,h⟩,FX rfl⟩
  ·refine xt<|SR<|Ld Z02 2 rfl<|Zf Z02 3 rfl<|Nl<|rt ?_
   cases h;exact Zd Tryz.results217 rfl (Zx rfl (i:=3) rfl Z02)
def Zoa (x1:Flow):Option Za:=
 (Zqd x1.Match).bind fun x4=>(Zk3 x4).bind fun x5=>some x5
theorem Ydp:Q1 Tryz.prog 130 (rd Z08) (rd (Z3 24 Z4)) Zoa:=fun x1 r h=>I0 Tryz.func130 rfl Tryz.ntmps130 rfl fun w H Z=>by
 unfold Zoa at h
 refine SR<|Cv rfl (Zs 2 rfl rfl (vt rfl)) fun g2=>Cv rfl (Zm 3 rfl rfl Z1l) fun g3=>Nl<|sq ?_
 obtain ⟨x4,hx4,x5,hx5,h⟩:=bs2 h
 refine Rg<|Zk lFlow_5 Zlc rfl<|Ld Zca 2 rfl<|Cl [4] (Yst _ _ hx4) Yxc rfl<|Cl [5] (Yt8 _ _ hx5) Yga rfl<|Zf Z02 3 rfl<|Nl<|rt ?_
 cases h;exact Zd Tryz.results130 rfl (Zx rfl (i:=3) rfl Z02)
def Zq8 (a1:Wide)(b2:Wide):Option Wide:=
 some (⟨(a1.Hi ^^^ b2.Hi),(a1.Lo ^^^ b2.Lo)⟩:Wide)
theorem Yro:Q2 Tryz.prog 296 (rd Zn) (rd Zn) (rd Zn) Zq8:=fun a1 b2 r h=>I0 Tryz.func296 rfl Tryz.ntmps296 rfl fun w H Z=>by
 unfold Zq8 at h
 refine SR<|Cv rfl (Zs 3 rfl rfl (vt rfl)) fun g3=>Cv rfl (Zs 4 rfl rfl (vt rfl)) fun g4=>Cv rfl (Zm 5 rfl rfl Z2c) fun g5=>Nl<|SR<|Zk lWide_0 Z4s rfl<|Ld Z1h 3 rfl<|Zk lWide_0 Z4s rfl<|Ld Z1h 4 rfl<|Ac (Zrz rfl rfl (vt rfl) (vt rfl)) rfl<|Zk lWide_1 Z4r rfl<|Ld Z1h 3 rfl<|Zk lWide_1 Z4r rfl<|Ld Z1h 4 rfl<|Ac (Zrz rfl rfl (vt rfl) (vt rfl)) rfl<|Ac (opb (⟨(a1.Hi ^^^ b2.Hi),(a1.Lo ^^^ b2.Lo)⟩:Wide) Z2c rfl Z4t (pc Z8y (vt rfl)<|pc Z8i (vt rfl)<|pn rfl)) rfl<|Zf Zw 5 rfl<|Nl<|rt ?_
 cases h;exact Zd Tryz.results296 rfl (Zx rfl (i:=5) rfl Zw)
end Go.Proofs.YtinplddjjalohaaGreatDoor.W
set_option maxHeartbeats 1000000
set_option maxRecDepth 4000
namespace Go.Proofs.YtinplddjjalohaaGreatDoor.W
open Go Go.Wb
theorem Yuo:Ent Tryz.prog 296:=Ent.mk Tryz.func296 rfl rfl
theorem Ybs:Ent Tryz.prog 295:=Ent.mk Tryz.func295 rfl rfl
theorem Y30:Ent Tryz.prog 214:=Ent.mk Tryz.func214 rfl rfl
theorem Y7w:Ent Tryz.prog 216:=Ent.mk Tryz.func216 rfl rfl
theorem Ztc:Ent Tryz.prog 298:=Ent.mk Tryz.func298 rfl rfl
theorem Y7d:Ent Tryz.prog 286:=Ent.mk Tryz.func286 rfl rfl
def Ziu (a1:Wide):Option Bool:=
 some ((decide (a1.Hi=(0:BitVec 64)))&&(decide (a1.Lo=(0:BitVec 64))))
theorem Y5h:Q1 Tryz.prog 295 (rd Zn) (rd Z6) Ziu:=fun a1 r h=>I0 Tryz.func295 rfl Tryz.ntmps295 rfl fun w H Z=>by
 unfold Ziu at h
 refine SR<|Cv rfl (Zs 2 rfl rfl (vt rfl)) fun g2=>Ab rfl<|Nl<|SR<|Zk lWide_0 Z4s rfl<|Ld Z1h 2 rfl<|Ac (Zzc rfl rfl (vt rfl) (vku (0:BitVec 64) rfl)) rfl<|Md rfl<|Gd rfl (fun hq=>Z2v lWide_1 rfl rfl Z4r (vt rfl))<|Gd rfl (fun hq=>Z1z rfl rfl Z1h (Zi rfl hq) (i:=2) rfl)<|Gd rfl (fun hq=>Zzc rfl rfl (Zi rfl hq) (vku (0:BitVec 64) rfl))<|Ac (Z1m rfl rfl (vt rfl) (vt rfl)) rfl<|As rfl<|Nl<|rt ?_
 cases h;exact Zd Tryz.results295 rfl (Z5 rfl)
def Zhb (a1:Tern)(b2:Tern):Option (Tern×Bool):=
 (Ze4 a1.Mask b2.Mask).bind fun x6=>(Zq8 a1.Value b2.Value).bind fun x8=>(Ze4 x8 x6).bind fun x9=>(Ziu x9).bind fun x10=>(bif (!x10) then some ((⟨Z0s,Z0s⟩:Tern),false) else (Zad a1).bind fun x11=>(Zad b2).bind fun x12=>(Zbz x11.Value x12.Value).bind fun x13=>(Zbz x11.Mask x12.Mask).bind fun x14=>some ((⟨x13,x14⟩:Tern),true))
theorem Y4s:Q2 Tryz.prog 214 (rd Z4) (rd Z4) (fun r=>Z12 (rd Z4 r.1) (rd Z6 r.2)) Zhb:=fun a1 b2 r h=>I0 Tryz.func214 rfl Tryz.ntmps214 rfl fun w H Z=>by
 unfold Zhb at h
 refine SR<|Cv rfl (Zs 3 rfl rfl (vt rfl)) fun g3=>Cv rfl (Zs 4 rfl rfl (vt rfl)) fun g4=>Cv rfl (Zm 5 rfl rfl Z1n) fun g5=>Ab rfl<|Nl<|sq ?_
 obtain ⟨x6,hx6,h⟩:=Z7 h
 refine Rg<|Zk lTern_1 Z2g rfl<|Ld Zw 3 rfl<|Zk lTern_1 Z2g rfl<|Ld Zw 4 rfl<|Cl [8,10] (Zr2 _ _ _ hx6) Zpd rfl<|Cv rfl (Zm 7 rfl rfl Z2c) fun g7=>Zf Zw 7 rfl<|Nl<|sq<|sq ?_
 obtain ⟨x8,hx8,x9,hx9,x10,hx10,h⟩:=bs3 h
 refine AR Z00 (by kernel_rfl)<|SFd lTern_0 Z32 rfl<|Zp Zw 3 rfl<|SFd lTern_0 Z32 rfl<|Zp Zw 4 rfl<|SCl [13,15] (Yro _ _ _ hx8) Yuo rfl<|Zp Zw 7 rfl<|SCl [16,17] (Zr2 _ _ _ hx9) Zpd rfl<|SCl [18] (Y5h _ _ hx10) Ybs rfl<|Sd (lo [19] [] rfl fun S hs hr=>Z0z rfl rfl (vh hs 19 rfl rfl))<|Sn<|Cq rfl h (fun h=>?_) (fun h=>?_)
 ·refine SR<|Ac (opb (⟨Z0s,Z0s⟩:Tern) Z1n rfl Z4x (pn rfl)) rfl<|Zf Z01 5 rfl<|Ab rfl<|Nl<|rt ?_
  cases h;exact Z1f Tryz.results214 rfl (Zx rfl (i:=5) rfl Z01) (Z5 rfl)
 ·refine sk<|sq ?_
  obtain ⟨x11,hx11,x12,hx12,h⟩:=bs2 h
  refine AR Z00 (by kernel_rfl)<|Zp Z01 3 rfl<|SCl [22] (Zmm _ _ hx11) Zlo rfl<|Zp Z01 4 rfl<|SCl [24] (Zmm _ _ hx12) Zlo rfl<|SSt Z01 3 rfl<|SSt Z01 4 rfl<|Sn<|sq ?_
  obtain ⟨x13,hx13,x14,hx14,h⟩:=bs2 h
  refine AR Z00 (by kernel_rfl)<|SFd lTern_0 Z32 rfl<|Zp Zw 3 rfl<|SFd lTern_0 Z32 rfl<|Zp Zw 4 rfl<|SCl [27,29] (Zk6 _ _ _ hx13) Zml rfl<|SFd lTern_1 Z2g rfl<|Zp Zw 3 rfl<|SFd lTern_1 Z2g rfl<|Zp Zw 4 rfl<|SCl [32,34] (Zk6 _ _ _ hx14) Zml rfl<|Sd (lo [30,35] [] rfl fun S hs hr=>opb (⟨x13,x14⟩:Tern) Z1n rfl Z4x (pc Z5x (vh hs 30 rfl rfl)<|pc Z6e (vh hs 35 rfl rfl)<|pn rfl))<|SSt Z01 5 rfl<|Sd (lo [] [] rfl fun S hs hr=>Zv (A:=rd Z6 true) rfl rfl vb)<|Sn<|rt ?_
  cases h;exact Z1f Tryz.results214 rfl (Zx rfl (i:=5) rfl Z01) (Z5 rfl)
def Zlb (a1:Wide)(b2:Wide):Option Wide:=
 some (⟨(a1.Hi&&& ~~~b2.Hi),(a1.Lo&&& ~~~b2.Lo)⟩:Wide)
theorem Y52:Q2 Tryz.prog 216 (rd Zn) (rd Zn) (rd Zn) Zlb:=fun a1 b2 r h=>I0 Tryz.func216 rfl Tryz.ntmps216 rfl fun w H Z=>by
 unfold Zlb at h
 refine SR<|Cv rfl (Zs 3 rfl rfl (vt rfl)) fun g3=>Cv rfl (Zs 4 rfl rfl (vt rfl)) fun g4=>Cv rfl (Zm 5 rfl rfl Z2c) fun g5=>Nl<|SR<|Zk lWide_0 Z4s rfl<|Ld Z1h 3 rfl<|Zk lWide_0 Z4s rfl<|Ld Z1h 4 rfl<|Ac (Zos rfl rfl (vt rfl) (vt rfl)) rfl<|Zk lWide_1 Z4r rfl<|Ld Z1h 3 rfl<|Zk lWide_1 Z4r rfl<|Ld Z1h 4 rfl<|Ac (Zos rfl rfl (vt rfl) (vt rfl)) rfl<|Ac (opb (⟨(a1.Hi&&& ~~~b2.Hi),(a1.Lo&&& ~~~b2.Lo)⟩:Wide) Z2c rfl Z4t (pc Z8y (vt rfl)<|pc Z8i (vt rfl)<|pn rfl)) rfl<|Zf Zw 5 rfl<|Nl<|rt ?_
 cases h;exact Zd Tryz.results216 rfl (Zx rfl (i:=5) rfl Zw)
def Zdx (x1:Za)(x2:Za):Nat→Za→Int→Option (Za×Bool)
 | 0,_,_=>none
 | m11+1,b9,x10=>(bif (decide (x10<24)) then (chk 24 x10).bind fun j12=>(chk 24 x10).bind fun j13=>(Zhb (Vector.get x1 j12) (Vector.get x2 j13)).bind fun x14=>(bif (!x14.2) then some ((Vector.replicate 24 zTern),false) else (chk 24 x10).bind fun j16=>(chk 24 x10).bind fun j17=>(chk 24 x10).bind fun j18=>(Zlb ((Vector.get x2 j17).Mask) ((Vector.get x1 j18).Mask)).bind fun x19=>(Zad (⟨(Vector.get x2 j16).Value,x19⟩:Tern)).bind fun x20=>(chk 24 x10).bind fun j21=>(Zdx x1 x2 m11) (Vector.set b9 j21.1 x20 j21.2) (IntKind.i64.wrap (x10+1))) else some (b9,true))
def Zk9 (x1:Za)(x2:Za):Option (Za×Bool):=
 Zdx x1 x2 (((24:Int) - 0).toNat+1) (Vector.replicate 24 zTern) 0
theorem Yer:Q2 Tryz.prog 129 (rd (Z3 24 Z4)) (rd (Z3 24 Z4)) (fun r=>Z12 (rd (Z3 24 Z4) r.1) (rd Z6 r.2)) Zk9:=fun x1 x2 r h=>I0 Tryz.func129 rfl Tryz.ntmps129 rfl fun w H Z=>by
 unfold Zk9 at h
 refine SR<|Cv rfl (Zs 3 rfl rfl (vt rfl)) fun g3=>Cv rfl (Zs 4 rfl rfl (vt rfl)) fun g4=>Cv rfl (Zm 5 rfl rfl Z1l) fun g5=>Ab rfl<|Nl<|SR<|Ac (Z1o (ps:=[]) (x:=(Vector.replicate 24 zTern)) rfl rfl rfl (by kernel_rfl) Z1l rfl) rfl<|Cv rfl (Zm 7 rfl rfl Z1l) fun g6=>Zf Z02 7 rfl<|Nl<|sq<|SR<|Ak rfl<|Nl<|bk<|LG (d:=[]) (ν:=Nat×Za×Int) (fun (m11,b9,x10)=>(True∧Zdx x1 x2 m11 b9 x10=some r,m11,[(2,Zb g3 (Lens.id (Z3 24 Z4))),(3,Zb g4 (Lens.id (Z3 24 Z4))),(4,Zb g5 (Lens.id (Z3 24 Z4))),(6,Zb g6 (Lens.id (Z3 24 Z4))),(7,rd (Z0 .i64) x10)],[(3,Zh g3 131 (Z3 24 Z4) x1),(4,Zh g4 123 (Z3 24 Z4) x2),(5,Zh g5 123 (Z3 24 Z4) (Vector.replicate 24 zTern)),(7,Zh g6 123 (Z3 24 Z4) b9)])) ((((24:Int) - 0).toNat+1),(Vector.replicate 24 zTern),0) ⟨trivial,h⟩ (FX rfl) ?_
 rintro ⟨m11,b9,x10⟩ ⟨hsf1,h⟩
 dsimp only at h ⊢
 cases m11 with
 | zero=>cases h
 | succ m11=>
  unfold Zdx at h
  refine sq<|SR<|Md rfl<|Ac (Zj rfl rfl (vt rfl) (vk rfl)) rfl<|Nl<|Cq rfl h (fun h=>?_) (fun h=>?_)
  ·refine sk<|sq<|bk<|sq<|sq ?_
   obtain ⟨j12,hj12,j13,hj13,x14,hx14,h⟩:=bs3 h
   refine AR Z00 (by kernel_rfl)<|Zt rfl<|Sd (lo [2,16] [] rfl fun S hs hr=>Z19 rfl rfl Z4k (vh hs 2 rfl rfl) (vh hs 16 rfl rfl) hj12)<|Zp Z01 3 rfl<|Zt rfl<|Sd (lo [3,19] [] rfl fun S hs hr=>Z19 rfl rfl Z2p (vh hs 3 rfl rfl) (vh hs 19 rfl rfl) hj13)<|Zp Z01 4 rfl<|SCl [18,21] (Y4s _ _ _ hx14) Y30 rfl<|Sd (lo [22] [] rfl fun S hs hr=>Zq (A:=Z12 (rd Z4 x14.1) (rd Z6 x14.2)) rfl rfl (vh hs 22 rfl rfl))<|Sd (lo [15] [] rfl fun S hs hr=>Z1e rfl rfl (vh hs 15 rfl rfl))<|Sd (lo [15] [] rfl fun S hs hr=>Z1a rfl rfl (vh hs 15 rfl rfl))<|Sd (Z1g (us:=[(8,Z2u 121 Z4 zTern)]) (ur:=[]) [] [] rfl fun S hs hr=>Z7x rfl rfl rfl Z1n)<|Sd (Z1g (us:=[(8,Z2u 121 Z4 x14.1)]) (ur:=[]) [8,23] [] rfl fun S hs hr=>Z89 rfl rfl Z01 ((hs 8 rfl).trans rfl) (vh hs 23 rfl rfl))<|SAs rfl<|Sn<|AW.unpackP 8 9 rfl rfl fun g15=>SR<|Md rfl<|Ac (Z0z rfl rfl (vt rfl)) rfl<|Nl<|Cq rfl h (fun h=>?_) (fun h=>?_)
   ·refine SR<|Ac (Z1o (ps:=[]) (x:=(Vector.replicate 24 zTern)) rfl rfl rfl (by kernel_rfl) Z1l rfl) rfl<|Zf Z02 5 rfl<|Ab rfl<|Nl<|rt ?_
    cases h;exact Z1f Tryz.results129 rfl (Zx rfl (i:=5) rfl Z02) (Z5 rfl)
   ·refine sk ?_
    obtain ⟨j16,hj16,j17,hj17,j18,hj18,x19,hx19,h⟩:=bs4 h
    obtain ⟨x20,hx20,j21,hj21,h⟩:=bs2 h
    refine AR Z00 (by kernel_rfl)<|Zt rfl<|Zt rfl<|Sd (lo [3,29] [] rfl fun S hs hr=>Z19 rfl rfl Z2p (vh hs 3 rfl rfl) (vh hs 29 rfl rfl) hj16)<|SFd lTern_0 Z32 rfl<|Zp Zw 4 rfl<|Zt rfl<|Sd (lo [3,33] [] rfl fun S hs hr=>Z19 rfl rfl Z2p (vh hs 3 rfl rfl) (vh hs 33 rfl rfl) hj17)<|SFd lTern_1 Z2g rfl<|Zp Zw 4 rfl<|Zt rfl<|Sd (lo [2,37] [] rfl fun S hs hr=>Z19 rfl rfl Z4k (vh hs 2 rfl rfl) (vh hs 37 rfl rfl) hj18)<|SFd lTern_1 Z2g rfl<|Zp Zw 3 rfl<|SCl [36,40] (Y52 _ _ _ hx19) Y7w rfl<|Sd (lo [32,41] [] rfl fun S hs hr=>opb (⟨(Vector.get x2 j16).Value,x19⟩:Tern) Z1n rfl Z4x (pc Z5x (vh hs 32 rfl rfl)<|pc Z6e (vh hs 41 rfl rfl)<|pn rfl))<|SCl [42] (Zmm _ _ hx20) Zlo rfl<|Sd (lo [6,28] [] rfl fun S hs hr=>Z19 rfl rfl Z2p (vh hs 6 rfl rfl) (vh hs 28 rfl rfl) hj21)<|SSt Z01 7 rfl<|Sn<|Rg<|Md rfl<|Ac (Z05 rfl rfl (vt rfl) (vk rfl)) rfl<|As rfl<|Nl ?_
    exact ⟨(_,_,_),Nat.lt_succ_self _,⟨trivial,h⟩,FX rfl⟩
  ·refine xt<|SR<|Ld Z02 7 rfl<|Zf Z02 5 rfl<|Ab rfl<|Nl<|rt ?_
   cases h;exact Z1f Tryz.results129 rfl (Zx rfl (i:=5) rfl Z02) (Z5 rfl)
def Zfh (a1:Za)(b2:Za):Nat→Za→Int→Option (Za×Bool)
 | 0,_,_=>none
 | m11+1,b9,x10=>(bif (decide (x10<24)) then (chk 24 x10).bind fun j12=>(chk 24 x10).bind fun j13=>(Zhb (Vector.get a1 j12) (Vector.get b2 j13)).bind fun x14=>(bif (!x14.2) then some ((Vector.replicate 24 zTern),false) else (chk 24 x10).bind fun j16=>(Zfh a1 b2 m11) (Vector.set b9 j16.1 x14.1 j16.2) (IntKind.i64.wrap (x10+1))) else some (b9,true))
def Ziv (a1:Za)(b2:Za):Option (Za×Bool):=
 Zfh a1 b2 (((24:Int) - 0).toNat+1) (Vector.replicate 24 zTern) 0
theorem Y8p:Q2 Tryz.prog 131 (rd (Z3 24 Z4)) (rd (Z3 24 Z4)) (fun r=>Z12 (rd (Z3 24 Z4) r.1) (rd Z6 r.2)) Ziv:=fun a1 b2 r h=>I0 Tryz.func131 rfl Tryz.ntmps131 rfl fun w H Z=>by
 unfold Ziv at h
 refine SR<|Cv rfl (Zs 3 rfl rfl (vt rfl)) fun g3=>Cv rfl (Zs 4 rfl rfl (vt rfl)) fun g4=>Cv rfl (Zm 5 rfl rfl Z1l) fun g5=>Ab rfl<|Nl<|SR<|Ac (Z1o (ps:=[]) (x:=(Vector.replicate 24 zTern)) rfl rfl rfl (by kernel_rfl) Z1l rfl) rfl<|Cv rfl (Zm 7 rfl rfl Z1l) fun g6=>Zf Z02 7 rfl<|Nl<|sq<|SR<|Ak rfl<|Nl<|bk<|LG (d:=[]) (ν:=Nat×Za×Int) (fun (m11,b9,x10)=>(True∧Zfh a1 b2 m11 b9 x10=some r,m11,[(2,Zb g3 (Lens.id (Z3 24 Z4))),(3,Zb g4 (Lens.id (Z3 24 Z4))),(4,Zb g5 (Lens.id (Z3 24 Z4))),(6,Zb g6 (Lens.id (Z3 24 Z4))),(7,rd (Z0 .i64) x10)],[(3,Zh g3 123 (Z3 24 Z4) a1),(4,Zh g4 123 (Z3 24 Z4) b2),(5,Zh g5 123 (Z3 24 Z4) (Vector.replicate 24 zTern)),(7,Zh g6 123 (Z3 24 Z4) b9)])) ((((24:Int) - 0).toNat+1),(Vector.replicate 24 zTern),0) ⟨trivial,h⟩ (FX rfl) ?_
 rintro ⟨m11,b9,x10⟩ ⟨hsf1,h⟩
 dsimp only at h ⊢
 cases m11 with
 | zero=>cases h
 | succ m11=>
  unfold Zfh at h
  refine sq<|SR<|Md rfl<|Ac (Zj rfl rfl (vt rfl) (vk rfl)) rfl<|Nl<|Cq rfl h (fun h=>?_) (fun h=>?_)
  ·refine sk<|sq<|bk<|sq ?_
   obtain ⟨j12,hj12,j13,hj13,x14,hx14,h⟩:=bs3 h
   refine AR Z00 (by kernel_rfl)<|Zt rfl<|Sd (lo [2,16] [] rfl fun S hs hr=>Z19 rfl rfl Z2p (vh hs 2 rfl rfl) (vh hs 16 rfl rfl) hj12)<|Zp Z01 3 rfl<|Zt rfl<|Sd (lo [3,19] [] rfl fun S hs hr=>Z19 rfl rfl Z2p (vh hs 3 rfl rfl) (vh hs 19 rfl rfl) hj13)<|Zp Z01 4 rfl<|SCl [18,21] (Y4s _ _ _ hx14) Y30 rfl<|Sd (lo [22] [] rfl fun S hs hr=>Zq (A:=Z12 (rd Z4 x14.1) (rd Z6 x14.2)) rfl rfl (vh hs 22 rfl rfl))<|Sd (lo [15] [] rfl fun S hs hr=>Z1e rfl rfl (vh hs 15 rfl rfl))<|Sd (lo [15] [] rfl fun S hs hr=>Z1a rfl rfl (vh hs 15 rfl rfl))<|Sd (Z1g (us:=[(8,Z2u 121 Z4 zTern)]) (ur:=[]) [] [] rfl fun S hs hr=>Z7x rfl rfl rfl Z1n)<|Sd (Z1g (us:=[(8,Z2u 121 Z4 x14.1)]) (ur:=[]) [8,23] [] rfl fun S hs hr=>Z89 rfl rfl Z01 ((hs 8 rfl).trans rfl) (vh hs 23 rfl rfl))<|SAs rfl<|Sn<|AW.unpackP 8 9 rfl rfl fun g15=>sq<|SR<|Md rfl<|Ac (Z0z rfl rfl (vt rfl)) rfl<|Nl<|Cq rfl h (fun h=>?_) (fun h=>?_)
   ·refine SR<|Ac (Z1o (ps:=[]) (x:=(Vector.replicate 24 zTern)) rfl rfl rfl (by kernel_rfl) Z1l rfl) rfl<|Zf Z02 5 rfl<|Ab rfl<|Nl<|rt ?_
    cases h;exact Z1f Tryz.results131 rfl (Zx rfl (i:=5) rfl Z02) (Z5 rfl)
   ·refine sk ?_
    obtain ⟨j16,hj16,h⟩:=Z7 h
    refine Rg<|Md rfl<|Ld Z01 9 rfl<|Ac (Z19 rfl rfl Z2p (vt rfl) (vt rfl) hj16) rfl<|Zf Z01 7 rfl<|Nl<|Rg<|Md rfl<|Ac (Z05 rfl rfl (vt rfl) (vk rfl)) rfl<|As rfl<|Nl ?_
    exact ⟨(_,_,_),Nat.lt_succ_self _,⟨trivial,h⟩,FX rfl⟩
  ·refine xt<|SR<|Ld Z02 7 rfl<|Zf Z02 5 rfl<|Ab rfl<|Nl<|rt ?_
   cases h;exact Z1f Tryz.results131 rfl (Zx rfl (i:=5) rfl Z02) (Z5 rfl)
def Zjl (l1:(List Inst))(k2:Int):Nat→Int→Option (Inst×Bool)
 | 0,_=>none
 | m6+1,i5=>(bif (decide (i5<(l1.length:Int))) then (lget l1 i5).bind fun x7=>(bif (decide (x7.Kind=k2)) then (lget l1 i5).bind fun x8=>some (x8,true) else (Zjl l1 k2 m6) (IntKind.i64.wrap (i5+1))) else some ((⟨0,0,Z0s,Z0s,[]⟩:Inst),false))
def Zab (l1:(List Inst))(k2:Int):Option (Inst×Bool):=
 Zjl l1 k2 ((((l1.length:Int):Int) - 0).toNat+1) 0
theorem Zlr:Q2 Tryz.prog 170 (rd (Z1 Z0b)) (rd (Z0 .i64)) (fun r=>Z12 (rd Z0b r.1) (rd Z6 r.2)) Zab:=fun l1 k2 r h=>I0 Tryz.func170 rfl Tryz.ntmps170 rfl fun w H Z=>by
 unfold Zab at h
 refine SR<|Cv rfl (Zm 5 rfl rfl Z3k) fun g3=>Ab rfl<|Nl<|sq<|SR<|Ak rfl<|Nl<|bk<|LG (d:=[]) (ν:=Nat×Int) (fun (m6,i5)=>(True∧Zjl l1 k2 m6 i5=some r,m6,[(0,rd (Z1 Z0b) l1),(1,rd (Z0 .i64) k2),(4,Zb g3 (Lens.id Z0b)),(6,rd (Z0 .i64) i5)],[(5,Zh g3 140 Z0b Ztw)])) (((((l1.length:Int):Int) - 0).toNat+1),0) ⟨trivial,h⟩ (FX rfl) ?_
 rintro ⟨m6,i5⟩ ⟨hsf1,h⟩
 dsimp only at h ⊢
 cases m6 with
 | zero=>cases h
 | succ m6=>
  unfold Zjl at h
  refine sq<|SR<|Md rfl<|Md rfl<|Ac (Z0i rfl rfl Z50 (vt rfl)) rfl<|Ac (Zj rfl rfl (vt rfl) (vt rfl)) rfl<|Nl<|Cq rfl h (fun h=>?_) (fun h=>?_)
  ·refine sk<|sq<|bk<|sq ?_
   obtain ⟨x7,hx7,h⟩:=Z7 h
   refine Rg<|Md rfl<|Md rfl<|Ac (Z0j rfl rfl Z50 (vt rfl) (vt rfl) hx7) rfl<|Fp Zfa Zjo rfl<|Lp1 Zo rfl<|Md rfl<|Ac (Z0m rfl rfl (vt rfl) (vt rfl)) rfl<|Nl<|Cq rfl h (fun h=>?_) (fun h=>?_)
   ·refine sq ?_
    obtain ⟨x8,hx8,h⟩:=Z7 h
    refine Rg<|Md rfl<|Md rfl<|Ac (Z0j rfl rfl Z50 (vt rfl) (vt rfl) hx8) rfl<|Lp1 Z2b rfl<|Zf Z2b 5 rfl<|Ab rfl<|Nl<|rt ?_
    cases h;exact Z1f Tryz.results170 rfl (Zx rfl (i:=5) rfl Z2b) (Z5 rfl)
   ·refine sk<|Rg<|Md rfl<|Ac (Z05 rfl rfl (vt rfl) (vk rfl)) rfl<|As rfl<|Nl ?_
    exact ⟨(_,_),Nat.lt_succ_self _,⟨trivial,h⟩,FX rfl⟩
  ·refine xt<|SR<|Ac (opb (⟨0,0,Z0s,Z0s,[]⟩:Inst) Z3k rfl Yau (pn rfl)) rfl<|Zf Z2b 5 rfl<|Ab rfl<|Nl<|rt ?_
   cases h;exact Z1f Tryz.results170 rfl (Zx rfl (i:=5) rfl Z2b) (Z5 rfl)
def Zef:Nat→Za→Int→Option Za
 | 0,_,_=>none
 | m8+1,b6,x7=>(bif (decide (x7<24)) then (chk 24 x7).bind fun j9=>(Zad (Vector.get b6 j9)).bind fun x10=>(chk 24 x7).bind fun j11=>(Zef m8) (Vector.set b6 j11.1 x10 j11.2) (IntKind.i64.wrap (x7+1)) else some b6)
def Zf8 (x1:Za):Option Za:=
 Zef (((24:Int) - 0).toNat+1) x1 0
theorem Zv8:Q1 Tryz.prog 298 (rd (Z3 24 Z4)) (rd (Z3 24 Z4)) Zf8:=fun x1 r h=>I0 Tryz.func298 rfl Tryz.ntmps298 rfl fun w H Z=>by
 unfold Zf8 at h
 refine SR<|Cv rfl (Zs 2 rfl rfl (vt rfl)) fun g2=>Cv rfl (Zm 3 rfl rfl Z3v) fun g3=>Nl<|sq<|SR<|Ak rfl<|Nl<|bk<|LG (d:=[]) (ν:=Nat×Za×Int) (fun (m8,b6,x7)=>(True∧Zef m8 b6 x7=some r,m8,[(1,Zb g2 (Lens.id (Z3 24 Z4))),(2,Zb g3 (Lens.id (Z3 24 Z4))),(3,rd (Z0 .i64) x7)],[(2,Zh g2 131 (Z3 24 Z4) b6),(3,Zh g3 131 (Z3 24 Z4) (Vector.replicate 24 zTern))])) ((((24:Int) - 0).toNat+1),x1,0) ⟨trivial,h⟩ (FX rfl) ?_
 rintro ⟨m8,b6,x7⟩ ⟨hsf1,h⟩
 dsimp only at h ⊢
 cases m8 with
 | zero=>cases h
 | succ m8=>
  unfold Zef at h
  refine sq<|SR<|Md rfl<|Ac (Zj rfl rfl (vt rfl) (vk rfl)) rfl<|Nl<|Cq rfl h (fun h=>?_) (fun h=>?_)
  ·refine sk<|sq<|bk ?_
   obtain ⟨j9,hj9,x10,hx10,j11,hj11,h⟩:=bs3 h
   refine Rg<|Md rfl<|Md rfl<|Ac (Z19 rfl rfl Z4k (vt rfl) (vt rfl) hj9) rfl<|Ld Z01 2 rfl<|Cl [11] (Zmm _ _ hx10) Zlo rfl<|Ac (Z19 rfl rfl Z4k (vt rfl) (vt rfl) hj11) rfl<|Zf Z01 2 rfl<|Nl<|Rg<|Md rfl<|Ac (Z05 rfl rfl (vt rfl) (vk rfl)) rfl<|As rfl<|Nl ?_
   exact ⟨(_,_,_),Nat.lt_succ_self _,⟨trivial,h⟩,FX rfl⟩
  ·refine xt<|SR<|Ld Z03 2 rfl<|Zf Z03 3 rfl<|Nl<|rt ?_
   cases h;exact Zd Tryz.results298 rfl (Zx rfl (i:=3) rfl Z03)
def Zev (x7:Za):Nat→Za→Int→Option Za
 | 0,_,_=>none
 | m12+1,b10,x11=>(bif (decide (x11<24)) then (chk 24 x11).bind fun j13=>(chk 24 x11).bind fun j14=>(Zlb ((Vector.get b10 j13).Value) ((Vector.get x7 j14).Mask)).bind fun x15=>(chk 24 x11).bind fun j16=>(Zbz x15 ((Vector.get x7 j16).Value)).bind fun x17=>(chk 24 x11).bind fun j18=>(chk 24 x11).bind fun j19=>(Zbz ((Vector.get b10 j18).Mask) ((Vector.get x7 j19).Mask)).bind fun x20=>(chk 24 x11).bind fun j21=>(Zev x7 m12) (Vector.set b10 j21.1 (⟨x17,x20⟩:Tern) j21.2) (IntKind.i64.wrap (x11+1)) else some b10)
def Zjb (a1:Za)(b2:Za):Option Za:=
 (Zf8 a1).bind fun x6=>(Zf8 b2).bind fun x7=>Zev x7 (((24:Int) - 0).toNat+1) x6 0
theorem Y1q:Q2 Tryz.prog 286 (rd (Z3 24 Z4)) (rd (Z3 24 Z4)) (rd (Z3 24 Z4)) Zjb:=fun a1 b2 r h=>I0 Tryz.func286 rfl Tryz.ntmps286 rfl fun w H Z=>by
 unfold Zjb at h
 refine SR<|Cv rfl (Zs 3 rfl rfl (vt rfl)) fun g3=>Cv rfl (Zs 4 rfl rfl (vt rfl)) fun g4=>Cv rfl (Zm 5 rfl rfl Z3v) fun g5=>Nl<|sq ?_
 obtain ⟨x6,hx6,x7,hx7,h⟩:=bs2 h
 refine AR Z00 (by kernel_rfl)<|Zp Z03 3 rfl<|SCl [6] (Zv8 _ _ hx6) Ztc rfl<|Zp Z03 4 rfl<|SCl [8] (Zv8 _ _ hx7) Ztc rfl<|SSt Z03 3 rfl<|SSt Z03 4 rfl<|Sn<|sq<|SR<|Ak rfl<|Nl<|bk<|LG (d:=[]) (ν:=Nat×Za×Int) (fun (m12,b10,x11)=>(True∧Zev x7 m12 b10 x11=some r,m12,[(2,Zb g3 (Lens.id (Z3 24 Z4))),(3,Zb g4 (Lens.id (Z3 24 Z4))),(4,Zb g5 (Lens.id (Z3 24 Z4))),(5,rd (Z0 .i64) x11)],[(3,Zh g3 131 (Z3 24 Z4) b10),(4,Zh g4 131 (Z3 24 Z4) x7),(5,Zh g5 131 (Z3 24 Z4) (Vector.replicate 24 zTern))])) ((((24:Int) - 0).toNat+1),x6,0) ⟨trivial,h⟩ (FX rfl) ?_
 rintro ⟨m12,b10,x11⟩ ⟨hsf1,h⟩
 dsimp only at h ⊢
 cases m12 with
 | zero=>cases h
 | succ m12=>
  unfold Zev at h
  refine sq<|SR<|Md rfl<|Ac (Zj rfl rfl (vt rfl) (vk rfl)) rfl<|Nl<|Cq rfl h (fun h=>?_) (fun h=>?_)
  ·refine sk<|sq<|bk ?_
   obtain ⟨j13,hj13,j14,hj14,x15,hx15,j16,hj16,h⟩:=bs4 h
   obtain ⟨x17,hx17,j18,hj18,j19,hj19,x20,hx20,h⟩:=bs4 h
   obtain ⟨j21,hj21,h⟩:=Z7 h
   refine AR Z00 (by kernel_rfl)<|Zt rfl<|Zt rfl<|Sd (lo [2,15] [] rfl fun S hs hr=>Z19 rfl rfl Z4k (vh hs 2 rfl rfl) (vh hs 15 rfl rfl) hj13)<|SFd lTern_0 Z32 rfl<|Zp Zw 3 rfl<|Zt rfl<|Sd (lo [3,19] [] rfl fun S hs hr=>Z19 rfl rfl Z4k (vh hs 3 rfl rfl) (vh hs 19 rfl rfl) hj14)<|SFd lTern_1 Z2g rfl<|Zp Zw 4 rfl<|SCl [18,22] (Y52 _ _ _ hx15) Y7w rfl<|Zt rfl<|Sd (lo [3,24] [] rfl fun S hs hr=>Z19 rfl rfl Z4k (vh hs 3 rfl rfl) (vh hs 24 rfl rfl) hj16)<|SFd lTern_0 Z32 rfl<|Zp Zw 4 rfl<|SCl [23,27] (Zk6 _ _ _ hx17) Zml rfl<|Zt rfl<|Sd (lo [2,29] [] rfl fun S hs hr=>Z19 rfl rfl Z4k (vh hs 2 rfl rfl) (vh hs 29 rfl rfl) hj18)<|SFd lTern_1 Z2g rfl<|Zp Zw 3 rfl<|Zt rfl<|Sd (lo [3,33] [] rfl fun S hs hr=>Z19 rfl rfl Z4k (vh hs 3 rfl rfl) (vh hs 33 rfl rfl) hj19)<|SFd lTern_1 Z2g rfl<|Zp Zw 4 rfl<|SCl [32,36] (Zk6 _ _ _ hx20) Zml rfl<|Sd (lo [28,37] [] rfl fun S hs hr=>opb (⟨x17,x20⟩:Tern) Z1n rfl Z4x (pc Z5x (vh hs 28 rfl rfl)<|pc Z6e (vh hs 37 rfl rfl)<|pn rfl))<|Sd (lo [2,14] [] rfl fun S hs hr=>Z19 rfl rfl Z4k (vh hs 2 rfl rfl) (vh hs 14 rfl rfl) hj21)<|SSt Z01 3 rfl<|Sn<|Rg<|Md rfl<|Ac (Z05 rfl rfl (vt rfl) (vk rfl)) rfl<|As rfl<|Nl ?_
   exact ⟨(_,_,_),Nat.lt_succ_self _,⟨trivial,h⟩,FX rfl⟩
  ·refine xt<|SR<|Ld Z03 3 rfl<|Zf Z03 5 rfl<|Nl<|rt ?_
   cases h;exact Zd Tryz.results286 rfl (Zx rfl (i:=5) rfl Z03)
def Zim (x1:Za)(b10:Za):Option Za:=
 (Zjb x1 b10).bind fun x11=>some x11
def Zaq (x1:Za)(x2:Int)(x3:Wide)(m4:Wide):Option Za:=
 (Zc9 x2).bind fun x12=>(bif x12 then (chk 24 x2).bind fun j13=>Zim x1 (Vector.set (Vector.replicate 24 zTern) j13.1 (⟨x3,m4⟩:Tern) j13.2) else Zim x1 (Vector.replicate 24 zTern))
theorem Zl4:Q4 Tryz.prog 207 (rd (Z3 24 Z4)) (rd (Z0 .i64)) (rd Zn) (rd Zn) (rd (Z3 24 Z4)) Zaq:=fun x1 x2 x3 m4 r h=>I0 Tryz.func207 rfl Tryz.ntmps207 rfl fun w H Z=>by
 unfold Zaq at h
 refine SR<|Cv rfl (Zs 5 rfl rfl (vt rfl)) fun g5=>Cv rfl (Zs 7 rfl rfl (vt rfl)) fun g6=>Cv rfl (Zs 8 rfl rfl (vt rfl)) fun g7=>Cv rfl (Zm 9 rfl rfl Z3v) fun g8=>Nl<|SR<|Ac (Z1o (ps:=[]) (x:=(Vector.replicate 24 zTern)) rfl rfl rfl (by kernel_rfl) Z3v rfl) rfl<|Cv rfl (Zm 10 rfl rfl Z3v) fun g9=>Zf Z03 10 rfl<|Nl ?_
 refine JN (d:=[]) (ν:=Za) (fun b10=>(Zim x1 b10=some r,[(4,Zb g5 (Lens.id (Z3 24 Z4))),(8,Zb g8 (Lens.id (Z3 24 Z4))),(9,Zb g9 (Lens.id (Z3 24 Z4)))],[(5,Zh g5 131 (Z3 24 Z4) x1),(9,Zh g8 131 (Z3 24 Z4) (Vector.replicate 24 zTern)),(10,Zh g9 131 (Z3 24 Z4) b10)])) ?hx1 ?hy1
 case hy1=>
  intro b10 h
  dsimp only at h ⊢
  unfold Zim at h
  refine sq ?_
  obtain ⟨x11,hx11,h⟩:=Z7 h
  refine Rg<|Ld Z03 5 rfl<|Ld Z03 10 rfl<|Cl [18,19] (Y1q _ _ _ hx11) Y7d rfl<|Zf Z03 9 rfl<|Nl<|rt ?_
  cases h;exact Zd Tryz.results207 rfl (Zx rfl (i:=9) rfl Z03)
 case hx1=>
  refine sq ?_
  obtain ⟨x12,hx12,h⟩:=Z7 h
  refine Rg<|Md rfl<|Cl [11] (Zwk _ _ hx12) Zxi rfl<|Nl<|Cq rfl h (fun h=>?_) (fun h=>?_)
  ·obtain ⟨j13,hj13,h⟩:=Z7 h
   refine Rg<|Md rfl<|Ld Zw 7 rfl<|Ld Zw 8 rfl<|Ac (opb (⟨x3,m4⟩:Tern) Z1n rfl Z4x (pc Z5x (vt rfl)<|pc Z6e (vt rfl)<|pn rfl)) rfl<|Ac (Z19 rfl rfl Z4k (vt rfl) (vt rfl) hj13) rfl<|Zf Z01 10 rfl<|Nl ?_
   exact ⟨_,h,FX rfl⟩
  ·refine sk ?_
   exact ⟨_,h,FX rfl⟩
end Go.Proofs.YtinplddjjalohaaGreatDoor.W
set_option maxHeartbeats 1000000
set_option maxRecDepth 4000
namespace Go.Proofs.YtinplddjjalohaaGreatDoor.W
open Go Go.Wb
theorem e65:Ent Tryz.prog 65:=Ent.mk Tryz.func65 rfl rfl
theorem Zkx:Ent Tryz.prog 207:=Ent.mk Tryz.func207 rfl rfl
theorem Ysv:Ent Tryz.prog 299:=Ent.mk Tryz.func299 rfl rfl
theorem Ysx:Ent Tryz.prog 282:=Ent.mk Tryz.func282 rfl rfl
theorem Zo5:Ent Tryz.prog 287:=Ent.mk Tryz.func287 rfl rfl
theorem Ymo:Ent Tryz.prog 288:=Ent.mk Tryz.func288 rfl rfl
theorem Yha:Ent Tryz.prog 128:=Ent.mk Tryz.func128 rfl rfl
theorem Yjc:Ent Tryz.prog 130:=Ent.mk Tryz.func130 rfl rfl
theorem Ypr:Ent Tryz.prog 129:=Ent.mk Tryz.func129 rfl rfl
theorem Y3c:Ent Tryz.prog 131:=Ent.mk Tryz.func131 rfl rfl
theorem Yqf:Ent Tryz.prog 132:=Ent.mk Tryz.func132 rfl rfl
theorem Znl:Ent Tryz.prog 170:=Ent.mk Tryz.func170 rfl rfl
theorem e63:Ent Tryz.prog 63:=Ent.mk Tryz.func63 rfl rfl
theorem Ycp:Ent Tryz.prog 208:=Ent.mk Tryz.func208 rfl rfl
theorem Y1r:Ent Tryz.prog 219:=Ent.mk Tryz.func219 rfl rfl
theorem Yvv:Ent Tryz.prog 205:=Ent.mk Tryz.func205 rfl rfl
def Znj (a1:Action):Option Za:=
 (bif (decide (a1.Kind=25)) then (Zgc a1.Oxm).bind fun x4=>(Zac).bind fun x6=>(Zaq x6 a1.Oxm.Field x4.Value x4.Mask).bind fun x7=>some x7 else (bif (decide (a1.Kind=17)) then (Zac).bind fun x8=>(Zb4 12).bind fun x9=>(Zb4 12).bind fun x10=>(Zaq x8 5 x9 x10).bind fun x11=>some x11 else (bif (decide (a1.Kind=18)) then (Zac).bind fun x12=>(Zdd 13).bind fun x13=>(Zaq x12 5 (⟨0,0⟩:Wide) x13).bind fun x14=>(Zdd 3).bind fun x16=>(Zaq x14 6 (⟨0,0⟩:Wide) x16).bind fun x17=>some x17 else (Zac).bind fun x18=>some x18)))
theorem Ys3:Q1 Tryz.prog 299 (rd Z9) (rd (Z3 24 Z4)) Znj:=fun a1 r h=>I0 Tryz.func299 rfl Tryz.ntmps299 rfl fun w H Z=>by
 unfold Znj at h
 refine SR<|Cv rfl (Zs 2 rfl rfl (vt rfl)) fun g2=>Cv rfl (Zm 3 rfl rfl Z3v) fun g3=>Nl<|sq<|SR<|Zk Z5t Z67 rfl<|Ld Zo 2 rfl<|Nl<|bk<|SR<|Ac (Z0m rfl rfl (vt rfl) (vk rfl)) rfl<|As rfl<|Nl<|Cq rfl h (fun h=>?_) (fun h=>?_)
 ·refine sq ?_
  obtain ⟨x4,hx4,h⟩:=Z7 h
  refine Rg<|Zk Z9s Zaa rfl<|Ld Z7p 2 rfl<|Cl [10] (Y8o _ _ hx4) Yac rfl<|Cv rfl (Zm 4 rfl rfl Z1n) fun g5=>Zf Z01 4 rfl<|Nl<|sq ?_
  obtain ⟨x6,hx6,x7,hx7,h⟩:=bs2 h
  refine AR Z00 (by kernel_rfl)<|SCl [] (Zoh _ hx6) e65 rfl<|SFd Z9s Zaa rfl<|SFd Z4w Z52 rfl<|Zp Zo 2 rfl<|SFd lTern_0 Z32 rfl<|Zp Zw 4 rfl<|SFd lTern_1 Z2g rfl<|Zp Zw 4 rfl<|SCl [12,15,17,19] (Zl4 _ _ _ _ _ hx7) Zkx rfl<|SSt Z03 3 rfl<|Sn<|rt ?_
  cases h;exact Zd Tryz.results299 rfl (Zx rfl (i:=3) rfl Z03)
 ·refine SR<|Ac (Z0m rfl rfl (vt rfl) (vk rfl)) rfl<|As rfl<|Nl<|Cq rfl h (fun h=>?_) (fun h=>?_)
  ·refine sq ?_
   obtain ⟨x8,hx8,x9,hx9,x10,hx10,x11,hx11,h⟩:=bs4 h
   refine Rg<|Cl [] (Zoh _ hx8) e65 rfl<|Ac (Z0g (xs:=[.const (Value.int IntKind.i64 12)]) (Zp3 _ _ hx9) Zrx rfl rfl ⟨vk rfl,trivial⟩) rfl<|Ac (Z0g (xs:=[.const (Value.int IntKind.i64 12)]) (Zp3 _ _ hx10) Zrx rfl rfl ⟨vk rfl,trivial⟩) rfl<|Ac (Z0g (xs:=[.tmp 23,.const (Value.int IntKind.i64 5),.tmp 24,.tmp 25]) (Zl4 _ _ _ _ _ hx11) Zkx rfl rfl ⟨vt rfl,vk rfl,vt rfl,vt rfl,trivial⟩) rfl<|Zf Z03 3 rfl<|Nl<|rt ?_
   cases h;exact Zd Tryz.results299 rfl (Zx rfl (i:=3) rfl Z03)
  ·refine SR<|Ac (Z0m rfl rfl (vt rfl) (vk rfl)) rfl<|As rfl<|Nl<|Cq rfl h (fun h=>?_) (fun h=>?_)
   ·refine sq ?_
    obtain ⟨x12,hx12,x13,hx13,x14,hx14,h⟩:=bs3 h
    refine Rg<|Cl [] (Zoh _ hx12) e65 rfl<|Ac (opb (⟨0,0⟩:Wide) Z2c rfl Z4t (pn rfl)) rfl<|Ac (Z0g (xs:=[.const (Value.int IntKind.i64 13)]) (Zwr _ _ hx13) Zxo rfl rfl ⟨vk rfl,trivial⟩) rfl<|Ac (Z0g (xs:=[.tmp 29,.const (Value.int IntKind.i64 5),.tmp 30,.tmp 31]) (Zl4 _ _ _ _ _ hx14) Zkx rfl rfl ⟨vt rfl,vk rfl,vt rfl,vt rfl,trivial⟩) rfl<|Cv rfl (Zm 5 rfl rfl Z3v) fun g15=>Zf Z03 5 rfl<|Nl<|sq ?_
    obtain ⟨x16,hx16,x17,hx17,h⟩:=bs2 h
    refine AR Z00 (by kernel_rfl)<|Zp Z03 5 rfl<|Sd (lo [] [] rfl fun S hs hr=>opb (⟨0,0⟩:Wide) Z2c rfl Z4t (pn rfl))<|Sd (lo [] [] rfl fun S hs hr=>Z0g (xs:=[.const (Value.int IntKind.i64 3)]) (Zwr _ _ hx16) Zxo rfl rfl ⟨vk rfl,trivial⟩)<|Sd (lo [33,34,35] [] rfl fun S hs hr=>Z0g (xs:=[.tmp 33,.const (Value.int IntKind.i64 6),.tmp 34,.tmp 35]) (Zl4 _ _ _ _ _ hx17) Zkx rfl rfl ⟨vt ((hs 33 rfl).trans rfl),vk rfl,vt ((hs 34 rfl).trans rfl),vt ((hs 35 rfl).trans rfl),trivial⟩)<|SSt Z03 3 rfl<|Sn<|rt ?_
    cases h;exact Zd Tryz.results299 rfl (Zx rfl (i:=3) rfl Z03)
   ·refine sk<|sq ?_
    obtain ⟨x18,hx18,h⟩:=Z7 h
    refine Rg<|Cl [] (Zoh _ hx18) e65 rfl<|Zf Z03 3 rfl<|Nl<|rt ?_
    cases h;exact Zd Tryz.results299 rfl (Zx rfl (i:=3) rfl Z03)
def Zji (l12:(List Atom))(go1:Za→(List Atom)→Int→Option ((List Atom)×Za))(b11:Za)(i14:Int)(b19:Atom):Option ((List Atom)×Za):=
 (Z0y l12 [b19]).bind fun l20=>go1 b11 l20 (IntKind.i64.wrap (i14+1))
def Z8m (a1:(List Action)):Nat→Za→(List Atom)→Int→Option ((List Atom)×Za)
 | 0,_,_,_=>none
 | m15+1,b11,l12,i14=>(bif (decide (i14<(a1.length:Int))) then (lget a1 i14).bind fun x16=>(bif (decide (x16.Kind=0)) then (lget a1 i14).bind fun x17=>(bif (decide (((⟨b11,false,x17.Port,0⟩:Atom).Port)=4294967293)) then (lget a1 i14).bind fun x22=>Zji l12 (Z8m a1 m15) b11 i14 {(⟨b11,false,x17.Port,0⟩:Atom) with Max:=x22.Max} else Zji l12 (Z8m a1 m15) b11 i14 (⟨b11,false,x17.Port,0⟩:Atom)) else (bif (decide (x16.Kind=22)) then (lget a1 i14).bind fun x23=>(Z0y l12 [(⟨b11,true,x23.Group,0⟩:Atom)]).bind fun l24=>(Z8m a1 m15) b11 l24 (IntKind.i64.wrap (i14+1)) else (lget a1 i14).bind fun x26=>(Znj x26).bind fun x27=>(Zjb b11 x27).bind fun x28=>(Z8m a1 m15) x28 l12 (IntKind.i64.wrap (i14+1)))) else some (l12,b11))
def Zfj (a1:(List Action))(x2:Za):Option ((List Atom)×Za):=
 (Zf8 x2).bind fun x5=>Z8m a1 ((((a1.length:Int):Int) - 0).toNat+1) x5 [] 0
theorem Y77:Q2 Tryz.prog 219 (rd (Z1 Z9)) (rd (Z3 24 Z4)) (fun r=>Z12 (rd (Z1 Z0r) r.1) (rd (Z3 24 Z4) r.2)) Zfj:=fun a1 x2 r h=>I0 Tryz.func219 rfl Tryz.ntmps219 rfl fun w H Z=>by
 unfold Zfj at h
 refine SR<|Cv rfl (Zs 4 rfl rfl (vt rfl)) fun g3=>Ac (Zv (A:=rd (Z1 Z0r) []) rfl rfl Z1j) rfl<|Cv rfl (Zm 6 rfl rfl Z3v) fun g4=>Nl<|sq ?_
 obtain ⟨x5,hx5,h⟩:=Z7 h
 refine Rg<|Ld Z03 4 rfl<|Cl [9] (Zv8 _ _ hx5) Ztc rfl<|Zf Z03 4 rfl<|Nl<|SR<|Cv rfl (Z5g 1001 (ps:=[]) (l:=[]) rfl rfl Z8p Z87 rfl rfl rfl rfl) fun v6=>Aw rfl<|Nl<|sq<|SR<|Ak rfl<|Nl<|bk<|LG (d:=[]) (ν:=Nat×Za×(List Atom)×Int×Value) (fun (m15,b11,l12,i14,v13)=>(True∧Z8m a1 m15 b11 l12 i14=some r,m15,[(0,rd (Z1 Z9) a1),(3,Zb g3 (Lens.id (Z3 24 Z4))),(5,Zb g4 (Lens.id (Z3 24 Z4))),(6,Zc v13),(7,rd (Z0 .i64) i14)],[(4,Zh g3 131 (Z3 24 Z4) b11),(6,Zh g4 131 (Z3 24 Z4) (Vector.replicate 24 zTern)),(1001,Zg v13 296 Z0r l12)])) (((((a1.length:Int):Int) - 0).toNat+1),x5,[],0,v6) ⟨trivial,h⟩ (FX rfl) ?_
 rintro ⟨m15,b11,l12,i14,v13⟩ ⟨hsf1,h⟩
 dsimp only at h ⊢
 cases m15 with
 | zero=>cases h
 | succ m15=>
  unfold Z8m at h
  refine sq<|SR<|Md rfl<|Md rfl<|Ac (Z0i rfl rfl Z0h (vt rfl)) rfl<|Ac (Zj rfl rfl (vt rfl) (vt rfl)) rfl<|Nl<|Cq rfl h (fun h=>?_) (fun h=>?_)
  ·refine sk<|sq<|bk<|sq ?_
   obtain ⟨x16,hx16,h⟩:=Z7 h
   refine Rg<|Md rfl<|Md rfl<|Ac (Z0j rfl rfl Z0h (vt rfl) (vt rfl) hx16) rfl<|Fp Z5t Z67 rfl<|Lp1 Zo rfl<|Nl<|bk<|SR<|Ac (Z0m rfl rfl (vt rfl) (vk rfl)) rfl<|As rfl<|Nl<|Cq rfl h (fun h=>?_) (fun h=>?_)
   ·refine sq ?_
    obtain ⟨x17,hx17,h⟩:=Z7 h
    refine AR Z00 (by kernel_rfl)<|Zp Z03 4 rfl<|Zt rfl<|Zt rfl<|Sd (lo [33,34] [] rfl fun S hs hr=>Z0j rfl rfl Z0h (vh hs 33 rfl rfl) (vh hs 34 rfl rfl) hx17)<|SFp Zgl Zju rfl<|SLp Zo rfl<|Sd (lo [32,37] [] rfl fun S hs hr=>opb (⟨b11,false,x17.Port,0⟩:Atom) Z87 rfl Zte (pc Zvi (vh hs 32 rfl rfl)<|pc Y9j (vh hs 37 rfl rfl)<|pn rfl))<|Sd (Z1g (us:=[(8,Z2u 296 Z0r Zyi)]) (ur:=[]) [] [] rfl fun S hs hr=>Z7x rfl rfl rfl Z87)<|Sd (Z1g (us:=[(8,Z2u 296 Z0r (⟨b11,false,x17.Port,0⟩:Atom))]) (ur:=[]) [8,38] [] rfl fun S hs hr=>Z89 rfl rfl Zop ((hs 8 rfl).trans rfl) (vh hs 38 rfl rfl))<|Sn<|AW.unpackP 8 9 rfl rfl fun g18=>?_
    refine JN (d:=[]) (ν:=Atom) (fun b19=>(Zji l12 (Z8m a1 m15) b11 i14 b19=some r,[(0,rd (Z1 Z9) a1),(3,Zb g3 (Lens.id (Z3 24 Z4))),(5,Zb g4 (Lens.id (Z3 24 Z4))),(6,Zc v13),(7,rd (Z0 .i64) i14),(8,Zb g18 (Lens.id Z0r))],[(4,Zh g3 131 (Z3 24 Z4) b11),(6,Zh g4 131 (Z3 24 Z4) (Vector.replicate 24 zTern)),(9,Zh g18 296 Z0r b19),(1001,Zg v13 296 Z0r l12)])) ?hx2 ?hy2
    case hy2=>
     intro b19 h
     dsimp only at h ⊢
     unfold Zji at h
     obtain ⟨l20,hl20,h⟩:=Z7 h
     refine Rg<|Mw rfl<|Ld Zop 9 rfl<|Ac (osl Z8p Z87 rfl (vt rfl)) rfl<|Cv rfl (Z2f 1001 hl20 rfl rfl Zap (vt rfl) rfl (vt rfl)) fun v21=>Aw rfl<|Nl<|Rg<|Md rfl<|Ac (Z05 rfl rfl (vt rfl) (vk rfl)) rfl<|As rfl<|Nl ?_
     exact ⟨(_,_,_,_,_),Nat.lt_succ_self _,⟨trivial,h⟩,FX rfl⟩
    case hx2=>
     refine SR<|Zk lAtom_2 Zwi rfl<|Ld Zo 9 rfl<|Ac (Z0m rfl rfl (vt rfl) (vk rfl)) rfl<|Nl<|Cq rfl h (fun h=>?_) (fun h=>?_)
     ·obtain ⟨x22,hx22,h⟩:=Z7 h
      refine Rg<|Md rfl<|Md rfl<|Ac (Z0j rfl rfl Z0h (vt rfl) (vt rfl) hx22) rfl<|Fp Zse Zw1 rfl<|Lp1 Zo rfl<|Zk Zzt Y4b rfl<|Zf Zo 9 rfl<|Nl ?_
      exact ⟨_,h,FX rfl⟩
     ·refine sk ?_
      exact ⟨_,h,FX rfl⟩
   ·refine SR<|Ac (Z0m rfl rfl (vt rfl) (vk rfl)) rfl<|As rfl<|Nl<|Cq rfl h (fun h=>?_) (fun h=>?_)
    ·obtain ⟨x23,hx23,l24,hl24,h⟩:=bs2 h
     refine AR Z00 (by kernel_rfl)<|SMw rfl<|Zp Z03 4 rfl<|Zt rfl<|Zt rfl<|Sd (lo [56,57] [] rfl fun S hs hr=>Z0j rfl rfl Z0h (vh hs 56 rfl rfl) (vh hs 57 rfl rfl) hx23)<|SFp Zs6 Zy6 rfl<|SLp Zo rfl<|Sd (lo [55,60] [] rfl fun S hs hr=>opb (⟨b11,true,x23.Group,0⟩:Atom) Z87 rfl Zte (pc Zvi (vh hs 55 rfl rfl)<|pc Ys9 vb<|pc Y9j (vh hs 60 rfl rfl)<|pn rfl))<|Sd (lo [61] [] rfl fun S hs hr=>osl Z8p Z87 rfl (vh hs 61 rfl rfl))<|Sd (Z1g (us:=[(63,Z25 296 Z0r l24)]) (ur:=[(1001,emp)]) [54,62] [1001] rfl fun S hs hr=>Z9l 1001 hl24 rfl rfl rfl Zap (vh hs 54 rfl rfl) ((hr 1001 rfl).trans rfl) (vh hs 62 rfl rfl))<|Sd (Z1g (us:=[(63,top),(6,Z25 296 Z0r l24)]) (ur:=[]) [63] [1002] rfl fun S hs hr=>Zj1 1002 rfl rfl rfl rfl ((hs 63 rfl).trans rfl) ((hr 1002 rfl).trans rfl))<|Sn<|AW.unpackR 6 1001 rfl rfl fun v25=>Rg<|Md rfl<|Ac (Z05 rfl rfl (vt rfl) (vk rfl)) rfl<|As rfl<|Nl ?_
     exact ⟨(_,_,_,_,_),Nat.lt_succ_self _,⟨trivial,h⟩,FX rfl⟩
    ·obtain ⟨x26,hx26,x27,hx27,x28,hx28,h⟩:=bs3 h
     refine AR Z00 (by kernel_rfl)<|Zp Z03 4 rfl<|Zt rfl<|Zt rfl<|Sd (lo [24,25] [] rfl fun S hs hr=>Z0j rfl rfl Z0h (vh hs 24 rfl rfl) (vh hs 25 rfl rfl) hx26)<|SLp Z11 rfl<|SCl [27] (Ys3 _ _ hx27) Ysv rfl<|SCl [23,28] (Y1q _ _ _ hx28) Y7d rfl<|SSt Z03 4 rfl<|Sn<|Rg<|Md rfl<|Ac (Z05 rfl rfl (vt rfl) (vk rfl)) rfl<|As rfl<|Nl ?_
     exact ⟨(_,_,_,_,_),Nat.lt_succ_self _,⟨trivial,h⟩,FX rfl⟩
  ·refine xt<|sq<|AR Z00 (by kernel_rfl)<|SMw rfl<|Zp Z03 4 rfl<|Sd (lo [64] [] rfl fun S hs hr=>Zv (A:=Zc v13) rfl rfl (vh hs 64 rfl rfl))<|SSt Z03 6 rfl<|Sn<|AW.freezes [4,6,64] 1001 rfl ⟨rfl,rfl,rfl,trivial⟩ rfl<|rt ?_
   cases h;exact Z1f Tryz.results219 rfl (Z5 rfl) (Zx rfl (i:=6) rfl Z03)
def Znh (a1:Action)(b2:Action):Option Bool:=
 some ((decide (a1.Kind=b2.Kind))&&((decide (a1.Kind≠25))||(decide (a1.Oxm.Field=b2.Oxm.Field))))
theorem Ysz:Q2 Tryz.prog 282 (rd Z9) (rd Z9) (rd Z6) Znh:=fun a1 b2 r h=>I0 Tryz.func282 rfl Tryz.ntmps282 rfl fun w H Z=>by
 unfold Znh at h
 refine SR<|Cv rfl (Zs 3 rfl rfl (vt rfl)) fun g3=>Cv rfl (Zs 4 rfl rfl (vt rfl)) fun g4=>Ab rfl<|Nl<|SR<|Zk Z5t Z67 rfl<|Ld Zo 3 rfl<|Zk Z5t Z67 rfl<|Ld Zo 4 rfl<|Ac (Z0m rfl rfl (vt rfl) (vt rfl)) rfl<|Md rfl<|Gd rfl (fun hq=>Z2v Z5t rfl rfl Z67 (vt rfl))<|Gd rfl (fun hq=>Z1z rfl rfl Zo (Zi rfl hq) (i:=3) rfl)<|Gd rfl (fun hq=>Z6f rfl rfl (Zi rfl hq) (vk rfl))<|AOps.consG (OpG.guardX rfl rfl rfl rfl rfl fun hq=>Zq (A:=rd Z6 (decide (a1.Kind≠25))) rfl rfl (Zi rfl hq))<|AOps.consG (OpG.guardN rfl rfl rfl rfl rfl fun hq=>Z2v Z9s rfl rfl Zaa (vt rfl))<|AOps.consG (OpG.guardN rfl rfl rfl rfl rfl fun hq=>Z2v Z4w rfl rfl Z52 (Zi rfl hq))<|AOps.consG (OpG.guardN rfl rfl rfl rfl rfl fun hq=>Z1z rfl rfl Zo (Zi rfl hq) (i:=3) rfl)<|AOps.consG (OpG.guardN rfl rfl rfl rfl rfl fun hq=>Z2v Z9s rfl rfl Zaa (vt rfl))<|AOps.consG (OpG.guardN rfl rfl rfl rfl rfl fun hq=>Z2v Z4w rfl rfl Z52 (Zi rfl hq))<|AOps.consG (OpG.guardN rfl rfl rfl rfl rfl fun hq=>Z1z rfl rfl Zo (Zi rfl hq) (i:=4) rfl)<|AOps.consG (OpG.guardN rfl rfl rfl rfl rfl fun hq=>Z0m rfl rfl (Zi rfl hq) (Zi rfl hq))<|Gd rfl (fun hq=>Z4d rfl rfl (vgx rfl hq) (vgw rfl hq))<|Ac (Z1m rfl rfl (vt rfl) (vt rfl)) rfl<|As rfl<|Nl<|rt ?_
 cases h;exact Zd Tryz.results282 rfl (Z5 rfl)
def Zep (l9:(List Action))(l2:(List Action))(i11:Int)(go1:(List Action)→Int→Option (List Action)):Nat→Int→Int→Option (List Action)
 | 0,_,_=>none
 | m17+1,a15,j16=>(bif (decide (j16<(l9.length:Int))) then (opt (decide (a15<0)) (lget l9 j16)).bind fun x18=>(opt (decide (a15<0)) (lget l2 i11)).bind fun x19=>(opt (decide (a15<0)) (Znh x18 x19)).bind fun x20=>(bif ((decide (a15<0))&&x20) then (Zep l9 l2 i11 go1 m17) j16 (IntKind.i64.wrap (j16+1)) else (Zep l9 l2 i11 go1 m17) a15 (IntKind.i64.wrap (j16+1))) else (bif (decide (a15<0)) then (lget l2 i11).bind fun x21=>(Z0y l9 [x21]).bind fun l22=>go1 l22 (IntKind.i64.wrap (i11+1)) else (lget l2 i11).bind fun x24=>(lget l9 a15).bind fun x25=>go1 (List.set l9 a15.toNat x24) (IntKind.i64.wrap (i11+1))))
def Zcw (l2:(List Action)):Nat→(List Action)→Int→Option (List Action)
 | 0,_,_=>none
 | m12+1,l9,i11=>(bif (decide (i11<(l2.length:Int))) then Zep l9 l2 i11 (Zcw l2 m12) ((((l9.length:Int):Int) - 0).toNat+1) (-1) 0 else some l9)
def Zkk (s1:(List Action))(l2:(List Action)):Option (List Action):=
 (Z0y [] s1).bind fun l4=>Zcw l2 ((((l2.length:Int):Int) - 0).toNat+1) l4 0
theorem Ymg:Q2 Tryz.prog 205 (rd (Z1 Z9)) (rd (Z1 Z9)) (rd (Z1 Z9)) Zkk:=fun s1 l2 r h=>I0 Tryz.func205 rfl Tryz.ntmps205 rfl fun w H Z=>by
 unfold Zkk at h
 refine SR<|Ac (Zv (A:=rd (Z1 Z9) []) rfl rfl Z1j) rfl<|Nl<|sq ?_
 obtain ⟨l4,hl4,h⟩:=Z7 h
 refine Rg<|Cv rfl (Z5g 1001 (ps:=[]) (l:=[]) rfl rfl Z0h Z71 rfl rfl rfl rfl) fun v3=>Md rfl<|Cv rfl (Z2f 1001 hl4 rfl rfl Z9m (vt rfl) rfl (vt rfl)) fun v5=>Aw rfl<|Nl<|sq<|SR<|Ak rfl<|Nl<|bk<|LG (d:=[]) (ν:=Nat×(List Action)×Int×Value) (fun (m12,l9,i11,v10)=>(True∧Zcw l2 m12 l9 i11=some r,m12,[(1,rd (Z1 Z9) l2),(5,Zc v10),(6,rd (Z0 .i64) i11)],[(1001,Zg v10 219 Z9 l9)])) (((((l2.length:Int):Int) - 0).toNat+1),l4,0,v5) ⟨trivial,h⟩ (FX rfl) ?_
 rintro ⟨m12,l9,i11,v10⟩ ⟨hsf1,h⟩
 dsimp only at h ⊢
 cases m12 with
 | zero=>cases h
 | succ m12=>
  unfold Zcw at h
  refine sq<|SR<|Md rfl<|Md rfl<|Ac (Z0i rfl rfl Z0h (vt rfl)) rfl<|Ac (Zj rfl rfl (vt rfl) (vt rfl)) rfl<|Nl<|Cq rfl h (fun h=>?_) (fun h=>?_)
  ·refine sk<|sq<|bk<|SR<|Ak rfl<|Nl<|sq<|SR<|Ak rfl<|Nl<|bk<|LG (d:=[]) (ν:=Nat×Int×Int) (fun (m17,a15,j16)=>(True∧Zep l9 l2 i11 (Zcw l2 m12) m17 a15 j16=some r,m17,[(1,rd (Z1 Z9) l2),(5,Zc v10),(6,rd (Z0 .i64) i11),(7,rd (Z0 .i64) a15),(8,rd (Z0 .i64) j16)],[(1001,Zg v10 219 Z9 l9)])) (((((l9.length:Int):Int) - 0).toNat+1),(-1),0) ⟨trivial,h⟩ (FX rfl) ?_
   rintro ⟨m17,a15,j16⟩ ⟨hsf2,h⟩
   dsimp only at h ⊢
   cases m17 with
   | zero=>cases h
   | succ m17=>
    unfold Zep at h
    refine sq<|SR<|Md rfl<|Mw rfl<|Ac (Z51 1001 rfl rfl Z0h (vt rfl) rfl) rfl<|Ac (Zj rfl rfl (vt rfl) (vt rfl)) rfl<|Nl<|Cq rfl h (fun h=>?_) (fun h=>?_)
    ·refine sk<|sq<|bk<|sq ?_
     obtain ⟨x18,hx18,x19,hx19,x20,hx20,h⟩:=bs3 h
     refine AR Z00 (by kernel_rfl)<|Zt rfl<|Sd (lo [24] [] rfl fun S hs hr=>Zj rfl rfl (vh hs 24 rfl rfl) (vk rfl))<|Zt rfl<|Sd (lg [5,26] [] rfl fun hq S hs hr=>Zq (A:=Zc v10) rfl rfl (vh hs 5 rfl rfl))<|Sd (lg [8,26] [] rfl fun hq S hs hr=>Zq (A:=rd (Z0 .i64) j16) rfl rfl (vh hs 8 rfl rfl))<|Sd (lg [27,28,26] [1001] rfl fun hq S hs hr=>Z23 1001 rfl rfl Z0h (Zi ((hs 27 rfl).trans rfl) hq) ((hr 1001 rfl).trans rfl) (Zi ((hs 28 rfl).trans rfl) hq) (Z2j hx18 hq))<|Sd (lg [29,26] [1001] rfl fun hq S hs hr=>Z1r 1001 rfl rfl Z11 (Zi ((hs 29 rfl).trans rfl) hq) ((hr 1001 rfl).trans rfl) (Z0n (Z2j hx18 hq)).2)<|Sd (lg [1,26] [] rfl fun hq S hs hr=>Zq (A:=rd (Z1 Z9) l2) rfl rfl (vh hs 1 rfl rfl))<|Sd (lg [6,26] [] rfl fun hq S hs hr=>Zq (A:=rd (Z0 .i64) i11) rfl rfl (vh hs 6 rfl rfl))<|Sd (lg [31,32,26] [] rfl fun hq S hs hr=>Z0j rfl rfl Z0h (Zi ((hs 31 rfl).trans rfl) hq) (Zi ((hs 32 rfl).trans rfl) hq) (Z2j hx19 hq))<|Sd (lg [33,26] [] rfl fun hq S hs hr=>Zav rfl rfl Z11 (Zi ((hs 33 rfl).trans rfl) hq))<|Sd (lg [30,34,26] [] rfl fun hq S hs hr=>Z0g (xs:=[.tmp 30,.tmp 34]) (Ysz _ _ _ (Z2j hx20 hq)) Ysx rfl rfl ⟨Zi ((hs 30 rfl).trans rfl) hq,Zi ((hs 34 rfl).trans rfl) hq,trivial⟩)<|Sd (lo [35,26] [] rfl fun S hs hr=>Z1m rfl rfl (vh hs 26 rfl rfl) (vh hs 35 rfl rfl))<|Sn<|Cq rfl h (fun h=>?_) (fun h=>?_)
     ·refine Rg<|Md rfl<|As rfl<|Nl<|Rg<|Md rfl<|Ac (Z05 rfl rfl (vt rfl) (vk rfl)) rfl<|As rfl<|Nl ?_
      exact ⟨(_,_,_),Nat.lt_succ_self _,⟨trivial,h⟩,FX rfl⟩
     ·refine sk<|Rg<|Md rfl<|Ac (Z05 rfl rfl (vt rfl) (vk rfl)) rfl<|As rfl<|Nl ?_
      exact ⟨(_,_,_),Nat.lt_succ_self _,⟨trivial,h⟩,FX rfl⟩
    ·refine xt<|SR<|Md rfl<|Ac (Zj rfl rfl (vt rfl) (vk rfl)) rfl<|Nl<|Cq rfl h (fun h=>?_) (fun h=>?_)
     ·obtain ⟨x21,hx21,l22,hl22,h⟩:=bs2 h
      refine Rg<|Mw rfl<|Md rfl<|Md rfl<|Ac (Z0j rfl rfl Z0h (vt rfl) (vt rfl) hx21) rfl<|Lp1 Z11 rfl<|Ac (osl Z0h Z71 rfl (vt rfl)) rfl<|Cv rfl (Z2f 1001 hl22 rfl rfl Z9m (vt rfl) rfl (vt rfl)) fun v23=>Aw rfl<|Nl<|Rg<|Md rfl<|Ac (Z05 rfl rfl (vt rfl) (vk rfl)) rfl<|As rfl<|Nl ?_
      exact ⟨(_,_,_,_),Nat.lt_succ_self _,⟨trivial,h⟩,FX rfl⟩
     ·obtain ⟨x24,hx24,x25,hx25,h⟩:=bs2 h
      refine Rg<|Mw rfl<|Md rfl<|Md rfl<|Md rfl<|Ac (Z0j rfl rfl Z0h (vt rfl) (vt rfl) hx24) rfl<|Lp1 Z11 rfl<|Ac (Z23 1001 rfl rfl Z0h (vt rfl) rfl (vt rfl) hx25) rfl<|Ac (Z30 1001 rfl rfl Z11 (vt rfl) rfl (Z0n hx25).2 (vt rfl)) rfl<|Nl<|Rg<|Md rfl<|Ac (Z05 rfl rfl (vt rfl) (vk rfl)) rfl<|As rfl<|Nl ?_
      exact ⟨(_,_,_,_),Nat.lt_succ_self _,⟨trivial,h⟩,FX rfl⟩
  ·refine xt<|SR<|Mw rfl<|Aw rfl<|Nl<|AW.freezes [4,5,54] 1001 rfl ⟨rfl,rfl,rfl,trivial⟩ rfl<|rt ?_
   cases h;exact Zd Tryz.results205 rfl (Z5 rfl)
def Zet (l1:(List Action))(k2:Int):Nat→(List Action)→Int→Option (List Action)
 | 0,_,_=>none
 | m10+1,l7,i9=>(bif (decide (i9<(l1.length:Int))) then (lget l1 i9).bind fun x11=>(bif (decide (x11.Kind=k2)) then (lget l1 i9).bind fun x12=>(Z0y l7 [x12]).bind fun l13=>(Zet l1 k2 m10) l13 (IntKind.i64.wrap (i9+1)) else (Zet l1 k2 m10) l7 (IntKind.i64.wrap (i9+1))) else some l7)
def Z9z (l1:(List Action))(k2:Int):Option (List Action):=
 Zet l1 k2 ((((l1.length:Int):Int) - 0).toNat+1) [] 0
theorem Y4z (l1:(List Action))(k2:Int)(r:(List Action))(h:Z9z l1 k2=some r):Con Tryz.prog 287 [rd (Z1 Z9) l1,rd (Z0 .i64) k2] emp (fun v=>Zc v) (fun v=>Zg v 219 Z9 r):=by
 refine Con.intro0 Tryz.func287 rfl Tryz.ntmps287 rfl fun w H Z=>?_
 unfold Z9z at h
 refine sq<|AW.newnil 1001 219 Z9<|Rg<|Ac (Zv rfl rfl vc) rfl<|Nl<|SR<|Cv rfl (Z5g 1002 (ps:=[]) (l:=[]) rfl rfl Z0h Z71 rfl rfl rfl rfl) fun v3=>Aw rfl<|Nl<|sq<|SR<|Ak rfl<|Nl<|bk<|LG (d:=[]) (ν:=Nat×(List Action)×Int×Value) (fun (m10,l7,i9,v8)=>(True∧Zet l1 k2 m10 l7 i9=some r,m10,[(0,rd (Z1 Z9) l1),(1,rd (Z0 .i64) k2),(5,Zc v8),(6,rd (Z0 .i64) i9)],[(1002,Zg v8 219 Z9 l7)])) (((((l1.length:Int):Int) - 0).toNat+1),[],0,v3) ⟨trivial,h⟩ (FX rfl) ?_
 rintro ⟨m10,l7,i9,v8⟩ ⟨hsf1,h⟩
 dsimp only at h ⊢
 cases m10 with
 | zero=>cases h
 | succ m10=>
  unfold Zet at h
  refine sq<|SR<|Md rfl<|Md rfl<|Ac (Z0i rfl rfl Z0h (vt rfl)) rfl<|Ac (Zj rfl rfl (vt rfl) (vt rfl)) rfl<|Nl<|Cq rfl h (fun h=>?_) (fun h=>?_)
  ·refine sk<|sq<|bk<|sq ?_
   obtain ⟨x11,hx11,h⟩:=Z7 h
   refine Rg<|Md rfl<|Md rfl<|Ac (Z0j rfl rfl Z0h (vt rfl) (vt rfl) hx11) rfl<|Fp Z5t Z67 rfl<|Lp1 Zo rfl<|Md rfl<|Ac (Z0m rfl rfl (vt rfl) (vt rfl)) rfl<|Nl<|Cq rfl h (fun h=>?_) (fun h=>?_)
   ·obtain ⟨x12,hx12,l13,hl13,h⟩:=bs2 h
    refine Rg<|Mw rfl<|Md rfl<|Md rfl<|Ac (Z0j rfl rfl Z0h (vt rfl) (vt rfl) hx12) rfl<|Lp1 Z11 rfl<|Ac (osl Z0h Z71 rfl (vt rfl)) rfl<|Cv rfl (Z2f 1002 hl13 rfl rfl Z9m (vt rfl) rfl (vt rfl)) fun v14=>Aw rfl<|Nl<|Rg<|Md rfl<|Ac (Z05 rfl rfl (vt rfl) (vk rfl)) rfl<|As rfl<|Nl ?_
    exact ⟨(_,_,_,_),Nat.lt_succ_self _,⟨trivial,h⟩,FX rfl⟩
   ·refine sk<|Rg<|Md rfl<|Ac (Z05 rfl rfl (vt rfl) (vk rfl)) rfl<|As rfl<|Nl ?_
    exact ⟨(_,_,_,_),Nat.lt_succ_self _,⟨trivial,h⟩,FX rfl⟩
  ·refine xt<|SR<|Mw rfl<|Aw rfl<|Nl<|rt ?_
   cases h;exact Z49 (i:=1002) Tryz.results287 rfl rfl rfl
theorem Zpp (l1:(List Action))(k2:Int)(r:(List Action))(h:Z9z l1 k2=some r):PCon Tryz.prog 287 [rd (Z1 Z9) l1,rd (Z0 .i64) k2] (rd (Z1 Z9) r):=PCon.of_row (Y4z l1 k2 r h)
def Ze9 (a11:Int)(l1:(List Action))(i8:Int)(go1:(List Action)→Int→Option (List Action)):Nat→(List Action)→Int→Option (List Action)
 | 0,_,_=>none
 | m21+1,l19,j20=>(bif (decide (j20>a11)) then (lget l19 (IntKind.i64.wrap (j20 - 1))).bind fun x22=>(lget l19 j20).bind fun x23=>(Ze9 a11 l1 i8 go1 m21) (List.set l19 j20.toNat x22) (IntKind.i64.wrap (j20 - 1)) else (lget l1 i8).bind fun x24=>(lget l19 a11).bind fun x25=>go1 (List.set l19 a11.toNat x24) (IntKind.i64.wrap (i8+1)))
def Zfi (l6:(List Action))(l1:(List Action))(i8:Int)(go1:(List Action)→Int→Option (List Action)):Nat→Int→Option (List Action)
 | 0,_=>none
 | m12+1,a11=>(opt (decide (a11>0)) (lget l6 (IntKind.i64.wrap (a11 - 1)))).bind fun x13=>(opt (decide (a11>0)) (lget l1 i8)).bind fun x14=>(bif ((decide (a11>0))&&(decide (x13.Oxm.Field>x14.Oxm.Field))) then (Zfi l6 l1 i8 go1 m12) (IntKind.i64.wrap (a11 - 1)) else (Z0y l6 [(⟨0,0,0,0,0,Z8q⟩:Action)]).bind fun l15=>Ze9 a11 l1 i8 go1 ((((IntKind.i64.wrap ((l15.length:Int) - 1)):Int) - a11).toNat+1) l15 (IntKind.i64.wrap ((l15.length:Int) - 1)))
def Zaj (l1:(List Action)):Nat→(List Action)→Int→Option (List Action)
 | 0,_,_=>none
 | m9+1,l6,i8=>(bif (decide (i8<(l1.length:Int))) then Zfi l6 l1 i8 (Zaj l1 m9) Z0v (l6.length:Int) else some l6)
def Znf (l1:(List Action)):Option (List Action):=
 Zaj l1 ((((l1.length:Int):Int) - 0).toNat+1) [] 0
theorem Yk9:Q1 Tryz.prog 288 (rd (Z1 Z9)) (rd (Z1 Z9)) Znf:=fun l1 r h=>I0 Tryz.func288 rfl Tryz.ntmps288 rfl fun w H Z=>by
 unfold Znf at h
 refine SR<|Ac (Zv (A:=rd (Z1 Z9) []) rfl rfl Z1j) rfl<|Nl<|SR<|Cv rfl (Z5g 1001 (ps:=[]) (l:=[]) rfl rfl Z0h Z71 rfl rfl rfl rfl) fun v2=>Aw rfl<|Nl<|sq<|SR<|Ak rfl<|Nl<|bk<|LG (d:=[]) (ν:=Nat×(List Action)×Int×Value) (fun (m9,l6,i8,v7)=>(True∧Zaj l1 m9 l6 i8=some r,m9,[(0,rd (Z1 Z9) l1),(3,Zc v7),(4,rd (Z0 .i64) i8)],[(1001,Zg v7 219 Z9 l6)])) (((((l1.length:Int):Int) - 0).toNat+1),[],0,v2) ⟨trivial,h⟩ (FX rfl) ?_
 rintro ⟨m9,l6,i8,v7⟩ ⟨hsf1,h⟩
 dsimp only at h ⊢
 cases m9 with
 | zero=>cases h
 | succ m9=>
  unfold Zaj at h
  refine sq<|SR<|Md rfl<|Md rfl<|Ac (Z0i rfl rfl Z0h (vt rfl)) rfl<|Ac (Zj rfl rfl (vt rfl) (vt rfl)) rfl<|Nl<|Cq rfl h (fun h=>?_) (fun h=>?_)
  ·refine sk<|sq<|bk<|SR<|Mw rfl<|Ac (Z51 1001 rfl rfl Z0h (vt rfl) rfl) rfl<|As rfl<|Nl<|sq<|bk<|LG (d:=[]) (ν:=Nat×Int) (fun (m12,a11)=>(True∧Zfi l6 l1 i8 (Zaj l1 m9) m12 a11=some r,m12,[(0,rd (Z1 Z9) l1),(3,Zc v7),(4,rd (Z0 .i64) i8),(5,rd (Z0 .i64) a11)],[(1001,Zg v7 219 Z9 l6)])) (Z0v,(l6.length:Int)) ⟨trivial,h⟩ (FX rfl) ?_
   rintro ⟨m12,a11⟩ ⟨hsf2,h⟩
   dsimp only at h ⊢
   cases m12 with
   | zero=>cases h
   | succ m12=>
    unfold Zfi at h
    refine sq<|sq ?_
    obtain ⟨x13,hx13,x14,hx14,h⟩:=bs2 h
    refine AR Z00 (by kernel_rfl)<|Zt rfl<|Sd (lo [16] [] rfl fun S hs hr=>Z2s rfl rfl (vh hs 16 rfl rfl) (vk rfl))<|Zt rfl<|Sd (lg [3,18] [] rfl fun hq S hs hr=>Zq (A:=Zc v7) rfl rfl (vh hs 3 rfl rfl))<|Sd (lg [5,18] [] rfl fun hq S hs hr=>Zq (A:=rd (Z0 .i64) a11) rfl rfl (vh hs 5 rfl rfl))<|Sd (lg [20,18] [] rfl fun hq S hs hr=>Z0t rfl rfl (Zi ((hs 20 rfl).trans rfl) hq) (vk rfl))<|Sd (lg [19,21,18] [1001] rfl fun hq S hs hr=>Z23 1001 rfl rfl Z0h (Zi ((hs 19 rfl).trans rfl) hq) ((hr 1001 rfl).trans rfl) (Zi ((hs 21 rfl).trans rfl) hq) (Z2j hx13 hq))<|Sd (lg [22,18] [] rfl fun hq S hs hr=>Z9d Z9s rfl rfl Zaa (Zi ((hs 22 rfl).trans rfl) hq))<|Sd (lg [23,18] [] rfl fun hq S hs hr=>Z9d Z4w rfl rfl Z52 (Zi ((hs 23 rfl).trans rfl) hq))<|Sd (lg [24,18] [1001] rfl fun hq S hs hr=>Z1r 1001 rfl rfl Zo (Zi ((hs 24 rfl).trans rfl) hq) ((hr 1001 rfl).trans rfl) (Z0n (Z2j hx13 hq)).2)<|Sd (lg [0,18] [] rfl fun hq S hs hr=>Zq (A:=rd (Z1 Z9) l1) rfl rfl (vh hs 0 rfl rfl))<|Sd (lg [4,18] [] rfl fun hq S hs hr=>Zq (A:=rd (Z0 .i64) i8) rfl rfl (vh hs 4 rfl rfl))<|Sd (lg [26,27,18] [] rfl fun hq S hs hr=>Z0j rfl rfl Z0h (Zi ((hs 26 rfl).trans rfl) hq) (Zi ((hs 27 rfl).trans rfl) hq) (Z2j hx14 hq))<|Sd (lg [28,18] [] rfl fun hq S hs hr=>Z7c Z9s rfl rfl Zaa (Zi ((hs 28 rfl).trans rfl) hq))<|Sd (lg [29,18] [] rfl fun hq S hs hr=>Z7c Z4w rfl rfl Z52 (Zi ((hs 29 rfl).trans rfl) hq))<|Sd (lg [30,18] [] rfl fun hq S hs hr=>Zav rfl rfl Zo (Zi ((hs 30 rfl).trans rfl) hq))<|Sd (lg [25,31,18] [] rfl fun hq S hs hr=>Z2s rfl rfl (Zi ((hs 25 rfl).trans rfl) hq) (Zi ((hs 31 rfl).trans rfl) hq))<|Sd (lo [32,18] [] rfl fun S hs hr=>Z1m rfl rfl (vh hs 18 rfl rfl) (vh hs 32 rfl rfl))<|Sn<|Cq rfl h (fun h=>?_) (fun h=>?_)
    ·refine sk<|bk<|Rg<|Md rfl<|Ac (Z0t rfl rfl (vt rfl) (vk rfl)) rfl<|As rfl<|Nl ?_
     exact ⟨(_,_),Nat.lt_succ_self _,⟨trivial,h⟩,FX rfl⟩
    ·refine xt<|sq ?_
     obtain ⟨l15,hl15,h⟩:=Z7 h
     refine Rg<|Mw rfl<|Ac (opb (⟨0,0,0,0,0,Z8q⟩:Action) Z71 rfl Yeg (pn rfl)) rfl<|Ac (osl Z0h Z71 rfl (vt rfl)) rfl<|Cv rfl (Z2f 1001 hl15 rfl rfl Z9m (vt rfl) rfl (vt rfl)) fun v16=>Aw rfl<|Nl<|sq<|SR<|Mw rfl<|Ac (Z51 1001 rfl rfl Z0h (vt rfl) rfl) rfl<|Ac (Z0t rfl rfl (vt rfl) (vk rfl)) rfl<|As rfl<|Nl<|bk<|LG (d:=[]) (ν:=Nat×(List Action)×Int) (fun (m21,l19,j20)=>(True∧Ze9 a11 l1 i8 (Zaj l1 m9) m21 l19 j20=some r,m21,[(0,rd (Z1 Z9) l1),(3,Zc v16),(4,rd (Z0 .i64) i8),(5,rd (Z0 .i64) a11),(6,rd (Z0 .i64) j20)],[(1001,Zg v16 219 Z9 l19)])) (((((IntKind.i64.wrap ((l15.length:Int) - 1)):Int) - a11).toNat+1),l15,(IntKind.i64.wrap ((l15.length:Int) - 1))) ⟨trivial,h⟩ (FX rfl) ?_
     rintro ⟨m21,l19,j20⟩ ⟨hsf3,h⟩
     dsimp only at h ⊢
     cases m21 with
     | zero=>cases h
     | succ m21=>
      unfold Ze9 at h
      refine sq<|SR<|Md rfl<|Md rfl<|Ac (Z2s rfl rfl (vt rfl) (vt rfl)) rfl<|Nl<|Cq rfl h (fun h=>?_) (fun h=>?_)
      ·refine sk<|sq<|bk ?_
       obtain ⟨x22,hx22,x23,hx23,h⟩:=bs2 h
       refine Rg<|Mw rfl<|Md rfl<|Mw rfl<|Md rfl<|Ac (Z0t rfl rfl (vt rfl) (vk rfl)) rfl<|Ac (Z23 1001 rfl rfl Z0h (vt rfl) rfl (vt rfl) hx22) rfl<|Ac (Z1r 1001 rfl rfl Z11 (vt rfl) rfl (Z0n hx22).2) rfl<|Ac (Z23 1001 rfl rfl Z0h (vt rfl) rfl (vt rfl) hx23) rfl<|Ac (Z30 1001 rfl rfl Z11 (vt rfl) rfl (Z0n hx23).2 (vt rfl)) rfl<|Nl<|Rg<|Md rfl<|Ac (Z0t rfl rfl (vt rfl) (vk rfl)) rfl<|As rfl<|Nl ?_
       exact ⟨(_,_,_),Nat.lt_succ_self _,⟨trivial,h⟩,FX rfl⟩
      ·refine xt ?_
       obtain ⟨x24,hx24,x25,hx25,h⟩:=bs2 h
       refine Rg<|Mw rfl<|Md rfl<|Md rfl<|Md rfl<|Ac (Z0j rfl rfl Z0h (vt rfl) (vt rfl) hx24) rfl<|Lp1 Z11 rfl<|Ac (Z23 1001 rfl rfl Z0h (vt rfl) rfl (vt rfl) hx25) rfl<|Ac (Z30 1001 rfl rfl Z11 (vt rfl) rfl (Z0n hx25).2 (vt rfl)) rfl<|Nl<|Rg<|Md rfl<|Ac (Z05 rfl rfl (vt rfl) (vk rfl)) rfl<|As rfl<|Nl ?_
       exact ⟨(_,_,_,_),Nat.lt_succ_self _,⟨trivial,h⟩,FX rfl⟩
  ·refine xt<|SR<|Mw rfl<|Aw rfl<|Nl<|AW.freezes [2,3,63] 1001 rfl ⟨rfl,rfl,rfl,trivial⟩ rfl<|rt ?_
   cases h;exact Zd Tryz.results288 rfl (Z5 rfl)
def Zj4 (s1:(List Action)):Option (List Action):=
 (Z9z s1 18).bind fun x2=>(Z9z s1 17).bind fun x4=>(Z0y x2 x4).bind fun l5=>(Z9z s1 25).bind fun x7=>(Znf x7).bind fun x8=>(Z0y l5 x8).bind fun l9=>(Z9z s1 22).bind fun x11=>(bif (decide ((x11.length:Int)>0)) then (Z0y l9 x11).bind fun l12=>some l12 else (Z9z s1 0).bind fun x14=>(Z0y l9 x14).bind fun l15=>some l15)
theorem Yn7:Q1 Tryz.prog 208 (rd (Z1 Z9)) (rd (Z1 Z9)) Zj4:=fun s1 r h=>I0 Tryz.func208 rfl Tryz.ntmps208 rfl fun w H Z=>by
 unfold Zj4 at h
 refine SR<|Ac (Zv (A:=rd (Z1 Z9) []) rfl rfl Z1j) rfl<|Nl<|sq ?_
 obtain ⟨x2,hx2,x4,hx4,l5,hl5,h⟩:=bs3 h
 refine Rg<|Md rfl<|Cv rfl (Z1c 1001 (xs:=[.tmp 5,.const (Value.int IntKind.i64 18)]) (Y4z _ _ _ hx2) Zo5 rfl rfl ⟨vt rfl,vk rfl,trivial⟩ rfl) fun v3=>Md rfl<|Ac (Z0g (xs:=[.tmp 7,.const (Value.int IntKind.i64 17)]) (Zpp _ _ _ hx4) Zo5 rfl rfl ⟨vt rfl,vk rfl,trivial⟩) rfl<|Cv rfl (Z2f 1001 hl5 rfl rfl Z9m (vt rfl) rfl (vt rfl)) fun v6=>Aw rfl<|Nl<|sq ?_
 obtain ⟨x7,hx7,x8,hx8,l9,hl9,h⟩:=bs3 h
 refine Rg<|Mw rfl<|Md rfl<|Ac (Z0g (xs:=[.tmp 11,.const (Value.int IntKind.i64 25)]) (Zpp _ _ _ hx7) Zo5 rfl rfl ⟨vt rfl,vk rfl,trivial⟩) rfl<|Cl [12] (Yk9 _ _ hx8) Ymo rfl<|Cv rfl (Z2f 1001 hl9 rfl rfl Z9m (vt rfl) rfl (vt rfl)) fun v10=>Aw rfl<|Nl<|sq<|sq ?_
 obtain ⟨x11,hx11,h⟩:=Z7 h
 refine Rg<|Md rfl<|Ac (Z0g (xs:=[.tmp 15,.const (Value.int IntKind.i64 22)]) (Zpp _ _ _ hx11) Zo5 rfl rfl ⟨vt rfl,vk rfl,trivial⟩) rfl<|As rfl<|Nl<|SR<|Md rfl<|Ac (Z0i rfl rfl Z0h (vt rfl)) rfl<|Ac (Z2s rfl rfl (vt rfl) (vk rfl)) rfl<|Nl<|Cq rfl h (fun h=>?_) (fun h=>?_)
 ·refine sq ?_
  obtain ⟨l12,hl12,h⟩:=Z7 h
  refine Rg<|Mw rfl<|Md rfl<|Cv rfl (Z2f 1001 hl12 rfl rfl Z9m (vt rfl) rfl (vt rfl)) fun v13=>Aw rfl<|Nl<|AW.freezes [2,22] 1001 rfl ⟨rfl,rfl,trivial⟩ rfl<|rt ?_
  cases h;exact Zd Tryz.results208 rfl (Z5 rfl)
 ·refine sk<|sq ?_
  obtain ⟨x14,hx14,l15,hl15,h⟩:=bs2 h
  refine Rg<|Mw rfl<|Md rfl<|Ac (Z0g (xs:=[.tmp 24,.const (Value.int IntKind.i64 0)]) (Zpp _ _ _ hx14) Zo5 rfl rfl ⟨vt rfl,vk rfl,trivial⟩) rfl<|Cv rfl (Z2f 1001 hl15 rfl rfl Z9m (vt rfl) rfl (vt rfl)) fun v16=>Aw rfl<|Nl<|AW.freezes [2,26] 1001 rfl ⟨rfl,rfl,trivial⟩ rfl<|rt ?_
  cases h;exact Zd Tryz.results208 rfl (Z5 rfl)
def Zd6 (x12:(List Int))(t2:Int)(s1:Switch)(x4:Za)(x3:Za)(R_r33_one:(Switch→Int→Flow→Za→Za→(List Atom)→(List Action)→Option (List Rule)))(a5:(List Atom))(s6:(List Action)):Nat→(List Rule)→Int→Option (List Rule)
 | 0,_,_=>none
 | m19+1,l16,i18=>(bif (decide (i18<(x12.length:Int))) then (chk 4 t2).bind fun j20=>(lget x12 i18).bind fun x21=>(lget (Vector.get s1.Tables j20) x21).bind fun x22=>(Zoa x22).bind fun x24=>(Zk9 x4 x24).bind fun x25=>(bif (!x25.2) then (Zd6 x12 t2 s1 x4 x3 R_r33_one a5 s6 m19) l16 (IntKind.i64.wrap (i18+1)) else (Ziv x25.1 x3).bind fun x27=>(bif x27.2 then (R_r33_one s1 t2 x22 x27.1 x4 a5 s6).bind fun x29=>(Z0y l16 x29).bind fun l30=>(Zd6 x12 t2 s1 x4 x3 R_r33_one a5 s6 m19) l30 (IntKind.i64.wrap (i18+1)) else (Zd6 x12 t2 s1 x4 x3 R_r33_one a5 s6 m19) l16 (IntKind.i64.wrap (i18+1)))) else (Z0y [] a5).bind fun l33=>(Z0y l16 [(⟨x3,l33⟩:Rule)]).bind fun l34=>some l34)
def Zko (R_r33_walk:(Switch→Int→Za→Za→(List Atom)→(List Action)→Option (List Rule)))(R_r33_one:(Switch→Int→Flow→Za→Za→(List Atom)→(List Action)→Option (List Rule)))(s1:Switch)(t2:Int)(x3:Za)(x4:Za)(a5:(List Atom))(s6:(List Action)):Option (List Rule):=
 (chk 4 t2).bind fun j11=>(Zmw (Vector.get s1.Tables j11)).bind fun x12=>Zd6 x12 t2 s1 x4 x3 R_r33_one a5 s6 ((((x12.length:Int):Int) - 0).toNat+1) [] 0
theorem Ylx (R_r33_walk:(Switch→Int→Za→Za→(List Atom)→(List Action)→Option (List Rule)))(hR_r33_walk:∀(s1:Switch) (t2:Int) (x3:Za) (x4:Za) (a5:(List Atom)) (s6:(List Action)) (r:(List Rule)),R_r33_walk s1 t2 x3 x4 a5 s6=some r→PCon Tryz.prog 63 [rd Z09 s1,rd (Z0 .i64) t2,rd (Z3 24 Z4) x3,rd (Z3 24 Z4) x4,rd (Z1 Z0r) a5,rd (Z1 Z9) s6] (rd (Z1 Z0a) r))(R_r33_one:(Switch→Int→Flow→Za→Za→(List Atom)→(List Action)→Option (List Rule)))(hR_r33_one:∀(s1:Switch) (t2:Int) (x3:Flow) (x4:Za) (x5:Za) (a6:(List Atom)) (s7:(List Action)) (r:(List Rule)),R_r33_one s1 t2 x3 x4 x5 a6 s7=some r→PCon Tryz.prog 132 [rd Z09 s1,rd (Z0 .i64) t2,rd Z08 x3,rd (Z3 24 Z4) x4,rd (Z3 24 Z4) x5,rd (Z1 Z0r) a6,rd (Z1 Z9) s7] (rd (Z1 Z0a) r))(s1:Switch)(t2:Int)(x3:Za)(x4:Za)(a5:(List Atom))(s6:(List Action))(r:(List Rule))(h:Zko R_r33_walk R_r33_one s1 t2 x3 x4 a5 s6=some r):PCon Tryz.prog 63 [rd Z09 s1,rd (Z0 .i64) t2,rd (Z3 24 Z4) x3,rd (Z3 24 Z4) x4,rd (Z1 Z0r) a5,rd (Z1 Z9) s6] (rd (Z1 Z0a) r):=by
 refine PCon.of (Con.intro0 Tryz.func63 rfl Tryz.ntmps63 rfl fun w H Z=>?_)
 unfold Zko at h
 refine SR<|Cv rfl (Zs 7 rfl rfl (vt rfl)) fun g7=>Cv rfl (Zs 9 rfl rfl (vt rfl)) fun g8=>Cv rfl (Zs 10 rfl rfl (vt rfl)) fun g9=>Ac (Zv (A:=rd (Z1 Z0a) []) rfl rfl Z1j) rfl<|Nl<|SR<|Cv rfl (Z5g 1001 (ps:=[]) (l:=[]) rfl rfl Z44 Z7k rfl rfl rfl rfl) fun v10=>Aw rfl<|Nl<|sq ?_
 obtain ⟨j11,hj11,x12,hx12,h⟩:=bs2 h
 refine Rg<|Md rfl<|Zk Z64 Z6o rfl<|Ac (Z19 rfl rfl Z6p (vt rfl) (vt rfl) hj11) rfl<|Ld Z46 7 rfl<|Cl [24] (Yih _ _ hx12) Yha rfl<|As rfl<|Nl<|sq<|SR<|Ak rfl<|Nl<|bk<|LG (d:=[]) (ν:=Nat×(List Rule)×Int×Value) (fun (m19,l16,i18,v17)=>(True∧Zd6 x12 t2 s1 x4 x3 R_r33_one a5 s6 m19 l16 i18=some r,m19,[(1,rd (Z0 .i64) t2),(4,rd (Z1 Z0r) a5),(5,rd (Z1 Z9) s6),(6,Zb g7 (Lens.id Z09)),(8,Zb g8 (Lens.id (Z3 24 Z4))),(9,Zb g9 (Lens.id (Z3 24 Z4))),(13,Zc v17),(14,rd (Z1 (Z0 .i64)) x12),(15,rd (Z0 .i64) i18)],[(7,Zh g7 26 Z09 s1),(9,Zh g8 123 (Z3 24 Z4) x3),(10,Zh g9 131 (Z3 24 Z4) x4),(1001,Zg v17 126 Z0a l16)])) (((((x12.length:Int):Int) - 0).toNat+1),[],0,v10) ⟨trivial,h⟩ (FX rfl) ?_
 rintro ⟨m19,l16,i18,v17⟩ ⟨hsf1,h⟩
 dsimp only at h ⊢
 cases m19 with
 | zero=>cases h
 | succ m19=>
  unfold Zd6 at h
  refine sq<|SR<|Md rfl<|Md rfl<|Ac (Z0i rfl rfl Z15 (vt rfl)) rfl<|Ac (Zj rfl rfl (vt rfl) (vt rfl)) rfl<|Nl<|Cq rfl h (fun h=>?_) (fun h=>?_)
  ·refine sk<|sq<|bk<|sq ?_
   obtain ⟨j20,hj20,x21,hx21,x22,hx22,h⟩:=bs3 h
   refine AR Z00 (by kernel_rfl)<|Zt rfl<|SFd Z64 Z6o rfl<|Sd (lo [33,32] [] rfl fun S hs hr=>Z19 rfl rfl Z6p (vh hs 33 rfl rfl) (vh hs 32 rfl rfl) hj20)<|Zp Z46 7 rfl<|Zt rfl<|Zt rfl<|Sd (lo [36,37] [] rfl fun S hs hr=>Z0j rfl rfl Z15 (vh hs 36 rfl rfl) (vh hs 37 rfl rfl) hx21)<|SLp Zo rfl<|Sd (lo [35,39] [] rfl fun S hs hr=>Z0j rfl rfl Z2q (vh hs 35 rfl rfl) (vh hs 39 rfl rfl) hx22)<|SLp Z2n rfl<|Sd (Z1g (us:=[(16,Z2u 48 Z08 Ztx)]) (ur:=[]) [] [] rfl fun S hs hr=>Z7x rfl rfl rfl Z7u)<|Sd (Z1g (us:=[(16,Z2u 48 Z08 x22)]) (ur:=[]) [16,41] [] rfl fun S hs hr=>Z89 rfl rfl Z2n ((hs 16 rfl).trans rfl) (vh hs 41 rfl rfl))<|Sn<|AW.unpackP 16 17 rfl rfl fun g23=>sq ?_
   obtain ⟨x24,hx24,x25,hx25,h⟩:=bs2 h
   refine AR Z00 (by kernel_rfl)<|Zp Z03 10 rfl<|Zp Z2n 17 rfl<|SCl [44] (Ydp _ _ hx24) Yjc rfl<|SCl [43,45] (Yer _ _ _ hx25) Ypr rfl<|Sd (lo [46] [] rfl fun S hs hr=>Zq (A:=Z12 (rd (Z3 24 Z4) x25.1) (rd Z6 x25.2)) rfl rfl (vh hs 46 rfl rfl))<|Sd (lo [42] [] rfl fun S hs hr=>Z1e rfl rfl (vh hs 42 rfl rfl))<|Sd (lo [42] [] rfl fun S hs hr=>Z1a rfl rfl (vh hs 42 rfl rfl))<|Sd (Z1g (us:=[(17,Z2u 123 (Z3 24 Z4) (Vector.replicate 24 zTern))]) (ur:=[]) [] [] rfl fun S hs hr=>Z7x rfl rfl rfl Z1l)<|Sd (Z1g (us:=[(17,Z2u 123 (Z3 24 Z4) x25.1)]) (ur:=[]) [17,47] [] rfl fun S hs hr=>Z89 rfl rfl Z02 ((hs 17 rfl).trans rfl) (vh hs 47 rfl rfl))<|SAs rfl<|Sn<|AW.unpackP 17 18 rfl rfl fun g26=>sq<|SR<|Md rfl<|Ac (Z0z rfl rfl (vt rfl)) rfl<|Nl<|Cq rfl h (fun h=>?_) (fun h=>?_)
   ·refine xt<|Rg<|Md rfl<|Ac (Z05 rfl rfl (vt rfl) (vk rfl)) rfl<|As rfl<|Nl ?_
    exact ⟨(_,_,_,_),Nat.lt_succ_self _,⟨trivial,h⟩,FX rfl⟩
   ·refine sk<|sq ?_
    obtain ⟨x27,hx27,h⟩:=Z7 h
    refine Rg<|Ld Z02 18 rfl<|Ld Z02 9 rfl<|Cl [52,53] (Y8p _ _ _ hx27) Y3c rfl<|Mt2 rfl<|Ac (Z1e rfl rfl (vt rfl)) rfl<|Ac (Z1a rfl rfl (vt rfl)) rfl<|Cv rfl (Zm 20 rfl rfl Z1l) fun g28=>Zf Z02 20 rfl<|As rfl<|Nl<|SR<|Md rfl<|Nl<|Cq rfl h (fun h=>?_) (fun h=>?_)
    ·obtain ⟨x29,hx29,l30,hl30,h⟩:=bs2 h
     refine Rg<|Mw rfl<|Ld Z28 7 rfl<|Md rfl<|Ld Z2n 17 rfl<|Ld Z02 20 rfl<|Ld Z03 10 rfl<|Md rfl<|Md rfl<|Cl [59,60,61,62,63,64,65] (hR_r33_one _ _ _ _ _ _ _ _ hx29) Yqf rfl<|Cv rfl (Z2f 1001 hl30 rfl rfl Zkv (vt rfl) rfl (vt rfl)) fun v31=>Aw rfl<|Nl<|Rg<|Md rfl<|Ac (Z05 rfl rfl (vt rfl) (vk rfl)) rfl<|As rfl<|Nl ?_
     exact ⟨(_,_,_,_),Nat.lt_succ_self _,⟨trivial,h⟩,FX rfl⟩
    ·refine sk<|Rg<|Md rfl<|Ac (Z05 rfl rfl (vt rfl) (vk rfl)) rfl<|As rfl<|Nl ?_
     exact ⟨(_,_,_,_),Nat.lt_succ_self _,⟨trivial,h⟩,FX rfl⟩
  ·refine xt<|sq ?_
   obtain ⟨l33,hl33,l34,hl34,h⟩:=bs2 h
   refine AR Z00 (by kernel_rfl)<|SMw rfl<|Zp Z02 9 rfl<|Sd (Z1g (us:=[(70,Z25 296 Z0r ([]:List Atom))]) (ur:=[]) [] [1003] rfl fun S hs hr=>Y79 (Z5g 1003 (ps:=[]) (l:=[]) rfl rfl Z8p Z87 rfl rfl rfl rfl) rfl ((hr 1003 rfl).trans rfl))<|Zt rfl<|Sd (Z1g (us:=[(70,top),(72,rd (Z1 Z0r) l33)]) (ur:=[]) [70,71] [1004] rfl fun S hs hr=>Yg6 1004 rfl hl33 rfl rfl rfl Zap ((hs 70 rfl).trans rfl) ((hr 1004 rfl).trans rfl) (fun v=>vtS rfl ((hs 71 rfl).trans rfl)))<|Sd (lo [69,72] [] rfl fun S hs hr=>opb (⟨x3,l33⟩:Rule) Z7k rfl Zx8 (pc Zvd (vh hs 69 rfl rfl)<|pc Zu4 (vh hs 72 rfl rfl)<|pn rfl))<|Sd (lo [73] [] rfl fun S hs hr=>osl Z44 Z7k rfl (vh hs 73 rfl rfl))<|Sd (Z1g (us:=[(75,Z25 126 Z0a l34)]) (ur:=[(1001,emp)]) [68,74] [1001] rfl fun S hs hr=>Z9l 1001 hl34 rfl rfl rfl Zkv (vh hs 68 rfl rfl) ((hr 1001 rfl).trans rfl) (vh hs 74 rfl rfl))<|Sd (Z1g (us:=[(75,top),(12,Z25 126 Z0a l34)]) (ur:=[]) [75] [1005] rfl fun S hs hr=>Zj1 1005 rfl rfl rfl rfl ((hs 75 rfl).trans rfl) ((hr 1005 rfl).trans rfl))<|Sn<|AW.unpackR 12 1001 rfl rfl fun v35=>AW.freezes [12] 1001 rfl ⟨rfl,trivial⟩ rfl<|rt ?_
   cases h;exact Zd Tryz.results63 rfl (Z5 rfl)
def Zg1 (x3:Flow)(t2:Int)(R_r33_walk:(Switch→Int→Za→Za→(List Atom)→(List Action)→Option (List Rule)))(s1:Switch)(x4:Za)(l15:(List Atom))(s19:(List Action))(b20:Za):Option (List Rule):=
 (Zab x3.Insts 1).bind fun x21=>(bif ((x21.2&&(decide (x21.1.Table>t2)))&&(decide (x21.1.Table<4))) then (R_r33_walk s1 x21.1.Table x4 b20 l15 s19).bind fun x23=>some x23 else (Zj4 s19).bind fun x24=>(Zfj x24 b20).bind fun x25=>(Z0y l15 x25.1).bind fun l27=>some [(⟨x4,l27⟩:Rule)])
def Zht (x3:Flow)(b17:Za)(t2:Int)(R_r33_walk:(Switch→Int→Za→Za→(List Atom)→(List Action)→Option (List Rule)))(s1:Switch)(x4:Za)(l15:(List Atom))(s19:(List Action)):Option (List Rule):=
 (Zab x3.Insts 2).bind fun x28=>(bif x28.2 then (Zaq b17 1 x28.1.Value x28.1.Mask).bind fun x30=>Zg1 x3 t2 R_r33_walk s1 x4 l15 s19 x30 else Zg1 x3 t2 R_r33_walk s1 x4 l15 s19 b17)
def Zfx (x3:Flow)(b17:Za)(t2:Int)(R_r33_walk:(Switch→Int→Za→Za→(List Atom)→(List Action)→Option (List Rule)))(s1:Switch)(x4:Za)(l15:(List Atom))(s18:(List Action)):Option (List Rule):=
 (Zab x3.Insts 3).bind fun x31=>(bif x31.2 then (Zkk s18 x31.1.Acts).bind fun x33=>Zht x3 b17 t2 R_r33_walk s1 x4 l15 x33 else Zht x3 b17 t2 R_r33_walk s1 x4 l15 s18)
def Zgs (x3:Flow)(t2:Int)(R_r33_walk:(Switch→Int→Za→Za→(List Atom)→(List Action)→Option (List Rule)))(s1:Switch)(x4:Za)(s7:(List Action))(l15:(List Atom))(b17:Za):Option (List Rule):=
 (Zab x3.Insts 5).bind fun x34=>(bif x34.2 then Zfx x3 b17 t2 R_r33_walk s1 x4 l15 [] else Zfx x3 b17 t2 R_r33_walk s1 x4 l15 s7)
def Zhf (R_r33_walk:(Switch→Int→Za→Za→(List Atom)→(List Action)→Option (List Rule)))(R_r33_one:(Switch→Int→Flow→Za→Za→(List Atom)→(List Action)→Option (List Rule)))(s1:Switch)(t2:Int)(x3:Flow)(x4:Za)(x5:Za)(a6:(List Atom))(s7:(List Action)):Option (List Rule):=
 (Z0y [] a6).bind fun l13=>(Zab x3.Insts 4).bind fun x36=>(bif x36.2 then (Zfj x36.1.Acts x5).bind fun x38=>(Z0y l13 x38.1).bind fun l40=>Zgs x3 t2 R_r33_walk s1 x4 s7 l40 x38.2 else Zgs x3 t2 R_r33_walk s1 x4 s7 l13 x5)
theorem Yn4 (R_r33_walk:(Switch→Int→Za→Za→(List Atom)→(List Action)→Option (List Rule)))(hR_r33_walk:∀(s1:Switch) (t2:Int) (x3:Za) (x4:Za) (a5:(List Atom)) (s6:(List Action)) (r:(List Rule)),R_r33_walk s1 t2 x3 x4 a5 s6=some r→PCon Tryz.prog 63 [rd Z09 s1,rd (Z0 .i64) t2,rd (Z3 24 Z4) x3,rd (Z3 24 Z4) x4,rd (Z1 Z0r) a5,rd (Z1 Z9) s6] (rd (Z1 Z0a) r))(R_r33_one:(Switch→Int→Flow→Za→Za→(List Atom)→(List Action)→Option (List Rule)))(hR_r33_one:∀(s1:Switch) (t2:Int) (x3:Flow) (x4:Za) (x5:Za) (a6:(List Atom)) (s7:(List Action)) (r:(List Rule)),R_r33_one s1 t2 x3 x4 x5 a6 s7=some r→PCon Tryz.prog 132 [rd Z09 s1,rd (Z0 .i64) t2,rd Z08 x3,rd (Z3 24 Z4) x4,rd (Z3 24 Z4) x5,rd (Z1 Z0r) a6,rd (Z1 Z9) s7] (rd (Z1 Z0a) r))(s1:Switch)(t2:Int)(x3:Flow)(x4:Za)(x5:Za)(a6:(List Atom))(s7:(List Action))(r:(List Rule))(h:Zhf R_r33_walk R_r33_one s1 t2 x3 x4 x5 a6 s7=some r):PCon Tryz.prog 132 [rd Z09 s1,rd (Z0 .i64) t2,rd Z08 x3,rd (Z3 24 Z4) x4,rd (Z3 24 Z4) x5,rd (Z1 Z0r) a6,rd (Z1 Z9) s7] (rd (Z1 Z0a) r):=by
 refine PCon.of (Con.intro0 Tryz.func132 rfl Tryz.ntmps132 rfl fun w H Z=>?_)
 unfold Zhf at h
 refine SR<|Cv rfl (Zs 8 rfl rfl (vt rfl)) fun g8=>Cv rfl (Zs 10 rfl rfl (vt rfl)) fun g9=>Cv rfl (Zs 11 rfl rfl (vt rfl)) fun g10=>Cv rfl (Zs 12 rfl rfl (vt rfl)) fun g11=>Ac (Zv (A:=rd (Z1 Z0a) []) rfl rfl Z1j) rfl<|Nl<|sq ?_
 obtain ⟨l13,hl13,h⟩:=Z7 h
 refine Rg<|Cv rfl (Z5g 1001 (ps:=[]) (l:=[]) rfl rfl Z8p Z87 rfl rfl rfl rfl) fun v12=>Md rfl<|Cv rfl (Z2f 1001 hl13 rfl rfl Zap (vt rfl) rfl (vt rfl)) fun v14=>Aw rfl<|Nl ?_
 refine JN (d:=[]) (ν:=(List Atom)×Za×Value) (fun (l15,b17,v16)=>(Zgs x3 t2 R_r33_walk s1 x4 s7 l15 b17=some r,[(1,rd (Z0 .i64) t2),(5,Zc v16),(6,rd (Z1 Z9) s7),(7,Zb g8 (Lens.id Z09)),(9,Zb g9 (Lens.id Z08)),(10,Zb g10 (Lens.id (Z3 24 Z4))),(11,Zb g11 (Lens.id (Z3 24 Z4)))],[(8,Zh g8 26 Z09 s1),(10,Zh g9 48 Z08 x3),(11,Zh g10 123 (Z3 24 Z4) x4),(12,Zh g11 131 (Z3 24 Z4) b17),(1001,Zg v16 296 Z0r l15)])) ?hx1 ?hy1
 case hy1=>
  rintro ⟨l15,b17,v16⟩ h
  dsimp only at h ⊢
  unfold Zgs at h
  refine JN (d:=[]) (ν:=(List Action)) (fun s18=>(Zfx x3 b17 t2 R_r33_walk s1 x4 l15 s18=some r,[(1,rd (Z0 .i64) t2),(5,Zc v16),(6,rd (Z1 Z9) s18),(7,Zb g8 (Lens.id Z09)),(9,Zb g9 (Lens.id Z08)),(10,Zb g10 (Lens.id (Z3 24 Z4))),(11,Zb g11 (Lens.id (Z3 24 Z4)))],[(8,Zh g8 26 Z09 s1),(10,Zh g9 48 Z08 x3),(11,Zh g10 123 (Z3 24 Z4) x4),(12,Zh g11 131 (Z3 24 Z4) b17),(1001,Zg v16 296 Z0r l15)])) ?hx2 ?hy2
  case hy2=>
   intro s18 h
   dsimp only at h ⊢
   unfold Zfx at h
   refine JN (d:=[]) (ν:=(List Action)) (fun s19=>(Zht x3 b17 t2 R_r33_walk s1 x4 l15 s19=some r,[(1,rd (Z0 .i64) t2),(5,Zc v16),(6,rd (Z1 Z9) s19),(7,Zb g8 (Lens.id Z09)),(9,Zb g9 (Lens.id Z08)),(10,Zb g10 (Lens.id (Z3 24 Z4))),(11,Zb g11 (Lens.id (Z3 24 Z4)))],[(8,Zh g8 26 Z09 s1),(10,Zh g9 48 Z08 x3),(11,Zh g10 123 (Z3 24 Z4) x4),(12,Zh g11 131 (Z3 24 Z4) b17),(1001,Zg v16 296 Z0r l15)])) ?hx3 ?hy3
   case hy3=>
    intro s19 h
    dsimp only at h ⊢
    unfold Zht at h
    refine JN (d:=[]) (ν:=Za) (fun b20=>(Zg1 x3 t2 R_r33_walk s1 x4 l15 s19 b20=some r,[(1,rd (Z0 .i64) t2),(5,Zc v16),(6,rd (Z1 Z9) s19),(7,Zb g8 (Lens.id Z09)),(9,Zb g9 (Lens.id Z08)),(10,Zb g10 (Lens.id (Z3 24 Z4))),(11,Zb g11 (Lens.id (Z3 24 Z4)))],[(8,Zh g8 26 Z09 s1),(10,Zh g9 48 Z08 x3),(11,Zh g10 123 (Z3 24 Z4) x4),(12,Zh g11 131 (Z3 24 Z4) b20),(1001,Zg v16 296 Z0r l15)])) ?hx4 ?hy4
    case hy4=>
     intro b20 h
     dsimp only at h ⊢
     unfold Zg1 at h
     refine sq ?_
     obtain ⟨x21,hx21,h⟩:=Z7 h
     refine Rg<|Zk lFlow_6 Z8v rfl<|Ld Z69 10 rfl<|Ac (Z0g (xs:=[.tmp 83,.const (Value.int IntKind.i64 1)]) (Zlr _ _ _ hx21) Znl rfl rfl ⟨vt rfl,vk rfl,trivial⟩) rfl<|Mt2 rfl<|Ac (Z1e rfl rfl (vt rfl)) rfl<|Ac (Z1a rfl rfl (vt rfl)) rfl<|Cv rfl (Zm 26 rfl rfl Z3k) fun g22=>Zf Z2b 26 rfl<|As rfl<|Nl<|sq<|SR<|Md rfl<|Md rfl<|Gd rfl (fun hq=>Z2v Z84 rfl rfl Z8s (vt rfl))<|Gd rfl (fun hq=>Z1z rfl rfl Zo (Zi rfl hq) (i:=26) rfl)<|Gd rfl (fun hq=>Zq (A:=rd (Z0 .i64) t2) rfl rfl (vt rfl))<|Gd rfl (fun hq=>Z2s rfl rfl (Zi rfl hq) (Zi rfl hq))<|Ac (Z1m rfl rfl (vt rfl) (vt rfl)) rfl<|Md rfl<|Gd rfl (fun hq=>Z2v Z84 rfl rfl Z8s (vt rfl))<|Gd rfl (fun hq=>Z1z rfl rfl Zo (Zi rfl hq) (i:=26) rfl)<|Gd rfl (fun hq=>Zj rfl rfl (Zi rfl hq) (vk rfl))<|Ac (Z1m rfl rfl (vt rfl) (vt rfl)) rfl<|Nl<|Cq rfl h (fun h=>?_) (fun h=>?_)
     ·refine sq<|AW.freezes [5] 1001 rfl ⟨rfl,trivial⟩ rfl ?_
      obtain ⟨x23,hx23,h⟩:=Z7 h
      refine Rg<|Ld Z28 8 rfl<|Zk Z84 Z8s rfl<|Ld Zo 26 rfl<|Ld Z02 11 rfl<|Ld Z03 12 rfl<|Md rfl<|Md rfl<|Cl [99,101,102,103,104,105] (hR_r33_walk _ _ _ _ _ _ _ hx23) e63 rfl<|As rfl<|Nl<|rt ?_
      cases h;exact Zd Tryz.results132 rfl (Z5 rfl)
     ·refine sk<|sq ?_
      obtain ⟨x24,hx24,x25,hx25,h⟩:=bs2 h
      refine AR Z00 (by kernel_rfl)<|Zt rfl<|SCl [108] (Yn7 _ _ hx24) Ycp rfl<|Zp Z03 12 rfl<|SCl [109,110] (Y77 _ _ _ hx25) Y1r rfl<|Sd (lo [111] [] rfl fun S hs hr=>Zq (A:=Z12 (rd (Z1 Z0r) x25.1) (rd (Z3 24 Z4) x25.2)) rfl rfl (vh hs 111 rfl rfl))<|Sd (lo [107] [] rfl fun S hs hr=>Z1e rfl rfl (vh hs 107 rfl rfl))<|Sd (lo [107] [] rfl fun S hs hr=>Z1a rfl rfl (vh hs 107 rfl rfl))<|Sd (Z1g (us:=[(28,Z2u 131 (Z3 24 Z4) (Vector.replicate 24 zTern))]) (ur:=[]) [] [] rfl fun S hs hr=>Z7x rfl rfl rfl Z3v)<|SAs rfl<|Sd (Z1g (us:=[(28,Z2u 131 (Z3 24 Z4) x25.2)]) (ur:=[]) [28,113] [] rfl fun S hs hr=>Z89 rfl rfl Z03 ((hs 28 rfl).trans rfl) (vh hs 113 rfl rfl))<|Sn<|AW.unpackP 28 29 rfl rfl fun g26=>sq ?_
      obtain ⟨l27,hl27,h⟩:=Z7 h
      refine AR Z00 (by kernel_rfl)<|Zp Z02 11 rfl<|SMw rfl<|Zt rfl<|Sd (Z1g (us:=[(117,rd (Z1 Z0r) l27)]) (ur:=[(1001,emp)]) [115,116] [1001] rfl fun S hs hr=>Yvq 1001 rfl hl27 rfl rfl rfl Zap (vh hs 115 rfl rfl) ((hr 1001 rfl).trans rfl) (vh hs 116 rfl rfl))<|Sd (lo [114,117] [] rfl fun S hs hr=>opb (⟨x4,l27⟩:Rule) Z7k rfl Zx8 (pc Zvd (vh hs 114 rfl rfl)<|pc Zu4 (vh hs 117 rfl rfl)<|pn rfl))<|Sd (lo [118] [] rfl fun S hs hr=>osl Z44 Z7k rfl (vh hs 118 rfl rfl))<|SAs rfl<|Sn<|rt ?_
      cases h;exact Zd Tryz.results132 rfl (Z5 rfl)
    case hx4=>
     refine sq ?_
     obtain ⟨x28,hx28,h⟩:=Z7 h
     refine Rg<|Zk lFlow_6 Z8v rfl<|Ld Z69 10 rfl<|Ac (Z0g (xs:=[.tmp 70,.const (Value.int IntKind.i64 2)]) (Zlr _ _ _ hx28) Znl rfl rfl ⟨vt rfl,vk rfl,trivial⟩) rfl<|Mt2 rfl<|Ac (Z1e rfl rfl (vt rfl)) rfl<|Ac (Z1a rfl rfl (vt rfl)) rfl<|Cv rfl (Zm 24 rfl rfl Z3k) fun g29=>Zf Z2b 24 rfl<|As rfl<|Nl<|SR<|Md rfl<|Nl<|Cq rfl h (fun h=>?_) (fun h=>?_)
     ·obtain ⟨x30,hx30,h⟩:=Z7 h
      refine Rg<|Ld Z03 12 rfl<|Zk Zrv Zui rfl<|Ld Zw 24 rfl<|Zk Zsy Zy5 rfl<|Ld Zw 24 rfl<|Ac (Z0g (xs:=[.tmp 75,.const (Value.int IntKind.i64 1),.tmp 77,.tmp 79]) (Zl4 _ _ _ _ _ hx30) Zkx rfl rfl ⟨vt rfl,vk rfl,vt rfl,vt rfl,trivial⟩) rfl<|Zf Z03 12 rfl<|Nl ?_
      exact ⟨_,h,FX rfl⟩
     ·refine sk ?_
      exact ⟨_,h,FX rfl⟩
   case hx3=>
    refine sq ?_
    obtain ⟨x31,hx31,h⟩:=Z7 h
    refine Rg<|Zk lFlow_6 Z8v rfl<|Ld Z69 10 rfl<|Ac (Z0g (xs:=[.tmp 59,.const (Value.int IntKind.i64 3)]) (Zlr _ _ _ hx31) Znl rfl rfl ⟨vt rfl,vk rfl,trivial⟩) rfl<|Mt2 rfl<|Ac (Z1e rfl rfl (vt rfl)) rfl<|Ac (Z1a rfl rfl (vt rfl)) rfl<|Cv rfl (Zm 22 rfl rfl Z3k) fun g32=>Zf Z2b 22 rfl<|As rfl<|Nl<|SR<|Md rfl<|Nl<|Cq rfl h (fun h=>?_) (fun h=>?_)
    ·obtain ⟨x33,hx33,h⟩:=Z7 h
     refine Rg<|Md rfl<|Zk Z6g Z7h rfl<|Ld Z34 22 rfl<|Cl [64,66] (Ymg _ _ _ hx33) Yvv rfl<|As rfl<|Nl ?_
     exact ⟨_,h,FX rfl⟩
    ·refine sk ?_
     exact ⟨_,h,FX rfl⟩
  case hx2=>
   refine sq ?_
   obtain ⟨x34,hx34,h⟩:=Z7 h
   refine Rg<|Zk lFlow_6 Z8v rfl<|Ld Z69 10 rfl<|Ac (Z0g (xs:=[.tmp 52,.const (Value.int IntKind.i64 5)]) (Zlr _ _ _ hx34) Znl rfl rfl ⟨vt rfl,vk rfl,trivial⟩) rfl<|Mt2 rfl<|Ac (Z1e rfl rfl (vt rfl)) rfl<|Ac (Z1a rfl rfl (vt rfl)) rfl<|Cv rfl (Zm 20 rfl rfl Z3k) fun g35=>Zf Z2b 20 rfl<|As rfl<|Nl<|SR<|Md rfl<|Nl<|Cq rfl h (fun h=>?_) (fun h=>?_)
   ·refine Rg<|Ac (Zv (A:=rd (Z1 Z9) []) rfl rfl Z1j) rfl<|Nl ?_
    exact ⟨_,h,FX rfl⟩
   ·refine sk ?_
    exact ⟨_,h,FX rfl⟩
 case hx1=>
  refine sq ?_
  obtain ⟨x36,hx36,h⟩:=Z7 h
  refine Rg<|Zk lFlow_6 Z8v rfl<|Ld Z69 10 rfl<|Ac (Z0g (xs:=[.tmp 34,.const (Value.int IntKind.i64 4)]) (Zlr _ _ _ hx36) Znl rfl rfl ⟨vt rfl,vk rfl,trivial⟩) rfl<|Mt2 rfl<|Ac (Z1e rfl rfl (vt rfl)) rfl<|Ac (Z1a rfl rfl (vt rfl)) rfl<|Cv rfl (Zm 16 rfl rfl Z3k) fun g37=>Zf Z2b 16 rfl<|As rfl<|Nl<|SR<|Md rfl<|Nl<|Cq rfl h (fun h=>?_) (fun h=>?_)
  ·refine sq ?_
   obtain ⟨x38,hx38,h⟩:=Z7 h
   refine Rg<|Zk Z6g Z7h rfl<|Ld Z34 16 rfl<|Ld Z03 12 rfl<|Cl [41,42] (Y77 _ _ _ hx38) Y1r rfl<|Mt2 rfl<|Ac (Z1e rfl rfl (vt rfl)) rfl<|Ac (Z1a rfl rfl (vt rfl)) rfl<|Cv rfl (Zm 19 rfl rfl Z3v) fun g39=>As rfl<|Zf Z03 19 rfl<|Nl ?_
   obtain ⟨l40,hl40,h⟩:=Z7 h
   refine AW.endT<|AR Z00 (by kernel_rfl)<|SMw rfl<|Zt rfl<|Sd (Z1g (us:=[(48,Z25 296 Z0r l40)]) (ur:=[(1001,emp)]) [46,47] [1001] rfl fun S hs hr=>Z9l 1001 hl40 rfl rfl rfl Zap (vh hs 46 rfl rfl) ((hr 1001 rfl).trans rfl) (vh hs 47 rfl rfl))<|Zp Z03 19 rfl<|Sd (Z1g (us:=[(48,top),(5,Z25 296 Z0r l40)]) (ur:=[]) [48] [1002] rfl fun S hs hr=>Zj1 1002 rfl rfl rfl rfl ((hs 48 rfl).trans rfl) ((hr 1002 rfl).trans rfl))<|SSt Z03 12 rfl<|Sn<|EndT.unpackR 5 1001 rfl rfl fun v41=>EndT.done ?_
   exact ⟨(_,_,_),h,FX rfl⟩
  ·refine sk ?_
   exact ⟨(_,_,_),h,FX rfl⟩
def Z4y:Nat→(Switch→Int→Za→Za→(List Atom)→(List Action)→Option (List Rule))×(Switch→Int→Flow→Za→Za→(List Atom)→(List Action)→Option (List Rule))
 | 0=>((fun _ _ _ _ _ _=>none),(fun _ _ _ _ _ _ _=>none))
 | n+1=>((Zko (Z4y n).1 (Z4y n).2),(Zhf (Z4y n).1 (Z4y n).2))
theorem Yc3:∀n:Nat,(∀(s1:Switch) (t2:Int) (x3:Za) (x4:Za) (a5:(List Atom)) (s6:(List Action)) (r:(List Rule)),(Z4y n).1 s1 t2 x3 x4 a5 s6=some r→PCon Tryz.prog 63 [rd Z09 s1,rd (Z0 .i64) t2,rd (Z3 24 Z4) x3,rd (Z3 24 Z4) x4,rd (Z1 Z0r) a5,rd (Z1 Z9) s6] (rd (Z1 Z0a) r))∧(∀(s1:Switch) (t2:Int) (x3:Flow) (x4:Za) (x5:Za) (a6:(List Atom)) (s7:(List Action)) (r:(List Rule)),(Z4y n).2 s1 t2 x3 x4 x5 a6 s7=some r→PCon Tryz.prog 132 [rd Z09 s1,rd (Z0 .i64) t2,rd Z08 x3,rd (Z3 24 Z4) x4,rd (Z3 24 Z4) x5,rd (Z1 Z0r) a6,rd (Z1 Z9) s7] (rd (Z1 Z0a) r))
 | 0=>⟨(by intros;rename_i h;cases h),(by intros;rename_i h;cases h)⟩
 | n+1=>by
  have ih:=Yc3 n
  exact ⟨(Ylx (Z4y n).1 ih.1 (Z4y n).2 ih.2),(Yn4 (Z4y n).1 ih.1 (Z4y n).2 ih.2)⟩
def Ztb (s1:Switch)(t2:Int)(x3:Za)(x4:Za)(a5:(List Atom))(s6:(List Action)):Option (List Rule):=(Z4y Z0v).1 s1 t2 x3 x4 a5 s6
theorem Yq6:∀(s1:Switch) (t2:Int) (x3:Za) (x4:Za) (a5:(List Atom)) (s6:(List Action)) (r:(List Rule)),Ztb s1 t2 x3 x4 a5 s6=some r→PCon Tryz.prog 63 [rd Z09 s1,rd (Z0 .i64) t2,rd (Z3 24 Z4) x3,rd (Z3 24 Z4) x4,rd (Z1 Z0r) a5,rd (Z1 Z9) s6] (rd (Z1 Z0a) r):=(Yc3 Z0v).1
end Go.Proofs.YtinplddjjalohaaGreatDoor.W
