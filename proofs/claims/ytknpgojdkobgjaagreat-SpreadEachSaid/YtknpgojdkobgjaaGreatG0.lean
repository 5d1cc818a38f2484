/- A part of the proof. -/
import Derived.Test.YtknpgojdkobgjaaGreatL1
import Derived.Test.YtknpgojdkobgjaaGreatProg
import Derived.KernelRfl
set_option linter.unusedVariables false
set_option maxRecDepth 4000
set_option linter.unusedSimpArgs false
namespace Go.Proofs.YtknpgojdkobgjaaGreat.W
open Go Go.Wb
structure Wide where
 Hi : (BitVec 64)
 Lo : (BitVec 64)
 deriving DecidableEq, Inhabited
def Zd : Kd Wide := Z0v (Z2 Z0n Z0n) (fun x => (x.Hi, x.Lo))
instance : PureK Zd := inferInstanceAs (PureK (Z0v (Z2 Z0n Z0n) (fun (x : Wide) => (x.Hi, x.Lo))))
def lWide_0 : Lens Zd Z0n := Lens.iso (k := (Z2 Z0n Z0n)) (Lens.fst _ _) Wide.Hi (fun x y => { x with Hi := y }) (fun _ => rfl) (fun _ _ => rfl)
def lWide_1 : Lens Zd Z0n := Lens.iso (k := (Z2 Z0n Z0n)) (Lens.snd _ _) Wide.Lo (fun x y => { x with Lo := y }) (fun _ => rfl) (fun _ _ => rfl)
def Z0j : Wide := ⟨0, 0⟩
def Z7t : List Value := ([.int .u64 0] ++ [.int .u64 0])
theorem Z7e : KZ Zd Z0j Z7t := Z22 (Z04 Zpq Zpq)
structure Tern where
 Value : Wide
 Mask : Wide
 deriving DecidableEq, Inhabited
def Z4 : Kd Tern := Z0v (Z2 Zd Zd) (fun x => (x.Value, x.Mask))
instance : PureK Z4 := inferInstanceAs (PureK (Z0v (Z2 Zd Zd) (fun (x : Tern) => (x.Value, x.Mask))))
def lTern_0 : Lens Z4 Zd := Lens.iso (k := (Z2 Zd Zd)) (Lens.fst _ _) Tern.Value (fun x y => { x with Value := y }) (fun _ => rfl) (fun _ _ => rfl)
def lTern_1 : Lens Z4 Zd := Lens.iso (k := (Z2 Zd Zd)) (Lens.snd _ _) Tern.Mask (fun x y => { x with Mask := y }) (fun _ => rfl) (fun _ _ => rfl)
def zTern : Tern := ⟨Z0j, Z0j⟩
def Z8a : List Value := (Z7t ++ Z7t)
theorem Z73 : KZ Z4 zTern Z8a := Z22 (Z04 Z7e Z7e)
abbrev Zk := Vector Tern 24
abbrev Z0e := Vector Wide 24
structure Ray where
 At : Int
 Port : Int
 Max : Int
 Left : Bool
 Cube : Zk
 Rewrite : Zk
 deriving DecidableEq, Inhabited
def Z0z : Kd Ray := Z0v (Z2 (Z0 .i64) (Z2 (Z0 .i64) (Z2 (Z0 .i64) (Z2 Z5 (Z2 (Z3 24 Z4) (Z3 24 Z4)))))) (fun x => (x.At, (x.Port, (x.Max, (x.Left, (x.Cube, x.Rewrite))))))
instance : PureK Z0z := inferInstanceAs (PureK (Z0v (Z2 (Z0 .i64) (Z2 (Z0 .i64) (Z2 (Z0 .i64) (Z2 Z5 (Z2 (Z3 24 Z4) (Z3 24 Z4)))))) (fun (x : Ray) => (x.At, (x.Port, (x.Max, (x.Left, (x.Cube, x.Rewrite))))))))
def lRay_0 : Lens Z0z (Z0 .i64) := Lens.iso (k := (Z2 (Z0 .i64) (Z2 (Z0 .i64) (Z2 (Z0 .i64) (Z2 Z5 (Z2 (Z3 24 Z4) (Z3 24 Z4))))))) (Lens.fst _ _) Ray.At (fun x y => { x with At := y }) (fun _ => rfl) (fun _ _ => rfl)
def lRay_1 : Lens Z0z (Z0 .i64) := Lens.iso (k := (Z2 (Z0 .i64) (Z2 (Z0 .i64) (Z2 (Z0 .i64) (Z2 Z5 (Z2 (Z3 24 Z4) (Z3 24 Z4))))))) (Lens.comp (Lens.snd _ _) (Lens.fst _ _)) Ray.Port (fun x y => { x with Port := y }) (fun _ => rfl) (fun _ _ => rfl)
def lRay_2 : Lens Z0z (Z0 .i64) := Lens.iso (k := (Z2 (Z0 .i64) (Z2 (Z0 .i64) (Z2 (Z0 .i64) (Z2 Z5 (Z2 (Z3 24 Z4) (Z3 24 Z4))))))) (Lens.comp (Lens.comp (Lens.snd _ _) (Lens.snd _ _)) (Lens.fst _ _)) Ray.Max (fun x y => { x with Max := y }) (fun _ => rfl) (fun _ _ => rfl)
def lRay_3 : Lens Z0z Z5 := Lens.iso (k := (Z2 (Z0 .i64) (Z2 (Z0 .i64) (Z2 (Z0 .i64) (Z2 Z5 (Z2 (Z3 24 Z4) (Z3 24 Z4))))))) (Lens.comp (Lens.comp (Lens.comp (Lens.snd _ _) (Lens.snd _ _)) (Lens.snd _ _)) (Lens.fst _ _)) Ray.Left (fun x y => { x with Left := y }) (fun _ => rfl) (fun _ _ => rfl)
def lRay_4 : Lens Z0z (Z3 24 Z4) := Lens.iso (k := (Z2 (Z0 .i64) (Z2 (Z0 .i64) (Z2 (Z0 .i64) (Z2 Z5 (Z2 (Z3 24 Z4) (Z3 24 Z4))))))) (Lens.comp (Lens.comp (Lens.comp (Lens.comp (Lens.snd _ _) (Lens.snd _ _)) (Lens.snd _ _)) (Lens.snd _ _)) (Lens.fst _ _)) Ray.Cube (fun x y => { x with Cube := y }) (fun _ => rfl) (fun _ _ => rfl)
def lRay_5 : Lens Z0z (Z3 24 Z4) := Lens.iso (k := (Z2 (Z0 .i64) (Z2 (Z0 .i64) (Z2 (Z0 .i64) (Z2 Z5 (Z2 (Z3 24 Z4) (Z3 24 Z4))))))) (Lens.comp (Lens.comp (Lens.comp (Lens.comp (Lens.snd _ _) (Lens.snd _ _)) (Lens.snd _ _)) (Lens.snd _ _)) (Lens.snd _ _)) Ray.Rewrite (fun x y => { x with Rewrite := y }) (fun _ => rfl) (fun _ _ => rfl)
def Y2b : Ray := ⟨0, 0, 0, false, (Vector.replicate 24 zTern), (Vector.replicate 24 zTern)⟩
def Yhq : List Value := ([.int .i64 0] ++ ([.int .i64 0] ++ ([.int .i64 0] ++ ([.bool false] ++ ((List.replicate 24 Z8a).flatten ++ (List.replicate 24 Z8a).flatten)))))
theorem Yhy : KZ Z0z Y2b Yhq := Z22 (Z04 Z1b (Z04 Z1b (Z04 Z1b (Z04 Zdx (Z04 (Z4c 24 Z73) (Z4c 24 Z73))))))
structure End where
 At : Int
 Port : Int
 Max : Int
 Left : Bool
 Header : Z0e
 deriving DecidableEq, Inhabited
def Z1v : Kd End := Z0v (Z2 (Z0 .i64) (Z2 (Z0 .i64) (Z2 (Z0 .i64) (Z2 Z5 (Z3 24 Zd))))) (fun x => (x.At, (x.Port, (x.Max, (x.Left, x.Header)))))
instance : PureK Z1v := inferInstanceAs (PureK (Z0v (Z2 (Z0 .i64) (Z2 (Z0 .i64) (Z2 (Z0 .i64) (Z2 Z5 (Z3 24 Zd))))) (fun (x : End) => (x.At, (x.Port, (x.Max, (x.Left, x.Header)))))))
def lEnd_0 : Lens Z1v (Z0 .i64) := Lens.iso (k := (Z2 (Z0 .i64) (Z2 (Z0 .i64) (Z2 (Z0 .i64) (Z2 Z5 (Z3 24 Zd)))))) (Lens.fst _ _) End.At (fun x y => { x with At := y }) (fun _ => rfl) (fun _ _ => rfl)
def lEnd_1 : Lens Z1v (Z0 .i64) := Lens.iso (k := (Z2 (Z0 .i64) (Z2 (Z0 .i64) (Z2 (Z0 .i64) (Z2 Z5 (Z3 24 Zd)))))) (Lens.comp (Lens.snd _ _) (Lens.fst _ _)) End.Port (fun x y => { x with Port := y }) (fun _ => rfl) (fun _ _ => rfl)
def lEnd_2 : Lens Z1v (Z0 .i64) := Lens.iso (k := (Z2 (Z0 .i64) (Z2 (Z0 .i64) (Z2 (Z0 .i64) (Z2 Z5 (Z3 24 Zd)))))) (Lens.comp (Lens.comp (Lens.snd _ _) (Lens.snd _ _)) (Lens.fst _ _)) End.Max (fun x y => { x with Max := y }) (fun _ => rfl) (fun _ _ => rfl)
def lEnd_3 : Lens Z1v Z5 := Lens.iso (k := (Z2 (Z0 .i64) (Z2 (Z0 .i64) (Z2 (Z0 .i64) (Z2 Z5 (Z3 24 Zd)))))) (Lens.comp (Lens.comp (Lens.comp (Lens.snd _ _) (Lens.snd _ _)) (Lens.snd _ _)) (Lens.fst _ _)) End.Left (fun x y => { x with Left := y }) (fun _ => rfl) (fun _ _ => rfl)
def lEnd_4 : Lens Z1v (Z3 24 Zd) := Lens.iso (k := (Z2 (Z0 .i64) (Z2 (Z0 .i64) (Z2 (Z0 .i64) (Z2 Z5 (Z3 24 Zd)))))) (Lens.comp (Lens.comp (Lens.comp (Lens.snd _ _) (Lens.snd _ _)) (Lens.snd _ _)) (Lens.snd _ _)) End.Header (fun x y => { x with Header := y }) (fun _ => rfl) (fun _ _ => rfl)
def Zxw : End := ⟨0, 0, 0, false, (Vector.replicate 24 Z0j)⟩
def Ygu : List Value := ([.int .i64 0] ++ ([.int .i64 0] ++ ([.int .i64 0] ++ ([.bool false] ++ (List.replicate 24 Z7t).flatten))))
theorem Yfm : KZ Z1v Zxw Ygu := Z22 (Z04 Z1b (Z04 Z1b (Z04 Z1b (Z04 Zdx (Z4c 24 Z7e)))))
structure Oxm where
 Field : Int
 Masked : Bool
 Value : Wide
 Mask : Wide
 deriving DecidableEq, Inhabited
def Z2e : Kd Oxm := Z0v (Z2 (Z0 .i64) (Z2 Z5 (Z2 Zd Zd))) (fun x => (x.Field, (x.Masked, (x.Value, x.Mask))))
instance : PureK Z2e := inferInstanceAs (PureK (Z0v (Z2 (Z0 .i64) (Z2 Z5 (Z2 Zd Zd))) (fun (x : Oxm) => (x.Field, (x.Masked, (x.Value, x.Mask))))))
def Zeb : Lens Z2e (Z0 .i64) := Lens.iso (k := (Z2 (Z0 .i64) (Z2 Z5 (Z2 Zd Zd)))) (Lens.fst _ _) Oxm.Field (fun x y => { x with Field := y }) (fun _ => rfl) (fun _ _ => rfl)
def Zz4 : Lens Z2e Z5 := Lens.iso (k := (Z2 (Z0 .i64) (Z2 Z5 (Z2 Zd Zd)))) (Lens.comp (Lens.snd _ _) (Lens.fst _ _)) Oxm.Masked (fun x y => { x with Masked := y }) (fun _ => rfl) (fun _ _ => rfl)
def Zsy : Lens Z2e Zd := Lens.iso (k := (Z2 (Z0 .i64) (Z2 Z5 (Z2 Zd Zd)))) (Lens.comp (Lens.comp (Lens.snd _ _) (Lens.snd _ _)) (Lens.fst _ _)) Oxm.Value (fun x y => { x with Value := y }) (fun _ => rfl) (fun _ _ => rfl)
def Zve : Lens Z2e Zd := Lens.iso (k := (Z2 (Z0 .i64) (Z2 Z5 (Z2 Zd Zd)))) (Lens.comp (Lens.comp (Lens.snd _ _) (Lens.snd _ _)) (Lens.snd _ _)) Oxm.Mask (fun x y => { x with Mask := y }) (fun _ => rfl) (fun _ _ => rfl)
def Zch : Oxm := ⟨0, false, Z0j, Z0j⟩
def Zxn : List Value := ([.int .i64 0] ++ ([.bool false] ++ (Z7t ++ Z7t)))
theorem Y19 : KZ Z2e Zch Zxn := Z22 (Z04 Z1b (Z04 Zdx (Z04 Z7e Z7e)))
structure Action where
 Kind : Int
 Port : Int
 Max : Int
 Group : Int
 Ether : Int
 Oxm : Oxm
 deriving DecidableEq, Inhabited
def Z9 : Kd Action := Z0v (Z2 (Z0 .i64) (Z2 (Z0 .i64) (Z2 (Z0 .i64) (Z2 (Z0 .i64) (Z2 (Z0 .i64) Z2e))))) (fun x => (x.Kind, (x.Port, (x.Max, (x.Group, (x.Ether, x.Oxm))))))
instance : PureK Z9 := inferInstanceAs (PureK (Z0v (Z2 (Z0 .i64) (Z2 (Z0 .i64) (Z2 (Z0 .i64) (Z2 (Z0 .i64) (Z2 (Z0 .i64) Z2e))))) (fun (x : Action) => (x.Kind, (x.Port, (x.Max, (x.Group, (x.Ether, x.Oxm))))))))
def lAction_0 : Lens Z9 (Z0 .i64) := Lens.iso (k := (Z2 (Z0 .i64) (Z2 (Z0 .i64) (Z2 (Z0 .i64) (Z2 (Z0 .i64) (Z2 (Z0 .i64) Z2e)))))) (Lens.fst _ _) Action.Kind (fun x y => { x with Kind := y }) (fun _ => rfl) (fun _ _ => rfl)
def lAction_1 : Lens Z9 (Z0 .i64) := Lens.iso (k := (Z2 (Z0 .i64) (Z2 (Z0 .i64) (Z2 (Z0 .i64) (Z2 (Z0 .i64) (Z2 (Z0 .i64) Z2e)))))) (Lens.comp (Lens.snd _ _) (Lens.fst _ _)) Action.Port (fun x y => { x with Port := y }) (fun _ => rfl) (fun _ _ => rfl)
def Zt4 : Lens Z9 (Z0 .i64) := Lens.iso (k := (Z2 (Z0 .i64) (Z2 (Z0 .i64) (Z2 (Z0 .i64) (Z2 (Z0 .i64) (Z2 (Z0 .i64) Z2e)))))) (Lens.comp (Lens.comp (Lens.snd _ _) (Lens.snd _ _)) (Lens.fst _ _)) Action.Max (fun x y => { x with Max := y }) (fun _ => rfl) (fun _ _ => rfl)
def Zn8 : Lens Z9 (Z0 .i64) := Lens.iso (k := (Z2 (Z0 .i64) (Z2 (Z0 .i64) (Z2 (Z0 .i64) (Z2 (Z0 .i64) (Z2 (Z0 .i64) Z2e)))))) (Lens.comp (Lens.comp (Lens.comp (Lens.snd _ _) (Lens.snd _ _)) (Lens.snd _ _)) (Lens.fst _ _)) Action.Group (fun x y => { x with Group := y }) (fun _ => rfl) (fun _ _ => rfl)
def Zm5 : Lens Z9 Z2e := Lens.iso (k := (Z2 (Z0 .i64) (Z2 (Z0 .i64) (Z2 (Z0 .i64) (Z2 (Z0 .i64) (Z2 (Z0 .i64) Z2e)))))) (Lens.comp (Lens.comp (Lens.comp (Lens.comp (Lens.snd _ _) (Lens.snd _ _)) (Lens.snd _ _)) (Lens.snd _ _)) (Lens.snd _ _)) Action.Oxm (fun x y => { x with Oxm := y }) (fun _ => rfl) (fun _ _ => rfl)
def Zm9 : Action := ⟨0, 0, 0, 0, 0, Zch⟩
def Yl2 : List Value := ([.int .i64 0] ++ ([.int .i64 0] ++ ([.int .i64 0] ++ ([.int .i64 0] ++ ([.int .i64 0] ++ Zxn)))))
theorem Yep : KZ Z9 Zm9 Yl2 := Z22 (Z04 Z1b (Z04 Z1b (Z04 Z1b (Z04 Z1b (Z04 Z1b Y19)))))
structure Inst where
 Kind : Int
 Table : Int
 Value : Wide
 Mask : Wide
 Acts : (List Action)
 deriving DecidableEq, Inhabited
def Z1e : Kd Inst := Z0v (Z2 (Z0 .i64) (Z2 (Z0 .i64) (Z2 Zd (Z2 Zd (Z1 Z9))))) (fun x => (x.Kind, (x.Table, (x.Value, (x.Mask, x.Acts)))))
def lInst_0 : Lens Z1e (Z0 .i64) := Lens.iso (k := (Z2 (Z0 .i64) (Z2 (Z0 .i64) (Z2 Zd (Z2 Zd (Z1 Z9)))))) (Lens.fst _ _) Inst.Kind (fun x y => { x with Kind := y }) (fun _ => rfl) (fun _ _ => rfl)
def Zd0 : Lens Z1e (Z0 .i64) := Lens.iso (k := (Z2 (Z0 .i64) (Z2 (Z0 .i64) (Z2 Zd (Z2 Zd (Z1 Z9)))))) (Lens.comp (Lens.snd _ _) (Lens.fst _ _)) Inst.Table (fun x y => { x with Table := y }) (fun _ => rfl) (fun _ _ => rfl)
def Zs7 : Lens Z1e Zd := Lens.iso (k := (Z2 (Z0 .i64) (Z2 (Z0 .i64) (Z2 Zd (Z2 Zd (Z1 Z9)))))) (Lens.comp (Lens.comp (Lens.snd _ _) (Lens.snd _ _)) (Lens.fst _ _)) Inst.Value (fun x y => { x with Value := y }) (fun _ => rfl) (fun _ _ => rfl)
def Zr3 : Lens Z1e Zd := Lens.iso (k := (Z2 (Z0 .i64) (Z2 (Z0 .i64) (Z2 Zd (Z2 Zd (Z1 Z9)))))) (Lens.comp (Lens.comp (Lens.comp (Lens.snd _ _) (Lens.snd _ _)) (Lens.snd _ _)) (Lens.fst _ _)) Inst.Mask (fun x y => { x with Mask := y }) (fun _ => rfl) (fun _ _ => rfl)
def lInst_4 : Lens Z1e (Z1 Z9) := Lens.iso (k := (Z2 (Z0 .i64) (Z2 (Z0 .i64) (Z2 Zd (Z2 Zd (Z1 Z9)))))) (Lens.comp (Lens.comp (Lens.comp (Lens.snd _ _) (Lens.snd _ _)) (Lens.snd _ _)) (Lens.snd _ _)) Inst.Acts (fun x y => { x with Acts := y }) (fun _ => rfl) (fun _ _ => rfl)
def Zxh : Inst := ⟨0, 0, Z0j, Z0j, []⟩
def Ynr : List Value := ([.int .i64 0] ++ ([.int .i64 0] ++ (Z7t ++ (Z7t ++ [.slice none 0 0]))))
theorem Yhh : KZ Z1e Zxh Ynr := Z22 (Z04 Z1b (Z04 Z1b (Z04 Z7e (Z04 Z7e (Z3v _)))))
structure Flow where
 Cookie : (BitVec 64)
 Priority : Int
 Idle : Int
 Hard : Int
 Flags : Int
 Match : (List Oxm)
 Insts : (List Inst)
 deriving DecidableEq, Inhabited
def Z16 : Kd Flow := Z0v (Z2 Z0n (Z2 (Z0 .i64) (Z2 (Z0 .i64) (Z2 (Z0 .i64) (Z2 (Z0 .i64) (Z2 (Z1 Z2e) (Z1 Z1e))))))) (fun x => (x.Cookie, (x.Priority, (x.Idle, (x.Hard, (x.Flags, (x.Match, x.Insts)))))))
def Ziu : Lens Z16 (Z0 .i64) := Lens.iso (k := (Z2 Z0n (Z2 (Z0 .i64) (Z2 (Z0 .i64) (Z2 (Z0 .i64) (Z2 (Z0 .i64) (Z2 (Z1 Z2e) (Z1 Z1e)))))))) (Lens.comp (Lens.snd _ _) (Lens.fst _ _)) Flow.Priority (fun x y => { x with Priority := y }) (fun _ => rfl) (fun _ _ => rfl)
def Zrb : Lens Z16 (Z1 Z2e) := Lens.iso (k := (Z2 Z0n (Z2 (Z0 .i64) (Z2 (Z0 .i64) (Z2 (Z0 .i64) (Z2 (Z0 .i64) (Z2 (Z1 Z2e) (Z1 Z1e)))))))) (Lens.comp (Lens.comp (Lens.comp (Lens.comp (Lens.comp (Lens.snd _ _) (Lens.snd _ _)) (Lens.snd _ _)) (Lens.snd _ _)) (Lens.snd _ _)) (Lens.fst _ _)) Flow.Match (fun x y => { x with Match := y }) (fun _ => rfl) (fun _ _ => rfl)
def lFlow_6 : Lens Z16 (Z1 Z1e) := Lens.iso (k := (Z2 Z0n (Z2 (Z0 .i64) (Z2 (Z0 .i64) (Z2 (Z0 .i64) (Z2 (Z0 .i64) (Z2 (Z1 Z2e) (Z1 Z1e)))))))) (Lens.comp (Lens.comp (Lens.comp (Lens.comp (Lens.comp (Lens.snd _ _) (Lens.snd _ _)) (Lens.snd _ _)) (Lens.snd _ _)) (Lens.snd _ _)) (Lens.snd _ _)) Flow.Insts (fun x y => { x with Insts := y }) (fun _ => rfl) (fun _ _ => rfl)
def Y3e : Flow := ⟨0, 0, 0, 0, 0, [], []⟩
def Yjn : List Value := ([.int .u64 0] ++ ([.int .i64 0] ++ ([.int .i64 0] ++ ([.int .i64 0] ++ ([.int .i64 0] ++ ([.slice none 0 0] ++ [.slice none 0 0]))))))
theorem Yb1 : KZ Z16 Y3e Yjn := Z22 (Z04 Zpq (Z04 Z1b (Z04 Z1b (Z04 Z1b (Z04 Z1b (Z04 (Z3v _) (Z3v _)))))))
abbrev Yat := Vector (List Flow) 4
structure Bucket where
 Weight : Int
 Watch : Int
 WatchGroup : Int
 Acts : (List Action)
 deriving DecidableEq, Inhabited
def Z1y : Kd Bucket := Z0v (Z2 (Z0 .i64) (Z2 (Z0 .i64) (Z2 (Z0 .i64) (Z1 Z9)))) (fun x => (x.Weight, (x.Watch, (x.WatchGroup, x.Acts))))
def Y0x : Lens Z1y (Z0 .i64) := Lens.iso (k := (Z2 (Z0 .i64) (Z2 (Z0 .i64) (Z2 (Z0 .i64) (Z1 Z9))))) (Lens.comp (Lens.snd _ _) (Lens.fst _ _)) Bucket.Watch (fun x y => { x with Watch := y }) (fun _ => rfl) (fun _ _ => rfl)
def Zcm : Lens Z1y (Z1 Z9) := Lens.iso (k := (Z2 (Z0 .i64) (Z2 (Z0 .i64) (Z2 (Z0 .i64) (Z1 Z9))))) (Lens.comp (Lens.comp (Lens.snd _ _) (Lens.snd _ _)) (Lens.snd _ _)) Bucket.Acts (fun x y => { x with Acts := y }) (fun _ => rfl) (fun _ _ => rfl)
def Zv2 : Bucket := ⟨0, 0, 0, []⟩
def Ylq : List Value := ([.int .i64 0] ++ ([.int .i64 0] ++ ([.int .i64 0] ++ [.slice none 0 0])))
theorem Ykq : KZ Z1y Zv2 Ylq := Z22 (Z04 Z1b (Z04 Z1b (Z04 Z1b (Z3v _))))
structure Group where
 ID : Int
 Kind : Int
 Buckets : (List Bucket)
 deriving DecidableEq, Inhabited
def Zz : Kd Group := Z0v (Z2 (Z0 .i64) (Z2 (Z0 .i64) (Z1 Z1y))) (fun x => (x.ID, (x.Kind, x.Buckets)))
def Znk : Lens Zz (Z0 .i64) := Lens.iso (k := (Z2 (Z0 .i64) (Z2 (Z0 .i64) (Z1 Z1y)))) (Lens.fst _ _) Group.ID (fun x y => { x with ID := y }) (fun _ => rfl) (fun _ _ => rfl)
def Zwf : Lens Zz (Z0 .i64) := Lens.iso (k := (Z2 (Z0 .i64) (Z2 (Z0 .i64) (Z1 Z1y)))) (Lens.comp (Lens.snd _ _) (Lens.fst _ _)) Group.Kind (fun x y => { x with Kind := y }) (fun _ => rfl) (fun _ _ => rfl)
def Z7p : Lens Zz (Z1 Z1y) := Lens.iso (k := (Z2 (Z0 .i64) (Z2 (Z0 .i64) (Z1 Z1y)))) (Lens.comp (Lens.snd _ _) (Lens.snd _ _)) Group.Buckets (fun x y => { x with Buckets := y }) (fun _ => rfl) (fun _ _ => rfl)
def Zow : Group := ⟨0, 0, []⟩
def Zum : List Value := ([.int .i64 0] ++ ([.int .i64 0] ++ [.slice none 0 0]))
theorem Y2m : KZ Zz Zow Zum := Z22 (Z04 Z1b (Z04 Z1b (Z3v _)))
structure Switch where
 Tables : Yat
 Groups : (List Group)
 deriving DecidableEq, Inhabited
def Z0b : Kd Switch := Z0v (Z2 (Z3 4 (Z1 Z16)) (Z1 Zz)) (fun x => (x.Tables, x.Groups))
def Zan : Lens Z0b (Z3 4 (Z1 Z16)) := Lens.iso (k := (Z2 (Z3 4 (Z1 Z16)) (Z1 Zz))) (Lens.fst _ _) Switch.Tables (fun x y => { x with Tables := y }) (fun _ => rfl) (fun _ _ => rfl)
def Ziz : Lens Z0b (Z1 Zz) := Lens.iso (k := (Z2 (Z3 4 (Z1 Z16)) (Z1 Zz))) (Lens.snd _ _) Switch.Groups (fun x y => { x with Groups := y }) (fun _ => rfl) (fun _ _ => rfl)
def Zpi : Switch := ⟨(Vector.replicate 4 []), []⟩
def Zvt : List Value := ((List.replicate 4 [.slice none 0 0]).flatten ++ [.slice none 0 0])
theorem Zsr : KZ Z0b Zpi Zvt := Z22 (Z04 (Z4c 4 (Z3v _)) (Z3v _))
structure field_row where
 name : ByteArray
 id : Int
 bits : Int
 masks : Bool
 deriving DecidableEq, Inhabited
def Z1u : Kd field_row := Z0v (Z2 Z8m (Z2 (Z0 .i64) (Z2 (Z0 .i64) Z5))) (fun x => (x.name, (x.id, (x.bits, x.masks))))
instance : PureK Z1u := inferInstanceAs (PureK (Z0v (Z2 Z8m (Z2 (Z0 .i64) (Z2 (Z0 .i64) Z5))) (fun (x : field_row) => (x.name, (x.id, (x.bits, x.masks))))))
def Z30 : Lens Z1u Z8m := Lens.iso (k := (Z2 Z8m (Z2 (Z0 .i64) (Z2 (Z0 .i64) Z5)))) (Lens.fst _ _) field_row.name (fun x y => { x with name := y }) (fun _ => rfl) (fun _ _ => rfl)
def lfield_row_1 : Lens Z1u (Z0 .i64) := Lens.iso (k := (Z2 Z8m (Z2 (Z0 .i64) (Z2 (Z0 .i64) Z5)))) (Lens.comp (Lens.snd _ _) (Lens.fst _ _)) field_row.id (fun x y => { x with id := y }) (fun _ => rfl) (fun _ _ => rfl)
def Z2l : Lens Z1u (Z0 .i64) := Lens.iso (k := (Z2 Z8m (Z2 (Z0 .i64) (Z2 (Z0 .i64) Z5)))) (Lens.comp (Lens.comp (Lens.snd _ _) (Lens.snd _ _)) (Lens.fst _ _)) field_row.bits (fun x y => { x with bits := y }) (fun _ => rfl) (fun _ _ => rfl)
def Z31 : Lens Z1u Z5 := Lens.iso (k := (Z2 Z8m (Z2 (Z0 .i64) (Z2 (Z0 .i64) Z5)))) (Lens.comp (Lens.comp (Lens.snd _ _) (Lens.snd _ _)) (Lens.snd _ _)) field_row.masks (fun x y => { x with masks := y }) (fun _ => rfl) (fun _ _ => rfl)
def Zl0 : field_row := ⟨(⟨#[]⟩ : ByteArray), 0, 0, false⟩
def Ygd : List Value := ([.string ⟨#[]⟩] ++ ([.int .i64 0] ++ ([.int .i64 0] ++ [.bool false])))
theorem Y5o : KZ Z1u Zl0 Ygd := Z22 (Z04 Yke (Z04 Z1b (Z04 Z1b Zdx)))
abbrev Yjp := Vector field_row 24
structure Atom where
 Rewrite : Zk
 Group : Bool
 Port : Int
 Max : Int
 deriving DecidableEq, Inhabited
def Z0a : Kd Atom := Z0v (Z2 (Z3 24 Z4) (Z2 Z5 (Z2 (Z0 .i64) (Z0 .i64)))) (fun x => (x.Rewrite, (x.Group, (x.Port, x.Max))))
instance : PureK Z0a := inferInstanceAs (PureK (Z0v (Z2 (Z3 24 Z4) (Z2 Z5 (Z2 (Z0 .i64) (Z0 .i64)))) (fun (x : Atom) => (x.Rewrite, (x.Group, (x.Port, x.Max))))))
def lAtom_0 : Lens Z0a (Z3 24 Z4) := Lens.iso (k := (Z2 (Z3 24 Z4) (Z2 Z5 (Z2 (Z0 .i64) (Z0 .i64))))) (Lens.fst _ _) Atom.Rewrite (fun x y => { x with Rewrite := y }) (fun _ => rfl) (fun _ _ => rfl)
def Zua : Lens Z0a Z5 := Lens.iso (k := (Z2 (Z3 24 Z4) (Z2 Z5 (Z2 (Z0 .i64) (Z0 .i64))))) (Lens.comp (Lens.snd _ _) (Lens.fst _ _)) Atom.Group (fun x y => { x with Group := y }) (fun _ => rfl) (fun _ _ => rfl)
def Zfh : Lens Z0a (Z0 .i64) := Lens.iso (k := (Z2 (Z3 24 Z4) (Z2 Z5 (Z2 (Z0 .i64) (Z0 .i64))))) (Lens.comp (Lens.comp (Lens.snd _ _) (Lens.snd _ _)) (Lens.fst _ _)) Atom.Port (fun x y => { x with Port := y }) (fun _ => rfl) (fun _ _ => rfl)
def Zsv : Lens Z0a (Z0 .i64) := Lens.iso (k := (Z2 (Z3 24 Z4) (Z2 Z5 (Z2 (Z0 .i64) (Z0 .i64))))) (Lens.comp (Lens.comp (Lens.snd _ _) (Lens.snd _ _)) (Lens.snd _ _)) Atom.Max (fun x y => { x with Max := y }) (fun _ => rfl) (fun _ _ => rfl)
def Y5x : Atom := ⟨(Vector.replicate 24 zTern), false, 0, 0⟩
def Yag : List Value := ((List.replicate 24 Z8a).flatten ++ ([.bool false] ++ ([.int .i64 0] ++ [.int .i64 0])))
theorem Yij : KZ Z0a Y5x Yag := Z22 (Z04 (Z4c 24 Z73) (Z04 Zdx (Z04 Z1b Z1b)))
structure walk_way where
 cube : Zk
 got : Zk
 atoms : (List Atom)
 set : (List Action)
 deriving DecidableEq, Inhabited
def Z1n : Kd walk_way := Z0v (Z2 (Z3 24 Z4) (Z2 (Z3 24 Z4) (Z2 (Z1 Z0a) (Z1 Z9)))) (fun x => (x.cube, (x.got, (x.atoms, x.set))))
def lwalk_way_0 : Lens Z1n (Z3 24 Z4) := Lens.iso (k := (Z2 (Z3 24 Z4) (Z2 (Z3 24 Z4) (Z2 (Z1 Z0a) (Z1 Z9))))) (Lens.fst _ _) walk_way.cube (fun x y => { x with cube := y }) (fun _ => rfl) (fun _ _ => rfl)
def lwalk_way_1 : Lens Z1n (Z3 24 Z4) := Lens.iso (k := (Z2 (Z3 24 Z4) (Z2 (Z3 24 Z4) (Z2 (Z1 Z0a) (Z1 Z9))))) (Lens.comp (Lens.snd _ _) (Lens.fst _ _)) walk_way.got (fun x y => { x with got := y }) (fun _ => rfl) (fun _ _ => rfl)
def Zg5 : Lens Z1n (Z1 Z0a) := Lens.iso (k := (Z2 (Z3 24 Z4) (Z2 (Z3 24 Z4) (Z2 (Z1 Z0a) (Z1 Z9))))) (Lens.comp (Lens.comp (Lens.snd _ _) (Lens.snd _ _)) (Lens.fst _ _)) walk_way.atoms (fun x y => { x with atoms := y }) (fun _ => rfl) (fun _ _ => rfl)
def Zjw : Lens Z1n (Z1 Z9) := Lens.iso (k := (Z2 (Z3 24 Z4) (Z2 (Z3 24 Z4) (Z2 (Z1 Z0a) (Z1 Z9))))) (Lens.comp (Lens.comp (Lens.snd _ _) (Lens.snd _ _)) (Lens.snd _ _)) walk_way.set (fun x y => { x with set := y }) (fun _ => rfl) (fun _ _ => rfl)
def Zfr : walk_way := ⟨(Vector.replicate 24 zTern), (Vector.replicate 24 zTern), [], []⟩
def Y6s : List Value := ((List.replicate 24 Z8a).flatten ++ ((List.replicate 24 Z8a).flatten ++ ([.slice none 0 0] ++ [.slice none 0 0])))
theorem Y9u : KZ Z1n Zfr Y6s := Z22 (Z04 (Z4c 24 Z73) (Z04 (Z4c 24 Z73) (Z04 (Z3v _) (Z3v _))))
structure Z68 where
 got : Zk
 atoms : (List Atom)
 deriving DecidableEq, Inhabited
structure atom_trace_o1 where
 got : Zk
 atoms : Value
def Z5t : Kd atom_trace_o1 := Z0v (Z2 (Z3 24 Z4) kraw) (fun x => (x.got, x.atoms))
def latom_trace_o1_0 : Lens Z5t (Z3 24 Z4) := Lens.iso (k := (Z2 (Z3 24 Z4) kraw)) (Lens.fst _ _) atom_trace_o1.got (fun x y => { x with got := y }) (fun _ => rfl) (fun _ _ => rfl)
def Zj9 : Lens Z5t kraw := Lens.iso (k := (Z2 (Z3 24 Z4) kraw)) (Lens.snd _ _) atom_trace_o1.atoms (fun x y => { x with atoms := y }) (fun _ => rfl) (fun _ _ => rfl)
def Y4r : atom_trace_o1 := ⟨(Vector.replicate 24 zTern), (.slice none 0 0)⟩
theorem Yas : KZ Z5t Y4r ((List.replicate 24 Z8a).flatten ++ [.slice none 0 0]) := Z22 (Z04 (Z4c 24 Z73) (Zak rfl))
structure aset_spot where
 kind : Int
 field : Int
 deriving DecidableEq, Inhabited
def Z6s : Kd aset_spot := Z0v (Z2 (Z0 .i64) (Z0 .i64)) (fun x => (x.kind, x.field))
instance : PureK Z6s := inferInstanceAs (PureK (Z0v (Z2 (Z0 .i64) (Z0 .i64)) (fun (x : aset_spot) => (x.kind, x.field))))
def laset_spot_0 : Lens Z6s (Z0 .i64) := Lens.iso (k := (Z2 (Z0 .i64) (Z0 .i64))) (Lens.fst _ _) aset_spot.kind (fun x y => { x with kind := y }) (fun _ => rfl) (fun _ _ => rfl)
def laset_spot_1 : Lens Z6s (Z0 .i64) := Lens.iso (k := (Z2 (Z0 .i64) (Z0 .i64))) (Lens.snd _ _) aset_spot.field (fun x y => { x with field := y }) (fun _ => rfl) (fun _ _ => rfl)
def Zov : aset_spot := ⟨0, 0⟩
def Yai : List Value := ([.int .i64 0] ++ [.int .i64 0])
theorem Yev : KZ Z6s Zov Yai := Z22 (Z04 Z1b Z1b)
structure Rule where
 Cube : Zk
 Atoms : (List Atom)
 deriving DecidableEq, Inhabited
def Z09 : Kd Rule := Z0v (Z2 (Z3 24 Z4) (Z1 Z0a)) (fun x => (x.Cube, x.Atoms))
def lRule_0 : Lens Z09 (Z3 24 Z4) := Lens.iso (k := (Z2 (Z3 24 Z4) (Z1 Z0a))) (Lens.fst _ _) Rule.Cube (fun x y => { x with Cube := y }) (fun _ => rfl) (fun _ _ => rfl)
def lRule_1 : Lens Z09 (Z1 Z0a) := Lens.iso (k := (Z2 (Z3 24 Z4) (Z1 Z0a))) (Lens.snd _ _) Rule.Atoms (fun x y => { x with Atoms := y }) (fun _ => rfl) (fun _ _ => rfl)
def Zy1 : Rule := ⟨(Vector.replicate 24 zTern), []⟩
def Y9e : List Value := ((List.replicate 24 Z8a).flatten ++ [.slice none 0 0])
theorem Ymj : KZ Z09 Zy1 Y9e := Z22 (Z04 (Z4c 24 Z73) (Z3v _))
structure cover_purse where
 left : Int
 free : Bool
 deriving DecidableEq, Inhabited
def Z6d : Kd cover_purse := Z0v (Z2 (Z0 .i64) Z5) (fun x => (x.left, x.free))
instance : PureK Z6d := inferInstanceAs (PureK (Z0v (Z2 (Z0 .i64) Z5) (fun (x : cover_purse) => (x.left, x.free))))
def lcover_purse_0 : Lens Z6d (Z0 .i64) := Lens.iso (k := (Z2 (Z0 .i64) Z5)) (Lens.fst _ _) cover_purse.left (fun x y => { x with left := y }) (fun _ => rfl) (fun _ _ => rfl)
def lcover_purse_1 : Lens Z6d Z5 := Lens.iso (k := (Z2 (Z0 .i64) Z5)) (Lens.snd _ _) cover_purse.free (fun x y => { x with free := y }) (fun _ => rfl) (fun _ _ => rfl)
def Zs4 : cover_purse := ⟨0, false⟩
def Zxa : List Value := ([.int .i64 0] ++ [.bool false])
theorem Y1w : KZ Z6d Zs4 Zxa := Z22 (Z04 Z1b Zdx)
structure cover_look where
 purse : cover_purse
 deriving DecidableEq, Inhabited
def Z1z : Kd cover_look := Z0v Z6d (fun x => x.purse)
instance : PureK Z1z := inferInstanceAs (PureK (Z0v Z6d (fun (x : cover_look) => x.purse)))
def lcover_look_0 : Lens Z1z Z6d := Lens.iso (k := Z6d) (Lens.id _) cover_look.purse (fun x y => { x with purse := y }) (fun _ => rfl) (fun _ _ => rfl)
def Zw1 : cover_look := ⟨Zs4⟩
def Ybg : List Value := Zxa
theorem Ycg : KZ Z1z Zw1 Ybg := Z22 Y1w
structure Flat where
 Rules : (List Rule)
 Groups : (List Group)
 deriving DecidableEq, Inhabited
def Z5n : Kd Flat := Z0v (Z2 (Z1 Z09) (Z1 Zz)) (fun x => (x.Rules, x.Groups))
def lFlat_0 : Lens Z5n (Z1 Z09) := Lens.iso (k := (Z2 (Z1 Z09) (Z1 Zz))) (Lens.fst _ _) Flat.Rules (fun x y => { x with Rules := y }) (fun _ => rfl) (fun _ _ => rfl)
def lFlat_1 : Lens Z5n (Z1 Zz) := Lens.iso (k := (Z2 (Z1 Z09) (Z1 Zz))) (Lens.snd _ _) Flat.Groups (fun x y => { x with Groups := y }) (fun _ => rfl) (fun _ _ => rfl)
def Zr9 : Flat := ⟨[], []⟩
def Y1p : List Value := ([.slice none 0 0] ++ [.slice none 0 0])
theorem Zwa : KZ Z5n Zr9 Y1p := Z22 (Z04 (Z3v _) (Z3v _))
structure Z4w where
 cubes : (List Zk)
 most : Int
 deriving DecidableEq, Inhabited
structure slice_heap_o0 where
 cubes : Value
 most : Int
def Z1r : Kd slice_heap_o0 := Z0v (Z2 kraw (Z0 .i64)) (fun x => (x.cubes, x.most))
def lslice_heap_o0_0 : Lens Z1r kraw := Lens.iso (k := (Z2 kraw (Z0 .i64))) (Lens.fst _ _) slice_heap_o0.cubes (fun x y => { x with cubes := y }) (fun _ => rfl) (fun _ _ => rfl)
def lslice_heap_o0_1 : Lens Z1r (Z0 .i64) := Lens.iso (k := (Z2 kraw (Z0 .i64))) (Lens.snd _ _) slice_heap_o0.most (fun x y => { x with most := y }) (fun _ => rfl) (fun _ _ => rfl)
def Zvr : slice_heap_o0 := ⟨(.slice none 0 0), 0⟩
theorem Y9s : KZ Z1r Zvr ([.slice none 0 0] ++ [.int .i64 0]) := Z22 (Z04 (Zak rfl) Z1b)
structure spread_table where
 Flat : Flat
 cubes : (List (List Zk))
 deriving DecidableEq, Inhabited
def Z2i : Kd spread_table := Z0v (Z2 Z5n (Z1 (Z1 (Z3 24 Z4)))) (fun x => (x.Flat, x.cubes))
def lspread_table_0 : Lens Z2i Z5n := Lens.iso (k := (Z2 Z5n (Z1 (Z1 (Z3 24 Z4))))) (Lens.fst _ _) spread_table.Flat (fun x y => { x with Flat := y }) (fun _ => rfl) (fun _ _ => rfl)
def lspread_table_1 : Lens Z2i (Z1 (Z1 (Z3 24 Z4))) := Lens.iso (k := (Z2 Z5n (Z1 (Z1 (Z3 24 Z4))))) (Lens.snd _ _) spread_table.cubes (fun x y => { x with cubes := y }) (fun _ => rfl) (fun _ _ => rfl)
def Zvx : spread_table := ⟨Zr9, []⟩
def Y8l : List Value := (Y1p ++ [.slice none 0 0])
theorem Yhf : KZ Z2i Zvx Y8l := Z22 (Z04 Zwa (Z3v _))
structure Link where
 From : Int
 Out : Int
 To : Int
 In : Int
 deriving DecidableEq, Inhabited
def Z36 : Kd Link := Z0v (Z2 (Z0 .i64) (Z2 (Z0 .i64) (Z2 (Z0 .i64) (Z0 .i64)))) (fun x => (x.From, (x.Out, (x.To, x.In))))
instance : PureK Z36 := inferInstanceAs (PureK (Z0v (Z2 (Z0 .i64) (Z2 (Z0 .i64) (Z2 (Z0 .i64) (Z0 .i64)))) (fun (x : Link) => (x.From, (x.Out, (x.To, x.In))))))
def lLink_0 : Lens Z36 (Z0 .i64) := Lens.iso (k := (Z2 (Z0 .i64) (Z2 (Z0 .i64) (Z2 (Z0 .i64) (Z0 .i64))))) (Lens.fst _ _) Link.From (fun x y => { x with From := y }) (fun _ => rfl) (fun _ _ => rfl)
def lLink_1 : Lens Z36 (Z0 .i64) := Lens.iso (k := (Z2 (Z0 .i64) (Z2 (Z0 .i64) (Z2 (Z0 .i64) (Z0 .i64))))) (Lens.comp (Lens.snd _ _) (Lens.fst _ _)) Link.Out (fun x y => { x with Out := y }) (fun _ => rfl) (fun _ _ => rfl)
def lLink_2 : Lens Z36 (Z0 .i64) := Lens.iso (k := (Z2 (Z0 .i64) (Z2 (Z0 .i64) (Z2 (Z0 .i64) (Z0 .i64))))) (Lens.comp (Lens.comp (Lens.snd _ _) (Lens.snd _ _)) (Lens.fst _ _)) Link.To (fun x y => { x with To := y }) (fun _ => rfl) (fun _ _ => rfl)
def lLink_3 : Lens Z36 (Z0 .i64) := Lens.iso (k := (Z2 (Z0 .i64) (Z2 (Z0 .i64) (Z2 (Z0 .i64) (Z0 .i64))))) (Lens.comp (Lens.comp (Lens.snd _ _) (Lens.snd _ _)) (Lens.snd _ _)) Link.In (fun x y => { x with In := y }) (fun _ => rfl) (fun _ _ => rfl)
def Y4t : Link := ⟨0, 0, 0, 0⟩
def Ykd : List Value := ([.int .i64 0] ++ ([.int .i64 0] ++ ([.int .i64 0] ++ [.int .i64 0])))
theorem Y83 : KZ Z36 Y4t Ykd := Z22 (Z04 Z1b (Z04 Z1b (Z04 Z1b Z1b)))
structure Net where
 Switches : (List Switch)
 Links : (List Link)
 deriving DecidableEq, Inhabited
def Z28 : Kd Net := Z0v (Z2 (Z1 Z0b) (Z1 Z36)) (fun x => (x.Switches, x.Links))
def lNet_0 : Lens Z28 (Z1 Z0b) := Lens.iso (k := (Z2 (Z1 Z0b) (Z1 Z36))) (Lens.fst _ _) Net.Switches (fun x y => { x with Switches := y }) (fun _ => rfl) (fun _ _ => rfl)
def lNet_1 : Lens Z28 (Z1 Z36) := Lens.iso (k := (Z2 (Z1 Z0b) (Z1 Z36))) (Lens.snd _ _) Net.Links (fun x y => { x with Links := y }) (fun _ => rfl) (fun _ _ => rfl)
def Zmg : Net := ⟨[], []⟩
def Zts : List Value := ([.slice none 0 0] ++ [.slice none 0 0])
theorem Zt8 : KZ Z28 Zmg Zts := Z22 (Z04 (Z3v _) (Z3v _))
structure spread_beam where
 cube : Zk
 got : Zk
 deriving DecidableEq, Inhabited
def Z2u : Kd spread_beam := Z0v (Z2 (Z3 24 Z4) (Z3 24 Z4)) (fun x => (x.cube, x.got))
instance : PureK Z2u := inferInstanceAs (PureK (Z0v (Z2 (Z3 24 Z4) (Z3 24 Z4)) (fun (x : spread_beam) => (x.cube, x.got))))
def lspread_beam_0 : Lens Z2u (Z3 24 Z4) := Lens.iso (k := (Z2 (Z3 24 Z4) (Z3 24 Z4))) (Lens.fst _ _) spread_beam.cube (fun x y => { x with cube := y }) (fun _ => rfl) (fun _ _ => rfl)
def lspread_beam_1 : Lens Z2u (Z3 24 Z4) := Lens.iso (k := (Z2 (Z3 24 Z4) (Z3 24 Z4))) (Lens.snd _ _) spread_beam.got (fun x y => { x with got := y }) (fun _ => rfl) (fun _ _ => rfl)
def Zvq : spread_beam := ⟨(Vector.replicate 24 zTern), (Vector.replicate 24 zTern)⟩
def Yaq : List Value := ((List.replicate 24 Z8a).flatten ++ (List.replicate 24 Z8a).flatten)
theorem Ym1 : KZ Z2u Zvq Yaq := Z22 (Z04 (Z4c 24 Z73) (Z4c 24 Z73))
structure Env where
 Turn : Int
 Down : (List Int)
 deriving DecidableEq, Inhabited
def Z0q : Kd Env := Z0v (Z2 (Z0 .i64) (Z1 (Z0 .i64))) (fun x => (x.Turn, x.Down))
def Y4v : Lens Z0q (Z0 .i64) := Lens.iso (k := (Z2 (Z0 .i64) (Z1 (Z0 .i64)))) (Lens.fst _ _) Env.Turn (fun x y => { x with Turn := y }) (fun _ => rfl) (fun _ _ => rfl)
def Zrk : Lens Z0q (Z1 (Z0 .i64)) := Lens.iso (k := (Z2 (Z0 .i64) (Z1 (Z0 .i64)))) (Lens.snd _ _) Env.Down (fun x y => { x with Down := y }) (fun _ => rfl) (fun _ _ => rfl)
def Zbk : Env := ⟨0, []⟩
def Zd4 : List Value := ([.int .i64 0] ++ [.slice none 0 0])
theorem Zdr : KZ Z0q Zbk Zd4 := Z22 (Z04 Z1b (Z3v _))
structure env_world where
 Env : Env
 Group : Group
 deriving DecidableEq, Inhabited
def Zbz : Kd env_world := Z0v (Z2 Z0q Zz) (fun x => (x.Env, x.Group))
def lenv_world_0 : Lens Zbz Z0q := Lens.iso (k := (Z2 Z0q Zz)) (Lens.fst _ _) env_world.Env (fun x y => { x with Env := y }) (fun _ => rfl) (fun _ _ => rfl)
def lenv_world_1 : Lens Zbz Zz := Lens.iso (k := (Z2 Z0q Zz)) (Lens.snd _ _) env_world.Group (fun x y => { x with Group := y }) (fun _ => rfl) (fun _ _ => rfl)
def Y4o : env_world := ⟨Zbk, Zow⟩
def Ygc : List Value := (Zd4 ++ Zum)
theorem Ycn : KZ Zbz Y4o Ygc := Z22 (Z04 Zdr Y2m)
structure norm_world where
 Env : Env
 groups : (List Group)
 depth : Int
 deriving DecidableEq, Inhabited
def Z45 : Kd norm_world := Z0v (Z2 Z0q (Z2 (Z1 Zz) (Z0 .i64))) (fun x => (x.Env, (x.groups, x.depth)))
def lnorm_world_0 : Lens Z45 Z0q := Lens.iso (k := (Z2 Z0q (Z2 (Z1 Zz) (Z0 .i64)))) (Lens.fst _ _) norm_world.Env (fun x y => { x with Env := y }) (fun _ => rfl) (fun _ _ => rfl)
def lnorm_world_1 : Lens Z45 (Z1 Zz) := Lens.iso (k := (Z2 Z0q (Z2 (Z1 Zz) (Z0 .i64)))) (Lens.comp (Lens.snd _ _) (Lens.fst _ _)) norm_world.groups (fun x y => { x with groups := y }) (fun _ => rfl) (fun _ _ => rfl)
def Zox : Lens Z45 (Z0 .i64) := Lens.iso (k := (Z2 Z0q (Z2 (Z1 Zz) (Z0 .i64)))) (Lens.comp (Lens.snd _ _) (Lens.snd _ _)) norm_world.depth (fun x y => { x with depth := y }) (fun _ => rfl) (fun _ _ => rfl)
def Y11 : norm_world := ⟨Zbk, [], 0⟩
def Ynv : List Value := (Zd4 ++ ([.slice none 0 0] ++ [.int .i64 0]))
theorem Yhc : KZ Z45 Y11 Ynv := Z22 (Z04 Zdr (Z04 (Z3v _) Z1b))
structure Z0d where
 Net : Net
 env : Env
 tables : (List spread_table)
 most : Int
 rays : (List Ray)
 deriving DecidableEq, Inhabited
structure spread_sun_o4 where
 Net : Net
 env : Env
 tables : (List spread_table)
 most : Int
 rays : Value
def Z17 : Kd spread_sun_o4 := Z0v (Z2 Z28 (Z2 Z0q (Z2 (Z1 Z2i) (Z2 (Z0 .i64) kraw)))) (fun x => (x.Net, (x.env, (x.tables, (x.most, x.rays)))))
def lspread_sun_o4_0 : Lens Z17 Z28 := Lens.iso (k := (Z2 Z28 (Z2 Z0q (Z2 (Z1 Z2i) (Z2 (Z0 .i64) kraw))))) (Lens.fst _ _) spread_sun_o4.Net (fun x y => { x with Net := y }) (fun _ => rfl) (fun _ _ => rfl)
def lspread_sun_o4_1 : Lens Z17 Z0q := Lens.iso (k := (Z2 Z28 (Z2 Z0q (Z2 (Z1 Z2i) (Z2 (Z0 .i64) kraw))))) (Lens.comp (Lens.snd _ _) (Lens.fst _ _)) spread_sun_o4.env (fun x y => { x with env := y }) (fun _ => rfl) (fun _ _ => rfl)
def lspread_sun_o4_2 : Lens Z17 (Z1 Z2i) := Lens.iso (k := (Z2 Z28 (Z2 Z0q (Z2 (Z1 Z2i) (Z2 (Z0 .i64) kraw))))) (Lens.comp (Lens.comp (Lens.snd _ _) (Lens.snd _ _)) (Lens.fst _ _)) spread_sun_o4.tables (fun x y => { x with tables := y }) (fun _ => rfl) (fun _ _ => rfl)
def lspread_sun_o4_3 : Lens Z17 (Z0 .i64) := Lens.iso (k := (Z2 Z28 (Z2 Z0q (Z2 (Z1 Z2i) (Z2 (Z0 .i64) kraw))))) (Lens.comp (Lens.comp (Lens.comp (Lens.snd _ _) (Lens.snd _ _)) (Lens.snd _ _)) (Lens.fst _ _)) spread_sun_o4.most (fun x y => { x with most := y }) (fun _ => rfl) (fun _ _ => rfl)
def Z7w : Lens Z17 kraw := Lens.iso (k := (Z2 Z28 (Z2 Z0q (Z2 (Z1 Z2i) (Z2 (Z0 .i64) kraw))))) (Lens.comp (Lens.comp (Lens.comp (Lens.snd _ _) (Lens.snd _ _)) (Lens.snd _ _)) (Lens.snd _ _)) spread_sun_o4.rays (fun x y => { x with rays := y }) (fun _ => rfl) (fun _ _ => rfl)
def Y26 : spread_sun_o4 := ⟨Zmg, Zbk, [], 0, (.slice none 0 0)⟩
theorem Yin : KZ Z17 Y26 (Zts ++ (Zd4 ++ ([.slice none 0 0] ++ ([.int .i64 0] ++ [.slice none 0 0])))) := Z22 (Z04 Zt8 (Z04 Zdr (Z04 (Z3v _) (Z04 Z1b (Zak rfl)))))
structure Out where
 Port : Int
 Max : Int
 Header : Z0e
 deriving DecidableEq, Inhabited
def Z0r : Kd Out := Z0v (Z2 (Z0 .i64) (Z2 (Z0 .i64) (Z3 24 Zd))) (fun x => (x.Port, (x.Max, x.Header)))
instance : PureK Z0r := inferInstanceAs (PureK (Z0v (Z2 (Z0 .i64) (Z2 (Z0 .i64) (Z3 24 Zd))) (fun (x : Out) => (x.Port, (x.Max, x.Header)))))
def lOut_0 : Lens Z0r (Z0 .i64) := Lens.iso (k := (Z2 (Z0 .i64) (Z2 (Z0 .i64) (Z3 24 Zd)))) (Lens.fst _ _) Out.Port (fun x y => { x with Port := y }) (fun _ => rfl) (fun _ _ => rfl)
def lOut_1 : Lens Z0r (Z0 .i64) := Lens.iso (k := (Z2 (Z0 .i64) (Z2 (Z0 .i64) (Z3 24 Zd)))) (Lens.comp (Lens.snd _ _) (Lens.fst _ _)) Out.Max (fun x y => { x with Max := y }) (fun _ => rfl) (fun _ _ => rfl)
def lOut_2 : Lens Z0r (Z3 24 Zd) := Lens.iso (k := (Z2 (Z0 .i64) (Z2 (Z0 .i64) (Z3 24 Zd)))) (Lens.comp (Lens.snd _ _) (Lens.snd _ _)) Out.Header (fun x y => { x with Header := y }) (fun _ => rfl) (fun _ _ => rfl)
def Zv6 : Out := ⟨0, 0, (Vector.replicate 24 Z0j)⟩
def Ya5 : List Value := ([.int .i64 0] ++ ([.int .i64 0] ++ (List.replicate 24 Z7t).flatten))
theorem Yeh : KZ Z0r Zv6 Ya5 := Z22 (Z04 Z1b (Z04 Z1b (Z4c 24 Z7e)))
structure Z0l where
 Env : Env
 groups : (List Group)
 out : (List Out)
 header : Z0e
 depth : Int
 deriving DecidableEq, Inhabited
structure exec_run_o2 where
 Env : Env
 groups : (List Group)
 out : Value
 header : Z0e
 depth : Int
def Z1g : Kd exec_run_o2 := Z0v (Z2 Z0q (Z2 (Z1 Zz) (Z2 kraw (Z2 (Z3 24 Zd) (Z0 .i64))))) (fun x => (x.Env, (x.groups, (x.out, (x.header, x.depth)))))
def lexec_run_o2_0 : Lens Z1g Z0q := Lens.iso (k := (Z2 Z0q (Z2 (Z1 Zz) (Z2 kraw (Z2 (Z3 24 Zd) (Z0 .i64)))))) (Lens.fst _ _) exec_run_o2.Env (fun x y => { x with Env := y }) (fun _ => rfl) (fun _ _ => rfl)
def lexec_run_o2_1 : Lens Z1g (Z1 Zz) := Lens.iso (k := (Z2 Z0q (Z2 (Z1 Zz) (Z2 kraw (Z2 (Z3 24 Zd) (Z0 .i64)))))) (Lens.comp (Lens.snd _ _) (Lens.fst _ _)) exec_run_o2.groups (fun x y => { x with groups := y }) (fun _ => rfl) (fun _ _ => rfl)
def Zkv : Lens Z1g kraw := Lens.iso (k := (Z2 Z0q (Z2 (Z1 Zz) (Z2 kraw (Z2 (Z3 24 Zd) (Z0 .i64)))))) (Lens.comp (Lens.comp (Lens.snd _ _) (Lens.snd _ _)) (Lens.fst _ _)) exec_run_o2.out (fun x y => { x with out := y }) (fun _ => rfl) (fun _ _ => rfl)
def lexec_run_o2_3 : Lens Z1g (Z3 24 Zd) := Lens.iso (k := (Z2 Z0q (Z2 (Z1 Zz) (Z2 kraw (Z2 (Z3 24 Zd) (Z0 .i64)))))) (Lens.comp (Lens.comp (Lens.comp (Lens.snd _ _) (Lens.snd _ _)) (Lens.snd _ _)) (Lens.fst _ _)) exec_run_o2.header (fun x y => { x with header := y }) (fun _ => rfl) (fun _ _ => rfl)
def Zg4 : Lens Z1g (Z0 .i64) := Lens.iso (k := (Z2 Z0q (Z2 (Z1 Zz) (Z2 kraw (Z2 (Z3 24 Zd) (Z0 .i64)))))) (Lens.comp (Lens.comp (Lens.comp (Lens.snd _ _) (Lens.snd _ _)) (Lens.snd _ _)) (Lens.snd _ _)) exec_run_o2.depth (fun x y => { x with depth := y }) (fun _ => rfl) (fun _ _ => rfl)
def Y4l : exec_run_o2 := ⟨Zbk, [], (.slice none 0 0), (Vector.replicate 24 Z0j), 0⟩
theorem Yfu : KZ Z1g Y4l (Zd4 ++ ([.slice none 0 0] ++ ([.slice none 0 0] ++ ((List.replicate 24 Z7t).flatten ++ [.int .i64 0])))) := Z22 (Z04 Zdr (Z04 (Z3v _) (Z04 (Zak rfl) (Z04 (Z4c 24 Z7e) Z1b))))
structure Place where
 Table : Int
 Flow : Int
 deriving DecidableEq, Inhabited
def Z44 : Kd Place := Z0v (Z2 (Z0 .i64) (Z0 .i64)) (fun x => (x.Table, x.Flow))
instance : PureK Z44 := inferInstanceAs (PureK (Z0v (Z2 (Z0 .i64) (Z0 .i64)) (fun (x : Place) => (x.Table, x.Flow))))
def lPlace_0 : Lens Z44 (Z0 .i64) := Lens.iso (k := (Z2 (Z0 .i64) (Z0 .i64))) (Lens.fst _ _) Place.Table (fun x y => { x with Table := y }) (fun _ => rfl) (fun _ _ => rfl)
def lPlace_1 : Lens Z44 (Z0 .i64) := Lens.iso (k := (Z2 (Z0 .i64) (Z0 .i64))) (Lens.snd _ _) Place.Flow (fun x y => { x with Flow := y }) (fun _ => rfl) (fun _ _ => rfl)
def Y5g : Place := ⟨0, 0⟩
def Ymf : List Value := ([.int .i64 0] ++ [.int .i64 0])
theorem Yo7 : KZ Z44 Y5g Ymf := Z22 (Z04 Z1b Z1b)
structure Z2k where
 Switch : Switch
 env : Env
 header : Z0e
 set : (List Action)
 out : (List Out)
 path : (List Place)
 deriving DecidableEq, Inhabited
structure sem_packet_o4_5 where
 Switch : Switch
 env : Env
 header : Z0e
 set : (List Action)
 out : Value
 path : Value
def Z1q : Kd sem_packet_o4_5 := Z0v (Z2 Z0b (Z2 Z0q (Z2 (Z3 24 Zd) (Z2 (Z1 Z9) (Z2 kraw kraw))))) (fun x => (x.Switch, (x.env, (x.header, (x.set, (x.out, x.path))))))
def lsem_packet_o4_5_0 : Lens Z1q Z0b := Lens.iso (k := (Z2 Z0b (Z2 Z0q (Z2 (Z3 24 Zd) (Z2 (Z1 Z9) (Z2 kraw kraw)))))) (Lens.fst _ _) sem_packet_o4_5.Switch (fun x y => { x with Switch := y }) (fun _ => rfl) (fun _ _ => rfl)
def lsem_packet_o4_5_1 : Lens Z1q Z0q := Lens.iso (k := (Z2 Z0b (Z2 Z0q (Z2 (Z3 24 Zd) (Z2 (Z1 Z9) (Z2 kraw kraw)))))) (Lens.comp (Lens.snd _ _) (Lens.fst _ _)) sem_packet_o4_5.env (fun x y => { x with env := y }) (fun _ => rfl) (fun _ _ => rfl)
def lsem_packet_o4_5_2 : Lens Z1q (Z3 24 Zd) := Lens.iso (k := (Z2 Z0b (Z2 Z0q (Z2 (Z3 24 Zd) (Z2 (Z1 Z9) (Z2 kraw kraw)))))) (Lens.comp (Lens.comp (Lens.snd _ _) (Lens.snd _ _)) (Lens.fst _ _)) sem_packet_o4_5.header (fun x y => { x with header := y }) (fun _ => rfl) (fun _ _ => rfl)
def Zld : Lens Z1q (Z1 Z9) := Lens.iso (k := (Z2 Z0b (Z2 Z0q (Z2 (Z3 24 Zd) (Z2 (Z1 Z9) (Z2 kraw kraw)))))) (Lens.comp (Lens.comp (Lens.comp (Lens.snd _ _) (Lens.snd _ _)) (Lens.snd _ _)) (Lens.fst _ _)) sem_packet_o4_5.set (fun x y => { x with set := y }) (fun _ => rfl) (fun _ _ => rfl)
def Zjh : Lens Z1q kraw := Lens.iso (k := (Z2 Z0b (Z2 Z0q (Z2 (Z3 24 Zd) (Z2 (Z1 Z9) (Z2 kraw kraw)))))) (Lens.comp (Lens.comp (Lens.comp (Lens.comp (Lens.snd _ _) (Lens.snd _ _)) (Lens.snd _ _)) (Lens.snd _ _)) (Lens.fst _ _)) sem_packet_o4_5.out (fun x y => { x with out := y }) (fun _ => rfl) (fun _ _ => rfl)
def Zj2 : Lens Z1q kraw := Lens.iso (k := (Z2 Z0b (Z2 Z0q (Z2 (Z3 24 Zd) (Z2 (Z1 Z9) (Z2 kraw kraw)))))) (Lens.comp (Lens.comp (Lens.comp (Lens.comp (Lens.snd _ _) (Lens.snd _ _)) (Lens.snd _ _)) (Lens.snd _ _)) (Lens.snd _ _)) sem_packet_o4_5.path (fun x y => { x with path := y }) (fun _ => rfl) (fun _ _ => rfl)
def Y4k : sem_packet_o4_5 := ⟨Zpi, Zbk, (Vector.replicate 24 Z0j), [], (.slice none 0 0), (.slice none 0 0)⟩
theorem Yk5 : KZ Z1q Y4k (Zvt ++ (Zd4 ++ ((List.replicate 24 Z7t).flatten ++ ([.slice none 0 0] ++ ([.slice none 0 0] ++ [.slice none 0 0]))))) := Z22 (Z04 Zsr (Z04 Zdr (Z04 (Z4c 24 Z7e) (Z04 (Z3v _) (Z04 (Zak rfl) (Zak rfl))))))
structure Z2g where
 Net : Net
 env : Env
 ends : (List End)
 deriving DecidableEq, Inhabited
structure trace_trip_o2 where
 Net : Net
 env : Env
 ends : Value
def Z2m : Kd trace_trip_o2 := Z0v (Z2 Z28 (Z2 Z0q kraw)) (fun x => (x.Net, (x.env, x.ends)))
def ltrace_trip_o2_0 : Lens Z2m Z28 := Lens.iso (k := (Z2 Z28 (Z2 Z0q kraw))) (Lens.fst _ _) trace_trip_o2.Net (fun x y => { x with Net := y }) (fun _ => rfl) (fun _ _ => rfl)
def ltrace_trip_o2_1 : Lens Z2m Z0q := Lens.iso (k := (Z2 Z28 (Z2 Z0q kraw))) (Lens.comp (Lens.snd _ _) (Lens.fst _ _)) trace_trip_o2.env (fun x y => { x with env := y }) (fun _ => rfl) (fun _ _ => rfl)
def Z91 : Lens Z2m kraw := Lens.iso (k := (Z2 Z28 (Z2 Z0q kraw))) (Lens.comp (Lens.snd _ _) (Lens.snd _ _)) trace_trip_o2.ends (fun x y => { x with ends := y }) (fun _ => rfl) (fun _ _ => rfl)
def Y50 : trace_trip_o2 := ⟨Zmg, Zbk, (.slice none 0 0)⟩
theorem Yix : KZ Z2m Y50 (Zts ++ (Zd4 ++ [.slice none 0 0])) := Z22 (Z04 Zt8 (Z04 Zdr (Zak rfl)))
theorem Z3q : Zr Tryz.prog 42 Zd Z0j := ⟨_, Z7e, by kernel_rfl⟩
theorem Z8v : Fl Tryz.prog 42 0 lWide_0 := ⟨by kernel_rfl, rfl⟩
theorem Z2o : Ty Tryz.prog 40 Z0n := ⟨by kernel_rfl, by kernel_rfl⟩
theorem Z82 : Fl Tryz.prog 42 1 lWide_1 := ⟨by kernel_rfl, rfl⟩
theorem Zhj : Z05 Tryz.prog 42 0 = some (lWide_0.off, Kd.sz Z0n) := by kernel_rfl
theorem Z9k : Z05 Tryz.prog 42 1 = some (lWide_1.off, Kd.sz Z0n) := by kernel_rfl
theorem Z7h : Z1s Tryz.prog 42 = true := by kernel_rfl
theorem Z02 : Ty Tryz.prog 42 Zd := ⟨by kernel_rfl, by kernel_rfl⟩
theorem Z4l : Fl Tryz.prog 85 0 lTern_0 := ⟨by kernel_rfl, rfl⟩
theorem Z3t : Fl Tryz.prog 85 1 lTern_1 := ⟨by kernel_rfl, rfl⟩
theorem Z00 : Ty Tryz.prog 87 (Z3 24 Z4) := ⟨by kernel_rfl, by kernel_rfl⟩
theorem Z4a : Ar Tryz.prog 87 85 24 Z4 := ⟨by kernel_rfl, by kernel_rfl⟩
theorem Z03 : Ty Tryz.prog 85 Z4 := ⟨by kernel_rfl, by kernel_rfl⟩
theorem Z2b : Zr Tryz.prog 85 Z4 zTern := ⟨_, Z73, by kernel_rfl⟩
theorem Ze2 : Ar Tryz.prog 44 42 24 Zd := ⟨by kernel_rfl, by kernel_rfl⟩
theorem Y4n : Fl Tryz.prog 103 4 lRay_4 := ⟨by kernel_rfl, rfl⟩
theorem Z0i : Ty Tryz.prog 44 (Z3 24 Zd) := ⟨by kernel_rfl, by kernel_rfl⟩
theorem Z4k : Zr Tryz.prog 44 (Z3 24 Zd) (Vector.replicate 24 Z0j) := ⟨_, (Z4c 24 Z7e), by kernel_rfl⟩
theorem Z0f : Ty Tryz.prog 101 (Z3 24 Z4) := ⟨by kernel_rfl, by kernel_rfl⟩
theorem Za4 : Ar Tryz.prog 101 85 24 Z4 := ⟨by kernel_rfl, by kernel_rfl⟩
theorem Ze3 : Zr Tryz.prog 69 Z1v Zxw := ⟨_, Yfm, by kernel_rfl⟩
theorem Y0z : Fl Tryz.prog 103 0 lRay_0 := ⟨by kernel_rfl, rfl⟩
theorem Zo : Ty Tryz.prog 3 (Z0 .i64) := ⟨by kernel_rfl, by kernel_rfl⟩
theorem Zza : Fl Tryz.prog 103 1 lRay_1 := ⟨by kernel_rfl, rfl⟩
theorem Ymv : Fl Tryz.prog 103 2 lRay_2 := ⟨by kernel_rfl, rfl⟩
theorem Zuy : Fl Tryz.prog 103 3 lRay_3 := ⟨by kernel_rfl, rfl⟩
theorem ty4 : Ty Tryz.prog 4 Z5 := ⟨by kernel_rfl, by kernel_rfl⟩
theorem Yh3 : Fl Tryz.prog 103 5 lRay_5 := ⟨by kernel_rfl, rfl⟩
theorem Zqt : Z05 Tryz.prog 69 0 = some (lEnd_0.off, Kd.sz (Z0 .i64)) := by kernel_rfl
theorem Zyr : Z05 Tryz.prog 69 1 = some (lEnd_1.off, Kd.sz (Z0 .i64)) := by kernel_rfl
theorem Zy0 : Z05 Tryz.prog 69 2 = some (lEnd_2.off, Kd.sz (Z0 .i64)) := by kernel_rfl
theorem Zv9 : Z05 Tryz.prog 69 3 = some (lEnd_3.off, Kd.sz Z5) := by kernel_rfl
theorem Zq8 : Z05 Tryz.prog 69 4 = some (lEnd_4.off, Kd.sz (Z3 24 Zd)) := by kernel_rfl
theorem Ztg : Z1s Tryz.prog 69 = true := by kernel_rfl
theorem Zh3 : Ty Tryz.prog 69 Z1v := ⟨by kernel_rfl, by kernel_rfl⟩
theorem Zi9 : Zr Tryz.prog 26 Z0b Zpi := ⟨_, Zsr, by kernel_rfl⟩
theorem Yhv : Z1s Tryz.prog 26 = true := by kernel_rfl
theorem Z5f : Ty Tryz.prog 26 Z0b := ⟨by kernel_rfl, by kernel_rfl⟩
theorem Y6l : Z05 Tryz.prog 121 0 = some (lAction_0.off, Kd.sz (Z0 .i64)) := by kernel_rfl
theorem Y8s : Z05 Tryz.prog 121 1 = some (lAction_1.off, Kd.sz (Z0 .i64)) := by kernel_rfl
theorem Z85 : Zr Tryz.prog 121 Z9 Zm9 := ⟨_, Yep, by kernel_rfl⟩
theorem Y87 : Z1s Tryz.prog 121 = true := by kernel_rfl
theorem Z15 : Sl Tryz.prog 122 121 Z9 := ⟨by kernel_rfl, by kernel_rfl⟩
theorem Ycb : Z05 Tryz.prog 124 0 = some (lInst_0.off, Kd.sz (Z0 .i64)) := by kernel_rfl
theorem Y8h : Z05 Tryz.prog 124 4 = some (lInst_4.off, Kd.sz (Z1 Z9)) := by kernel_rfl
theorem Z52 : Zr Tryz.prog 124 Z1e Zxh := ⟨_, Yhh, by kernel_rfl⟩
theorem Y45 : Z1s Tryz.prog 124 = true := by kernel_rfl
theorem Zew : Sl Tryz.prog 59 124 Z1e := ⟨by kernel_rfl, by kernel_rfl⟩
theorem Ydl : Z05 Tryz.prog 61 6 = some (lFlow_6.off, Kd.sz (Z1 Z1e)) := by kernel_rfl
theorem Zma : Zr Tryz.prog 61 Z16 Y3e := ⟨_, Yb1, by kernel_rfl⟩
theorem Y7p : Z1s Tryz.prog 61 = true := by kernel_rfl
theorem Z5d : Sl Tryz.prog 22 61 Z16 := ⟨by kernel_rfl, by kernel_rfl⟩
theorem Zdh : Fl Tryz.prog 26 0 Zan := ⟨by kernel_rfl, rfl⟩
theorem Zcw : Ar Tryz.prog 23 22 4 (Z1 Z16) := ⟨by kernel_rfl, by kernel_rfl⟩
theorem Z5k : Ty Tryz.prog 22 (Z1 Z16) := ⟨by kernel_rfl, by kernel_rfl⟩
theorem Z2c : Zr Tryz.prog 87 (Z3 24 Z4) (Vector.replicate 24 zTern) := ⟨_, (Z4c 24 Z73), by kernel_rfl⟩
theorem Z77 : Zr Tryz.prog 101 (Z3 24 Z4) (Vector.replicate 24 zTern) := ⟨_, (Z4c 24 Z73), by kernel_rfl⟩
theorem Zm3 : Fl Tryz.prog 61 1 Ziu := ⟨by kernel_rfl, rfl⟩
theorem Z14 : Sl Tryz.prog 37 3 (Z0 .i64) := ⟨by kernel_rfl, by kernel_rfl⟩
theorem us3 : (Tryz.prog.underlying 3).isSome = true := by kernel_rfl
theorem Zam : Tryz.prog.underlying 360 = some (.int .u64) := by kernel_rfl
theorem Zbu : (Tryz.prog.underlying 360).isSome = true := by kernel_rfl
theorem un3 : Tryz.prog.underlying 3 = some (.int .i64) := by kernel_rfl
theorem Znc : El Tryz.prog 37 3 (Z0 .i64) := ⟨by kernel_rfl, by kernel_rfl, by kernel_rfl, by kernel_rfl, by kernel_rfl⟩
theorem zr3 : Zr Tryz.prog 3 (Z0 .i64) 0 := ⟨_, Z1b, by kernel_rfl⟩
theorem Y4p : Zr Tryz.prog 369 (Z3 24 Z1u) (Vector.replicate 24 Zl0) := ⟨_, (Z4c 24 Y5o), by kernel_rfl⟩
theorem Yh9 : Z05 Tryz.prog 364 1 = some (lfield_row_1.off, Kd.sz (Z0 .i64)) := by kernel_rfl
theorem Z2h : Zr Tryz.prog 364 Z1u Zl0 := ⟨_, Y5o, by kernel_rfl⟩
theorem Y0l : Ty Tryz.prog 369 (Z3 24 Z1u) := ⟨by kernel_rfl, by kernel_rfl⟩
theorem Ym4 : Z1s Tryz.prog 364 = true := by kernel_rfl
theorem Zid : Ty Tryz.prog 364 Z1u := ⟨by kernel_rfl, by kernel_rfl⟩
theorem Yky : Ar Tryz.prog 369 364 24 Z1u := ⟨by kernel_rfl, by kernel_rfl⟩
theorem Y9f : Zm6 Tryz.prog 364 2 = some 3 := by kernel_rfl
theorem Ymq : Fl Tryz.prog 364 2 Z2l := ⟨by kernel_rfl, rfl⟩
theorem Zf7 : Fl Tryz.prog 119 0 Zeb := ⟨by kernel_rfl, rfl⟩
theorem Z8y : Z1s Tryz.prog 85 = true := by kernel_rfl
theorem Yne : Fl Tryz.prog 119 1 Zz4 := ⟨by kernel_rfl, rfl⟩
theorem Zuq : Fl Tryz.prog 119 2 Zsy := ⟨by kernel_rfl, rfl⟩
theorem Ym9 : Fl Tryz.prog 119 3 Zve := ⟨by kernel_rfl, rfl⟩
theorem Zbr : Z05 Tryz.prog 85 0 = some (lTern_0.off, Kd.sz Zd) := by kernel_rfl
theorem Zav : Z05 Tryz.prog 85 1 = some (lTern_1.off, Kd.sz Zd) := by kernel_rfl
theorem Zqm : Sl Tryz.prog 58 119 Z2e := ⟨by kernel_rfl, by kernel_rfl⟩
theorem Zo8 : Ty Tryz.prog 119 Z2e := ⟨by kernel_rfl, by kernel_rfl⟩
theorem Yil : Zr Tryz.prog 119 Z2e Zch := ⟨_, Y19, by kernel_rfl⟩
theorem Y1e : Fl Tryz.prog 61 5 Zrb := ⟨by kernel_rfl, rfl⟩
theorem Zys : Ty Tryz.prog 58 (Z1 Z2e) := ⟨by kernel_rfl, by kernel_rfl⟩
theorem Zh6 : Zr Tryz.prog 135 Z1n Zfr := ⟨_, Y9u, by kernel_rfl⟩
theorem Ziw : Fl Tryz.prog 135 1 lwalk_way_1 := ⟨by kernel_rfl, rfl⟩
theorem Z9w : Ty Tryz.prog 61 Z16 := ⟨by kernel_rfl, by kernel_rfl⟩
theorem Zv1 : Z1s Tryz.prog 135 = true := by kernel_rfl
theorem Z35 : Ty Tryz.prog 135 Z1n := ⟨by kernel_rfl, by kernel_rfl⟩
theorem Zqf : Fl Tryz.prog 135 0 lwalk_way_0 := ⟨by kernel_rfl, rfl⟩
theorem Y66 : Fl Tryz.prog 124 0 lInst_0 := ⟨by kernel_rfl, rfl⟩
theorem Z3z : Ty Tryz.prog 124 Z1e := ⟨by kernel_rfl, by kernel_rfl⟩
theorem Y4e : El Tryz.prog 122 121 Z9 := ⟨by kernel_rfl, by kernel_rfl, by kernel_rfl, by kernel_rfl, by kernel_rfl⟩
theorem Za5 : Fl Tryz.prog 124 4 lInst_4 := ⟨by kernel_rfl, rfl⟩
theorem Z3o : Ty Tryz.prog 122 (Z1 Z9) := ⟨by kernel_rfl, by kernel_rfl⟩
theorem Yf9 : Zr Tryz.prog 367 (Z3 2 Z0n) (Vector.replicate 2 0) := ⟨_, (Z4c 2 Zpq), by kernel_rfl⟩
theorem Zsg : Ar Tryz.prog 367 40 2 Z0n := ⟨by kernel_rfl, by kernel_rfl⟩
theorem Z8w : Fl Tryz.prog 121 0 lAction_0 := ⟨by kernel_rfl, rfl⟩
theorem Zsa : Fl Tryz.prog 121 5 Zm5 := ⟨by kernel_rfl, rfl⟩
theorem Zoy : Fl Tryz.prog 346 0 latom_trace_o1_0 := ⟨by kernel_rfl, rfl⟩
theorem Yfo : Z05 Tryz.prog 126 0 = some (lAtom_0.off, Kd.sz (Z3 24 Z4)) := by kernel_rfl
theorem Zd6 : Zr Tryz.prog 126 Z0a Y5x := ⟨_, Yij, by kernel_rfl⟩
theorem Y8y : Z1s Tryz.prog 126 = true := by kernel_rfl
theorem Zd2 : Ty Tryz.prog 126 Z0a := ⟨by kernel_rfl, by kernel_rfl⟩
theorem Zon : Fl Tryz.prog 121 1 lAction_1 := ⟨by kernel_rfl, rfl⟩
theorem Zjt : Fl Tryz.prog 126 2 Zfh := ⟨by kernel_rfl, rfl⟩
theorem Y3h : Fl Tryz.prog 121 2 Zt4 := ⟨by kernel_rfl, rfl⟩
theorem Y1q : Fl Tryz.prog 126 3 Zsv := ⟨by kernel_rfl, rfl⟩
theorem Zsx : Fl Tryz.prog 121 3 Zn8 := ⟨by kernel_rfl, rfl⟩
theorem Zwg : Fl Tryz.prog 126 1 Zua := ⟨by kernel_rfl, rfl⟩
theorem Z11 : Ty Tryz.prog 121 Z9 := ⟨by kernel_rfl, by kernel_rfl⟩
theorem Zq2 : Fl Tryz.prog 346 1 Zj9 := ⟨by kernel_rfl, rfl⟩
theorem Zsp : Ty Tryz.prog 88 kraw := ⟨by kernel_rfl, by kernel_rfl⟩
theorem Z7n : Sl Tryz.prog 88 126 Z0a := ⟨by kernel_rfl, by kernel_rfl⟩
theorem Zgw : El Tryz.prog 88 126 Z0a := ⟨by kernel_rfl, by kernel_rfl, by kernel_rfl, by kernel_rfl, by kernel_rfl⟩
theorem Yfw : Z05 Tryz.prog 346 0 = some (latom_trace_o1_0.off, Kd.sz (Z3 24 Z4)) := by kernel_rfl
theorem Yl7 : Zr Tryz.prog 346 Z5t Y4r := ⟨_, Yas, by kernel_rfl⟩
theorem Yfd : Z1s Tryz.prog 346 = true := by kernel_rfl
theorem Zkc : Fl Tryz.prog 135 2 Zg5 := ⟨by kernel_rfl, rfl⟩
theorem Zc5 : Ty Tryz.prog 88 (Z1 Z0a) := ⟨by kernel_rfl, by kernel_rfl⟩
theorem Zk5 : Zr Tryz.prog 275 Z6s Zov := ⟨_, Yev, by kernel_rfl⟩
theorem Zwq : Z05 Tryz.prog 275 0 = some (laset_spot_0.off, Kd.sz (Z0 .i64)) := by kernel_rfl
theorem Ydq : Z05 Tryz.prog 275 1 = some (laset_spot_1.off, Kd.sz (Z0 .i64)) := by kernel_rfl
theorem Zvi : Z1s Tryz.prog 275 = true := by kernel_rfl
theorem Zh5 : Ty Tryz.prog 275 Z6s := ⟨by kernel_rfl, by kernel_rfl⟩
theorem eqk3 : EqK Tryz.prog 1 3 (Z0 .i64) := Yf3 (by kernel_rfl)
theorem Yi4 : EqK Tryz.prog 2 275 Z6s := Ztd (fun x y e => by cases x; cases y; simp only [Prod.mk.injEq] at e; simp [e]) (l := _) (by kernel_rfl) (by kernel_rfl) (Zft eqk3 Zo (Zsk eqk3 Zo))
theorem Yjw : Tryz.prog.eqGuardType Tryz.prog.depth 275 = false := by kernel_rfl
theorem Y58 : Fl Tryz.prog 275 0 laset_spot_0 := ⟨by kernel_rfl, rfl⟩
theorem Zm7 : Fl Tryz.prog 275 1 laset_spot_1 := ⟨by kernel_rfl, rfl⟩
theorem zr4 : Zr Tryz.prog 4 Z5 false := ⟨_, Zdx, by kernel_rfl⟩
theorem Zme : Fl Tryz.prog 135 3 Zjw := ⟨by kernel_rfl, rfl⟩
theorem Zwt : Fl Tryz.prog 124 2 Zs7 := ⟨by kernel_rfl, rfl⟩
theorem Zy4 : Fl Tryz.prog 124 3 Zr3 := ⟨by kernel_rfl, rfl⟩
theorem Zgb : Fl Tryz.prog 124 1 Zd0 := ⟨by kernel_rfl, rfl⟩
theorem Zc6 : Zr Tryz.prog 90 Z09 Zy1 := ⟨_, Ymj, by kernel_rfl⟩
theorem Ybl : Z05 Tryz.prog 90 0 = some (lRule_0.off, Kd.sz (Z3 24 Z4)) := by kernel_rfl
theorem Ylt : Z05 Tryz.prog 90 1 = some (lRule_1.off, Kd.sz (Z1 Z0a)) := by kernel_rfl
theorem Ye7 : Z1s Tryz.prog 90 = true := by kernel_rfl
theorem Z9o : Ty Tryz.prog 90 Z09 := ⟨by kernel_rfl, by kernel_rfl⟩
theorem Zvn : Fl Tryz.prog 131 0 (Lens.fst Z0b kraw) := ⟨by kernel_rfl, rfl⟩
theorem Y55 (A : Z6) : Fl Tryz.prog 131 0 (Zqu Z0b A) := ⟨Zvn.1, Zvn.2⟩
theorem Y25 : Fl Tryz.prog 131 1 (Lens.snd Z0b kraw) := ⟨by kernel_rfl, rfl⟩
theorem Y21 (A : Z6) : Fl Tryz.prog 131 1 (Zrw Z0b A) := ⟨Y25.1, Y25.2⟩
theorem tyr92 : Ty Tryz.prog 92 kraw := ⟨by kernel_rfl, by kernel_rfl⟩
theorem Y30 (A : Z6) : Ty Tryz.prog 92 (kas A) := ⟨tyr92.sz, tyr92.ag⟩
theorem Zly : Fl Tryz.prog 61 6 lFlow_6 := ⟨by kernel_rfl, rfl⟩
theorem Znu : Ty Tryz.prog 59 (Z1 Z1e) := ⟨by kernel_rfl, by kernel_rfl⟩
theorem Yej : Zr Tryz.prog 131 (Z2 Z0b kraw) (Zpi, .nilFunc) := ⟨_, Z04 Zsr (Zak rfl), by kernel_rfl⟩
theorem Yio : Z05 Tryz.prog 135 0 = some (lwalk_way_0.off, Kd.sz (Z3 24 Z4)) := by kernel_rfl
theorem Yha : Z05 Tryz.prog 135 1 = some (lwalk_way_1.off, Kd.sz (Z3 24 Z4)) := by kernel_rfl
theorem Z4x : Sl Tryz.prog 32 90 Z09 := ⟨by kernel_rfl, by kernel_rfl⟩
theorem Zs1 : El Tryz.prog 32 90 Z09 := ⟨by kernel_rfl, by kernel_rfl, by kernel_rfl, by kernel_rfl, by kernel_rfl⟩
theorem Zuc : Ty Tryz.prog 32 kraw := ⟨by kernel_rfl, by kernel_rfl⟩
theorem Yo3 : Fl Tryz.prog 288 1 lcover_purse_1 := ⟨by kernel_rfl, rfl⟩
theorem Zq5 : Fl Tryz.prog 288 0 lcover_purse_0 := ⟨by kernel_rfl, rfl⟩
theorem Z7j : Sl Tryz.prog 229 87 (Z3 24 Z4) := ⟨by kernel_rfl, by kernel_rfl⟩
theorem Y7q : Zm6 Tryz.prog 85 0 = some 42 := by kernel_rfl
theorem Y72 : (Tryz.prog.underlying 40).isSome = true := by kernel_rfl
theorem tyr286 : Ty Tryz.prog 286 kraw := ⟨by kernel_rfl, by kernel_rfl⟩
theorem Zvl (A : Z6) : Ty Tryz.prog 286 (kas A) := ⟨tyr286.sz, tyr286.ag⟩
theorem Y5y : Fl Tryz.prog 290 0 lcover_look_0 := ⟨by kernel_rfl, rfl⟩
theorem Zor : Ty Tryz.prog 229 (Z1 (Z3 24 Z4)) := ⟨by kernel_rfl, by kernel_rfl⟩
theorem Ymp : Z05 Tryz.prog 288 0 = some (lcover_purse_0.off, Kd.sz (Z0 .i64)) := by kernel_rfl
theorem Y8p : Z05 Tryz.prog 288 1 = some (lcover_purse_1.off, Kd.sz Z5) := by kernel_rfl
theorem Yab : Zr Tryz.prog 288 Z6d Zs4 := ⟨_, Y1w, by kernel_rfl⟩
theorem Ych : Z1s Tryz.prog 288 = true := by kernel_rfl
theorem Y7y : Z05 Tryz.prog 290 0 = some (lcover_look_0.off, Kd.sz Z6d) := by kernel_rfl
theorem Yar : Zr Tryz.prog 290 Z1z Zw1 := ⟨_, Ycg, by kernel_rfl⟩
theorem Yfg : Z1s Tryz.prog 290 = true := by kernel_rfl
theorem Zry : Fl Tryz.prog 90 1 lRule_1 := ⟨by kernel_rfl, rfl⟩
theorem Zpl : Fl Tryz.prog 90 0 lRule_0 := ⟨by kernel_rfl, rfl⟩
theorem Zyp : El Tryz.prog 229 87 (Z3 24 Z4) := ⟨by kernel_rfl, by kernel_rfl, by kernel_rfl, by kernel_rfl, by kernel_rfl⟩
theorem Zs5 : Fl Tryz.prog 164 0 Znk := ⟨by kernel_rfl, rfl⟩
theorem Z5s : Sl Tryz.prog 24 164 Zz := ⟨by kernel_rfl, by kernel_rfl⟩
theorem Z5e : Ty Tryz.prog 164 Zz := ⟨by kernel_rfl, by kernel_rfl⟩
theorem Zyl : El Tryz.prog 24 164 Zz := ⟨by kernel_rfl, by kernel_rfl, by kernel_rfl, by kernel_rfl, by kernel_rfl⟩
theorem Zc1 : Zr Tryz.prog 164 Zz Zow := ⟨_, Y2m, by kernel_rfl⟩
theorem Z5g : Sl Tryz.prog 162 226 Z1y := ⟨by kernel_rfl, by kernel_rfl⟩
theorem Ynm : El Tryz.prog 162 226 Z1y := ⟨by kernel_rfl, by kernel_rfl, by kernel_rfl, by kernel_rfl, by kernel_rfl⟩
theorem Y27 : Zr Tryz.prog 226 Z1y Zv2 := ⟨_, Ykq, by kernel_rfl⟩
theorem Zge : Fl Tryz.prog 226 3 Zcm := ⟨by kernel_rfl, rfl⟩
theorem Z8g : Fl Tryz.prog 164 2 Z7p := ⟨by kernel_rfl, rfl⟩
theorem Z90 : Ty Tryz.prog 162 (Z1 Z1y) := ⟨by kernel_rfl, by kernel_rfl⟩
theorem Yc1 : Z1s Tryz.prog 164 = true := by kernel_rfl
theorem Zmc : Zr Tryz.prog 73 Z5n Zr9 := ⟨_, Zwa, by kernel_rfl⟩
theorem Y04 : Z1s Tryz.prog 73 = true := by kernel_rfl
theorem Zbp : Ty Tryz.prog 73 Z5n := ⟨by kernel_rfl, by kernel_rfl⟩
theorem Zph : Fl Tryz.prog 26 1 Ziz := ⟨by kernel_rfl, rfl⟩
theorem Zcn : Ty Tryz.prog 24 (Z1 Zz) := ⟨by kernel_rfl, by kernel_rfl⟩
theorem Ylx : Z05 Tryz.prog 73 0 = some (lFlat_0.off, Kd.sz (Z1 Z09)) := by kernel_rfl
theorem Y61 : Z05 Tryz.prog 73 1 = some (lFlat_1.off, Kd.sz (Z1 Zz)) := by kernel_rfl
theorem Zgx : Fl Tryz.prog 338 0 lslice_heap_o0_0 := ⟨by kernel_rfl, rfl⟩
theorem Zh8 : Ty Tryz.prog 229 kraw := ⟨by kernel_rfl, by kernel_rfl⟩
theorem Y9y : Fl Tryz.prog 338 1 lslice_heap_o0_1 := ⟨by kernel_rfl, rfl⟩
theorem tyr336 : Ty Tryz.prog 336 kraw := ⟨by kernel_rfl, by kernel_rfl⟩
theorem Ziv (A : Z6) : Ty Tryz.prog 336 (kas A) := ⟨tyr336.sz, tyr336.ag⟩
theorem Ziy : Fl Tryz.prog 73 0 lFlat_0 := ⟨by kernel_rfl, rfl⟩
theorem Zin : Ty Tryz.prog 32 (Z1 Z09) := ⟨by kernel_rfl, by kernel_rfl⟩
theorem Ycd : Z05 Tryz.prog 338 0 = some (lslice_heap_o0_0.off, Kd.sz kraw) := by kernel_rfl
theorem Y8e : Z05 Tryz.prog 338 1 = some (lslice_heap_o0_1.off, Kd.sz (Z0 .i64)) := by kernel_rfl
theorem Yjc : Zr Tryz.prog 338 Z1r Zvr := ⟨_, Y9s, by kernel_rfl⟩
theorem Yac : Z1s Tryz.prog 338 = true := by kernel_rfl
theorem Zt7 : Sl Tryz.prog 248 229 (Z1 (Z3 24 Z4)) := ⟨by kernel_rfl, by kernel_rfl⟩
theorem Ync : Zr Tryz.prog 229 (Z1 (Z3 24 Z4)) [] := ⟨_, (Z3v _), by kernel_rfl⟩
theorem Ydi : El Tryz.prog 248 229 (Z1 (Z3 24 Z4)) := ⟨by kernel_rfl, by kernel_rfl, by kernel_rfl, by kernel_rfl, by kernel_rfl⟩
theorem Zes : Fl Tryz.prog 67 0 lNet_0 := ⟨by kernel_rfl, rfl⟩
theorem Zcz : Ty Tryz.prog 64 (Z1 Z0b) := ⟨by kernel_rfl, by kernel_rfl⟩
theorem Z8i : Sl Tryz.prog 64 26 Z0b := ⟨by kernel_rfl, by kernel_rfl⟩
theorem Yjh : Z05 Tryz.prog 252 0 = some (lspread_table_0.off, Kd.sz Z5n) := by kernel_rfl
theorem Ym3 : Z05 Tryz.prog 252 1 = some (lspread_table_1.off, Kd.sz (Z1 (Z1 (Z3 24 Z4)))) := by kernel_rfl
theorem Zse : Zr Tryz.prog 252 Z2i Zvx := ⟨_, Yhf, by kernel_rfl⟩
theorem Ydx : Z1s Tryz.prog 252 = true := by kernel_rfl
theorem Zw0 : Sl Tryz.prog 181 252 Z2i := ⟨by kernel_rfl, by kernel_rfl⟩
theorem Yhg : El Tryz.prog 181 252 Z2i := ⟨by kernel_rfl, by kernel_rfl, by kernel_rfl, by kernel_rfl, by kernel_rfl⟩
theorem Zdp : Zr Tryz.prog 189 Z2u Zvq := ⟨_, Ym1, by kernel_rfl⟩
theorem Zf0 : Fl Tryz.prog 189 1 lspread_beam_1 := ⟨by kernel_rfl, rfl⟩
theorem Ztu : Z1s Tryz.prog 189 = true := by kernel_rfl
theorem Z6h : Ty Tryz.prog 189 Z2u := ⟨by kernel_rfl, by kernel_rfl⟩
theorem Zk3 : Fl Tryz.prog 189 0 lspread_beam_0 := ⟨by kernel_rfl, rfl⟩
theorem Ymb : Fl Tryz.prog 39 0 Y4v := ⟨by kernel_rfl, rfl⟩
theorem Y01 : Fl Tryz.prog 39 1 Zrk := ⟨by kernel_rfl, rfl⟩
theorem Y4m : Ty Tryz.prog 37 (Z1 (Z0 .i64)) := ⟨by kernel_rfl, by kernel_rfl⟩
theorem Zzw : Fl Tryz.prog 328 0 lenv_world_0 := ⟨by kernel_rfl, rfl⟩
theorem Z4n : Ty Tryz.prog 39 Z0q := ⟨by kernel_rfl, by kernel_rfl⟩
theorem Ycs : Fl Tryz.prog 226 1 Y0x := ⟨by kernel_rfl, rfl⟩
theorem Ztv : Ty Tryz.prog 226 Z1y := ⟨by kernel_rfl, by kernel_rfl⟩
theorem Zie : Fl Tryz.prog 328 1 lenv_world_1 := ⟨by kernel_rfl, rfl⟩
theorem Yh5 : Z05 Tryz.prog 328 0 = some (lenv_world_0.off, Kd.sz Z0q) := by kernel_rfl
theorem Ygf : Z05 Tryz.prog 328 1 = some (lenv_world_1.off, Kd.sz Zz) := by kernel_rfl
theorem Y0i : Zr Tryz.prog 328 Zbz Y4o := ⟨_, Ycn, by kernel_rfl⟩
theorem Y9c : Z1s Tryz.prog 328 = true := by kernel_rfl
theorem Zx3 : Ty Tryz.prog 328 Zbz := ⟨by kernel_rfl, by kernel_rfl⟩
theorem Y9v : Fl Tryz.prog 164 1 Zwf := ⟨by kernel_rfl, rfl⟩
theorem Zxm : Ty Tryz.prog 307 Z45 := ⟨by kernel_rfl, by kernel_rfl⟩
theorem Zn1 : Fl Tryz.prog 126 0 lAtom_0 := ⟨by kernel_rfl, rfl⟩
theorem Y8n : Fl Tryz.prog 307 1 lnorm_world_1 := ⟨by kernel_rfl, rfl⟩
theorem Zpz : Fl Tryz.prog 307 2 Zox := ⟨by kernel_rfl, rfl⟩
theorem Ygz : Fl Tryz.prog 307 0 lnorm_world_0 := ⟨by kernel_rfl, rfl⟩
theorem Yno : Z05 Tryz.prog 307 0 = some (lnorm_world_0.off, Kd.sz Z0q) := by kernel_rfl
theorem Ykh : Z05 Tryz.prog 307 1 = some (lnorm_world_1.off, Kd.sz (Z1 Zz)) := by kernel_rfl
theorem Yjz : Zr Tryz.prog 307 Z45 Y11 := ⟨_, Yhc, by kernel_rfl⟩
theorem Yg9 : Z1s Tryz.prog 307 = true := by kernel_rfl
theorem Y0p : Z05 Tryz.prog 189 0 = some (lspread_beam_0.off, Kd.sz (Z3 24 Z4)) := by kernel_rfl
theorem Y2x : Z05 Tryz.prog 189 1 = some (lspread_beam_1.off, Kd.sz (Z3 24 Z4)) := by kernel_rfl
theorem Y5z : Fl Tryz.prog 152 0 lLink_0 := ⟨by kernel_rfl, rfl⟩
theorem Ym2 : Fl Tryz.prog 152 1 lLink_1 := ⟨by kernel_rfl, rfl⟩
theorem Z65 : Ty Tryz.prog 67 Z28 := ⟨by kernel_rfl, by kernel_rfl⟩
theorem Y2h : Fl Tryz.prog 152 2 lLink_2 := ⟨by kernel_rfl, rfl⟩
theorem Zhp : Sl Tryz.prog 65 152 Z36 := ⟨by kernel_rfl, by kernel_rfl⟩
theorem Yn5 : Ty Tryz.prog 152 Z36 := ⟨by kernel_rfl, by kernel_rfl⟩
theorem Zoz : Fl Tryz.prog 67 1 lNet_1 := ⟨by kernel_rfl, rfl⟩
theorem Zo3 : Ty Tryz.prog 65 (Z1 Z36) := ⟨by kernel_rfl, by kernel_rfl⟩
theorem Y91 : Fl Tryz.prog 152 3 lLink_3 := ⟨by kernel_rfl, rfl⟩
theorem Zbb : Fl Tryz.prog 186 4 Z7w := ⟨by kernel_rfl, rfl⟩
theorem Zah : Ty Tryz.prog 108 kraw := ⟨by kernel_rfl, by kernel_rfl⟩
theorem Y3r : Z05 Tryz.prog 103 0 = some (lRay_0.off, Kd.sz (Z0 .i64)) := by kernel_rfl
theorem Zw7 : Z05 Tryz.prog 103 4 = some (lRay_4.off, Kd.sz (Z3 24 Z4)) := by kernel_rfl
theorem Y3b : Z05 Tryz.prog 103 5 = some (lRay_5.off, Kd.sz (Z3 24 Z4)) := by kernel_rfl
theorem Zlo : Zr Tryz.prog 103 Z0z Y2b := ⟨_, Yhy, by kernel_rfl⟩
theorem Y1s : Z1s Tryz.prog 103 = true := by kernel_rfl
theorem Z88 : Sl Tryz.prog 108 103 Z0z := ⟨by kernel_rfl, by kernel_rfl⟩
theorem Zwi : El Tryz.prog 108 103 Z0z := ⟨by kernel_rfl, by kernel_rfl, by kernel_rfl, by kernel_rfl, by kernel_rfl⟩
theorem Ycx : Fl Tryz.prog 186 2 lspread_sun_o4_2 := ⟨by kernel_rfl, rfl⟩
theorem Yey : Ty Tryz.prog 181 (Z1 Z2i) := ⟨by kernel_rfl, by kernel_rfl⟩
theorem Y3i : Ty Tryz.prog 252 Z2i := ⟨by kernel_rfl, by kernel_rfl⟩
theorem Ybk : Fl Tryz.prog 252 1 lspread_table_1 := ⟨by kernel_rfl, rfl⟩
theorem Ynd : Ty Tryz.prog 248 (Z1 (Z1 (Z3 24 Z4))) := ⟨by kernel_rfl, by kernel_rfl⟩
theorem Zx1 : Fl Tryz.prog 186 3 lspread_sun_o4_3 := ⟨by kernel_rfl, rfl⟩
theorem Zyf : Fl Tryz.prog 252 0 lspread_table_0 := ⟨by kernel_rfl, rfl⟩
theorem Y9i : Fl Tryz.prog 73 1 lFlat_1 := ⟨by kernel_rfl, rfl⟩
theorem Y6g : Fl Tryz.prog 186 1 lspread_sun_o4_1 := ⟨by kernel_rfl, rfl⟩
theorem Yal : Fl Tryz.prog 186 0 lspread_sun_o4_0 := ⟨by kernel_rfl, rfl⟩
theorem Y6e : Z05 Tryz.prog 103 1 = some (lRay_1.off, Kd.sz (Z0 .i64)) := by kernel_rfl
theorem Yng : Z05 Tryz.prog 103 2 = some (lRay_2.off, Kd.sz (Z0 .i64)) := by kernel_rfl
theorem Y7j : Z05 Tryz.prog 103 3 = some (lRay_3.off, Kd.sz Z5) := by kernel_rfl
theorem Zzt : Tryz.prog.underlying 40 = some (.int .u64) := by kernel_rfl
theorem Yip : Z05 Tryz.prog 186 0 = some (lspread_sun_o4_0.off, Kd.sz Z28) := by kernel_rfl
theorem Yic : Z05 Tryz.prog 186 1 = some (lspread_sun_o4_1.off, Kd.sz Z0q) := by kernel_rfl
theorem Y8o : Z05 Tryz.prog 186 2 = some (lspread_sun_o4_2.off, Kd.sz (Z1 Z2i)) := by kernel_rfl
theorem Yf8 : Z05 Tryz.prog 186 3 = some (lspread_sun_o4_3.off, Kd.sz (Z0 .i64)) := by kernel_rfl
theorem Yd1 : Zr Tryz.prog 186 Z17 Y26 := ⟨_, Yin, by kernel_rfl⟩
theorem Ybf : Z1s Tryz.prog 186 = true := by kernel_rfl
theorem Yjf : Z05 Tryz.prog 152 0 = some (lLink_0.off, Kd.sz (Z0 .i64)) := by kernel_rfl
theorem Ymx : Z05 Tryz.prog 152 1 = some (lLink_1.off, Kd.sz (Z0 .i64)) := by kernel_rfl
theorem Ynb : Z05 Tryz.prog 152 2 = some (lLink_2.off, Kd.sz (Z0 .i64)) := by kernel_rfl
theorem Yfy : Z05 Tryz.prog 152 3 = some (lLink_3.off, Kd.sz (Z0 .i64)) := by kernel_rfl
theorem Y4d : Zr Tryz.prog 152 Z36 Y4t := ⟨_, Y83, by kernel_rfl⟩
theorem Yk9 : Z1s Tryz.prog 152 = true := by kernel_rfl
theorem Yfa : Z05 Tryz.prog 67 0 = some (lNet_0.off, Kd.sz (Z1 Z0b)) := by kernel_rfl
theorem Ygp : Z05 Tryz.prog 67 1 = some (lNet_1.off, Kd.sz (Z1 Z36)) := by kernel_rfl
theorem Y0t : Zr Tryz.prog 67 Z28 Zmg := ⟨_, Zt8, by kernel_rfl⟩
theorem Yn3 : Z1s Tryz.prog 67 = true := by kernel_rfl
theorem Y0h : Zr Tryz.prog 39 Z0q Zbk := ⟨_, Zdr, by kernel_rfl⟩
theorem Y1m : Z1s Tryz.prog 39 = true := by kernel_rfl
theorem Ziq : Ty Tryz.prog 103 Z0z := ⟨by kernel_rfl, by kernel_rfl⟩
theorem Yau : Fl Tryz.prog 69 3 lEnd_3 := ⟨by kernel_rfl, rfl⟩
theorem Yhe : Fl Tryz.prog 69 0 lEnd_0 := ⟨by kernel_rfl, rfl⟩
theorem Yco : Fl Tryz.prog 69 1 lEnd_1 := ⟨by kernel_rfl, rfl⟩
theorem Yo8 : Fl Tryz.prog 69 4 lEnd_4 := ⟨by kernel_rfl, rfl⟩
theorem eqk4 : EqK Tryz.prog 1 4 Z5 := Ycp (by kernel_rfl)
theorem Zzj : EqK Tryz.prog 1 40 Z0n := Yfj (by kernel_rfl)
theorem Y9j : EqK Tryz.prog 2 42 Zd := Ztd (fun x y e => by cases x; cases y; simp only [Prod.mk.injEq] at e; simp [e]) (l := _) (by kernel_rfl) (by kernel_rfl) (Zft Zzj Z2o (Zsk Zzj Z2o))
theorem Yc4 : EqK Tryz.prog 3 44 (Z3 24 Zd) := Ylk Y9j Z02 Ze2
theorem Yhr : EqK Tryz.prog 4 69 Z1v := Ztd (fun x y e => by cases x; cases y; simp only [Prod.mk.injEq] at e; simp [e]) (l := _) (by kernel_rfl) (by kernel_rfl) (Zft (eqk3.le (by decide)) Zo (Zft (eqk3.le (by decide)) Zo (Zft (eqk3.le (by decide)) Zo (Zft (eqk4.le (by decide)) ty4 (Zsk Yc4 Z0i)))))
theorem Y7f : Tryz.prog.eqGuardType Tryz.prog.depth 69 = false := by kernel_rfl
theorem Y3u : Ty Tryz.prog 23 (Z3 4 (Z1 Z16)) := ⟨by kernel_rfl, by kernel_rfl⟩
theorem Yhd : Fl Tryz.prog 237 1 lexec_run_o2_1 := ⟨by kernel_rfl, rfl⟩
theorem Zim : Fl Tryz.prog 237 4 Zg4 := ⟨by kernel_rfl, rfl⟩
theorem Zg2 : Fl Tryz.prog 237 3 lexec_run_o2_3 := ⟨by kernel_rfl, rfl⟩
theorem Ylg : Fl Tryz.prog 237 0 lexec_run_o2_0 := ⟨by kernel_rfl, rfl⟩
theorem Zso : Fl Tryz.prog 237 2 Zkv := ⟨by kernel_rfl, rfl⟩
theorem Zhb : Ty Tryz.prog 46 kraw := ⟨by kernel_rfl, by kernel_rfl⟩
theorem Yih : Z05 Tryz.prog 71 0 = some (lOut_0.off, Kd.sz (Z0 .i64)) := by kernel_rfl
theorem Yao : Z05 Tryz.prog 71 1 = some (lOut_1.off, Kd.sz (Z0 .i64)) := by kernel_rfl
theorem Ygq : Z05 Tryz.prog 71 2 = some (lOut_2.off, Kd.sz (Z3 24 Zd)) := by kernel_rfl
theorem Zqe : Zr Tryz.prog 71 Z0r Zv6 := ⟨_, Yeh, by kernel_rfl⟩
theorem Yku : Z1s Tryz.prog 71 = true := by kernel_rfl
theorem Zql : Sl Tryz.prog 46 71 Z0r := ⟨by kernel_rfl, by kernel_rfl⟩
theorem Y05 : El Tryz.prog 46 71 Z0r := ⟨by kernel_rfl, by kernel_rfl, by kernel_rfl, by kernel_rfl, by kernel_rfl⟩
theorem Ykg : Z05 Tryz.prog 237 0 = some (lexec_run_o2_0.off, Kd.sz Z0q) := by kernel_rfl
theorem Ydo : Z05 Tryz.prog 237 1 = some (lexec_run_o2_1.off, Kd.sz (Z1 Zz)) := by kernel_rfl
theorem Y70 : Z05 Tryz.prog 237 3 = some (lexec_run_o2_3.off, Kd.sz (Z3 24 Zd)) := by kernel_rfl
theorem Yj8 : Zr Tryz.prog 237 Z1g Y4l := ⟨_, Yfu, by kernel_rfl⟩
theorem Y9m : Z1s Tryz.prog 237 = true := by kernel_rfl
theorem Zqg : Fl Tryz.prog 144 0 lsem_packet_o4_5_0 := ⟨by kernel_rfl, rfl⟩
theorem Ygv : Fl Tryz.prog 144 1 lsem_packet_o4_5_1 := ⟨by kernel_rfl, rfl⟩
theorem Zlh : Fl Tryz.prog 144 2 lsem_packet_o4_5_2 := ⟨by kernel_rfl, rfl⟩
theorem Zs8 : Fl Tryz.prog 144 4 Zjh := ⟨by kernel_rfl, rfl⟩
theorem Zpc : Fl Tryz.prog 144 3 Zld := ⟨by kernel_rfl, rfl⟩
theorem Znm : Fl Tryz.prog 144 5 Zj2 := ⟨by kernel_rfl, rfl⟩
theorem Zpb : Ty Tryz.prog 49 kraw := ⟨by kernel_rfl, by kernel_rfl⟩
theorem Zvg : Z05 Tryz.prog 51 0 = some (lPlace_0.off, Kd.sz (Z0 .i64)) := by kernel_rfl
theorem Y51 : Z05 Tryz.prog 51 1 = some (lPlace_1.off, Kd.sz (Z0 .i64)) := by kernel_rfl
theorem Zo4 : Zr Tryz.prog 51 Z44 Y5g := ⟨_, Yo7, by kernel_rfl⟩
theorem Zwn : Z1s Tryz.prog 51 = true := by kernel_rfl
theorem Y2w : Sl Tryz.prog 49 51 Z44 := ⟨by kernel_rfl, by kernel_rfl⟩
theorem Zzi : El Tryz.prog 49 51 Z44 := ⟨by kernel_rfl, by kernel_rfl, by kernel_rfl, by kernel_rfl, by kernel_rfl⟩
theorem Yfh : Z05 Tryz.prog 144 0 = some (lsem_packet_o4_5_0.off, Kd.sz Z0b) := by kernel_rfl
theorem Ynu : Z05 Tryz.prog 144 1 = some (lsem_packet_o4_5_1.off, Kd.sz Z0q) := by kernel_rfl
theorem Ynt : Z05 Tryz.prog 144 2 = some (lsem_packet_o4_5_2.off, Kd.sz (Z3 24 Zd)) := by kernel_rfl
theorem Yck : Zr Tryz.prog 144 Z1q Y4k := ⟨_, Yk5, by kernel_rfl⟩
theorem Y9b : Z1s Tryz.prog 144 = true := by kernel_rfl
theorem Zgk : Fl Tryz.prog 156 2 Z91 := ⟨by kernel_rfl, rfl⟩
theorem Zfd : Ty Tryz.prog 62 kraw := ⟨by kernel_rfl, by kernel_rfl⟩
theorem Znw : Sl Tryz.prog 62 69 Z1v := ⟨by kernel_rfl, by kernel_rfl⟩
theorem Zwv : El Tryz.prog 62 69 Z1v := ⟨by kernel_rfl, by kernel_rfl, by kernel_rfl, by kernel_rfl, by kernel_rfl⟩
theorem Zs9 : Fl Tryz.prog 156 0 ltrace_trip_o2_0 := ⟨by kernel_rfl, rfl⟩
theorem Y7e : Fl Tryz.prog 156 1 ltrace_trip_o2_1 := ⟨by kernel_rfl, rfl⟩
theorem Y5n : Ty Tryz.prog 71 Z0r := ⟨by kernel_rfl, by kernel_rfl⟩
theorem Zz5 : Fl Tryz.prog 71 0 lOut_0 := ⟨by kernel_rfl, rfl⟩
theorem Yn9 : Fl Tryz.prog 71 1 lOut_1 := ⟨by kernel_rfl, rfl⟩
theorem Y5s : Fl Tryz.prog 71 2 lOut_2 := ⟨by kernel_rfl, rfl⟩
theorem Y8k : Z05 Tryz.prog 156 0 = some (ltrace_trip_o2_0.off, Kd.sz Z28) := by kernel_rfl
theorem Ygx : Z05 Tryz.prog 156 1 = some (ltrace_trip_o2_1.off, Kd.sz Z0q) := by kernel_rfl
theorem Yf5 : Zr Tryz.prog 156 Z2m Y50 := ⟨_, Yix, by kernel_rfl⟩
theorem Yd6 : Z1s Tryz.prog 156 = true := by kernel_rfl
theorem Zw : Tryz.prog.follows .mixedOrders = true := by kernel_rfl
end Go.Proofs.YtknpgojdkobgjaaGreat.W
set_option maxRecDepth 4000
namespace Go.Proofs.YtknpgojdkobgjaaGreat.W
open Go Go.Wb
theorem Yah : Ent Tryz.prog 237 := Ent.mk Tryz.func237 rfl rfl
theorem Zk2 : Ent Tryz.prog 177 := Ent.mk Tryz.func177 rfl rfl
theorem Yid : Ent Tryz.prog 174 := Ent.mk Tryz.func174 rfl rfl
theorem Zpx : Ent Tryz.prog 173 := Ent.mk Tryz.func173 rfl rfl
theorem Zrm : Ent Tryz.prog 106 := Ent.mk Tryz.func106 rfl rfl
theorem e50 : Ent Tryz.prog 50 := Ent.mk Tryz.func50 rfl rfl
def Ztk (a1 : Wide) (b2 : Wide) : Option Wide :=
 some (⟨(a1.Hi ^^^ b2.Hi), (a1.Lo ^^^ b2.Lo)⟩ : Wide)
theorem Ydn : Q2 Tryz.prog 237 (rd Zd) (rd Zd) (rd Zd) Ztk := fun a1 b2 r h => I0 Tryz.func237 rfl Tryz.ntmps237 rfl fun w H => by
 unfold Ztk at h
 refine SR <| Cv rfl (Zm 3 rfl rfl (vt rfl)) fun g3 => Cv rfl (Zm 4 rfl rfl (vt rfl)) fun g4 => Cv rfl (Zp 5 rfl rfl Z3q) fun g5 => Nl <| SR <| Zf lWide_0 Z8v rfl <| Ld Z2o 3 rfl <| Zf lWide_0 Z8v rfl <| Ld Z2o 4 rfl <| Ac (Y29 rfl rfl (vt rfl) (vt rfl)) rfl <| Zf lWide_1 Z82 rfl <| Ld Z2o 3 rfl <| Zf lWide_1 Z82 rfl <| Ld Z2o 4 rfl <| Ac (Y29 rfl rfl (vt rfl) (vt rfl)) rfl <| Ac (opb (⟨(a1.Hi ^^^ b2.Hi), (a1.Lo ^^^ b2.Lo)⟩ : Wide) Z3q rfl Z7h (pc Zhj (vt rfl) <| pc Z9k (vt rfl) <| pn rfl)) rfl <| Zh Z02 5 rfl <| Nl <| rt ?_
 cases h; exact Zg Tryz.results237 rfl (Z01 rfl (i := 5) rfl Z02)
def Zbi (a1 : Wide) (b2 : Wide) : Option Wide :=
 some (⟨(a1.Hi &&& b2.Hi), (a1.Lo &&& b2.Lo)⟩ : Wide)
theorem Zka : Q2 Tryz.prog 177 (rd Zd) (rd Zd) (rd Zd) Zbi := fun a1 b2 r h => I0 Tryz.func177 rfl Tryz.ntmps177 rfl fun w H => by
 unfold Zbi at h
 refine SR <| Cv rfl (Zm 3 rfl rfl (vt rfl)) fun g3 => Cv rfl (Zm 4 rfl rfl (vt rfl)) fun g4 => Cv rfl (Zp 5 rfl rfl Z3q) fun g5 => Nl <| SR <| Zf lWide_0 Z8v rfl <| Ld Z2o 3 rfl <| Zf lWide_0 Z8v rfl <| Ld Z2o 4 rfl <| Ac (Zco rfl rfl (vt rfl) (vt rfl)) rfl <| Zf lWide_1 Z82 rfl <| Ld Z2o 3 rfl <| Zf lWide_1 Z82 rfl <| Ld Z2o 4 rfl <| Ac (Zco rfl rfl (vt rfl) (vt rfl)) rfl <| Ac (opb (⟨(a1.Hi &&& b2.Hi), (a1.Lo &&& b2.Lo)⟩ : Wide) Z3q rfl Z7h (pc Zhj (vt rfl) <| pc Z9k (vt rfl) <| pn rfl)) rfl <| Zh Z02 5 rfl <| Nl <| rt ?_
 cases h; exact Zg Tryz.results177 rfl (Z01 rfl (i := 5) rfl Z02)
def Zui (a1 : Wide) (b2 : Wide) (m3 : Wide) : Option Wide :=
 (Ztk a1 b2).bind fun x8 => (Zbi x8 m3).bind fun x9 => some x9
theorem Yiw : Q3 Tryz.prog 174 (rd Zd) (rd Zd) (rd Zd) (rd Zd) Zui := fun a1 b2 m3 r h => I0 Tryz.func174 rfl Tryz.ntmps174 rfl fun w H => by
 unfold Zui at h
 refine SR <| Cv rfl (Zm 4 rfl rfl (vt rfl)) fun g4 => Cv rfl (Zm 5 rfl rfl (vt rfl)) fun g5 => Cv rfl (Zm 6 rfl rfl (vt rfl)) fun g6 => Cv rfl (Zp 7 rfl rfl Z3q) fun g7 => Nl <| sq ?_
 obtain ⟨x8, hx8, x9, hx9, h⟩ := bs2 h
 refine AR Zw (by kernel_rfl) <| Zl Z02 4 rfl <| Zl Z02 5 rfl <| SCl [7, 8] (Ydn _ _ _ hx8) Yah rfl <| Zl Z02 6 rfl <| SCl [9, 10] (Zka _ _ _ hx9) Zk2 rfl <| SSt Z02 7 rfl <| Sn <| rt ?_
 cases h; exact Zg Tryz.results174 rfl (Z01 rfl (i := 7) rfl Z02)
def Zfp (a1 : Wide) : Option Bool :=
 some (decide ((a1.Hi ||| a1.Lo) = (0 : BitVec 64)))
theorem Zu2 : Q1 Tryz.prog 173 (rd Zd) (rd Z5) Zfp := fun a1 r h => I0 Tryz.func173 rfl Tryz.ntmps173 rfl fun w H => by
 unfold Zfp at h
 refine SR <| Cv rfl (Zm 2 rfl rfl (vt rfl)) fun g2 => Ab rfl <| Nl <| SR <| Zf lWide_0 Z8v rfl <| Ld Z2o 2 rfl <| Zf lWide_1 Z82 rfl <| Ld Z2o 2 rfl <| Ac (Zue rfl rfl (vt rfl) (vt rfl)) rfl <| Ac (Zz7 rfl rfl (vt rfl) (vku (0 : BitVec 64) rfl)) rfl <| As rfl <| Nl <| rt ?_
 cases h; exact Zg Tryz.results173 rfl (Za rfl)
def Zfl (t1 : Tern) (x2 : Wide) : Option Bool :=
 (Zui t1.Value x2 t1.Mask).bind fun x5 => (Zfp x5).bind fun x6 => some x6
theorem Zsi : Q2 Tryz.prog 106 (rd Z4) (rd Zd) (rd Z5) Zfl := fun t1 x2 r h => I0 Tryz.func106 rfl Tryz.ntmps106 rfl fun w H => by
 unfold Zfl at h
 refine SR <| Cv rfl (Zm 3 rfl rfl (vt rfl)) fun g3 => Cv rfl (Zm 4 rfl rfl (vt rfl)) fun g4 => Ab rfl <| Nl <| sq ?_
 obtain ⟨x5, hx5, x6, hx6, h⟩ := bs2 h
 refine Rg <| Zf lTern_0 Z4l rfl <| Ld Z02 3 rfl <| Ld Z02 4 rfl <| Zf lTern_1 Z3t rfl <| Ld Z02 3 rfl <| Cl [6, 7, 9] (Yiw _ _ _ _ hx5) Yid rfl <| Cl [10] (Zu2 _ _ hx6) Zpx rfl <| As rfl <| Nl <| rt ?_
 cases h; exact Zg Tryz.results106 rfl (Za rfl)
def Zay (x2 : Z0e) : (List Tern) → Nat → Option Bool
 | [], i5 => some true
 | x7 :: l6, i5 => (chk 24 (i5 : Int)).bind fun j9 => (Zfl x7 (Vector.get x2 j9)).bind fun x10 => (bif (!x10) then some false else (Zay x2 l6) (i5 + 1))
def Zek (x1 : Zk) (x2 : Z0e) : Option Bool :=
 Zay x2 (Vector.toList x1) 0
theorem Zqc : Q2 Tryz.prog 50 (rd (Z3 24 Z4)) (rd (Z3 24 Zd)) (rd Z5) Zek := fun x1 x2 r h => I0 Tryz.func50 rfl Tryz.ntmps50 rfl fun w H => by
 unfold Zek at h
 refine SR <| Cv rfl (Zm 3 rfl rfl (vt rfl)) fun g3 => Cv rfl (Zm 4 rfl rfl (vt rfl)) fun g4 => Ab rfl <| Nl <| sq <| SR <| Ld Z00 3 rfl <| Mk rfl <| Nl <| bk <| LG (d := []) (ν := (List Tern) × Nat) (fun (l6, i5) => (Sfx (Vector.toList x1) i5 l6 ∧ Zay x2 l6 i5 = some r, l6.length, [(3, Z7 g4 (Lens.id (Z3 24 Zd))), (7, rd (Z3 24 Z4) x1), (8, rd (Z0 .i64) (i5 : Int))], [(4, Zc g4 44 (Z3 24 Zd) x2)])) ((Vector.toList x1), 0) ⟨Sfx.start _, h⟩ (FX rfl) ?_
 rintro ⟨l6, i5⟩ ⟨hsf1, h⟩
 dsimp only at hsf1 h ⊢
 cases l6 with
 | nil =>
  unfold Zay at h
  refine SR <| Ac (Zi rfl rfl (vt rfl) (vk rfl)) rfl <| Nl <| sq <| Cn rfl (fun hc => absurd (of_decide_eq_true hc) (hsf1.niln (by simp))) (fun hc => ?_)
  refine xt <| SR <| Ab rfl <| Nl <| rt ?_
  cases h; exact Zg Tryz.results50 rfl (Za rfl)
 | cons x7 l6 =>
  unfold Zay at h
  refine SR <| Ac (Zi rfl rfl (vt rfl) (vk rfl)) rfl <| Nl <| sq <| Cn rfl (fun hc => ?_) (fun hc => absurd (hsf1.consn (by simp)) (of_decide_eq_false hc))
  have hlti5 := of_decide_eq_true hc
  refine sk <| sq <| bk <| SR <| Md rfl <| Ac (Za3 rfl rfl Z4a Z03 (vt rfl) (vt rfl) hsf1.lget) rfl <| Cv rfl (Zp 7 rfl rfl Z2b) fun g8 => As rfl <| Zh Z03 7 rfl <| Nl <| sq ?_
  obtain ⟨j9, hj9, x10, hx10, h⟩ := bs2 h
  refine AR Zw (by kernel_rfl) <| Zl Z03 7 rfl <| SMd rfl <| Sd (lo [3, 13] [] rfl fun S hs hr => Z2q rfl rfl Ze2 (vh hs 3 rfl rfl) (vh hs 13 rfl rfl) hj9) <| Zl Z02 4 rfl <| SCl [12, 15] (Zsi _ _ _ hx10) Zrm rfl <| Sd (lo [16] [] rfl fun S hs hr => Z0x rfl rfl (vh hs 16 rfl rfl)) <| Sn <| Cq rfl h (fun h => ?_) (fun h => ?_)
  ·refine SR <| Ab rfl <| Nl <| rt ?_
   cases h; exact Zg Tryz.results50 rfl (Za rfl)
  ·refine sk <| Rg <| Ac (Z6r rfl rfl (vt rfl) (vk rfl) rfl hlti5) rfl <| Md rfl <| Nl ?_
   exact ⟨(_, _), Nat.lt_succ_self _, ⟨hsf1.next, h⟩, FX rfl⟩
def Ztj (x1 : Ray) (x2 : Z0e) : Option Bool :=
 (Zek x1.Cube x2).bind fun x5 => some x5
theorem Yc3 : Q2 Tryz.prog 62 (rd Z0z) (rd (Z3 24 Zd)) (rd Z5) Ztj := fun x1 x2 r h => I0 Tryz.func62 rfl Tryz.ntmps62 rfl fun w H => by
 unfold Ztj at h
 refine SR <| Cv rfl (Zm 3 rfl rfl (vt rfl)) fun g3 => Cv rfl (Zm 4 rfl rfl (vt rfl)) fun g4 => Ab rfl <| Nl <| sq ?_
 obtain ⟨x5, hx5, h⟩ := Z8 h
 refine Rg <| Zf lRay_4 Y4n rfl <| Ld Z00 3 rfl <| Ld Z0i 4 rfl <| Cl [6, 7] (Zqc _ _ _ hx5) e50 rfl <| As rfl <| Nl <| rt ?_
 cases h; exact Zg Tryz.results62 rfl (Za rfl)
end Go.Proofs.YtknpgojdkobgjaaGreat.W
set_option maxRecDepth 4000
namespace Go.Proofs.YtknpgojdkobgjaaGreat.W
open Go Go.Wb
theorem Zg0 : Ent Tryz.prog 176 := Ent.mk Tryz.func176 rfl rfl
theorem Zdo : Ent Tryz.prog 175 := Ent.mk Tryz.func175 rfl rfl
theorem Zru : Ent Tryz.prog 109 := Ent.mk Tryz.func109 rfl rfl
def Z9f (a1 : Wide) (b2 : Wide) : Option Wide :=
 some (⟨(a1.Hi &&& ~~~b2.Hi), (a1.Lo &&& ~~~b2.Lo)⟩ : Wide)
theorem Zfu : Q2 Tryz.prog 176 (rd Zd) (rd Zd) (rd Zd) Z9f := fun a1 b2 r h => I0 Tryz.func176 rfl Tryz.ntmps176 rfl fun w H => by
 unfold Z9f at h
 refine SR <| Cv rfl (Zm 3 rfl rfl (vt rfl)) fun g3 => Cv rfl (Zm 4 rfl rfl (vt rfl)) fun g4 => Cv rfl (Zp 5 rfl rfl Z3q) fun g5 => Nl <| SR <| Zf lWide_0 Z8v rfl <| Ld Z2o 3 rfl <| Zf lWide_0 Z8v rfl <| Ld Z2o 4 rfl <| Ac (Zuu rfl rfl (vt rfl) (vt rfl)) rfl <| Zf lWide_1 Z82 rfl <| Ld Z2o 3 rfl <| Zf lWide_1 Z82 rfl <| Ld Z2o 4 rfl <| Ac (Zuu rfl rfl (vt rfl) (vt rfl)) rfl <| Ac (opb (⟨(a1.Hi &&& ~~~b2.Hi), (a1.Lo &&& ~~~b2.Lo)⟩ : Wide) Z3q rfl Z7h (pc Zhj (vt rfl) <| pc Z9k (vt rfl) <| pn rfl)) rfl <| Zh Z02 5 rfl <| Nl <| rt ?_
 cases h; exact Zg Tryz.results176 rfl (Z01 rfl (i := 5) rfl Z02)
def Z8k (a1 : Wide) (b2 : Wide) : Option Wide :=
 some (⟨(a1.Hi ||| b2.Hi), (a1.Lo ||| b2.Lo)⟩ : Wide)
theorem Zdy : Q2 Tryz.prog 175 (rd Zd) (rd Zd) (rd Zd) Z8k := fun a1 b2 r h => I0 Tryz.func175 rfl Tryz.ntmps175 rfl fun w H => by
 unfold Z8k at h
 refine SR <| Cv rfl (Zm 3 rfl rfl (vt rfl)) fun g3 => Cv rfl (Zm 4 rfl rfl (vt rfl)) fun g4 => Cv rfl (Zp 5 rfl rfl Z3q) fun g5 => Nl <| SR <| Zf lWide_0 Z8v rfl <| Ld Z2o 3 rfl <| Zf lWide_0 Z8v rfl <| Ld Z2o 4 rfl <| Ac (Zue rfl rfl (vt rfl) (vt rfl)) rfl <| Zf lWide_1 Z82 rfl <| Ld Z2o 3 rfl <| Zf lWide_1 Z82 rfl <| Ld Z2o 4 rfl <| Ac (Zue rfl rfl (vt rfl) (vt rfl)) rfl <| Ac (opb (⟨(a1.Hi ||| b2.Hi), (a1.Lo ||| b2.Lo)⟩ : Wide) Z3q rfl Z7h (pc Zhj (vt rfl) <| pc Z9k (vt rfl) <| pn rfl)) rfl <| Zh Z02 5 rfl <| Nl <| rt ?_
 cases h; exact Zg Tryz.results175 rfl (Z01 rfl (i := 5) rfl Z02)
def Zaf : (List Tern) → Nat → Z0e → Option Z0e
 | [], i8, b7 => some b7
 | x10 :: l9, i8, b7 => (chk 24 (i8 : Int)).bind fun j12 => (Z9f (Vector.get b7 j12) x10.Mask).bind fun x13 => (Zbi x10.Value x10.Mask).bind fun x14 => (Z8k x13 x14).bind fun x15 => (chk 24 (i8 : Int)).bind fun j16 => (Zaf l9) (i8 + 1) (Vector.set b7 j16.1 x15 j16.2)
def Zcf (x1 : Zk) (x2 : Z0e) : Option Z0e :=
 Zaf (Vector.toList x1) 0 x2
theorem Zro : Q2 Tryz.prog 109 (rd (Z3 24 Z4)) (rd (Z3 24 Zd)) (rd (Z3 24 Zd)) Zcf := fun x1 x2 r h => I0 Tryz.func109 rfl Tryz.ntmps109 rfl fun w H => by
 unfold Zcf at h
 refine SR <| Cv rfl (Zm 3 rfl rfl (vt rfl)) fun g3 => Cv rfl (Zm 4 rfl rfl (vt rfl)) fun g4 => Cv rfl (Zp 5 rfl rfl Z4k) fun g5 => Nl <| sq <| SR <| Ld Z0f 3 rfl <| Mk rfl <| Nl <| bk <| LG (d := []) (ν := (List Tern) × Nat × Z0e) (fun (l9, i8, b7) => (Sfx (Vector.toList x1) i8 l9 ∧ Zaf l9 i8 b7 = some r, l9.length, [(3, Z7 g4 (Lens.id (Z3 24 Zd))), (4, Z7 g5 (Lens.id (Z3 24 Zd))), (7, rd (Z3 24 Z4) x1), (8, rd (Z0 .i64) (i8 : Int))], [(4, Zc g4 44 (Z3 24 Zd) b7), (5, Zc g5 44 (Z3 24 Zd) (Vector.replicate 24 Z0j))])) ((Vector.toList x1), 0, x2) ⟨Sfx.start _, h⟩ (FX rfl) ?_
 rintro ⟨l9, i8, b7⟩ ⟨hsf1, h⟩
 dsimp only at hsf1 h ⊢
 cases l9 with
 | nil =>
  unfold Zaf at h
  refine SR <| Ac (Zi rfl rfl (vt rfl) (vk rfl)) rfl <| Nl <| sq <| Cn rfl (fun hc => absurd (of_decide_eq_true hc) (hsf1.niln (by simp))) (fun hc => ?_)
  refine xt <| SR <| Ld Z0i 4 rfl <| Zh Z0i 5 rfl <| Nl <| rt ?_
  cases h; exact Zg Tryz.results109 rfl (Z01 rfl (i := 5) rfl Z0i)
 | cons x10 l9 =>
  unfold Zaf at h
  refine SR <| Ac (Zi rfl rfl (vt rfl) (vk rfl)) rfl <| Nl <| sq <| Cn rfl (fun hc => ?_) (fun hc => absurd (hsf1.consn (by simp)) (of_decide_eq_false hc))
  have hlti8 := of_decide_eq_true hc
  refine sk <| sq <| bk <| SR <| Md rfl <| Ac (Za3 rfl rfl Za4 Z03 (vt rfl) (vt rfl) hsf1.lget) rfl <| Cv rfl (Zp 7 rfl rfl Z2b) fun g11 => As rfl <| Zh Z03 7 rfl <| Nl ?_
  obtain ⟨j12, hj12, x13, hx13, x14, hx14, x15, hx15, h⟩ := bs4 h
  obtain ⟨j16, hj16, h⟩ := Z8 h
  refine AR Zw (by kernel_rfl) <| SMd rfl <| SMd rfl <| Sd (lo [3, 13] [] rfl fun S hs hr => Z2q rfl rfl Ze2 (vh hs 3 rfl rfl) (vh hs 13 rfl rfl) hj12) <| Zl Z02 4 rfl <| Zv lTern_1 Z3t rfl <| Zl Z02 7 rfl <| SCl [15, 17] (Zfu _ _ _ hx13) Zg0 rfl <| Zv lTern_0 Z4l rfl <| Zl Z02 7 rfl <| Zv lTern_1 Z3t rfl <| Zl Z02 7 rfl <| SCl [20, 22] (Zka _ _ _ hx14) Zk2 rfl <| SCl [18, 23] (Zdy _ _ _ hx15) Zdo rfl <| Sd (lo [3, 12] [] rfl fun S hs hr => Z2q rfl rfl Ze2 (vh hs 3 rfl rfl) (vh hs 12 rfl rfl) hj16) <| SSt Z02 4 rfl <| Sn <| Rg <| Ac (Z6r rfl rfl (vt rfl) (vk rfl) rfl hlti8) rfl <| Md rfl <| Nl ?_
  exact ⟨(_, _, _), Nat.lt_succ_self _, ⟨hsf1.next, h⟩, FX rfl⟩
def Zfn (x1 : Ray) (x2 : Z0e) : Option End :=
 (Zcf x1.Rewrite x2).bind fun x6 => some (⟨x1.At, x1.Port, x1.Max, x1.Left, x6⟩ : End)
theorem Y0j : Q2 Tryz.prog 64 (rd Z0z) (rd (Z3 24 Zd)) (rd Z1v) Zfn := fun x1 x2 r h => I0 Tryz.func64 rfl Tryz.ntmps64 rfl fun w H => by
 unfold Zfn at h
 refine SR <| Cv rfl (Zm 3 rfl rfl (vt rfl)) fun g3 => Cv rfl (Zm 4 rfl rfl (vt rfl)) fun g4 => Cv rfl (Zp 5 rfl rfl Ze3) fun g5 => Nl <| sq ?_
 obtain ⟨x6, hx6, h⟩ := Z8 h
 refine AR Zw (by kernel_rfl) <| Zv lRay_0 Y0z rfl <| Zl Zo 3 rfl <| Zv lRay_1 Zza rfl <| Zl Zo 3 rfl <| Zv lRay_2 Ymv rfl <| Zl Zo 3 rfl <| Zv lRay_3 Zuy rfl <| Zl ty4 3 rfl <| Zv lRay_5 Yh3 rfl <| Zl Z0f 3 rfl <| Zl Z0i 4 rfl <| SCl [14, 15] (Zro _ _ _ hx6) Zru rfl <| Sd (lo [6, 8, 10, 12, 16] [] rfl fun S hs hr => opb (⟨x1.At, x1.Port, x1.Max, x1.Left, x6⟩ : End) Ze3 rfl Ztg (pc Zqt (vh hs 6 rfl rfl) <| pc Zyr (vh hs 8 rfl rfl) <| pc Zy0 (vh hs 10 rfl rfl) <| pc Zv9 (vh hs 12 rfl rfl) <| pc Zq8 (vh hs 16 rfl rfl) <| pn rfl)) <| SSt Zh3 5 rfl <| Sn <| rt ?_
 cases h; exact Zg Tryz.results64 rfl (Z01 rfl (i := 5) rfl Zh3)
end Go.Proofs.YtknpgojdkobgjaaGreat.W
set_option maxRecDepth 4000
namespace Go.Proofs.YtknpgojdkobgjaaGreat.W
open Go Go.Wb
def Zpt (p1 : Int) : Option Switch :=
 some { (⟨(Vector.replicate 4 []), []⟩ : Switch) with Tables := (Vector.set ((⟨(Vector.replicate 4 []), []⟩ : Switch).Tables) (⟨0, by decide⟩ : _root_.Fin 4).1 [(⟨0, 0, 0, 0, 0, [], [(⟨4, 0, Z0j, Z0j, [(⟨0, p1, 0, 0, 0, Zch⟩ : Action)]⟩ : Inst)]⟩ : Flow)] (⟨0, by decide⟩ : _root_.Fin 4).2) }
theorem Zvh : Q1 Tryz.prog 120 (rd (Z0 .i64)) (rd Z0b) Zpt := fun p1 r h => I0 Tryz.func120 rfl Tryz.ntmps120 rfl fun w H => by
 unfold Zpt at h
 refine SR <| Cv rfl (Zp 3 rfl rfl Zi9) fun g2 => Nl <| SR <| Ac (opb (⟨(Vector.replicate 4 []), []⟩ : Switch) Zi9 rfl Yhv (pn rfl)) rfl <| Cv rfl (Zp 4 rfl rfl Zi9) fun g3 => Zh Z5f 4 rfl <| Nl <| SR <| Md rfl <| Ac (opb (⟨0, p1, 0, 0, 0, Zch⟩ : Action) Z85 rfl Y87 (pc Y6l (vk rfl) <| pc Y8s (vt rfl) <| pn rfl)) rfl <| Ac (osl Z15 Z85 rfl (vt rfl)) rfl <| Ac (opb (⟨4, 0, Z0j, Z0j, [(⟨0, p1, 0, 0, 0, Zch⟩ : Action)]⟩ : Inst) Z52 rfl Y45 (pc Ycb (vk rfl) <| pc Y8h (vt rfl) <| pn rfl)) rfl <| Ac (osl Zew Z52 rfl (vt rfl)) rfl <| Ac (opb (⟨0, 0, 0, 0, 0, [], [(⟨4, 0, Z0j, Z0j, [(⟨0, p1, 0, 0, 0, Zch⟩ : Action)]⟩ : Inst)]⟩ : Flow) Zma rfl Y7p (pc Ydl (vt rfl) <| pn rfl)) rfl <| Ac (osl Z5d Zma rfl (vt rfl)) rfl <| Zf Zan Zdh rfl <| Ac (Z2q rfl rfl Zcw (vt rfl) (vk rfl) rfl) rfl <| Zh Z5k 4 rfl <| Nl <| SR <| Ld Z5f 4 rfl <| Zh Z5f 3 rfl <| Nl <| rt ?_
 cases h; exact Zg Tryz.results120 rfl (Z01 rfl (i := 3) rfl Z5f)
def Zb5 : Option Zk :=
 some (Vector.replicate 24 zTern)
theorem Zp1 : Q0 Tryz.prog 73 (rd (Z3 24 Z4)) Zb5 := fun r h => I0 Tryz.func73 rfl Tryz.ntmps73 rfl fun w H => by
 unfold Zb5 at h
 refine SR <| Cv rfl (Zp 1 rfl rfl Z2c) fun g1 => Nl <| SR <| Ac (Z20 (ps := []) (x := (Vector.replicate 24 zTern)) rfl rfl rfl (by kernel_rfl) Z2c rfl) rfl <| Zh Z00 1 rfl <| Nl <| rt ?_
 cases h; exact Zg Tryz.results73 rfl (Z01 rfl (i := 1) rfl Z00)
def Z94 : Option Zk :=
 some (Vector.replicate 24 zTern)
theorem Zo5 : Q0 Tryz.prog 77 (rd (Z3 24 Z4)) Z94 := fun r h => I0 Tryz.func77 rfl Tryz.ntmps77 rfl fun w H => by
 unfold Z94 at h
 refine SR <| Cv rfl (Zp 1 rfl rfl Z77) fun g1 => Nl <| SR <| Ac (Z20 (ps := []) (x := (Vector.replicate 24 zTern)) rfl rfl rfl (by kernel_rfl) Z77 rfl) rfl <| Zh Z0f 1 rfl <| Nl <| rt ?_
 cases h; exact Zg Tryz.results77 rfl (Z01 rfl (i := 1) rfl Z0f)
def Zf3 (i1 : Int) (j2 : Int) (x3 : (List Flow)) : Option Int :=
 (lget x3 i1).bind fun x4 => (lget x3 j2).bind fun x5 => (bif (decide (x4.Priority > x5.Priority)) then some (-1) else (lget x3 i1).bind fun x6 => (lget x3 j2).bind fun x7 => (bif (decide (x6.Priority < x7.Priority)) then some 1 else some 0))
theorem Yfv : Q3 Tryz.prog 201 (rd (Z0 .i64)) (rd (Z0 .i64)) (rp (Z1 Z16)) (rd (Z0 .i64)) Zf3 := fun i1 j2 x3 r h => I0 Tryz.func201 rfl Tryz.ntmps201 rfl fun w H => by
 unfold Zf3 at h
 refine SR <| Ak rfl <| Nl <| sq <| bk <| sq ?_
 obtain ⟨x4, hx4, x5, hx5, h⟩ := bs2 h
 refine AR Zw (by kernel_rfl) <| SLp Z5k rfl <| SMd rfl <| Sd (lo [7, 8] [] rfl fun S hs hr => Z0w rfl rfl Z5d (vh hs 7 rfl rfl) (vh hs 8 rfl rfl) hx4) <| SFp Ziu Zm3 rfl <| SLp Zo rfl <| SLp Z5k rfl <| SMd rfl <| Sd (lo [12, 13] [] rfl fun S hs hr => Z0w rfl rfl Z5d (vh hs 12 rfl rfl) (vh hs 13 rfl rfl) hx5) <| SFp Ziu Zm3 rfl <| SLp Zo rfl <| Sd (lo [11, 16] [] rfl fun S hs hr => Z3e rfl rfl (vh hs 11 rfl rfl) (vh hs 16 rfl rfl)) <| SAs rfl <| Sn <| Cq rfl h (fun h => ?_) (fun h => ?_)
 ·refine SR <| Ak rfl <| Nl <| rt ?_
  cases h; exact Zg Tryz.results201 rfl (Za rfl)
 ·refine sq ?_
  obtain ⟨x6, hx6, x7, hx7, h⟩ := bs2 h
  refine AR Zw (by kernel_rfl) <| SLp Z5k rfl <| SMd rfl <| Sd (lo [19, 20] [] rfl fun S hs hr => Z0w rfl rfl Z5d (vh hs 19 rfl rfl) (vh hs 20 rfl rfl) hx6) <| SFp Ziu Zm3 rfl <| SLp Zo rfl <| SLp Z5k rfl <| SMd rfl <| Sd (lo [24, 25] [] rfl fun S hs hr => Z0w rfl rfl Z5d (vh hs 24 rfl rfl) (vh hs 25 rfl rfl) hx7) <| SFp Ziu Zm3 rfl <| SLp Zo rfl <| Sd (lo [23, 28] [] rfl fun S hs hr => Zi rfl rfl (vh hs 23 rfl rfl) (vh hs 28 rfl rfl)) <| SAs rfl <| Sn <| Cq rfl h (fun h => ?_) (fun h => ?_)
  ·refine SR <| Ak rfl <| Nl <| rt ?_
   cases h; exact Zg Tryz.results201 rfl (Za rfl)
  ·refine sk <| SR <| Ak rfl <| Nl <| rt ?_
   cases h; exact Zg Tryz.results201 rfl (Za rfl)
def Zcb (a3 : Int) (x5 : (Int → Int → Option Int)) (go1 : (List Int) → Int → Option (List Int)) (i9 : Int) : Nat → (List Int) → Int → Option (List Int)
 | 0, _, _ => none
 | m15 + 1, l13, j14 => (opt (decide (j14 > a3)) (lget l13 j14)).bind fun x16 => (opt (decide (j14 > a3)) (lget l13 (IntKind.i64.wrap (j14 - 1)))).bind fun x17 => (opt (decide (j14 > a3)) (x5 x16 x17)).bind fun x18 => (bif ((decide (j14 > a3)) && (decide (x18 < 0))) then (lget l13 (IntKind.i64.wrap (j14 - 1))).bind fun x19 => (lget l13 j14).bind fun x20 => (lget l13 j14).bind fun x21 => (lget (List.set l13 j14.toNat x19) (IntKind.i64.wrap (j14 - 1))).bind fun x22 => (Zcb a3 x5 go1 i9 m15) (List.set (List.set l13 j14.toNat x19) (IntKind.i64.wrap (j14 - 1)).toNat x20) (IntKind.i64.wrap (j14 - 1)) else go1 l13 (IntKind.i64.wrap (i9 + 1)))
def Z97 (b4 : Int) (a3 : Int) (x5 : (Int → Int → Option Int)) : Nat → (List Int) → Int → Option (List Int)
 | 0, _, _ => none
 | m10 + 1, l8, i9 => (bif (decide (i9 < b4)) then Zcb a3 x5 (Z97 b4 a3 x5 m10) i9 Z0k l8 i9 else some l8)
def Zgh (d1 : (List Int)) (a3 : Int) (b4 : Int) (x5 : (Int → Int → Option Int)) : Option (List Int) :=
 Z97 b4 a3 x5 (((b4 : Int) - (IntKind.i64.wrap (a3 + 1))).toNat + 1) d1 (IntKind.i64.wrap (a3 + 1))
theorem Zwj (v2 : Value) (d1 : (List Int)) (a3 : Int) (b4 : Int) (x5 : (Int → Int → Option Int)) (r : (List Int)) (h : Zgh d1 a3 b4 x5 = some r) : Con Tryz.prog 301 [Zn v2, rd (Z0 .i64) a3, rd (Z0 .i64) b4, fn2 Tryz.prog (Z0 .i64) (Z0 .i64) (Z0 .i64) x5] (Zb v2 3 (Z0 .i64) d1) (fun _ : Unit => top) (fun _ => Zb v2 3 (Z0 .i64) r) := by
 refine Con.intro Tryz.func301 rfl Tryz.ntmps301 rfl fun w H X => ?_
 unfold Zgh at h
 refine SR <| Md rfl <| Ac (Z0o rfl rfl (vt rfl) (vk rfl)) rfl <| As rfl <| Nl <| bk <| LG (d := []) (ν := Nat × (List Int) × Int) (fun (m10, l8, i9) => (True ∧ Z97 b4 a3 x5 m10 l8 i9 = some r, m10, [(0, Zn v2), (1, rd (Z0 .i64) a3), (2, rd (Z0 .i64) b4), (3, fn2 Tryz.prog (Z0 .i64) (Z0 .i64) (Z0 .i64) x5), (8, rd (Z0 .i64) i9)], [(0, Zb v2 3 (Z0 .i64) l8)])) ((((b4 : Int) - (IntKind.i64.wrap (a3 + 1))).toNat + 1), d1, (IntKind.i64.wrap (a3 + 1))) ⟨trivial, h⟩ (FX rfl) ?_
 rintro ⟨m10, l8, i9⟩ ⟨hsf1, h⟩
 dsimp only at h ⊢
 cases m10 with
 | zero => cases h
 | succ m10 =>
  unfold Z97 at h
  refine sq <| SR <| Md rfl <| Md rfl <| Ac (Zi rfl rfl (vt rfl) (vt rfl)) rfl <| Nl <| Cq rfl h (fun h => ?_) (fun h => ?_)
  ·refine sk <| sq <| bk <| SR <| Md rfl <| As rfl <| Nl <| bk <| LG (d := []) (ν := Nat × (List Int) × Int) (fun (m15, l13, j14) => (True ∧ Zcb a3 x5 (Z97 b4 a3 x5 m10) i9 m15 l13 j14 = some r, m15, [(0, Zn v2), (1, rd (Z0 .i64) a3), (2, rd (Z0 .i64) b4), (3, fn2 Tryz.prog (Z0 .i64) (Z0 .i64) (Z0 .i64) x5), (8, rd (Z0 .i64) i9), (9, rd (Z0 .i64) j14)], [(0, Zb v2 3 (Z0 .i64) l13)])) (Z0k, l8, i9) ⟨trivial, h⟩ (FX rfl) ?_
   rintro ⟨m15, l13, j14⟩ ⟨hsf2, h⟩
   dsimp only at h ⊢
   cases m15 with
   | zero => cases h
   | succ m15 =>
    unfold Zcb at h
    refine sq <| sq ?_
    obtain ⟨x16, hx16, x17, hx17, x18, hx18, h⟩ := bs3 h
    refine AR Zw (by kernel_rfl) <| SMd rfl <| SMd rfl <| Sd (lo [18, 19] [] rfl fun S hs hr => Z3e rfl rfl (vh hs 18 rfl rfl) (vh hs 19 rfl rfl)) <| SMd rfl <| Sd (lg [3, 21] [] rfl fun hq S hs hr => Zu (A := fn2 Tryz.prog (Z0 .i64) (Z0 .i64) (Z0 .i64) x5) rfl rfl (vh hs 3 rfl rfl)) <| Sd (lg [0, 21] [] rfl fun hq S hs hr => Zu (A := Zn v2) rfl rfl (vh hs 0 rfl rfl)) <| Sd (lg [9, 21] [] rfl fun hq S hs hr => Zu (A := rd (Z0 .i64) j14) rfl rfl (vh hs 9 rfl rfl)) <| Sd (lg [23, 24, 21] [0] rfl fun hq S hs hr => Z2j 0 rfl rfl Z14 (Zs ((hs 23 rfl).trans rfl) hq) ((hr 0 rfl).trans rfl) (Zs ((hs 24 rfl).trans rfl) hq) (Z4m hx16 hq)) <| Sd (lg [25, 21] [0] rfl fun hq S hs hr => Z1t 0 rfl rfl Zo (Zs ((hs 25 rfl).trans rfl) hq) ((hr 0 rfl).trans rfl) (Z0m (Z4m hx16 hq)).2) <| Sd (lg [0, 21] [] rfl fun hq S hs hr => Zu (A := Zn v2) rfl rfl (vh hs 0 rfl rfl)) <| Sd (lg [9, 21] [] rfl fun hq S hs hr => Zu (A := rd (Z0 .i64) j14) rfl rfl (vh hs 9 rfl rfl)) <| Sd (lg [28, 21] [] rfl fun hq S hs hr => Z0u rfl rfl (Zs ((hs 28 rfl).trans rfl) hq) (vk rfl)) <| Sd (lg [27, 29, 21] [0] rfl fun hq S hs hr => Z2j 0 rfl rfl Z14 (Zs ((hs 27 rfl).trans rfl) hq) ((hr 0 rfl).trans rfl) (Zs ((hs 29 rfl).trans rfl) hq) (Z4m hx17 hq)) <| Sd (lg [30, 21] [0] rfl fun hq S hs hr => Z1t 0 rfl rfl Zo (Zs ((hs 30 rfl).trans rfl) hq) ((hr 0 rfl).trans rfl) (Z0m (Z4m hx17 hq)).2) <| Sd (lg [22, 26, 31, 21] [] rfl fun hq S hs hr => Zb8 (Z4m hx18 hq) rfl rfl (Zs ((hs 22 rfl).trans rfl) hq) (Zs ((hs 26 rfl).trans rfl) hq) (Zs ((hs 31 rfl).trans rfl) hq)) <| Sd (lg [32, 21] [] rfl fun hq S hs hr => Zi rfl rfl (Zs ((hs 32 rfl).trans rfl) hq) (vk rfl)) <| Sd (lo [33, 21] [] rfl fun S hs hr => Z26 rfl rfl (vh hs 21 rfl rfl) (vh hs 33 rfl rfl)) <| Sn <| Cq rfl h (fun h => ?_) (fun h => ?_)
    ·refine sk <| sq <| bk <| AW.vlen 0 rfl fun hvl0_266 => ?_
     obtain ⟨x19, hx19, x20, hx20, x21, hx21, x22, hx22, h⟩ := bs4 h
     refine AR Zw (by kernel_rfl) <| SMw rfl <| SMd rfl <| SMw rfl <| SMd rfl <| Sd (lo [40] [] rfl fun S hs hr => Z0u rfl rfl (vh hs 40 rfl rfl) (vk rfl)) <| SMw rfl <| SMd rfl <| Sd (lo [43] [] rfl fun S hs hr => Z0u rfl rfl (vh hs 43 rfl rfl) (vk rfl)) <| Sd (lo [42, 44] [] rfl fun S hs hr => Z24 (l := l13) hvl0_266 rfl rfl rfl Z14 (vh hs 42 rfl rfl) (vh hs 44 rfl rfl) hx19) <| Sd (lo [45] [0] rfl fun S hs hr => Z1t 0 rfl rfl Zo (vh hs 45 rfl rfl) ((hr 0 rfl).trans rfl) (Z0m hx19).2) <| SMw rfl <| SMd rfl <| Sd (lo [47, 48] [] rfl fun S hs hr => Z24 (l := l13) hvl0_266 rfl rfl rfl Z14 (vh hs 47 rfl rfl) (vh hs 48 rfl rfl) hx20) <| Sd (lo [49] [0] rfl fun S hs hr => Z1t 0 rfl rfl Zo (vh hs 49 rfl rfl) ((hr 0 rfl).trans rfl) (Z0m hx20).2) <| Sd (lo [37, 38] [] rfl fun S hs hr => Z24 (l := l13) hvl0_266 rfl rfl rfl Z14 (vh hs 37 rfl rfl) (vh hs 38 rfl rfl) hx21) <| Sd (Z47 [51, 46] [0] rfl fun S hs hr => Z3w 0 rfl rfl Zo (vh hs 51 rfl rfl) ((hr 0 rfl).trans rfl) (Z0m hx21).2 (vh hs 46 rfl rfl)) <| Sd (lo [39, 41] [] rfl fun S hs hr => Z24 (l := (List.set l13 j14.toNat x19)) hvl0_266 (by simp) rfl rfl Z14 (vh hs 39 rfl rfl) (vh hs 41 rfl rfl) hx22) <| Sd (Z47 [52, 50] [0] rfl fun S hs hr => Z3w 0 rfl rfl Zo (vh hs 52 rfl rfl) ((hr 0 rfl).trans rfl) (Z0m hx22).2 (vh hs 50 rfl rfl)) <| Sn <| Rg <| Md rfl <| Ac (Z0u rfl rfl (vt rfl) (vk rfl)) rfl <| As rfl <| Nl ?_
     exact ⟨(_, _, _), Nat.lt_succ_self _, ⟨trivial, h⟩, FX rfl⟩
    ·refine xt <| Rg <| Md rfl <| Ac (Z0o rfl rfl (vt rfl) (vk rfl)) rfl <| As rfl <| Nl ?_
     exact ⟨(_, _, _), Nat.lt_succ_self _, ⟨trivial, h⟩, FX rfl⟩
  ·refine xt ?_
   cases h; exact Z1j (i := 0) Tryz.results301 rfl rfl
def Zmi (n5 : Int) (b4 : Int) (a3 : Int) : Nat → (List Int) → Int → Option (List Int)
 | 0, _, _ => none
 | m11 + 1, l9, i10 => (bif (decide (i10 < n5)) then (lget l9 (IntKind.i64.wrap (b4 + i10))).bind fun x12 => (lget l9 (IntKind.i64.wrap (a3 + i10))).bind fun x13 => (lget l9 (IntKind.i64.wrap (a3 + i10))).bind fun x14 => (lget (List.set l9 (IntKind.i64.wrap (a3 + i10)).toNat x12) (IntKind.i64.wrap (b4 + i10))).bind fun x15 => (Zmi n5 b4 a3 m11) (List.set (List.set l9 (IntKind.i64.wrap (a3 + i10)).toNat x12) (IntKind.i64.wrap (b4 + i10)).toNat x13) (IntKind.i64.wrap (i10 + 1)) else some l9)
def Zks (d1 : (List Int)) (a3 : Int) (b4 : Int) (n5 : Int) (x6 : (Int → Int → Option Int)) : Option (List Int) :=
 Zmi n5 b4 a3 (((n5 : Int) - 0).toNat + 1) d1 0
theorem Zq3 (v2 : Value) (d1 : (List Int)) (a3 : Int) (b4 : Int) (n5 : Int) (x6 : (Int → Int → Option Int)) (r : (List Int)) (h : Zks d1 a3 b4 n5 x6 = some r) : Con Tryz.prog 341 [Zn v2, rd (Z0 .i64) a3, rd (Z0 .i64) b4, rd (Z0 .i64) n5, fn2 Tryz.prog (Z0 .i64) (Z0 .i64) (Z0 .i64) x6] (Zb v2 3 (Z0 .i64) d1) (fun _ : Unit => top) (fun _ => Zb v2 3 (Z0 .i64) r) := by
 refine Con.intro Tryz.func341 rfl Tryz.ntmps341 rfl fun w H X => ?_
 unfold Zks at h
 refine SR <| Ak rfl <| Nl <| bk <| LG (d := []) (ν := Nat × (List Int) × Int) (fun (m11, l9, i10) => (True ∧ Zmi n5 b4 a3 m11 l9 i10 = some r, m11, [(0, Zn v2), (1, rd (Z0 .i64) a3), (2, rd (Z0 .i64) b4), (3, rd (Z0 .i64) n5), (10, rd (Z0 .i64) i10)], [(0, Zb v2 3 (Z0 .i64) l9)])) ((((n5 : Int) - 0).toNat + 1), d1, 0) ⟨trivial, h⟩ (FX rfl) ?_
 rintro ⟨m11, l9, i10⟩ ⟨hsf1, h⟩
 dsimp only at h ⊢
 cases m11 with
 | zero => cases h
 | succ m11 =>
  unfold Zmi at h
  refine sq <| SR <| Md rfl <| Md rfl <| Ac (Zi rfl rfl (vt rfl) (vt rfl)) rfl <| Nl <| Cq rfl h (fun h => ?_) (fun h => ?_)
  ·refine sk <| sq <| bk <| AW.vlen 0 rfl fun hvl0_123 => ?_
   obtain ⟨x12, hx12, x13, hx13, x14, hx14, x15, hx15, h⟩ := bs4 h
   refine AR Zw (by kernel_rfl) <| SMw rfl <| SMd rfl <| SMd rfl <| Sd (lo [17, 18] [] rfl fun S hs hr => Z0o rfl rfl (vh hs 17 rfl rfl) (vh hs 18 rfl rfl)) <| SMw rfl <| SMd rfl <| SMd rfl <| Sd (lo [21, 22] [] rfl fun S hs hr => Z0o rfl rfl (vh hs 21 rfl rfl) (vh hs 22 rfl rfl)) <| SMw rfl <| SMd rfl <| SMd rfl <| Sd (lo [25, 26] [] rfl fun S hs hr => Z0o rfl rfl (vh hs 25 rfl rfl) (vh hs 26 rfl rfl)) <| Sd (lo [24, 27] [] rfl fun S hs hr => Z24 (l := l9) hvl0_123 rfl rfl rfl Z14 (vh hs 24 rfl rfl) (vh hs 27 rfl rfl) hx12) <| Sd (lo [28] [0] rfl fun S hs hr => Z1t 0 rfl rfl Zo (vh hs 28 rfl rfl) ((hr 0 rfl).trans rfl) (Z0m hx12).2) <| SMw rfl <| SMd rfl <| SMd rfl <| Sd (lo [31, 32] [] rfl fun S hs hr => Z0o rfl rfl (vh hs 31 rfl rfl) (vh hs 32 rfl rfl)) <| Sd (lo [30, 33] [] rfl fun S hs hr => Z24 (l := l9) hvl0_123 rfl rfl rfl Z14 (vh hs 30 rfl rfl) (vh hs 33 rfl rfl) hx13) <| Sd (lo [34] [0] rfl fun S hs hr => Z1t 0 rfl rfl Zo (vh hs 34 rfl rfl) ((hr 0 rfl).trans rfl) (Z0m hx13).2) <| Sd (lo [16, 19] [] rfl fun S hs hr => Z24 (l := l9) hvl0_123 rfl rfl rfl Z14 (vh hs 16 rfl rfl) (vh hs 19 rfl rfl) hx14) <| Sd (Z47 [36, 29] [0] rfl fun S hs hr => Z3w 0 rfl rfl Zo (vh hs 36 rfl rfl) ((hr 0 rfl).trans rfl) (Z0m hx14).2 (vh hs 29 rfl rfl)) <| Sd (lo [20, 23] [] rfl fun S hs hr => Z24 (l := (List.set l9 (IntKind.i64.wrap (a3 + i10)).toNat x12)) hvl0_123 (by simp) rfl rfl Z14 (vh hs 20 rfl rfl) (vh hs 23 rfl rfl) hx15) <| Sd (Z47 [37, 35] [0] rfl fun S hs hr => Z3w 0 rfl rfl Zo (vh hs 37 rfl rfl) ((hr 0 rfl).trans rfl) (Z0m hx15).2 (vh hs 35 rfl rfl)) <| Sn <| Rg <| Md rfl <| Ac (Z0o rfl rfl (vt rfl) (vk rfl)) rfl <| As rfl <| Nl ?_
   exact ⟨(_, _, _), Nat.lt_succ_self _, ⟨trivial, h⟩, FX rfl⟩
  ·refine xt ?_
   cases h; exact Z1j (i := 0) Tryz.results341 rfl rfl
end Go.Proofs.YtknpgojdkobgjaaGreat.W
set_option maxRecDepth 4000
namespace Go.Proofs.YtknpgojdkobgjaaGreat.W
open Go Go.Wb
theorem Zr7 : Ent Tryz.prog 341 := Ent.mk Tryz.func341 rfl rfl
theorem Zp8 : Ent Tryz.prog 302 := Ent.mk Tryz.func302 rfl rfl
theorem Ylf : Ent Tryz.prog 333 := Ent.mk Tryz.func333 rfl rfl
theorem Zvp : Ent Tryz.prog 301 := Ent.mk Tryz.func301 rfl rfl
theorem Yge : Ent Tryz.prog 258 := Ent.mk Tryz.func258 rfl rfl
theorem Yli : Ent Tryz.prog 201 := Ent.mk Tryz.func201 rfl rfl
theorem Ylc : Ent Tryz.prog 200 := Ent.mk Tryz.func200 rfl rfl
theorem Zp9 : Ent Tryz.prog 269 := Ent.mk Tryz.func269 rfl rfl
theorem Y7u : Ent Tryz.prog 344 := Ent.mk Tryz.func344 rfl rfl
theorem Y77 : Ent Tryz.prog 336 := Ent.mk Tryz.func336 rfl rfl
def Zlf (m4 : Int) (x6 : (Int → Int → Option Int)) : Nat → (List Int) → Int → Int → Option (List Int)
 | 0, _, _, _ => none
 | m13 + 1, l10, i11, j12 => (bif (decide (i11 ≠ j12)) then (bif (decide (i11 > j12)) then (Zks l10 (IntKind.i64.wrap (m4 - i11)) m4 j12 x6).bind fun l14 => (Zlf m4 x6 m13) l14 (IntKind.i64.wrap (i11 - j12)) j12 else (Zks l10 (IntKind.i64.wrap (m4 - i11)) (IntKind.i64.wrap ((IntKind.i64.wrap (m4 + j12)) - i11)) i11 x6).bind fun l15 => (Zlf m4 x6 m13) l15 i11 (IntKind.i64.wrap (j12 - i11))) else (Zks l10 (IntKind.i64.wrap (m4 - i11)) m4 i11 x6).bind fun l16 => some l16)
def Zsn (d1 : (List Int)) (a3 : Int) (m4 : Int) (b5 : Int) (x6 : (Int → Int → Option Int)) : Option (List Int) :=
 Zlf m4 x6 Z0k d1 (IntKind.i64.wrap (m4 - a3)) (IntKind.i64.wrap (b5 - m4))
theorem Ykt (v2 : Value) (d1 : (List Int)) (a3 : Int) (m4 : Int) (b5 : Int) (x6 : (Int → Int → Option Int)) (r : (List Int)) (h : Zsn d1 a3 m4 b5 x6 = some r) : Con Tryz.prog 333 [Zn v2, rd (Z0 .i64) a3, rd (Z0 .i64) m4, rd (Z0 .i64) b5, fn2 Tryz.prog (Z0 .i64) (Z0 .i64) (Z0 .i64) x6] (Zb v2 3 (Z0 .i64) d1) (fun _ : Unit => top) (fun _ => Zb v2 3 (Z0 .i64) r) := by
 refine Con.intro Tryz.func333 rfl Tryz.ntmps333 rfl fun w H X => ?_
 unfold Zsn at h
 refine SR <| Md rfl <| Md rfl <| Ac (Z0u rfl rfl (vt rfl) (vt rfl)) rfl <| As rfl <| Nl <| SR <| Md rfl <| Md rfl <| Ac (Z0u rfl rfl (vt rfl) (vt rfl)) rfl <| As rfl <| Nl <| sq <| bk <| LG (d := []) (ν := Nat × (List Int) × Int × Int) (fun (m13, l10, i11, j12) => (True ∧ Zlf m4 x6 m13 l10 i11 j12 = some r, m13, [(0, Zn v2), (2, rd (Z0 .i64) m4), (4, fn2 Tryz.prog (Z0 .i64) (Z0 .i64) (Z0 .i64) x6), (10, rd (Z0 .i64) i11), (11, rd (Z0 .i64) j12)], [(0, Zb v2 3 (Z0 .i64) l10)])) (Z0k, d1, (IntKind.i64.wrap (m4 - a3)), (IntKind.i64.wrap (b5 - m4))) ⟨trivial, h⟩ (FX rfl) ?_
 rintro ⟨m13, l10, i11, j12⟩ ⟨hsf1, h⟩
 dsimp only at h ⊢
 cases m13 with
 | zero => cases h
 | succ m13 =>
  unfold Zlf at h
  refine sq <| SR <| Md rfl <| Md rfl <| Ac (Z6y rfl rfl (vt rfl) (vt rfl)) rfl <| Nl <| Cq rfl h (fun h => ?_) (fun h => ?_)
  ·refine sk <| bk <| SR <| Md rfl <| Md rfl <| Ac (Z3e rfl rfl (vt rfl) (vt rfl)) rfl <| Nl <| Cq rfl h (fun h => ?_) (fun h => ?_)
   ·refine sq ?_
    obtain ⟨l14, hl14, h⟩ := Z8 h
    refine Rg <| Mw rfl <| Md rfl <| Md rfl <| Ac (Z0u rfl rfl (vt rfl) (vt rfl)) rfl <| Md rfl <| Md rfl <| Ac (Zu (A := fn2 Tryz.prog (Z0 .i64) (Z0 .i64) (Z0 .i64) x6) rfl rfl (vt rfl)) rfl <| Cv rfl (Z10 0 (xs := [.tmp 24, .tmp 27, .tmp 28, .tmp 29, .tmp 30]) (Zq3 _ _ _ _ _ _ _ hl14) Zr7 rfl rfl ⟨vt rfl, vt rfl, vt rfl, vt rfl, vt rfl, trivial⟩ rfl) fun _u => Nl <| Rg <| Md rfl <| Md rfl <| Ac (Z0u rfl rfl (vt rfl) (vt rfl)) rfl <| As rfl <| Nl ?_
    exact ⟨(_, _, _, _), Nat.lt_succ_self _, ⟨trivial, h⟩, FX rfl⟩
   ·refine sq ?_
    obtain ⟨l15, hl15, h⟩ := Z8 h
    refine Rg <| Mw rfl <| Md rfl <| Md rfl <| Ac (Z0u rfl rfl (vt rfl) (vt rfl)) rfl <| Md rfl <| Md rfl <| Ac (Z0o rfl rfl (vt rfl) (vt rfl)) rfl <| Md rfl <| Ac (Z0u rfl rfl (vt rfl) (vt rfl)) rfl <| Md rfl <| Ac (Zu (A := fn2 Tryz.prog (Z0 .i64) (Z0 .i64) (Z0 .i64) x6) rfl rfl (vt rfl)) rfl <| Cv rfl (Z10 0 (xs := [.tmp 35, .tmp 38, .tmp 43, .tmp 44, .tmp 45]) (Zq3 _ _ _ _ _ _ _ hl15) Zr7 rfl rfl ⟨vt rfl, vt rfl, vt rfl, vt rfl, vt rfl, trivial⟩ rfl) fun _u => Nl <| Rg <| Md rfl <| Md rfl <| Ac (Z0u rfl rfl (vt rfl) (vt rfl)) rfl <| As rfl <| Nl ?_
    exact ⟨(_, _, _, _), Nat.lt_succ_self _, ⟨trivial, h⟩, FX rfl⟩
  ·refine xt ?_
   obtain ⟨l16, hl16, h⟩ := Z8 h
   refine Rg <| Mw rfl <| Md rfl <| Md rfl <| Ac (Z0u rfl rfl (vt rfl) (vt rfl)) rfl <| Md rfl <| Md rfl <| Ac (Zu (A := fn2 Tryz.prog (Z0 .i64) (Z0 .i64) (Z0 .i64) x6) rfl rfl (vt rfl)) rfl <| Cv rfl (Z10 0 (xs := [.tmp 50, .tmp 53, .tmp 54, .tmp 55, .tmp 56]) (Zq3 _ _ _ _ _ _ _ hl16) Zr7 rfl rfl ⟨vt rfl, vt rfl, vt rfl, vt rfl, vt rfl, trivial⟩ rfl) fun _u => Nl ?_
   cases h; exact Z1j (i := 0) Tryz.results333 rfl rfl
def Zmd (i9 : Int) : Nat → (List Int) → Int → Option (List Int)
 | 0, _, _ => none
 | m20 + 1, l18, k19 => (bif (decide (k19 < (IntKind.i64.wrap (i9 - 1)))) then (lget l18 (IntKind.i64.wrap (k19 + 1))).bind fun x21 => (lget l18 k19).bind fun x22 => (lget l18 k19).bind fun x23 => (lget (List.set l18 k19.toNat x21) (IntKind.i64.wrap (k19 + 1))).bind fun x24 => (Zmd i9 m20) (List.set (List.set l18 k19.toNat x21) (IntKind.i64.wrap (k19 + 1)).toNat x22) (IntKind.i64.wrap (k19 + 1)) else some l18)
def Zjq (d1 : (List Int)) (a3 : Int) (x6 : (Int → Int → Option Int)) : Nat → Int → Int → Option (List Int)
 | 0, _, _ => none
 | m11 + 1, i9, j10 => (bif (decide (i9 < j10)) then (Z3i (BitVec.ofInt 64 (IntKind.i64.wrap (i9 + j10))) ((1 : BitVec 64).toNat : Int)).bind fun q12 => (lget d1 (IntKind.i64.wrap (q12.toNat : Int))).bind fun x13 => (lget d1 a3).bind fun x14 => (x6 x13 x14).bind fun x15 => (bif (decide (x15 < 0)) then (Zjq d1 a3 x6 m11) (IntKind.i64.wrap ((IntKind.i64.wrap (q12.toNat : Int)) + 1)) j10 else (Zjq d1 a3 x6 m11) i9 (IntKind.i64.wrap (q12.toNat : Int))) else Zmd i9 ((((IntKind.i64.wrap (i9 - 1)) : Int) - a3).toNat + 1) d1 a3)
def Zlv (i27 : Int) : Nat → (List Int) → Int → Option (List Int)
 | 0, _, _ => none
 | m38 + 1, l36, k37 => (bif (decide (k37 > i27)) then (lget l36 (IntKind.i64.wrap (k37 - 1))).bind fun x39 => (lget l36 k37).bind fun x40 => (lget l36 k37).bind fun x41 => (lget (List.set l36 k37.toNat x39) (IntKind.i64.wrap (k37 - 1))).bind fun x42 => (Zlv i27 m38) (List.set (List.set l36 k37.toNat x39) (IntKind.i64.wrap (k37 - 1)).toNat x40) (IntKind.i64.wrap (k37 - 1)) else some l36)
def Zir (d1 : (List Int)) (m4 : Int) (x6 : (Int → Int → Option Int)) : Nat → Int → Int → Option (List Int)
 | 0, _, _ => none
 | m29 + 1, i27, j28 => (bif (decide (i27 < j28)) then (Z3i (BitVec.ofInt 64 (IntKind.i64.wrap (i27 + j28))) ((1 : BitVec 64).toNat : Int)).bind fun q30 => (lget d1 m4).bind fun x31 => (lget d1 (IntKind.i64.wrap (q30.toNat : Int))).bind fun x32 => (x6 x31 x32).bind fun x33 => (bif (!(decide (x33 < 0))) then (Zir d1 m4 x6 m29) (IntKind.i64.wrap ((IntKind.i64.wrap (q30.toNat : Int)) + 1)) j28 else (Zir d1 m4 x6 m29) i27 (IntKind.i64.wrap (q30.toNat : Int))) else Zlv i27 (((m4 : Int) - i27).toNat + 1) d1 m4)
def Zpn (q43 : (BitVec 64)) (m4 : Int) (s48 : Int) (b5 : Int) (R_slices_symMergeCmpFunc_int : ((List Int) → Int → Int → Int → (Int → Int → Option Int) → Option (List Int))) (x6 : (Int → Int → Option Int)) (l56 : (List Int)) : Option (List Int) :=
 (bif ((decide ((IntKind.i64.wrap (q43.toNat : Int)) < (IntKind.i64.wrap ((IntKind.i64.wrap ((IntKind.i64.wrap (q43.toNat : Int)) + m4)) - s48)))) && (decide ((IntKind.i64.wrap ((IntKind.i64.wrap ((IntKind.i64.wrap (q43.toNat : Int)) + m4)) - s48)) < b5))) then (R_slices_symMergeCmpFunc_int l56 (IntKind.i64.wrap (q43.toNat : Int)) (IntKind.i64.wrap ((IntKind.i64.wrap ((IntKind.i64.wrap (q43.toNat : Int)) + m4)) - s48)) b5 x6).bind fun l57 => some l57 else some l56)
def Zn4 (a3 : Int) (s48 : Int) (q43 : (BitVec 64)) (R_slices_symMergeCmpFunc_int : ((List Int) → Int → Int → Int → (Int → Int → Option Int) → Option (List Int))) (x6 : (Int → Int → Option Int)) (m4 : Int) (b5 : Int) (l55 : (List Int)) : Option (List Int) :=
 (bif ((decide (a3 < s48)) && (decide (s48 < (IntKind.i64.wrap (q43.toNat : Int))))) then (R_slices_symMergeCmpFunc_int l55 a3 s48 (IntKind.i64.wrap (q43.toNat : Int)) x6).bind fun l58 => Zpn q43 m4 s48 b5 R_slices_symMergeCmpFunc_int x6 l58 else Zpn q43 m4 s48 b5 R_slices_symMergeCmpFunc_int x6 l55)
def Zj3 (d1 : (List Int)) (q43 : (BitVec 64)) (m4 : Int) (x6 : (Int → Int → Option Int)) (a3 : Int) (R_slices_symMergeCmpFunc_int : ((List Int) → Int → Int → Int → (Int → Int → Option Int) → Option (List Int))) (b5 : Int) : Nat → Int → Int → Option (List Int)
 | 0, _, _ => none
 | m50 + 1, s48, x49 => (bif (decide (s48 < x49)) then (Z3i (BitVec.ofInt 64 (IntKind.i64.wrap (s48 + x49))) ((1 : BitVec 64).toNat : Int)).bind fun q51 => (lget d1 (IntKind.i64.wrap ((IntKind.i64.wrap ((IntKind.i64.wrap ((IntKind.i64.wrap (q43.toNat : Int)) + m4)) - 1)) - (IntKind.i64.wrap (q51.toNat : Int))))).bind fun x52 => (lget d1 (IntKind.i64.wrap (q51.toNat : Int))).bind fun x53 => (x6 x52 x53).bind fun x54 => (bif (!(decide (x54 < 0))) then (Zj3 d1 q43 m4 x6 a3 R_slices_symMergeCmpFunc_int b5 m50) (IntKind.i64.wrap ((IntKind.i64.wrap (q51.toNat : Int)) + 1)) x49 else (Zj3 d1 q43 m4 x6 a3 R_slices_symMergeCmpFunc_int b5 m50) s48 (IntKind.i64.wrap (q51.toNat : Int))) else (bif ((decide (s48 < m4)) && (decide (m4 < (IntKind.i64.wrap ((IntKind.i64.wrap ((IntKind.i64.wrap (q43.toNat : Int)) + m4)) - s48))))) then (Zsn d1 s48 m4 (IntKind.i64.wrap ((IntKind.i64.wrap ((IntKind.i64.wrap (q43.toNat : Int)) + m4)) - s48)) x6).bind fun l59 => Zn4 a3 s48 q43 R_slices_symMergeCmpFunc_int x6 m4 b5 l59 else Zn4 a3 s48 q43 R_slices_symMergeCmpFunc_int x6 m4 b5 d1))
def Zoq (d1 : (List Int)) (q43 : (BitVec 64)) (m4 : Int) (x6 : (Int → Int → Option Int)) (a3 : Int) (R_slices_symMergeCmpFunc_int : ((List Int) → Int → Int → Int → (Int → Int → Option Int) → Option (List Int))) (b5 : Int) (s44 : Int) (x45 : Int) : Option (List Int) :=
 Zj3 d1 q43 m4 x6 a3 R_slices_symMergeCmpFunc_int b5 (((x45 : Int) - s44).toNat + 1) s44 x45
def Zu1 (R_slices_symMergeCmpFunc_int : ((List Int) → Int → Int → Int → (Int → Int → Option Int) → Option (List Int))) (d1 : (List Int)) (a3 : Int) (m4 : Int) (b5 : Int) (x6 : (Int → Int → Option Int)) : Option (List Int) :=
 (bif (decide ((IntKind.i64.wrap (m4 - a3)) = 1)) then Zjq d1 a3 x6 (((b5 : Int) - m4).toNat + 1) m4 b5 else (bif (decide ((IntKind.i64.wrap (b5 - m4)) = 1)) then Zir d1 m4 x6 (((m4 : Int) - a3).toNat + 1) a3 m4 else (Z3i (BitVec.ofInt 64 (IntKind.i64.wrap (a3 + b5))) ((1 : BitVec 64).toNat : Int)).bind fun q43 => (bif (decide (m4 > (IntKind.i64.wrap (q43.toNat : Int)))) then Zoq d1 q43 m4 x6 a3 R_slices_symMergeCmpFunc_int b5 (IntKind.i64.wrap ((IntKind.i64.wrap ((IntKind.i64.wrap (q43.toNat : Int)) + m4)) - b5)) (IntKind.i64.wrap (q43.toNat : Int)) else Zoq d1 q43 m4 x6 a3 R_slices_symMergeCmpFunc_int b5 a3 m4)))
theorem Yf6 (R_slices_symMergeCmpFunc_int : ((List Int) → Int → Int → Int → (Int → Int → Option Int) → Option (List Int))) (hR_slices_symMergeCmpFunc_int : ∀ (v2 : Value) (d1 : (List Int)) (a3 : Int) (m4 : Int) (b5 : Int) (x6 : (Int → Int → Option Int)) (r : (List Int)), R_slices_symMergeCmpFunc_int d1 a3 m4 b5 x6 = some r → Con Tryz.prog 302 [Zn v2, rd (Z0 .i64) a3, rd (Z0 .i64) m4, rd (Z0 .i64) b5, fn2 Tryz.prog (Z0 .i64) (Z0 .i64) (Z0 .i64) x6] (Zb v2 3 (Z0 .i64) d1) (fun _ : Unit => top) (fun _ => Zb v2 3 (Z0 .i64) r)) (v2 : Value) (d1 : (List Int)) (a3 : Int) (m4 : Int) (b5 : Int) (x6 : (Int → Int → Option Int)) (r : (List Int)) (h : Zu1 R_slices_symMergeCmpFunc_int d1 a3 m4 b5 x6 = some r) : Con Tryz.prog 302 [Zn v2, rd (Z0 .i64) a3, rd (Z0 .i64) m4, rd (Z0 .i64) b5, fn2 Tryz.prog (Z0 .i64) (Z0 .i64) (Z0 .i64) x6] (Zb v2 3 (Z0 .i64) d1) (fun _ : Unit => top) (fun _ => Zb v2 3 (Z0 .i64) r) := by
 refine Con.intro Tryz.func302 rfl Tryz.ntmps302 rfl fun w H X => ?_
 unfold Zu1 at h
 refine sq <| SR <| Md rfl <| Md rfl <| Ac (Z0u rfl rfl (vt rfl) (vt rfl)) rfl <| Ac (Z21 rfl rfl (vt rfl) (vk rfl)) rfl <| Nl <| Cq rfl h (fun h => ?_) (fun h => ?_)
 ·refine SR <| Md rfl <| As rfl <| Nl <| SR <| Md rfl <| As rfl <| Nl <| sq <| bk <| LG (d := []) (ν := Nat × Int × Int) (fun (m11, i9, j10) => (True ∧ Zjq d1 a3 x6 m11 i9 j10 = some r, m11, [(0, Zn v2), (1, rd (Z0 .i64) a3), (4, fn2 Tryz.prog (Z0 .i64) (Z0 .i64) (Z0 .i64) x6), (10, rd (Z0 .i64) i9), (11, rd (Z0 .i64) j10)], [(0, Zb v2 3 (Z0 .i64) d1)])) ((((b5 : Int) - m4).toNat + 1), m4, b5) ⟨trivial, h⟩ (FX rfl) ?_
  rintro ⟨m11, i9, j10⟩ ⟨hsf1, h⟩
  dsimp only at h ⊢
  cases m11 with
  | zero => cases h
  | succ m11 =>
   unfold Zjq at h
   refine sq <| SR <| Md rfl <| Md rfl <| Ac (Zi rfl rfl (vt rfl) (vt rfl)) rfl <| Nl <| Cq rfl h (fun h => ?_) (fun h => ?_)
   ·refine sk <| bk <| sq ?_
    obtain ⟨q12, hq12, h⟩ := Z8 h
    refine Rg <| Md rfl <| Md rfl <| Ac (Z0o rfl rfl (vt rfl) (vt rfl)) rfl <| Ac (Z8r rfl rfl us3 Zam (vt rfl)) rfl <| Ac (Z63 rfl rfl (vt rfl) (Z60 (vku (1 : BitVec 64) rfl)) hq12) rfl <| Ac (Z9h rfl rfl Zbu un3 (vt rfl)) rfl <| As rfl <| Nl <| sq ?_
    obtain ⟨x13, hx13, x14, hx14, x15, hx15, h⟩ := bs3 h
    refine AR Zw (by kernel_rfl) <| Sd (lo [4] [] rfl fun S hs hr => Zu (A := fn2 Tryz.prog (Z0 .i64) (Z0 .i64) (Z0 .i64) x6) rfl rfl (vh hs 4 rfl rfl)) <| SMw rfl <| SMd rfl <| Sd (lo [41, 42] [0] rfl fun S hs hr => Z2j 0 rfl rfl Z14 (vh hs 41 rfl rfl) ((hr 0 rfl).trans rfl) (vh hs 42 rfl rfl) hx13) <| Sd (lo [43] [0] rfl fun S hs hr => Z1t 0 rfl rfl Zo (vh hs 43 rfl rfl) ((hr 0 rfl).trans rfl) (Z0m hx13).2) <| SMw rfl <| SMd rfl <| Sd (lo [45, 46] [0] rfl fun S hs hr => Z2j 0 rfl rfl Z14 (vh hs 45 rfl rfl) ((hr 0 rfl).trans rfl) (vh hs 46 rfl rfl) hx14) <| Sd (lo [47] [0] rfl fun S hs hr => Z1t 0 rfl rfl Zo (vh hs 47 rfl rfl) ((hr 0 rfl).trans rfl) (Z0m hx14).2) <| Sd (lo [40, 44, 48] [] rfl fun S hs hr => Zb8 hx15 rfl rfl (vh hs 40 rfl rfl) (vh hs 44 rfl rfl) (vh hs 48 rfl rfl)) <| Sd (lo [49] [] rfl fun S hs hr => Zi rfl rfl (vh hs 49 rfl rfl) (vk rfl)) <| Sn <| Cq rfl h (fun h => ?_) (fun h => ?_)
    ·refine Rg <| Md rfl <| Ac (Z0o rfl rfl (vt rfl) (vk rfl)) rfl <| As rfl <| Nl ?_
     exact ⟨(_, _, _), Nat.lt_succ_self _, ⟨trivial, h⟩, FX rfl⟩
    ·refine Rg <| Md rfl <| As rfl <| Nl ?_
     exact ⟨(_, _, _), Nat.lt_succ_self _, ⟨trivial, h⟩, FX rfl⟩
   ·refine xt <| sq <| SR <| Md rfl <| As rfl <| Nl <| bk <| LG (d := []) (ν := Nat × (List Int) × Int) (fun (m20, l18, k19) => (True ∧ Zmd i9 m20 l18 k19 = some r, m20, [(0, Zn v2), (10, rd (Z0 .i64) i9), (13, rd (Z0 .i64) k19)], [(0, Zb v2 3 (Z0 .i64) l18)])) (((((IntKind.i64.wrap (i9 - 1)) : Int) - a3).toNat + 1), d1, a3) ⟨trivial, h⟩ (FX rfl) ?_
    rintro ⟨m20, l18, k19⟩ ⟨hsf2, h⟩
    dsimp only at h ⊢
    cases m20 with
    | zero => cases h
    | succ m20 =>
     unfold Zmd at h
     refine sq <| SR <| Md rfl <| Md rfl <| Ac (Z0u rfl rfl (vt rfl) (vk rfl)) rfl <| Ac (Zi rfl rfl (vt rfl) (vt rfl)) rfl <| Nl <| Cq rfl h (fun h => ?_) (fun h => ?_)
     ·refine sk <| sq <| bk <| AW.vlen 0 rfl fun hvl0_205 => ?_
      obtain ⟨x21, hx21, x22, hx22, x23, hx23, x24, hx24, h⟩ := bs4 h
      refine AR Zw (by kernel_rfl) <| SMw rfl <| SMd rfl <| SMw rfl <| SMd rfl <| Sd (lo [64] [] rfl fun S hs hr => Z0o rfl rfl (vh hs 64 rfl rfl) (vk rfl)) <| SMw rfl <| SMd rfl <| Sd (lo [67] [] rfl fun S hs hr => Z0o rfl rfl (vh hs 67 rfl rfl) (vk rfl)) <| Sd (lo [66, 68] [] rfl fun S hs hr => Z24 (l := l18) hvl0_205 rfl rfl rfl Z14 (vh hs 66 rfl rfl) (vh hs 68 rfl rfl) hx21) <| Sd (lo [69] [0] rfl fun S hs hr => Z1t 0 rfl rfl Zo (vh hs 69 rfl rfl) ((hr 0 rfl).trans rfl) (Z0m hx21).2) <| SMw rfl <| SMd rfl <| Sd (lo [71, 72] [] rfl fun S hs hr => Z24 (l := l18) hvl0_205 rfl rfl rfl Z14 (vh hs 71 rfl rfl) (vh hs 72 rfl rfl) hx22) <| Sd (lo [73] [0] rfl fun S hs hr => Z1t 0 rfl rfl Zo (vh hs 73 rfl rfl) ((hr 0 rfl).trans rfl) (Z0m hx22).2) <| Sd (lo [61, 62] [] rfl fun S hs hr => Z24 (l := l18) hvl0_205 rfl rfl rfl Z14 (vh hs 61 rfl rfl) (vh hs 62 rfl rfl) hx23) <| Sd (Z47 [75, 70] [0] rfl fun S hs hr => Z3w 0 rfl rfl Zo (vh hs 75 rfl rfl) ((hr 0 rfl).trans rfl) (Z0m hx23).2 (vh hs 70 rfl rfl)) <| Sd (lo [63, 65] [] rfl fun S hs hr => Z24 (l := (List.set l18 k19.toNat x21)) hvl0_205 (by simp) rfl rfl Z14 (vh hs 63 rfl rfl) (vh hs 65 rfl rfl) hx24) <| Sd (Z47 [76, 74] [0] rfl fun S hs hr => Z3w 0 rfl rfl Zo (vh hs 76 rfl rfl) ((hr 0 rfl).trans rfl) (Z0m hx24).2 (vh hs 74 rfl rfl)) <| Sn <| Rg <| Md rfl <| Ac (Z0o rfl rfl (vt rfl) (vk rfl)) rfl <| As rfl <| Nl ?_
      exact ⟨(_, _, _), Nat.lt_succ_self _, ⟨trivial, h⟩, FX rfl⟩
     ·refine xt <| rt ?_
      cases h; exact Z1j (i := 0) Tryz.results302 rfl rfl
 ·refine sk <| sq <| SR <| Md rfl <| Md rfl <| Ac (Z0u rfl rfl (vt rfl) (vt rfl)) rfl <| Ac (Z21 rfl rfl (vt rfl) (vk rfl)) rfl <| Nl <| Cq rfl h (fun h => ?_) (fun h => ?_)
  ·refine SR <| Md rfl <| As rfl <| Nl <| SR <| Md rfl <| As rfl <| Nl <| sq <| bk <| LG (d := []) (ν := Nat × Int × Int) (fun (m29, i27, j28) => (True ∧ Zir d1 m4 x6 m29 i27 j28 = some r, m29, [(0, Zn v2), (2, rd (Z0 .i64) m4), (4, fn2 Tryz.prog (Z0 .i64) (Z0 .i64) (Z0 .i64) x6), (14, rd (Z0 .i64) i27), (15, rd (Z0 .i64) j28)], [(0, Zb v2 3 (Z0 .i64) d1)])) ((((m4 : Int) - a3).toNat + 1), a3, m4) ⟨trivial, h⟩ (FX rfl) ?_
   rintro ⟨m29, i27, j28⟩ ⟨hsf3, h⟩
   dsimp only at h ⊢
   cases m29 with
   | zero => cases h
   | succ m29 =>
    unfold Zir at h
    refine sq <| SR <| Md rfl <| Md rfl <| Ac (Zi rfl rfl (vt rfl) (vt rfl)) rfl <| Nl <| Cq rfl h (fun h => ?_) (fun h => ?_)
    ·refine sk <| bk <| sq ?_
     obtain ⟨q30, hq30, h⟩ := Z8 h
     refine Rg <| Md rfl <| Md rfl <| Ac (Z0o rfl rfl (vt rfl) (vt rfl)) rfl <| Ac (Z8r rfl rfl us3 Zam (vt rfl)) rfl <| Ac (Z63 rfl rfl (vt rfl) (Z60 (vku (1 : BitVec 64) rfl)) hq30) rfl <| Ac (Z9h rfl rfl Zbu un3 (vt rfl)) rfl <| As rfl <| Nl <| sq ?_
     obtain ⟨x31, hx31, x32, hx32, x33, hx33, h⟩ := bs3 h
     refine AR Zw (by kernel_rfl) <| Sd (lo [4] [] rfl fun S hs hr => Zu (A := fn2 Tryz.prog (Z0 .i64) (Z0 .i64) (Z0 .i64) x6) rfl rfl (vh hs 4 rfl rfl)) <| SMw rfl <| SMd rfl <| Sd (lo [93, 94] [0] rfl fun S hs hr => Z2j 0 rfl rfl Z14 (vh hs 93 rfl rfl) ((hr 0 rfl).trans rfl) (vh hs 94 rfl rfl) hx31) <| Sd (lo [95] [0] rfl fun S hs hr => Z1t 0 rfl rfl Zo (vh hs 95 rfl rfl) ((hr 0 rfl).trans rfl) (Z0m hx31).2) <| SMw rfl <| SMd rfl <| Sd (lo [97, 98] [0] rfl fun S hs hr => Z2j 0 rfl rfl Z14 (vh hs 97 rfl rfl) ((hr 0 rfl).trans rfl) (vh hs 98 rfl rfl) hx32) <| Sd (lo [99] [0] rfl fun S hs hr => Z1t 0 rfl rfl Zo (vh hs 99 rfl rfl) ((hr 0 rfl).trans rfl) (Z0m hx32).2) <| Sd (lo [92, 96, 100] [] rfl fun S hs hr => Zb8 hx33 rfl rfl (vh hs 92 rfl rfl) (vh hs 96 rfl rfl) (vh hs 100 rfl rfl)) <| Sd (lo [101] [] rfl fun S hs hr => Zi rfl rfl (vh hs 101 rfl rfl) (vk rfl)) <| Sd (lo [102] [] rfl fun S hs hr => Z0x rfl rfl (vh hs 102 rfl rfl)) <| Sn <| Cq rfl h (fun h => ?_) (fun h => ?_)
     ·refine Rg <| Md rfl <| Ac (Z0o rfl rfl (vt rfl) (vk rfl)) rfl <| As rfl <| Nl ?_
      exact ⟨(_, _, _), Nat.lt_succ_self _, ⟨trivial, h⟩, FX rfl⟩
     ·refine Rg <| Md rfl <| As rfl <| Nl ?_
      exact ⟨(_, _, _), Nat.lt_succ_self _, ⟨trivial, h⟩, FX rfl⟩
    ·refine xt <| sq <| SR <| Md rfl <| As rfl <| Nl <| bk <| LG (d := []) (ν := Nat × (List Int) × Int) (fun (m38, l36, k37) => (True ∧ Zlv i27 m38 l36 k37 = some r, m38, [(0, Zn v2), (14, rd (Z0 .i64) i27), (17, rd (Z0 .i64) k37)], [(0, Zb v2 3 (Z0 .i64) l36)])) ((((m4 : Int) - i27).toNat + 1), d1, m4) ⟨trivial, h⟩ (FX rfl) ?_
     rintro ⟨m38, l36, k37⟩ ⟨hsf4, h⟩
     dsimp only at h ⊢
     cases m38 with
     | zero => cases h
     | succ m38 =>
      unfold Zlv at h
      refine sq <| SR <| Md rfl <| Md rfl <| Ac (Z3e rfl rfl (vt rfl) (vt rfl)) rfl <| Nl <| Cq rfl h (fun h => ?_) (fun h => ?_)
      ·refine sk <| sq <| bk <| AW.vlen 0 rfl fun hvl0_446 => ?_
       obtain ⟨x39, hx39, x40, hx40, x41, hx41, x42, hx42, h⟩ := bs4 h
       refine AR Zw (by kernel_rfl) <| SMw rfl <| SMd rfl <| SMw rfl <| SMd rfl <| Sd (lo [116] [] rfl fun S hs hr => Z0u rfl rfl (vh hs 116 rfl rfl) (vk rfl)) <| SMw rfl <| SMd rfl <| Sd (lo [119] [] rfl fun S hs hr => Z0u rfl rfl (vh hs 119 rfl rfl) (vk rfl)) <| Sd (lo [118, 120] [] rfl fun S hs hr => Z24 (l := l36) hvl0_446 rfl rfl rfl Z14 (vh hs 118 rfl rfl) (vh hs 120 rfl rfl) hx39) <| Sd (lo [121] [0] rfl fun S hs hr => Z1t 0 rfl rfl Zo (vh hs 121 rfl rfl) ((hr 0 rfl).trans rfl) (Z0m hx39).2) <| SMw rfl <| SMd rfl <| Sd (lo [123, 124] [] rfl fun S hs hr => Z24 (l := l36) hvl0_446 rfl rfl rfl Z14 (vh hs 123 rfl rfl) (vh hs 124 rfl rfl) hx40) <| Sd (lo [125] [0] rfl fun S hs hr => Z1t 0 rfl rfl Zo (vh hs 125 rfl rfl) ((hr 0 rfl).trans rfl) (Z0m hx40).2) <| Sd (lo [113, 114] [] rfl fun S hs hr => Z24 (l := l36) hvl0_446 rfl rfl rfl Z14 (vh hs 113 rfl rfl) (vh hs 114 rfl rfl) hx41) <| Sd (Z47 [127, 122] [0] rfl fun S hs hr => Z3w 0 rfl rfl Zo (vh hs 127 rfl rfl) ((hr 0 rfl).trans rfl) (Z0m hx41).2 (vh hs 122 rfl rfl)) <| Sd (lo [115, 117] [] rfl fun S hs hr => Z24 (l := (List.set l36 k37.toNat x39)) hvl0_446 (by simp) rfl rfl Z14 (vh hs 115 rfl rfl) (vh hs 117 rfl rfl) hx42) <| Sd (Z47 [128, 126] [0] rfl fun S hs hr => Z3w 0 rfl rfl Zo (vh hs 128 rfl rfl) ((hr 0 rfl).trans rfl) (Z0m hx42).2 (vh hs 126 rfl rfl)) <| Sn <| Rg <| Md rfl <| Ac (Z0u rfl rfl (vt rfl) (vk rfl)) rfl <| As rfl <| Nl ?_
       exact ⟨(_, _, _), Nat.lt_succ_self _, ⟨trivial, h⟩, FX rfl⟩
      ·refine xt <| rt ?_
       cases h; exact Z1j (i := 0) Tryz.results302 rfl rfl
  ·refine sk <| sq ?_
   obtain ⟨q43, hq43, h⟩ := Z8 h
   refine Rg <| Md rfl <| Md rfl <| Ac (Z0o rfl rfl (vt rfl) (vt rfl)) rfl <| Ac (Z8r rfl rfl us3 Zam (vt rfl)) rfl <| Ac (Z63 rfl rfl (vt rfl) (Z60 (vku (1 : BitVec 64) rfl)) hq43) rfl <| Ac (Z9h rfl rfl Zbu un3 (vt rfl)) rfl <| As rfl <| Nl <| SR <| Md rfl <| Md rfl <| Ac (Z0o rfl rfl (vt rfl) (vt rfl)) rfl <| As rfl <| Nl <| SR <| Ak rfl <| Ak rfl <| Nl ?_
   refine JN (d := []) (ν := Int × Int) (fun (s44, x45) => (Zoq d1 q43 m4 x6 a3 R_slices_symMergeCmpFunc_int b5 s44 x45 = some r, [(0, Zn v2), (1, rd (Z0 .i64) a3), (2, rd (Z0 .i64) m4), (3, rd (Z0 .i64) b5), (4, fn2 Tryz.prog (Z0 .i64) (Z0 .i64) (Z0 .i64) x6), (18, rd (Z0 .i64) (IntKind.i64.wrap (q43.toNat : Int))), (19, rd (Z0 .i64) (IntKind.i64.wrap ((IntKind.i64.wrap (q43.toNat : Int)) + m4))), (20, rd (Z0 .i64) s44), (21, rd (Z0 .i64) x45)], [(0, Zb v2 3 (Z0 .i64) d1)])) ?hx5 ?hy5
   case hy5 =>
    rintro ⟨s44, x45⟩ h
    dsimp only at h ⊢
    unfold Zoq at h
    refine SR <| Md rfl <| Ac (Z0u rfl rfl (vt rfl) (vk rfl)) rfl <| As rfl <| Nl <| sq <| bk <| LG (d := []) (ν := Nat × Int × Int) (fun (m50, s48, x49) => (True ∧ Zj3 d1 q43 m4 x6 a3 R_slices_symMergeCmpFunc_int b5 m50 s48 x49 = some r, m50, [(0, Zn v2), (1, rd (Z0 .i64) a3), (2, rd (Z0 .i64) m4), (3, rd (Z0 .i64) b5), (4, fn2 Tryz.prog (Z0 .i64) (Z0 .i64) (Z0 .i64) x6), (18, rd (Z0 .i64) (IntKind.i64.wrap (q43.toNat : Int))), (19, rd (Z0 .i64) (IntKind.i64.wrap ((IntKind.i64.wrap (q43.toNat : Int)) + m4))), (20, rd (Z0 .i64) s48), (21, rd (Z0 .i64) x49), (22, rd (Z0 .i64) (IntKind.i64.wrap ((IntKind.i64.wrap ((IntKind.i64.wrap (q43.toNat : Int)) + m4)) - 1)))], [(0, Zb v2 3 (Z0 .i64) d1)])) ((((x45 : Int) - s44).toNat + 1), s44, x45) ⟨trivial, h⟩ (FX rfl) ?_
    rintro ⟨m50, s48, x49⟩ ⟨hsf6, h⟩
    dsimp only at h ⊢
    cases m50 with
    | zero => cases h
    | succ m50 =>
     unfold Zj3 at h
     refine sq <| SR <| Md rfl <| Md rfl <| Ac (Zi rfl rfl (vt rfl) (vt rfl)) rfl <| Nl <| Cq rfl h (fun h => ?_) (fun h => ?_)
     ·refine sk <| bk <| sq ?_
      obtain ⟨q51, hq51, h⟩ := Z8 h
      refine Rg <| Md rfl <| Md rfl <| Ac (Z0o rfl rfl (vt rfl) (vt rfl)) rfl <| Ac (Z8r rfl rfl us3 Zam (vt rfl)) rfl <| Ac (Z63 rfl rfl (vt rfl) (Z60 (vku (1 : BitVec 64) rfl)) hq51) rfl <| Ac (Z9h rfl rfl Zbu un3 (vt rfl)) rfl <| As rfl <| Nl <| sq ?_
      obtain ⟨x52, hx52, x53, hx53, x54, hx54, h⟩ := bs3 h
      refine AR Zw (by kernel_rfl) <| Sd (lo [4] [] rfl fun S hs hr => Zu (A := fn2 Tryz.prog (Z0 .i64) (Z0 .i64) (Z0 .i64) x6) rfl rfl (vh hs 4 rfl rfl)) <| SMw rfl <| SMd rfl <| SMd rfl <| Sd (lo [160, 161] [] rfl fun S hs hr => Z0u rfl rfl (vh hs 160 rfl rfl) (vh hs 161 rfl rfl)) <| Sd (lo [159, 162] [0] rfl fun S hs hr => Z2j 0 rfl rfl Z14 (vh hs 159 rfl rfl) ((hr 0 rfl).trans rfl) (vh hs 162 rfl rfl) hx52) <| Sd (lo [163] [0] rfl fun S hs hr => Z1t 0 rfl rfl Zo (vh hs 163 rfl rfl) ((hr 0 rfl).trans rfl) (Z0m hx52).2) <| SMw rfl <| SMd rfl <| Sd (lo [165, 166] [0] rfl fun S hs hr => Z2j 0 rfl rfl Z14 (vh hs 165 rfl rfl) ((hr 0 rfl).trans rfl) (vh hs 166 rfl rfl) hx53) <| Sd (lo [167] [0] rfl fun S hs hr => Z1t 0 rfl rfl Zo (vh hs 167 rfl rfl) ((hr 0 rfl).trans rfl) (Z0m hx53).2) <| Sd (lo [158, 164, 168] [] rfl fun S hs hr => Zb8 hx54 rfl rfl (vh hs 158 rfl rfl) (vh hs 164 rfl rfl) (vh hs 168 rfl rfl)) <| Sd (lo [169] [] rfl fun S hs hr => Zi rfl rfl (vh hs 169 rfl rfl) (vk rfl)) <| Sd (lo [170] [] rfl fun S hs hr => Z0x rfl rfl (vh hs 170 rfl rfl)) <| Sn <| Cq rfl h (fun h => ?_) (fun h => ?_)
      ·refine Rg <| Md rfl <| Ac (Z0o rfl rfl (vt rfl) (vk rfl)) rfl <| As rfl <| Nl ?_
       exact ⟨(_, _, _), Nat.lt_succ_self _, ⟨trivial, h⟩, FX rfl⟩
      ·refine Rg <| Md rfl <| As rfl <| Nl ?_
       exact ⟨(_, _, _), Nat.lt_succ_self _, ⟨trivial, h⟩, FX rfl⟩
     ·refine xt <| SR <| Md rfl <| Md rfl <| Ac (Z0u rfl rfl (vt rfl) (vt rfl)) rfl <| As rfl <| Nl ?_
      refine JN (d := []) (ν := (List Int)) (fun l55 => (Zn4 a3 s48 q43 R_slices_symMergeCmpFunc_int x6 m4 b5 l55 = some r, [(0, Zn v2), (1, rd (Z0 .i64) a3), (3, rd (Z0 .i64) b5), (4, fn2 Tryz.prog (Z0 .i64) (Z0 .i64) (Z0 .i64) x6), (18, rd (Z0 .i64) (IntKind.i64.wrap (q43.toNat : Int))), (20, rd (Z0 .i64) s48), (24, rd (Z0 .i64) (IntKind.i64.wrap ((IntKind.i64.wrap ((IntKind.i64.wrap (q43.toNat : Int)) + m4)) - s48)))], [(0, Zb v2 3 (Z0 .i64) l55)])) ?hx7 ?hy7
      case hy7 =>
       intro l55 h
       dsimp only at h ⊢
       unfold Zn4 at h
       refine JN (d := []) (ν := (List Int)) (fun l56 => (Zpn q43 m4 s48 b5 R_slices_symMergeCmpFunc_int x6 l56 = some r, [(0, Zn v2), (3, rd (Z0 .i64) b5), (4, fn2 Tryz.prog (Z0 .i64) (Z0 .i64) (Z0 .i64) x6), (18, rd (Z0 .i64) (IntKind.i64.wrap (q43.toNat : Int))), (24, rd (Z0 .i64) (IntKind.i64.wrap ((IntKind.i64.wrap ((IntKind.i64.wrap (q43.toNat : Int)) + m4)) - s48)))], [(0, Zb v2 3 (Z0 .i64) l56)])) ?hx8 ?hy8
       case hy8 =>
        intro l56 h
        dsimp only at h ⊢
        unfold Zpn at h
        refine SR <| Md rfl <| Md rfl <| Ac (Zi rfl rfl (vt rfl) (vt rfl)) rfl <| Md rfl <| Gd rfl (fun hq => Zu (A := rd (Z0 .i64) (IntKind.i64.wrap ((IntKind.i64.wrap ((IntKind.i64.wrap (q43.toNat : Int)) + m4)) - s48))) rfl rfl (vt rfl)) <| Gd rfl (fun hq => Zu (A := rd (Z0 .i64) b5) rfl rfl (vt rfl)) <| Gd rfl (fun hq => Zi rfl rfl (Zs rfl hq) (Zs rfl hq)) <| Ac (Z26 rfl rfl (vt rfl) (vt rfl)) rfl <| Nl <| Cq rfl h (fun h => ?_) (fun h => ?_)
        ·obtain ⟨l57, hl57, h⟩ := Z8 h
         refine Rg <| Mw rfl <| Md rfl <| Md rfl <| Md rfl <| Ac (Zu (A := fn2 Tryz.prog (Z0 .i64) (Z0 .i64) (Z0 .i64) x6) rfl rfl (vt rfl)) rfl <| Cv rfl (Z10 0 (xs := [.tmp 214, .tmp 215, .tmp 216, .tmp 217, .tmp 218]) (hR_slices_symMergeCmpFunc_int _ _ _ _ _ _ _ hl57) Zp8 rfl rfl ⟨vt rfl, vt rfl, vt rfl, vt rfl, vt rfl, trivial⟩ rfl) fun _u => Nl ?_
         cases h; exact Z1j (i := 0) Tryz.results302 rfl rfl
        ·refine sk ?_
         cases h; exact Z1j (i := 0) Tryz.results302 rfl rfl
       case hx8 =>
        refine SR <| Md rfl <| Md rfl <| Ac (Zi rfl rfl (vt rfl) (vt rfl)) rfl <| Md rfl <| Gd rfl (fun hq => Zu (A := rd (Z0 .i64) s48) rfl rfl (vt rfl)) <| Gd rfl (fun hq => Zu (A := rd (Z0 .i64) (IntKind.i64.wrap (q43.toNat : Int))) rfl rfl (vt rfl)) <| Gd rfl (fun hq => Zi rfl rfl (Zs rfl hq) (Zs rfl hq)) <| Ac (Z26 rfl rfl (vt rfl) (vt rfl)) rfl <| Nl <| Cq rfl h (fun h => ?_) (fun h => ?_)
        ·obtain ⟨l58, hl58, h⟩ := Z8 h
         refine Rg <| Mw rfl <| Md rfl <| Md rfl <| Md rfl <| Ac (Zu (A := fn2 Tryz.prog (Z0 .i64) (Z0 .i64) (Z0 .i64) x6) rfl rfl (vt rfl)) rfl <| Cv rfl (Z10 0 (xs := [.tmp 200, .tmp 201, .tmp 202, .tmp 203, .tmp 204]) (hR_slices_symMergeCmpFunc_int _ _ _ _ _ _ _ hl58) Zp8 rfl rfl ⟨vt rfl, vt rfl, vt rfl, vt rfl, vt rfl, trivial⟩ rfl) fun _u => Nl ?_
         exact ⟨_, h, FX rfl⟩
        ·refine sk ?_
         exact ⟨_, h, FX rfl⟩
      case hx7 =>
       refine SR <| Md rfl <| Md rfl <| Ac (Zi rfl rfl (vt rfl) (vt rfl)) rfl <| Md rfl <| Gd rfl (fun hq => Zu (A := rd (Z0 .i64) m4) rfl rfl (vt rfl)) <| Gd rfl (fun hq => Zu (A := rd (Z0 .i64) (IntKind.i64.wrap ((IntKind.i64.wrap ((IntKind.i64.wrap (q43.toNat : Int)) + m4)) - s48))) rfl rfl (vt rfl)) <| Gd rfl (fun hq => Zi rfl rfl (Zs rfl hq) (Zs rfl hq)) <| Ac (Z26 rfl rfl (vt rfl) (vt rfl)) rfl <| Nl <| Cq rfl h (fun h => ?_) (fun h => ?_)
       ·obtain ⟨l59, hl59, h⟩ := Z8 h
        refine Rg <| Mw rfl <| Md rfl <| Md rfl <| Md rfl <| Ac (Zu (A := fn2 Tryz.prog (Z0 .i64) (Z0 .i64) (Z0 .i64) x6) rfl rfl (vt rfl)) rfl <| Cv rfl (Z10 0 (xs := [.tmp 186, .tmp 187, .tmp 188, .tmp 189, .tmp 190]) (Ykt _ _ _ _ _ _ _ hl59) Ylf rfl rfl ⟨vt rfl, vt rfl, vt rfl, vt rfl, vt rfl, trivial⟩ rfl) fun _u => Nl ?_
        exact ⟨_, h, FX rfl⟩
       ·refine sk ?_
        exact ⟨_, h, FX rfl⟩
   case hx5 =>
    refine SR <| Md rfl <| Md rfl <| Ac (Z3e rfl rfl (vt rfl) (vt rfl)) rfl <| Nl <| Cq rfl h (fun h => ?_) (fun h => ?_)
    ·refine SR <| Md rfl <| Md rfl <| Ac (Z0u rfl rfl (vt rfl) (vt rfl)) rfl <| As rfl <| Nl <| Rg <| Md rfl <| As rfl <| Nl ?_
     exact ⟨(_, _), h, FX rfl⟩
    ·refine SR <| Md rfl <| As rfl <| Nl <| Rg <| Md rfl <| As rfl <| Nl ?_
     exact ⟨(_, _), h, FX rfl⟩
def Zpa : Nat → ((List Int) → Int → Int → Int → (Int → Int → Option Int) → Option (List Int))
 | 0 => (fun _ _ _ _ _ => none)
 | n + 1 => (Zu1 (Zpa n))
theorem Y2o : ∀ n : Nat, (∀ (v2 : Value) (d1 : (List Int)) (a3 : Int) (m4 : Int) (b5 : Int) (x6 : (Int → Int → Option Int)) (r : (List Int)), (Zpa n) d1 a3 m4 b5 x6 = some r → Con Tryz.prog 302 [Zn v2, rd (Z0 .i64) a3, rd (Z0 .i64) m4, rd (Z0 .i64) b5, fn2 Tryz.prog (Z0 .i64) (Z0 .i64) (Z0 .i64) x6] (Zb v2 3 (Z0 .i64) d1) (fun _ : Unit => top) (fun _ => Zb v2 3 (Z0 .i64) r))
 | 0 => (by intros; rename_i h; cases h)
 | n + 1 => by
  have ih := Y2o n
  exact (Yf6 (Zpa n) ih)
def Zud (d1 : (List Int)) (a3 : Int) (m4 : Int) (b5 : Int) (x6 : (Int → Int → Option Int)) : Option (List Int) := (Zpa Z0k) d1 a3 m4 b5 x6
theorem Zvw : ∀ (v2 : Value) (d1 : (List Int)) (a3 : Int) (m4 : Int) (b5 : Int) (x6 : (Int → Int → Option Int)) (r : (List Int)), Zud d1 a3 m4 b5 x6 = some r → Con Tryz.prog 302 [Zn v2, rd (Z0 .i64) a3, rd (Z0 .i64) m4, rd (Z0 .i64) b5, fn2 Tryz.prog (Z0 .i64) (Z0 .i64) (Z0 .i64) x6] (Zb v2 3 (Z0 .i64) d1) (fun _ : Unit => top) (fun _ => Zb v2 3 (Z0 .i64) r) := Y2o Z0k
def Zpe (n3 : Int) (b17 : Int) (x4 : (Int → Int → Option Int)) (go2 : (List Int) → Int → Option (List Int)) : Nat → (List Int) → Int → Int → Option (List Int)
 | 0, _, _, _ => none
 | m25 + 1, l22, a23, b24 => (bif (decide (b24 ≤ n3)) then (Zud l22 a23 (IntKind.i64.wrap (a23 + b17)) b24 x4).bind fun l26 => (Zpe n3 b17 x4 go2 m25) l26 b24 (IntKind.i64.wrap (b24 + (IntKind.i64.wrap (2 * b17)))) else (bif (decide ((IntKind.i64.wrap (a23 + b17)) < n3)) then (Zud l22 a23 (IntKind.i64.wrap (a23 + b17)) n3 x4).bind fun l27 => go2 l27 (IntKind.i64.wrap (b17 * 2)) else go2 l22 (IntKind.i64.wrap (b17 * 2))))
def Zf8 (n3 : Int) (x4 : (Int → Int → Option Int)) : Nat → (List Int) → Int → Option (List Int)
 | 0, _, _ => none
 | m18 + 1, l16, b17 => (bif (decide (b17 < n3)) then Zpe n3 b17 x4 (Zf8 n3 x4 m18) (((n3 : Int) - (IntKind.i64.wrap (2 * b17))).toNat + 2) l16 0 (IntKind.i64.wrap (2 * b17)) else some l16)
def Zjs (n3 : Int) (x4 : (Int → Int → Option Int)) : Nat → (List Int) → Int → Int → Option (List Int)
 | 0, _, _, _ => none
 | m11 + 1, l8, a9, b10 => (bif (decide (b10 ≤ n3)) then (Zgh l8 a9 b10 x4).bind fun l12 => (Zjs n3 x4 m11) l12 b10 (IntKind.i64.wrap (b10 + 20)) else (Zgh l8 a9 n3 x4).bind fun l13 => Zf8 n3 x4 (((n3 : Int) - 20).toNat + 1) l13 20)
def Zot (d1 : (List Int)) (n3 : Int) (x4 : (Int → Int → Option Int)) : Option (List Int) :=
 Zjs n3 x4 (((n3 : Int) - 20).toNat + 2) d1 0 20
theorem Ykc (v2 : Value) (d1 : (List Int)) (n3 : Int) (x4 : (Int → Int → Option Int)) (r : (List Int)) (h : Zot d1 n3 x4 = some r) : Con Tryz.prog 258 [Zn v2, rd (Z0 .i64) n3, fn2 Tryz.prog (Z0 .i64) (Z0 .i64) (Z0 .i64) x4] (Zb v2 3 (Z0 .i64) d1) (fun _ : Unit => top) (fun _ => Zb v2 3 (Z0 .i64) r) := by
 refine Con.intro Tryz.func258 rfl Tryz.ntmps258 rfl fun w H X => ?_
 unfold Zot at h
 refine SR <| Ak rfl <| Nl <| SR <| Md rfl <| Ak rfl <| As rfl <| Nl <| sq <| bk <| LG (d := []) (ν := Nat × (List Int) × Int × Int) (fun (m11, l8, a9, b10) => (True ∧ Zjs n3 x4 m11 l8 a9 b10 = some r, m11, [(0, Zn v2), (1, rd (Z0 .i64) n3), (2, fn2 Tryz.prog (Z0 .i64) (Z0 .i64) (Z0 .i64) x4), (6, rd (Z0 .i64) 20), (7, rd (Z0 .i64) a9), (8, rd (Z0 .i64) b10)], [(0, Zb v2 3 (Z0 .i64) l8)])) ((((n3 : Int) - 20).toNat + 2), d1, 0, 20) ⟨trivial, h⟩ (FX rfl) ?_
 rintro ⟨m11, l8, a9, b10⟩ ⟨hsf1, h⟩
 dsimp only at h ⊢
 cases m11 with
 | zero => cases h
 | succ m11 =>
  unfold Zjs at h
  refine sq <| SR <| Md rfl <| Md rfl <| Ac (Z7d rfl rfl (vt rfl) (vt rfl)) rfl <| Nl <| Cq rfl h (fun h => ?_) (fun h => ?_)
  ·refine sk <| bk <| sq ?_
   obtain ⟨l12, hl12, h⟩ := Z8 h
   refine Rg <| Mw rfl <| Md rfl <| Md rfl <| Ac (Zu (A := fn2 Tryz.prog (Z0 .i64) (Z0 .i64) (Z0 .i64) x4) rfl rfl (vt rfl)) rfl <| Cv rfl (Z10 0 (xs := [.tmp 14, .tmp 15, .tmp 16, .tmp 17]) (Zwj _ _ _ _ _ _ hl12) Zvp rfl rfl ⟨vt rfl, vt rfl, vt rfl, vt rfl, trivial⟩ rfl) fun _u => Nl <| SR <| Md rfl <| As rfl <| Nl <| Rg <| Md rfl <| Md rfl <| Ac (Z0o rfl rfl (vt rfl) (vt rfl)) rfl <| As rfl <| Nl ?_
   exact ⟨(_, _, _, _), Nat.lt_succ_self _, ⟨trivial, h⟩, FX rfl⟩
  ·refine xt <| sq ?_
   obtain ⟨l13, hl13, h⟩ := Z8 h
   refine Rg <| Mw rfl <| Md rfl <| Md rfl <| Ac (Zu (A := fn2 Tryz.prog (Z0 .i64) (Z0 .i64) (Z0 .i64) x4) rfl rfl (vt rfl)) rfl <| Cv rfl (Z10 0 (xs := [.tmp 23, .tmp 24, .tmp 25, .tmp 26]) (Zwj _ _ _ _ _ _ hl13) Zvp rfl rfl ⟨vt rfl, vt rfl, vt rfl, vt rfl, trivial⟩ rfl) fun _u => Nl <| bk <| LG (d := []) (ν := Nat × (List Int) × Int) (fun (m18, l16, b17) => (True ∧ Zf8 n3 x4 m18 l16 b17 = some r, m18, [(0, Zn v2), (1, rd (Z0 .i64) n3), (2, fn2 Tryz.prog (Z0 .i64) (Z0 .i64) (Z0 .i64) x4), (6, rd (Z0 .i64) b17)], [(0, Zb v2 3 (Z0 .i64) l16)])) ((((n3 : Int) - 20).toNat + 1), l13, 20) ⟨trivial, h⟩ (FX rfl) ?_
   rintro ⟨m18, l16, b17⟩ ⟨hsf2, h⟩
   dsimp only at h ⊢
   cases m18 with
   | zero => cases h
   | succ m18 =>
    unfold Zf8 at h
    refine sq <| SR <| Md rfl <| Md rfl <| Ac (Zi rfl rfl (vt rfl) (vt rfl)) rfl <| Nl <| Cq rfl h (fun h => ?_) (fun h => ?_)
    ·refine sk <| bk <| SR <| Md rfl <| Ac (Zb7 rfl rfl (vk rfl) (vt rfl)) rfl <| Ak rfl <| As rfl <| Nl <| sq <| bk <| LG (d := []) (ν := Nat × (List Int) × Int × Int) (fun (m25, l22, a23, b24) => (True ∧ Zpe n3 b17 x4 (Zf8 n3 x4 m18) m25 l22 a23 b24 = some r, m25, [(0, Zn v2), (1, rd (Z0 .i64) n3), (2, fn2 Tryz.prog (Z0 .i64) (Z0 .i64) (Z0 .i64) x4), (6, rd (Z0 .i64) b17), (7, rd (Z0 .i64) a23), (8, rd (Z0 .i64) b24)], [(0, Zb v2 3 (Z0 .i64) l22)])) ((((n3 : Int) - (IntKind.i64.wrap (2 * b17))).toNat + 2), l16, 0, (IntKind.i64.wrap (2 * b17))) ⟨trivial, h⟩ (FX rfl) ?_
     rintro ⟨m25, l22, a23, b24⟩ ⟨hsf3, h⟩
     dsimp only at h ⊢
     cases m25 with
     | zero => cases h
     | succ m25 =>
      unfold Zpe at h
      refine sq <| SR <| Md rfl <| Md rfl <| Ac (Z7d rfl rfl (vt rfl) (vt rfl)) rfl <| Nl <| Cq rfl h (fun h => ?_) (fun h => ?_)
      ·refine sk <| bk <| sq ?_
       obtain ⟨l26, hl26, h⟩ := Z8 h
       refine Rg <| Mw rfl <| Md rfl <| Md rfl <| Md rfl <| Ac (Z0o rfl rfl (vt rfl) (vt rfl)) rfl <| Md rfl <| Ac (Zu (A := fn2 Tryz.prog (Z0 .i64) (Z0 .i64) (Z0 .i64) x4) rfl rfl (vt rfl)) rfl <| Cv rfl (Z10 0 (xs := [.tmp 36, .tmp 37, .tmp 40, .tmp 41, .tmp 42]) (Zvw _ _ _ _ _ _ _ hl26) Zp8 rfl rfl ⟨vt rfl, vt rfl, vt rfl, vt rfl, vt rfl, trivial⟩ rfl) fun _u => Nl <| SR <| Md rfl <| As rfl <| Nl <| Rg <| Md rfl <| Md rfl <| Ac (Zb7 rfl rfl (vk rfl) (vt rfl)) rfl <| Ac (Z0o rfl rfl (vt rfl) (vt rfl)) rfl <| As rfl <| Nl ?_
       exact ⟨(_, _, _, _), Nat.lt_succ_self _, ⟨trivial, h⟩, FX rfl⟩
      ·refine xt <| sq <| SR <| Md rfl <| Md rfl <| Ac (Z0o rfl rfl (vt rfl) (vt rfl)) rfl <| As rfl <| Nl <| SR <| Md rfl <| Md rfl <| Ac (Zi rfl rfl (vt rfl) (vt rfl)) rfl <| Nl <| Cq rfl h (fun h => ?_) (fun h => ?_)
       ·obtain ⟨l27, hl27, h⟩ := Z8 h
        refine Rg <| Mw rfl <| Md rfl <| Md rfl <| Md rfl <| Ac (Zu (A := fn2 Tryz.prog (Z0 .i64) (Z0 .i64) (Z0 .i64) x4) rfl rfl (vt rfl)) rfl <| Cv rfl (Z10 0 (xs := [.tmp 55, .tmp 56, .tmp 57, .tmp 58, .tmp 59]) (Zvw _ _ _ _ _ _ _ hl27) Zp8 rfl rfl ⟨vt rfl, vt rfl, vt rfl, vt rfl, vt rfl, trivial⟩ rfl) fun _u => Nl <| Rg <| Md rfl <| Ac (Zb7 rfl rfl (vt rfl) (vk rfl)) rfl <| As rfl <| Nl ?_
        exact ⟨(_, _, _), Nat.lt_succ_self _, ⟨trivial, h⟩, FX rfl⟩
       ·refine sk <| Rg <| Md rfl <| Ac (Zb7 rfl rfl (vt rfl) (vk rfl)) rfl <| As rfl <| Nl ?_
        exact ⟨(_, _, _), Nat.lt_succ_self _, ⟨trivial, h⟩, FX rfl⟩
    ·refine xt ?_
     cases h; exact Z1j (i := 0) Tryz.results258 rfl rfl
def Zl9 (x1 : (List Int)) (x3 : (Int → Int → Option Int)) : Option (List Int) :=
 (Zot x1 (x1.length : Int) x3).bind fun l4 => some l4
theorem Yds (v2 : Value) (x1 : (List Int)) (x3 : (Int → Int → Option Int)) (r : (List Int)) (h : Zl9 x1 x3 = some r) : Con Tryz.prog 200 [Zn v2, fn2 Tryz.prog (Z0 .i64) (Z0 .i64) (Z0 .i64) x3] (Zb v2 3 (Z0 .i64) x1) (fun _ : Unit => top) (fun _ => Zb v2 3 (Z0 .i64) r) := by
 refine Con.intro Tryz.func200 rfl Tryz.ntmps200 rfl fun w H X => ?_
 unfold Zl9 at h
 obtain ⟨l4, hl4, h⟩ := Z8 h
 refine Rg <| Mw rfl <| Mw rfl <| Ac (Z7a 0 rfl rfl Z14 (vt rfl) rfl) rfl <| Ac (Zu (A := fn2 Tryz.prog (Z0 .i64) (Z0 .i64) (Z0 .i64) x3) rfl rfl (vt rfl)) rfl <| Cv rfl (Z10 0 (xs := [.tmp 4, .tmp 6, .tmp 7]) (Ykc _ _ _ _ _ hl4) Yge rfl rfl ⟨vt rfl, vt rfl, vt rfl, trivial⟩ rfl) fun _u => Nl ?_
 cases h; exact Z1j (i := 0) Tryz.results200 rfl rfl
def Zbv (t1 : (List Flow)) : Nat → Nat → (List Int) → Option (List Int)
 | 0, i9, l7 => (Zl9 l7 (fun x z => Zf3 x z t1)).bind fun l11 => some l11
 | m10 + 1, i9, l7 => (Z1a l7 [(i9 : Int)]).bind fun l12 => (Zbv t1 m10) (i9 + 1) l12
def Zf9 (t1 : (List Flow)) : Option (List Int) :=
 (omk (t1.length : Int)).bind fun u3 => Zbv t1 ((t1.length : Int) : Int).toNat 0 []
theorem Zvk : Q1 Tryz.prog 135 (rd (Z1 Z16)) (rd (Z1 (Z0 .i64))) Zf9 := fun t1 r h => I0 Tryz.func135 rfl Tryz.ntmps135 rfl fun w H => by
 unfold Zf9 at h
 refine SR <| Cv rfl (Zm 2 rfl rfl (vt rfl)) fun g2 => Ac (Zy (A := rd (Z1 (Z0 .i64)) []) rfl rfl Z1h) rfl <| Nl <| sq ?_
 obtain ⟨u3, hu3, h⟩ := Z8 h
 refine Rg <| Ld Z5k 2 rfl <| Ac (Z0t rfl rfl Z5d (vt rfl)) rfl <| Cv rfl (Yk4 1001 hu3 rfl rfl Znc zr3 (vt rfl)) fun v4 => Aw rfl <| Nl <| sq <| SR <| Ld Z5k 2 rfl <| Ac (Z0t rfl rfl Z5d (vt rfl)) rfl <| Mk rfl <| Nl <| bk <| LG (d := []) (ν := Nat × Nat × (List Int) × Value) (fun (m10, i9, l7, v8) => (Cnt (t1.length : Int) i9 m10 ∧ Zbv t1 m10 i9 l7 = some r, m10, [(1, Z7 g2 (Lens.id (Z1 Z16))), (3, Zn v8), (9, rd (Z0 .i64) (t1.length : Int)), (10, rd (Z0 .i64) (i9 : Int))], [(2, Zc g2 22 (Z1 Z16) t1), (1001, Zb v8 3 (Z0 .i64) l7)])) (((t1.length : Int) : Int).toNat, 0, [], v4) ⟨Cnt.start _, h⟩ (FX rfl) ?_
 rintro ⟨m10, i9, l7, v8⟩ ⟨hsf1, h⟩
 dsimp only at hsf1 h ⊢
 cases m10 with
 | zero =>
  unfold Zbv at h
  refine SR <| Ac (Zi rfl rfl (vt rfl) (vt rfl)) rfl <| Nl <| sq <| Cn rfl (fun hc => absurd (of_decide_eq_true hc) hsf1.zero) (fun hc => ?_)
  refine xt <| sq <| AW.freezeB 1 2 rfl rfl rfl ?_
  obtain ⟨l11, hl11, h⟩ := Z8 h
  refine Rg <| Mw rfl <| Ac (Ybd (cs := [.tmp 1]) (CAs := [rp (Z1 Z16) t1]) (fun x z => Zf3 x z t1) rfl rfl Yli ⟨vt rfl, trivial⟩ (fun x z y h => Yfv _ _ _ y h)) rfl <| Cv rfl (Z10 1001 (xs := [.tmp 18, .tmp 19]) (Yds _ _ _ _ hl11) Ylc rfl rfl ⟨vt rfl, vt rfl, trivial⟩ rfl) fun _u => Nl <| SR <| Mw rfl <| Aw rfl <| Nl <| AW.freezes [2, 3, 18, 21] 1001 rfl ⟨rfl, rfl, rfl, rfl, trivial⟩ rfl <| rt ?_
  cases h; exact Zg Tryz.results135 rfl (Za rfl)
 | succ m10 =>
  unfold Zbv at h
  refine SR <| Ac (Zi rfl rfl (vt rfl) (vt rfl)) rfl <| Nl <| sq <| Cn rfl (fun hc => ?_) (fun hc => absurd hsf1.succ (of_decide_eq_false hc))
  have hlti9 := of_decide_eq_true hc
  refine sk <| sq <| bk <| SR <| Md rfl <| As rfl <| Nl ?_
  obtain ⟨l12, hl12, h⟩ := Z8 h
  refine Rg <| Mw rfl <| Md rfl <| Ac (osl Z14 zr3 rfl (vt rfl)) rfl <| Cv rfl (Z4e 1001 hl12 rfl rfl Znc (vt rfl) rfl (vt rfl)) fun v13 => Aw rfl <| Nl <| Rg <| Ac (Z0s (t := 9) rfl rfl (vt rfl) (vk rfl) (vt rfl) hlti9) rfl <| Md rfl <| Nl ?_
  exact ⟨(_, _, _, _), Nat.lt_succ_self _, ⟨hsf1.next, h⟩, FX rfl⟩
def Z8c (x1 : Int) : Option Bool :=
 some ((decide (x1 ≥ 0)) && (decide (x1 < 24)))
theorem Znt : Q1 Tryz.prog 269 (rd (Z0 .i64)) (rd Z5) Z8c := fun x1 r h => I0 Tryz.func269 rfl Tryz.ntmps269 rfl fun w H => by
 unfold Z8c at h
 refine SR <| Ab rfl <| Nl <| SR <| Md rfl <| Ac (Z3r rfl rfl (vt rfl) (vk rfl)) rfl <| Md rfl <| Gd rfl (fun hq => Zu (A := rd (Z0 .i64) x1) rfl rfl (vt rfl)) <| Gd rfl (fun hq => Zi rfl rfl (Zs rfl hq) (vk rfl)) <| Ac (Z26 rfl rfl (vt rfl) (vt rfl)) rfl <| As rfl <| Nl <| rt ?_
 cases h; exact Zg Tryz.results269 rfl (Za rfl)
def Zlr : Option Yjp :=
 some (Vector.set (Vector.set (Vector.set (Vector.set (Vector.set (Vector.set (Vector.set (Vector.set (Vector.set (Vector.set (Vector.set (Vector.set (Vector.set (Vector.set (Vector.set (Vector.set (Vector.set (Vector.set (Vector.set (Vector.set (Vector.set (Vector.set (Vector.set (Vector.set (Vector.replicate 24 Zl0) 0 (⟨{ data := #[105, 110, 95, 112, 111, 114, 116] }, 0, 32, false⟩ : field_row) (by decide)) 1 (⟨{ data := #[109, 101, 116, 97, 100, 97, 116, 97] }, 2, 64, true⟩ : field_row) (by decide)) 2 (⟨{ data := #[101, 116, 104, 95, 100, 115, 116] }, 3, 48, true⟩ : field_row) (by decide)) 3 (⟨{ data := #[101, 116, 104, 95, 115, 114, 99] }, 4, 48, true⟩ : field_row) (by decide)) 4 (⟨{ data := #[101, 116, 104, 95, 116, 121, 112, 101] }, 5, 16, false⟩ : field_row) (by decide)) 5 (⟨{ data := #[118, 108, 97, 110, 95, 118, 105, 100] }, 6, 13, true⟩ : field_row) (by decide)) 6 (⟨{ data := #[118, 108, 97, 110, 95, 112, 99, 112] }, 7, 3, false⟩ : field_row) (by decide)) 7 (⟨{ data := #[105, 112, 95, 100, 115, 99, 112] }, 8, 6, false⟩ : field_row) (by decide)) 8 (⟨{ data := #[105, 112, 95, 101, 99, 110] }, 9, 2, false⟩ : field_row) (by decide)) 9 (⟨{ data := #[105, 112, 95, 112, 114, 111, 116, 111] }, 10, 8, false⟩ : field_row) (by decide)) 10 (⟨{ data := #[105, 112, 118, 52, 95, 115, 114, 99] }, 11, 32, true⟩ : field_row) (by decide)) 11 (⟨{ data := #[105, 112, 118, 52, 95, 100, 115, 116] }, 12, 32, true⟩ : field_row) (by decide)) 12 (⟨{ data := #[116, 99, 112, 95, 115, 114, 99] }, 13, 16, false⟩ : field_row) (by decide)) 13 (⟨{ data := #[116, 99, 112, 95, 100, 115, 116] }, 14, 16, false⟩ : field_row) (by decide)) 14 (⟨{ data := #[117, 100, 112, 95, 115, 114, 99] }, 15, 16, false⟩ : field_row) (by decide)) 15 (⟨{ data := #[117, 100, 112, 95, 100, 115, 116] }, 16, 16, false⟩ : field_row) (by decide)) 16 (⟨{ data := #[105, 99, 109, 112, 118, 52, 95, 116, 121, 112, 101] }, 19, 8, false⟩ : field_row) (by decide)) 17 (⟨{ data := #[105, 99, 109, 112, 118, 52, 95, 99, 111, 100, 101] }, 20, 8, false⟩ : field_row) (by decide)) 18 (⟨{ data := #[97, 114, 112, 95, 111, 112] }, 21, 16, false⟩ : field_row) (by decide)) 19 (⟨{ data := #[97, 114, 112, 95, 115, 112, 97] }, 22, 32, true⟩ : field_row) (by decide)) 20 (⟨{ data := #[97, 114, 112, 95, 116, 112, 97] }, 23, 32, true⟩ : field_row) (by decide)) 21 (⟨{ data := #[105, 112, 118, 54, 95, 115, 114, 99] }, 26, 128, true⟩ : field_row) (by decide)) 22 (⟨{ data := #[105, 112, 118, 54, 95, 100, 115, 116] }, 27, 128, true⟩ : field_row) (by decide)) 23 (⟨{ data := #[109, 112, 108, 115, 95, 108, 97, 98, 101, 108] }, 34, 20, false⟩ : field_row) (by decide))
theorem Yc2 : Q0 Tryz.prog 344 (rd (Z3 24 Z1u)) Zlr := fun r h => I0 Tryz.func344 rfl Tryz.ntmps344 rfl fun w H => by
 unfold Zlr at h
 refine SR <| Cv rfl (Zp 1 rfl rfl Y4p) fun g1 => Nl <| SR <| Ac (Z20 (ps := [(0, .const (Value.string { data := #[105, 110, 95, 112, 111, 114, 116] })), (1, .const (Value.int IntKind.i64 0)), (2, .const (Value.int IntKind.i64 32)), (3, .const (Value.bool false))]) (x := (⟨{ data := #[105, 110, 95, 112, 111, 114, 116] }, 0, 32, false⟩ : field_row)) rfl rfl rfl (by kernel_rfl) Z2h ⟨_, _, Z30, _, by kernel_rfl, (vs (by decide)), _, _, lfield_row_1, _, by kernel_rfl, (vk rfl), _, _, Z2l, _, by kernel_rfl, (vk rfl), _, _, Z31, _, by kernel_rfl, vb, rfl⟩) rfl <| Ac (Z20 (ps := [(0, .const (Value.string { data := #[109, 101, 116, 97, 100, 97, 116, 97] })), (1, .const (Value.int IntKind.i64 2)), (2, .const (Value.int IntKind.i64 64)), (3, .const (Value.bool true))]) (x := (⟨{ data := #[109, 101, 116, 97, 100, 97, 116, 97] }, 2, 64, true⟩ : field_row)) rfl rfl rfl (by kernel_rfl) Z2h ⟨_, _, Z30, _, by kernel_rfl, (vs (by decide)), _, _, lfield_row_1, _, by kernel_rfl, (vk rfl), _, _, Z2l, _, by kernel_rfl, (vk rfl), _, _, Z31, _, by kernel_rfl, vb, rfl⟩) rfl <| Ac (Z20 (ps := [(0, .const (Value.string { data := #[101, 116, 104, 95, 100, 115, 116] })), (1, .const (Value.int IntKind.i64 3)), (2, .const (Value.int IntKind.i64 48)), (3, .const (Value.bool true))]) (x := (⟨{ data := #[101, 116, 104, 95, 100, 115, 116] }, 3, 48, true⟩ : field_row)) rfl rfl rfl (by kernel_rfl) Z2h ⟨_, _, Z30, _, by kernel_rfl, (vs (by decide)), _, _, lfield_row_1, _, by kernel_rfl, (vk rfl), _, _, Z2l, _, by kernel_rfl, (vk rfl), _, _, Z31, _, by kernel_rfl, vb, rfl⟩) rfl <| Ac (Z20 (ps := [(0, .const (Value.string { data := #[101, 116, 104, 95, 115, 114, 99] })), (1, .const (Value.int IntKind.i64 4)), (2, .const (Value.int IntKind.i64 48)), (3, .const (Value.bool true))]) (x := (⟨{ data := #[101, 116, 104, 95, 115, 114, 99] }, 4, 48, true⟩ : field_row)) rfl rfl rfl (by kernel_rfl) Z2h ⟨_, _, Z30, _, by kernel_rfl, (vs (by decide)), _, _, lfield_row_1, _, by kernel_rfl, (vk rfl), _, _, Z2l, _, by kernel_rfl, (vk rfl), _, _, Z31, _, by kernel_rfl, vb, rfl⟩) rfl <| Ac (Z20 (ps := [(0, .const (Value.string { data := #[101, 116, 104, 95, 116, 121, 112, 101] })), (1, .const (Value.int IntKind.i64 5)), (2, .const (Value.int IntKind.i64 16)), (3, .const (Value.bool false))]) (x := (⟨{ data := #[101, 116, 104, 95, 116, 121, 112, 101] }, 5, 16, false⟩ : field_row)) rfl rfl rfl (by kernel_rfl) Z2h ⟨_, _, Z30, _, by kernel_rfl, (vs (by decide)), _, _, lfield_row_1, _, by kernel_rfl, (vk rfl), _, _, Z2l, _, by kernel_rfl, (vk rfl), _, _, Z31, _, by kernel_rfl, vb, rfl⟩) rfl <| Ac (Z20 (ps := [(0, .const (Value.string { data := #[118, 108, 97, 110, 95, 118, 105, 100] })), (1, .const (Value.int IntKind.i64 6)), (2, .const (Value.int IntKind.i64 13)), (3, .const (Value.bool true))]) (x := (⟨{ data := #[118, 108, 97, 110, 95, 118, 105, 100] }, 6, 13, true⟩ : field_row)) rfl rfl rfl (by kernel_rfl) Z2h ⟨_, _, Z30, _, by kernel_rfl, (vs (by decide)), _, _, lfield_row_1, _, by kernel_rfl, (vk rfl), _, _, Z2l, _, by kernel_rfl, (vk rfl), _, _, Z31, _, by kernel_rfl, vb, rfl⟩) rfl ?_
 refine Ac (Z20 (ps := [(0, .const (Value.string { data := #[118, 108, 97, 110, 95, 112, 99, 112] })), (1, .const (Value.int IntKind.i64 7)), (2, .const (Value.int IntKind.i64 3)), (3, .const (Value.bool false))]) (x := (⟨{ data := #[118, 108, 97, 110, 95, 112, 99, 112] }, 7, 3, false⟩ : field_row)) rfl rfl rfl (by kernel_rfl) Z2h ⟨_, _, Z30, _, by kernel_rfl, (vs (by decide)), _, _, lfield_row_1, _, by kernel_rfl, (vk rfl), _, _, Z2l, _, by kernel_rfl, (vk rfl), _, _, Z31, _, by kernel_rfl, vb, rfl⟩) rfl <| Ac (Z20 (ps := [(0, .const (Value.string { data := #[105, 112, 95, 100, 115, 99, 112] })), (1, .const (Value.int IntKind.i64 8)), (2, .const (Value.int IntKind.i64 6)), (3, .const (Value.bool false))]) (x := (⟨{ data := #[105, 112, 95, 100, 115, 99, 112] }, 8, 6, false⟩ : field_row)) rfl rfl rfl (by kernel_rfl) Z2h ⟨_, _, Z30, _, by kernel_rfl, (vs (by decide)), _, _, lfield_row_1, _, by kernel_rfl, (vk rfl), _, _, Z2l, _, by kernel_rfl, (vk rfl), _, _, Z31, _, by kernel_rfl, vb, rfl⟩) rfl <| Ac (Z20 (ps := [(0, .const (Value.string { data := #[105, 112, 95, 101, 99, 110] })), (1, .const (Value.int IntKind.i64 9)), (2, .const (Value.int IntKind.i64 2)), (3, .const (Value.bool false))]) (x := (⟨{ data := #[105, 112, 95, 101, 99, 110] }, 9, 2, false⟩ : field_row)) rfl rfl rfl (by kernel_rfl) Z2h ⟨_, _, Z30, _, by kernel_rfl, (vs (by decide)), _, _, lfield_row_1, _, by kernel_rfl, (vk rfl), _, _, Z2l, _, by kernel_rfl, (vk rfl), _, _, Z31, _, by kernel_rfl, vb, rfl⟩) rfl <| Ac (Z20 (ps := [(0, .const (Value.string { data := #[105, 112, 95, 112, 114, 111, 116, 111] })), (1, .const (Value.int IntKind.i64 10)), (2, .const (Value.int IntKind.i64 8)), (3, .const (Value.bool false))]) (x := (⟨{ data := #[105, 112, 95, 112, 114, 111, 116, 111] }, 10, 8, false⟩ : field_row)) rfl rfl rfl (by kernel_rfl) Z2h ⟨_, _, Z30, _, by kernel_rfl, (vs (by decide)), _, _, lfield_row_1, _, by kernel_rfl, (vk rfl), _, _, Z2l, _, by kernel_rfl, (vk rfl), _, _, Z31, _, by kernel_rfl, vb, rfl⟩) rfl <| Ac (Z20 (ps := [(0, .const (Value.string { data := #[105, 112, 118, 52, 95, 115, 114, 99] })), (1, .const (Value.int IntKind.i64 11)), (2, .const (Value.int IntKind.i64 32)), (3, .const (Value.bool true))]) (x := (⟨{ data := #[105, 112, 118, 52, 95, 115, 114, 99] }, 11, 32, true⟩ : field_row)) rfl rfl rfl (by kernel_rfl) Z2h ⟨_, _, Z30, _, by kernel_rfl, (vs (by decide)), _, _, lfield_row_1, _, by kernel_rfl, (vk rfl), _, _, Z2l, _, by kernel_rfl, (vk rfl), _, _, Z31, _, by kernel_rfl, vb, rfl⟩) rfl <| Ac (Z20 (ps := [(0, .const (Value.string { data := #[105, 112, 118, 52, 95, 100, 115, 116] })), (1, .const (Value.int IntKind.i64 12)), (2, .const (Value.int IntKind.i64 32)), (3, .const (Value.bool true))]) (x := (⟨{ data := #[105, 112, 118, 52, 95, 100, 115, 116] }, 12, 32, true⟩ : field_row)) rfl rfl rfl (by kernel_rfl) Z2h ⟨_, _, Z30, _, by kernel_rfl, (vs (by decide)), _, _, lfield_row_1, _, by kernel_rfl, (vk rfl), _, _, Z2l, _, by kernel_rfl, (vk rfl), _, _, Z31, _, by kernel_rfl, vb, rfl⟩) rfl ?_
 refine Ac (Z20 (ps := [(0, .const (Value.string { data := #[116, 99, 112, 95, 115, 114, 99] })), (1, .const (Value.int IntKind.i64 13)), (2, .const (Value.int IntKind.i64 16)), (3, .const (Value.bool false))]) (x := (⟨{ data := #[116, 99, 112, 95, 115, 114, 99] }, 13, 16, false⟩ : field_row)) rfl rfl rfl (by kernel_rfl) Z2h ⟨_, _, Z30, _, by kernel_rfl, (vs (by decide)), _, _, lfield_row_1, _, by kernel_rfl, (vk rfl), _, _, Z2l, _, by kernel_rfl, (vk rfl), _, _, Z31, _, by kernel_rfl, vb, rfl⟩) rfl <| Ac (Z20 (ps := [(0, .const (Value.string { data := #[116, 99, 112, 95, 100, 115, 116] })), (1, .const (Value.int IntKind.i64 14)), (2, .const (Value.int IntKind.i64 16)), (3, .const (Value.bool false))]) (x := (⟨{ data := #[116, 99, 112, 95, 100, 115, 116] }, 14, 16, false⟩ : field_row)) rfl rfl rfl (by kernel_rfl) Z2h ⟨_, _, Z30, _, by kernel_rfl, (vs (by decide)), _, _, lfield_row_1, _, by kernel_rfl, (vk rfl), _, _, Z2l, _, by kernel_rfl, (vk rfl), _, _, Z31, _, by kernel_rfl, vb, rfl⟩) rfl <| Ac (Z20 (ps := [(0, .const (Value.string { data := #[117, 100, 112, 95, 115, 114, 99] })), (1, .const (Value.int IntKind.i64 15)), (2, .const (Value.int IntKind.i64 16)), (3, .const (Value.bool false))]) (x := (⟨{ data := #[117, 100, 112, 95, 115, 114, 99] }, 15, 16, false⟩ : field_row)) rfl rfl rfl (by kernel_rfl) Z2h ⟨_, _, Z30, _, by kernel_rfl, (vs (by decide)), _, _, lfield_row_1, _, by kernel_rfl, (vk rfl), _, _, Z2l, _, by kernel_rfl, (vk rfl), _, _, Z31, _, by kernel_rfl, vb, rfl⟩) rfl <| Ac (Z20 (ps := [(0, .const (Value.string { data := #[117, 100, 112, 95, 100, 115, 116] })), (1, .const (Value.int IntKind.i64 16)), (2, .const (Value.int IntKind.i64 16)), (3, .const (Value.bool false))]) (x := (⟨{ data := #[117, 100, 112, 95, 100, 115, 116] }, 16, 16, false⟩ : field_row)) rfl rfl rfl (by kernel_rfl) Z2h ⟨_, _, Z30, _, by kernel_rfl, (vs (by decide)), _, _, lfield_row_1, _, by kernel_rfl, (vk rfl), _, _, Z2l, _, by kernel_rfl, (vk rfl), _, _, Z31, _, by kernel_rfl, vb, rfl⟩) rfl <| Ac (Z20 (ps := [(0, .const (Value.string { data := #[105, 99, 109, 112, 118, 52, 95, 116, 121, 112, 101] })), (1, .const (Value.int IntKind.i64 19)), (2, .const (Value.int IntKind.i64 8)), (3, .const (Value.bool false))]) (x := (⟨{ data := #[105, 99, 109, 112, 118, 52, 95, 116, 121, 112, 101] }, 19, 8, false⟩ : field_row)) rfl rfl rfl (by kernel_rfl) Z2h ⟨_, _, Z30, _, by kernel_rfl, (vs (by decide)), _, _, lfield_row_1, _, by kernel_rfl, (vk rfl), _, _, Z2l, _, by kernel_rfl, (vk rfl), _, _, Z31, _, by kernel_rfl, vb, rfl⟩) rfl <| Ac (Z20 (ps := [(0, .const (Value.string { data := #[105, 99, 109, 112, 118, 52, 95, 99, 111, 100, 101] })), (1, .const (Value.int IntKind.i64 20)), (2, .const (Value.int IntKind.i64 8)), (3, .const (Value.bool false))]) (x := (⟨{ data := #[105, 99, 109, 112, 118, 52, 95, 99, 111, 100, 101] }, 20, 8, false⟩ : field_row)) rfl rfl rfl (by kernel_rfl) Z2h ⟨_, _, Z30, _, by kernel_rfl, (vs (by decide)), _, _, lfield_row_1, _, by kernel_rfl, (vk rfl), _, _, Z2l, _, by kernel_rfl, (vk rfl), _, _, Z31, _, by kernel_rfl, vb, rfl⟩) rfl ?_
 refine Ac (Z20 (ps := [(0, .const (Value.string { data := #[97, 114, 112, 95, 111, 112] })), (1, .const (Value.int IntKind.i64 21)), (2, .const (Value.int IntKind.i64 16)), (3, .const (Value.bool false))]) (x := (⟨{ data := #[97, 114, 112, 95, 111, 112] }, 21, 16, false⟩ : field_row)) rfl rfl rfl (by kernel_rfl) Z2h ⟨_, _, Z30, _, by kernel_rfl, (vs (by decide)), _, _, lfield_row_1, _, by kernel_rfl, (vk rfl), _, _, Z2l, _, by kernel_rfl, (vk rfl), _, _, Z31, _, by kernel_rfl, vb, rfl⟩) rfl <| Ac (Z20 (ps := [(0, .const (Value.string { data := #[97, 114, 112, 95, 115, 112, 97] })), (1, .const (Value.int IntKind.i64 22)), (2, .const (Value.int IntKind.i64 32)), (3, .const (Value.bool true))]) (x := (⟨{ data := #[97, 114, 112, 95, 115, 112, 97] }, 22, 32, true⟩ : field_row)) rfl rfl rfl (by kernel_rfl) Z2h ⟨_, _, Z30, _, by kernel_rfl, (vs (by decide)), _, _, lfield_row_1, _, by kernel_rfl, (vk rfl), _, _, Z2l, _, by kernel_rfl, (vk rfl), _, _, Z31, _, by kernel_rfl, vb, rfl⟩) rfl <| Ac (Z20 (ps := [(0, .const (Value.string { data := #[97, 114, 112, 95, 116, 112, 97] })), (1, .const (Value.int IntKind.i64 23)), (2, .const (Value.int IntKind.i64 32)), (3, .const (Value.bool true))]) (x := (⟨{ data := #[97, 114, 112, 95, 116, 112, 97] }, 23, 32, true⟩ : field_row)) rfl rfl rfl (by kernel_rfl) Z2h ⟨_, _, Z30, _, by kernel_rfl, (vs (by decide)), _, _, lfield_row_1, _, by kernel_rfl, (vk rfl), _, _, Z2l, _, by kernel_rfl, (vk rfl), _, _, Z31, _, by kernel_rfl, vb, rfl⟩) rfl <| Ac (Z20 (ps := [(0, .const (Value.string { data := #[105, 112, 118, 54, 95, 115, 114, 99] })), (1, .const (Value.int IntKind.i64 26)), (2, .const (Value.int IntKind.i64 128)), (3, .const (Value.bool true))]) (x := (⟨{ data := #[105, 112, 118, 54, 95, 115, 114, 99] }, 26, 128, true⟩ : field_row)) rfl rfl rfl (by kernel_rfl) Z2h ⟨_, _, Z30, _, by kernel_rfl, (vs (by decide)), _, _, lfield_row_1, _, by kernel_rfl, (vk rfl), _, _, Z2l, _, by kernel_rfl, (vk rfl), _, _, Z31, _, by kernel_rfl, vb, rfl⟩) rfl <| Ac (Z20 (ps := [(0, .const (Value.string { data := #[105, 112, 118, 54, 95, 100, 115, 116] })), (1, .const (Value.int IntKind.i64 27)), (2, .const (Value.int IntKind.i64 128)), (3, .const (Value.bool true))]) (x := (⟨{ data := #[105, 112, 118, 54, 95, 100, 115, 116] }, 27, 128, true⟩ : field_row)) rfl rfl rfl (by kernel_rfl) Z2h ⟨_, _, Z30, _, by kernel_rfl, (vs (by decide)), _, _, lfield_row_1, _, by kernel_rfl, (vk rfl), _, _, Z2l, _, by kernel_rfl, (vk rfl), _, _, Z31, _, by kernel_rfl, vb, rfl⟩) rfl <| Ac (Z20 (ps := [(0, .const (Value.string { data := #[109, 112, 108, 115, 95, 108, 97, 98, 101, 108] })), (1, .const (Value.int IntKind.i64 34)), (2, .const (Value.int IntKind.i64 20)), (3, .const (Value.bool false))]) (x := (⟨{ data := #[109, 112, 108, 115, 95, 108, 97, 98, 101, 108] }, 34, 20, false⟩ : field_row)) rfl rfl rfl (by kernel_rfl) Z2h ⟨_, _, Z30, _, by kernel_rfl, (vs (by decide)), _, _, lfield_row_1, _, by kernel_rfl, (vk rfl), _, _, Z2l, _, by kernel_rfl, (vk rfl), _, _, Z31, _, by kernel_rfl, vb, rfl⟩) rfl ?_
 refine Ac (Z20 (ps := [(0, .tmp 1), (1, .tmp 2), (2, .tmp 3), (3, .tmp 4), (4, .tmp 5), (5, .tmp 6), (6, .tmp 7), (7, .tmp 8), (8, .tmp 9), (9, .tmp 10), (10, .tmp 11), (11, .tmp 12), (12, .tmp 13), (13, .tmp 14), (14, .tmp 15), (15, .tmp 16), (16, .tmp 17), (17, .tmp 18), (18, .tmp 19), (19, .tmp 20), (20, .tmp 21), (21, .tmp 22), (22, .tmp 23), (23, .tmp 24)]) (x := (Vector.set (Vector.set (Vector.set (Vector.set (Vector.set (Vector.set (Vector.set (Vector.set (Vector.set (Vector.set (Vector.set (Vector.set (Vector.set (Vector.set (Vector.set (Vector.set (Vector.set (Vector.set (Vector.set (Vector.set (Vector.set (Vector.set (Vector.set (Vector.set (Vector.replicate 24 Zl0) 0 (⟨{ data := #[105, 110, 95, 112, 111, 114, 116] }, 0, 32, false⟩ : field_row) (by decide)) 1 (⟨{ data := #[109, 101, 116, 97, 100, 97, 116, 97] }, 2, 64, true⟩ : field_row) (by decide)) 2 (⟨{ data := #[101, 116, 104, 95, 100, 115, 116] }, 3, 48, true⟩ : field_row) (by decide)) 3 (⟨{ data := #[101, 116, 104, 95, 115, 114, 99] }, 4, 48, true⟩ : field_row) (by decide)) 4 (⟨{ data := #[101, 116, 104, 95, 116, 121, 112, 101] }, 5, 16, false⟩ : field_row) (by decide)) 5 (⟨{ data := #[118, 108, 97, 110, 95, 118, 105, 100] }, 6, 13, true⟩ : field_row) (by decide)) 6 (⟨{ data := #[118, 108, 97, 110, 95, 112, 99, 112] }, 7, 3, false⟩ : field_row) (by decide)) 7 (⟨{ data := #[105, 112, 95, 100, 115, 99, 112] }, 8, 6, false⟩ : field_row) (by decide)) 8 (⟨{ data := #[105, 112, 95, 101, 99, 110] }, 9, 2, false⟩ : field_row) (by decide)) 9 (⟨{ data := #[105, 112, 95, 112, 114, 111, 116, 111] }, 10, 8, false⟩ : field_row) (by decide)) 10 (⟨{ data := #[105, 112, 118, 52, 95, 115, 114, 99] }, 11, 32, true⟩ : field_row) (by decide)) 11 (⟨{ data := #[105, 112, 118, 52, 95, 100, 115, 116] }, 12, 32, true⟩ : field_row) (by decide)) 12 (⟨{ data := #[116, 99, 112, 95, 115, 114, 99] }, 13, 16, false⟩ : field_row) (by decide)) 13 (⟨{ data := #[116, 99, 112, 95, 100, 115, 116] }, 14, 16, false⟩ : field_row) (by decide)) 14 (⟨{ data := #[117, 100, 112, 95, 115, 114, 99] }, 15, 16, false⟩ : field_row) (by decide)) 15 (⟨{ data := #[117, 100, 112, 95, 100, 115, 116] }, 16, 16, false⟩ : field_row) (by decide)) 16 (⟨{ data := #[105, 99, 109, 112, 118, 52, 95, 116, 121, 112, 101] }, 19, 8, false⟩ : field_row) (by decide)) 17 (⟨{ data := #[105, 99, 109, 112, 118, 52, 95, 99, 111, 100, 101] }, 20, 8, false⟩ : field_row) (by decide)) 18 (⟨{ data := #[97, 114, 112, 95, 111, 112] }, 21, 16, false⟩ : field_row) (by decide)) 19 (⟨{ data := #[97, 114, 112, 95, 115, 112, 97] }, 22, 32, true⟩ : field_row) (by decide)) 20 (⟨{ data := #[97, 114, 112, 95, 116, 112, 97] }, 23, 32, true⟩ : field_row) (by decide)) 21 (⟨{ data := #[105, 112, 118, 54, 95, 115, 114, 99] }, 26, 128, true⟩ : field_row) (by decide)) 22 (⟨{ data := #[105, 112, 118, 54, 95, 100, 115, 116] }, 27, 128, true⟩ : field_row) (by decide)) 23 (⟨{ data := #[109, 112, 108, 115, 95, 108, 97, 98, 101, 108] }, 34, 20, false⟩ : field_row) (by decide))) rfl rfl rfl (by kernel_rfl) Y4p ⟨_, _, Lens.idx 24 Z1u 0 (by decide), _, by kernel_rfl, (vt rfl), _, _, Lens.idx 24 Z1u 1 (by decide), _, by kernel_rfl, (vt rfl), _, _, Lens.idx 24 Z1u 2 (by decide), _, by kernel_rfl, (vt rfl), _, _, Lens.idx 24 Z1u 3 (by decide), _, by kernel_rfl, (vt rfl), _, _, Lens.idx 24 Z1u 4 (by decide), _, by kernel_rfl, (vt rfl), _, _, Lens.idx 24 Z1u 5 (by decide), _, by kernel_rfl, (vt rfl), _, _, Lens.idx 24 Z1u 6 (by decide), _, by kernel_rfl, (vt rfl), _, _, Lens.idx 24 Z1u 7 (by decide), _, by kernel_rfl, (vt rfl), _, _, Lens.idx 24 Z1u 8 (by decide), _, by kernel_rfl, (vt rfl), _, _, Lens.idx 24 Z1u 9 (by decide), _, by kernel_rfl, (vt rfl), _, _, Lens.idx 24 Z1u 10 (by decide), _, by kernel_rfl, (vt rfl), _, _, Lens.idx 24 Z1u 11 (by decide), _, by kernel_rfl, (vt rfl), _, _, Lens.idx 24 Z1u 12 (by decide), _, by kernel_rfl, (vt rfl), _, _, Lens.idx 24 Z1u 13 (by decide), _, by kernel_rfl, (vt rfl), _, _, Lens.idx 24 Z1u 14 (by decide), _, by kernel_rfl, (vt rfl), _, _, Lens.idx 24 Z1u 15 (by decide), _, by kernel_rfl, (vt rfl), _, _, Lens.idx 24 Z1u 16 (by decide), _, by kernel_rfl, (vt rfl), _, _, Lens.idx 24 Z1u 17 (by decide), _, by kernel_rfl, (vt rfl), _, _, Lens.idx 24 Z1u 18 (by decide), _, by kernel_rfl, (vt rfl), _, _, Lens.idx 24 Z1u 19 (by decide), _, by kernel_rfl, (vt rfl), _, _, Lens.idx 24 Z1u 20 (by decide), _, by kernel_rfl, (vt rfl), _, _, Lens.idx 24 Z1u 21 (by decide), _, by kernel_rfl, (vt rfl), _, _, Lens.idx 24 Z1u 22 (by decide), _, by kernel_rfl, (vt rfl), _, _, Lens.idx 24 Z1u 23 (by decide), _, by kernel_rfl, (vt rfl), rfl⟩) rfl ?_
 refine Zh Y0l 1 rfl <| Nl <| rt ?_
 cases h; exact Zg Tryz.results344 rfl (Z01 rfl (i := 1) rfl Y0l)
def Zmh (x1 : Int) : Option field_row :=
 (Z8c x1).bind fun x3 => (bif (!x3) then some (⟨(⟨#[]⟩ : ByteArray), (-1), 0, false⟩ : field_row) else (Zlr).bind fun x4 => (lget (Vector.toList x4) x1).bind fun x5 => some x5)
theorem Yjb : Q1 Tryz.prog 336 (rd (Z0 .i64)) (rd Z1u) Zmh := fun x1 r h => I0 Tryz.func336 rfl Tryz.ntmps336 rfl fun w H => by
 unfold Zmh at h
 refine SR <| Cv rfl (Zp 3 rfl rfl Z2h) fun g2 => Nl <| sq <| sq ?_
 obtain ⟨x3, hx3, h⟩ := Z8 h
 refine Rg <| Md rfl <| Cl [3] (Znt _ _ hx3) Zp9 rfl <| Ac (Z0x rfl rfl (vt rfl)) rfl <| Nl <| Cq rfl h (fun h => ?_) (fun h => ?_)
 ·refine SR <| Ac (opb (⟨(⟨#[]⟩ : ByteArray), (-1), 0, false⟩ : field_row) Z2h rfl Ym4 (pc Yh9 (vk rfl) <| pn rfl)) rfl <| Zh Zid 3 rfl <| Nl <| rt ?_
  cases h; exact Zg Tryz.results336 rfl (Z01 rfl (i := 3) rfl Zid)
 ·refine sk <| sq ?_
  obtain ⟨x4, hx4, x5, hx5, h⟩ := bs2 h
  refine Rg <| Cl [] (Yc2 _ hx4) Y7u rfl <| Md rfl <| Ac (Za3 rfl rfl Yky Zid (vt rfl) (vt rfl) hx5) rfl <| Zh Zid 3 rfl <| Nl <| rt ?_
  cases h; exact Zg Tryz.results336 rfl (Z01 rfl (i := 3) rfl Zid)
def Zeu (x1 : Int) : Option Int :=
 (Zmh x1).bind fun x2 => some x2.bits
theorem Y65 : Q1 Tryz.prog 312 (rd (Z0 .i64)) (rd (Z0 .i64)) Zeu := fun x1 r h => I0 Tryz.func312 rfl Tryz.ntmps312 rfl fun w H => by
 unfold Zeu at h
 refine SR <| Ak rfl <| Nl <| sq ?_
 obtain ⟨x2, hx2, h⟩ := Z8 h
 refine Rg <| Md rfl <| Cl [3] (Yjb _ _ hx2) Y77 rfl <| Ac (Zv0 Z2l rfl rfl Ymq Y9f Zo rfl (vt rfl)) rfl <| As rfl <| Nl <| rt ?_
 cases h; exact Zg Tryz.results312 rfl (Za rfl)
end Go.Proofs.YtknpgojdkobgjaaGreat.W
set_option maxRecDepth 4000
namespace Go.Proofs.YtknpgojdkobgjaaGreat.W
open Go Go.Wb
theorem Y1n : Ent Tryz.prog 299 := Ent.mk Tryz.func299 rfl rfl
theorem Yae : Ent Tryz.prog 312 := Ent.mk Tryz.func312 rfl rfl
theorem Zou : Ent Tryz.prog 254 := Ent.mk Tryz.func254 rfl rfl
theorem e73 : Ent Tryz.prog 73 := Ent.mk Tryz.func73 rfl rfl
theorem Y1g : Ent Tryz.prog 275 := Ent.mk Tryz.func275 rfl rfl
theorem Z92 : Ent Tryz.prog 127 := Ent.mk Tryz.func127 rfl rfl
theorem Y81 : Ent Tryz.prog 197 := Ent.mk Tryz.func197 rfl rfl
theorem Zwk : Ent Tryz.prog 196 := Ent.mk Tryz.func196 rfl rfl
theorem Ycm : Ent Tryz.prog 229 := Ent.mk Tryz.func229 rfl rfl
theorem Zos : Ent Tryz.prog 126 := Ent.mk Tryz.func126 rfl rfl
def Zgm (n1 : Int) : Option (BitVec 64) :=
 (bif (decide (n1 ≥ 64)) then some (18446744073709551615 : BitVec 64) else (Ze9 (1 : BitVec 64) (Z1f n1 0)).bind fun q2 => some (q2 - (1 : BitVec 64)))
theorem Zxt : Q1 Tryz.prog 299 (rd (Z0 .i64)) (rd Z0n) Zgm := fun n1 r h => I0 Tryz.func299 rfl Tryz.ntmps299 rfl fun w H => by
 unfold Zgm at h
 refine SR <| Ac (Zy (A := rd Z0n (0 : BitVec 64)) rfl rfl (vku (0 : BitVec 64) rfl)) rfl <| Nl <| sq <| SR <| Md rfl <| Ac (Z3r rfl rfl (vt rfl) (vk rfl)) rfl <| Nl <| Cq rfl h (fun h => ?_) (fun h => ?_)
 ·refine SR <| Ac (Zy (A := rd Z0n (18446744073709551615 : BitVec 64)) rfl rfl (vku (18446744073709551615 : BitVec 64) rfl)) rfl <| Nl <| rt ?_
  cases h; exact Zg Tryz.results299 rfl (Za rfl)
 ·refine sk <| sq ?_
  obtain ⟨q2, hq2, h⟩ := Z8 h
  refine Rg <| Md rfl <| Ac (Zcg rfl rfl (vt rfl) (vk rfl)) rfl <| Ac (Zv8 rfl rfl (vku (1 : BitVec 64) rfl) (vt rfl) hq2) rfl <| Ac (Yml rfl rfl (vt rfl) (vku (1 : BitVec 64) rfl)) rfl <| As rfl <| Nl <| rt ?_
  cases h; exact Zg Tryz.results299 rfl (Za rfl)
def Z81 (n1 : Int) : Option Wide :=
 (Zgm (IntKind.i64.wrap ((Z3a (Z1f n1 0) 128) - 64))).bind fun x3 => (Zgm (Z3a (Z1f n1 0) 128)).bind fun x4 => some (⟨x3, x4⟩ : Wide)
theorem Znq : Q1 Tryz.prog 254 (rd (Z0 .i64)) (rd Zd) Z81 := fun n1 r h => I0 Tryz.func254 rfl Tryz.ntmps254 rfl fun w H => by
 unfold Z81 at h
 refine SR <| Cv rfl (Zp 3 rfl rfl Z3q) fun g2 => Nl <| SR <| Md rfl <| Ac (Zcg rfl rfl (vt rfl) (vk rfl)) rfl <| Ac (Zl2 rfl rfl (vt rfl) (vk rfl)) rfl <| As rfl <| Nl <| sq ?_
 obtain ⟨x3, hx3, x4, hx4, h⟩ := bs2 h
 refine Rg <| Md rfl <| Ac (Z0u rfl rfl (vt rfl) (vk rfl)) rfl <| Cl [7] (Zxt _ _ hx3) Y1n rfl <| Md rfl <| Cl [9] (Zxt _ _ hx4) Y1n rfl <| Ac (opb (⟨x3, x4⟩ : Wide) Z3q rfl Z7h (pc Zhj (vt rfl) <| pc Z9k (vt rfl) <| pn rfl)) rfl <| Zh Z02 3 rfl <| Nl <| rt ?_
 cases h; exact Zg Tryz.results254 rfl (Z01 rfl (i := 3) rfl Z02)
def Zgc (o1 : Oxm) : Option Tern :=
 (Z8c o1.Field).bind fun x4 => (bif (!x4) then some (⟨Z0j, Z0j⟩ : Tern) else (bif o1.Masked then some (⟨o1.Value, o1.Mask⟩ : Tern) else (Zeu o1.Field).bind fun x5 => (Z81 x5).bind fun x6 => some (⟨o1.Value, x6⟩ : Tern)))
theorem Zwu : Q1 Tryz.prog 275 (rd Z2e) (rd Z4) Zgc := fun o1 r h => I0 Tryz.func275 rfl Tryz.ntmps275 rfl fun w H => by
 unfold Zgc at h
 refine SR <| Cv rfl (Zm 2 rfl rfl (vt rfl)) fun g2 => Cv rfl (Zp 3 rfl rfl Z2b) fun g3 => Nl <| sq <| bk <| sq ?_
 obtain ⟨x4, hx4, h⟩ := Z8 h
 refine Rg <| Zf Zeb Zf7 rfl <| Ld Zo 2 rfl <| Cl [5] (Znt _ _ hx4) Zp9 rfl <| Ac (Z0x rfl rfl (vt rfl)) rfl <| As rfl <| Nl <| Cq rfl h (fun h => ?_) (fun h => ?_)
 ·refine SR <| Ac (opb (⟨Z0j, Z0j⟩ : Tern) Z2b rfl Z8y (pn rfl)) rfl <| Zh Z03 3 rfl <| Nl <| rt ?_
  cases h; exact Zg Tryz.results275 rfl (Z01 rfl (i := 3) rfl Z03)
 ·refine SR <| Zf Zz4 Yne rfl <| Ld ty4 2 rfl <| As rfl <| Nl <| Cq rfl h (fun h => ?_) (fun h => ?_)
  ·refine SR <| Zf Zsy Zuq rfl <| Ld Z02 2 rfl <| Zf Zve Ym9 rfl <| Ld Z02 2 rfl <| Ac (opb (⟨o1.Value, o1.Mask⟩ : Tern) Z2b rfl Z8y (pc Zbr (vt rfl) <| pc Zav (vt rfl) <| pn rfl)) rfl <| Zh Z03 3 rfl <| Nl <| rt ?_
   cases h; exact Zg Tryz.results275 rfl (Z01 rfl (i := 3) rfl Z03)
  ·refine sk <| sq ?_
   obtain ⟨x5, hx5, x6, hx6, h⟩ := bs2 h
   refine AR Zw (by kernel_rfl) <| Zv Zsy Zuq rfl <| Zl Z02 2 rfl <| Zv Zeb Zf7 rfl <| Zl Zo 2 rfl <| SCl [20] (Y65 _ _ hx5) Yae rfl <| SCl [21] (Znq _ _ hx6) Zou rfl <| Sd (lo [18, 22] [] rfl fun S hs hr => opb (⟨o1.Value, x6⟩ : Tern) Z2b rfl Z8y (pc Zbr (vh hs 18 rfl rfl) <| pc Zav (vh hs 22 rfl rfl) <| pn rfl)) <| SSt Z03 3 rfl <| Sn <| rt ?_
   cases h; exact Zg Tryz.results275 rfl (Z01 rfl (i := 3) rfl Z03)
def Zc3 : (List Oxm) → Nat → Zk → Option Zk
 | [], i7, b6 => some b6
 | x9 :: l8, i7, b6 => (Z8c x9.Field).bind fun x11 => (bif x11 then (Zgc x9).bind fun x12 => (chk 24 x9.Field).bind fun j13 => (Zc3 l8) (i7 + 1) (Vector.set b6 j13.1 x12 j13.2) else (Zc3 l8) (i7 + 1) b6)
def Zp4 (l1 : (List Oxm)) : Option Zk :=
 (Zb5).bind fun x3 => Zc3 l1 0 x3
theorem Yj0 : Q1 Tryz.prog 229 (rd (Z1 Z2e)) (rd (Z3 24 Z4)) Zp4 := fun l1 r h => I0 Tryz.func229 rfl Tryz.ntmps229 rfl fun w H => by
 unfold Zp4 at h
 refine SR <| Cv rfl (Zp 3 rfl rfl Z2c) fun g2 => Nl <| sq ?_
 obtain ⟨x3, hx3, h⟩ := Z8 h
 refine Rg <| Cl [] (Zp1 _ hx3) e73 rfl <| Cv rfl (Zp 4 rfl rfl Z2c) fun g4 => Zh Z00 4 rfl <| Nl <| sq <| SR <| Md rfl <| Ac (Z0t rfl rfl Zqm (vt rfl)) rfl <| Mk rfl <| Nl <| bk <| LG (d := []) (ν := (List Oxm) × Nat × Zk) (fun (l8, i7, b6) => (Sfx l1 i7 l8 ∧ Zc3 l8 i7 b6 = some r, l8.length, [(2, Z7 g2 (Lens.id (Z3 24 Z4))), (3, Z7 g4 (Lens.id (Z3 24 Z4))), (7, rd (Z1 Z2e) l1), (8, rd (Z0 .i64) (l1.length : Int)), (9, rd (Z0 .i64) (i7 : Int))], [(3, Zc g2 87 (Z3 24 Z4) (Vector.replicate 24 zTern)), (4, Zc g4 87 (Z3 24 Z4) b6)])) (l1, 0, x3) ⟨Sfx.start _, h⟩ (FX rfl) ?_
 rintro ⟨l8, i7, b6⟩ ⟨hsf1, h⟩
 dsimp only at hsf1 h ⊢
 cases l8 with
 | nil =>
  unfold Zc3 at h
  refine SR <| Ac (Zi rfl rfl (vt rfl) (vt rfl)) rfl <| Nl <| sq <| Cn rfl (fun hc => absurd (of_decide_eq_true hc) hsf1.nil) (fun hc => ?_)
  refine xt <| SR <| Ld Z00 4 rfl <| Zh Z00 3 rfl <| Nl <| rt ?_
  cases h; exact Zg Tryz.results229 rfl (Z01 rfl (i := 3) rfl Z00)
 | cons x9 l8 =>
  unfold Zc3 at h
  refine SR <| Ac (Zi rfl rfl (vt rfl) (vt rfl)) rfl <| Nl <| sq <| Cn rfl (fun hc => ?_) (fun hc => absurd hsf1.cons (of_decide_eq_false hc))
  have hlti7 := of_decide_eq_true hc
  refine sk <| sq <| bk <| SR <| Ac (Z0w rfl rfl Zqm (vt rfl) (vt rfl) hsf1.lget) rfl <| Lp1 Zo8 rfl <| Cv rfl (Zp 6 rfl rfl Yil) fun g10 => Zh Zo8 6 rfl <| Nl <| sq ?_
  obtain ⟨x11, hx11, h⟩ := Z8 h
  refine Rg <| Zf Zeb Zf7 rfl <| Ld Zo 6 rfl <| Cl [14] (Znt _ _ hx11) Zp9 rfl <| Nl <| Cq rfl h (fun h => ?_) (fun h => ?_)
  ·obtain ⟨x12, hx12, j13, hj13, h⟩ := bs2 h
   refine AR Zw (by kernel_rfl) <| Zv Zeb Zf7 rfl <| Zl Zo 6 rfl <| Zl Zo8 6 rfl <| SCl [18] (Zwu _ _ hx12) Y1g rfl <| Sd (lo [3, 17] [] rfl fun S hs hr => Z2q rfl rfl Z4a (vh hs 3 rfl rfl) (vh hs 17 rfl rfl) hj13) <| SSt Z03 4 rfl <| Sn <| Rg <| Ac (Z0s (t := 8) rfl rfl (vt rfl) (vk rfl) (vt rfl) hlti7) rfl <| Md rfl <| Nl ?_
   exact ⟨(_, _, _), Nat.lt_succ_self _, ⟨hsf1.next, h⟩, FX rfl⟩
  ·refine sk <| Rg <| Ac (Z0s (t := 8) rfl rfl (vt rfl) (vk rfl) (vt rfl) hlti7) rfl <| Md rfl <| Nl ?_
   exact ⟨(_, _, _), Nat.lt_succ_self _, ⟨hsf1.next, h⟩, FX rfl⟩
def Z7b (t1 : Tern) : Option Tern :=
 (Zbi t1.Value t1.Mask).bind fun x4 => some (⟨x4, t1.Mask⟩ : Tern)
theorem Z9v : Q1 Tryz.prog 127 (rd Z4) (rd Z4) Z7b := fun t1 r h => I0 Tryz.func127 rfl Tryz.ntmps127 rfl fun w H => by
 unfold Z7b at h
 refine SR <| Cv rfl (Zm 2 rfl rfl (vt rfl)) fun g2 => Cv rfl (Zp 3 rfl rfl Z2b) fun g3 => Nl <| sq ?_
 obtain ⟨x4, hx4, h⟩ := Z8 h
 refine AR Zw (by kernel_rfl) <| Zv lTern_0 Z4l rfl <| Zl Z02 2 rfl <| Zv lTern_1 Z3t rfl <| Zl Z02 2 rfl <| SCl [4, 6] (Zka _ _ _ hx4) Zk2 rfl <| Zv lTern_1 Z3t rfl <| Zl Z02 2 rfl <| Sd (lo [7, 9] [] rfl fun S hs hr => opb (⟨x4, t1.Mask⟩ : Tern) Z2b rfl Z8y (pc Zbr (vh hs 7 rfl rfl) <| pc Zav (vh hs 9 rfl rfl) <| pn rfl)) <| SSt Z03 3 rfl <| Sn <| rt ?_
 cases h; exact Zg Tryz.results127 rfl (Z01 rfl (i := 3) rfl Z03)
def Zg8 (i1 : Int) (x2 : Zk) : Option (Tern × Bool) :=
 (chk 24 i1).bind fun j4 => (Z7b (Vector.get x2 j4)).bind fun x5 => some (x5, true)
theorem Yhu : Q2 Tryz.prog 197 (rd (Z0 .i64)) (rp (Z3 24 Z4)) (fun r => Z1d (rd Z4 r.1) (rd Z5 r.2)) Zg8 := fun i1 x2 r h => I0 Tryz.func197 rfl Tryz.ntmps197 rfl fun w H => by
 unfold Zg8 at h
 refine SR <| Cv rfl (Zp 4 rfl rfl Z2b) fun g3 => Ab rfl <| Nl <| sq ?_
 obtain ⟨j4, hj4, x5, hx5, h⟩ := bs2 h
 refine Rg <| Md rfl <| Ac (Z7l rfl rfl Z4a (vt rfl) (vt rfl) hj4) rfl <| Lp1 Z03 rfl <| Cl [7] (Z9v _ _ hx5) Z92 rfl <| Zh Z03 4 rfl <| Ab rfl <| Nl <| rt ?_
 cases h; exact Z1k Tryz.results197 rfl (Z01 rfl (i := 4) rfl Z03) (Za rfl)
def Z6x (x1 : (Int → Option (Tern × Bool))) : Nat → Nat → Zk → Option (Zk × Bool)
 | 0, i6, b5 => some (b5, true)
 | m7 + 1, i6, b5 => (x1 (i6 : Int)).bind fun x8 => (bif (!x8.2) then some ((Vector.replicate 24 zTern), false) else (chk 24 (i6 : Int)).bind fun j10 => (Z6x x1 m7) (i6 + 1) (Vector.set b5 j10.1 x8.1 j10.2))
def Zef (x1 : (Int → Option (Tern × Bool))) : Option (Zk × Bool) :=
 Z6x x1 (24 : Int).toNat 0 (Vector.replicate 24 zTern)
theorem Y2y : Q1 Tryz.prog 196 (fa1 Tryz.prog (Z0 .i64) (fun (y : (Tern × Bool)) => Z1d (rd Z4 y.1) (rd Z5 y.2))) (fun r => Z1d (rd (Z3 24 Z4) r.1) (rd Z5 r.2)) Zef := fun x1 r h => I0 Tryz.func196 rfl Tryz.ntmps196 rfl fun w H => by
 unfold Zef at h
 refine SR <| Cv rfl (Zp 3 rfl rfl Z2c) fun g2 => Ab rfl <| Nl <| SR <| Cv rfl (Zp 5 rfl rfl Z2c) fun g3 => Nl <| sq <| SR <| Mk rfl <| Nl <| bk <| LG (d := []) (ν := Nat × Nat × Zk) (fun (m7, i6, b5) => (Cnt 24 i6 m7 ∧ Z6x x1 m7 i6 b5 = some r, m7, [(0, fa1 Tryz.prog (Z0 .i64) (fun (y : (Tern × Bool)) => Z1d (rd Z4 y.1) (rd Z5 y.2)) x1), (2, Z7 g2 (Lens.id (Z3 24 Z4))), (4, Z7 g3 (Lens.id (Z3 24 Z4))), (8, rd (Z0 .i64) (i6 : Int))], [(3, Zc g2 87 (Z3 24 Z4) (Vector.replicate 24 zTern)), (5, Zc g3 87 (Z3 24 Z4) b5)])) ((24 : Int).toNat, 0, (Vector.replicate 24 zTern)) ⟨Cnt.start _, h⟩ (FX rfl) ?_
 rintro ⟨m7, i6, b5⟩ ⟨hsf1, h⟩
 dsimp only at hsf1 h ⊢
 cases m7 with
 | zero =>
  unfold Z6x at h
  refine SR <| Ac (Zi rfl rfl (vt rfl) (vk rfl)) rfl <| Nl <| sq <| Cn rfl (fun hc => absurd (of_decide_eq_true hc) hsf1.zero) (fun hc => ?_)
  refine xt <| SR <| Ld Z00 5 rfl <| Zh Z00 3 rfl <| Ab rfl <| Nl <| rt ?_
  cases h; exact Z1k Tryz.results196 rfl (Z01 rfl (i := 3) rfl Z00) (Za rfl)
 | succ m7 =>
  unfold Z6x at h
  refine SR <| Ac (Zi rfl rfl (vt rfl) (vk rfl)) rfl <| Nl <| sq <| Cn rfl (fun hc => ?_) (fun hc => absurd hsf1.succ (of_decide_eq_false hc))
  have hlti6 := of_decide_eq_true hc
  refine sk <| sq <| bk <| SR <| Md rfl <| As rfl <| Nl <| sq ?_
  obtain ⟨x8, hx8, h⟩ := Z8 h
  refine Rg <| Ac (Zu (A := fa1 Tryz.prog (Z0 .i64) (fun (y : (Tern × Bool)) => Z1d (rd Z4 y.1) (rd Z5 y.2)) x1) rfl rfl (vt rfl)) rfl <| Md rfl <| Ac (Y8t (B := (fun (y : (Tern × Bool)) => Z1d (rd Z4 y.1) (rd Z5 y.2))) hx8 rfl rfl (vt rfl) (vt rfl)) rfl <| Mt2 rfl <| Ac (Z1m rfl rfl (vt rfl)) rfl <| Ac (Z1l rfl rfl (vt rfl)) rfl <| Cv rfl (Zp 7 rfl rfl Z2b) fun g9 => Zh Z03 7 rfl <| As rfl <| Nl <| sq <| SR <| Md rfl <| Ac (Z0x rfl rfl (vt rfl)) rfl <| Nl <| Cq rfl h (fun h => ?_) (fun h => ?_)
  ·refine SR <| Ac (Z20 (ps := []) (x := (Vector.replicate 24 zTern)) rfl rfl rfl (by kernel_rfl) Z2c rfl) rfl <| Zh Z00 3 rfl <| Ab rfl <| Nl <| rt ?_
   cases h; exact Z1k Tryz.results196 rfl (Z01 rfl (i := 3) rfl Z00) (Za rfl)
  ·refine sk ?_
   obtain ⟨j10, hj10, h⟩ := Z8 h
   refine Rg <| Md rfl <| Ld Z03 7 rfl <| Ac (Z2q rfl rfl Z4a (vt rfl) (vt rfl) hj10) rfl <| Zh Z03 5 rfl <| Nl <| Rg <| Ac (Z6r rfl rfl (vt rfl) (vk rfl) rfl hlti6) rfl <| Md rfl <| Nl ?_
   exact ⟨(_, _, _), Nat.lt_succ_self _, ⟨hsf1.next, h⟩, FX rfl⟩
def Zbd (x1 : Zk) : Option Zk :=
 (Zef (fun x => Zg8 x x1)).bind fun x4 => some x4.1
theorem Zn5 : Q1 Tryz.prog 126 (rd (Z3 24 Z4)) (rd (Z3 24 Z4)) Zbd := fun x1 r h => I0 Tryz.func126 rfl Tryz.ntmps126 rfl fun w H => by
 unfold Zbd at h
 refine SR <| Cv rfl (Zm 2 rfl rfl (vt rfl)) fun g2 => Cv rfl (Zp 3 rfl rfl Z2c) fun g3 => Nl <| sq <| AW.freezeB 1 2 rfl rfl rfl ?_
 obtain ⟨x4, hx4, h⟩ := Z8 h
 refine Rg <| Ac (Zyq (fs := []) (FAs := []) (cs := [.tmp 1]) (CAs := [rp (Z3 24 Z4) x1]) (kx := (Z0 .i64)) (B := (fun (y : (Tern × Bool)) => Z1d (rd Z4 y.1) (rd Z5 y.2))) (fun x => Zg8 x x1) rfl rfl Y81 trivial ⟨vt rfl, trivial⟩ (fun x y h => Yhu _ _ y h)) rfl <| Cl [6] (Y2y _ _ hx4) Zwk rfl <| Mt2 rfl <| Ac (Z1m rfl rfl (vt rfl)) rfl <| Ac (Z1l rfl rfl (vt rfl)) rfl <| Cv rfl (Zp 4 rfl rfl Z2c) fun g5 => Zh Z00 4 rfl <| As rfl <| Nl <| SR <| Ld Z00 4 rfl <| Zh Z00 3 rfl <| Nl <| rt ?_
 cases h; exact Zg Tryz.results126 rfl (Z01 rfl (i := 3) rfl Z00)
def Zg6 (x1 : Flow) : Option Zk :=
 (Zp4 x1.Match).bind fun x4 => (Zbd x4).bind fun x5 => some x5
theorem Zy7 : Q1 Tryz.prog 157 (rd Z16) (rd (Z3 24 Z4)) Zg6 := fun x1 r h => I0 Tryz.func157 rfl Tryz.ntmps157 rfl fun w H => by
 unfold Zg6 at h
 refine SR <| Cv rfl (Zm 2 rfl rfl (vt rfl)) fun g2 => Cv rfl (Zp 3 rfl rfl Z2c) fun g3 => Nl <| sq ?_
 obtain ⟨x4, hx4, x5, hx5, h⟩ := bs2 h
 refine Rg <| Zf Zrb Y1e rfl <| Ld Zys 2 rfl <| Cl [4] (Yj0 _ _ hx4) Ycm rfl <| Cl [5] (Zn5 _ _ hx5) Zos rfl <| Zh Z00 3 rfl <| Nl <| rt ?_
 cases h; exact Zg Tryz.results157 rfl (Z01 rfl (i := 3) rfl Z00)
end Go.Proofs.YtknpgojdkobgjaaGreat.W
set_option maxRecDepth 4000
namespace Go.Proofs.YtknpgojdkobgjaaGreat.W
open Go Go.Wb
theorem Yjt : Ent Tryz.prog 261 := Ent.mk Tryz.func261 rfl rfl
theorem Ydp : Ent Tryz.prog 260 := Ent.mk Tryz.func260 rfl rfl
theorem Zxi : Ent Tryz.prog 259 := Ent.mk Tryz.func259 rfl rfl
theorem Y88 : Ent Tryz.prog 262 := Ent.mk Tryz.func262 rfl rfl
theorem Y23 : Ent Tryz.prog 157 := Ent.mk Tryz.func157 rfl rfl
theorem Y4j : Ent Tryz.prog 202 := Ent.mk Tryz.func202 rfl rfl
theorem Zms : Ent Tryz.prog 203 := Ent.mk Tryz.func203 rfl rfl
def Zf6 (a1 : Tern) (b2 : Tern) : Option (Tern × Bool) :=
 (Zbi a1.Mask b2.Mask).bind fun x6 => (Zfl (⟨a1.Value, x6⟩ : Tern) b2.Value).bind fun x7 => (bif (!x7) then some ((⟨Z0j, Z0j⟩ : Tern), false) else (Z7b a1).bind fun x8 => (Z7b b2).bind fun x9 => (Z8k x8.Value x9.Value).bind fun x10 => (Z8k x8.Mask x9.Mask).bind fun x11 => some ((⟨x10, x11⟩ : Tern), true))
theorem Y4h : Q2 Tryz.prog 259 (rd Z4) (rd Z4) (fun r => Z1d (rd Z4 r.1) (rd Z5 r.2)) Zf6 := fun a1 b2 r h => I0 Tryz.func259 rfl Tryz.ntmps259 rfl fun w H => by
 unfold Zf6 at h
 refine SR <| Cv rfl (Zm 3 rfl rfl (vt rfl)) fun g3 => Cv rfl (Zm 4 rfl rfl (vt rfl)) fun g4 => Cv rfl (Zp 5 rfl rfl Z2b) fun g5 => Ab rfl <| Nl <| sq <| sq ?_
 obtain ⟨x6, hx6, x7, hx7, h⟩ := bs2 h
 refine AR Zw (by kernel_rfl) <| Zv lTern_0 Z4l rfl <| Zl Z02 3 rfl <| Zv lTern_1 Z3t rfl <| Zl Z02 3 rfl <| Zv lTern_1 Z3t rfl <| Zl Z02 4 rfl <| SCl [9, 11] (Zka _ _ _ hx6) Zk2 rfl <| Sd (lo [7, 12] [] rfl fun S hs hr => opb (⟨a1.Value, x6⟩ : Tern) Z2b rfl Z8y (pc Zbr (vh hs 7 rfl rfl) <| pc Zav (vh hs 12 rfl rfl) <| pn rfl)) <| Zv lTern_0 Z4l rfl <| Zl Z02 4 rfl <| SCl [13, 15] (Zsi _ _ _ hx7) Zrm rfl <| Sd (lo [16] [] rfl fun S hs hr => Z0x rfl rfl (vh hs 16 rfl rfl)) <| Sn <| Cq rfl h (fun h => ?_) (fun h => ?_)
 ·refine SR <| Ac (opb (⟨Z0j, Z0j⟩ : Tern) Z2b rfl Z8y (pn rfl)) rfl <| Zh Z03 5 rfl <| Ab rfl <| Nl <| rt ?_
  cases h; exact Z1k Tryz.results259 rfl (Z01 rfl (i := 5) rfl Z03) (Za rfl)
 ·refine sk <| sq ?_
  obtain ⟨x8, hx8, x9, hx9, h⟩ := bs2 h
  refine AR Zw (by kernel_rfl) <| Zl Z03 3 rfl <| SCl [19] (Z9v _ _ hx8) Z92 rfl <| Zl Z03 4 rfl <| SCl [21] (Z9v _ _ hx9) Z92 rfl <| SSt Z03 3 rfl <| SSt Z03 4 rfl <| Sn <| sq ?_
  obtain ⟨x10, hx10, x11, hx11, h⟩ := bs2 h
  refine AR Zw (by kernel_rfl) <| Zv lTern_0 Z4l rfl <| Zl Z02 3 rfl <| Zv lTern_0 Z4l rfl <| Zl Z02 4 rfl <| SCl [24, 26] (Zdy _ _ _ hx10) Zdo rfl <| Zv lTern_1 Z3t rfl <| Zl Z02 3 rfl <| Zv lTern_1 Z3t rfl <| Zl Z02 4 rfl <| SCl [29, 31] (Zdy _ _ _ hx11) Zdo rfl <| Sd (lo [27, 32] [] rfl fun S hs hr => opb (⟨x10, x11⟩ : Tern) Z2b rfl Z8y (pc Zbr (vh hs 27 rfl rfl) <| pc Zav (vh hs 32 rfl rfl) <| pn rfl)) <| SSt Z03 5 rfl <| Sd (lo [] [] rfl fun S hs hr => Zy (A := rd Z5 true) rfl rfl vb) <| Sn <| rt ?_
  cases h; exact Z1k Tryz.results259 rfl (Z01 rfl (i := 5) rfl Z03) (Za rfl)
def Zlp (i1 : Int) (x2 : Zk) (x3 : Zk) : Option Tern :=
 (chk 24 i1).bind fun j5 => (chk 24 i1).bind fun j6 => (chk 24 i1).bind fun j7 => (Z9f ((Vector.get x2 j6).Mask) ((Vector.get x3 j7).Mask)).bind fun x8 => (Z7b (⟨(Vector.get x2 j5).Value, x8⟩ : Tern)).bind fun x9 => some x9
theorem Yh7 : Q3 Tryz.prog 261 (rd (Z0 .i64)) (rp (Z3 24 Z4)) (rp (Z3 24 Z4)) (rd Z4) Zlp := fun i1 x2 x3 r h => I0 Tryz.func261 rfl Tryz.ntmps261 rfl fun w H => by
 unfold Zlp at h
 refine SR <| Cv rfl (Zp 5 rfl rfl Z2b) fun g4 => Nl <| sq ?_
 obtain ⟨j5, hj5, j6, hj6, j7, hj7, x8, hx8, h⟩ := bs4 h
 obtain ⟨x9, hx9, h⟩ := Z8 h
 refine AR Zw (by kernel_rfl) <| SMd rfl <| Sd (lo [1, 5] [] rfl fun S hs hr => Z7l rfl rfl Z4a (vh hs 1 rfl rfl) (vh hs 5 rfl rfl) hj5) <| SFp lTern_0 Z4l rfl <| SLp Z02 rfl <| SMd rfl <| Sd (lo [1, 9] [] rfl fun S hs hr => Z7l rfl rfl Z4a (vh hs 1 rfl rfl) (vh hs 9 rfl rfl) hj6) <| SFp lTern_1 Z3t rfl <| SLp Z02 rfl <| SMd rfl <| Sd (lo [2, 13] [] rfl fun S hs hr => Z7l rfl rfl Za4 (vh hs 2 rfl rfl) (vh hs 13 rfl rfl) hj7) <| SFp lTern_1 Z3t rfl <| SLp Z02 rfl <| SCl [12, 16] (Zfu _ _ _ hx8) Zg0 rfl <| Sd (lo [8, 17] [] rfl fun S hs hr => opb (⟨(Vector.get x2 j5).Value, x8⟩ : Tern) Z2b rfl Z8y (pc Zbr (vh hs 8 rfl rfl) <| pc Zav (vh hs 17 rfl rfl) <| pn rfl)) <| SCl [18] (Z9v _ _ hx9) Z92 rfl <| SSt Z03 5 rfl <| Sn <| rt ?_
 cases h; exact Zg Tryz.results261 rfl (Z01 rfl (i := 5) rfl Z03)
def Z9s (x1 : (Int → Option Tern)) : Nat → Nat → Zk → Option Zk
 | 0, i6, b5 => some b5
 | m7 + 1, i6, b5 => (x1 (i6 : Int)).bind fun x8 => (chk 24 (i6 : Int)).bind fun j9 => (Z9s x1 m7) (i6 + 1) (Vector.set b5 j9.1 x8 j9.2)
def Zjv (x1 : (Int → Option Tern)) : Option Zk :=
 Z9s x1 (24 : Int).toNat 0 (Vector.replicate 24 zTern)
theorem Ykl : Q1 Tryz.prog 260 (fn1 Tryz.prog (Z0 .i64) Z4) (rd (Z3 24 Z4)) Zjv := fun x1 r h => I0 Tryz.func260 rfl Tryz.ntmps260 rfl fun w H => by
 unfold Zjv at h
 refine SR <| Cv rfl (Zp 3 rfl rfl Z2c) fun g2 => Nl <| SR <| Cv rfl (Zp 4 rfl rfl Z2c) fun g3 => Nl <| sq <| SR <| Mk rfl <| Nl <| bk <| LG (d := []) (ν := Nat × Nat × Zk) (fun (m7, i6, b5) => (Cnt 24 i6 m7 ∧ Z9s x1 m7 i6 b5 = some r, m7, [(0, fn1 Tryz.prog (Z0 .i64) Z4 x1), (2, Z7 g2 (Lens.id (Z3 24 Z4))), (3, Z7 g3 (Lens.id (Z3 24 Z4))), (5, rd (Z0 .i64) (i6 : Int))], [(3, Zc g2 87 (Z3 24 Z4) (Vector.replicate 24 zTern)), (4, Zc g3 87 (Z3 24 Z4) b5)])) ((24 : Int).toNat, 0, (Vector.replicate 24 zTern)) ⟨Cnt.start _, h⟩ (FX rfl) ?_
 rintro ⟨m7, i6, b5⟩ ⟨hsf1, h⟩
 dsimp only at hsf1 h ⊢
 cases m7 with
 | zero =>
  unfold Z9s at h
  refine SR <| Ac (Zi rfl rfl (vt rfl) (vk rfl)) rfl <| Nl <| sq <| Cn rfl (fun hc => absurd (of_decide_eq_true hc) hsf1.zero) (fun hc => ?_)
  refine xt <| SR <| Ld Z00 4 rfl <| Zh Z00 3 rfl <| Nl <| rt ?_
  cases h; exact Zg Tryz.results260 rfl (Z01 rfl (i := 3) rfl Z00)
 | succ m7 =>
  unfold Z9s at h
  refine SR <| Ac (Zi rfl rfl (vt rfl) (vk rfl)) rfl <| Nl <| sq <| Cn rfl (fun hc => ?_) (fun hc => absurd hsf1.succ (of_decide_eq_false hc))
  have hlti6 := of_decide_eq_true hc
  refine sk <| sq <| bk <| SR <| Md rfl <| As rfl <| Nl ?_
  obtain ⟨x8, hx8, j9, hj9, h⟩ := bs2 h
  refine Rg <| Md rfl <| Ac (Zu (A := fn1 Tryz.prog (Z0 .i64) Z4 x1) rfl rfl (vt rfl)) rfl <| Md rfl <| Ac (Z8b hx8 rfl rfl (vt rfl) (vt rfl)) rfl <| Ac (Z2q rfl rfl Z4a (vt rfl) (vt rfl) hj9) rfl <| Zh Z03 4 rfl <| Nl <| Rg <| Ac (Z6r rfl rfl (vt rfl) (vk rfl) rfl hlti6) rfl <| Md rfl <| Nl ?_
  exact ⟨(_, _, _), Nat.lt_succ_self _, ⟨hsf1.next, h⟩, FX rfl⟩
def Zal (x2 : Zk) (x1 : Zk) : (List Tern) → Nat → Option (Zk × Bool)
 | [], i6 => (Zjv (fun x => Zlp x x2 x1)).bind fun x8 => some (x8, true)
 | x9 :: l7, i6 => (chk 24 (i6 : Int)).bind fun j11 => (Zf6 x9 (Vector.get x2 j11)).bind fun x12 => (bif (!x12.2) then some ((Vector.replicate 24 zTern), false) else (Zal x2 x1 l7) (i6 + 1))
def Zfx (x1 : Zk) (x2 : Zk) : Option (Zk × Bool) :=
 Zal x2 x1 (Vector.toList x1) 0
theorem Zwm : Q2 Tryz.prog 202 (rd (Z3 24 Z4)) (rd (Z3 24 Z4)) (fun r => Z1d (rd (Z3 24 Z4) r.1) (rd Z5 r.2)) Zfx := fun x1 x2 r h => I0 Tryz.func202 rfl Tryz.ntmps202 rfl fun w H => by
 unfold Zfx at h
 refine SR <| Cv rfl (Zm 3 rfl rfl (vt rfl)) fun g3 => Cv rfl (Zm 4 rfl rfl (vt rfl)) fun g4 => Cv rfl (Zp 5 rfl rfl Z2c) fun g5 => Ab rfl <| Nl <| sq <| SR <| Ld Z0f 3 rfl <| Mk rfl <| Nl <| bk <| LG (d := []) (ν := (List Tern) × Nat) (fun (l7, i6) => (Sfx (Vector.toList x1) i6 l7 ∧ Zal x2 x1 l7 i6 = some r, l7.length, [(2, Z7 g3 (Lens.id (Z3 24 Z4))), (3, Z7 g4 (Lens.id (Z3 24 Z4))), (4, Z7 g5 (Lens.id (Z3 24 Z4))), (10, rd (Z3 24 Z4) x1), (11, rd (Z0 .i64) (i6 : Int))], [(3, Zc g3 101 (Z3 24 Z4) x1), (4, Zc g4 87 (Z3 24 Z4) x2), (5, Zc g5 87 (Z3 24 Z4) (Vector.replicate 24 zTern))])) ((Vector.toList x1), 0) ⟨Sfx.start _, h⟩ (FX rfl) ?_
 rintro ⟨l7, i6⟩ ⟨hsf1, h⟩
 dsimp only at hsf1 h ⊢
 cases l7 with
 | nil =>
  unfold Zal at h
  refine SR <| Ac (Zi rfl rfl (vt rfl) (vk rfl)) rfl <| Nl <| sq <| Cn rfl (fun hc => absurd (of_decide_eq_true hc) (hsf1.niln (by simp))) (fun hc => ?_)
  refine xt <| sq <| AW.freezeB 3 4 rfl rfl rfl <| AW.freezeB 2 3 rfl rfl rfl ?_
  obtain ⟨x8, hx8, h⟩ := Z8 h
  refine Rg <| Ac (Z7v (cs := [.tmp 3, .tmp 2]) (CAs := [rp (Z3 24 Z4) x2, rp (Z3 24 Z4) x1]) (fun x => Zlp x x2 x1) rfl rfl Yjt ⟨vt rfl, vt rfl, trivial⟩ (fun x y h => Yh7 _ _ _ y h)) rfl <| Cl [27] (Ykl _ _ hx8) Ydp rfl <| Zh Z00 5 rfl <| Ab rfl <| Nl <| rt ?_
  cases h; exact Z1k Tryz.results202 rfl (Z01 rfl (i := 5) rfl Z00) (Za rfl)
 | cons x9 l7 =>
  unfold Zal at h
  refine SR <| Ac (Zi rfl rfl (vt rfl) (vk rfl)) rfl <| Nl <| sq <| Cn rfl (fun hc => ?_) (fun hc => absurd (hsf1.consn (by simp)) (of_decide_eq_false hc))
  have hlti6 := of_decide_eq_true hc
  refine sk <| sq <| bk <| SR <| Md rfl <| Ac (Za3 rfl rfl Za4 Z03 (vt rfl) (vt rfl) hsf1.lget) rfl <| Cv rfl (Zp 8 rfl rfl Z2b) fun g10 => As rfl <| Zh Z03 8 rfl <| Nl <| sq ?_
  obtain ⟨j11, hj11, x12, hx12, h⟩ := bs2 h
  refine AR Zw (by kernel_rfl) <| Zl Z03 8 rfl <| SMd rfl <| Sd (lo [3, 17] [] rfl fun S hs hr => Z2q rfl rfl Z4a (vh hs 3 rfl rfl) (vh hs 17 rfl rfl) hj11) <| Zl Z03 4 rfl <| SCl [16, 19] (Y4h _ _ _ hx12) Zxi rfl <| Sd (lo [20] [] rfl fun S hs hr => Zu (A := Z1d (rd Z4 x12.1) (rd Z5 x12.2)) rfl rfl (vh hs 20 rfl rfl)) <| Sd (lo [15] [] rfl fun S hs hr => Z1m rfl rfl (vh hs 15 rfl rfl)) <| Sd (lo [15] [] rfl fun S hs hr => Z1l rfl rfl (vh hs 15 rfl rfl)) <| Sd (Z1o (us := [(8, Z43 85 Z4 zTern)]) (ur := []) [] [] rfl fun S hs hr => Zcv rfl rfl rfl Z2b) <| Sd (Z1o (us := [(8, Z43 85 Z4 x12.1)]) (ur := []) [8, 21] [] rfl fun S hs hr => Zcj rfl rfl Z03 ((hs 8 rfl).trans rfl) (vh hs 21 rfl rfl)) <| SAs rfl <| Sn <| AW.unpackP 8 9 rfl rfl fun g13 => SR <| Md rfl <| Ac (Z0x rfl rfl (vt rfl)) rfl <| Nl <| Cq rfl h (fun h => ?_) (fun h => ?_)
  ·refine SR <| Ac (Z20 (ps := []) (x := (Vector.replicate 24 zTern)) rfl rfl rfl (by kernel_rfl) Z2c rfl) rfl <| Zh Z00 5 rfl <| Ab rfl <| Nl <| rt ?_
   cases h; exact Z1k Tryz.results202 rfl (Z01 rfl (i := 5) rfl Z00) (Za rfl)
  ·refine sk <| Rg <| Ac (Z6r rfl rfl (vt rfl) (vk rfl) rfl hlti6) rfl <| Md rfl <| Nl ?_
   exact ⟨(_, _), Nat.lt_succ_self _, ⟨hsf1.next, h⟩, FX rfl⟩
def Zkw (i1 : Int) (x2 : Zk) (x3 : Zk) : Option (Tern × Bool) :=
 (chk 24 i1).bind fun j5 => (chk 24 i1).bind fun j6 => (Zf6 (Vector.get x2 j5) (Vector.get x3 j6)).bind fun x7 => some (x7.1, x7.2)
theorem Yg3 : Q3 Tryz.prog 262 (rd (Z0 .i64)) (rp (Z3 24 Z4)) (rp (Z3 24 Z4)) (fun r => Z1d (rd Z4 r.1) (rd Z5 r.2)) Zkw := fun i1 x2 x3 r h => I0 Tryz.func262 rfl Tryz.ntmps262 rfl fun w H => by
 unfold Zkw at h
 refine SR <| Cv rfl (Zp 5 rfl rfl Z2b) fun g4 => Ab rfl <| Nl <| sq ?_
 obtain ⟨j5, hj5, j6, hj6, x7, hx7, h⟩ := bs3 h
 refine AR Zw (by kernel_rfl) <| SMd rfl <| Sd (lo [1, 6] [] rfl fun S hs hr => Z7l rfl rfl Z4a (vh hs 1 rfl rfl) (vh hs 6 rfl rfl) hj5) <| SLp Z03 rfl <| SMd rfl <| Sd (lo [2, 9] [] rfl fun S hs hr => Z7l rfl rfl Z4a (vh hs 2 rfl rfl) (vh hs 9 rfl rfl) hj6) <| SLp Z03 rfl <| SCl [8, 11] (Y4h _ _ _ hx7) Zxi rfl <| Sd (lo [12] [] rfl fun S hs hr => Z1m rfl rfl (vh hs 12 rfl rfl)) <| Sd (lo [12] [] rfl fun S hs hr => Z1l rfl rfl (vh hs 12 rfl rfl)) <| SSt Z03 5 rfl <| SAs rfl <| Sn <| rt ?_
 cases h; exact Z1k Tryz.results262 rfl (Z01 rfl (i := 5) rfl Z03) (Za rfl)
def Z7y (a1 : Zk) (b2 : Zk) : Option (Zk × Bool) :=
 (Zef (fun x => Zkw x a1 b2)).bind fun x6 => some (x6.1, x6.2)
theorem Zol : Q2 Tryz.prog 203 (rd (Z3 24 Z4)) (rd (Z3 24 Z4)) (fun r => Z1d (rd (Z3 24 Z4) r.1) (rd Z5 r.2)) Z7y := fun a1 b2 r h => I0 Tryz.func203 rfl Tryz.ntmps203 rfl fun w H => by
 unfold Z7y at h
 refine SR <| Cv rfl (Zm 3 rfl rfl (vt rfl)) fun g3 => Cv rfl (Zm 4 rfl rfl (vt rfl)) fun g4 => Cv rfl (Zp 5 rfl rfl Z2c) fun g5 => Ab rfl <| Nl <| sq <| AW.freezeB 2 3 rfl rfl rfl <| AW.freezeB 3 4 rfl rfl rfl ?_
 obtain ⟨x6, hx6, h⟩ := Z8 h
 refine Rg <| Ac (Zyq (fs := []) (FAs := []) (cs := [.tmp 2, .tmp 3]) (CAs := [rp (Z3 24 Z4) a1, rp (Z3 24 Z4) b2]) (kx := (Z0 .i64)) (B := (fun (y : (Tern × Bool)) => Z1d (rd Z4 y.1) (rd Z5 y.2))) (fun x => Zkw x a1 b2) rfl rfl Y88 trivial ⟨vt rfl, vt rfl, trivial⟩ (fun x y h => Yg3 _ _ _ y h)) rfl <| Cl [6] (Y2y _ _ hx6) Zwk rfl <| Ac (Z1m rfl rfl (vt rfl)) rfl <| Ac (Z1l rfl rfl (vt rfl)) rfl <| Zh Z00 5 rfl <| As rfl <| Nl <| rt ?_
 cases h; exact Z1k Tryz.results203 rfl (Z01 rfl (i := 5) rfl Z00) (Za rfl)
def Zj0 (w1 : walk_way) (x2 : Flow) : Option (walk_way × Bool) :=
 (Zg6 x2).bind fun x6 => (Zfx w1.got x6).bind fun x7 => (bif (!x7.2) then some ((⟨(Vector.replicate 24 zTern), (Vector.replicate 24 zTern), [], []⟩ : walk_way), false) else (Z7y x7.1 w1.cube).bind fun x9 => some ({ w1 with cube := x9.1 }, x9.2))
theorem Ybe : Q2 Tryz.prog 136 (rd Z1n) (rd Z16) (fun r => Z1d (rd Z1n r.1) (rd Z5 r.2)) Zj0 := fun w1 x2 r h => I0 Tryz.func136 rfl Tryz.ntmps136 rfl fun w H => by
 unfold Zj0 at h
 refine SR <| Cv rfl (Zm 3 rfl rfl (vt rfl)) fun g3 => Cv rfl (Zm 4 rfl rfl (vt rfl)) fun g4 => Cv rfl (Zp 5 rfl rfl Zh6) fun g5 => Ab rfl <| Nl <| sq ?_
 obtain ⟨x6, hx6, x7, hx7, h⟩ := bs2 h
 refine AR Zw (by kernel_rfl) <| Zv lwalk_way_1 Ziw rfl <| Zl Z0f 3 rfl <| Zl Z9w 4 rfl <| SCl [11] (Zy7 _ _ hx6) Y23 rfl <| SCl [10, 12] (Zwm _ _ _ hx7) Y4j rfl <| Sd (lo [13] [] rfl fun S hs hr => Zu (A := Z1d (rd (Z3 24 Z4) x7.1) (rd Z5 x7.2)) rfl rfl (vh hs 13 rfl rfl)) <| Sd (lo [8] [] rfl fun S hs hr => Z1m rfl rfl (vh hs 8 rfl rfl)) <| Sd (lo [8] [] rfl fun S hs hr => Z1l rfl rfl (vh hs 8 rfl rfl)) <| Sd (Z1o (us := [(6, Z43 87 (Z3 24 Z4) (Vector.replicate 24 zTern))]) (ur := []) [] [] rfl fun S hs hr => Zcv rfl rfl rfl Z2c) <| Sd (Z1o (us := [(6, Z43 87 (Z3 24 Z4) x7.1)]) (ur := []) [6, 14] [] rfl fun S hs hr => Zcj rfl rfl Z00 ((hs 6 rfl).trans rfl) (vh hs 14 rfl rfl)) <| SAs rfl <| Sn <| AW.unpackP 6 7 rfl rfl fun g8 => sq <| SR <| Md rfl <| Ac (Z0x rfl rfl (vt rfl)) rfl <| Nl <| Cq rfl h (fun h => ?_) (fun h => ?_)
 ·refine SR <| Ac (opb (⟨(Vector.replicate 24 zTern), (Vector.replicate 24 zTern), [], []⟩ : walk_way) Zh6 rfl Zv1 (pn rfl)) rfl <| Zh Z35 5 rfl <| Ab rfl <| Nl <| rt ?_
  cases h; exact Z1k Tryz.results136 rfl (Z01 rfl (i := 5) rfl Z35) (Za rfl)
 ·refine sk <| sq ?_
  obtain ⟨x9, hx9, h⟩ := Z8 h
  refine Rg <| Ld Z00 7 rfl <| Zf lwalk_way_0 Zqf rfl <| Ld Z00 3 rfl <| Cl [20, 22] (Zol _ _ _ hx9) Zms rfl <| Mt2 rfl <| Ac (Z1m rfl rfl (vt rfl)) rfl <| Ac (Z1l rfl rfl (vt rfl)) rfl <| Zf lwalk_way_0 Zqf rfl <| Zh Z00 3 rfl <| As rfl <| Nl <| SR <| Ld Z35 3 rfl <| Md rfl <| Zh Z35 5 rfl <| As rfl <| Nl <| rt ?_
  cases h; exact Z1k Tryz.results136 rfl (Z01 rfl (i := 5) rfl Z35) (Za rfl)
def Zis (i1 : Inst) (x2 : Int) : Option Bool :=
 some (decide (i1.Kind = x2))
theorem Y93 : Q2 Tryz.prog 264 (rd Z1e) (rp (Z0 .i64)) (rd Z5) Zis := fun i1 x2 r h => I0 Tryz.func264 rfl Tryz.ntmps264 rfl fun w H => by
 unfold Zis at h
 refine SR <| Cv rfl (Zm 3 rfl rfl (vt rfl)) fun g3 => Ab rfl <| Nl <| SR <| Zf lInst_0 Y66 rfl <| Ld Zo 3 rfl <| Lp1 Zo rfl <| Ac (Z21 rfl rfl (vt rfl) (vt rfl)) rfl <| As rfl <| Nl <| rt ?_
 cases h; exact Zg Tryz.results264 rfl (Za rfl)
def Zc9 (s1 : (List Inst)) (x2 : (Inst → Option Bool)) : Nat → Nat → Option Int
 | 0, i3 => some (-1)
 | m4 + 1, i3 => (lget s1 (i3 : Int)).bind fun x5 => (x2 x5).bind fun x6 => (bif x6 then some (i3 : Int) else (Zc9 s1 x2 m4) (i3 + 1))
def Zfz (s1 : (List Inst)) (x2 : (Inst → Option Bool)) : Option Int :=
 Zc9 s1 x2 ((s1.length : Int) : Int).toNat 0
theorem Y0m : Q2 Tryz.prog 263 (rd (Z1 Z1e)) (fn1 Tryz.prog Z1e Z5) (rd (Z0 .i64)) Zfz := fun s1 x2 r h => I0 Tryz.func263 rfl Tryz.ntmps263 rfl fun w H => by
 unfold Zfz at h
 refine SR <| Ak rfl <| Nl <| sq <| SR <| Md rfl <| Ac (Z0t rfl rfl Zew (vt rfl)) rfl <| Mk rfl <| Nl <| bk <| LG (d := []) (ν := Nat × Nat) (fun (m4, i3) => (Cnt (s1.length : Int) i3 m4 ∧ Zc9 s1 x2 m4 i3 = some r, m4, [(0, rd (Z1 Z1e) s1), (1, fn1 Tryz.prog Z1e Z5 x2), (7, rd (Z0 .i64) (s1.length : Int)), (8, rd (Z0 .i64) (i3 : Int))], [])) (((s1.length : Int) : Int).toNat, 0) ⟨Cnt.start _, h⟩ (FX rfl) ?_
 rintro ⟨m4, i3⟩ ⟨hsf1, h⟩
 dsimp only at hsf1 h ⊢
 cases m4 with
 | zero =>
  unfold Zc9 at h
  refine SR <| Ac (Zi rfl rfl (vt rfl) (vt rfl)) rfl <| Nl <| sq <| Cn rfl (fun hc => absurd (of_decide_eq_true hc) hsf1.zero) (fun hc => ?_)
  refine xt <| SR <| Ak rfl <| Nl <| rt ?_
  cases h; exact Zg Tryz.results263 rfl (Za rfl)
 | succ m4 =>
  unfold Zc9 at h
  refine SR <| Ac (Zi rfl rfl (vt rfl) (vt rfl)) rfl <| Nl <| sq <| Cn rfl (fun hc => ?_) (fun hc => absurd hsf1.succ (of_decide_eq_false hc))
  have hlti3 := of_decide_eq_true hc
  refine sk <| sq <| bk <| SR <| Md rfl <| As rfl <| Nl <| sq ?_
  obtain ⟨x5, hx5, x6, hx6, h⟩ := bs2 h
  refine Rg <| Ac (Zu (A := fn1 Tryz.prog Z1e Z5 x2) rfl rfl (vt rfl)) rfl <| Md rfl <| Md rfl <| Ac (Z0w rfl rfl Zew (vt rfl) (vt rfl) hx5) rfl <| Lp1 Z3z rfl <| Ac (Z8b hx6 rfl rfl (vt rfl) (vt rfl)) rfl <| Nl <| Cq rfl h (fun h => ?_) (fun h => ?_)
  ·refine SR <| Md rfl <| As rfl <| Nl <| rt ?_
   cases h; exact Zg Tryz.results263 rfl (Za rfl)
  ·refine sk <| Rg <| Ac (Z0s (t := 7) rfl rfl (vt rfl) (vk rfl) (vt rfl) hlti3) rfl <| Md rfl <| Nl ?_
   exact ⟨(_, _), Nat.lt_succ_self _, ⟨hsf1.next, h⟩, FX rfl⟩
end Go.Proofs.YtknpgojdkobgjaaGreat.W
set_option maxRecDepth 4000
namespace Go.Proofs.YtknpgojdkobgjaaGreat.W
open Go Go.Wb
theorem Y9p : Ent Tryz.prog 264 := Ent.mk Tryz.func264 rfl rfl
theorem Zxp : Ent Tryz.prog 263 := Ent.mk Tryz.func263 rfl rfl
theorem Zlt : Ent Tryz.prog 216 := Ent.mk Tryz.func216 rfl rfl
theorem Yb0 : Ent Tryz.prog 306 := Ent.mk Tryz.func306 rfl rfl
theorem Y0d : Ent Tryz.prog 305 := Ent.mk Tryz.func305 rfl rfl
theorem Zqd : Ent Tryz.prog 268 := Ent.mk Tryz.func268 rfl rfl
theorem Y10 : Ent Tryz.prog 270 := Ent.mk Tryz.func270 rfl rfl
theorem e77 : Ent Tryz.prog 77 := Ent.mk Tryz.func77 rfl rfl
theorem Zdj : Ent Tryz.prog 207 := Ent.mk Tryz.func207 rfl rfl
theorem Znb : Ent Tryz.prog 327 := Ent.mk Tryz.func327 rfl rfl
def Z71 (s : List Action) : Option (List Action) := Z1a [] s
theorem Zs2 (s : List Action) (r : List Action) (h : Z71 s = some r) : Con Tryz.prog 216 [rd (Z1 Z9) s] emp (fun v => Zn v) (fun v => Zb v 121 Z9 r) := by
 refine Con.intro0 Tryz.func216 rfl Tryz.ntmps216 rfl fun w H => ?_
 unfold Z71 at h
 refine AW.newnil 1001 121 Z9 <| SR <| Ac (Zy (A := Zn (.slice none 0 0)) rfl rfl vc) rfl <| Nl <| sq <| SR <| Md rfl <| Ct rfl (Zk7 rfl rfl Z15 (vt rfl)) ?_
 rintro _ ⟨b, hb, rfl⟩
 refine Nl <| Cn rfl (fun hc => ?_) (fun hc => ?_)
 ·obtain rfl := hb hc
  refine SR <| Ac (Zy (A := Zn (.slice none 0 0)) rfl rfl vc) rfl <| Nl <| rt ?_
  obtain rfl := (Zbo h).2
  exact Z6k (i := 1001) Tryz.results216 rfl rfl rfl
 ·refine sk <| SR <| Cv rfl (Zhn 1002 (ps := []) (l := []) rfl rfl Z15 Z85 rfl rfl rfl rfl) fun v1 => Md rfl <| Cv rfl (Z4e 1002 h rfl rfl Y4e (vt rfl) rfl (vt rfl)) fun v2 => Aw rfl <| Nl <| rt ?_
  exact Z6k (i := 1002) Tryz.results216 rfl rfl rfl
theorem Zxu (s : List Action) (r : List Action) (h : Z71 s = some r) : PCon Tryz.prog 216 [rd (Z1 Z9) s] (rd (Z1 Z9) r) := PCon.of_row (Zs2 s r h)
def Z6a (l1 : (List Inst)) (k2 : Int) : Option (Inst × Bool) :=
 (Zfz l1 (fun x => Zis x k2)).bind fun x5 => (bif (decide (x5 < 0)) then some ((⟨0, 0, Z0j, Z0j, []⟩ : Inst), false) else (lget l1 x5).bind fun x6 => (Z71 x6.Acts).bind fun x8 => some ({ x6 with Acts := x8 }, true))
theorem Z8h : Q2 Tryz.prog 204 (rd (Z1 Z1e)) (rd (Z0 .i64)) (fun r => Z1d (rd Z1e r.1) (rd Z5 r.2)) Z6a := fun l1 k2 r h => I0 Tryz.func204 rfl Tryz.ntmps204 rfl fun w H => by
 unfold Z6a at h
 refine SR <| Cv rfl (Zm 4 rfl rfl (vt rfl)) fun g3 => Cv rfl (Zp 5 rfl rfl Z52) fun g4 => Ab rfl <| Nl <| sq <| AW.freezeB 3 4 rfl rfl rfl ?_
 obtain ⟨x5, hx5, h⟩ := Z8 h
 refine Rg <| Md rfl <| Ac (Z7v (cs := [.tmp 3]) (CAs := [rp (Z0 .i64) k2]) (fun x => Zis x k2) rfl rfl Y9p ⟨vt rfl, trivial⟩ (fun x y h => Y93 _ _ y h)) rfl <| Cl [8, 9] (Y0m _ _ _ hx5) Zxp rfl <| As rfl <| Nl <| sq <| SR <| Md rfl <| Ac (Zi rfl rfl (vt rfl) (vk rfl)) rfl <| Nl <| Cq rfl h (fun h => ?_) (fun h => ?_)
 ·refine SR <| Ac (opb (⟨0, 0, Z0j, Z0j, []⟩ : Inst) Z52 rfl Y45 (pn rfl)) rfl <| Zh Z3z 5 rfl <| Ab rfl <| Nl <| rt ?_
  cases h; exact Z1k Tryz.results204 rfl (Z01 rfl (i := 5) rfl Z3z) (Za rfl)
 ·refine sk <| sq ?_
  obtain ⟨x6, hx6, h⟩ := Z8 h
  refine Rg <| Md rfl <| Md rfl <| Ac (Z0w rfl rfl Zew (vt rfl) (vt rfl) hx6) rfl <| Lp1 Z3z rfl <| Cv rfl (Zp 8 rfl rfl Z52) fun g7 => Zh Z3z 8 rfl <| Nl <| sq ?_
  obtain ⟨x8, hx8, h⟩ := Z8 h
  refine Rg <| Zf lInst_4 Za5 rfl <| Ld Z3o 8 rfl <| Cl [19] (Zxu _ _ hx8) Zlt rfl <| Zf lInst_4 Za5 rfl <| Zh Z3o 8 rfl <| Nl <| SR <| Ld Z3z 8 rfl <| Zh Z3z 5 rfl <| Ab rfl <| Nl <| rt ?_
  cases h; exact Z1k Tryz.results204 rfl (Z01 rfl (i := 5) rfl Z3z) (Za rfl)
def Zfi (i1 : Int) (x2 : Zk) : Option Tern :=
 (chk 24 i1).bind fun j4 => (Z7b (Vector.get x2 j4)).bind fun x5 => some x5
theorem Ybm : Q2 Tryz.prog 306 (rd (Z0 .i64)) (rp (Z3 24 Z4)) (rd Z4) Zfi := fun i1 x2 r h => I0 Tryz.func306 rfl Tryz.ntmps306 rfl fun w H => by
 unfold Zfi at h
 refine SR <| Cv rfl (Zp 4 rfl rfl Z2b) fun g3 => Nl <| sq ?_
 obtain ⟨j4, hj4, x5, hx5, h⟩ := bs2 h
 refine Rg <| Md rfl <| Ac (Z7l rfl rfl Za4 (vt rfl) (vt rfl) hj4) rfl <| Lp1 Z03 rfl <| Cl [6] (Z9v _ _ hx5) Z92 rfl <| Zh Z03 4 rfl <| Nl <| rt ?_
 cases h; exact Zg Tryz.results306 rfl (Z01 rfl (i := 4) rfl Z03)
def Z9i (x1 : (Int → Option Tern)) : Nat → Nat → Zk → Option Zk
 | 0, i6, b5 => some b5
 | m7 + 1, i6, b5 => (x1 (i6 : Int)).bind fun x8 => (chk 24 (i6 : Int)).bind fun j9 => (Z9i x1 m7) (i6 + 1) (Vector.set b5 j9.1 x8 j9.2)
def Zhr (x1 : (Int → Option Tern)) : Option Zk :=
 Z9i x1 (24 : Int).toNat 0 (Vector.replicate 24 zTern)
theorem Zye : Q1 Tryz.prog 305 (fn1 Tryz.prog (Z0 .i64) Z4) (rd (Z3 24 Z4)) Zhr := fun x1 r h => I0 Tryz.func305 rfl Tryz.ntmps305 rfl fun w H => by
 unfold Zhr at h
 refine SR <| Cv rfl (Zp 3 rfl rfl Z77) fun g2 => Nl <| SR <| Cv rfl (Zp 4 rfl rfl Z77) fun g3 => Nl <| sq <| SR <| Mk rfl <| Nl <| bk <| LG (d := []) (ν := Nat × Nat × Zk) (fun (m7, i6, b5) => (Cnt 24 i6 m7 ∧ Z9i x1 m7 i6 b5 = some r, m7, [(0, fn1 Tryz.prog (Z0 .i64) Z4 x1), (2, Z7 g2 (Lens.id (Z3 24 Z4))), (3, Z7 g3 (Lens.id (Z3 24 Z4))), (5, rd (Z0 .i64) (i6 : Int))], [(3, Zc g2 101 (Z3 24 Z4) (Vector.replicate 24 zTern)), (4, Zc g3 101 (Z3 24 Z4) b5)])) ((24 : Int).toNat, 0, (Vector.replicate 24 zTern)) ⟨Cnt.start _, h⟩ (FX rfl) ?_
 rintro ⟨m7, i6, b5⟩ ⟨hsf1, h⟩
 dsimp only at hsf1 h ⊢
 cases m7 with
 | zero =>
  unfold Z9i at h
  refine SR <| Ac (Zi rfl rfl (vt rfl) (vk rfl)) rfl <| Nl <| sq <| Cn rfl (fun hc => absurd (of_decide_eq_true hc) hsf1.zero) (fun hc => ?_)
  refine xt <| SR <| Ld Z0f 4 rfl <| Zh Z0f 3 rfl <| Nl <| rt ?_
  cases h; exact Zg Tryz.results305 rfl (Z01 rfl (i := 3) rfl Z0f)
 | succ m7 =>
  unfold Z9i at h
  refine SR <| Ac (Zi rfl rfl (vt rfl) (vk rfl)) rfl <| Nl <| sq <| Cn rfl (fun hc => ?_) (fun hc => absurd hsf1.succ (of_decide_eq_false hc))
  have hlti6 := of_decide_eq_true hc
  refine sk <| sq <| bk <| SR <| Md rfl <| As rfl <| Nl ?_
  obtain ⟨x8, hx8, j9, hj9, h⟩ := bs2 h
  refine Rg <| Md rfl <| Ac (Zu (A := fn1 Tryz.prog (Z0 .i64) Z4 x1) rfl rfl (vt rfl)) rfl <| Md rfl <| Ac (Z8b hx8 rfl rfl (vt rfl) (vt rfl)) rfl <| Ac (Z2q rfl rfl Za4 (vt rfl) (vt rfl) hj9) rfl <| Zh Z03 4 rfl <| Nl <| Rg <| Ac (Z6r rfl rfl (vt rfl) (vk rfl) rfl hlti6) rfl <| Md rfl <| Nl ?_
  exact ⟨(_, _, _), Nat.lt_succ_self _, ⟨hsf1.next, h⟩, FX rfl⟩
def Zd1 (x1 : Zk) : Option Zk :=
 (Zhr (fun x => Zfi x x1)).bind fun x4 => some x4
theorem Zqw : Q1 Tryz.prog 268 (rd (Z3 24 Z4)) (rd (Z3 24 Z4)) Zd1 := fun x1 r h => I0 Tryz.func268 rfl Tryz.ntmps268 rfl fun w H => by
 unfold Zd1 at h
 refine SR <| Cv rfl (Zm 2 rfl rfl (vt rfl)) fun g2 => Cv rfl (Zp 3 rfl rfl Z77) fun g3 => Nl <| sq <| AW.freezeB 1 2 rfl rfl rfl ?_
 obtain ⟨x4, hx4, h⟩ := Z8 h
 refine Rg <| Ac (Z7v (cs := [.tmp 1]) (CAs := [rp (Z3 24 Z4) x1]) (fun x => Zfi x x1) rfl rfl Yb0 ⟨vt rfl, trivial⟩ (fun x y h => Ybm _ _ y h)) rfl <| Cl [3] (Zye _ _ hx4) Y0d rfl <| Zh Z0f 3 rfl <| Nl <| rt ?_
 cases h; exact Zg Tryz.results268 rfl (Z01 rfl (i := 3) rfl Z0f)
def Zjn (a1 : Tern) (b2 : Tern) : Option Tern :=
 (Z7b a1).bind fun x6 => (Z7b b2).bind fun x7 => (Z9f x6.Value x7.Mask).bind fun x8 => (Z8k x8 x7.Value).bind fun x9 => (Z8k x6.Mask x7.Mask).bind fun x10 => some (⟨x9, x10⟩ : Tern)
theorem Y5j : Q2 Tryz.prog 270 (rd Z4) (rd Z4) (rd Z4) Zjn := fun a1 b2 r h => I0 Tryz.func270 rfl Tryz.ntmps270 rfl fun w H => by
 unfold Zjn at h
 refine SR <| Cv rfl (Zm 3 rfl rfl (vt rfl)) fun g3 => Cv rfl (Zm 4 rfl rfl (vt rfl)) fun g4 => Cv rfl (Zp 5 rfl rfl Z2b) fun g5 => Nl <| sq ?_
 obtain ⟨x6, hx6, x7, hx7, h⟩ := bs2 h
 refine AR Zw (by kernel_rfl) <| Zl Z03 3 rfl <| SCl [5] (Z9v _ _ hx6) Z92 rfl <| Zl Z03 4 rfl <| SCl [7] (Z9v _ _ hx7) Z92 rfl <| SSt Z03 3 rfl <| SSt Z03 4 rfl <| Sn <| sq ?_
 obtain ⟨x8, hx8, x9, hx9, x10, hx10, h⟩ := bs3 h
 refine AR Zw (by kernel_rfl) <| Zv lTern_0 Z4l rfl <| Zl Z02 3 rfl <| Zv lTern_1 Z3t rfl <| Zl Z02 4 rfl <| SCl [10, 12] (Zfu _ _ _ hx8) Zg0 rfl <| Zv lTern_0 Z4l rfl <| Zl Z02 4 rfl <| SCl [13, 15] (Zdy _ _ _ hx9) Zdo rfl <| Zv lTern_1 Z3t rfl <| Zl Z02 3 rfl <| Zv lTern_1 Z3t rfl <| Zl Z02 4 rfl <| SCl [18, 20] (Zdy _ _ _ hx10) Zdo rfl <| Sd (lo [16, 21] [] rfl fun S hs hr => opb (⟨x9, x10⟩ : Tern) Z2b rfl Z8y (pc Zbr (vh hs 16 rfl rfl) <| pc Zav (vh hs 21 rfl rfl) <| pn rfl)) <| SSt Z03 5 rfl <| Sn <| rt ?_
 cases h; exact Zg Tryz.results270 rfl (Z01 rfl (i := 5) rfl Z03)
def Z6p (x1 : Zk) (x2 : Int) (x3 : Wide) (m4 : Wide) : Option Zk :=
 (Zd1 x1).bind fun x9 => (Z8c x2).bind fun x10 => (bif x10 then (chk 24 x2).bind fun j11 => (Zjn (Vector.get x9 j11) (⟨x3, m4⟩ : Tern)).bind fun x12 => (chk 24 x2).bind fun j13 => some (Vector.set x9 j13.1 x12 j13.2) else some x9)
theorem Zcu : Q4 Tryz.prog 207 (rd (Z3 24 Z4)) (rd (Z0 .i64)) (rd Zd) (rd Zd) (rd (Z3 24 Z4)) Z6p := fun x1 x2 x3 m4 r h => I0 Tryz.func207 rfl Tryz.ntmps207 rfl fun w H => by
 unfold Z6p at h
 refine SR <| Cv rfl (Zm 5 rfl rfl (vt rfl)) fun g5 => Cv rfl (Zm 7 rfl rfl (vt rfl)) fun g6 => Cv rfl (Zm 8 rfl rfl (vt rfl)) fun g7 => Cv rfl (Zp 9 rfl rfl Z77) fun g8 => Nl <| sq ?_
 obtain ⟨x9, hx9, h⟩ := Z8 h
 refine Rg <| Ld Z0f 5 rfl <| Cl [9] (Zqw _ _ hx9) Zqd rfl <| Zh Z0f 5 rfl <| Nl <| sq <| sq ?_
 obtain ⟨x10, hx10, h⟩ := Z8 h
 refine Rg <| Md rfl <| Cl [11] (Znt _ _ hx10) Zp9 rfl <| Nl <| Cq rfl h (fun h => ?_) (fun h => ?_)
 ·obtain ⟨j11, hj11, x12, hx12, j13, hj13, h⟩ := bs3 h
  refine AR Zw (by kernel_rfl) <| SMd rfl <| SMd rfl <| Sd (lo [4, 14] [] rfl fun S hs hr => Z2q rfl rfl Za4 (vh hs 4 rfl rfl) (vh hs 14 rfl rfl) hj11) <| Zl Z03 5 rfl <| Zl Z02 7 rfl <| Zl Z02 8 rfl <| Sd (lo [17, 18] [] rfl fun S hs hr => opb (⟨x3, m4⟩ : Tern) Z2b rfl Z8y (pc Zbr (vh hs 17 rfl rfl) <| pc Zav (vh hs 18 rfl rfl) <| pn rfl)) <| SCl [16, 19] (Y5j _ _ _ hx12) Y10 rfl <| Sd (lo [4, 13] [] rfl fun S hs hr => Z2q rfl rfl Za4 (vh hs 4 rfl rfl) (vh hs 13 rfl rfl) hj13) <| SSt Z03 5 rfl <| Sn <| SR <| Ld Z0f 5 rfl <| Zh Z0f 9 rfl <| Nl <| rt ?_
  cases h; exact Zg Tryz.results207 rfl (Z01 rfl (i := 9) rfl Z0f)
 ·refine sk <| SR <| Ld Z0f 5 rfl <| Zh Z0f 9 rfl <| Nl <| rt ?_
  cases h; exact Zg Tryz.results207 rfl (Z01 rfl (i := 9) rfl Z0f)
def Zbh (i1 : Int) : Option Wide :=
 (bif ((decide (i1 < 0)) || (decide (i1 > 127))) then some (⟨0, 0⟩ : Wide) else (Zgy .i64 i1 64).bind fun q4 => (Za1 i1 64).bind fun q5 => (Ze9 (1 : BitVec 64) q5).bind fun q6 => (chk 2 q4).bind fun j7 => some (⟨(Vector.get (Vector.set (Vector.replicate 2 0) j7.1 q6 j7.2) (⟨1, by decide⟩ : _root_.Fin 2)), (Vector.get (Vector.set (Vector.replicate 2 0) j7.1 q6 j7.2) (⟨0, by decide⟩ : _root_.Fin 2))⟩ : Wide))
theorem Zmf : Q1 Tryz.prog 327 (rd (Z0 .i64)) (rd Zd) Zbh := fun i1 r h => I0 Tryz.func327 rfl Tryz.ntmps327 rfl fun w H => by
 unfold Zbh at h
 refine SR <| Cv rfl (Zp 3 rfl rfl Z3q) fun g2 => Nl <| SR <| Cv rfl (Zp 4 rfl rfl Yf9) fun g3 => Nl <| sq <| SR <| Md rfl <| Ac (Zi rfl rfl (vt rfl) (vk rfl)) rfl <| Md rfl <| Gd rfl (fun hq => Zu (A := rd (Z0 .i64) i1) rfl rfl (vt rfl)) <| Gd rfl (fun hq => Z3e rfl rfl (Zs rfl hq) (vk rfl)) <| Ac (Z67 rfl rfl (vt rfl) (vt rfl)) rfl <| Nl <| Cq rfl h (fun h => ?_) (fun h => ?_)
 ·refine SR <| Ac (opb (⟨0, 0⟩ : Wide) Z3q rfl Z7h (pn rfl)) rfl <| Zh Z02 3 rfl <| Nl <| rt ?_
  cases h; exact Zg Tryz.results327 rfl (Z01 rfl (i := 3) rfl Z02)
 ·refine sk <| sq ?_
  obtain ⟨q4, hq4, q5, hq5, q6, hq6, j7, hj7, h⟩ := bs4 h
  refine Rg <| Md rfl <| Ac (Yfq rfl rfl (vt rfl) (vk rfl) hq4) rfl <| Md rfl <| Ac (Y0u rfl rfl (vt rfl) (vk rfl) hq5) rfl <| Ac (Zv8 rfl rfl (vku (1 : BitVec 64) rfl) (vt rfl) hq6) rfl <| Ac (Z2q rfl rfl Zsg (vt rfl) (vt rfl) hj7) rfl <| Zh Z2o 4 rfl <| Nl <| SR <| Ac (Z2q rfl rfl Zsg (vt rfl) (vk rfl) rfl) rfl <| Ld Z2o 4 rfl <| Ac (Z2q rfl rfl Zsg (vt rfl) (vk rfl) rfl) rfl <| Ld Z2o 4 rfl <| Ac (opb (⟨(Vector.get (Vector.set (Vector.replicate 2 0) j7.1 q6 j7.2) (⟨1, by decide⟩ : _root_.Fin 2)), (Vector.get (Vector.set (Vector.replicate 2 0) j7.1 q6 j7.2) (⟨0, by decide⟩ : _root_.Fin 2))⟩ : Wide) Z3q rfl Z7h (pc Zhj (vt rfl) <| pc Z9k (vt rfl) <| pn rfl)) rfl <| Zh Z02 3 rfl <| Nl <| rt ?_
  cases h; exact Zg Tryz.results327 rfl (Z01 rfl (i := 3) rfl Z02)
def Zht (a1 : Action) : Option Zk :=
 (Z94).bind fun x4 => (bif (decide (a1.Kind = 25)) then (Zgc a1.Oxm).bind fun x6 => (Z6p x4 a1.Oxm.Field x6.Value x6.Mask).bind fun x8 => some x8 else (bif (decide (a1.Kind = 17)) then (Zbh 12).bind fun x9 => (Zbh 12).bind fun x10 => (Z6p x4 5 x9 x10).bind fun x11 => some x11 else (bif (decide (a1.Kind = 18)) then (Z81 13).bind fun x12 => (Z6p x4 5 (⟨0, 0⟩ : Wide) x12).bind fun x13 => (Z81 3).bind fun x14 => (Z6p x13 6 (⟨0, 0⟩ : Wide) x14).bind fun x15 => some x15 else some x4)))
theorem Zwb : Q1 Tryz.prog 287 (rd Z9) (rd (Z3 24 Z4)) Zht := fun a1 r h => I0 Tryz.func287 rfl Tryz.ntmps287 rfl fun w H => by
 unfold Zht at h
 refine SR <| Cv rfl (Zm 2 rfl rfl (vt rfl)) fun g2 => Cv rfl (Zp 3 rfl rfl Z77) fun g3 => Nl <| sq ?_
 obtain ⟨x4, hx4, h⟩ := Z8 h
 refine Rg <| Cl [] (Zo5 _ hx4) e77 rfl <| Cv rfl (Zp 4 rfl rfl Z77) fun g5 => Zh Z0f 4 rfl <| Nl <| sq <| SR <| Zf lAction_0 Z8w rfl <| Ld Zo 2 rfl <| Nl <| bk <| SR <| Ac (Z21 rfl rfl (vt rfl) (vk rfl)) rfl <| As rfl <| Nl <| Cq rfl h (fun h => ?_) (fun h => ?_)
 ·refine sq ?_
  obtain ⟨x6, hx6, h⟩ := Z8 h
  refine Rg <| Zf Zm5 Zsa rfl <| Ld Zo8 2 rfl <| Cl [11] (Zwu _ _ hx6) Y1g rfl <| Cv rfl (Zp 5 rfl rfl Z2b) fun g7 => Zh Z03 5 rfl <| Nl ?_
  obtain ⟨x8, hx8, h⟩ := Z8 h
  refine Rg <| Ld Z0f 4 rfl <| Zf Zm5 Zsa rfl <| Zf Zeb Zf7 rfl <| Ld Zo 2 rfl <| Zf lTern_0 Z4l rfl <| Ld Z02 5 rfl <| Zf lTern_1 Z3t rfl <| Ld Z02 5 rfl <| Cl [13, 16, 18, 20] (Zcu _ _ _ _ _ hx8) Zdj rfl <| Zh Z0f 4 rfl <| Nl <| SR <| Ld Z0f 4 rfl <| Zh Z0f 3 rfl <| Nl <| rt ?_
  cases h; exact Zg Tryz.results287 rfl (Z01 rfl (i := 3) rfl Z0f)
 ·refine SR <| Ac (Z21 rfl rfl (vt rfl) (vk rfl)) rfl <| As rfl <| Nl <| Cq rfl h (fun h => ?_) (fun h => ?_)
  ·obtain ⟨x9, hx9, x10, hx10, x11, hx11, h⟩ := bs3 h
   refine AR Zw (by kernel_rfl) <| Zl Z0f 4 rfl <| Sd (lo [] [] rfl fun S hs hr => Z13 (xs := [.const (Value.int IntKind.i64 12)]) (Zmf _ _ hx9) Znb rfl rfl ⟨vk rfl, trivial⟩) <| Sd (lo [] [] rfl fun S hs hr => Z13 (xs := [.const (Value.int IntKind.i64 12)]) (Zmf _ _ hx10) Znb rfl rfl ⟨vk rfl, trivial⟩) <| Sd (lo [24, 25, 26] [] rfl fun S hs hr => Z13 (xs := [.tmp 24, .const (Value.int IntKind.i64 5), .tmp 25, .tmp 26]) (Zcu _ _ _ _ _ hx11) Zdj rfl rfl ⟨vt ((hs 24 rfl).trans rfl), vk rfl, vt ((hs 25 rfl).trans rfl), vt ((hs 26 rfl).trans rfl), trivial⟩) <| SSt Z0f 4 rfl <| Sn <| SR <| Ld Z0f 4 rfl <| Zh Z0f 3 rfl <| Nl <| rt ?_
   cases h; exact Zg Tryz.results287 rfl (Z01 rfl (i := 3) rfl Z0f)
  ·refine SR <| Ac (Z21 rfl rfl (vt rfl) (vk rfl)) rfl <| As rfl <| Nl <| Cq rfl h (fun h => ?_) (fun h => ?_)
   ·refine sq ?_
    obtain ⟨x12, hx12, x13, hx13, h⟩ := bs2 h
    refine AR Zw (by kernel_rfl) <| Zl Z0f 4 rfl <| Sd (lo [] [] rfl fun S hs hr => opb (⟨0, 0⟩ : Wide) Z3q rfl Z7h (pn rfl)) <| Sd (lo [] [] rfl fun S hs hr => Z13 (xs := [.const (Value.int IntKind.i64 13)]) (Znq _ _ hx12) Zou rfl rfl ⟨vk rfl, trivial⟩) <| Sd (lo [30, 31, 32] [] rfl fun S hs hr => Z13 (xs := [.tmp 30, .const (Value.int IntKind.i64 5), .tmp 31, .tmp 32]) (Zcu _ _ _ _ _ hx13) Zdj rfl rfl ⟨vt ((hs 30 rfl).trans rfl), vk rfl, vt ((hs 31 rfl).trans rfl), vt ((hs 32 rfl).trans rfl), trivial⟩) <| SSt Z0f 4 rfl <| Sn ?_
    obtain ⟨x14, hx14, x15, hx15, h⟩ := bs2 h
    refine AR Zw (by kernel_rfl) <| Zl Z0f 4 rfl <| Sd (lo [] [] rfl fun S hs hr => opb (⟨0, 0⟩ : Wide) Z3q rfl Z7h (pn rfl)) <| Sd (lo [] [] rfl fun S hs hr => Z13 (xs := [.const (Value.int IntKind.i64 3)]) (Znq _ _ hx14) Zou rfl rfl ⟨vk rfl, trivial⟩) <| Sd (lo [34, 35, 36] [] rfl fun S hs hr => Z13 (xs := [.tmp 34, .const (Value.int IntKind.i64 6), .tmp 35, .tmp 36]) (Zcu _ _ _ _ _ hx15) Zdj rfl rfl ⟨vt ((hs 34 rfl).trans rfl), vk rfl, vt ((hs 35 rfl).trans rfl), vt ((hs 36 rfl).trans rfl), trivial⟩) <| SSt Z0f 4 rfl <| Sn <| SR <| Ld Z0f 4 rfl <| Zh Z0f 3 rfl <| Nl <| rt ?_
    cases h; exact Zg Tryz.results287 rfl (Z01 rfl (i := 3) rfl Z0f)
   ·refine sk <| SR <| Ld Z0f 4 rfl <| Zh Z0f 3 rfl <| Nl <| rt ?_
    cases h; exact Zg Tryz.results287 rfl (Z01 rfl (i := 3) rfl Z0f)
end Go.Proofs.YtknpgojdkobgjaaGreat.W
