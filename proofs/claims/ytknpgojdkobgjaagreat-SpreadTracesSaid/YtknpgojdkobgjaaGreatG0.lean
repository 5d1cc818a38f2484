/- A part of the proof. -/
import Derived.Test.YtknpgojdkobgjaaGreatL1
import Derived.Test.YtknpgojdkobgjaaGreatProg
import Derived.KernelRfl
set_option linter.unusedVariables false
set_option maxRecDepth 4000
set_option linter.unusedSimpArgs false
namespace Go.Proofs.YtknpgojdkobgjaaGreat.W
open Go Go.Wb
structure Wide where
 Hi : (BitVec 64)
 Lo : (BitVec 64)
 deriving DecidableEq, Inhabited
def Zd : Kd Wide := Z0w (Z2 Z0p Z0p) (fun x => (x.Hi, x.Lo))
instance : PureK Zd := inferInstanceAs (PureK (Z0w (Z2 Z0p Z0p) (fun (x : Wide) => (x.Hi, x.Lo))))
def lWide_0 : Lens Zd Z0p := Lens.iso (k := (Z2 Z0p Z0p)) (Lens.fst _ _) Wide.Hi (fun x y => { x with Hi := y }) (fun _ => rfl) (fun _ _ => rfl)
def lWide_1 : Lens Zd Z0p := Lens.iso (k := (Z2 Z0p Z0p)) (Lens.snd _ _) Wide.Lo (fun x y => { x with Lo := y }) (fun _ => rfl) (fun _ _ => rfl)
def Z0j : Wide := ⟨0, 0⟩
def Z83 : List Value := ([.int .u64 0] ++ [.int .u64 0])
theorem Z6u : KZ Zd Z0j Z83 := Z22 (Z04 Zn4 Zn4)
structure Tern where
 Value : Wide
 Mask : Wide
 deriving DecidableEq, Inhabited
def Z4 : Kd Tern := Z0w (Z2 Zd Zd) (fun x => (x.Value, x.Mask))
instance : PureK Z4 := inferInstanceAs (PureK (Z0w (Z2 Zd Zd) (fun (x : Tern) => (x.Value, x.Mask))))
def lTern_0 : Lens Z4 Zd := Lens.iso (k := (Z2 Zd Zd)) (Lens.fst _ _) Tern.Value (fun x y => { x with Value := y }) (fun _ => rfl) (fun _ _ => rfl)
def lTern_1 : Lens Z4 Zd := Lens.iso (k := (Z2 Zd Zd)) (Lens.snd _ _) Tern.Mask (fun x y => { x with Mask := y }) (fun _ => rfl) (fun _ _ => rfl)
def zTern : Tern := ⟨Z0j, Z0j⟩
def Z93 : List Value := (Z83 ++ Z83)
theorem Z79 : KZ Z4 zTern Z93 := Z22 (Z04 Z6u Z6u)
abbrev Zl := Vector Tern 24
abbrev Z09 := Vector Wide 24
structure Ray where
 At : Int
 Port : Int
 Max : Int
 Left : Bool
 Cube : Zl
 Rewrite : Zl
 deriving DecidableEq, Inhabited
def Z0y : Kd Ray := Z0w (Z2 (Z0 .i64) (Z2 (Z0 .i64) (Z2 (Z0 .i64) (Z2 Z5 (Z2 (Z3 24 Z4) (Z3 24 Z4)))))) (fun x => (x.At, (x.Port, (x.Max, (x.Left, (x.Cube, x.Rewrite))))))
instance : PureK Z0y := inferInstanceAs (PureK (Z0w (Z2 (Z0 .i64) (Z2 (Z0 .i64) (Z2 (Z0 .i64) (Z2 Z5 (Z2 (Z3 24 Z4) (Z3 24 Z4)))))) (fun (x : Ray) => (x.At, (x.Port, (x.Max, (x.Left, (x.Cube, x.Rewrite))))))))
def lRay_0 : Lens Z0y (Z0 .i64) := Lens.iso (k := (Z2 (Z0 .i64) (Z2 (Z0 .i64) (Z2 (Z0 .i64) (Z2 Z5 (Z2 (Z3 24 Z4) (Z3 24 Z4))))))) (Lens.fst _ _) Ray.At (fun x y => { x with At := y }) (fun _ => rfl) (fun _ _ => rfl)
def lRay_1 : Lens Z0y (Z0 .i64) := Lens.iso (k := (Z2 (Z0 .i64) (Z2 (Z0 .i64) (Z2 (Z0 .i64) (Z2 Z5 (Z2 (Z3 24 Z4) (Z3 24 Z4))))))) (Lens.comp (Lens.snd _ _) (Lens.fst _ _)) Ray.Port (fun x y => { x with Port := y }) (fun _ => rfl) (fun _ _ => rfl)
def lRay_2 : Lens Z0y (Z0 .i64) := Lens.iso (k := (Z2 (Z0 .i64) (Z2 (Z0 .i64) (Z2 (Z0 .i64) (Z2 Z5 (Z2 (Z3 24 Z4) (Z3 24 Z4))))))) (Lens.comp (Lens.comp (Lens.snd _ _) (Lens.snd _ _)) (Lens.fst _ _)) Ray.Max (fun x y => { x with Max := y }) (fun _ => rfl) (fun _ _ => rfl)
def lRay_3 : Lens Z0y Z5 := Lens.iso (k := (Z2 (Z0 .i64) (Z2 (Z0 .i64) (Z2 (Z0 .i64) (Z2 Z5 (Z2 (Z3 24 Z4) (Z3 24 Z4))))))) (Lens.comp (Lens.comp (Lens.comp (Lens.snd _ _) (Lens.snd _ _)) (Lens.snd _ _)) (Lens.fst _ _)) Ray.Left (fun x y => { x with Left := y }) (fun _ => rfl) (fun _ _ => rfl)
def lRay_4 : Lens Z0y (Z3 24 Z4) := Lens.iso (k := (Z2 (Z0 .i64) (Z2 (Z0 .i64) (Z2 (Z0 .i64) (Z2 Z5 (Z2 (Z3 24 Z4) (Z3 24 Z4))))))) (Lens.comp (Lens.comp (Lens.comp (Lens.comp (Lens.snd _ _) (Lens.snd _ _)) (Lens.snd _ _)) (Lens.snd _ _)) (Lens.fst _ _)) Ray.Cube (fun x y => { x with Cube := y }) (fun _ => rfl) (fun _ _ => rfl)
def lRay_5 : Lens Z0y (Z3 24 Z4) := Lens.iso (k := (Z2 (Z0 .i64) (Z2 (Z0 .i64) (Z2 (Z0 .i64) (Z2 Z5 (Z2 (Z3 24 Z4) (Z3 24 Z4))))))) (Lens.comp (Lens.comp (Lens.comp (Lens.comp (Lens.snd _ _) (Lens.snd _ _)) (Lens.snd _ _)) (Lens.snd _ _)) (Lens.snd _ _)) Ray.Rewrite (fun x y => { x with Rewrite := y }) (fun _ => rfl) (fun _ _ => rfl)
def Y2c : Ray := ⟨0, 0, 0, false, (Vector.replicate 24 zTern), (Vector.replicate 24 zTern)⟩
def Y8k : List Value := ([.int .i64 0] ++ ([.int .i64 0] ++ ([.int .i64 0] ++ ([.bool false] ++ ((List.replicate 24 Z93).flatten ++ (List.replicate 24 Z93).flatten)))))
theorem Ydx : KZ Z0y Y2c Y8k := Z22 (Z04 Z1c (Z04 Z1c (Z04 Z1c (Z04 Zdm (Z04 (Z47 24 Z79) (Z47 24 Z79))))))
structure End where
 At : Int
 Port : Int
 Max : Int
 Left : Bool
 Header : Z09
 deriving DecidableEq, Inhabited
def Z1d : Kd End := Z0w (Z2 (Z0 .i64) (Z2 (Z0 .i64) (Z2 (Z0 .i64) (Z2 Z5 (Z3 24 Zd))))) (fun x => (x.At, (x.Port, (x.Max, (x.Left, x.Header)))))
instance : PureK Z1d := inferInstanceAs (PureK (Z0w (Z2 (Z0 .i64) (Z2 (Z0 .i64) (Z2 (Z0 .i64) (Z2 Z5 (Z3 24 Zd))))) (fun (x : End) => (x.At, (x.Port, (x.Max, (x.Left, x.Header)))))))
def lEnd_0 : Lens Z1d (Z0 .i64) := Lens.iso (k := (Z2 (Z0 .i64) (Z2 (Z0 .i64) (Z2 (Z0 .i64) (Z2 Z5 (Z3 24 Zd)))))) (Lens.fst _ _) End.At (fun x y => { x with At := y }) (fun _ => rfl) (fun _ _ => rfl)
def lEnd_1 : Lens Z1d (Z0 .i64) := Lens.iso (k := (Z2 (Z0 .i64) (Z2 (Z0 .i64) (Z2 (Z0 .i64) (Z2 Z5 (Z3 24 Zd)))))) (Lens.comp (Lens.snd _ _) (Lens.fst _ _)) End.Port (fun x y => { x with Port := y }) (fun _ => rfl) (fun _ _ => rfl)
def lEnd_2 : Lens Z1d (Z0 .i64) := Lens.iso (k := (Z2 (Z0 .i64) (Z2 (Z0 .i64) (Z2 (Z0 .i64) (Z2 Z5 (Z3 24 Zd)))))) (Lens.comp (Lens.comp (Lens.snd _ _) (Lens.snd _ _)) (Lens.fst _ _)) End.Max (fun x y => { x with Max := y }) (fun _ => rfl) (fun _ _ => rfl)
def lEnd_3 : Lens Z1d Z5 := Lens.iso (k := (Z2 (Z0 .i64) (Z2 (Z0 .i64) (Z2 (Z0 .i64) (Z2 Z5 (Z3 24 Zd)))))) (Lens.comp (Lens.comp (Lens.comp (Lens.snd _ _) (Lens.snd _ _)) (Lens.snd _ _)) (Lens.fst _ _)) End.Left (fun x y => { x with Left := y }) (fun _ => rfl) (fun _ _ => rfl)
def lEnd_4 : Lens Z1d (Z3 24 Zd) := Lens.iso (k := (Z2 (Z0 .i64) (Z2 (Z0 .i64) (Z2 (Z0 .i64) (Z2 Z5 (Z3 24 Zd)))))) (Lens.comp (Lens.comp (Lens.comp (Lens.snd _ _) (Lens.snd _ _)) (Lens.snd _ _)) (Lens.snd _ _)) End.Header (fun x y => { x with Header := y }) (fun _ => rfl) (fun _ _ => rfl)
def Y0w : End := ⟨0, 0, 0, false, (Vector.replicate 24 Z0j)⟩
def Yki : List Value := ([.int .i64 0] ++ ([.int .i64 0] ++ ([.int .i64 0] ++ ([.bool false] ++ (List.replicate 24 Z83).flatten))))
theorem Yeb : KZ Z1d Y0w Yki := Z22 (Z04 Z1c (Z04 Z1c (Z04 Z1c (Z04 Zdm (Z47 24 Z6u)))))
structure Oxm where
 Field : Int
 Masked : Bool
 Value : Wide
 Mask : Wide
 deriving DecidableEq, Inhabited
def Z2e : Kd Oxm := Z0w (Z2 (Z0 .i64) (Z2 Z5 (Z2 Zd Zd))) (fun x => (x.Field, (x.Masked, (x.Value, x.Mask))))
instance : PureK Z2e := inferInstanceAs (PureK (Z0w (Z2 (Z0 .i64) (Z2 Z5 (Z2 Zd Zd))) (fun (x : Oxm) => (x.Field, (x.Masked, (x.Value, x.Mask))))))
def Zce : Lens Z2e (Z0 .i64) := Lens.iso (k := (Z2 (Z0 .i64) (Z2 Z5 (Z2 Zd Zd)))) (Lens.fst _ _) Oxm.Field (fun x y => { x with Field := y }) (fun _ => rfl) (fun _ _ => rfl)
def Zwj : Lens Z2e Z5 := Lens.iso (k := (Z2 (Z0 .i64) (Z2 Z5 (Z2 Zd Zd)))) (Lens.comp (Lens.snd _ _) (Lens.fst _ _)) Oxm.Masked (fun x y => { x with Masked := y }) (fun _ => rfl) (fun _ _ => rfl)
def Zrf : Lens Z2e Zd := Lens.iso (k := (Z2 (Z0 .i64) (Z2 Z5 (Z2 Zd Zd)))) (Lens.comp (Lens.comp (Lens.snd _ _) (Lens.snd _ _)) (Lens.fst _ _)) Oxm.Value (fun x y => { x with Value := y }) (fun _ => rfl) (fun _ _ => rfl)
def Zvs : Lens Z2e Zd := Lens.iso (k := (Z2 (Z0 .i64) (Z2 Z5 (Z2 Zd Zd)))) (Lens.comp (Lens.comp (Lens.snd _ _) (Lens.snd _ _)) (Lens.snd _ _)) Oxm.Mask (fun x y => { x with Mask := y }) (fun _ => rfl) (fun _ _ => rfl)
def Zcl : Oxm := ⟨0, false, Z0j, Z0j⟩
def Zvv : List Value := ([.int .i64 0] ++ ([.bool false] ++ (Z83 ++ Z83)))
theorem Y4p : KZ Z2e Zcl Zvv := Z22 (Z04 Z1c (Z04 Zdm (Z04 Z6u Z6u)))
structure Action where
 Kind : Int
 Port : Int
 Max : Int
 Group : Int
 Ether : Int
 Oxm : Oxm
 deriving DecidableEq, Inhabited
def Z9 : Kd Action := Z0w (Z2 (Z0 .i64) (Z2 (Z0 .i64) (Z2 (Z0 .i64) (Z2 (Z0 .i64) (Z2 (Z0 .i64) Z2e))))) (fun x => (x.Kind, (x.Port, (x.Max, (x.Group, (x.Ether, x.Oxm))))))
instance : PureK Z9 := inferInstanceAs (PureK (Z0w (Z2 (Z0 .i64) (Z2 (Z0 .i64) (Z2 (Z0 .i64) (Z2 (Z0 .i64) (Z2 (Z0 .i64) Z2e))))) (fun (x : Action) => (x.Kind, (x.Port, (x.Max, (x.Group, (x.Ether, x.Oxm))))))))
def lAction_0 : Lens Z9 (Z0 .i64) := Lens.iso (k := (Z2 (Z0 .i64) (Z2 (Z0 .i64) (Z2 (Z0 .i64) (Z2 (Z0 .i64) (Z2 (Z0 .i64) Z2e)))))) (Lens.fst _ _) Action.Kind (fun x y => { x with Kind := y }) (fun _ => rfl) (fun _ _ => rfl)
def lAction_1 : Lens Z9 (Z0 .i64) := Lens.iso (k := (Z2 (Z0 .i64) (Z2 (Z0 .i64) (Z2 (Z0 .i64) (Z2 (Z0 .i64) (Z2 (Z0 .i64) Z2e)))))) (Lens.comp (Lens.snd _ _) (Lens.fst _ _)) Action.Port (fun x y => { x with Port := y }) (fun _ => rfl) (fun _ _ => rfl)
def Zri : Lens Z9 (Z0 .i64) := Lens.iso (k := (Z2 (Z0 .i64) (Z2 (Z0 .i64) (Z2 (Z0 .i64) (Z2 (Z0 .i64) (Z2 (Z0 .i64) Z2e)))))) (Lens.comp (Lens.comp (Lens.snd _ _) (Lens.snd _ _)) (Lens.fst _ _)) Action.Max (fun x y => { x with Max := y }) (fun _ => rfl) (fun _ _ => rfl)
def Zlw : Lens Z9 (Z0 .i64) := Lens.iso (k := (Z2 (Z0 .i64) (Z2 (Z0 .i64) (Z2 (Z0 .i64) (Z2 (Z0 .i64) (Z2 (Z0 .i64) Z2e)))))) (Lens.comp (Lens.comp (Lens.comp (Lens.snd _ _) (Lens.snd _ _)) (Lens.snd _ _)) (Lens.fst _ _)) Action.Group (fun x y => { x with Group := y }) (fun _ => rfl) (fun _ _ => rfl)
def Zml : Lens Z9 Z2e := Lens.iso (k := (Z2 (Z0 .i64) (Z2 (Z0 .i64) (Z2 (Z0 .i64) (Z2 (Z0 .i64) (Z2 (Z0 .i64) Z2e)))))) (Lens.comp (Lens.comp (Lens.comp (Lens.comp (Lens.snd _ _) (Lens.snd _ _)) (Lens.snd _ _)) (Lens.snd _ _)) (Lens.snd _ _)) Action.Oxm (fun x y => { x with Oxm := y }) (fun _ => rfl) (fun _ _ => rfl)
def Zn7 : Action := ⟨0, 0, 0, 0, 0, Zcl⟩
def Y69 : List Value := ([.int .i64 0] ++ ([.int .i64 0] ++ ([.int .i64 0] ++ ([.int .i64 0] ++ ([.int .i64 0] ++ Zvv)))))
theorem Y76 : KZ Z9 Zn7 Y69 := Z22 (Z04 Z1c (Z04 Z1c (Z04 Z1c (Z04 Z1c (Z04 Z1c Y4p)))))
structure Inst where
 Kind : Int
 Table : Int
 Value : Wide
 Mask : Wide
 Acts : (List Action)
 deriving DecidableEq, Inhabited
def Z1e : Kd Inst := Z0w (Z2 (Z0 .i64) (Z2 (Z0 .i64) (Z2 Zd (Z2 Zd (Z1 Z9))))) (fun x => (x.Kind, (x.Table, (x.Value, (x.Mask, x.Acts)))))
def lInst_0 : Lens Z1e (Z0 .i64) := Lens.iso (k := (Z2 (Z0 .i64) (Z2 (Z0 .i64) (Z2 Zd (Z2 Zd (Z1 Z9)))))) (Lens.fst _ _) Inst.Kind (fun x y => { x with Kind := y }) (fun _ => rfl) (fun _ _ => rfl)
def Zep : Lens Z1e (Z0 .i64) := Lens.iso (k := (Z2 (Z0 .i64) (Z2 (Z0 .i64) (Z2 Zd (Z2 Zd (Z1 Z9)))))) (Lens.comp (Lens.snd _ _) (Lens.fst _ _)) Inst.Table (fun x y => { x with Table := y }) (fun _ => rfl) (fun _ _ => rfl)
def Ztl : Lens Z1e Zd := Lens.iso (k := (Z2 (Z0 .i64) (Z2 (Z0 .i64) (Z2 Zd (Z2 Zd (Z1 Z9)))))) (Lens.comp (Lens.comp (Lens.snd _ _) (Lens.snd _ _)) (Lens.fst _ _)) Inst.Value (fun x y => { x with Value := y }) (fun _ => rfl) (fun _ _ => rfl)
def Zu4 : Lens Z1e Zd := Lens.iso (k := (Z2 (Z0 .i64) (Z2 (Z0 .i64) (Z2 Zd (Z2 Zd (Z1 Z9)))))) (Lens.comp (Lens.comp (Lens.comp (Lens.snd _ _) (Lens.snd _ _)) (Lens.snd _ _)) (Lens.fst _ _)) Inst.Mask (fun x y => { x with Mask := y }) (fun _ => rfl) (fun _ _ => rfl)
def lInst_4 : Lens Z1e (Z1 Z9) := Lens.iso (k := (Z2 (Z0 .i64) (Z2 (Z0 .i64) (Z2 Zd (Z2 Zd (Z1 Z9)))))) (Lens.comp (Lens.comp (Lens.comp (Lens.snd _ _) (Lens.snd _ _)) (Lens.snd _ _)) (Lens.snd _ _)) Inst.Acts (fun x y => { x with Acts := y }) (fun _ => rfl) (fun _ _ => rfl)
def Y4t : Inst := ⟨0, 0, Z0j, Z0j, []⟩
def Y72 : List Value := ([.int .i64 0] ++ ([.int .i64 0] ++ (Z83 ++ (Z83 ++ [.slice none 0 0]))))
theorem Ybe : KZ Z1e Y4t Y72 := Z22 (Z04 Z1c (Z04 Z1c (Z04 Z6u (Z04 Z6u (Z3v _)))))
structure Flow where
 Cookie : (BitVec 64)
 Priority : Int
 Idle : Int
 Hard : Int
 Flags : Int
 Match : (List Oxm)
 Insts : (List Inst)
 deriving DecidableEq, Inhabited
def Z16 : Kd Flow := Z0w (Z2 Z0p (Z2 (Z0 .i64) (Z2 (Z0 .i64) (Z2 (Z0 .i64) (Z2 (Z0 .i64) (Z2 (Z1 Z2e) (Z1 Z1e))))))) (fun x => (x.Cookie, (x.Priority, (x.Idle, (x.Hard, (x.Flags, (x.Match, x.Insts)))))))
def Zk0 : Lens Z16 (Z0 .i64) := Lens.iso (k := (Z2 Z0p (Z2 (Z0 .i64) (Z2 (Z0 .i64) (Z2 (Z0 .i64) (Z2 (Z0 .i64) (Z2 (Z1 Z2e) (Z1 Z1e)))))))) (Lens.comp (Lens.snd _ _) (Lens.fst _ _)) Flow.Priority (fun x y => { x with Priority := y }) (fun _ => rfl) (fun _ _ => rfl)
def Zrv : Lens Z16 (Z1 Z2e) := Lens.iso (k := (Z2 Z0p (Z2 (Z0 .i64) (Z2 (Z0 .i64) (Z2 (Z0 .i64) (Z2 (Z0 .i64) (Z2 (Z1 Z2e) (Z1 Z1e)))))))) (Lens.comp (Lens.comp (Lens.comp (Lens.comp (Lens.comp (Lens.snd _ _) (Lens.snd _ _)) (Lens.snd _ _)) (Lens.snd _ _)) (Lens.snd _ _)) (Lens.fst _ _)) Flow.Match (fun x y => { x with Match := y }) (fun _ => rfl) (fun _ _ => rfl)
def lFlow_6 : Lens Z16 (Z1 Z1e) := Lens.iso (k := (Z2 Z0p (Z2 (Z0 .i64) (Z2 (Z0 .i64) (Z2 (Z0 .i64) (Z2 (Z0 .i64) (Z2 (Z1 Z2e) (Z1 Z1e)))))))) (Lens.comp (Lens.comp (Lens.comp (Lens.comp (Lens.comp (Lens.snd _ _) (Lens.snd _ _)) (Lens.snd _ _)) (Lens.snd _ _)) (Lens.snd _ _)) (Lens.snd _ _)) Flow.Insts (fun x y => { x with Insts := y }) (fun _ => rfl) (fun _ _ => rfl)
def Zvn : Flow := ⟨0, 0, 0, 0, 0, [], []⟩
def Yde : List Value := ([.int .u64 0] ++ ([.int .i64 0] ++ ([.int .i64 0] ++ ([.int .i64 0] ++ ([.int .i64 0] ++ ([.slice none 0 0] ++ [.slice none 0 0]))))))
theorem Yc3 : KZ Z16 Zvn Yde := Z22 (Z04 Zn4 (Z04 Z1c (Z04 Z1c (Z04 Z1c (Z04 Z1c (Z04 (Z3v _) (Z3v _)))))))
abbrev Yeu := Vector (List Flow) 4
structure Bucket where
 Weight : Int
 Watch : Int
 WatchGroup : Int
 Acts : (List Action)
 deriving DecidableEq, Inhabited
def Z1y : Kd Bucket := Z0w (Z2 (Z0 .i64) (Z2 (Z0 .i64) (Z2 (Z0 .i64) (Z1 Z9)))) (fun x => (x.Weight, (x.Watch, (x.WatchGroup, x.Acts))))
def Y35 : Lens Z1y (Z0 .i64) := Lens.iso (k := (Z2 (Z0 .i64) (Z2 (Z0 .i64) (Z2 (Z0 .i64) (Z1 Z9))))) (Lens.comp (Lens.snd _ _) (Lens.fst _ _)) Bucket.Watch (fun x y => { x with Watch := y }) (fun _ => rfl) (fun _ _ => rfl)
def Zd2 : Lens Z1y (Z1 Z9) := Lens.iso (k := (Z2 (Z0 .i64) (Z2 (Z0 .i64) (Z2 (Z0 .i64) (Z1 Z9))))) (Lens.comp (Lens.comp (Lens.snd _ _) (Lens.snd _ _)) (Lens.snd _ _)) Bucket.Acts (fun x y => { x with Acts := y }) (fun _ => rfl) (fun _ _ => rfl)
def Zw5 : Bucket := ⟨0, 0, 0, []⟩
def Yb3 : List Value := ([.int .i64 0] ++ ([.int .i64 0] ++ ([.int .i64 0] ++ [.slice none 0 0])))
theorem Y8s : KZ Z1y Zw5 Yb3 := Z22 (Z04 Z1c (Z04 Z1c (Z04 Z1c (Z3v _))))
structure Group where
 ID : Int
 Kind : Int
 Buckets : (List Bucket)
 deriving DecidableEq, Inhabited
def Zz : Kd Group := Z0w (Z2 (Z0 .i64) (Z2 (Z0 .i64) (Z1 Z1y))) (fun x => (x.ID, (x.Kind, x.Buckets)))
def Zns : Lens Zz (Z0 .i64) := Lens.iso (k := (Z2 (Z0 .i64) (Z2 (Z0 .i64) (Z1 Z1y)))) (Lens.fst _ _) Group.ID (fun x y => { x with ID := y }) (fun _ => rfl) (fun _ _ => rfl)
def Y3e : Lens Zz (Z0 .i64) := Lens.iso (k := (Z2 (Z0 .i64) (Z2 (Z0 .i64) (Z1 Z1y)))) (Lens.comp (Lens.snd _ _) (Lens.fst _ _)) Group.Kind (fun x y => { x with Kind := y }) (fun _ => rfl) (fun _ _ => rfl)
def Z80 : Lens Zz (Z1 Z1y) := Lens.iso (k := (Z2 (Z0 .i64) (Z2 (Z0 .i64) (Z1 Z1y)))) (Lens.comp (Lens.snd _ _) (Lens.snd _ _)) Group.Buckets (fun x y => { x with Buckets := y }) (fun _ => rfl) (fun _ _ => rfl)
def Zpr : Group := ⟨0, 0, []⟩
def Y1a : List Value := ([.int .i64 0] ++ ([.int .i64 0] ++ [.slice none 0 0]))
theorem Zxi : KZ Zz Zpr Y1a := Z22 (Z04 Z1c (Z04 Z1c (Z3v _)))
structure Switch where
 Tables : Yeu
 Groups : (List Group)
 deriving DecidableEq, Inhabited
def Z0d : Kd Switch := Z0w (Z2 (Z3 4 (Z1 Z16)) (Z1 Zz)) (fun x => (x.Tables, x.Groups))
def Zbd : Lens Z0d (Z3 4 (Z1 Z16)) := Lens.iso (k := (Z2 (Z3 4 (Z1 Z16)) (Z1 Zz))) (Lens.fst _ _) Switch.Tables (fun x y => { x with Tables := y }) (fun _ => rfl) (fun _ _ => rfl)
def Zim : Lens Z0d (Z1 Zz) := Lens.iso (k := (Z2 (Z3 4 (Z1 Z16)) (Z1 Zz))) (Lens.snd _ _) Switch.Groups (fun x y => { x with Groups := y }) (fun _ => rfl) (fun _ _ => rfl)
def Zmn : Switch := ⟨(Vector.replicate 4 []), []⟩
def Zz8 : List Value := ((List.replicate 4 [.slice none 0 0]).flatten ++ [.slice none 0 0])
theorem Ztg : KZ Z0d Zmn Zz8 := Z22 (Z04 (Z47 4 (Z3v _)) (Z3v _))
structure field_row where
 name : ByteArray
 id : Int
 bits : Int
 masks : Bool
 deriving DecidableEq, Inhabited
def Z1w : Kd field_row := Z0w (Z2 Z8v (Z2 (Z0 .i64) (Z2 (Z0 .i64) Z5))) (fun x => (x.name, (x.id, (x.bits, x.masks))))
instance : PureK Z1w := inferInstanceAs (PureK (Z0w (Z2 Z8v (Z2 (Z0 .i64) (Z2 (Z0 .i64) Z5))) (fun (x : field_row) => (x.name, (x.id, (x.bits, x.masks))))))
def Z32 : Lens Z1w Z8v := Lens.iso (k := (Z2 Z8v (Z2 (Z0 .i64) (Z2 (Z0 .i64) Z5)))) (Lens.fst _ _) field_row.name (fun x y => { x with name := y }) (fun _ => rfl) (fun _ _ => rfl)
def lfield_row_1 : Lens Z1w (Z0 .i64) := Lens.iso (k := (Z2 Z8v (Z2 (Z0 .i64) (Z2 (Z0 .i64) Z5)))) (Lens.comp (Lens.snd _ _) (Lens.fst _ _)) field_row.id (fun x y => { x with id := y }) (fun _ => rfl) (fun _ _ => rfl)
def Z2l : Lens Z1w (Z0 .i64) := Lens.iso (k := (Z2 Z8v (Z2 (Z0 .i64) (Z2 (Z0 .i64) Z5)))) (Lens.comp (Lens.comp (Lens.snd _ _) (Lens.snd _ _)) (Lens.fst _ _)) field_row.bits (fun x y => { x with bits := y }) (fun _ => rfl) (fun _ _ => rfl)
def Z33 : Lens Z1w Z5 := Lens.iso (k := (Z2 Z8v (Z2 (Z0 .i64) (Z2 (Z0 .i64) Z5)))) (Lens.comp (Lens.comp (Lens.snd _ _) (Lens.snd _ _)) (Lens.snd _ _)) field_row.masks (fun x y => { x with masks := y }) (fun _ => rfl) (fun _ _ => rfl)
def Zli : field_row := ⟨(⟨#[]⟩ : ByteArray), 0, 0, false⟩
def Ych : List Value := ([.string ⟨#[]⟩] ++ ([.int .i64 0] ++ ([.int .i64 0] ++ [.bool false])))
theorem Zwl : KZ Z1w Zli Ych := Z22 (Z04 Ydn (Z04 Z1c (Z04 Z1c Zdm)))
abbrev Yb8 := Vector field_row 24
structure Atom where
 Rewrite : Zl
 Group : Bool
 Port : Int
 Max : Int
 deriving DecidableEq, Inhabited
def Z0c : Kd Atom := Z0w (Z2 (Z3 24 Z4) (Z2 Z5 (Z2 (Z0 .i64) (Z0 .i64)))) (fun x => (x.Rewrite, (x.Group, (x.Port, x.Max))))
instance : PureK Z0c := inferInstanceAs (PureK (Z0w (Z2 (Z3 24 Z4) (Z2 Z5 (Z2 (Z0 .i64) (Z0 .i64)))) (fun (x : Atom) => (x.Rewrite, (x.Group, (x.Port, x.Max))))))
def lAtom_0 : Lens Z0c (Z3 24 Z4) := Lens.iso (k := (Z2 (Z3 24 Z4) (Z2 Z5 (Z2 (Z0 .i64) (Z0 .i64))))) (Lens.fst _ _) Atom.Rewrite (fun x y => { x with Rewrite := y }) (fun _ => rfl) (fun _ _ => rfl)
def Zt2 : Lens Z0c Z5 := Lens.iso (k := (Z2 (Z3 24 Z4) (Z2 Z5 (Z2 (Z0 .i64) (Z0 .i64))))) (Lens.comp (Lens.snd _ _) (Lens.fst _ _)) Atom.Group (fun x y => { x with Group := y }) (fun _ => rfl) (fun _ _ => rfl)
def Zh3 : Lens Z0c (Z0 .i64) := Lens.iso (k := (Z2 (Z3 24 Z4) (Z2 Z5 (Z2 (Z0 .i64) (Z0 .i64))))) (Lens.comp (Lens.comp (Lens.snd _ _) (Lens.snd _ _)) (Lens.fst _ _)) Atom.Port (fun x y => { x with Port := y }) (fun _ => rfl) (fun _ _ => rfl)
def Zpu : Lens Z0c (Z0 .i64) := Lens.iso (k := (Z2 (Z3 24 Z4) (Z2 Z5 (Z2 (Z0 .i64) (Z0 .i64))))) (Lens.comp (Lens.comp (Lens.snd _ _) (Lens.snd _ _)) (Lens.snd _ _)) Atom.Max (fun x y => { x with Max := y }) (fun _ => rfl) (fun _ _ => rfl)
def Zvx : Atom := ⟨(Vector.replicate 24 zTern), false, 0, 0⟩
def Yl9 : List Value := ((List.replicate 24 Z93).flatten ++ ([.bool false] ++ ([.int .i64 0] ++ [.int .i64 0])))
theorem Yal : KZ Z0c Zvx Yl9 := Z22 (Z04 (Z47 24 Z79) (Z04 Zdm (Z04 Z1c Z1c)))
structure walk_way where
 cube : Zl
 got : Zl
 atoms : (List Atom)
 set : (List Action)
 deriving DecidableEq, Inhabited
def Z1o : Kd walk_way := Z0w (Z2 (Z3 24 Z4) (Z2 (Z3 24 Z4) (Z2 (Z1 Z0c) (Z1 Z9)))) (fun x => (x.cube, (x.got, (x.atoms, x.set))))
def lwalk_way_0 : Lens Z1o (Z3 24 Z4) := Lens.iso (k := (Z2 (Z3 24 Z4) (Z2 (Z3 24 Z4) (Z2 (Z1 Z0c) (Z1 Z9))))) (Lens.fst _ _) walk_way.cube (fun x y => { x with cube := y }) (fun _ => rfl) (fun _ _ => rfl)
def lwalk_way_1 : Lens Z1o (Z3 24 Z4) := Lens.iso (k := (Z2 (Z3 24 Z4) (Z2 (Z3 24 Z4) (Z2 (Z1 Z0c) (Z1 Z9))))) (Lens.comp (Lens.snd _ _) (Lens.fst _ _)) walk_way.got (fun x y => { x with got := y }) (fun _ => rfl) (fun _ _ => rfl)
def Zgc : Lens Z1o (Z1 Z0c) := Lens.iso (k := (Z2 (Z3 24 Z4) (Z2 (Z3 24 Z4) (Z2 (Z1 Z0c) (Z1 Z9))))) (Lens.comp (Lens.comp (Lens.snd _ _) (Lens.snd _ _)) (Lens.fst _ _)) walk_way.atoms (fun x y => { x with atoms := y }) (fun _ => rfl) (fun _ _ => rfl)
def Zlq : Lens Z1o (Z1 Z9) := Lens.iso (k := (Z2 (Z3 24 Z4) (Z2 (Z3 24 Z4) (Z2 (Z1 Z0c) (Z1 Z9))))) (Lens.comp (Lens.comp (Lens.snd _ _) (Lens.snd _ _)) (Lens.snd _ _)) walk_way.set (fun x y => { x with set := y }) (fun _ => rfl) (fun _ _ => rfl)
def Zgk : walk_way := ⟨(Vector.replicate 24 zTern), (Vector.replicate 24 zTern), [], []⟩
def Yjr : List Value := ((List.replicate 24 Z93).flatten ++ ((List.replicate 24 Z93).flatten ++ ([.slice none 0 0] ++ [.slice none 0 0])))
theorem Yi4 : KZ Z1o Zgk Yjr := Z22 (Z04 (Z47 24 Z79) (Z04 (Z47 24 Z79) (Z04 (Z3v _) (Z3v _))))
structure Z6d where
 got : Zl
 atoms : (List Atom)
 deriving DecidableEq, Inhabited
structure atom_trace_o1 where
 got : Zl
 atoms : Value
def Z5v : Kd atom_trace_o1 := Z0w (Z2 (Z3 24 Z4) kraw) (fun x => (x.got, x.atoms))
def latom_trace_o1_0 : Lens Z5v (Z3 24 Z4) := Lens.iso (k := (Z2 (Z3 24 Z4) kraw)) (Lens.fst _ _) atom_trace_o1.got (fun x y => { x with got := y }) (fun _ => rfl) (fun _ _ => rfl)
def Zi9 : Lens Z5v kraw := Lens.iso (k := (Z2 (Z3 24 Z4) kraw)) (Lens.snd _ _) atom_trace_o1.atoms (fun x y => { x with atoms := y }) (fun _ => rfl) (fun _ _ => rfl)
def Y51 : atom_trace_o1 := ⟨(Vector.replicate 24 zTern), (.slice none 0 0)⟩
theorem Ynj : KZ Z5v Y51 ((List.replicate 24 Z93).flatten ++ [.slice none 0 0]) := Z22 (Z04 (Z47 24 Z79) (Zah rfl))
structure aset_spot where
 kind : Int
 field : Int
 deriving DecidableEq, Inhabited
def Z77 : Kd aset_spot := Z0w (Z2 (Z0 .i64) (Z0 .i64)) (fun x => (x.kind, x.field))
instance : PureK Z77 := inferInstanceAs (PureK (Z0w (Z2 (Z0 .i64) (Z0 .i64)) (fun (x : aset_spot) => (x.kind, x.field))))
def laset_spot_0 : Lens Z77 (Z0 .i64) := Lens.iso (k := (Z2 (Z0 .i64) (Z0 .i64))) (Lens.fst _ _) aset_spot.kind (fun x y => { x with kind := y }) (fun _ => rfl) (fun _ _ => rfl)
def laset_spot_1 : Lens Z77 (Z0 .i64) := Lens.iso (k := (Z2 (Z0 .i64) (Z0 .i64))) (Lens.snd _ _) aset_spot.field (fun x y => { x with field := y }) (fun _ => rfl) (fun _ _ => rfl)
def Zps : aset_spot := ⟨0, 0⟩
def Yd5 : List Value := ([.int .i64 0] ++ [.int .i64 0])
theorem Ygl : KZ Z77 Zps Yd5 := Z22 (Z04 Z1c Z1c)
structure Rule where
 Cube : Zl
 Atoms : (List Atom)
 deriving DecidableEq, Inhabited
def Z0a : Kd Rule := Z0w (Z2 (Z3 24 Z4) (Z1 Z0c)) (fun x => (x.Cube, x.Atoms))
def lRule_0 : Lens Z0a (Z3 24 Z4) := Lens.iso (k := (Z2 (Z3 24 Z4) (Z1 Z0c))) (Lens.fst _ _) Rule.Cube (fun x y => { x with Cube := y }) (fun _ => rfl) (fun _ _ => rfl)
def lRule_1 : Lens Z0a (Z1 Z0c) := Lens.iso (k := (Z2 (Z3 24 Z4) (Z1 Z0c))) (Lens.snd _ _) Rule.Atoms (fun x y => { x with Atoms := y }) (fun _ => rfl) (fun _ _ => rfl)
def Zyi : Rule := ⟨(Vector.replicate 24 zTern), []⟩
def Y5w : List Value := ((List.replicate 24 Z93).flatten ++ [.slice none 0 0])
theorem Yd7 : KZ Z0a Zyi Y5w := Z22 (Z04 (Z47 24 Z79) (Z3v _))
structure cover_purse where
 left : Int
 free : Bool
 deriving DecidableEq, Inhabited
def Z6f : Kd cover_purse := Z0w (Z2 (Z0 .i64) Z5) (fun x => (x.left, x.free))
instance : PureK Z6f := inferInstanceAs (PureK (Z0w (Z2 (Z0 .i64) Z5) (fun (x : cover_purse) => (x.left, x.free))))
def lcover_purse_0 : Lens Z6f (Z0 .i64) := Lens.iso (k := (Z2 (Z0 .i64) Z5)) (Lens.fst _ _) cover_purse.left (fun x y => { x with left := y }) (fun _ => rfl) (fun _ _ => rfl)
def lcover_purse_1 : Lens Z6f Z5 := Lens.iso (k := (Z2 (Z0 .i64) Z5)) (Lens.snd _ _) cover_purse.free (fun x y => { x with free := y }) (fun _ => rfl) (fun _ _ => rfl)
def Zt8 : cover_purse := ⟨0, false⟩
def Y4j : List Value := ([.int .i64 0] ++ [.bool false])
theorem Zvm : KZ Z6f Zt8 Y4j := Z22 (Z04 Z1c Zdm)
structure cover_look where
 purse : cover_purse
 deriving DecidableEq, Inhabited
def Z1z : Kd cover_look := Z0w Z6f (fun x => x.purse)
instance : PureK Z1z := inferInstanceAs (PureK (Z0w Z6f (fun (x : cover_look) => x.purse)))
def lcover_look_0 : Lens Z1z Z6f := Lens.iso (k := Z6f) (Lens.id _) cover_look.purse (fun x y => { x with purse := y }) (fun _ => rfl) (fun _ _ => rfl)
def Zv8 : cover_look := ⟨Zt8⟩
def Yiy : List Value := Y4j
theorem Yhf : KZ Z1z Zv8 Yiy := Z22 Zvm
structure Flat where
 Rules : (List Rule)
 Groups : (List Group)
 deriving DecidableEq, Inhabited
def Z5x : Kd Flat := Z0w (Z2 (Z1 Z0a) (Z1 Zz)) (fun x => (x.Rules, x.Groups))
def lFlat_0 : Lens Z5x (Z1 Z0a) := Lens.iso (k := (Z2 (Z1 Z0a) (Z1 Zz))) (Lens.fst _ _) Flat.Rules (fun x y => { x with Rules := y }) (fun _ => rfl) (fun _ _ => rfl)
def lFlat_1 : Lens Z5x (Z1 Zz) := Lens.iso (k := (Z2 (Z1 Z0a) (Z1 Zz))) (Lens.snd _ _) Flat.Groups (fun x y => { x with Groups := y }) (fun _ => rfl) (fun _ _ => rfl)
def Zpz : Flat := ⟨[], []⟩
def Zzj : List Value := ([.slice none 0 0] ++ [.slice none 0 0])
theorem Zxf : KZ Z5x Zpz Zzj := Z22 (Z04 (Z3v _) (Z3v _))
structure Z51 where
 cubes : (List Zl)
 most : Int
 deriving DecidableEq, Inhabited
structure slice_heap_o0 where
 cubes : Value
 most : Int
def Z1t : Kd slice_heap_o0 := Z0w (Z2 kraw (Z0 .i64)) (fun x => (x.cubes, x.most))
def lslice_heap_o0_0 : Lens Z1t kraw := Lens.iso (k := (Z2 kraw (Z0 .i64))) (Lens.fst _ _) slice_heap_o0.cubes (fun x y => { x with cubes := y }) (fun _ => rfl) (fun _ _ => rfl)
def lslice_heap_o0_1 : Lens Z1t (Z0 .i64) := Lens.iso (k := (Z2 kraw (Z0 .i64))) (Lens.snd _ _) slice_heap_o0.most (fun x y => { x with most := y }) (fun _ => rfl) (fun _ _ => rfl)
def Y0l : slice_heap_o0 := ⟨(.slice none 0 0), 0⟩
theorem Ym3 : KZ Z1t Y0l ([.slice none 0 0] ++ [.int .i64 0]) := Z22 (Z04 (Zah rfl) Z1c)
structure spread_table where
 Flat : Flat
 cubes : (List (List Zl))
 deriving DecidableEq, Inhabited
def Z2i : Kd spread_table := Z0w (Z2 Z5x (Z1 (Z1 (Z3 24 Z4)))) (fun x => (x.Flat, x.cubes))
def lspread_table_0 : Lens Z2i Z5x := Lens.iso (k := (Z2 Z5x (Z1 (Z1 (Z3 24 Z4))))) (Lens.fst _ _) spread_table.Flat (fun x y => { x with Flat := y }) (fun _ => rfl) (fun _ _ => rfl)
def lspread_table_1 : Lens Z2i (Z1 (Z1 (Z3 24 Z4))) := Lens.iso (k := (Z2 Z5x (Z1 (Z1 (Z3 24 Z4))))) (Lens.snd _ _) spread_table.cubes (fun x y => { x with cubes := y }) (fun _ => rfl) (fun _ _ => rfl)
def Y2f : spread_table := ⟨Zpz, []⟩
def Y85 : List Value := (Zzj ++ [.slice none 0 0])
theorem Y96 : KZ Z2i Y2f Y85 := Z22 (Z04 Zxf (Z3v _))
structure Link where
 From : Int
 Out : Int
 To : Int
 In : Int
 deriving DecidableEq, Inhabited
def Z35 : Kd Link := Z0w (Z2 (Z0 .i64) (Z2 (Z0 .i64) (Z2 (Z0 .i64) (Z0 .i64)))) (fun x => (x.From, (x.Out, (x.To, x.In))))
instance : PureK Z35 := inferInstanceAs (PureK (Z0w (Z2 (Z0 .i64) (Z2 (Z0 .i64) (Z2 (Z0 .i64) (Z0 .i64)))) (fun (x : Link) => (x.From, (x.Out, (x.To, x.In))))))
def lLink_0 : Lens Z35 (Z0 .i64) := Lens.iso (k := (Z2 (Z0 .i64) (Z2 (Z0 .i64) (Z2 (Z0 .i64) (Z0 .i64))))) (Lens.fst _ _) Link.From (fun x y => { x with From := y }) (fun _ => rfl) (fun _ _ => rfl)
def lLink_1 : Lens Z35 (Z0 .i64) := Lens.iso (k := (Z2 (Z0 .i64) (Z2 (Z0 .i64) (Z2 (Z0 .i64) (Z0 .i64))))) (Lens.comp (Lens.snd _ _) (Lens.fst _ _)) Link.Out (fun x y => { x with Out := y }) (fun _ => rfl) (fun _ _ => rfl)
def lLink_2 : Lens Z35 (Z0 .i64) := Lens.iso (k := (Z2 (Z0 .i64) (Z2 (Z0 .i64) (Z2 (Z0 .i64) (Z0 .i64))))) (Lens.comp (Lens.comp (Lens.snd _ _) (Lens.snd _ _)) (Lens.fst _ _)) Link.To (fun x y => { x with To := y }) (fun _ => rfl) (fun _ _ => rfl)
def lLink_3 : Lens Z35 (Z0 .i64) := Lens.iso (k := (Z2 (Z0 .i64) (Z2 (Z0 .i64) (Z2 (Z0 .i64) (Z0 .i64))))) (Lens.comp (Lens.comp (Lens.snd _ _) (Lens.snd _ _)) (Lens.snd _ _)) Link.In (fun x y => { x with In := y }) (fun _ => rfl) (fun _ _ => rfl)
def Y0r : Link := ⟨0, 0, 0, 0⟩
def Yh4 : List Value := ([.int .i64 0] ++ ([.int .i64 0] ++ ([.int .i64 0] ++ [.int .i64 0])))
theorem Y8m : KZ Z35 Y0r Yh4 := Z22 (Z04 Z1c (Z04 Z1c (Z04 Z1c Z1c)))
structure Net where
 Switches : (List Switch)
 Links : (List Link)
 deriving DecidableEq, Inhabited
def Z26 : Kd Net := Z0w (Z2 (Z1 Z0d) (Z1 Z35)) (fun x => (x.Switches, x.Links))
def lNet_0 : Lens Z26 (Z1 Z0d) := Lens.iso (k := (Z2 (Z1 Z0d) (Z1 Z35))) (Lens.fst _ _) Net.Switches (fun x y => { x with Switches := y }) (fun _ => rfl) (fun _ _ => rfl)
def lNet_1 : Lens Z26 (Z1 Z35) := Lens.iso (k := (Z2 (Z1 Z0d) (Z1 Z35))) (Lens.snd _ _) Net.Links (fun x y => { x with Links := y }) (fun _ => rfl) (fun _ _ => rfl)
def Znt : Net := ⟨[], []⟩
def Zuk : List Value := ([.slice none 0 0] ++ [.slice none 0 0])
theorem Ztz : KZ Z26 Znt Zuk := Z22 (Z04 (Z3v _) (Z3v _))
structure spread_beam where
 cube : Zl
 got : Zl
 deriving DecidableEq, Inhabited
def Z2q : Kd spread_beam := Z0w (Z2 (Z3 24 Z4) (Z3 24 Z4)) (fun x => (x.cube, x.got))
instance : PureK Z2q := inferInstanceAs (PureK (Z0w (Z2 (Z3 24 Z4) (Z3 24 Z4)) (fun (x : spread_beam) => (x.cube, x.got))))
def lspread_beam_0 : Lens Z2q (Z3 24 Z4) := Lens.iso (k := (Z2 (Z3 24 Z4) (Z3 24 Z4))) (Lens.fst _ _) spread_beam.cube (fun x y => { x with cube := y }) (fun _ => rfl) (fun _ _ => rfl)
def lspread_beam_1 : Lens Z2q (Z3 24 Z4) := Lens.iso (k := (Z2 (Z3 24 Z4) (Z3 24 Z4))) (Lens.snd _ _) spread_beam.got (fun x y => { x with got := y }) (fun _ => rfl) (fun _ _ => rfl)
def Y2a : spread_beam := ⟨(Vector.replicate 24 zTern), (Vector.replicate 24 zTern)⟩
def Y6u : List Value := ((List.replicate 24 Z93).flatten ++ (List.replicate 24 Z93).flatten)
theorem Y92 : KZ Z2q Y2a Y6u := Z22 (Z04 (Z47 24 Z79) (Z47 24 Z79))
structure Env where
 Turn : Int
 Down : (List Int)
 deriving DecidableEq, Inhabited
def Z0q : Kd Env := Z0w (Z2 (Z0 .i64) (Z1 (Z0 .i64))) (fun x => (x.Turn, x.Down))
def Y2b : Lens Z0q (Z0 .i64) := Lens.iso (k := (Z2 (Z0 .i64) (Z1 (Z0 .i64)))) (Lens.fst _ _) Env.Turn (fun x y => { x with Turn := y }) (fun _ => rfl) (fun _ _ => rfl)
def Zsc : Lens Z0q (Z1 (Z0 .i64)) := Lens.iso (k := (Z2 (Z0 .i64) (Z1 (Z0 .i64)))) (Lens.snd _ _) Env.Down (fun x y => { x with Down := y }) (fun _ => rfl) (fun _ _ => rfl)
def Zaa : Env := ⟨0, []⟩
def Zdq : List Value := ([.int .i64 0] ++ [.slice none 0 0])
theorem Zef : KZ Z0q Zaa Zdq := Z22 (Z04 Z1c (Z3v _))
structure env_world where
 Env : Env
 Group : Group
 deriving DecidableEq, Inhabited
def Zc7 : Kd env_world := Z0w (Z2 Z0q Zz) (fun x => (x.Env, x.Group))
def lenv_world_0 : Lens Zc7 Z0q := Lens.iso (k := (Z2 Z0q Zz)) (Lens.fst _ _) env_world.Env (fun x y => { x with Env := y }) (fun _ => rfl) (fun _ _ => rfl)
def lenv_world_1 : Lens Zc7 Zz := Lens.iso (k := (Z2 Z0q Zz)) (Lens.snd _ _) env_world.Group (fun x y => { x with Group := y }) (fun _ => rfl) (fun _ _ => rfl)
def Zw2 : env_world := ⟨Zaa, Zpr⟩
def Yhz : List Value := (Zdq ++ Y1a)
theorem Ymh : KZ Zc7 Zw2 Yhz := Z22 (Z04 Zef Zxi)
structure norm_world where
 Env : Env
 groups : (List Group)
 depth : Int
 deriving DecidableEq, Inhabited
def Z4e : Kd norm_world := Z0w (Z2 Z0q (Z2 (Z1 Zz) (Z0 .i64))) (fun x => (x.Env, (x.groups, x.depth)))
def lnorm_world_0 : Lens Z4e Z0q := Lens.iso (k := (Z2 Z0q (Z2 (Z1 Zz) (Z0 .i64)))) (Lens.fst _ _) norm_world.Env (fun x y => { x with Env := y }) (fun _ => rfl) (fun _ _ => rfl)
def lnorm_world_1 : Lens Z4e (Z1 Zz) := Lens.iso (k := (Z2 Z0q (Z2 (Z1 Zz) (Z0 .i64)))) (Lens.comp (Lens.snd _ _) (Lens.fst _ _)) norm_world.groups (fun x y => { x with groups := y }) (fun _ => rfl) (fun _ _ => rfl)
def Zmq : Lens Z4e (Z0 .i64) := Lens.iso (k := (Z2 Z0q (Z2 (Z1 Zz) (Z0 .i64)))) (Lens.comp (Lens.snd _ _) (Lens.snd _ _)) norm_world.depth (fun x y => { x with depth := y }) (fun _ => rfl) (fun _ _ => rfl)
def Zxa : norm_world := ⟨Zaa, [], 0⟩
def Ymj : List Value := (Zdq ++ ([.slice none 0 0] ++ [.int .i64 0]))
theorem Ybn : KZ Z4e Zxa Ymj := Z22 (Z04 Zef (Z04 (Z3v _) Z1c))
structure Z0e where
 Net : Net
 env : Env
 tables : (List spread_table)
 most : Int
 rays : (List Ray)
 deriving DecidableEq, Inhabited
structure spread_sun_o4 where
 Net : Net
 env : Env
 tables : (List spread_table)
 most : Int
 rays : Value
def Z19 : Kd spread_sun_o4 := Z0w (Z2 Z26 (Z2 Z0q (Z2 (Z1 Z2i) (Z2 (Z0 .i64) kraw)))) (fun x => (x.Net, (x.env, (x.tables, (x.most, x.rays)))))
def lspread_sun_o4_0 : Lens Z19 Z26 := Lens.iso (k := (Z2 Z26 (Z2 Z0q (Z2 (Z1 Z2i) (Z2 (Z0 .i64) kraw))))) (Lens.fst _ _) spread_sun_o4.Net (fun x y => { x with Net := y }) (fun _ => rfl) (fun _ _ => rfl)
def lspread_sun_o4_1 : Lens Z19 Z0q := Lens.iso (k := (Z2 Z26 (Z2 Z0q (Z2 (Z1 Z2i) (Z2 (Z0 .i64) kraw))))) (Lens.comp (Lens.snd _ _) (Lens.fst _ _)) spread_sun_o4.env (fun x y => { x with env := y }) (fun _ => rfl) (fun _ _ => rfl)
def lspread_sun_o4_2 : Lens Z19 (Z1 Z2i) := Lens.iso (k := (Z2 Z26 (Z2 Z0q (Z2 (Z1 Z2i) (Z2 (Z0 .i64) kraw))))) (Lens.comp (Lens.comp (Lens.snd _ _) (Lens.snd _ _)) (Lens.fst _ _)) spread_sun_o4.tables (fun x y => { x with tables := y }) (fun _ => rfl) (fun _ _ => rfl)
def lspread_sun_o4_3 : Lens Z19 (Z0 .i64) := Lens.iso (k := (Z2 Z26 (Z2 Z0q (Z2 (Z1 Z2i) (Z2 (Z0 .i64) kraw))))) (Lens.comp (Lens.comp (Lens.comp (Lens.snd _ _) (Lens.snd _ _)) (Lens.snd _ _)) (Lens.fst _ _)) spread_sun_o4.most (fun x y => { x with most := y }) (fun _ => rfl) (fun _ _ => rfl)
def Z7p : Lens Z19 kraw := Lens.iso (k := (Z2 Z26 (Z2 Z0q (Z2 (Z1 Z2i) (Z2 (Z0 .i64) kraw))))) (Lens.comp (Lens.comp (Lens.comp (Lens.snd _ _) (Lens.snd _ _)) (Lens.snd _ _)) (Lens.snd _ _)) spread_sun_o4.rays (fun x y => { x with rays := y }) (fun _ => rfl) (fun _ _ => rfl)
def Y4y : spread_sun_o4 := ⟨Znt, Zaa, [], 0, (.slice none 0 0)⟩
theorem Yko : KZ Z19 Y4y (Zuk ++ (Zdq ++ ([.slice none 0 0] ++ ([.int .i64 0] ++ [.slice none 0 0])))) := Z22 (Z04 Ztz (Z04 Zef (Z04 (Z3v _) (Z04 Z1c (Zah rfl)))))
structure Out where
 Port : Int
 Max : Int
 Header : Z09
 deriving DecidableEq, Inhabited
def Z0r : Kd Out := Z0w (Z2 (Z0 .i64) (Z2 (Z0 .i64) (Z3 24 Zd))) (fun x => (x.Port, (x.Max, x.Header)))
instance : PureK Z0r := inferInstanceAs (PureK (Z0w (Z2 (Z0 .i64) (Z2 (Z0 .i64) (Z3 24 Zd))) (fun (x : Out) => (x.Port, (x.Max, x.Header)))))
def lOut_0 : Lens Z0r (Z0 .i64) := Lens.iso (k := (Z2 (Z0 .i64) (Z2 (Z0 .i64) (Z3 24 Zd)))) (Lens.fst _ _) Out.Port (fun x y => { x with Port := y }) (fun _ => rfl) (fun _ _ => rfl)
def lOut_1 : Lens Z0r (Z0 .i64) := Lens.iso (k := (Z2 (Z0 .i64) (Z2 (Z0 .i64) (Z3 24 Zd)))) (Lens.comp (Lens.snd _ _) (Lens.fst _ _)) Out.Max (fun x y => { x with Max := y }) (fun _ => rfl) (fun _ _ => rfl)
def lOut_2 : Lens Z0r (Z3 24 Zd) := Lens.iso (k := (Z2 (Z0 .i64) (Z2 (Z0 .i64) (Z3 24 Zd)))) (Lens.comp (Lens.snd _ _) (Lens.snd _ _)) Out.Header (fun x y => { x with Header := y }) (fun _ => rfl) (fun _ _ => rfl)
def Y1h : Out := ⟨0, 0, (Vector.replicate 24 Z0j)⟩
def Yj5 : List Value := ([.int .i64 0] ++ ([.int .i64 0] ++ (List.replicate 24 Z83).flatten))
theorem Y9j : KZ Z0r Y1h Yj5 := Z22 (Z04 Z1c (Z04 Z1c (Z47 24 Z6u)))
structure Z0m where
 Env : Env
 groups : (List Group)
 out : (List Out)
 header : Z09
 depth : Int
 deriving DecidableEq, Inhabited
structure exec_run_o2 where
 Env : Env
 groups : (List Group)
 out : Value
 header : Z09
 depth : Int
def Z1h : Kd exec_run_o2 := Z0w (Z2 Z0q (Z2 (Z1 Zz) (Z2 kraw (Z2 (Z3 24 Zd) (Z0 .i64))))) (fun x => (x.Env, (x.groups, (x.out, (x.header, x.depth)))))
def lexec_run_o2_0 : Lens Z1h Z0q := Lens.iso (k := (Z2 Z0q (Z2 (Z1 Zz) (Z2 kraw (Z2 (Z3 24 Zd) (Z0 .i64)))))) (Lens.fst _ _) exec_run_o2.Env (fun x y => { x with Env := y }) (fun _ => rfl) (fun _ _ => rfl)
def lexec_run_o2_1 : Lens Z1h (Z1 Zz) := Lens.iso (k := (Z2 Z0q (Z2 (Z1 Zz) (Z2 kraw (Z2 (Z3 24 Zd) (Z0 .i64)))))) (Lens.comp (Lens.snd _ _) (Lens.fst _ _)) exec_run_o2.groups (fun x y => { x with groups := y }) (fun _ => rfl) (fun _ _ => rfl)
def Zkt : Lens Z1h kraw := Lens.iso (k := (Z2 Z0q (Z2 (Z1 Zz) (Z2 kraw (Z2 (Z3 24 Zd) (Z0 .i64)))))) (Lens.comp (Lens.comp (Lens.snd _ _) (Lens.snd _ _)) (Lens.fst _ _)) exec_run_o2.out (fun x y => { x with out := y }) (fun _ => rfl) (fun _ _ => rfl)
def lexec_run_o2_3 : Lens Z1h (Z3 24 Zd) := Lens.iso (k := (Z2 Z0q (Z2 (Z1 Zz) (Z2 kraw (Z2 (Z3 24 Zd) (Z0 .i64)))))) (Lens.comp (Lens.comp (Lens.comp (Lens.snd _ _) (Lens.snd _ _)) (Lens.snd _ _)) (Lens.fst _ _)) exec_run_o2.header (fun x y => { x with header := y }) (fun _ => rfl) (fun _ _ => rfl)
def Zgv : Lens Z1h (Z0 .i64) := Lens.iso (k := (Z2 Z0q (Z2 (Z1 Zz) (Z2 kraw (Z2 (Z3 24 Zd) (Z0 .i64)))))) (Lens.comp (Lens.comp (Lens.comp (Lens.snd _ _) (Lens.snd _ _)) (Lens.snd _ _)) (Lens.snd _ _)) exec_run_o2.depth (fun x y => { x with depth := y }) (fun _ => rfl) (fun _ _ => rfl)
def Zyy : exec_run_o2 := ⟨Zaa, [], (.slice none 0 0), (Vector.replicate 24 Z0j), 0⟩
theorem Ydm : KZ Z1h Zyy (Zdq ++ ([.slice none 0 0] ++ ([.slice none 0 0] ++ ((List.replicate 24 Z83).flatten ++ [.int .i64 0])))) := Z22 (Z04 Zef (Z04 (Z3v _) (Z04 (Zah rfl) (Z04 (Z47 24 Z6u) Z1c))))
structure Place where
 Table : Int
 Flow : Int
 deriving DecidableEq, Inhabited
def Z43 : Kd Place := Z0w (Z2 (Z0 .i64) (Z0 .i64)) (fun x => (x.Table, x.Flow))
instance : PureK Z43 := inferInstanceAs (PureK (Z0w (Z2 (Z0 .i64) (Z0 .i64)) (fun (x : Place) => (x.Table, x.Flow))))
def lPlace_0 : Lens Z43 (Z0 .i64) := Lens.iso (k := (Z2 (Z0 .i64) (Z0 .i64))) (Lens.fst _ _) Place.Table (fun x y => { x with Table := y }) (fun _ => rfl) (fun _ _ => rfl)
def lPlace_1 : Lens Z43 (Z0 .i64) := Lens.iso (k := (Z2 (Z0 .i64) (Z0 .i64))) (Lens.snd _ _) Place.Flow (fun x y => { x with Flow := y }) (fun _ => rfl) (fun _ _ => rfl)
def Y11 : Place := ⟨0, 0⟩
def Y83 : List Value := ([.int .i64 0] ++ [.int .i64 0])
theorem Ycu : KZ Z43 Y11 Y83 := Z22 (Z04 Z1c Z1c)
structure Z2k where
 Switch : Switch
 env : Env
 header : Z09
 set : (List Action)
 out : (List Out)
 path : (List Place)
 deriving DecidableEq, Inhabited
structure sem_packet_o4_5 where
 Switch : Switch
 env : Env
 header : Z09
 set : (List Action)
 out : Value
 path : Value
def Z1u : Kd sem_packet_o4_5 := Z0w (Z2 Z0d (Z2 Z0q (Z2 (Z3 24 Zd) (Z2 (Z1 Z9) (Z2 kraw kraw))))) (fun x => (x.Switch, (x.env, (x.header, (x.set, (x.out, x.path))))))
def lsem_packet_o4_5_0 : Lens Z1u Z0d := Lens.iso (k := (Z2 Z0d (Z2 Z0q (Z2 (Z3 24 Zd) (Z2 (Z1 Z9) (Z2 kraw kraw)))))) (Lens.fst _ _) sem_packet_o4_5.Switch (fun x y => { x with Switch := y }) (fun _ => rfl) (fun _ _ => rfl)
def lsem_packet_o4_5_1 : Lens Z1u Z0q := Lens.iso (k := (Z2 Z0d (Z2 Z0q (Z2 (Z3 24 Zd) (Z2 (Z1 Z9) (Z2 kraw kraw)))))) (Lens.comp (Lens.snd _ _) (Lens.fst _ _)) sem_packet_o4_5.env (fun x y => { x with env := y }) (fun _ => rfl) (fun _ _ => rfl)
def lsem_packet_o4_5_2 : Lens Z1u (Z3 24 Zd) := Lens.iso (k := (Z2 Z0d (Z2 Z0q (Z2 (Z3 24 Zd) (Z2 (Z1 Z9) (Z2 kraw kraw)))))) (Lens.comp (Lens.comp (Lens.snd _ _) (Lens.snd _ _)) (Lens.fst _ _)) sem_packet_o4_5.header (fun x y => { x with header := y }) (fun _ => rfl) (fun _ _ => rfl)
def Zl4 : Lens Z1u (Z1 Z9) := Lens.iso (k := (Z2 Z0d (Z2 Z0q (Z2 (Z3 24 Zd) (Z2 (Z1 Z9) (Z2 kraw kraw)))))) (Lens.comp (Lens.comp (Lens.comp (Lens.snd _ _) (Lens.snd _ _)) (Lens.snd _ _)) (Lens.fst _ _)) sem_packet_o4_5.set (fun x y => { x with set := y }) (fun _ => rfl) (fun _ _ => rfl)
def Zir : Lens Z1u kraw := Lens.iso (k := (Z2 Z0d (Z2 Z0q (Z2 (Z3 24 Zd) (Z2 (Z1 Z9) (Z2 kraw kraw)))))) (Lens.comp (Lens.comp (Lens.comp (Lens.comp (Lens.snd _ _) (Lens.snd _ _)) (Lens.snd _ _)) (Lens.snd _ _)) (Lens.fst _ _)) sem_packet_o4_5.out (fun x y => { x with out := y }) (fun _ => rfl) (fun _ _ => rfl)
def Zip : Lens Z1u kraw := Lens.iso (k := (Z2 Z0d (Z2 Z0q (Z2 (Z3 24 Zd) (Z2 (Z1 Z9) (Z2 kraw kraw)))))) (Lens.comp (Lens.comp (Lens.comp (Lens.comp (Lens.snd _ _) (Lens.snd _ _)) (Lens.snd _ _)) (Lens.snd _ _)) (Lens.snd _ _)) sem_packet_o4_5.path (fun x y => { x with path := y }) (fun _ => rfl) (fun _ _ => rfl)
def Y4u : sem_packet_o4_5 := ⟨Zmn, Zaa, (Vector.replicate 24 Z0j), [], (.slice none 0 0), (.slice none 0 0)⟩
theorem Yif : KZ Z1u Y4u (Zz8 ++ (Zdq ++ ((List.replicate 24 Z83).flatten ++ ([.slice none 0 0] ++ ([.slice none 0 0] ++ [.slice none 0 0]))))) := Z22 (Z04 Ztg (Z04 Zef (Z04 (Z47 24 Z6u) (Z04 (Z3v _) (Z04 (Zah rfl) (Zah rfl))))))
structure Z2g where
 Net : Net
 env : Env
 ends : (List End)
 deriving DecidableEq, Inhabited
structure trace_trip_o2 where
 Net : Net
 env : Env
 ends : Value
def Z2h : Kd trace_trip_o2 := Z0w (Z2 Z26 (Z2 Z0q kraw)) (fun x => (x.Net, (x.env, x.ends)))
def ltrace_trip_o2_0 : Lens Z2h Z26 := Lens.iso (k := (Z2 Z26 (Z2 Z0q kraw))) (Lens.fst _ _) trace_trip_o2.Net (fun x y => { x with Net := y }) (fun _ => rfl) (fun _ _ => rfl)
def ltrace_trip_o2_1 : Lens Z2h Z0q := Lens.iso (k := (Z2 Z26 (Z2 Z0q kraw))) (Lens.comp (Lens.snd _ _) (Lens.fst _ _)) trace_trip_o2.env (fun x y => { x with env := y }) (fun _ => rfl) (fun _ _ => rfl)
def Z9e : Lens Z2h kraw := Lens.iso (k := (Z2 Z26 (Z2 Z0q kraw))) (Lens.comp (Lens.snd _ _) (Lens.snd _ _)) trace_trip_o2.ends (fun x y => { x with ends := y }) (fun _ => rfl) (fun _ _ => rfl)
def Y3p : trace_trip_o2 := ⟨Znt, Zaa, (.slice none 0 0)⟩
theorem Yav : KZ Z2h Y3p (Zuk ++ (Zdq ++ [.slice none 0 0])) := Z22 (Z04 Ztz (Z04 Zef (Zah rfl)))
theorem Z3p : Zr Tryz.prog 42 Zd Z0j := ⟨_, Z6u, by kernel_rfl⟩
theorem Z8z : Fl Tryz.prog 42 0 lWide_0 := ⟨by kernel_rfl, rfl⟩
theorem Z2p : Ty Tryz.prog 40 Z0p := ⟨by kernel_rfl, by kernel_rfl⟩
theorem Z7r : Fl Tryz.prog 42 1 lWide_1 := ⟨by kernel_rfl, rfl⟩
theorem Zhq : Z05 Tryz.prog 42 0 = some (lWide_0.off, Kd.sz Z0p) := by kernel_rfl
theorem Z9c : Z05 Tryz.prog 42 1 = some (lWide_1.off, Kd.sz Z0p) := by kernel_rfl
theorem Z74 : Z1s Tryz.prog 42 = true := by kernel_rfl
theorem Z02 : Ty Tryz.prog 42 Zd := ⟨by kernel_rfl, by kernel_rfl⟩
theorem Z4f : Fl Tryz.prog 85 0 lTern_0 := ⟨by kernel_rfl, rfl⟩
theorem Z3m : Fl Tryz.prog 85 1 lTern_1 := ⟨by kernel_rfl, rfl⟩
theorem Z00 : Ty Tryz.prog 87 (Z3 24 Z4) := ⟨by kernel_rfl, by kernel_rfl⟩
theorem Z4b : Ar Tryz.prog 87 85 24 Z4 := ⟨by kernel_rfl, by kernel_rfl⟩
theorem Z03 : Ty Tryz.prog 85 Z4 := ⟨by kernel_rfl, by kernel_rfl⟩
theorem Z2c : Zr Tryz.prog 85 Z4 zTern := ⟨_, Z79, by kernel_rfl⟩
theorem Zdl : Ar Tryz.prog 44 42 24 Zd := ⟨by kernel_rfl, by kernel_rfl⟩
theorem Yfc : Fl Tryz.prog 103 4 lRay_4 := ⟨by kernel_rfl, rfl⟩
theorem Z0g : Ty Tryz.prog 44 (Z3 24 Zd) := ⟨by kernel_rfl, by kernel_rfl⟩
theorem Z4r : Zr Tryz.prog 44 (Z3 24 Zd) (Vector.replicate 24 Z0j) := ⟨_, (Z47 24 Z6u), by kernel_rfl⟩
theorem Z0f : Ty Tryz.prog 101 (Z3 24 Z4) := ⟨by kernel_rfl, by kernel_rfl⟩
theorem Za3 : Ar Tryz.prog 101 85 24 Z4 := ⟨by kernel_rfl, by kernel_rfl⟩
theorem Zai : Zr Tryz.prog 69 Z1d Y0w := ⟨_, Yeb, by kernel_rfl⟩
theorem Ynp : Fl Tryz.prog 103 0 lRay_0 := ⟨by kernel_rfl, rfl⟩
theorem Zq : Ty Tryz.prog 3 (Z0 .i64) := ⟨by kernel_rfl, by kernel_rfl⟩
theorem Y6m : Fl Tryz.prog 103 1 lRay_1 := ⟨by kernel_rfl, rfl⟩
theorem Ya4 : Fl Tryz.prog 103 2 lRay_2 := ⟨by kernel_rfl, rfl⟩
theorem Ygc : Fl Tryz.prog 103 3 lRay_3 := ⟨by kernel_rfl, rfl⟩
theorem ty4 : Ty Tryz.prog 4 Z5 := ⟨by kernel_rfl, by kernel_rfl⟩
theorem Yeh : Fl Tryz.prog 103 5 lRay_5 := ⟨by kernel_rfl, rfl⟩
theorem Ztt : Z05 Tryz.prog 69 0 = some (lEnd_0.off, Kd.sz (Z0 .i64)) := by kernel_rfl
theorem Y36 : Z05 Tryz.prog 69 1 = some (lEnd_1.off, Kd.sz (Z0 .i64)) := by kernel_rfl
theorem Zyg : Z05 Tryz.prog 69 2 = some (lEnd_2.off, Kd.sz (Z0 .i64)) := by kernel_rfl
theorem Y39 : Z05 Tryz.prog 69 3 = some (lEnd_3.off, Kd.sz Z5) := by kernel_rfl
theorem Zsu : Z05 Tryz.prog 69 4 = some (lEnd_4.off, Kd.sz (Z3 24 Zd)) := by kernel_rfl
theorem Zrj : Z1s Tryz.prog 69 = true := by kernel_rfl
theorem Zq0 : Ty Tryz.prog 69 Z1d := ⟨by kernel_rfl, by kernel_rfl⟩
theorem Zjk : Zr Tryz.prog 26 Z0d Zmn := ⟨_, Ztg, by kernel_rfl⟩
theorem Y6i : Z1s Tryz.prog 26 = true := by kernel_rfl
theorem Z5s : Ty Tryz.prog 26 Z0d := ⟨by kernel_rfl, by kernel_rfl⟩
theorem Yna : Z05 Tryz.prog 121 0 = some (lAction_0.off, Kd.sz (Z0 .i64)) := by kernel_rfl
theorem Yo3 : Z05 Tryz.prog 121 1 = some (lAction_1.off, Kd.sz (Z0 .i64)) := by kernel_rfl
theorem Z8f : Zr Tryz.prog 121 Z9 Zn7 := ⟨_, Y76, by kernel_rfl⟩
theorem Y60 : Z1s Tryz.prog 121 = true := by kernel_rfl
theorem Z13 : Sl Tryz.prog 122 121 Z9 := ⟨by kernel_rfl, by kernel_rfl⟩
theorem Yis : Z05 Tryz.prog 124 0 = some (lInst_0.off, Kd.sz (Z0 .i64)) := by kernel_rfl
theorem Yn7 : Z05 Tryz.prog 124 4 = some (lInst_4.off, Kd.sz (Z1 Z9)) := by kernel_rfl
theorem Z4z : Zr Tryz.prog 124 Z1e Y4t := ⟨_, Ybe, by kernel_rfl⟩
theorem Zv2 : Z1s Tryz.prog 124 = true := by kernel_rfl
theorem Zck : Sl Tryz.prog 59 124 Z1e := ⟨by kernel_rfl, by kernel_rfl⟩
theorem Ym5 : Z05 Tryz.prog 61 6 = some (lFlow_6.off, Kd.sz (Z1 Z1e)) := by kernel_rfl
theorem Zmy : Zr Tryz.prog 61 Z16 Zvn := ⟨_, Yc3, by kernel_rfl⟩
theorem Y8q : Z1s Tryz.prog 61 = true := by kernel_rfl
theorem Z5p : Sl Tryz.prog 22 61 Z16 := ⟨by kernel_rfl, by kernel_rfl⟩
theorem Ze2 : Fl Tryz.prog 26 0 Zbd := ⟨by kernel_rfl, rfl⟩
theorem Zec : Ar Tryz.prog 23 22 4 (Z1 Z16) := ⟨by kernel_rfl, by kernel_rfl⟩
theorem Z5u : Ty Tryz.prog 22 (Z1 Z16) := ⟨by kernel_rfl, by kernel_rfl⟩
theorem Z2a : Zr Tryz.prog 87 (Z3 24 Z4) (Vector.replicate 24 zTern) := ⟨_, (Z47 24 Z79), by kernel_rfl⟩
theorem Z75 : Zr Tryz.prog 101 (Z3 24 Z4) (Vector.replicate 24 zTern) := ⟨_, (Z47 24 Z79), by kernel_rfl⟩
theorem Zp5 : Fl Tryz.prog 61 1 Zk0 := ⟨by kernel_rfl, rfl⟩
theorem Z15 : Sl Tryz.prog 37 3 (Z0 .i64) := ⟨by kernel_rfl, by kernel_rfl⟩
theorem us3 : (Tryz.prog.underlying 3).isSome = true := by kernel_rfl
theorem Zau : Tryz.prog.underlying 360 = some (.int .u64) := by kernel_rfl
theorem Zar : (Tryz.prog.underlying 360).isSome = true := by kernel_rfl
theorem un3 : Tryz.prog.underlying 3 = some (.int .i64) := by kernel_rfl
theorem Zmk : El Tryz.prog 37 3 (Z0 .i64) := ⟨by kernel_rfl, by kernel_rfl, by kernel_rfl, by kernel_rfl, by kernel_rfl⟩
theorem zr3 : Zr Tryz.prog 3 (Z0 .i64) 0 := ⟨_, Z1c, by kernel_rfl⟩
theorem Zzy : Zr Tryz.prog 369 (Z3 24 Z1w) (Vector.replicate 24 Zli) := ⟨_, (Z47 24 Zwl), by kernel_rfl⟩
theorem Yfr : Z05 Tryz.prog 364 1 = some (lfield_row_1.off, Kd.sz (Z0 .i64)) := by kernel_rfl
theorem Z2o : Zr Tryz.prog 364 Z1w Zli := ⟨_, Zwl, by kernel_rfl⟩
theorem Y2q : Ty Tryz.prog 369 (Z3 24 Z1w) := ⟨by kernel_rfl, by kernel_rfl⟩
theorem Yju : Z1s Tryz.prog 364 = true := by kernel_rfl
theorem Zis : Ty Tryz.prog 364 Z1w := ⟨by kernel_rfl, by kernel_rfl⟩
theorem Yby : Ar Tryz.prog 369 364 24 Z1w := ⟨by kernel_rfl, by kernel_rfl⟩
theorem Ygr : Zpp Tryz.prog 364 2 = some 3 := by kernel_rfl
theorem Yj3 : Fl Tryz.prog 364 2 Z2l := ⟨by kernel_rfl, rfl⟩
theorem Zh4 : Fl Tryz.prog 119 0 Zce := ⟨by kernel_rfl, rfl⟩
theorem Z8t : Z1s Tryz.prog 85 = true := by kernel_rfl
theorem Y7o : Fl Tryz.prog 119 1 Zwj := ⟨by kernel_rfl, rfl⟩
theorem Y5n : Fl Tryz.prog 119 2 Zrf := ⟨by kernel_rfl, rfl⟩
theorem Ybd : Fl Tryz.prog 119 3 Zvs := ⟨by kernel_rfl, rfl⟩
theorem Zba : Z05 Tryz.prog 85 0 = some (lTern_0.off, Kd.sz Zd) := by kernel_rfl
theorem Zas : Z05 Tryz.prog 85 1 = some (lTern_1.off, Kd.sz Zd) := by kernel_rfl
theorem Zu5 : Sl Tryz.prog 58 119 Z2e := ⟨by kernel_rfl, by kernel_rfl⟩
theorem Zmj : Ty Tryz.prog 119 Z2e := ⟨by kernel_rfl, by kernel_rfl⟩
theorem Yci : Zr Tryz.prog 119 Z2e Zcl := ⟨_, Y4p, by kernel_rfl⟩
theorem Zxu : Fl Tryz.prog 61 5 Zrv := ⟨by kernel_rfl, rfl⟩
theorem Zzq : Ty Tryz.prog 58 (Z1 Z2e) := ⟨by kernel_rfl, by kernel_rfl⟩
theorem Zfz : Zr Tryz.prog 135 Z1o Zgk := ⟨_, Yi4, by kernel_rfl⟩
theorem Zj9 : Fl Tryz.prog 135 1 lwalk_way_1 := ⟨by kernel_rfl, rfl⟩
theorem Z9m : Ty Tryz.prog 61 Z16 := ⟨by kernel_rfl, by kernel_rfl⟩
theorem Y5k : Z1s Tryz.prog 135 = true := by kernel_rfl
theorem Z38 : Ty Tryz.prog 135 Z1o := ⟨by kernel_rfl, by kernel_rfl⟩
theorem Zsx : Fl Tryz.prog 135 0 lwalk_way_0 := ⟨by kernel_rfl, rfl⟩
theorem Yc0 : Fl Tryz.prog 124 0 lInst_0 := ⟨by kernel_rfl, rfl⟩
theorem Z40 : Ty Tryz.prog 124 Z1e := ⟨by kernel_rfl, by kernel_rfl⟩
theorem Y2i : El Tryz.prog 122 121 Z9 := ⟨by kernel_rfl, by kernel_rfl, by kernel_rfl, by kernel_rfl, by kernel_rfl⟩
theorem Zb2 : Fl Tryz.prog 124 4 lInst_4 := ⟨by kernel_rfl, rfl⟩
theorem Z3d : Ty Tryz.prog 122 (Z1 Z9) := ⟨by kernel_rfl, by kernel_rfl⟩
theorem Y5x : Zr Tryz.prog 367 (Z3 2 Z0p) (Vector.replicate 2 0) := ⟨_, (Z47 2 Zn4), by kernel_rfl⟩
theorem Ztn : Ar Tryz.prog 367 40 2 Z0p := ⟨by kernel_rfl, by kernel_rfl⟩
theorem Z8j : Fl Tryz.prog 121 0 lAction_0 := ⟨by kernel_rfl, rfl⟩
theorem Zrs : Fl Tryz.prog 121 5 Zml := ⟨by kernel_rfl, rfl⟩
theorem Zpk : Fl Tryz.prog 346 0 latom_trace_o1_0 := ⟨by kernel_rfl, rfl⟩
theorem Yb1 : Z05 Tryz.prog 126 0 = some (lAtom_0.off, Kd.sz (Z3 24 Z4)) := by kernel_rfl
theorem Zde : Zr Tryz.prog 126 Z0c Zvx := ⟨_, Yal, by kernel_rfl⟩
theorem Yli : Z1s Tryz.prog 126 = true := by kernel_rfl
theorem Zds : Ty Tryz.prog 126 Z0c := ⟨by kernel_rfl, by kernel_rfl⟩
theorem Znx : Fl Tryz.prog 121 1 lAction_1 := ⟨by kernel_rfl, rfl⟩
theorem Zit : Fl Tryz.prog 126 2 Zh3 := ⟨by kernel_rfl, rfl⟩
theorem Y5h : Fl Tryz.prog 121 2 Zri := ⟨by kernel_rfl, rfl⟩
theorem Zxm : Fl Tryz.prog 126 3 Zpu := ⟨by kernel_rfl, rfl⟩
theorem Zqn : Fl Tryz.prog 121 3 Zlw := ⟨by kernel_rfl, rfl⟩
theorem Y4d : Fl Tryz.prog 126 1 Zt2 := ⟨by kernel_rfl, rfl⟩
theorem Z12 : Ty Tryz.prog 121 Z9 := ⟨by kernel_rfl, by kernel_rfl⟩
theorem Zqq : Fl Tryz.prog 346 1 Zi9 := ⟨by kernel_rfl, rfl⟩
theorem Zrx : Ty Tryz.prog 88 kraw := ⟨by kernel_rfl, by kernel_rfl⟩
theorem Z7o : Sl Tryz.prog 88 126 Z0c := ⟨by kernel_rfl, by kernel_rfl⟩
theorem Zfb : El Tryz.prog 88 126 Z0c := ⟨by kernel_rfl, by kernel_rfl, by kernel_rfl, by kernel_rfl, by kernel_rfl⟩
theorem Ygd : Z05 Tryz.prog 346 0 = some (latom_trace_o1_0.off, Kd.sz (Z3 24 Z4)) := by kernel_rfl
theorem Y8b : Zr Tryz.prog 346 Z5v Y51 := ⟨_, Ynj, by kernel_rfl⟩
theorem Ye2 : Z1s Tryz.prog 346 = true := by kernel_rfl
theorem Zkr : Fl Tryz.prog 135 2 Zgc := ⟨by kernel_rfl, rfl⟩
theorem Zbs : Ty Tryz.prog 88 (Z1 Z0c) := ⟨by kernel_rfl, by kernel_rfl⟩
theorem Zl8 : Zr Tryz.prog 275 Z77 Zps := ⟨_, Ygl, by kernel_rfl⟩
theorem Zxk : Z05 Tryz.prog 275 0 = some (laset_spot_0.off, Kd.sz (Z0 .i64)) := by kernel_rfl
theorem Yee : Z05 Tryz.prog 275 1 = some (laset_spot_1.off, Kd.sz (Z0 .i64)) := by kernel_rfl
theorem Zx7 : Z1s Tryz.prog 275 = true := by kernel_rfl
theorem Zi0 : Ty Tryz.prog 275 Z77 := ⟨by kernel_rfl, by kernel_rfl⟩
theorem Zz1 : EqK Tryz.prog 1 3 (Z0 .i64) := Ylh (by kernel_rfl)
theorem Yaj : EqK Tryz.prog 2 275 Z77 := Zyn (fun x y e => by cases x; cases y; simp only [Prod.mk.injEq] at e; simp [e]) (l := _) (by kernel_rfl) (by kernel_rfl) (Y5j Zz1 Zq (Zzi Zz1 Zq))
theorem Y98 : Tryz.prog.eqGuardType Tryz.prog.depth 275 = false := by kernel_rfl
theorem Zxo : Fl Tryz.prog 275 0 laset_spot_0 := ⟨by kernel_rfl, rfl⟩
theorem Zou : Fl Tryz.prog 275 1 laset_spot_1 := ⟨by kernel_rfl, rfl⟩
theorem zr4 : Zr Tryz.prog 4 Z5 false := ⟨_, Zdm, by kernel_rfl⟩
theorem Zmu : Fl Tryz.prog 135 3 Zlq := ⟨by kernel_rfl, rfl⟩
theorem Zy4 : Fl Tryz.prog 124 2 Ztl := ⟨by kernel_rfl, rfl⟩
theorem Y0z : Fl Tryz.prog 124 3 Zu4 := ⟨by kernel_rfl, rfl⟩
theorem Zf0 : Fl Tryz.prog 124 1 Zep := ⟨by kernel_rfl, rfl⟩
theorem Zc1 : Zr Tryz.prog 90 Z0a Zyi := ⟨_, Yd7, by kernel_rfl⟩
theorem Ykl : Z05 Tryz.prog 90 0 = some (lRule_0.off, Kd.sz (Z3 24 Z4)) := by kernel_rfl
theorem Ydf : Z05 Tryz.prog 90 1 = some (lRule_1.off, Kd.sz (Z1 Z0c)) := by kernel_rfl
theorem Y7h : Z1s Tryz.prog 90 = true := by kernel_rfl
theorem Z9f : Ty Tryz.prog 90 Z0a := ⟨by kernel_rfl, by kernel_rfl⟩
theorem Zzs : Fl Tryz.prog 131 0 (Lens.fst Z0d kraw) := ⟨by kernel_rfl, rfl⟩
theorem Zyh (A : Z6) : Fl Tryz.prog 131 0 (Zt0 Z0d A) := ⟨Zzs.1, Zzs.2⟩
theorem Zuw : Fl Tryz.prog 131 1 (Lens.snd Z0d kraw) := ⟨by kernel_rfl, rfl⟩
theorem Zyr (A : Z6) : Fl Tryz.prog 131 1 (Zq4 Z0d A) := ⟨Zuw.1, Zuw.2⟩
theorem tyr92 : Ty Tryz.prog 92 kraw := ⟨by kernel_rfl, by kernel_rfl⟩
theorem Zys (A : Z6) : Ty Tryz.prog 92 (kas A) := ⟨tyr92.sz, tyr92.ag⟩
theorem Zp0 : Fl Tryz.prog 61 6 lFlow_6 := ⟨by kernel_rfl, rfl⟩
theorem Zot : Ty Tryz.prog 59 (Z1 Z1e) := ⟨by kernel_rfl, by kernel_rfl⟩
theorem Y6k : Zr Tryz.prog 131 (Z2 Z0d kraw) (Zmn, .nilFunc) := ⟨_, Z04 Ztg (Zah rfl), by kernel_rfl⟩
theorem Yen : Z05 Tryz.prog 135 0 = some (lwalk_way_0.off, Kd.sz (Z3 24 Z4)) := by kernel_rfl
theorem Ymn : Z05 Tryz.prog 135 1 = some (lwalk_way_1.off, Kd.sz (Z3 24 Z4)) := by kernel_rfl
theorem Z59 : Sl Tryz.prog 32 90 Z0a := ⟨by kernel_rfl, by kernel_rfl⟩
theorem Zul : El Tryz.prog 32 90 Z0a := ⟨by kernel_rfl, by kernel_rfl, by kernel_rfl, by kernel_rfl, by kernel_rfl⟩
theorem Zsr : Ty Tryz.prog 32 kraw := ⟨by kernel_rfl, by kernel_rfl⟩
theorem Yjo : Fl Tryz.prog 288 1 lcover_purse_1 := ⟨by kernel_rfl, rfl⟩
theorem Ztp : Fl Tryz.prog 288 0 lcover_purse_0 := ⟨by kernel_rfl, rfl⟩
theorem Z7j : Sl Tryz.prog 229 87 (Z3 24 Z4) := ⟨by kernel_rfl, by kernel_rfl⟩
theorem Y5v : Zpp Tryz.prog 85 0 = some 42 := by kernel_rfl
theorem Yit : (Tryz.prog.underlying 40).isSome = true := by kernel_rfl
theorem tyr286 : Ty Tryz.prog 286 kraw := ⟨by kernel_rfl, by kernel_rfl⟩
theorem Y2z (A : Z6) : Ty Tryz.prog 286 (kas A) := ⟨tyr286.sz, tyr286.ag⟩
theorem Ya5 : Fl Tryz.prog 290 0 lcover_look_0 := ⟨by kernel_rfl, rfl⟩
theorem Zmf : Ty Tryz.prog 229 (Z1 (Z3 24 Z4)) := ⟨by kernel_rfl, by kernel_rfl⟩
theorem Ylp : Z05 Tryz.prog 288 0 = some (lcover_purse_0.off, Kd.sz (Z0 .i64)) := by kernel_rfl
theorem Yk2 : Z05 Tryz.prog 288 1 = some (lcover_purse_1.off, Kd.sz Z5) := by kernel_rfl
theorem Yly : Zr Tryz.prog 288 Z6f Zt8 := ⟨_, Zvm, by kernel_rfl⟩
theorem Yf4 : Z1s Tryz.prog 288 = true := by kernel_rfl
theorem Y9d : Z05 Tryz.prog 290 0 = some (lcover_look_0.off, Kd.sz Z6f) := by kernel_rfl
theorem Ydi : Zr Tryz.prog 290 Z1z Zv8 := ⟨_, Yhf, by kernel_rfl⟩
theorem Ydr : Z1s Tryz.prog 290 = true := by kernel_rfl
theorem Zs2 : Fl Tryz.prog 90 1 lRule_1 := ⟨by kernel_rfl, rfl⟩
theorem Zpg : Fl Tryz.prog 90 0 lRule_0 := ⟨by kernel_rfl, rfl⟩
theorem Zz9 : El Tryz.prog 229 87 (Z3 24 Z4) := ⟨by kernel_rfl, by kernel_rfl, by kernel_rfl, by kernel_rfl, by kernel_rfl⟩
theorem Zsn : Fl Tryz.prog 164 0 Zns := ⟨by kernel_rfl, rfl⟩
theorem Z5g : Sl Tryz.prog 24 164 Zz := ⟨by kernel_rfl, by kernel_rfl⟩
theorem Z5h : Ty Tryz.prog 164 Zz := ⟨by kernel_rfl, by kernel_rfl⟩
theorem Y3v : El Tryz.prog 24 164 Zz := ⟨by kernel_rfl, by kernel_rfl, by kernel_rfl, by kernel_rfl, by kernel_rfl⟩
theorem Zbq : Zr Tryz.prog 164 Zz Zpr := ⟨_, Zxi, by kernel_rfl⟩
theorem Z5w : Sl Tryz.prog 162 226 Z1y := ⟨by kernel_rfl, by kernel_rfl⟩
theorem Ylm : El Tryz.prog 162 226 Z1y := ⟨by kernel_rfl, by kernel_rfl, by kernel_rfl, by kernel_rfl, by kernel_rfl⟩
theorem Zv3 : Zr Tryz.prog 226 Z1y Zw5 := ⟨_, Y8s, by kernel_rfl⟩
theorem Zhs : Fl Tryz.prog 226 3 Zd2 := ⟨by kernel_rfl, rfl⟩
theorem Z8p : Fl Tryz.prog 164 2 Z80 := ⟨by kernel_rfl, rfl⟩
theorem Z8l : Ty Tryz.prog 162 (Z1 Z1y) := ⟨by kernel_rfl, by kernel_rfl⟩
theorem Yhu : Z1s Tryz.prog 164 = true := by kernel_rfl
theorem Zoi : Zr Tryz.prog 73 Z5x Zpz := ⟨_, Zxf, by kernel_rfl⟩
theorem Y2k : Z1s Tryz.prog 73 = true := by kernel_rfl
theorem Zbx : Ty Tryz.prog 73 Z5x := ⟨by kernel_rfl, by kernel_rfl⟩
theorem Zm8 : Fl Tryz.prog 26 1 Zim := ⟨by kernel_rfl, rfl⟩
theorem Zes : Ty Tryz.prog 24 (Z1 Zz) := ⟨by kernel_rfl, by kernel_rfl⟩
theorem Y81 : Z05 Tryz.prog 73 0 = some (lFlat_0.off, Kd.sz (Z1 Z0a)) := by kernel_rfl
theorem Yai : Z05 Tryz.prog 73 1 = some (lFlat_1.off, Kd.sz (Z1 Zz)) := by kernel_rfl
theorem Zhw : Fl Tryz.prog 338 0 lslice_heap_o0_0 := ⟨by kernel_rfl, rfl⟩
theorem Zhz : Ty Tryz.prog 229 kraw := ⟨by kernel_rfl, by kernel_rfl⟩
theorem Yjx : Fl Tryz.prog 338 1 lslice_heap_o0_1 := ⟨by kernel_rfl, rfl⟩
theorem tyr336 : Ty Tryz.prog 336 kraw := ⟨by kernel_rfl, by kernel_rfl⟩
theorem Zle (A : Z6) : Ty Tryz.prog 336 (kas A) := ⟨tyr336.sz, tyr336.ag⟩
theorem Zl5 : Fl Tryz.prog 73 0 lFlat_0 := ⟨by kernel_rfl, rfl⟩
theorem Zi5 : Ty Tryz.prog 32 (Z1 Z0a) := ⟨by kernel_rfl, by kernel_rfl⟩
theorem Yo5 : Z05 Tryz.prog 338 0 = some (lslice_heap_o0_0.off, Kd.sz kraw) := by kernel_rfl
theorem Yi9 : Z05 Tryz.prog 338 1 = some (lslice_heap_o0_1.off, Kd.sz (Z0 .i64)) := by kernel_rfl
theorem Yfk : Zr Tryz.prog 338 Z1t Y0l := ⟨_, Ym3, by kernel_rfl⟩
theorem Yk6 : Z1s Tryz.prog 338 = true := by kernel_rfl
theorem Zqd : Sl Tryz.prog 248 229 (Z1 (Z3 24 Z4)) := ⟨by kernel_rfl, by kernel_rfl⟩
theorem Yk1 : Zr Tryz.prog 229 (Z1 (Z3 24 Z4)) [] := ⟨_, (Z3v _), by kernel_rfl⟩
theorem Ycm : El Tryz.prog 248 229 (Z1 (Z3 24 Z4)) := ⟨by kernel_rfl, by kernel_rfl, by kernel_rfl, by kernel_rfl, by kernel_rfl⟩
theorem Zcz : Fl Tryz.prog 67 0 lNet_0 := ⟨by kernel_rfl, rfl⟩
theorem Zcr : Ty Tryz.prog 64 (Z1 Z0d) := ⟨by kernel_rfl, by kernel_rfl⟩
theorem Z87 : Sl Tryz.prog 64 26 Z0d := ⟨by kernel_rfl, by kernel_rfl⟩
theorem Yb4 : Z05 Tryz.prog 252 0 = some (lspread_table_0.off, Kd.sz Z5x) := by kernel_rfl
theorem Ycn : Z05 Tryz.prog 252 1 = some (lspread_table_1.off, Kd.sz (Z1 (Z1 (Z3 24 Z4)))) := by kernel_rfl
theorem Zrz : Zr Tryz.prog 252 Z2i Y2f := ⟨_, Y96, by kernel_rfl⟩
theorem Yim : Z1s Tryz.prog 252 = true := by kernel_rfl
theorem Y5b : Sl Tryz.prog 181 252 Z2i := ⟨by kernel_rfl, by kernel_rfl⟩
theorem Y63 : El Tryz.prog 181 252 Z2i := ⟨by kernel_rfl, by kernel_rfl, by kernel_rfl, by kernel_rfl, by kernel_rfl⟩
theorem Zdw : Zr Tryz.prog 189 Z2q Y2a := ⟨_, Y92, by kernel_rfl⟩
theorem Zhm : Fl Tryz.prog 189 1 lspread_beam_1 := ⟨by kernel_rfl, rfl⟩
theorem Zqy : Z1s Tryz.prog 189 = true := by kernel_rfl
theorem Z6r : Ty Tryz.prog 189 Z2q := ⟨by kernel_rfl, by kernel_rfl⟩
theorem Zlh : Fl Tryz.prog 189 0 lspread_beam_0 := ⟨by kernel_rfl, rfl⟩
theorem Yct : Fl Tryz.prog 39 0 Y2b := ⟨by kernel_rfl, rfl⟩
theorem Zzb : Fl Tryz.prog 39 1 Zsc := ⟨by kernel_rfl, rfl⟩
theorem Y34 : Ty Tryz.prog 37 (Z1 (Z0 .i64)) := ⟨by kernel_rfl, by kernel_rfl⟩
theorem Y5r : Fl Tryz.prog 328 0 lenv_world_0 := ⟨by kernel_rfl, rfl⟩
theorem Z4x : Ty Tryz.prog 39 Z0q := ⟨by kernel_rfl, by kernel_rfl⟩
theorem Y7r : Fl Tryz.prog 226 1 Y35 := ⟨by kernel_rfl, rfl⟩
theorem Zst : Ty Tryz.prog 226 Z1y := ⟨by kernel_rfl, by kernel_rfl⟩
theorem Zj3 : Fl Tryz.prog 328 1 lenv_world_1 := ⟨by kernel_rfl, rfl⟩
theorem Yjd : Z05 Tryz.prog 328 0 = some (lenv_world_0.off, Kd.sz Z0q) := by kernel_rfl
theorem Yaq : Z05 Tryz.prog 328 1 = some (lenv_world_1.off, Kd.sz Zz) := by kernel_rfl
theorem Y2e : Zr Tryz.prog 328 Zc7 Zw2 := ⟨_, Ymh, by kernel_rfl⟩
theorem Ymz : Z1s Tryz.prog 328 = true := by kernel_rfl
theorem Y1b : Ty Tryz.prog 328 Zc7 := ⟨by kernel_rfl, by kernel_rfl⟩
theorem Yh7 : Fl Tryz.prog 164 1 Y3e := ⟨by kernel_rfl, rfl⟩
theorem Zxr : Ty Tryz.prog 307 Z4e := ⟨by kernel_rfl, by kernel_rfl⟩
theorem Zog : Fl Tryz.prog 126 0 lAtom_0 := ⟨by kernel_rfl, rfl⟩
theorem Yg5 : Fl Tryz.prog 307 1 lnorm_world_1 := ⟨by kernel_rfl, rfl⟩
theorem Zte : Fl Tryz.prog 307 2 Zmq := ⟨by kernel_rfl, rfl⟩
theorem Ycf : Fl Tryz.prog 307 0 lnorm_world_0 := ⟨by kernel_rfl, rfl⟩
theorem Yip : Z05 Tryz.prog 307 0 = some (lnorm_world_0.off, Kd.sz Z0q) := by kernel_rfl
theorem Yih : Z05 Tryz.prog 307 1 = some (lnorm_world_1.off, Kd.sz (Z1 Zz)) := by kernel_rfl
theorem Ye0 : Zr Tryz.prog 307 Z4e Zxa := ⟨_, Ybn, by kernel_rfl⟩
theorem Ynt : Z1s Tryz.prog 307 = true := by kernel_rfl
theorem Y0g : Z05 Tryz.prog 189 0 = some (lspread_beam_0.off, Kd.sz (Z3 24 Z4)) := by kernel_rfl
theorem Zwc : Z05 Tryz.prog 189 1 = some (lspread_beam_1.off, Kd.sz (Z3 24 Z4)) := by kernel_rfl
theorem Yj1 : Fl Tryz.prog 152 0 lLink_0 := ⟨by kernel_rfl, rfl⟩
theorem Y8c : Fl Tryz.prog 152 1 lLink_1 := ⟨by kernel_rfl, rfl⟩
theorem Z6q : Ty Tryz.prog 67 Z26 := ⟨by kernel_rfl, by kernel_rfl⟩
theorem Zv4 : Fl Tryz.prog 152 2 lLink_2 := ⟨by kernel_rfl, rfl⟩
theorem Zg5 : Sl Tryz.prog 65 152 Z35 := ⟨by kernel_rfl, by kernel_rfl⟩
theorem Ylr : Ty Tryz.prog 152 Z35 := ⟨by kernel_rfl, by kernel_rfl⟩
theorem Zox : Fl Tryz.prog 67 1 lNet_1 := ⟨by kernel_rfl, rfl⟩
theorem Zny : Ty Tryz.prog 65 (Z1 Z35) := ⟨by kernel_rfl, by kernel_rfl⟩
theorem Ycp : Fl Tryz.prog 152 3 lLink_3 := ⟨by kernel_rfl, rfl⟩
theorem Zcc : Fl Tryz.prog 186 4 Z7p := ⟨by kernel_rfl, rfl⟩
theorem Zb7 : Ty Tryz.prog 108 kraw := ⟨by kernel_rfl, by kernel_rfl⟩
theorem Y0p : Z05 Tryz.prog 103 0 = some (lRay_0.off, Kd.sz (Z0 .i64)) := by kernel_rfl
theorem Zzv : Z05 Tryz.prog 103 4 = some (lRay_4.off, Kd.sz (Z3 24 Z4)) := by kernel_rfl
theorem Y20 : Z05 Tryz.prog 103 5 = some (lRay_5.off, Kd.sz (Z3 24 Z4)) := by kernel_rfl
theorem Zlr : Zr Tryz.prog 103 Z0y Y2c := ⟨_, Ydx, by kernel_rfl⟩
theorem Zxj : Z1s Tryz.prog 103 = true := by kernel_rfl
theorem Z7z : Sl Tryz.prog 108 103 Z0y := ⟨by kernel_rfl, by kernel_rfl⟩
theorem Zwa : El Tryz.prog 108 103 Z0y := ⟨by kernel_rfl, by kernel_rfl, by kernel_rfl, by kernel_rfl, by kernel_rfl⟩
theorem Yad : Fl Tryz.prog 186 2 lspread_sun_o4_2 := ⟨by kernel_rfl, rfl⟩
theorem Yiw : Ty Tryz.prog 181 (Z1 Z2i) := ⟨by kernel_rfl, by kernel_rfl⟩
theorem Y3f : Ty Tryz.prog 252 Z2i := ⟨by kernel_rfl, by kernel_rfl⟩
theorem Y5z : Fl Tryz.prog 252 1 lspread_table_1 := ⟨by kernel_rfl, rfl⟩
theorem Ynx : Ty Tryz.prog 248 (Z1 (Z1 (Z3 24 Z4))) := ⟨by kernel_rfl, by kernel_rfl⟩
theorem Y5c : Fl Tryz.prog 186 3 lspread_sun_o4_3 := ⟨by kernel_rfl, rfl⟩
theorem Zvw : Fl Tryz.prog 252 0 lspread_table_0 := ⟨by kernel_rfl, rfl⟩
theorem Ygz : Fl Tryz.prog 73 1 lFlat_1 := ⟨by kernel_rfl, rfl⟩
theorem Yjb : Fl Tryz.prog 186 1 lspread_sun_o4_1 := ⟨by kernel_rfl, rfl⟩
theorem Y7q : Fl Tryz.prog 186 0 lspread_sun_o4_0 := ⟨by kernel_rfl, rfl⟩
theorem Yms : Z05 Tryz.prog 103 1 = some (lRay_1.off, Kd.sz (Z0 .i64)) := by kernel_rfl
theorem Yek : Z05 Tryz.prog 103 2 = some (lRay_2.off, Kd.sz (Z0 .i64)) := by kernel_rfl
theorem Ycc : Z05 Tryz.prog 103 3 = some (lRay_3.off, Kd.sz Z5) := by kernel_rfl
theorem Y1v : Tryz.prog.underlying 40 = some (.int .u64) := by kernel_rfl
theorem Yin : Z05 Tryz.prog 186 0 = some (lspread_sun_o4_0.off, Kd.sz Z26) := by kernel_rfl
theorem Yhh : Z05 Tryz.prog 186 1 = some (lspread_sun_o4_1.off, Kd.sz Z0q) := by kernel_rfl
theorem Ylu : Z05 Tryz.prog 186 2 = some (lspread_sun_o4_2.off, Kd.sz (Z1 Z2i)) := by kernel_rfl
theorem Y9w : Z05 Tryz.prog 186 3 = some (lspread_sun_o4_3.off, Kd.sz (Z0 .i64)) := by kernel_rfl
theorem Y8x : Zr Tryz.prog 186 Z19 Y4y := ⟨_, Yko, by kernel_rfl⟩
theorem Yel : Z1s Tryz.prog 186 = true := by kernel_rfl
theorem Ydy : Z05 Tryz.prog 152 0 = some (lLink_0.off, Kd.sz (Z0 .i64)) := by kernel_rfl
theorem Yec : Z05 Tryz.prog 152 1 = some (lLink_1.off, Kd.sz (Z0 .i64)) := by kernel_rfl
theorem Yhd : Z05 Tryz.prog 152 2 = some (lLink_2.off, Kd.sz (Z0 .i64)) := by kernel_rfl
theorem Yd9 : Z05 Tryz.prog 152 3 = some (lLink_3.off, Kd.sz (Z0 .i64)) := by kernel_rfl
theorem Zuz : Zr Tryz.prog 152 Z35 Y0r := ⟨_, Y8m, by kernel_rfl⟩
theorem Yh1 : Z1s Tryz.prog 152 = true := by kernel_rfl
theorem Ybb : Z05 Tryz.prog 67 0 = some (lNet_0.off, Kd.sz (Z1 Z0d)) := by kernel_rfl
theorem Yhg : Z05 Tryz.prog 67 1 = some (lNet_1.off, Kd.sz (Z1 Z35)) := by kernel_rfl
theorem Y52 : Zr Tryz.prog 67 Z26 Znt := ⟨_, Ztz, by kernel_rfl⟩
theorem Ynh : Z1s Tryz.prog 67 = true := by kernel_rfl
theorem Zwy : Zr Tryz.prog 39 Z0q Zaa := ⟨_, Zef, by kernel_rfl⟩
theorem Y3q : Z1s Tryz.prog 39 = true := by kernel_rfl
theorem Zfk : Ty Tryz.prog 103 Z0y := ⟨by kernel_rfl, by kernel_rfl⟩
theorem Zs3 : Fl Tryz.prog 69 3 lEnd_3 := ⟨by kernel_rfl, rfl⟩
theorem Zs1 : Fl Tryz.prog 69 0 lEnd_0 := ⟨by kernel_rfl, rfl⟩
theorem Zud : Fl Tryz.prog 69 1 lEnd_1 := ⟨by kernel_rfl, rfl⟩
theorem Ztr : Fl Tryz.prog 69 4 lEnd_4 := ⟨by kernel_rfl, rfl⟩
theorem un4 : Tryz.prog.underlying 4 = some (.bool) := by kernel_rfl
theorem Y4q : EqK Tryz.prog 1 40 Z0p := Yl2 (by kernel_rfl)
theorem Y9r : EqK Tryz.prog 2 42 Zd := Zyn (fun x y e => by cases x; cases y; simp only [Prod.mk.injEq] at e; simp [e]) (l := _) (by kernel_rfl) (by kernel_rfl) (Y5j Y4q Z2p (Zzi Y4q Z2p))
theorem Y9y : EqK Tryz.prog 3 44 (Z3 24 Zd) := Y7g Y9r Z02 Zdl
theorem Y4g : Ty Tryz.prog 23 (Z3 4 (Z1 Z16)) := ⟨by kernel_rfl, by kernel_rfl⟩
theorem Y67 : Fl Tryz.prog 237 1 lexec_run_o2_1 := ⟨by kernel_rfl, rfl⟩
theorem Zja : Fl Tryz.prog 237 4 Zgv := ⟨by kernel_rfl, rfl⟩
theorem Zhx : Fl Tryz.prog 237 3 lexec_run_o2_3 := ⟨by kernel_rfl, rfl⟩
theorem Yjk : Fl Tryz.prog 237 0 lexec_run_o2_0 := ⟨by kernel_rfl, rfl⟩
theorem Zqr : Fl Tryz.prog 237 2 Zkt := ⟨by kernel_rfl, rfl⟩
theorem Zh0 : Ty Tryz.prog 46 kraw := ⟨by kernel_rfl, by kernel_rfl⟩
theorem Yf3 : Z05 Tryz.prog 71 0 = some (lOut_0.off, Kd.sz (Z0 .i64)) := by kernel_rfl
theorem Yj9 : Z05 Tryz.prog 71 1 = some (lOut_1.off, Kd.sz (Z0 .i64)) := by kernel_rfl
theorem Ydk : Z05 Tryz.prog 71 2 = some (lOut_2.off, Kd.sz (Z3 24 Zd)) := by kernel_rfl
theorem Zq9 : Zr Tryz.prog 71 Z0r Y1h := ⟨_, Y9j, by kernel_rfl⟩
theorem Ylc : Z1s Tryz.prog 71 = true := by kernel_rfl
theorem Zqj : Sl Tryz.prog 46 71 Z0r := ⟨by kernel_rfl, by kernel_rfl⟩
theorem Zup : El Tryz.prog 46 71 Z0r := ⟨by kernel_rfl, by kernel_rfl, by kernel_rfl, by kernel_rfl, by kernel_rfl⟩
theorem Ycr : Z05 Tryz.prog 237 0 = some (lexec_run_o2_0.off, Kd.sz Z0q) := by kernel_rfl
theorem Ybf : Z05 Tryz.prog 237 1 = some (lexec_run_o2_1.off, Kd.sz (Z1 Zz)) := by kernel_rfl
theorem Y8p : Z05 Tryz.prog 237 3 = some (lexec_run_o2_3.off, Kd.sz (Z3 24 Zd)) := by kernel_rfl
theorem Ybi : Zr Tryz.prog 237 Z1h Zyy := ⟨_, Ydm, by kernel_rfl⟩
theorem Ydh : Z1s Tryz.prog 237 = true := by kernel_rfl
theorem Zqt : Fl Tryz.prog 144 0 lsem_packet_o4_5_0 := ⟨by kernel_rfl, rfl⟩
theorem Y74 : Fl Tryz.prog 144 1 lsem_packet_o4_5_1 := ⟨by kernel_rfl, rfl⟩
theorem Zj1 : Fl Tryz.prog 144 2 lsem_packet_o4_5_2 := ⟨by kernel_rfl, rfl⟩
theorem Zsd : Fl Tryz.prog 144 4 Zir := ⟨by kernel_rfl, rfl⟩
theorem Znh : Fl Tryz.prog 144 3 Zl4 := ⟨by kernel_rfl, rfl⟩
theorem Zpc : Fl Tryz.prog 144 5 Zip := ⟨by kernel_rfl, rfl⟩
theorem Zm3 : Ty Tryz.prog 49 kraw := ⟨by kernel_rfl, by kernel_rfl⟩
theorem Y2d : Z05 Tryz.prog 51 0 = some (lPlace_0.off, Kd.sz (Z0 .i64)) := by kernel_rfl
theorem Zzu : Z05 Tryz.prog 51 1 = some (lPlace_1.off, Kd.sz (Z0 .i64)) := by kernel_rfl
theorem Zoj : Zr Tryz.prog 51 Z43 Y11 := ⟨_, Ycu, by kernel_rfl⟩
theorem Y4b : Z1s Tryz.prog 51 = true := by kernel_rfl
theorem Zze : Sl Tryz.prog 49 51 Z43 := ⟨by kernel_rfl, by kernel_rfl⟩
theorem Y0s : El Tryz.prog 49 51 Z43 := ⟨by kernel_rfl, by kernel_rfl, by kernel_rfl, by kernel_rfl, by kernel_rfl⟩
theorem Y97 : Z05 Tryz.prog 144 0 = some (lsem_packet_o4_5_0.off, Kd.sz Z0d) := by kernel_rfl
theorem Yg9 : Z05 Tryz.prog 144 1 = some (lsem_packet_o4_5_1.off, Kd.sz Z0q) := by kernel_rfl
theorem Ykw : Z05 Tryz.prog 144 2 = some (lsem_packet_o4_5_2.off, Kd.sz (Z3 24 Zd)) := by kernel_rfl
theorem Y6p : Zr Tryz.prog 144 Z1u Y4u := ⟨_, Yif, by kernel_rfl⟩
theorem Y9m : Z1s Tryz.prog 144 = true := by kernel_rfl
theorem Zh5 : Fl Tryz.prog 156 2 Z9e := ⟨by kernel_rfl, rfl⟩
theorem Zgd : Ty Tryz.prog 62 kraw := ⟨by kernel_rfl, by kernel_rfl⟩
theorem Z4q : Sl Tryz.prog 62 69 Z1d := ⟨by kernel_rfl, by kernel_rfl⟩
theorem Zqm : El Tryz.prog 62 69 Z1d := ⟨by kernel_rfl, by kernel_rfl, by kernel_rfl, by kernel_rfl, by kernel_rfl⟩
theorem Zse : Fl Tryz.prog 156 0 ltrace_trip_o2_0 := ⟨by kernel_rfl, rfl⟩
theorem Yi2 : Fl Tryz.prog 156 1 ltrace_trip_o2_1 := ⟨by kernel_rfl, rfl⟩
theorem Zzm : Ty Tryz.prog 71 Z0r := ⟨by kernel_rfl, by kernel_rfl⟩
theorem Zzt : Fl Tryz.prog 71 0 lOut_0 := ⟨by kernel_rfl, rfl⟩
theorem Yme : Fl Tryz.prog 71 1 lOut_1 := ⟨by kernel_rfl, rfl⟩
theorem Y4h : Fl Tryz.prog 71 2 lOut_2 := ⟨by kernel_rfl, rfl⟩
theorem Yf5 : Z05 Tryz.prog 156 0 = some (ltrace_trip_o2_0.off, Kd.sz Z26) := by kernel_rfl
theorem Yc2 : Z05 Tryz.prog 156 1 = some (ltrace_trip_o2_1.off, Kd.sz Z0q) := by kernel_rfl
theorem Yf0 : Zr Tryz.prog 156 Z2h Y3p := ⟨_, Yav, by kernel_rfl⟩
theorem Yhs : Z1s Tryz.prog 156 = true := by kernel_rfl
theorem Y1z : Fl Tryz.prog 69 2 lEnd_2 := ⟨by kernel_rfl, rfl⟩
theorem Yha : Tryz.prog.eqGuardType Tryz.prog.depth 44 = false := by kernel_rfl
theorem Zw : Tryz.prog.follows .mixedOrders = true := by kernel_rfl
end Go.Proofs.YtknpgojdkobgjaaGreat.W
set_option maxRecDepth 4000
namespace Go.Proofs.YtknpgojdkobgjaaGreat.W
open Go Go.Wb
theorem Ylo : Ent Tryz.prog 237 := Ent.mk Tryz.func237 rfl rfl
theorem Zlj : Ent Tryz.prog 177 := Ent.mk Tryz.func177 rfl rfl
theorem Y9i : Ent Tryz.prog 174 := Ent.mk Tryz.func174 rfl rfl
theorem Zs0 : Ent Tryz.prog 173 := Ent.mk Tryz.func173 rfl rfl
theorem Zsa : Ent Tryz.prog 106 := Ent.mk Tryz.func106 rfl rfl
theorem e50 : Ent Tryz.prog 50 := Ent.mk Tryz.func50 rfl rfl
def Zty (a1 : Wide) (b2 : Wide) : Option Wide :=
 some (⟨(a1.Hi ^^^ b2.Hi), (a1.Lo ^^^ b2.Lo)⟩ : Wide)
theorem Yl0 : Q2 Tryz.prog 237 (rd Zd) (rd Zd) (rd Zd) Zty := fun a1 b2 r h => I0 Tryz.func237 rfl Tryz.ntmps237 rfl fun w H => by
 unfold Zty at h
 refine SR <| Cv rfl (Zn 3 rfl rfl (vt rfl)) fun g3 => Cv rfl (Zn 4 rfl rfl (vt rfl)) fun g4 => Cv rfl (Zs 5 rfl rfl Z3p) fun g5 => Nl <| SR <| Zh lWide_0 Z8z rfl <| Ld Z2p 3 rfl <| Zh lWide_0 Z8z rfl <| Ld Z2p 4 rfl <| Ac (Zvq rfl rfl (vt rfl) (vt rfl)) rfl <| Zh lWide_1 Z7r rfl <| Ld Z2p 3 rfl <| Zh lWide_1 Z7r rfl <| Ld Z2p 4 rfl <| Ac (Zvq rfl rfl (vt rfl) (vt rfl)) rfl <| Ac (opb (⟨(a1.Hi ^^^ b2.Hi), (a1.Lo ^^^ b2.Lo)⟩ : Wide) Z3p rfl Z74 (pc Zhq (vt rfl) <| pc Z9c (vt rfl) <| pn rfl)) rfl <| Zj Z02 5 rfl <| Nl <| rt ?_
 cases h; exact Zf Tryz.results237 rfl (Z01 rfl (i := 5) rfl Z02)
def Zc0 (a1 : Wide) (b2 : Wide) : Option Wide :=
 some (⟨(a1.Hi &&& b2.Hi), (a1.Lo &&& b2.Lo)⟩ : Wide)
theorem Zkc : Q2 Tryz.prog 177 (rd Zd) (rd Zd) (rd Zd) Zc0 := fun a1 b2 r h => I0 Tryz.func177 rfl Tryz.ntmps177 rfl fun w H => by
 unfold Zc0 at h
 refine SR <| Cv rfl (Zn 3 rfl rfl (vt rfl)) fun g3 => Cv rfl (Zn 4 rfl rfl (vt rfl)) fun g4 => Cv rfl (Zs 5 rfl rfl Z3p) fun g5 => Nl <| SR <| Zh lWide_0 Z8z rfl <| Ld Z2p 3 rfl <| Zh lWide_0 Z8z rfl <| Ld Z2p 4 rfl <| Ac (Zdc rfl rfl (vt rfl) (vt rfl)) rfl <| Zh lWide_1 Z7r rfl <| Ld Z2p 3 rfl <| Zh lWide_1 Z7r rfl <| Ld Z2p 4 rfl <| Ac (Zdc rfl rfl (vt rfl) (vt rfl)) rfl <| Ac (opb (⟨(a1.Hi &&& b2.Hi), (a1.Lo &&& b2.Lo)⟩ : Wide) Z3p rfl Z74 (pc Zhq (vt rfl) <| pc Z9c (vt rfl) <| pn rfl)) rfl <| Zj Z02 5 rfl <| Nl <| rt ?_
 cases h; exact Zf Tryz.results177 rfl (Z01 rfl (i := 5) rfl Z02)
def Zsv (a1 : Wide) (b2 : Wide) (m3 : Wide) : Option Wide :=
 (Zty a1 b2).bind fun x8 => (Zc0 x8 m3).bind fun x9 => some x9
theorem Ynn : Q3 Tryz.prog 174 (rd Zd) (rd Zd) (rd Zd) (rd Zd) Zsv := fun a1 b2 m3 r h => I0 Tryz.func174 rfl Tryz.ntmps174 rfl fun w H => by
 unfold Zsv at h
 refine SR <| Cv rfl (Zn 4 rfl rfl (vt rfl)) fun g4 => Cv rfl (Zn 5 rfl rfl (vt rfl)) fun g5 => Cv rfl (Zn 6 rfl rfl (vt rfl)) fun g6 => Cv rfl (Zs 7 rfl rfl Z3p) fun g7 => Nl <| sq ?_
 obtain ⟨x8, hx8, x9, hx9, h⟩ := bs2 h
 refine AR Zw (by kernel_rfl) <| Zm Z02 4 rfl <| Zm Z02 5 rfl <| SCl [7, 8] (Yl0 _ _ _ hx8) Ylo rfl <| Zm Z02 6 rfl <| SCl [9, 10] (Zkc _ _ _ hx9) Zlj rfl <| SSt Z02 7 rfl <| Sn <| rt ?_
 cases h; exact Zf Tryz.results174 rfl (Z01 rfl (i := 7) rfl Z02)
def Zgr (a1 : Wide) : Option Bool :=
 some (decide ((a1.Hi ||| a1.Lo) = (0 : BitVec 64)))
theorem Zqv : Q1 Tryz.prog 173 (rd Zd) (rd Z5) Zgr := fun a1 r h => I0 Tryz.func173 rfl Tryz.ntmps173 rfl fun w H => by
 unfold Zgr at h
 refine SR <| Cv rfl (Zn 2 rfl rfl (vt rfl)) fun g2 => Ab rfl <| Nl <| SR <| Zh lWide_0 Z8z rfl <| Ld Z2p 2 rfl <| Zh lWide_1 Z7r rfl <| Ld Z2p 2 rfl <| Ac (Zqk rfl rfl (vt rfl) (vt rfl)) rfl <| Ac (Zx6 rfl rfl (vt rfl) (vku (0 : BitVec 64) rfl)) rfl <| As rfl <| Nl <| rt ?_
 cases h; exact Zf Tryz.results173 rfl (Za rfl)
def Zfa (t1 : Tern) (x2 : Wide) : Option Bool :=
 (Zsv t1.Value x2 t1.Mask).bind fun x5 => (Zgr x5).bind fun x6 => some x6
theorem Zsm : Q2 Tryz.prog 106 (rd Z4) (rd Zd) (rd Z5) Zfa := fun t1 x2 r h => I0 Tryz.func106 rfl Tryz.ntmps106 rfl fun w H => by
 unfold Zfa at h
 refine SR <| Cv rfl (Zn 3 rfl rfl (vt rfl)) fun g3 => Cv rfl (Zn 4 rfl rfl (vt rfl)) fun g4 => Ab rfl <| Nl <| sq ?_
 obtain ⟨x5, hx5, x6, hx6, h⟩ := bs2 h
 refine Rg <| Zh lTern_0 Z4f rfl <| Ld Z02 3 rfl <| Ld Z02 4 rfl <| Zh lTern_1 Z3m rfl <| Ld Z02 3 rfl <| Cl [6, 7, 9] (Ynn _ _ _ _ hx5) Y9i rfl <| Cl [10] (Zqv _ _ hx6) Zs0 rfl <| As rfl <| Nl <| rt ?_
 cases h; exact Zf Tryz.results106 rfl (Za rfl)
def Zbn (x2 : Z09) : (List Tern) → Nat → Option Bool
 | [], i5 => some true
 | x7 :: l6, i5 => (chk 24 (i5 : Int)).bind fun j9 => (Zfa x7 (Vector.get x2 j9)).bind fun x10 => (bif (!x10) then some false else (Zbn x2 l6) (i5 + 1))
def Zav (x1 : Zl) (x2 : Z09) : Option Bool :=
 Zbn x2 (Vector.toList x1) 0
theorem Zt1 : Q2 Tryz.prog 50 (rd (Z3 24 Z4)) (rd (Z3 24 Zd)) (rd Z5) Zav := fun x1 x2 r h => I0 Tryz.func50 rfl Tryz.ntmps50 rfl fun w H => by
 unfold Zav at h
 refine SR <| Cv rfl (Zn 3 rfl rfl (vt rfl)) fun g3 => Cv rfl (Zn 4 rfl rfl (vt rfl)) fun g4 => Ab rfl <| Nl <| sq <| SR <| Ld Z00 3 rfl <| Mk rfl <| Nl <| bk <| LG (d := []) (ν := (List Tern) × Nat) (fun (l6, i5) => (Sfx (Vector.toList x1) i5 l6 ∧ Zbn x2 l6 i5 = some r, l6.length, [(3, Z7 g4 (Lens.id (Z3 24 Zd))), (7, rd (Z3 24 Z4) x1), (8, rd (Z0 .i64) (i5 : Int))], [(4, Zc g4 44 (Z3 24 Zd) x2)])) ((Vector.toList x1), 0) ⟨Sfx.start _, h⟩ (FX rfl) ?_
 rintro ⟨l6, i5⟩ ⟨hsf1, h⟩
 dsimp only at hsf1 h ⊢
 cases l6 with
 | nil =>
  unfold Zbn at h
  refine SR <| Ac (Zi rfl rfl (vt rfl) (vk rfl)) rfl <| Nl <| sq <| Cn rfl (fun hc => absurd (of_decide_eq_true hc) (hsf1.niln (by simp))) (fun hc => ?_)
  refine xt <| SR <| Ab rfl <| Nl <| rt ?_
  cases h; exact Zf Tryz.results50 rfl (Za rfl)
 | cons x7 l6 =>
  unfold Zbn at h
  refine SR <| Ac (Zi rfl rfl (vt rfl) (vk rfl)) rfl <| Nl <| sq <| Cn rfl (fun hc => ?_) (fun hc => absurd (hsf1.consn (by simp)) (of_decide_eq_false hc))
  have hlti5 := of_decide_eq_true hc
  refine sk <| sq <| bk <| SR <| Md rfl <| Ac (Z97 rfl rfl Z4b Z03 (vt rfl) (vt rfl) hsf1.lget) rfl <| Cv rfl (Zs 7 rfl rfl Z2c) fun g8 => As rfl <| Zj Z03 7 rfl <| Nl <| sq ?_
  obtain ⟨j9, hj9, x10, hx10, h⟩ := bs2 h
  refine AR Zw (by kernel_rfl) <| Zm Z03 7 rfl <| SMd rfl <| Sd (lo [3, 13] [] rfl fun S hs hr => Z2u rfl rfl Zdl (vh hs 3 rfl rfl) (vh hs 13 rfl rfl) hj9) <| Zm Z02 4 rfl <| SCl [12, 15] (Zsm _ _ _ hx10) Zsa rfl <| Sd (lo [16] [] rfl fun S hs hr => Z0z rfl rfl (vh hs 16 rfl rfl)) <| Sn <| Cq rfl h (fun h => ?_) (fun h => ?_)
  ·refine SR <| Ab rfl <| Nl <| rt ?_
   cases h; exact Zf Tryz.results50 rfl (Za rfl)
  ·refine sk <| Rg <| Ac (Z7a rfl rfl (vt rfl) (vk rfl) rfl hlti5) rfl <| Md rfl <| Nl ?_
   exact ⟨(_, _), Nat.lt_succ_self _, ⟨hsf1.next, h⟩, FX rfl⟩
def Zgi (x1 : Ray) (x2 : Z09) : Option Bool :=
 (Zav x1.Cube x2).bind fun x5 => some x5
theorem Zxz : Q2 Tryz.prog 62 (rd Z0y) (rd (Z3 24 Zd)) (rd Z5) Zgi := fun x1 x2 r h => I0 Tryz.func62 rfl Tryz.ntmps62 rfl fun w H => by
 unfold Zgi at h
 refine SR <| Cv rfl (Zn 3 rfl rfl (vt rfl)) fun g3 => Cv rfl (Zn 4 rfl rfl (vt rfl)) fun g4 => Ab rfl <| Nl <| sq ?_
 obtain ⟨x5, hx5, h⟩ := Z8 h
 refine Rg <| Zh lRay_4 Yfc rfl <| Ld Z00 3 rfl <| Ld Z0g 4 rfl <| Cl [6, 7] (Zt1 _ _ _ hx5) e50 rfl <| As rfl <| Nl <| rt ?_
 cases h; exact Zf Tryz.results62 rfl (Za rfl)
end Go.Proofs.YtknpgojdkobgjaaGreat.W
set_option maxRecDepth 4000
namespace Go.Proofs.YtknpgojdkobgjaaGreat.W
open Go Go.Wb
theorem Zg6 : Ent Tryz.prog 176 := Ent.mk Tryz.func176 rfl rfl
theorem Zcp : Ent Tryz.prog 175 := Ent.mk Tryz.func175 rfl rfl
theorem Zu6 : Ent Tryz.prog 109 := Ent.mk Tryz.func109 rfl rfl
def Z9t (a1 : Wide) (b2 : Wide) : Option Wide :=
 some (⟨(a1.Hi &&& ~~~b2.Hi), (a1.Lo &&& ~~~b2.Lo)⟩ : Wide)
theorem Zf9 : Q2 Tryz.prog 176 (rd Zd) (rd Zd) (rd Zd) Z9t := fun a1 b2 r h => I0 Tryz.func176 rfl Tryz.ntmps176 rfl fun w H => by
 unfold Z9t at h
 refine SR <| Cv rfl (Zn 3 rfl rfl (vt rfl)) fun g3 => Cv rfl (Zn 4 rfl rfl (vt rfl)) fun g4 => Cv rfl (Zs 5 rfl rfl Z3p) fun g5 => Nl <| SR <| Zh lWide_0 Z8z rfl <| Ld Z2p 3 rfl <| Zh lWide_0 Z8z rfl <| Ld Z2p 4 rfl <| Ac (Y15 rfl rfl (vt rfl) (vt rfl)) rfl <| Zh lWide_1 Z7r rfl <| Ld Z2p 3 rfl <| Zh lWide_1 Z7r rfl <| Ld Z2p 4 rfl <| Ac (Y15 rfl rfl (vt rfl) (vt rfl)) rfl <| Ac (opb (⟨(a1.Hi &&& ~~~b2.Hi), (a1.Lo &&& ~~~b2.Lo)⟩ : Wide) Z3p rfl Z74 (pc Zhq (vt rfl) <| pc Z9c (vt rfl) <| pn rfl)) rfl <| Zj Z02 5 rfl <| Nl <| rt ?_
 cases h; exact Zf Tryz.results176 rfl (Z01 rfl (i := 5) rfl Z02)
def Z8s (a1 : Wide) (b2 : Wide) : Option Wide :=
 some (⟨(a1.Hi ||| b2.Hi), (a1.Lo ||| b2.Lo)⟩ : Wide)
theorem Zex : Q2 Tryz.prog 175 (rd Zd) (rd Zd) (rd Zd) Z8s := fun a1 b2 r h => I0 Tryz.func175 rfl Tryz.ntmps175 rfl fun w H => by
 unfold Z8s at h
 refine SR <| Cv rfl (Zn 3 rfl rfl (vt rfl)) fun g3 => Cv rfl (Zn 4 rfl rfl (vt rfl)) fun g4 => Cv rfl (Zs 5 rfl rfl Z3p) fun g5 => Nl <| SR <| Zh lWide_0 Z8z rfl <| Ld Z2p 3 rfl <| Zh lWide_0 Z8z rfl <| Ld Z2p 4 rfl <| Ac (Zqk rfl rfl (vt rfl) (vt rfl)) rfl <| Zh lWide_1 Z7r rfl <| Ld Z2p 3 rfl <| Zh lWide_1 Z7r rfl <| Ld Z2p 4 rfl <| Ac (Zqk rfl rfl (vt rfl) (vt rfl)) rfl <| Ac (opb (⟨(a1.Hi ||| b2.Hi), (a1.Lo ||| b2.Lo)⟩ : Wide) Z3p rfl Z74 (pc Zhq (vt rfl) <| pc Z9c (vt rfl) <| pn rfl)) rfl <| Zj Z02 5 rfl <| Nl <| rt ?_
 cases h; exact Zf Tryz.results175 rfl (Z01 rfl (i := 5) rfl Z02)
def Zbv : (List Tern) → Nat → Z09 → Option Z09
 | [], i8, b7 => some b7
 | x10 :: l9, i8, b7 => (chk 24 (i8 : Int)).bind fun j12 => (Z9t (Vector.get b7 j12) x10.Mask).bind fun x13 => (Zc0 x10.Value x10.Mask).bind fun x14 => (Z8s x13 x14).bind fun x15 => (chk 24 (i8 : Int)).bind fun j16 => (Zbv l9) (i8 + 1) (Vector.set b7 j16.1 x15 j16.2)
def Zdz (x1 : Zl) (x2 : Z09) : Option Z09 :=
 Zbv (Vector.toList x1) 0 x2
theorem Zq6 : Q2 Tryz.prog 109 (rd (Z3 24 Z4)) (rd (Z3 24 Zd)) (rd (Z3 24 Zd)) Zdz := fun x1 x2 r h => I0 Tryz.func109 rfl Tryz.ntmps109 rfl fun w H => by
 unfold Zdz at h
 refine SR <| Cv rfl (Zn 3 rfl rfl (vt rfl)) fun g3 => Cv rfl (Zn 4 rfl rfl (vt rfl)) fun g4 => Cv rfl (Zs 5 rfl rfl Z4r) fun g5 => Nl <| sq <| SR <| Ld Z0f 3 rfl <| Mk rfl <| Nl <| bk <| LG (d := []) (ν := (List Tern) × Nat × Z09) (fun (l9, i8, b7) => (Sfx (Vector.toList x1) i8 l9 ∧ Zbv l9 i8 b7 = some r, l9.length, [(3, Z7 g4 (Lens.id (Z3 24 Zd))), (4, Z7 g5 (Lens.id (Z3 24 Zd))), (7, rd (Z3 24 Z4) x1), (8, rd (Z0 .i64) (i8 : Int))], [(4, Zc g4 44 (Z3 24 Zd) b7), (5, Zc g5 44 (Z3 24 Zd) (Vector.replicate 24 Z0j))])) ((Vector.toList x1), 0, x2) ⟨Sfx.start _, h⟩ (FX rfl) ?_
 rintro ⟨l9, i8, b7⟩ ⟨hsf1, h⟩
 dsimp only at hsf1 h ⊢
 cases l9 with
 | nil =>
  unfold Zbv at h
  refine SR <| Ac (Zi rfl rfl (vt rfl) (vk rfl)) rfl <| Nl <| sq <| Cn rfl (fun hc => absurd (of_decide_eq_true hc) (hsf1.niln (by simp))) (fun hc => ?_)
  refine xt <| SR <| Ld Z0g 4 rfl <| Zj Z0g 5 rfl <| Nl <| rt ?_
  cases h; exact Zf Tryz.results109 rfl (Z01 rfl (i := 5) rfl Z0g)
 | cons x10 l9 =>
  unfold Zbv at h
  refine SR <| Ac (Zi rfl rfl (vt rfl) (vk rfl)) rfl <| Nl <| sq <| Cn rfl (fun hc => ?_) (fun hc => absurd (hsf1.consn (by simp)) (of_decide_eq_false hc))
  have hlti8 := of_decide_eq_true hc
  refine sk <| sq <| bk <| SR <| Md rfl <| Ac (Z97 rfl rfl Za3 Z03 (vt rfl) (vt rfl) hsf1.lget) rfl <| Cv rfl (Zs 7 rfl rfl Z2c) fun g11 => As rfl <| Zj Z03 7 rfl <| Nl ?_
  obtain ⟨j12, hj12, x13, hx13, x14, hx14, x15, hx15, h⟩ := bs4 h
  obtain ⟨j16, hj16, h⟩ := Z8 h
  refine AR Zw (by kernel_rfl) <| SMd rfl <| SMd rfl <| Sd (lo [3, 13] [] rfl fun S hs hr => Z2u rfl rfl Zdl (vh hs 3 rfl rfl) (vh hs 13 rfl rfl) hj12) <| Zm Z02 4 rfl <| Zv lTern_1 Z3m rfl <| Zm Z02 7 rfl <| SCl [15, 17] (Zf9 _ _ _ hx13) Zg6 rfl <| Zv lTern_0 Z4f rfl <| Zm Z02 7 rfl <| Zv lTern_1 Z3m rfl <| Zm Z02 7 rfl <| SCl [20, 22] (Zkc _ _ _ hx14) Zlj rfl <| SCl [18, 23] (Zex _ _ _ hx15) Zcp rfl <| Sd (lo [3, 12] [] rfl fun S hs hr => Z2u rfl rfl Zdl (vh hs 3 rfl rfl) (vh hs 12 rfl rfl) hj16) <| SSt Z02 4 rfl <| Sn <| Rg <| Ac (Z7a rfl rfl (vt rfl) (vk rfl) rfl hlti8) rfl <| Md rfl <| Nl ?_
  exact ⟨(_, _, _), Nat.lt_succ_self _, ⟨hsf1.next, h⟩, FX rfl⟩
def Zf1 (x1 : Ray) (x2 : Z09) : Option End :=
 (Zdz x1.Rewrite x2).bind fun x6 => some (⟨x1.At, x1.Port, x1.Max, x1.Left, x6⟩ : End)
theorem Zx3 : Q2 Tryz.prog 64 (rd Z0y) (rd (Z3 24 Zd)) (rd Z1d) Zf1 := fun x1 x2 r h => I0 Tryz.func64 rfl Tryz.ntmps64 rfl fun w H => by
 unfold Zf1 at h
 refine SR <| Cv rfl (Zn 3 rfl rfl (vt rfl)) fun g3 => Cv rfl (Zn 4 rfl rfl (vt rfl)) fun g4 => Cv rfl (Zs 5 rfl rfl Zai) fun g5 => Nl <| sq ?_
 obtain ⟨x6, hx6, h⟩ := Z8 h
 refine AR Zw (by kernel_rfl) <| Zv lRay_0 Ynp rfl <| Zm Zq 3 rfl <| Zv lRay_1 Y6m rfl <| Zm Zq 3 rfl <| Zv lRay_2 Ya4 rfl <| Zm Zq 3 rfl <| Zv lRay_3 Ygc rfl <| Zm ty4 3 rfl <| Zv lRay_5 Yeh rfl <| Zm Z0f 3 rfl <| Zm Z0g 4 rfl <| SCl [14, 15] (Zq6 _ _ _ hx6) Zu6 rfl <| Sd (lo [6, 8, 10, 12, 16] [] rfl fun S hs hr => opb (⟨x1.At, x1.Port, x1.Max, x1.Left, x6⟩ : End) Zai rfl Zrj (pc Ztt (vh hs 6 rfl rfl) <| pc Y36 (vh hs 8 rfl rfl) <| pc Zyg (vh hs 10 rfl rfl) <| pc Y39 (vh hs 12 rfl rfl) <| pc Zsu (vh hs 16 rfl rfl) <| pn rfl)) <| SSt Zq0 5 rfl <| Sn <| rt ?_
 cases h; exact Zf Tryz.results64 rfl (Z01 rfl (i := 5) rfl Zq0)
end Go.Proofs.YtknpgojdkobgjaaGreat.W
set_option maxRecDepth 4000
namespace Go.Proofs.YtknpgojdkobgjaaGreat.W
open Go Go.Wb
def Zp9 (p1 : Int) : Option Switch :=
 some { (⟨(Vector.replicate 4 []), []⟩ : Switch) with Tables := (Vector.set ((⟨(Vector.replicate 4 []), []⟩ : Switch).Tables) (⟨0, by decide⟩ : _root_.Fin 4).1 [(⟨0, 0, 0, 0, 0, [], [(⟨4, 0, Z0j, Z0j, [(⟨0, p1, 0, 0, 0, Zcl⟩ : Action)]⟩ : Inst)]⟩ : Flow)] (⟨0, by decide⟩ : _root_.Fin 4).2) }
theorem Y0c : Q1 Tryz.prog 120 (rd (Z0 .i64)) (rd Z0d) Zp9 := fun p1 r h => I0 Tryz.func120 rfl Tryz.ntmps120 rfl fun w H => by
 unfold Zp9 at h
 refine SR <| Cv rfl (Zs 3 rfl rfl Zjk) fun g2 => Nl <| SR <| Ac (opb (⟨(Vector.replicate 4 []), []⟩ : Switch) Zjk rfl Y6i (pn rfl)) rfl <| Cv rfl (Zs 4 rfl rfl Zjk) fun g3 => Zj Z5s 4 rfl <| Nl <| SR <| Md rfl <| Ac (opb (⟨0, p1, 0, 0, 0, Zcl⟩ : Action) Z8f rfl Y60 (pc Yna (vk rfl) <| pc Yo3 (vt rfl) <| pn rfl)) rfl <| Ac (osl Z13 Z8f rfl (vt rfl)) rfl <| Ac (opb (⟨4, 0, Z0j, Z0j, [(⟨0, p1, 0, 0, 0, Zcl⟩ : Action)]⟩ : Inst) Z4z rfl Zv2 (pc Yis (vk rfl) <| pc Yn7 (vt rfl) <| pn rfl)) rfl <| Ac (osl Zck Z4z rfl (vt rfl)) rfl <| Ac (opb (⟨0, 0, 0, 0, 0, [], [(⟨4, 0, Z0j, Z0j, [(⟨0, p1, 0, 0, 0, Zcl⟩ : Action)]⟩ : Inst)]⟩ : Flow) Zmy rfl Y8q (pc Ym5 (vt rfl) <| pn rfl)) rfl <| Ac (osl Z5p Zmy rfl (vt rfl)) rfl <| Zh Zbd Ze2 rfl <| Ac (Z2u rfl rfl Zec (vt rfl) (vk rfl) rfl) rfl <| Zj Z5u 4 rfl <| Nl <| SR <| Ld Z5s 4 rfl <| Zj Z5s 3 rfl <| Nl <| rt ?_
 cases h; exact Zf Tryz.results120 rfl (Z01 rfl (i := 3) rfl Z5s)
def Zbm : Option Zl :=
 some (Vector.replicate 24 zTern)
theorem Zpq : Q0 Tryz.prog 73 (rd (Z3 24 Z4)) Zbm := fun r h => I0 Tryz.func73 rfl Tryz.ntmps73 rfl fun w H => by
 unfold Zbm at h
 refine SR <| Cv rfl (Zs 1 rfl rfl Z2a) fun g1 => Nl <| SR <| Ac (Z20 (ps := []) (x := (Vector.replicate 24 zTern)) rfl rfl rfl (by kernel_rfl) Z2a rfl) rfl <| Zj Z00 1 rfl <| Nl <| rt ?_
 cases h; exact Zf Tryz.results73 rfl (Z01 rfl (i := 1) rfl Z00)
def Z9j : Option Zl :=
 some (Vector.replicate 24 zTern)
theorem Zoo : Q0 Tryz.prog 77 (rd (Z3 24 Z4)) Z9j := fun r h => I0 Tryz.func77 rfl Tryz.ntmps77 rfl fun w H => by
 unfold Z9j at h
 refine SR <| Cv rfl (Zs 1 rfl rfl Z75) fun g1 => Nl <| SR <| Ac (Z20 (ps := []) (x := (Vector.replicate 24 zTern)) rfl rfl rfl (by kernel_rfl) Z75 rfl) rfl <| Zj Z0f 1 rfl <| Nl <| rt ?_
 cases h; exact Zf Tryz.results77 rfl (Z01 rfl (i := 1) rfl Z0f)
def Zgf (i1 : Int) (j2 : Int) (x3 : (List Flow)) : Option Int :=
 (lget x3 i1).bind fun x4 => (lget x3 j2).bind fun x5 => (bif (decide (x4.Priority > x5.Priority)) then some (-1) else (lget x3 i1).bind fun x6 => (lget x3 j2).bind fun x7 => (bif (decide (x6.Priority < x7.Priority)) then some 1 else some 0))
theorem Yb6 : Q3 Tryz.prog 201 (rd (Z0 .i64)) (rd (Z0 .i64)) (rp (Z1 Z16)) (rd (Z0 .i64)) Zgf := fun i1 j2 x3 r h => I0 Tryz.func201 rfl Tryz.ntmps201 rfl fun w H => by
 unfold Zgf at h
 refine SR <| Ak rfl <| Nl <| sq <| bk <| sq ?_
 obtain ⟨x4, hx4, x5, hx5, h⟩ := bs2 h
 refine AR Zw (by kernel_rfl) <| SLp Z5u rfl <| SMd rfl <| Sd (lo [7, 8] [] rfl fun S hs hr => Z0k rfl rfl Z5p (vh hs 7 rfl rfl) (vh hs 8 rfl rfl) hx4) <| SFp Zk0 Zp5 rfl <| SLp Zq rfl <| SLp Z5u rfl <| SMd rfl <| Sd (lo [12, 13] [] rfl fun S hs hr => Z0k rfl rfl Z5p (vh hs 12 rfl rfl) (vh hs 13 rfl rfl) hx5) <| SFp Zk0 Zp5 rfl <| SLp Zq rfl <| Sd (lo [11, 16] [] rfl fun S hs hr => Z3i rfl rfl (vh hs 11 rfl rfl) (vh hs 16 rfl rfl)) <| SAs rfl <| Sn <| Cq rfl h (fun h => ?_) (fun h => ?_)
 ·refine SR <| Ak rfl <| Nl <| rt ?_
  cases h; exact Zf Tryz.results201 rfl (Za rfl)
 ·refine sq ?_
  obtain ⟨x6, hx6, x7, hx7, h⟩ := bs2 h
  refine AR Zw (by kernel_rfl) <| SLp Z5u rfl <| SMd rfl <| Sd (lo [19, 20] [] rfl fun S hs hr => Z0k rfl rfl Z5p (vh hs 19 rfl rfl) (vh hs 20 rfl rfl) hx6) <| SFp Zk0 Zp5 rfl <| SLp Zq rfl <| SLp Z5u rfl <| SMd rfl <| Sd (lo [24, 25] [] rfl fun S hs hr => Z0k rfl rfl Z5p (vh hs 24 rfl rfl) (vh hs 25 rfl rfl) hx7) <| SFp Zk0 Zp5 rfl <| SLp Zq rfl <| Sd (lo [23, 28] [] rfl fun S hs hr => Zi rfl rfl (vh hs 23 rfl rfl) (vh hs 28 rfl rfl)) <| SAs rfl <| Sn <| Cq rfl h (fun h => ?_) (fun h => ?_)
  ·refine SR <| Ak rfl <| Nl <| rt ?_
   cases h; exact Zf Tryz.results201 rfl (Za rfl)
  ·refine sk <| SR <| Ak rfl <| Nl <| rt ?_
   cases h; exact Zf Tryz.results201 rfl (Za rfl)
def Zcu (a3 : Int) (x5 : (Int → Int → Option Int)) (go1 : (List Int) → Int → Option (List Int)) (i9 : Int) : Nat → (List Int) → Int → Option (List Int)
 | 0, _, _ => none
 | m15 + 1, l13, j14 => (opt (decide (j14 > a3)) (lget l13 j14)).bind fun x16 => (opt (decide (j14 > a3)) (lget l13 (IntKind.i64.wrap (j14 - 1)))).bind fun x17 => (opt (decide (j14 > a3)) (x5 x16 x17)).bind fun x18 => (bif ((decide (j14 > a3)) && (decide (x18 < 0))) then (lget l13 (IntKind.i64.wrap (j14 - 1))).bind fun x19 => (lget l13 j14).bind fun x20 => (lget l13 j14).bind fun x21 => (lget (List.set l13 j14.toNat x19) (IntKind.i64.wrap (j14 - 1))).bind fun x22 => (Zcu a3 x5 go1 i9 m15) (List.set (List.set l13 j14.toNat x19) (IntKind.i64.wrap (j14 - 1)).toNat x20) (IntKind.i64.wrap (j14 - 1)) else go1 l13 (IntKind.i64.wrap (i9 + 1)))
def Z9d (b4 : Int) (a3 : Int) (x5 : (Int → Int → Option Int)) : Nat → (List Int) → Int → Option (List Int)
 | 0, _, _ => none
 | m10 + 1, l8, i9 => (bif (decide (i9 < b4)) then Zcu a3 x5 (Z9d b4 a3 x5 m10) i9 Z0l l8 i9 else some l8)
def Zg8 (d1 : (List Int)) (a3 : Int) (b4 : Int) (x5 : (Int → Int → Option Int)) : Option (List Int) :=
 Z9d b4 a3 x5 (((b4 : Int) - (IntKind.i64.wrap (a3 + 1))).toNat + 1) d1 (IntKind.i64.wrap (a3 + 1))
theorem Y09 (v2 : Value) (d1 : (List Int)) (a3 : Int) (b4 : Int) (x5 : (Int → Int → Option Int)) (r : (List Int)) (h : Zg8 d1 a3 b4 x5 = some r) : Con Tryz.prog 301 [Zo v2, rd (Z0 .i64) a3, rd (Z0 .i64) b4, fn2 Tryz.prog (Z0 .i64) (Z0 .i64) (Z0 .i64) x5] (Zb v2 3 (Z0 .i64) d1) (fun _ : Unit => top) (fun _ => Zb v2 3 (Z0 .i64) r) := by
 refine Con.intro Tryz.func301 rfl Tryz.ntmps301 rfl fun w H X => ?_
 unfold Zg8 at h
 refine SR <| Md rfl <| Ac (Z0o rfl rfl (vt rfl) (vk rfl)) rfl <| As rfl <| Nl <| bk <| LG (d := []) (ν := Nat × (List Int) × Int) (fun (m10, l8, i9) => (True ∧ Z9d b4 a3 x5 m10 l8 i9 = some r, m10, [(0, Zo v2), (1, rd (Z0 .i64) a3), (2, rd (Z0 .i64) b4), (3, fn2 Tryz.prog (Z0 .i64) (Z0 .i64) (Z0 .i64) x5), (8, rd (Z0 .i64) i9)], [(0, Zb v2 3 (Z0 .i64) l8)])) ((((b4 : Int) - (IntKind.i64.wrap (a3 + 1))).toNat + 1), d1, (IntKind.i64.wrap (a3 + 1))) ⟨trivial, h⟩ (FX rfl) ?_
 rintro ⟨m10, l8, i9⟩ ⟨hsf1, h⟩
 dsimp only at h ⊢
 cases m10 with
 | zero => cases h
 | succ m10 =>
  unfold Z9d at h
  refine sq <| SR <| Md rfl <| Md rfl <| Ac (Zi rfl rfl (vt rfl) (vt rfl)) rfl <| Nl <| Cq rfl h (fun h => ?_) (fun h => ?_)
  ·refine sk <| sq <| bk <| SR <| Md rfl <| As rfl <| Nl <| bk <| LG (d := []) (ν := Nat × (List Int) × Int) (fun (m15, l13, j14) => (True ∧ Zcu a3 x5 (Z9d b4 a3 x5 m10) i9 m15 l13 j14 = some r, m15, [(0, Zo v2), (1, rd (Z0 .i64) a3), (2, rd (Z0 .i64) b4), (3, fn2 Tryz.prog (Z0 .i64) (Z0 .i64) (Z0 .i64) x5), (8, rd (Z0 .i64) i9), (9, rd (Z0 .i64) j14)], [(0, Zb v2 3 (Z0 .i64) l13)])) (Z0l, l8, i9) ⟨trivial, h⟩ (FX rfl) ?_
   rintro ⟨m15, l13, j14⟩ ⟨hsf2, h⟩
   dsimp only at h ⊢
   cases m15 with
   | zero => cases h
   | succ m15 =>
    unfold Zcu at h
    refine sq <| sq ?_
    obtain ⟨x16, hx16, x17, hx17, x18, hx18, h⟩ := bs3 h
    refine AR Zw (by kernel_rfl) <| SMd rfl <| SMd rfl <| Sd (lo [18, 19] [] rfl fun S hs hr => Z3i rfl rfl (vh hs 18 rfl rfl) (vh hs 19 rfl rfl)) <| SMd rfl <| Sd (lg [3, 21] [] rfl fun hq S hs hr => Zp (A := fn2 Tryz.prog (Z0 .i64) (Z0 .i64) (Z0 .i64) x5) rfl rfl (vh hs 3 rfl rfl)) <| Sd (lg [0, 21] [] rfl fun hq S hs hr => Zp (A := Zo v2) rfl rfl (vh hs 0 rfl rfl)) <| Sd (lg [9, 21] [] rfl fun hq S hs hr => Zp (A := rd (Z0 .i64) j14) rfl rfl (vh hs 9 rfl rfl)) <| Sd (lg [23, 24, 21] [0] rfl fun hq S hs hr => Z2n 0 rfl rfl Z15 (Zg ((hs 23 rfl).trans rfl) hq) ((hr 0 rfl).trans rfl) (Zg ((hs 24 rfl).trans rfl) hq) (Z3t hx16 hq)) <| Sd (lg [25, 21] [0] rfl fun hq S hs hr => Z1v 0 rfl rfl Zq (Zg ((hs 25 rfl).trans rfl) hq) ((hr 0 rfl).trans rfl) (Z0n (Z3t hx16 hq)).2) <| Sd (lg [0, 21] [] rfl fun hq S hs hr => Zp (A := Zo v2) rfl rfl (vh hs 0 rfl rfl)) <| Sd (lg [9, 21] [] rfl fun hq S hs hr => Zp (A := rd (Z0 .i64) j14) rfl rfl (vh hs 9 rfl rfl)) <| Sd (lg [28, 21] [] rfl fun hq S hs hr => Z0v rfl rfl (Zg ((hs 28 rfl).trans rfl) hq) (vk rfl)) <| Sd (lg [27, 29, 21] [0] rfl fun hq S hs hr => Z2n 0 rfl rfl Z15 (Zg ((hs 27 rfl).trans rfl) hq) ((hr 0 rfl).trans rfl) (Zg ((hs 29 rfl).trans rfl) hq) (Z3t hx17 hq)) <| Sd (lg [30, 21] [0] rfl fun hq S hs hr => Z1v 0 rfl rfl Zq (Zg ((hs 30 rfl).trans rfl) hq) ((hr 0 rfl).trans rfl) (Z0n (Z3t hx17 hq)).2) <| Sd (lg [22, 26, 31, 21] [] rfl fun hq S hs hr => Zc3 (Z3t hx18 hq) rfl rfl (Zg ((hs 22 rfl).trans rfl) hq) (Zg ((hs 26 rfl).trans rfl) hq) (Zg ((hs 31 rfl).trans rfl) hq)) <| Sd (lg [32, 21] [] rfl fun hq S hs hr => Zi rfl rfl (Zg ((hs 32 rfl).trans rfl) hq) (vk rfl)) <| Sd (lo [33, 21] [] rfl fun S hs hr => Z21 rfl rfl (vh hs 21 rfl rfl) (vh hs 33 rfl rfl)) <| Sn <| Cq rfl h (fun h => ?_) (fun h => ?_)
    ·refine sk <| sq <| bk <| AW.vlen 0 rfl fun hvl0_266 => ?_
     obtain ⟨x19, hx19, x20, hx20, x21, hx21, x22, hx22, h⟩ := bs4 h
     refine AR Zw (by kernel_rfl) <| SMw rfl <| SMd rfl <| SMw rfl <| SMd rfl <| Sd (lo [40] [] rfl fun S hs hr => Z0v rfl rfl (vh hs 40 rfl rfl) (vk rfl)) <| SMw rfl <| SMd rfl <| Sd (lo [43] [] rfl fun S hs hr => Z0v rfl rfl (vh hs 43 rfl rfl) (vk rfl)) <| Sd (lo [42, 44] [] rfl fun S hs hr => Z24 (l := l13) hvl0_266 rfl rfl rfl Z15 (vh hs 42 rfl rfl) (vh hs 44 rfl rfl) hx19) <| Sd (lo [45] [0] rfl fun S hs hr => Z1v 0 rfl rfl Zq (vh hs 45 rfl rfl) ((hr 0 rfl).trans rfl) (Z0n hx19).2) <| SMw rfl <| SMd rfl <| Sd (lo [47, 48] [] rfl fun S hs hr => Z24 (l := l13) hvl0_266 rfl rfl rfl Z15 (vh hs 47 rfl rfl) (vh hs 48 rfl rfl) hx20) <| Sd (lo [49] [0] rfl fun S hs hr => Z1v 0 rfl rfl Zq (vh hs 49 rfl rfl) ((hr 0 rfl).trans rfl) (Z0n hx20).2) <| Sd (lo [37, 38] [] rfl fun S hs hr => Z24 (l := l13) hvl0_266 rfl rfl rfl Z15 (vh hs 37 rfl rfl) (vh hs 38 rfl rfl) hx21) <| Sd (Z45 [51, 46] [0] rfl fun S hs hr => Z3w 0 rfl rfl Zq (vh hs 51 rfl rfl) ((hr 0 rfl).trans rfl) (Z0n hx21).2 (vh hs 46 rfl rfl)) <| Sd (lo [39, 41] [] rfl fun S hs hr => Z24 (l := (List.set l13 j14.toNat x19)) hvl0_266 (by simp) rfl rfl Z15 (vh hs 39 rfl rfl) (vh hs 41 rfl rfl) hx22) <| Sd (Z45 [52, 50] [0] rfl fun S hs hr => Z3w 0 rfl rfl Zq (vh hs 52 rfl rfl) ((hr 0 rfl).trans rfl) (Z0n hx22).2 (vh hs 50 rfl rfl)) <| Sn <| Rg <| Md rfl <| Ac (Z0v rfl rfl (vt rfl) (vk rfl)) rfl <| As rfl <| Nl ?_
     exact ⟨(_, _, _), Nat.lt_succ_self _, ⟨trivial, h⟩, FX rfl⟩
    ·refine xt <| Rg <| Md rfl <| Ac (Z0o rfl rfl (vt rfl) (vk rfl)) rfl <| As rfl <| Nl ?_
     exact ⟨(_, _, _), Nat.lt_succ_self _, ⟨trivial, h⟩, FX rfl⟩
  ·refine xt ?_
   cases h; exact Z1k (i := 0) Tryz.results301 rfl rfl
def Zpm (n5 : Int) (b4 : Int) (a3 : Int) : Nat → (List Int) → Int → Option (List Int)
 | 0, _, _ => none
 | m11 + 1, l9, i10 => (bif (decide (i10 < n5)) then (lget l9 (IntKind.i64.wrap (b4 + i10))).bind fun x12 => (lget l9 (IntKind.i64.wrap (a3 + i10))).bind fun x13 => (lget l9 (IntKind.i64.wrap (a3 + i10))).bind fun x14 => (lget (List.set l9 (IntKind.i64.wrap (a3 + i10)).toNat x12) (IntKind.i64.wrap (b4 + i10))).bind fun x15 => (Zpm n5 b4 a3 m11) (List.set (List.set l9 (IntKind.i64.wrap (a3 + i10)).toNat x12) (IntKind.i64.wrap (b4 + i10)).toNat x13) (IntKind.i64.wrap (i10 + 1)) else some l9)
def Zij (d1 : (List Int)) (a3 : Int) (b4 : Int) (n5 : Int) (x6 : (Int → Int → Option Int)) : Option (List Int) :=
 Zpm n5 b4 a3 (((n5 : Int) - 0).toNat + 1) d1 0
theorem Zqi (v2 : Value) (d1 : (List Int)) (a3 : Int) (b4 : Int) (n5 : Int) (x6 : (Int → Int → Option Int)) (r : (List Int)) (h : Zij d1 a3 b4 n5 x6 = some r) : Con Tryz.prog 341 [Zo v2, rd (Z0 .i64) a3, rd (Z0 .i64) b4, rd (Z0 .i64) n5, fn2 Tryz.prog (Z0 .i64) (Z0 .i64) (Z0 .i64) x6] (Zb v2 3 (Z0 .i64) d1) (fun _ : Unit => top) (fun _ => Zb v2 3 (Z0 .i64) r) := by
 refine Con.intro Tryz.func341 rfl Tryz.ntmps341 rfl fun w H X => ?_
 unfold Zij at h
 refine SR <| Ak rfl <| Nl <| bk <| LG (d := []) (ν := Nat × (List Int) × Int) (fun (m11, l9, i10) => (True ∧ Zpm n5 b4 a3 m11 l9 i10 = some r, m11, [(0, Zo v2), (1, rd (Z0 .i64) a3), (2, rd (Z0 .i64) b4), (3, rd (Z0 .i64) n5), (10, rd (Z0 .i64) i10)], [(0, Zb v2 3 (Z0 .i64) l9)])) ((((n5 : Int) - 0).toNat + 1), d1, 0) ⟨trivial, h⟩ (FX rfl) ?_
 rintro ⟨m11, l9, i10⟩ ⟨hsf1, h⟩
 dsimp only at h ⊢
 cases m11 with
 | zero => cases h
 | succ m11 =>
  unfold Zpm at h
  refine sq <| SR <| Md rfl <| Md rfl <| Ac (Zi rfl rfl (vt rfl) (vt rfl)) rfl <| Nl <| Cq rfl h (fun h => ?_) (fun h => ?_)
  ·refine sk <| sq <| bk <| AW.vlen 0 rfl fun hvl0_123 => ?_
   obtain ⟨x12, hx12, x13, hx13, x14, hx14, x15, hx15, h⟩ := bs4 h
   refine AR Zw (by kernel_rfl) <| SMw rfl <| SMd rfl <| SMd rfl <| Sd (lo [17, 18] [] rfl fun S hs hr => Z0o rfl rfl (vh hs 17 rfl rfl) (vh hs 18 rfl rfl)) <| SMw rfl <| SMd rfl <| SMd rfl <| Sd (lo [21, 22] [] rfl fun S hs hr => Z0o rfl rfl (vh hs 21 rfl rfl) (vh hs 22 rfl rfl)) <| SMw rfl <| SMd rfl <| SMd rfl <| Sd (lo [25, 26] [] rfl fun S hs hr => Z0o rfl rfl (vh hs 25 rfl rfl) (vh hs 26 rfl rfl)) <| Sd (lo [24, 27] [] rfl fun S hs hr => Z24 (l := l9) hvl0_123 rfl rfl rfl Z15 (vh hs 24 rfl rfl) (vh hs 27 rfl rfl) hx12) <| Sd (lo [28] [0] rfl fun S hs hr => Z1v 0 rfl rfl Zq (vh hs 28 rfl rfl) ((hr 0 rfl).trans rfl) (Z0n hx12).2) <| SMw rfl <| SMd rfl <| SMd rfl <| Sd (lo [31, 32] [] rfl fun S hs hr => Z0o rfl rfl (vh hs 31 rfl rfl) (vh hs 32 rfl rfl)) <| Sd (lo [30, 33] [] rfl fun S hs hr => Z24 (l := l9) hvl0_123 rfl rfl rfl Z15 (vh hs 30 rfl rfl) (vh hs 33 rfl rfl) hx13) <| Sd (lo [34] [0] rfl fun S hs hr => Z1v 0 rfl rfl Zq (vh hs 34 rfl rfl) ((hr 0 rfl).trans rfl) (Z0n hx13).2) <| Sd (lo [16, 19] [] rfl fun S hs hr => Z24 (l := l9) hvl0_123 rfl rfl rfl Z15 (vh hs 16 rfl rfl) (vh hs 19 rfl rfl) hx14) <| Sd (Z45 [36, 29] [0] rfl fun S hs hr => Z3w 0 rfl rfl Zq (vh hs 36 rfl rfl) ((hr 0 rfl).trans rfl) (Z0n hx14).2 (vh hs 29 rfl rfl)) <| Sd (lo [20, 23] [] rfl fun S hs hr => Z24 (l := (List.set l9 (IntKind.i64.wrap (a3 + i10)).toNat x12)) hvl0_123 (by simp) rfl rfl Z15 (vh hs 20 rfl rfl) (vh hs 23 rfl rfl) hx15) <| Sd (Z45 [37, 35] [0] rfl fun S hs hr => Z3w 0 rfl rfl Zq (vh hs 37 rfl rfl) ((hr 0 rfl).trans rfl) (Z0n hx15).2 (vh hs 35 rfl rfl)) <| Sn <| Rg <| Md rfl <| Ac (Z0o rfl rfl (vt rfl) (vk rfl)) rfl <| As rfl <| Nl ?_
   exact ⟨(_, _, _), Nat.lt_succ_self _, ⟨trivial, h⟩, FX rfl⟩
  ·refine xt ?_
   cases h; exact Z1k (i := 0) Tryz.results341 rfl rfl
end Go.Proofs.YtknpgojdkobgjaaGreat.W
set_option maxRecDepth 4000
namespace Go.Proofs.YtknpgojdkobgjaaGreat.W
open Go Go.Wb
theorem Zss : Ent Tryz.prog 341 := Ent.mk Tryz.func341 rfl rfl
theorem Zo1 : Ent Tryz.prog 302 := Ent.mk Tryz.func302 rfl rfl
theorem Ykp : Ent Tryz.prog 333 := Ent.mk Tryz.func333 rfl rfl
theorem Zvy : Ent Tryz.prog 301 := Ent.mk Tryz.func301 rfl rfl
theorem Y7i : Ent Tryz.prog 258 := Ent.mk Tryz.func258 rfl rfl
theorem Yfb : Ent Tryz.prog 201 := Ent.mk Tryz.func201 rfl rfl
theorem Yf7 : Ent Tryz.prog 200 := Ent.mk Tryz.func200 rfl rfl
theorem Zmb : Ent Tryz.prog 269 := Ent.mk Tryz.func269 rfl rfl
theorem Ycs : Ent Tryz.prog 344 := Ent.mk Tryz.func344 rfl rfl
theorem Ycv : Ent Tryz.prog 336 := Ent.mk Tryz.func336 rfl rfl
def Zju (m4 : Int) (x6 : (Int → Int → Option Int)) : Nat → (List Int) → Int → Int → Option (List Int)
 | 0, _, _, _ => none
 | m13 + 1, l10, i11, j12 => (bif (decide (i11 ≠ j12)) then (bif (decide (i11 > j12)) then (Zij l10 (IntKind.i64.wrap (m4 - i11)) m4 j12 x6).bind fun l14 => (Zju m4 x6 m13) l14 (IntKind.i64.wrap (i11 - j12)) j12 else (Zij l10 (IntKind.i64.wrap (m4 - i11)) (IntKind.i64.wrap ((IntKind.i64.wrap (m4 + j12)) - i11)) i11 x6).bind fun l15 => (Zju m4 x6 m13) l15 i11 (IntKind.i64.wrap (j12 - i11))) else (Zij l10 (IntKind.i64.wrap (m4 - i11)) m4 i11 x6).bind fun l16 => some l16)
def Zt7 (d1 : (List Int)) (a3 : Int) (m4 : Int) (b5 : Int) (x6 : (Int → Int → Option Int)) : Option (List Int) :=
 Zju m4 x6 Z0l d1 (IntKind.i64.wrap (m4 - a3)) (IntKind.i64.wrap (b5 - m4))
theorem Yjf (v2 : Value) (d1 : (List Int)) (a3 : Int) (m4 : Int) (b5 : Int) (x6 : (Int → Int → Option Int)) (r : (List Int)) (h : Zt7 d1 a3 m4 b5 x6 = some r) : Con Tryz.prog 333 [Zo v2, rd (Z0 .i64) a3, rd (Z0 .i64) m4, rd (Z0 .i64) b5, fn2 Tryz.prog (Z0 .i64) (Z0 .i64) (Z0 .i64) x6] (Zb v2 3 (Z0 .i64) d1) (fun _ : Unit => top) (fun _ => Zb v2 3 (Z0 .i64) r) := by
 refine Con.intro Tryz.func333 rfl Tryz.ntmps333 rfl fun w H X => ?_
 unfold Zt7 at h
 refine SR <| Md rfl <| Md rfl <| Ac (Z0v rfl rfl (vt rfl) (vt rfl)) rfl <| As rfl <| Nl <| SR <| Md rfl <| Md rfl <| Ac (Z0v rfl rfl (vt rfl) (vt rfl)) rfl <| As rfl <| Nl <| sq <| bk <| LG (d := []) (ν := Nat × (List Int) × Int × Int) (fun (m13, l10, i11, j12) => (True ∧ Zju m4 x6 m13 l10 i11 j12 = some r, m13, [(0, Zo v2), (2, rd (Z0 .i64) m4), (4, fn2 Tryz.prog (Z0 .i64) (Z0 .i64) (Z0 .i64) x6), (10, rd (Z0 .i64) i11), (11, rd (Z0 .i64) j12)], [(0, Zb v2 3 (Z0 .i64) l10)])) (Z0l, d1, (IntKind.i64.wrap (m4 - a3)), (IntKind.i64.wrap (b5 - m4))) ⟨trivial, h⟩ (FX rfl) ?_
 rintro ⟨m13, l10, i11, j12⟩ ⟨hsf1, h⟩
 dsimp only at h ⊢
 cases m13 with
 | zero => cases h
 | succ m13 =>
  unfold Zju at h
  refine sq <| SR <| Md rfl <| Md rfl <| Ac (Z4u rfl rfl (vt rfl) (vt rfl)) rfl <| Nl <| Cq rfl h (fun h => ?_) (fun h => ?_)
  ·refine sk <| bk <| SR <| Md rfl <| Md rfl <| Ac (Z3i rfl rfl (vt rfl) (vt rfl)) rfl <| Nl <| Cq rfl h (fun h => ?_) (fun h => ?_)
   ·refine sq ?_
    obtain ⟨l14, hl14, h⟩ := Z8 h
    refine Rg <| Mw rfl <| Md rfl <| Md rfl <| Ac (Z0v rfl rfl (vt rfl) (vt rfl)) rfl <| Md rfl <| Md rfl <| Ac (Zp (A := fn2 Tryz.prog (Z0 .i64) (Z0 .i64) (Z0 .i64) x6) rfl rfl (vt rfl)) rfl <| Cv rfl (Z10 0 (xs := [.tmp 24, .tmp 27, .tmp 28, .tmp 29, .tmp 30]) (Zqi _ _ _ _ _ _ _ hl14) Zss rfl rfl ⟨vt rfl, vt rfl, vt rfl, vt rfl, vt rfl, trivial⟩ rfl) fun _u => Nl <| Rg <| Md rfl <| Md rfl <| Ac (Z0v rfl rfl (vt rfl) (vt rfl)) rfl <| As rfl <| Nl ?_
    exact ⟨(_, _, _, _), Nat.lt_succ_self _, ⟨trivial, h⟩, FX rfl⟩
   ·refine sq ?_
    obtain ⟨l15, hl15, h⟩ := Z8 h
    refine Rg <| Mw rfl <| Md rfl <| Md rfl <| Ac (Z0v rfl rfl (vt rfl) (vt rfl)) rfl <| Md rfl <| Md rfl <| Ac (Z0o rfl rfl (vt rfl) (vt rfl)) rfl <| Md rfl <| Ac (Z0v rfl rfl (vt rfl) (vt rfl)) rfl <| Md rfl <| Ac (Zp (A := fn2 Tryz.prog (Z0 .i64) (Z0 .i64) (Z0 .i64) x6) rfl rfl (vt rfl)) rfl <| Cv rfl (Z10 0 (xs := [.tmp 35, .tmp 38, .tmp 43, .tmp 44, .tmp 45]) (Zqi _ _ _ _ _ _ _ hl15) Zss rfl rfl ⟨vt rfl, vt rfl, vt rfl, vt rfl, vt rfl, trivial⟩ rfl) fun _u => Nl <| Rg <| Md rfl <| Md rfl <| Ac (Z0v rfl rfl (vt rfl) (vt rfl)) rfl <| As rfl <| Nl ?_
    exact ⟨(_, _, _, _), Nat.lt_succ_self _, ⟨trivial, h⟩, FX rfl⟩
  ·refine xt ?_
   obtain ⟨l16, hl16, h⟩ := Z8 h
   refine Rg <| Mw rfl <| Md rfl <| Md rfl <| Ac (Z0v rfl rfl (vt rfl) (vt rfl)) rfl <| Md rfl <| Md rfl <| Ac (Zp (A := fn2 Tryz.prog (Z0 .i64) (Z0 .i64) (Z0 .i64) x6) rfl rfl (vt rfl)) rfl <| Cv rfl (Z10 0 (xs := [.tmp 50, .tmp 53, .tmp 54, .tmp 55, .tmp 56]) (Zqi _ _ _ _ _ _ _ hl16) Zss rfl rfl ⟨vt rfl, vt rfl, vt rfl, vt rfl, vt rfl, trivial⟩ rfl) fun _u => Nl ?_
   cases h; exact Z1k (i := 0) Tryz.results333 rfl rfl
def Zlu (i9 : Int) : Nat → (List Int) → Int → Option (List Int)
 | 0, _, _ => none
 | m20 + 1, l18, k19 => (bif (decide (k19 < (IntKind.i64.wrap (i9 - 1)))) then (lget l18 (IntKind.i64.wrap (k19 + 1))).bind fun x21 => (lget l18 k19).bind fun x22 => (lget l18 k19).bind fun x23 => (lget (List.set l18 k19.toNat x21) (IntKind.i64.wrap (k19 + 1))).bind fun x24 => (Zlu i9 m20) (List.set (List.set l18 k19.toNat x21) (IntKind.i64.wrap (k19 + 1)).toNat x22) (IntKind.i64.wrap (k19 + 1)) else some l18)
def Zjl (d1 : (List Int)) (a3 : Int) (x6 : (Int → Int → Option Int)) : Nat → Int → Int → Option (List Int)
 | 0, _, _ => none
 | m11 + 1, i9, j10 => (bif (decide (i9 < j10)) then (Z3a (BitVec.ofInt 64 (IntKind.i64.wrap (i9 + j10))) ((1 : BitVec 64).toNat : Int)).bind fun q12 => (lget d1 (IntKind.i64.wrap (q12.toNat : Int))).bind fun x13 => (lget d1 a3).bind fun x14 => (x6 x13 x14).bind fun x15 => (bif (decide (x15 < 0)) then (Zjl d1 a3 x6 m11) (IntKind.i64.wrap ((IntKind.i64.wrap (q12.toNat : Int)) + 1)) j10 else (Zjl d1 a3 x6 m11) i9 (IntKind.i64.wrap (q12.toNat : Int))) else Zlu i9 ((((IntKind.i64.wrap (i9 - 1)) : Int) - a3).toNat + 1) d1 a3)
def Zo2 (i27 : Int) : Nat → (List Int) → Int → Option (List Int)
 | 0, _, _ => none
 | m38 + 1, l36, k37 => (bif (decide (k37 > i27)) then (lget l36 (IntKind.i64.wrap (k37 - 1))).bind fun x39 => (lget l36 k37).bind fun x40 => (lget l36 k37).bind fun x41 => (lget (List.set l36 k37.toNat x39) (IntKind.i64.wrap (k37 - 1))).bind fun x42 => (Zo2 i27 m38) (List.set (List.set l36 k37.toNat x39) (IntKind.i64.wrap (k37 - 1)).toNat x40) (IntKind.i64.wrap (k37 - 1)) else some l36)
def Zi4 (d1 : (List Int)) (m4 : Int) (x6 : (Int → Int → Option Int)) : Nat → Int → Int → Option (List Int)
 | 0, _, _ => none
 | m29 + 1, i27, j28 => (bif (decide (i27 < j28)) then (Z3a (BitVec.ofInt 64 (IntKind.i64.wrap (i27 + j28))) ((1 : BitVec 64).toNat : Int)).bind fun q30 => (lget d1 m4).bind fun x31 => (lget d1 (IntKind.i64.wrap (q30.toNat : Int))).bind fun x32 => (x6 x31 x32).bind fun x33 => (bif (!(decide (x33 < 0))) then (Zi4 d1 m4 x6 m29) (IntKind.i64.wrap ((IntKind.i64.wrap (q30.toNat : Int)) + 1)) j28 else (Zi4 d1 m4 x6 m29) i27 (IntKind.i64.wrap (q30.toNat : Int))) else Zo2 i27 (((m4 : Int) - i27).toNat + 1) d1 m4)
def Zpn (q43 : (BitVec 64)) (m4 : Int) (s48 : Int) (b5 : Int) (R_slices_symMergeCmpFunc_int : ((List Int) → Int → Int → Int → (Int → Int → Option Int) → Option (List Int))) (x6 : (Int → Int → Option Int)) (l56 : (List Int)) : Option (List Int) :=
 (bif ((decide ((IntKind.i64.wrap (q43.toNat : Int)) < (IntKind.i64.wrap ((IntKind.i64.wrap ((IntKind.i64.wrap (q43.toNat : Int)) + m4)) - s48)))) && (decide ((IntKind.i64.wrap ((IntKind.i64.wrap ((IntKind.i64.wrap (q43.toNat : Int)) + m4)) - s48)) < b5))) then (R_slices_symMergeCmpFunc_int l56 (IntKind.i64.wrap (q43.toNat : Int)) (IntKind.i64.wrap ((IntKind.i64.wrap ((IntKind.i64.wrap (q43.toNat : Int)) + m4)) - s48)) b5 x6).bind fun l57 => some l57 else some l56)
def Zm0 (a3 : Int) (s48 : Int) (q43 : (BitVec 64)) (R_slices_symMergeCmpFunc_int : ((List Int) → Int → Int → Int → (Int → Int → Option Int) → Option (List Int))) (x6 : (Int → Int → Option Int)) (m4 : Int) (b5 : Int) (l55 : (List Int)) : Option (List Int) :=
 (bif ((decide (a3 < s48)) && (decide (s48 < (IntKind.i64.wrap (q43.toNat : Int))))) then (R_slices_symMergeCmpFunc_int l55 a3 s48 (IntKind.i64.wrap (q43.toNat : Int)) x6).bind fun l58 => Zpn q43 m4 s48 b5 R_slices_symMergeCmpFunc_int x6 l58 else Zpn q43 m4 s48 b5 R_slices_symMergeCmpFunc_int x6 l55)
def Zib (d1 : (List Int)) (q43 : (BitVec 64)) (m4 : Int) (x6 : (Int → Int → Option Int)) (a3 : Int) (R_slices_symMergeCmpFunc_int : ((List Int) → Int → Int → Int → (Int → Int → Option Int) → Option (List Int))) (b5 : Int) : Nat → Int → Int → Option (List Int)
 | 0, _, _ => none
 | m50 + 1, s48, x49 => (bif (decide (s48 < x49)) then (Z3a (BitVec.ofInt 64 (IntKind.i64.wrap (s48 + x49))) ((1 : BitVec 64).toNat : Int)).bind fun q51 => (lget d1 (IntKind.i64.wrap ((IntKind.i64.wrap ((IntKind.i64.wrap ((IntKind.i64.wrap (q43.toNat : Int)) + m4)) - 1)) - (IntKind.i64.wrap (q51.toNat : Int))))).bind fun x52 => (lget d1 (IntKind.i64.wrap (q51.toNat : Int))).bind fun x53 => (x6 x52 x53).bind fun x54 => (bif (!(decide (x54 < 0))) then (Zib d1 q43 m4 x6 a3 R_slices_symMergeCmpFunc_int b5 m50) (IntKind.i64.wrap ((IntKind.i64.wrap (q51.toNat : Int)) + 1)) x49 else (Zib d1 q43 m4 x6 a3 R_slices_symMergeCmpFunc_int b5 m50) s48 (IntKind.i64.wrap (q51.toNat : Int))) else (bif ((decide (s48 < m4)) && (decide (m4 < (IntKind.i64.wrap ((IntKind.i64.wrap ((IntKind.i64.wrap (q43.toNat : Int)) + m4)) - s48))))) then (Zt7 d1 s48 m4 (IntKind.i64.wrap ((IntKind.i64.wrap ((IntKind.i64.wrap (q43.toNat : Int)) + m4)) - s48)) x6).bind fun l59 => Zm0 a3 s48 q43 R_slices_symMergeCmpFunc_int x6 m4 b5 l59 else Zm0 a3 s48 q43 R_slices_symMergeCmpFunc_int x6 m4 b5 d1))
def Znb (d1 : (List Int)) (q43 : (BitVec 64)) (m4 : Int) (x6 : (Int → Int → Option Int)) (a3 : Int) (R_slices_symMergeCmpFunc_int : ((List Int) → Int → Int → Int → (Int → Int → Option Int) → Option (List Int))) (b5 : Int) (s44 : Int) (x45 : Int) : Option (List Int) :=
 Zib d1 q43 m4 x6 a3 R_slices_symMergeCmpFunc_int b5 (((x45 : Int) - s44).toNat + 1) s44 x45
def Zry (R_slices_symMergeCmpFunc_int : ((List Int) → Int → Int → Int → (Int → Int → Option Int) → Option (List Int))) (d1 : (List Int)) (a3 : Int) (m4 : Int) (b5 : Int) (x6 : (Int → Int → Option Int)) : Option (List Int) :=
 (bif (decide ((IntKind.i64.wrap (m4 - a3)) = 1)) then Zjl d1 a3 x6 (((b5 : Int) - m4).toNat + 1) m4 b5 else (bif (decide ((IntKind.i64.wrap (b5 - m4)) = 1)) then Zi4 d1 m4 x6 (((m4 : Int) - a3).toNat + 1) a3 m4 else (Z3a (BitVec.ofInt 64 (IntKind.i64.wrap (a3 + b5))) ((1 : BitVec 64).toNat : Int)).bind fun q43 => (bif (decide (m4 > (IntKind.i64.wrap (q43.toNat : Int)))) then Znb d1 q43 m4 x6 a3 R_slices_symMergeCmpFunc_int b5 (IntKind.i64.wrap ((IntKind.i64.wrap ((IntKind.i64.wrap (q43.toNat : Int)) + m4)) - b5)) (IntKind.i64.wrap (q43.toNat : Int)) else Znb d1 q43 m4 x6 a3 R_slices_symMergeCmpFunc_int b5 a3 m4)))
theorem Ymx (R_slices_symMergeCmpFunc_int : ((List Int) → Int → Int → Int → (Int → Int → Option Int) → Option (List Int))) (hR_slices_symMergeCmpFunc_int : ∀ (v2 : Value) (d1 : (List Int)) (a3 : Int) (m4 : Int) (b5 : Int) (x6 : (Int → Int → Option Int)) (r : (List Int)), R_slices_symMergeCmpFunc_int d1 a3 m4 b5 x6 = some r → Con Tryz.prog 302 [Zo v2, rd (Z0 .i64) a3, rd (Z0 .i64) m4, rd (Z0 .i64) b5, fn2 Tryz.prog (Z0 .i64) (Z0 .i64) (Z0 .i64) x6] (Zb v2 3 (Z0 .i64) d1) (fun _ : Unit => top) (fun _ => Zb v2 3 (Z0 .i64) r)) (v2 : Value) (d1 : (List Int)) (a3 : Int) (m4 : Int) (b5 : Int) (x6 : (Int → Int → Option Int)) (r : (List Int)) (h : Zry R_slices_symMergeCmpFunc_int d1 a3 m4 b5 x6 = some r) : Con Tryz.prog 302 [Zo v2, rd (Z0 .i64) a3, rd (Z0 .i64) m4, rd (Z0 .i64) b5, fn2 Tryz.prog (Z0 .i64) (Z0 .i64) (Z0 .i64) x6] (Zb v2 3 (Z0 .i64) d1) (fun _ : Unit => top) (fun _ => Zb v2 3 (Z0 .i64) r) := by
 refine Con.intro Tryz.func302 rfl Tryz.ntmps302 rfl fun w H X => ?_
 unfold Zry at h
 refine sq <| SR <| Md rfl <| Md rfl <| Ac (Z0v rfl rfl (vt rfl) (vt rfl)) rfl <| Ac (Z1r rfl rfl (vt rfl) (vk rfl)) rfl <| Nl <| Cq rfl h (fun h => ?_) (fun h => ?_)
 ·refine SR <| Md rfl <| As rfl <| Nl <| SR <| Md rfl <| As rfl <| Nl <| sq <| bk <| LG (d := []) (ν := Nat × Int × Int) (fun (m11, i9, j10) => (True ∧ Zjl d1 a3 x6 m11 i9 j10 = some r, m11, [(0, Zo v2), (1, rd (Z0 .i64) a3), (4, fn2 Tryz.prog (Z0 .i64) (Z0 .i64) (Z0 .i64) x6), (10, rd (Z0 .i64) i9), (11, rd (Z0 .i64) j10)], [(0, Zb v2 3 (Z0 .i64) d1)])) ((((b5 : Int) - m4).toNat + 1), m4, b5) ⟨trivial, h⟩ (FX rfl) ?_
  rintro ⟨m11, i9, j10⟩ ⟨hsf1, h⟩
  dsimp only at h ⊢
  cases m11 with
  | zero => cases h
  | succ m11 =>
   unfold Zjl at h
   refine sq <| SR <| Md rfl <| Md rfl <| Ac (Zi rfl rfl (vt rfl) (vt rfl)) rfl <| Nl <| Cq rfl h (fun h => ?_) (fun h => ?_)
   ·refine sk <| bk <| sq ?_
    obtain ⟨q12, hq12, h⟩ := Z8 h
    refine Rg <| Md rfl <| Md rfl <| Ac (Z0o rfl rfl (vt rfl) (vt rfl)) rfl <| Ac (Z8n rfl rfl us3 Zau (vt rfl)) rfl <| Ac (Z67 rfl rfl (vt rfl) (Z65 (vku (1 : BitVec 64) rfl)) hq12) rfl <| Ac (Z9y rfl rfl Zar un3 (vt rfl)) rfl <| As rfl <| Nl <| sq ?_
    obtain ⟨x13, hx13, x14, hx14, x15, hx15, h⟩ := bs3 h
    refine AR Zw (by kernel_rfl) <| Sd (lo [4] [] rfl fun S hs hr => Zp (A := fn2 Tryz.prog (Z0 .i64) (Z0 .i64) (Z0 .i64) x6) rfl rfl (vh hs 4 rfl rfl)) <| SMw rfl <| SMd rfl <| Sd (lo [41, 42] [0] rfl fun S hs hr => Z2n 0 rfl rfl Z15 (vh hs 41 rfl rfl) ((hr 0 rfl).trans rfl) (vh hs 42 rfl rfl) hx13) <| Sd (lo [43] [0] rfl fun S hs hr => Z1v 0 rfl rfl Zq (vh hs 43 rfl rfl) ((hr 0 rfl).trans rfl) (Z0n hx13).2) <| SMw rfl <| SMd rfl <| Sd (lo [45, 46] [0] rfl fun S hs hr => Z2n 0 rfl rfl Z15 (vh hs 45 rfl rfl) ((hr 0 rfl).trans rfl) (vh hs 46 rfl rfl) hx14) <| Sd (lo [47] [0] rfl fun S hs hr => Z1v 0 rfl rfl Zq (vh hs 47 rfl rfl) ((hr 0 rfl).trans rfl) (Z0n hx14).2) <| Sd (lo [40, 44, 48] [] rfl fun S hs hr => Zc3 hx15 rfl rfl (vh hs 40 rfl rfl) (vh hs 44 rfl rfl) (vh hs 48 rfl rfl)) <| Sd (lo [49] [] rfl fun S hs hr => Zi rfl rfl (vh hs 49 rfl rfl) (vk rfl)) <| Sn <| Cq rfl h (fun h => ?_) (fun h => ?_)
    ·refine Rg <| Md rfl <| Ac (Z0o rfl rfl (vt rfl) (vk rfl)) rfl <| As rfl <| Nl ?_
     exact ⟨(_, _, _), Nat.lt_succ_self _, ⟨trivial, h⟩, FX rfl⟩
    ·refine Rg <| Md rfl <| As rfl <| Nl ?_
     exact ⟨(_, _, _), Nat.lt_succ_self _, ⟨trivial, h⟩, FX rfl⟩
   ·refine xt <| sq <| SR <| Md rfl <| As rfl <| Nl <| bk <| LG (d := []) (ν := Nat × (List Int) × Int) (fun (m20, l18, k19) => (True ∧ Zlu i9 m20 l18 k19 = some r, m20, [(0, Zo v2), (10, rd (Z0 .i64) i9), (13, rd (Z0 .i64) k19)], [(0, Zb v2 3 (Z0 .i64) l18)])) (((((IntKind.i64.wrap (i9 - 1)) : Int) - a3).toNat + 1), d1, a3) ⟨trivial, h⟩ (FX rfl) ?_
    rintro ⟨m20, l18, k19⟩ ⟨hsf2, h⟩
    dsimp only at h ⊢
    cases m20 with
    | zero => cases h
    | succ m20 =>
     unfold Zlu at h
     refine sq <| SR <| Md rfl <| Md rfl <| Ac (Z0v rfl rfl (vt rfl) (vk rfl)) rfl <| Ac (Zi rfl rfl (vt rfl) (vt rfl)) rfl <| Nl <| Cq rfl h (fun h => ?_) (fun h => ?_)
     ·refine sk <| sq <| bk <| AW.vlen 0 rfl fun hvl0_205 => ?_
      obtain ⟨x21, hx21, x22, hx22, x23, hx23, x24, hx24, h⟩ := bs4 h
      refine AR Zw (by kernel_rfl) <| SMw rfl <| SMd rfl <| SMw rfl <| SMd rfl <| Sd (lo [64] [] rfl fun S hs hr => Z0o rfl rfl (vh hs 64 rfl rfl) (vk rfl)) <| SMw rfl <| SMd rfl <| Sd (lo [67] [] rfl fun S hs hr => Z0o rfl rfl (vh hs 67 rfl rfl) (vk rfl)) <| Sd (lo [66, 68] [] rfl fun S hs hr => Z24 (l := l18) hvl0_205 rfl rfl rfl Z15 (vh hs 66 rfl rfl) (vh hs 68 rfl rfl) hx21) <| Sd (lo [69] [0] rfl fun S hs hr => Z1v 0 rfl rfl Zq (vh hs 69 rfl rfl) ((hr 0 rfl).trans rfl) (Z0n hx21).2) <| SMw rfl <| SMd rfl <| Sd (lo [71, 72] [] rfl fun S hs hr => Z24 (l := l18) hvl0_205 rfl rfl rfl Z15 (vh hs 71 rfl rfl) (vh hs 72 rfl rfl) hx22) <| Sd (lo [73] [0] rfl fun S hs hr => Z1v 0 rfl rfl Zq (vh hs 73 rfl rfl) ((hr 0 rfl).trans rfl) (Z0n hx22).2) <| Sd (lo [61, 62] [] rfl fun S hs hr => Z24 (l := l18) hvl0_205 rfl rfl rfl Z15 (vh hs 61 rfl rfl) (vh hs 62 rfl rfl) hx23) <| Sd (Z45 [75, 70] [0] rfl fun S hs hr => Z3w 0 rfl rfl Zq (vh hs 75 rfl rfl) ((hr 0 rfl).trans rfl) (Z0n hx23).2 (vh hs 70 rfl rfl)) <| Sd (lo [63, 65] [] rfl fun S hs hr => Z24 (l := (List.set l18 k19.toNat x21)) hvl0_205 (by simp) rfl rfl Z15 (vh hs 63 rfl rfl) (vh hs 65 rfl rfl) hx24) <| Sd (Z45 [76, 74] [0] rfl fun S hs hr => Z3w 0 rfl rfl Zq (vh hs 76 rfl rfl) ((hr 0 rfl).trans rfl) (Z0n hx24).2 (vh hs 74 rfl rfl)) <| Sn <| Rg <| Md rfl <| Ac (Z0o rfl rfl (vt rfl) (vk rfl)) rfl <| As rfl <| Nl ?_
      exact ⟨(_, _, _), Nat.lt_succ_self _, ⟨trivial, h⟩, FX rfl⟩
     ·refine xt <| rt ?_
      cases h; exact Z1k (i := 0) Tryz.results302 rfl rfl
 ·refine sk <| sq <| SR <| Md rfl <| Md rfl <| Ac (Z0v rfl rfl (vt rfl) (vt rfl)) rfl <| Ac (Z1r rfl rfl (vt rfl) (vk rfl)) rfl <| Nl <| Cq rfl h (fun h => ?_) (fun h => ?_)
  ·refine SR <| Md rfl <| As rfl <| Nl <| SR <| Md rfl <| As rfl <| Nl <| sq <| bk <| LG (d := []) (ν := Nat × Int × Int) (fun (m29, i27, j28) => (True ∧ Zi4 d1 m4 x6 m29 i27 j28 = some r, m29, [(0, Zo v2), (2, rd (Z0 .i64) m4), (4, fn2 Tryz.prog (Z0 .i64) (Z0 .i64) (Z0 .i64) x6), (14, rd (Z0 .i64) i27), (15, rd (Z0 .i64) j28)], [(0, Zb v2 3 (Z0 .i64) d1)])) ((((m4 : Int) - a3).toNat + 1), a3, m4) ⟨trivial, h⟩ (FX rfl) ?_
   rintro ⟨m29, i27, j28⟩ ⟨hsf3, h⟩
   dsimp only at h ⊢
   cases m29 with
   | zero => cases h
   | succ m29 =>
    unfold Zi4 at h
    refine sq <| SR <| Md rfl <| Md rfl <| Ac (Zi rfl rfl (vt rfl) (vt rfl)) rfl <| Nl <| Cq rfl h (fun h => ?_) (fun h => ?_)
    ·refine sk <| bk <| sq ?_
     obtain ⟨q30, hq30, h⟩ := Z8 h
     refine Rg <| Md rfl <| Md rfl <| Ac (Z0o rfl rfl (vt rfl) (vt rfl)) rfl <| Ac (Z8n rfl rfl us3 Zau (vt rfl)) rfl <| Ac (Z67 rfl rfl (vt rfl) (Z65 (vku (1 : BitVec 64) rfl)) hq30) rfl <| Ac (Z9y rfl rfl Zar un3 (vt rfl)) rfl <| As rfl <| Nl <| sq ?_
     obtain ⟨x31, hx31, x32, hx32, x33, hx33, h⟩ := bs3 h
     refine AR Zw (by kernel_rfl) <| Sd (lo [4] [] rfl fun S hs hr => Zp (A := fn2 Tryz.prog (Z0 .i64) (Z0 .i64) (Z0 .i64) x6) rfl rfl (vh hs 4 rfl rfl)) <| SMw rfl <| SMd rfl <| Sd (lo [93, 94] [0] rfl fun S hs hr => Z2n 0 rfl rfl Z15 (vh hs 93 rfl rfl) ((hr 0 rfl).trans rfl) (vh hs 94 rfl rfl) hx31) <| Sd (lo [95] [0] rfl fun S hs hr => Z1v 0 rfl rfl Zq (vh hs 95 rfl rfl) ((hr 0 rfl).trans rfl) (Z0n hx31).2) <| SMw rfl <| SMd rfl <| Sd (lo [97, 98] [0] rfl fun S hs hr => Z2n 0 rfl rfl Z15 (vh hs 97 rfl rfl) ((hr 0 rfl).trans rfl) (vh hs 98 rfl rfl) hx32) <| Sd (lo [99] [0] rfl fun S hs hr => Z1v 0 rfl rfl Zq (vh hs 99 rfl rfl) ((hr 0 rfl).trans rfl) (Z0n hx32).2) <| Sd (lo [92, 96, 100] [] rfl fun S hs hr => Zc3 hx33 rfl rfl (vh hs 92 rfl rfl) (vh hs 96 rfl rfl) (vh hs 100 rfl rfl)) <| Sd (lo [101] [] rfl fun S hs hr => Zi rfl rfl (vh hs 101 rfl rfl) (vk rfl)) <| Sd (lo [102] [] rfl fun S hs hr => Z0z rfl rfl (vh hs 102 rfl rfl)) <| Sn <| Cq rfl h (fun h => ?_) (fun h => ?_)
     ·refine Rg <| Md rfl <| Ac (Z0o rfl rfl (vt rfl) (vk rfl)) rfl <| As rfl <| Nl ?_
      exact ⟨(_, _, _), Nat.lt_succ_self _, ⟨trivial, h⟩, FX rfl⟩
     ·refine Rg <| Md rfl <| As rfl <| Nl ?_
      exact ⟨(_, _, _), Nat.lt_succ_self _, ⟨trivial, h⟩, FX rfl⟩
    ·refine xt <| sq <| SR <| Md rfl <| As rfl <| Nl <| bk <| LG (d := []) (ν := Nat × (List Int) × Int) (fun (m38, l36, k37) => (True ∧ Zo2 i27 m38 l36 k37 = some r, m38, [(0, Zo v2), (14, rd (Z0 .i64) i27), (17, rd (Z0 .i64) k37)], [(0, Zb v2 3 (Z0 .i64) l36)])) ((((m4 : Int) - i27).toNat + 1), d1, m4) ⟨trivial, h⟩ (FX rfl) ?_
     rintro ⟨m38, l36, k37⟩ ⟨hsf4, h⟩
     dsimp only at h ⊢
     cases m38 with
     | zero => cases h
     | succ m38 =>
      unfold Zo2 at h
      refine sq <| SR <| Md rfl <| Md rfl <| Ac (Z3i rfl rfl (vt rfl) (vt rfl)) rfl <| Nl <| Cq rfl h (fun h => ?_) (fun h => ?_)
      ·refine sk <| sq <| bk <| AW.vlen 0 rfl fun hvl0_446 => ?_
       obtain ⟨x39, hx39, x40, hx40, x41, hx41, x42, hx42, h⟩ := bs4 h
       refine AR Zw (by kernel_rfl) <| SMw rfl <| SMd rfl <| SMw rfl <| SMd rfl <| Sd (lo [116] [] rfl fun S hs hr => Z0v rfl rfl (vh hs 116 rfl rfl) (vk rfl)) <| SMw rfl <| SMd rfl <| Sd (lo [119] [] rfl fun S hs hr => Z0v rfl rfl (vh hs 119 rfl rfl) (vk rfl)) <| Sd (lo [118, 120] [] rfl fun S hs hr => Z24 (l := l36) hvl0_446 rfl rfl rfl Z15 (vh hs 118 rfl rfl) (vh hs 120 rfl rfl) hx39) <| Sd (lo [121] [0] rfl fun S hs hr => Z1v 0 rfl rfl Zq (vh hs 121 rfl rfl) ((hr 0 rfl).trans rfl) (Z0n hx39).2) <| SMw rfl <| SMd rfl <| Sd (lo [123, 124] [] rfl fun S hs hr => Z24 (l := l36) hvl0_446 rfl rfl rfl Z15 (vh hs 123 rfl rfl) (vh hs 124 rfl rfl) hx40) <| Sd (lo [125] [0] rfl fun S hs hr => Z1v 0 rfl rfl Zq (vh hs 125 rfl rfl) ((hr 0 rfl).trans rfl) (Z0n hx40).2) <| Sd (lo [113, 114] [] rfl fun S hs hr => Z24 (l := l36) hvl0_446 rfl rfl rfl Z15 (vh hs 113 rfl rfl) (vh hs 114 rfl rfl) hx41) <| Sd (Z45 [127, 122] [0] rfl fun S hs hr => Z3w 0 rfl rfl Zq (vh hs 127 rfl rfl) ((hr 0 rfl).trans rfl) (Z0n hx41).2 (vh hs 122 rfl rfl)) <| Sd (lo [115, 117] [] rfl fun S hs hr => Z24 (l := (List.set l36 k37.toNat x39)) hvl0_446 (by simp) rfl rfl Z15 (vh hs 115 rfl rfl) (vh hs 117 rfl rfl) hx42) <| Sd (Z45 [128, 126] [0] rfl fun S hs hr => Z3w 0 rfl rfl Zq (vh hs 128 rfl rfl) ((hr 0 rfl).trans rfl) (Z0n hx42).2 (vh hs 126 rfl rfl)) <| Sn <| Rg <| Md rfl <| Ac (Z0v rfl rfl (vt rfl) (vk rfl)) rfl <| As rfl <| Nl ?_
       exact ⟨(_, _, _), Nat.lt_succ_self _, ⟨trivial, h⟩, FX rfl⟩
      ·refine xt <| rt ?_
       cases h; exact Z1k (i := 0) Tryz.results302 rfl rfl
  ·refine sk <| sq ?_
   obtain ⟨q43, hq43, h⟩ := Z8 h
   refine Rg <| Md rfl <| Md rfl <| Ac (Z0o rfl rfl (vt rfl) (vt rfl)) rfl <| Ac (Z8n rfl rfl us3 Zau (vt rfl)) rfl <| Ac (Z67 rfl rfl (vt rfl) (Z65 (vku (1 : BitVec 64) rfl)) hq43) rfl <| Ac (Z9y rfl rfl Zar un3 (vt rfl)) rfl <| As rfl <| Nl <| SR <| Md rfl <| Md rfl <| Ac (Z0o rfl rfl (vt rfl) (vt rfl)) rfl <| As rfl <| Nl <| SR <| Ak rfl <| Ak rfl <| Nl ?_
   refine JN (d := []) (ν := Int × Int) (fun (s44, x45) => (Znb d1 q43 m4 x6 a3 R_slices_symMergeCmpFunc_int b5 s44 x45 = some r, [(0, Zo v2), (1, rd (Z0 .i64) a3), (2, rd (Z0 .i64) m4), (3, rd (Z0 .i64) b5), (4, fn2 Tryz.prog (Z0 .i64) (Z0 .i64) (Z0 .i64) x6), (18, rd (Z0 .i64) (IntKind.i64.wrap (q43.toNat : Int))), (19, rd (Z0 .i64) (IntKind.i64.wrap ((IntKind.i64.wrap (q43.toNat : Int)) + m4))), (20, rd (Z0 .i64) s44), (21, rd (Z0 .i64) x45)], [(0, Zb v2 3 (Z0 .i64) d1)])) ?hx5 ?hy5
   case hy5 =>
    rintro ⟨s44, x45⟩ h
    dsimp only at h ⊢
    unfold Znb at h
    refine SR <| Md rfl <| Ac (Z0v rfl rfl (vt rfl) (vk rfl)) rfl <| As rfl <| Nl <| sq <| bk <| LG (d := []) (ν := Nat × Int × Int) (fun (m50, s48, x49) => (True ∧ Zib d1 q43 m4 x6 a3 R_slices_symMergeCmpFunc_int b5 m50 s48 x49 = some r, m50, [(0, Zo v2), (1, rd (Z0 .i64) a3), (2, rd (Z0 .i64) m4), (3, rd (Z0 .i64) b5), (4, fn2 Tryz.prog (Z0 .i64) (Z0 .i64) (Z0 .i64) x6), (18, rd (Z0 .i64) (IntKind.i64.wrap (q43.toNat : Int))), (19, rd (Z0 .i64) (IntKind.i64.wrap ((IntKind.i64.wrap (q43.toNat : Int)) + m4))), (20, rd (Z0 .i64) s48), (21, rd (Z0 .i64) x49), (22, rd (Z0 .i64) (IntKind.i64.wrap ((IntKind.i64.wrap ((IntKind.i64.wrap (q43.toNat : Int)) + m4)) - 1)))], [(0, Zb v2 3 (Z0 .i64) d1)])) ((((x45 : Int) - s44).toNat + 1), s44, x45) ⟨trivial, h⟩ (FX rfl) ?_
    rintro ⟨m50, s48, x49⟩ ⟨hsf6, h⟩
    dsimp only at h ⊢
    cases m50 with
    | zero => cases h
    | succ m50 =>
     unfold Zib at h
     refine sq <| SR <| Md rfl <| Md rfl <| Ac (Zi rfl rfl (vt rfl) (vt rfl)) rfl <| Nl <| Cq rfl h (fun h => ?_) (fun h => ?_)
     ·refine sk <| bk <| sq ?_
      obtain ⟨q51, hq51, h⟩ := Z8 h
      refine Rg <| Md rfl <| Md rfl <| Ac (Z0o rfl rfl (vt rfl) (vt rfl)) rfl <| Ac (Z8n rfl rfl us3 Zau (vt rfl)) rfl <| Ac (Z67 rfl rfl (vt rfl) (Z65 (vku (1 : BitVec 64) rfl)) hq51) rfl <| Ac (Z9y rfl rfl Zar un3 (vt rfl)) rfl <| As rfl <| Nl <| sq ?_
      obtain ⟨x52, hx52, x53, hx53, x54, hx54, h⟩ := bs3 h
      refine AR Zw (by kernel_rfl) <| Sd (lo [4] [] rfl fun S hs hr => Zp (A := fn2 Tryz.prog (Z0 .i64) (Z0 .i64) (Z0 .i64) x6) rfl rfl (vh hs 4 rfl rfl)) <| SMw rfl <| SMd rfl <| SMd rfl <| Sd (lo [160, 161] [] rfl fun S hs hr => Z0v rfl rfl (vh hs 160 rfl rfl) (vh hs 161 rfl rfl)) <| Sd (lo [159, 162] [0] rfl fun S hs hr => Z2n 0 rfl rfl Z15 (vh hs 159 rfl rfl) ((hr 0 rfl).trans rfl) (vh hs 162 rfl rfl) hx52) <| Sd (lo [163] [0] rfl fun S hs hr => Z1v 0 rfl rfl Zq (vh hs 163 rfl rfl) ((hr 0 rfl).trans rfl) (Z0n hx52).2) <| SMw rfl <| SMd rfl <| Sd (lo [165, 166] [0] rfl fun S hs hr => Z2n 0 rfl rfl Z15 (vh hs 165 rfl rfl) ((hr 0 rfl).trans rfl) (vh hs 166 rfl rfl) hx53) <| Sd (lo [167] [0] rfl fun S hs hr => Z1v 0 rfl rfl Zq (vh hs 167 rfl rfl) ((hr 0 rfl).trans rfl) (Z0n hx53).2) <| Sd (lo [158, 164, 168] [] rfl fun S hs hr => Zc3 hx54 rfl rfl (vh hs 158 rfl rfl) (vh hs 164 rfl rfl) (vh hs 168 rfl rfl)) <| Sd (lo [169] [] rfl fun S hs hr => Zi rfl rfl (vh hs 169 rfl rfl) (vk rfl)) <| Sd (lo [170] [] rfl fun S hs hr => Z0z rfl rfl (vh hs 170 rfl rfl)) <| Sn <| Cq rfl h (fun h => ?_) (fun h => ?_)
      ·refine Rg <| Md rfl <| Ac (Z0o rfl rfl (vt rfl) (vk rfl)) rfl <| As rfl <| Nl ?_
       exact ⟨(_, _, _), Nat.lt_succ_self _, ⟨trivial, h⟩, FX rfl⟩
      ·refine Rg <| Md rfl <| As rfl <| Nl ?_
       exact ⟨(_, _, _), Nat.lt_succ_self _, ⟨trivial, h⟩, FX rfl⟩
     ·refine xt <| SR <| Md rfl <| Md rfl <| Ac (Z0v rfl rfl (vt rfl) (vt rfl)) rfl <| As rfl <| Nl ?_
      refine JN (d := []) (ν := (List Int)) (fun l55 => (Zm0 a3 s48 q43 R_slices_symMergeCmpFunc_int x6 m4 b5 l55 = some r, [(0, Zo v2), (1, rd (Z0 .i64) a3), (3, rd (Z0 .i64) b5), (4, fn2 Tryz.prog (Z0 .i64) (Z0 .i64) (Z0 .i64) x6), (18, rd (Z0 .i64) (IntKind.i64.wrap (q43.toNat : Int))), (20, rd (Z0 .i64) s48), (24, rd (Z0 .i64) (IntKind.i64.wrap ((IntKind.i64.wrap ((IntKind.i64.wrap (q43.toNat : Int)) + m4)) - s48)))], [(0, Zb v2 3 (Z0 .i64) l55)])) ?hx7 ?hy7
      case hy7 =>
       intro l55 h
       dsimp only at h ⊢
       unfold Zm0 at h
       refine JN (d := []) (ν := (List Int)) (fun l56 => (Zpn q43 m4 s48 b5 R_slices_symMergeCmpFunc_int x6 l56 = some r, [(0, Zo v2), (3, rd (Z0 .i64) b5), (4, fn2 Tryz.prog (Z0 .i64) (Z0 .i64) (Z0 .i64) x6), (18, rd (Z0 .i64) (IntKind.i64.wrap (q43.toNat : Int))), (24, rd (Z0 .i64) (IntKind.i64.wrap ((IntKind.i64.wrap ((IntKind.i64.wrap (q43.toNat : Int)) + m4)) - s48)))], [(0, Zb v2 3 (Z0 .i64) l56)])) ?hx8 ?hy8
       case hy8 =>
        intro l56 h
        dsimp only at h ⊢
        unfold Zpn at h
        refine SR <| Md rfl <| Md rfl <| Ac (Zi rfl rfl (vt rfl) (vt rfl)) rfl <| Md rfl <| Gd rfl (fun hq => Zp (A := rd (Z0 .i64) (IntKind.i64.wrap ((IntKind.i64.wrap ((IntKind.i64.wrap (q43.toNat : Int)) + m4)) - s48))) rfl rfl (vt rfl)) <| Gd rfl (fun hq => Zp (A := rd (Z0 .i64) b5) rfl rfl (vt rfl)) <| Gd rfl (fun hq => Zi rfl rfl (Zg rfl hq) (Zg rfl hq)) <| Ac (Z21 rfl rfl (vt rfl) (vt rfl)) rfl <| Nl <| Cq rfl h (fun h => ?_) (fun h => ?_)
        ·obtain ⟨l57, hl57, h⟩ := Z8 h
         refine Rg <| Mw rfl <| Md rfl <| Md rfl <| Md rfl <| Ac (Zp (A := fn2 Tryz.prog (Z0 .i64) (Z0 .i64) (Z0 .i64) x6) rfl rfl (vt rfl)) rfl <| Cv rfl (Z10 0 (xs := [.tmp 214, .tmp 215, .tmp 216, .tmp 217, .tmp 218]) (hR_slices_symMergeCmpFunc_int _ _ _ _ _ _ _ hl57) Zo1 rfl rfl ⟨vt rfl, vt rfl, vt rfl, vt rfl, vt rfl, trivial⟩ rfl) fun _u => Nl ?_
         cases h; exact Z1k (i := 0) Tryz.results302 rfl rfl
        ·refine sk ?_
         cases h; exact Z1k (i := 0) Tryz.results302 rfl rfl
       case hx8 =>
        refine SR <| Md rfl <| Md rfl <| Ac (Zi rfl rfl (vt rfl) (vt rfl)) rfl <| Md rfl <| Gd rfl (fun hq => Zp (A := rd (Z0 .i64) s48) rfl rfl (vt rfl)) <| Gd rfl (fun hq => Zp (A := rd (Z0 .i64) (IntKind.i64.wrap (q43.toNat : Int))) rfl rfl (vt rfl)) <| Gd rfl (fun hq => Zi rfl rfl (Zg rfl hq) (Zg rfl hq)) <| Ac (Z21 rfl rfl (vt rfl) (vt rfl)) rfl <| Nl <| Cq rfl h (fun h => ?_) (fun h => ?_)
        ·obtain ⟨l58, hl58, h⟩ := Z8 h
         refine Rg <| Mw rfl <| Md rfl <| Md rfl <| Md rfl <| Ac (Zp (A := fn2 Tryz.prog (Z0 .i64) (Z0 .i64) (Z0 .i64) x6) rfl rfl (vt rfl)) rfl <| Cv rfl (Z10 0 (xs := [.tmp 200, .tmp 201, .tmp 202, .tmp 203, .tmp 204]) (hR_slices_symMergeCmpFunc_int _ _ _ _ _ _ _ hl58) Zo1 rfl rfl ⟨vt rfl, vt rfl, vt rfl, vt rfl, vt rfl, trivial⟩ rfl) fun _u => Nl ?_
         exact ⟨_, h, FX rfl⟩
        ·refine sk ?_
         exact ⟨_, h, FX rfl⟩
      case hx7 =>
       refine SR <| Md rfl <| Md rfl <| Ac (Zi rfl rfl (vt rfl) (vt rfl)) rfl <| Md rfl <| Gd rfl (fun hq => Zp (A := rd (Z0 .i64) m4) rfl rfl (vt rfl)) <| Gd rfl (fun hq => Zp (A := rd (Z0 .i64) (IntKind.i64.wrap ((IntKind.i64.wrap ((IntKind.i64.wrap (q43.toNat : Int)) + m4)) - s48))) rfl rfl (vt rfl)) <| Gd rfl (fun hq => Zi rfl rfl (Zg rfl hq) (Zg rfl hq)) <| Ac (Z21 rfl rfl (vt rfl) (vt rfl)) rfl <| Nl <| Cq rfl h (fun h => ?_) (fun h => ?_)
       ·obtain ⟨l59, hl59, h⟩ := Z8 h
        refine Rg <| Mw rfl <| Md rfl <| Md rfl <| Md rfl <| Ac (Zp (A := fn2 Tryz.prog (Z0 .i64) (Z0 .i64) (Z0 .i64) x6) rfl rfl (vt rfl)) rfl <| Cv rfl (Z10 0 (xs := [.tmp 186, .tmp 187, .tmp 188, .tmp 189, .tmp 190]) (Yjf _ _ _ _ _ _ _ hl59) Ykp rfl rfl ⟨vt rfl, vt rfl, vt rfl, vt rfl, vt rfl, trivial⟩ rfl) fun _u => Nl ?_
        exact ⟨_, h, FX rfl⟩
       ·refine sk ?_
        exact ⟨_, h, FX rfl⟩
   case hx5 =>
    refine SR <| Md rfl <| Md rfl <| Ac (Z3i rfl rfl (vt rfl) (vt rfl)) rfl <| Nl <| Cq rfl h (fun h => ?_) (fun h => ?_)
    ·refine SR <| Md rfl <| Md rfl <| Ac (Z0v rfl rfl (vt rfl) (vt rfl)) rfl <| As rfl <| Nl <| Rg <| Md rfl <| As rfl <| Nl ?_
     exact ⟨(_, _), h, FX rfl⟩
    ·refine SR <| Md rfl <| As rfl <| Nl <| Rg <| Md rfl <| As rfl <| Nl ?_
     exact ⟨(_, _), h, FX rfl⟩
def Zmr : Nat → ((List Int) → Int → Int → Int → (Int → Int → Option Int) → Option (List Int))
 | 0 => (fun _ _ _ _ _ => none)
 | n + 1 => (Zry (Zmr n))
theorem Zyq : ∀ n : Nat, (∀ (v2 : Value) (d1 : (List Int)) (a3 : Int) (m4 : Int) (b5 : Int) (x6 : (Int → Int → Option Int)) (r : (List Int)), (Zmr n) d1 a3 m4 b5 x6 = some r → Con Tryz.prog 302 [Zo v2, rd (Z0 .i64) a3, rd (Z0 .i64) m4, rd (Z0 .i64) b5, fn2 Tryz.prog (Z0 .i64) (Z0 .i64) (Z0 .i64) x6] (Zb v2 3 (Z0 .i64) d1) (fun _ : Unit => top) (fun _ => Zb v2 3 (Z0 .i64) r))
 | 0 => (by intros; rename_i h; cases h)
 | n + 1 => by
  have ih := Zyq n
  exact (Ymx (Zmr n) ih)
def Zsl (d1 : (List Int)) (a3 : Int) (m4 : Int) (b5 : Int) (x6 : (Int → Int → Option Int)) : Option (List Int) := (Zmr Z0l) d1 a3 m4 b5 x6
theorem Zx4 : ∀ (v2 : Value) (d1 : (List Int)) (a3 : Int) (m4 : Int) (b5 : Int) (x6 : (Int → Int → Option Int)) (r : (List Int)), Zsl d1 a3 m4 b5 x6 = some r → Con Tryz.prog 302 [Zo v2, rd (Z0 .i64) a3, rd (Z0 .i64) m4, rd (Z0 .i64) b5, fn2 Tryz.prog (Z0 .i64) (Z0 .i64) (Z0 .i64) x6] (Zb v2 3 (Z0 .i64) d1) (fun _ : Unit => top) (fun _ => Zb v2 3 (Z0 .i64) r) := Zyq Z0l
def Zm1 (n3 : Int) (b17 : Int) (x4 : (Int → Int → Option Int)) (go2 : (List Int) → Int → Option (List Int)) : Nat → (List Int) → Int → Int → Option (List Int)
 | 0, _, _, _ => none
 | m25 + 1, l22, a23, b24 => (bif (decide (b24 ≤ n3)) then (Zsl l22 a23 (IntKind.i64.wrap (a23 + b17)) b24 x4).bind fun l26 => (Zm1 n3 b17 x4 go2 m25) l26 b24 (IntKind.i64.wrap (b24 + (IntKind.i64.wrap (2 * b17)))) else (bif (decide ((IntKind.i64.wrap (a23 + b17)) < n3)) then (Zsl l22 a23 (IntKind.i64.wrap (a23 + b17)) n3 x4).bind fun l27 => go2 l27 (IntKind.i64.wrap (b17 * 2)) else go2 l22 (IntKind.i64.wrap (b17 * 2))))
def Zhj (n3 : Int) (x4 : (Int → Int → Option Int)) : Nat → (List Int) → Int → Option (List Int)
 | 0, _, _ => none
 | m18 + 1, l16, b17 => (bif (decide (b17 < n3)) then Zm1 n3 b17 x4 (Zhj n3 x4 m18) (((n3 : Int) - (IntKind.i64.wrap (2 * b17))).toNat + 2) l16 0 (IntKind.i64.wrap (2 * b17)) else some l16)
def Zlk (n3 : Int) (x4 : (Int → Int → Option Int)) : Nat → (List Int) → Int → Int → Option (List Int)
 | 0, _, _, _ => none
 | m11 + 1, l8, a9, b10 => (bif (decide (b10 ≤ n3)) then (Zg8 l8 a9 b10 x4).bind fun l12 => (Zlk n3 x4 m11) l12 b10 (IntKind.i64.wrap (b10 + 20)) else (Zg8 l8 a9 n3 x4).bind fun l13 => Zhj n3 x4 (((n3 : Int) - 20).toNat + 1) l13 20)
def Znd (d1 : (List Int)) (n3 : Int) (x4 : (Int → Int → Option Int)) : Option (List Int) :=
 Zlk n3 x4 (((n3 : Int) - 20).toNat + 2) d1 0 20
theorem Yhn (v2 : Value) (d1 : (List Int)) (n3 : Int) (x4 : (Int → Int → Option Int)) (r : (List Int)) (h : Znd d1 n3 x4 = some r) : Con Tryz.prog 258 [Zo v2, rd (Z0 .i64) n3, fn2 Tryz.prog (Z0 .i64) (Z0 .i64) (Z0 .i64) x4] (Zb v2 3 (Z0 .i64) d1) (fun _ : Unit => top) (fun _ => Zb v2 3 (Z0 .i64) r) := by
 refine Con.intro Tryz.func258 rfl Tryz.ntmps258 rfl fun w H X => ?_
 unfold Znd at h
 refine SR <| Ak rfl <| Nl <| SR <| Md rfl <| Ak rfl <| As rfl <| Nl <| sq <| bk <| LG (d := []) (ν := Nat × (List Int) × Int × Int) (fun (m11, l8, a9, b10) => (True ∧ Zlk n3 x4 m11 l8 a9 b10 = some r, m11, [(0, Zo v2), (1, rd (Z0 .i64) n3), (2, fn2 Tryz.prog (Z0 .i64) (Z0 .i64) (Z0 .i64) x4), (6, rd (Z0 .i64) 20), (7, rd (Z0 .i64) a9), (8, rd (Z0 .i64) b10)], [(0, Zb v2 3 (Z0 .i64) l8)])) ((((n3 : Int) - 20).toNat + 2), d1, 0, 20) ⟨trivial, h⟩ (FX rfl) ?_
 rintro ⟨m11, l8, a9, b10⟩ ⟨hsf1, h⟩
 dsimp only at h ⊢
 cases m11 with
 | zero => cases h
 | succ m11 =>
  unfold Zlk at h
  refine sq <| SR <| Md rfl <| Md rfl <| Ac (Z76 rfl rfl (vt rfl) (vt rfl)) rfl <| Nl <| Cq rfl h (fun h => ?_) (fun h => ?_)
  ·refine sk <| bk <| sq ?_
   obtain ⟨l12, hl12, h⟩ := Z8 h
   refine Rg <| Mw rfl <| Md rfl <| Md rfl <| Ac (Zp (A := fn2 Tryz.prog (Z0 .i64) (Z0 .i64) (Z0 .i64) x4) rfl rfl (vt rfl)) rfl <| Cv rfl (Z10 0 (xs := [.tmp 14, .tmp 15, .tmp 16, .tmp 17]) (Y09 _ _ _ _ _ _ hl12) Zvy rfl rfl ⟨vt rfl, vt rfl, vt rfl, vt rfl, trivial⟩ rfl) fun _u => Nl <| SR <| Md rfl <| As rfl <| Nl <| Rg <| Md rfl <| Md rfl <| Ac (Z0o rfl rfl (vt rfl) (vt rfl)) rfl <| As rfl <| Nl ?_
   exact ⟨(_, _, _, _), Nat.lt_succ_self _, ⟨trivial, h⟩, FX rfl⟩
  ·refine xt <| sq ?_
   obtain ⟨l13, hl13, h⟩ := Z8 h
   refine Rg <| Mw rfl <| Md rfl <| Md rfl <| Ac (Zp (A := fn2 Tryz.prog (Z0 .i64) (Z0 .i64) (Z0 .i64) x4) rfl rfl (vt rfl)) rfl <| Cv rfl (Z10 0 (xs := [.tmp 23, .tmp 24, .tmp 25, .tmp 26]) (Y09 _ _ _ _ _ _ hl13) Zvy rfl rfl ⟨vt rfl, vt rfl, vt rfl, vt rfl, trivial⟩ rfl) fun _u => Nl <| bk <| LG (d := []) (ν := Nat × (List Int) × Int) (fun (m18, l16, b17) => (True ∧ Zhj n3 x4 m18 l16 b17 = some r, m18, [(0, Zo v2), (1, rd (Z0 .i64) n3), (2, fn2 Tryz.prog (Z0 .i64) (Z0 .i64) (Z0 .i64) x4), (6, rd (Z0 .i64) b17)], [(0, Zb v2 3 (Z0 .i64) l16)])) ((((n3 : Int) - 20).toNat + 1), l13, 20) ⟨trivial, h⟩ (FX rfl) ?_
   rintro ⟨m18, l16, b17⟩ ⟨hsf2, h⟩
   dsimp only at h ⊢
   cases m18 with
   | zero => cases h
   | succ m18 =>
    unfold Zhj at h
    refine sq <| SR <| Md rfl <| Md rfl <| Ac (Zi rfl rfl (vt rfl) (vt rfl)) rfl <| Nl <| Cq rfl h (fun h => ?_) (fun h => ?_)
    ·refine sk <| bk <| SR <| Md rfl <| Ac (Zaz rfl rfl (vk rfl) (vt rfl)) rfl <| Ak rfl <| As rfl <| Nl <| sq <| bk <| LG (d := []) (ν := Nat × (List Int) × Int × Int) (fun (m25, l22, a23, b24) => (True ∧ Zm1 n3 b17 x4 (Zhj n3 x4 m18) m25 l22 a23 b24 = some r, m25, [(0, Zo v2), (1, rd (Z0 .i64) n3), (2, fn2 Tryz.prog (Z0 .i64) (Z0 .i64) (Z0 .i64) x4), (6, rd (Z0 .i64) b17), (7, rd (Z0 .i64) a23), (8, rd (Z0 .i64) b24)], [(0, Zb v2 3 (Z0 .i64) l22)])) ((((n3 : Int) - (IntKind.i64.wrap (2 * b17))).toNat + 2), l16, 0, (IntKind.i64.wrap (2 * b17))) ⟨trivial, h⟩ (FX rfl) ?_
     rintro ⟨m25, l22, a23, b24⟩ ⟨hsf3, h⟩
     dsimp only at h ⊢
     cases m25 with
     | zero => cases h
     | succ m25 =>
      unfold Zm1 at h
      refine sq <| SR <| Md rfl <| Md rfl <| Ac (Z76 rfl rfl (vt rfl) (vt rfl)) rfl <| Nl <| Cq rfl h (fun h => ?_) (fun h => ?_)
      ·refine sk <| bk <| sq ?_
       obtain ⟨l26, hl26, h⟩ := Z8 h
       refine Rg <| Mw rfl <| Md rfl <| Md rfl <| Md rfl <| Ac (Z0o rfl rfl (vt rfl) (vt rfl)) rfl <| Md rfl <| Ac (Zp (A := fn2 Tryz.prog (Z0 .i64) (Z0 .i64) (Z0 .i64) x4) rfl rfl (vt rfl)) rfl <| Cv rfl (Z10 0 (xs := [.tmp 36, .tmp 37, .tmp 40, .tmp 41, .tmp 42]) (Zx4 _ _ _ _ _ _ _ hl26) Zo1 rfl rfl ⟨vt rfl, vt rfl, vt rfl, vt rfl, vt rfl, trivial⟩ rfl) fun _u => Nl <| SR <| Md rfl <| As rfl <| Nl <| Rg <| Md rfl <| Md rfl <| Ac (Zaz rfl rfl (vk rfl) (vt rfl)) rfl <| Ac (Z0o rfl rfl (vt rfl) (vt rfl)) rfl <| As rfl <| Nl ?_
       exact ⟨(_, _, _, _), Nat.lt_succ_self _, ⟨trivial, h⟩, FX rfl⟩
      ·refine xt <| sq <| SR <| Md rfl <| Md rfl <| Ac (Z0o rfl rfl (vt rfl) (vt rfl)) rfl <| As rfl <| Nl <| SR <| Md rfl <| Md rfl <| Ac (Zi rfl rfl (vt rfl) (vt rfl)) rfl <| Nl <| Cq rfl h (fun h => ?_) (fun h => ?_)
       ·obtain ⟨l27, hl27, h⟩ := Z8 h
        refine Rg <| Mw rfl <| Md rfl <| Md rfl <| Md rfl <| Ac (Zp (A := fn2 Tryz.prog (Z0 .i64) (Z0 .i64) (Z0 .i64) x4) rfl rfl (vt rfl)) rfl <| Cv rfl (Z10 0 (xs := [.tmp 55, .tmp 56, .tmp 57, .tmp 58, .tmp 59]) (Zx4 _ _ _ _ _ _ _ hl27) Zo1 rfl rfl ⟨vt rfl, vt rfl, vt rfl, vt rfl, vt rfl, trivial⟩ rfl) fun _u => Nl <| Rg <| Md rfl <| Ac (Zaz rfl rfl (vt rfl) (vk rfl)) rfl <| As rfl <| Nl ?_
        exact ⟨(_, _, _), Nat.lt_succ_self _, ⟨trivial, h⟩, FX rfl⟩
       ·refine sk <| Rg <| Md rfl <| Ac (Zaz rfl rfl (vt rfl) (vk rfl)) rfl <| As rfl <| Nl ?_
        exact ⟨(_, _, _), Nat.lt_succ_self _, ⟨trivial, h⟩, FX rfl⟩
    ·refine xt ?_
     cases h; exact Z1k (i := 0) Tryz.results258 rfl rfl
def Zla (x1 : (List Int)) (x3 : (Int → Int → Option Int)) : Option (List Int) :=
 (Znd x1 (x1.length : Int) x3).bind fun l4 => some l4
theorem Yd4 (v2 : Value) (x1 : (List Int)) (x3 : (Int → Int → Option Int)) (r : (List Int)) (h : Zla x1 x3 = some r) : Con Tryz.prog 200 [Zo v2, fn2 Tryz.prog (Z0 .i64) (Z0 .i64) (Z0 .i64) x3] (Zb v2 3 (Z0 .i64) x1) (fun _ : Unit => top) (fun _ => Zb v2 3 (Z0 .i64) r) := by
 refine Con.intro Tryz.func200 rfl Tryz.ntmps200 rfl fun w H X => ?_
 unfold Zla at h
 obtain ⟨l4, hl4, h⟩ := Z8 h
 refine Rg <| Mw rfl <| Mw rfl <| Ac (Z6o 0 rfl rfl Z15 (vt rfl) rfl) rfl <| Ac (Zp (A := fn2 Tryz.prog (Z0 .i64) (Z0 .i64) (Z0 .i64) x3) rfl rfl (vt rfl)) rfl <| Cv rfl (Z10 0 (xs := [.tmp 4, .tmp 6, .tmp 7]) (Yhn _ _ _ _ _ hl4) Y7i rfl rfl ⟨vt rfl, vt rfl, vt rfl, trivial⟩ rfl) fun _u => Nl ?_
 cases h; exact Z1k (i := 0) Tryz.results200 rfl rfl
def Zap (t1 : (List Flow)) : Nat → Nat → (List Int) → Option (List Int)
 | 0, i9, l7 => (Zla l7 (fun x z => Zgf x z t1)).bind fun l11 => some l11
 | m10 + 1, i9, l7 => (Z18 l7 [(i9 : Int)]).bind fun l12 => (Zap t1 m10) (i9 + 1) l12
def Zfw (t1 : (List Flow)) : Option (List Int) :=
 (omk (t1.length : Int)).bind fun u3 => Zap t1 ((t1.length : Int) : Int).toNat 0 []
theorem Y0o : Q1 Tryz.prog 135 (rd (Z1 Z16)) (rd (Z1 (Z0 .i64))) Zfw := fun t1 r h => I0 Tryz.func135 rfl Tryz.ntmps135 rfl fun w H => by
 unfold Zfw at h
 refine SR <| Cv rfl (Zn 2 rfl rfl (vt rfl)) fun g2 => Ac (Zy (A := rd (Z1 (Z0 .i64)) []) rfl rfl Z1i) rfl <| Nl <| sq ?_
 obtain ⟨u3, hu3, h⟩ := Z8 h
 refine Rg <| Ld Z5u 2 rfl <| Ac (Z0t rfl rfl Z5p (vt rfl)) rfl <| Cv rfl (Yaw 1001 hu3 rfl rfl Zmk zr3 (vt rfl)) fun v4 => Aw rfl <| Nl <| sq <| SR <| Ld Z5u 2 rfl <| Ac (Z0t rfl rfl Z5p (vt rfl)) rfl <| Mk rfl <| Nl <| bk <| LG (d := []) (ν := Nat × Nat × (List Int) × Value) (fun (m10, i9, l7, v8) => (Cnt (t1.length : Int) i9 m10 ∧ Zap t1 m10 i9 l7 = some r, m10, [(1, Z7 g2 (Lens.id (Z1 Z16))), (3, Zo v8), (9, rd (Z0 .i64) (t1.length : Int)), (10, rd (Z0 .i64) (i9 : Int))], [(2, Zc g2 22 (Z1 Z16) t1), (1001, Zb v8 3 (Z0 .i64) l7)])) (((t1.length : Int) : Int).toNat, 0, [], v4) ⟨Cnt.start _, h⟩ (FX rfl) ?_
 rintro ⟨m10, i9, l7, v8⟩ ⟨hsf1, h⟩
 dsimp only at hsf1 h ⊢
 cases m10 with
 | zero =>
  unfold Zap at h
  refine SR <| Ac (Zi rfl rfl (vt rfl) (vt rfl)) rfl <| Nl <| sq <| Cn rfl (fun hc => absurd (of_decide_eq_true hc) hsf1.zero) (fun hc => ?_)
  refine xt <| sq <| AW.freezeB 1 2 rfl rfl rfl ?_
  obtain ⟨l11, hl11, h⟩ := Z8 h
  refine Rg <| Mw rfl <| Ac (Yaa (cs := [.tmp 1]) (CAs := [rp (Z1 Z16) t1]) (fun x z => Zgf x z t1) rfl rfl Yfb ⟨vt rfl, trivial⟩ (fun x z y h => Yb6 _ _ _ y h)) rfl <| Cv rfl (Z10 1001 (xs := [.tmp 18, .tmp 19]) (Yd4 _ _ _ _ hl11) Yf7 rfl rfl ⟨vt rfl, vt rfl, trivial⟩ rfl) fun _u => Nl <| SR <| Mw rfl <| Aw rfl <| Nl <| AW.freezes [2, 3, 18, 21] 1001 rfl ⟨rfl, rfl, rfl, rfl, trivial⟩ rfl <| rt ?_
  cases h; exact Zf Tryz.results135 rfl (Za rfl)
 | succ m10 =>
  unfold Zap at h
  refine SR <| Ac (Zi rfl rfl (vt rfl) (vt rfl)) rfl <| Nl <| sq <| Cn rfl (fun hc => ?_) (fun hc => absurd hsf1.succ (of_decide_eq_false hc))
  have hlti9 := of_decide_eq_true hc
  refine sk <| sq <| bk <| SR <| Md rfl <| As rfl <| Nl ?_
  obtain ⟨l12, hl12, h⟩ := Z8 h
  refine Rg <| Mw rfl <| Md rfl <| Ac (osl Z15 zr3 rfl (vt rfl)) rfl <| Cv rfl (Z44 1001 hl12 rfl rfl Zmk (vt rfl) rfl (vt rfl)) fun v13 => Aw rfl <| Nl <| Rg <| Ac (Z0u (t := 9) rfl rfl (vt rfl) (vk rfl) (vt rfl) hlti9) rfl <| Md rfl <| Nl ?_
  exact ⟨(_, _, _, _), Nat.lt_succ_self _, ⟨hsf1.next, h⟩, FX rfl⟩
def Z8g (x1 : Int) : Option Bool :=
 some ((decide (x1 ≥ 0)) && (decide (x1 < 24)))
theorem Zp3 : Q1 Tryz.prog 269 (rd (Z0 .i64)) (rd Z5) Z8g := fun x1 r h => I0 Tryz.func269 rfl Tryz.ntmps269 rfl fun w H => by
 unfold Z8g at h
 refine SR <| Ab rfl <| Nl <| SR <| Md rfl <| Ac (Z3z rfl rfl (vt rfl) (vk rfl)) rfl <| Md rfl <| Gd rfl (fun hq => Zp (A := rd (Z0 .i64) x1) rfl rfl (vt rfl)) <| Gd rfl (fun hq => Zi rfl rfl (Zg rfl hq) (vk rfl)) <| Ac (Z21 rfl rfl (vt rfl) (vt rfl)) rfl <| As rfl <| Nl <| rt ?_
 cases h; exact Zf Tryz.results269 rfl (Za rfl)
def Zkb : Option Yb8 :=
 some (Vector.set (Vector.set (Vector.set (Vector.set (Vector.set (Vector.set (Vector.set (Vector.set (Vector.set (Vector.set (Vector.set (Vector.set (Vector.set (Vector.set (Vector.set (Vector.set (Vector.set (Vector.set (Vector.set (Vector.set (Vector.set (Vector.set (Vector.set (Vector.set (Vector.replicate 24 Zli) 0 (⟨{ data := #[105, 110, 95, 112, 111, 114, 116] }, 0, 32, false⟩ : field_row) (by decide)) 1 (⟨{ data := #[109, 101, 116, 97, 100, 97, 116, 97] }, 2, 64, true⟩ : field_row) (by decide)) 2 (⟨{ data := #[101, 116, 104, 95, 100, 115, 116] }, 3, 48, true⟩ : field_row) (by decide)) 3 (⟨{ data := #[101, 116, 104, 95, 115, 114, 99] }, 4, 48, true⟩ : field_row) (by decide)) 4 (⟨{ data := #[101, 116, 104, 95, 116, 121, 112, 101] }, 5, 16, false⟩ : field_row) (by decide)) 5 (⟨{ data := #[118, 108, 97, 110, 95, 118, 105, 100] }, 6, 13, true⟩ : field_row) (by decide)) 6 (⟨{ data := #[118, 108, 97, 110, 95, 112, 99, 112] }, 7, 3, false⟩ : field_row) (by decide)) 7 (⟨{ data := #[105, 112, 95, 100, 115, 99, 112] }, 8, 6, false⟩ : field_row) (by decide)) 8 (⟨{ data := #[105, 112, 95, 101, 99, 110] }, 9, 2, false⟩ : field_row) (by decide)) 9 (⟨{ data := #[105, 112, 95, 112, 114, 111, 116, 111] }, 10, 8, false⟩ : field_row) (by decide)) 10 (⟨{ data := #[105, 112, 118, 52, 95, 115, 114, 99] }, 11, 32, true⟩ : field_row) (by decide)) 11 (⟨{ data := #[105, 112, 118, 52, 95, 100, 115, 116] }, 12, 32, true⟩ : field_row) (by decide)) 12 (⟨{ data := #[116, 99, 112, 95, 115, 114, 99] }, 13, 16, false⟩ : field_row) (by decide)) 13 (⟨{ data := #[116, 99, 112, 95, 100, 115, 116] }, 14, 16, false⟩ : field_row) (by decide)) 14 (⟨{ data := #[117, 100, 112, 95, 115, 114, 99] }, 15, 16, false⟩ : field_row) (by decide)) 15 (⟨{ data := #[117, 100, 112, 95, 100, 115, 116] }, 16, 16, false⟩ : field_row) (by decide)) 16 (⟨{ data := #[105, 99, 109, 112, 118, 52, 95, 116, 121, 112, 101] }, 19, 8, false⟩ : field_row) (by decide)) 17 (⟨{ data := #[105, 99, 109, 112, 118, 52, 95, 99, 111, 100, 101] }, 20, 8, false⟩ : field_row) (by decide)) 18 (⟨{ data := #[97, 114, 112, 95, 111, 112] }, 21, 16, false⟩ : field_row) (by decide)) 19 (⟨{ data := #[97, 114, 112, 95, 115, 112, 97] }, 22, 32, true⟩ : field_row) (by decide)) 20 (⟨{ data := #[97, 114, 112, 95, 116, 112, 97] }, 23, 32, true⟩ : field_row) (by decide)) 21 (⟨{ data := #[105, 112, 118, 54, 95, 115, 114, 99] }, 26, 128, true⟩ : field_row) (by decide)) 22 (⟨{ data := #[105, 112, 118, 54, 95, 100, 115, 116] }, 27, 128, true⟩ : field_row) (by decide)) 23 (⟨{ data := #[109, 112, 108, 115, 95, 108, 97, 98, 101, 108] }, 34, 20, false⟩ : field_row) (by decide))
theorem Yd0 : Q0 Tryz.prog 344 (rd (Z3 24 Z1w)) Zkb := fun r h => I0 Tryz.func344 rfl Tryz.ntmps344 rfl fun w H => by
 unfold Zkb at h
 refine SR <| Cv rfl (Zs 1 rfl rfl Zzy) fun g1 => Nl <| SR <| Ac (Z20 (ps := [(0, .const (Value.string { data := #[105, 110, 95, 112, 111, 114, 116] })), (1, .const (Value.int IntKind.i64 0)), (2, .const (Value.int IntKind.i64 32)), (3, .const (Value.bool false))]) (x := (⟨{ data := #[105, 110, 95, 112, 111, 114, 116] }, 0, 32, false⟩ : field_row)) rfl rfl rfl (by kernel_rfl) Z2o ⟨_, _, Z32, _, by kernel_rfl, (vs (by decide)), _, _, lfield_row_1, _, by kernel_rfl, (vk rfl), _, _, Z2l, _, by kernel_rfl, (vk rfl), _, _, Z33, _, by kernel_rfl, vb, rfl⟩) rfl <| Ac (Z20 (ps := [(0, .const (Value.string { data := #[109, 101, 116, 97, 100, 97, 116, 97] })), (1, .const (Value.int IntKind.i64 2)), (2, .const (Value.int IntKind.i64 64)), (3, .const (Value.bool true))]) (x := (⟨{ data := #[109, 101, 116, 97, 100, 97, 116, 97] }, 2, 64, true⟩ : field_row)) rfl rfl rfl (by kernel_rfl) Z2o ⟨_, _, Z32, _, by kernel_rfl, (vs (by decide)), _, _, lfield_row_1, _, by kernel_rfl, (vk rfl), _, _, Z2l, _, by kernel_rfl, (vk rfl), _, _, Z33, _, by kernel_rfl, vb, rfl⟩) rfl <| Ac (Z20 (ps := [(0, .const (Value.string { data := #[101, 116, 104, 95, 100, 115, 116] })), (1, .const (Value.int IntKind.i64 3)), (2, .const (Value.int IntKind.i64 48)), (3, .const (Value.bool true))]) (x := (⟨{ data := #[101, 116, 104, 95, 100, 115, 116] }, 3, 48, true⟩ : field_row)) rfl rfl rfl (by kernel_rfl) Z2o ⟨_, _, Z32, _, by kernel_rfl, (vs (by decide)), _, _, lfield_row_1, _, by kernel_rfl, (vk rfl), _, _, Z2l, _, by kernel_rfl, (vk rfl), _, _, Z33, _, by kernel_rfl, vb, rfl⟩) rfl <| Ac (Z20 (ps := [(0, .const (Value.string { data := #[101, 116, 104, 95, 115, 114, 99] })), (1, .const (Value.int IntKind.i64 4)), (2, .const (Value.int IntKind.i64 48)), (3, .const (Value.bool true))]) (x := (⟨{ data := #[101, 116, 104, 95, 115, 114, 99] }, 4, 48, true⟩ : field_row)) rfl rfl rfl (by kernel_rfl) Z2o ⟨_, _, Z32, _, by kernel_rfl, (vs (by decide)), _, _, lfield_row_1, _, by kernel_rfl, (vk rfl), _, _, Z2l, _, by kernel_rfl, (vk rfl), _, _, Z33, _, by kernel_rfl, vb, rfl⟩) rfl <| Ac (Z20 (ps := [(0, .const (Value.string { data := #[101, 116, 104, 95, 116, 121, 112, 101] })), (1, .const (Value.int IntKind.i64 5)), (2, .const (Value.int IntKind.i64 16)), (3, .const (Value.bool false))]) (x := (⟨{ data := #[101, 116, 104, 95, 116, 121, 112, 101] }, 5, 16, false⟩ : field_row)) rfl rfl rfl (by kernel_rfl) Z2o ⟨_, _, Z32, _, by kernel_rfl, (vs (by decide)), _, _, lfield_row_1, _, by kernel_rfl, (vk rfl), _, _, Z2l, _, by kernel_rfl, (vk rfl), _, _, Z33, _, by kernel_rfl, vb, rfl⟩) rfl <| Ac (Z20 (ps := [(0, .const (Value.string { data := #[118, 108, 97, 110, 95, 118, 105, 100] })), (1, .const (Value.int IntKind.i64 6)), (2, .const (Value.int IntKind.i64 13)), (3, .const (Value.bool true))]) (x := (⟨{ data := #[118, 108, 97, 110, 95, 118, 105, 100] }, 6, 13, true⟩ : field_row)) rfl rfl rfl (by kernel_rfl) Z2o ⟨_, _, Z32, _, by kernel_rfl, (vs (by decide)), _, _, lfield_row_1, _, by kernel_rfl, (vk rfl), _, _, Z2l, _, by kernel_rfl, (vk rfl), _, _, Z33, _, by kernel_rfl, vb, rfl⟩) rfl ?_
 refine Ac (Z20 (ps := [(0, .const (Value.string { data := #[118, 108, 97, 110, 95, 112, 99, 112] })), (1, .const (Value.int IntKind.i64 7)), (2, .const (Value.int IntKind.i64 3)), (3, .const (Value.bool false))]) (x := (⟨{ data := #[118, 108, 97, 110, 95, 112, 99, 112] }, 7, 3, false⟩ : field_row)) rfl rfl rfl (by kernel_rfl) Z2o ⟨_, _, Z32, _, by kernel_rfl, (vs (by decide)), _, _, lfield_row_1, _, by kernel_rfl, (vk rfl), _, _, Z2l, _, by kernel_rfl, (vk rfl), _, _, Z33, _, by kernel_rfl, vb, rfl⟩) rfl <| Ac (Z20 (ps := [(0, .const (Value.string { data := #[105, 112, 95, 100, 115, 99, 112] })), (1, .const (Value.int IntKind.i64 8)), (2, .const (Value.int IntKind.i64 6)), (3, .const (Value.bool false))]) (x := (⟨{ data := #[105, 112, 95, 100, 115, 99, 112] }, 8, 6, false⟩ : field_row)) rfl rfl rfl (by kernel_rfl) Z2o ⟨_, _, Z32, _, by kernel_rfl, (vs (by decide)), _, _, lfield_row_1, _, by kernel_rfl, (vk rfl), _, _, Z2l, _, by kernel_rfl, (vk rfl), _, _, Z33, _, by kernel_rfl, vb, rfl⟩) rfl <| Ac (Z20 (ps := [(0, .const (Value.string { data := #[105, 112, 95, 101, 99, 110] })), (1, .const (Value.int IntKind.i64 9)), (2, .const (Value.int IntKind.i64 2)), (3, .const (Value.bool false))]) (x := (⟨{ data := #[105, 112, 95, 101, 99, 110] }, 9, 2, false⟩ : field_row)) rfl rfl rfl (by kernel_rfl) Z2o ⟨_, _, Z32, _, by kernel_rfl, (vs (by decide)), _, _, lfield_row_1, _, by kernel_rfl, (vk rfl), _, _, Z2l, _, by kernel_rfl, (vk rfl), _, _, Z33, _, by kernel_rfl, vb, rfl⟩) rfl <| Ac (Z20 (ps := [(0, .const (Value.string { data := #[105, 112, 95, 112, 114, 111, 116, 111] })), (1, .const (Value.int IntKind.i64 10)), (2, .const (Value.int IntKind.i64 8)), (3, .const (Value.bool false))]) (x := (⟨{ data := #[105, 112, 95, 112, 114, 111, 116, 111] }, 10, 8, false⟩ : field_row)) rfl rfl rfl (by kernel_rfl) Z2o ⟨_, _, Z32, _, by kernel_rfl, (vs (by decide)), _, _, lfield_row_1, _, by kernel_rfl, (vk rfl), _, _, Z2l, _, by kernel_rfl, (vk rfl), _, _, Z33, _, by kernel_rfl, vb, rfl⟩) rfl <| Ac (Z20 (ps := [(0, .const (Value.string { data := #[105, 112, 118, 52, 95, 115, 114, 99] })), (1, .const (Value.int IntKind.i64 11)), (2, .const (Value.int IntKind.i64 32)), (3, .const (Value.bool true))]) (x := (⟨{ data := #[105, 112, 118, 52, 95, 115, 114, 99] }, 11, 32, true⟩ : field_row)) rfl rfl rfl (by kernel_rfl) Z2o ⟨_, _, Z32, _, by kernel_rfl, (vs (by decide)), _, _, lfield_row_1, _, by kernel_rfl, (vk rfl), _, _, Z2l, _, by kernel_rfl, (vk rfl), _, _, Z33, _, by kernel_rfl, vb, rfl⟩) rfl <| Ac (Z20 (ps := [(0, .const (Value.string { data := #[105, 112, 118, 52, 95, 100, 115, 116] })), (1, .const (Value.int IntKind.i64 12)), (2, .const (Value.int IntKind.i64 32)), (3, .const (Value.bool true))]) (x := (⟨{ data := #[105, 112, 118, 52, 95, 100, 115, 116] }, 12, 32, true⟩ : field_row)) rfl rfl rfl (by kernel_rfl) Z2o ⟨_, _, Z32, _, by kernel_rfl, (vs (by decide)), _, _, lfield_row_1, _, by kernel_rfl, (vk rfl), _, _, Z2l, _, by kernel_rfl, (vk rfl), _, _, Z33, _, by kernel_rfl, vb, rfl⟩) rfl ?_
 refine Ac (Z20 (ps := [(0, .const (Value.string { data := #[116, 99, 112, 95, 115, 114, 99] })), (1, .const (Value.int IntKind.i64 13)), (2, .const (Value.int IntKind.i64 16)), (3, .const (Value.bool false))]) (x := (⟨{ data := #[116, 99, 112, 95, 115, 114, 99] }, 13, 16, false⟩ : field_row)) rfl rfl rfl (by kernel_rfl) Z2o ⟨_, _, Z32, _, by kernel_rfl, (vs (by decide)), _, _, lfield_row_1, _, by kernel_rfl, (vk rfl), _, _, Z2l, _, by kernel_rfl, (vk rfl), _, _, Z33, _, by kernel_rfl, vb, rfl⟩) rfl <| Ac (Z20 (ps := [(0, .const (Value.string { data := #[116, 99, 112, 95, 100, 115, 116] })), (1, .const (Value.int IntKind.i64 14)), (2, .const (Value.int IntKind.i64 16)), (3, .const (Value.bool false))]) (x := (⟨{ data := #[116, 99, 112, 95, 100, 115, 116] }, 14, 16, false⟩ : field_row)) rfl rfl rfl (by kernel_rfl) Z2o ⟨_, _, Z32, _, by kernel_rfl, (vs (by decide)), _, _, lfield_row_1, _, by kernel_rfl, (vk rfl), _, _, Z2l, _, by kernel_rfl, (vk rfl), _, _, Z33, _, by kernel_rfl, vb, rfl⟩) rfl <| Ac (Z20 (ps := [(0, .const (Value.string { data := #[117, 100, 112, 95, 115, 114, 99] })), (1, .const (Value.int IntKind.i64 15)), (2, .const (Value.int IntKind.i64 16)), (3, .const (Value.bool false))]) (x := (⟨{ data := #[117, 100, 112, 95, 115, 114, 99] }, 15, 16, false⟩ : field_row)) rfl rfl rfl (by kernel_rfl) Z2o ⟨_, _, Z32, _, by kernel_rfl, (vs (by decide)), _, _, lfield_row_1, _, by kernel_rfl, (vk rfl), _, _, Z2l, _, by kernel_rfl, (vk rfl), _, _, Z33, _, by kernel_rfl, vb, rfl⟩) rfl <| Ac (Z20 (ps := [(0, .const (Value.string { data := #[117, 100, 112, 95, 100, 115, 116] })), (1, .const (Value.int IntKind.i64 16)), (2, .const (Value.int IntKind.i64 16)), (3, .const (Value.bool false))]) (x := (⟨{ data := #[117, 100, 112, 95, 100, 115, 116] }, 16, 16, false⟩ : field_row)) rfl rfl rfl (by kernel_rfl) Z2o ⟨_, _, Z32, _, by kernel_rfl, (vs (by decide)), _, _, lfield_row_1, _, by kernel_rfl, (vk rfl), _, _, Z2l, _, by kernel_rfl, (vk rfl), _, _, Z33, _, by kernel_rfl, vb, rfl⟩) rfl <| Ac (Z20 (ps := [(0, .const (Value.string { data := #[105, 99, 109, 112, 118, 52, 95, 116, 121, 112, 101] })), (1, .const (Value.int IntKind.i64 19)), (2, .const (Value.int IntKind.i64 8)), (3, .const (Value.bool false))]) (x := (⟨{ data := #[105, 99, 109, 112, 118, 52, 95, 116, 121, 112, 101] }, 19, 8, false⟩ : field_row)) rfl rfl rfl (by kernel_rfl) Z2o ⟨_, _, Z32, _, by kernel_rfl, (vs (by decide)), _, _, lfield_row_1, _, by kernel_rfl, (vk rfl), _, _, Z2l, _, by kernel_rfl, (vk rfl), _, _, Z33, _, by kernel_rfl, vb, rfl⟩) rfl <| Ac (Z20 (ps := [(0, .const (Value.string { data := #[105, 99, 109, 112, 118, 52, 95, 99, 111, 100, 101] })), (1, .const (Value.int IntKind.i64 20)), (2, .const (Value.int IntKind.i64 8)), (3, .const (Value.bool false))]) (x := (⟨{ data := #[105, 99, 109, 112, 118, 52, 95, 99, 111, 100, 101] }, 20, 8, false⟩ : field_row)) rfl rfl rfl (by kernel_rfl) Z2o ⟨_, _, Z32, _, by kernel_rfl, (vs (by decide)), _, _, lfield_row_1, _, by kernel_rfl, (vk rfl), _, _, Z2l, _, by kernel_rfl, (vk rfl), _, _, Z33, _, by kernel_rfl, vb, rfl⟩) rfl ?_
 refine Ac (Z20 (ps := [(0, .const (Value.string { data := #[97, 114, 112, 95, 111, 112] })), (1, .const (Value.int IntKind.i64 21)), (2, .const (Value.int IntKind.i64 16)), (3, .const (Value.bool false))]) (x := (⟨{ data := #[97, 114, 112, 95, 111, 112] }, 21, 16, false⟩ : field_row)) rfl rfl rfl (by kernel_rfl) Z2o ⟨_, _, Z32, _, by kernel_rfl, (vs (by decide)), _, _, lfield_row_1, _, by kernel_rfl, (vk rfl), _, _, Z2l, _, by kernel_rfl, (vk rfl), _, _, Z33, _, by kernel_rfl, vb, rfl⟩) rfl <| Ac (Z20 (ps := [(0, .const (Value.string { data := #[97, 114, 112, 95, 115, 112, 97] })), (1, .const (Value.int IntKind.i64 22)), (2, .const (Value.int IntKind.i64 32)), (3, .const (Value.bool true))]) (x := (⟨{ data := #[97, 114, 112, 95, 115, 112, 97] }, 22, 32, true⟩ : field_row)) rfl rfl rfl (by kernel_rfl) Z2o ⟨_, _, Z32, _, by kernel_rfl, (vs (by decide)), _, _, lfield_row_1, _, by kernel_rfl, (vk rfl), _, _, Z2l, _, by kernel_rfl, (vk rfl), _, _, Z33, _, by kernel_rfl, vb, rfl⟩) rfl <| Ac (Z20 (ps := [(0, .const (Value.string { data := #[97, 114, 112, 95, 116, 112, 97] })), (1, .const (Value.int IntKind.i64 23)), (2, .const (Value.int IntKind.i64 32)), (3, .const (Value.bool true))]) (x := (⟨{ data := #[97, 114, 112, 95, 116, 112, 97] }, 23, 32, true⟩ : field_row)) rfl rfl rfl (by kernel_rfl) Z2o ⟨_, _, Z32, _, by kernel_rfl, (vs (by decide)), _, _, lfield_row_1, _, by kernel_rfl, (vk rfl), _, _, Z2l, _, by kernel_rfl, (vk rfl), _, _, Z33, _, by kernel_rfl, vb, rfl⟩) rfl <| Ac (Z20 (ps := [(0, .const (Value.string { data := #[105, 112, 118, 54, 95, 115, 114, 99] })), (1, .const (Value.int IntKind.i64 26)), (2, .const (Value.int IntKind.i64 128)), (3, .const (Value.bool true))]) (x := (⟨{ data := #[105, 112, 118, 54, 95, 115, 114, 99] }, 26, 128, true⟩ : field_row)) rfl rfl rfl (by kernel_rfl) Z2o ⟨_, _, Z32, _, by kernel_rfl, (vs (by decide)), _, _, lfield_row_1, _, by kernel_rfl, (vk rfl), _, _, Z2l, _, by kernel_rfl, (vk rfl), _, _, Z33, _, by kernel_rfl, vb, rfl⟩) rfl <| Ac (Z20 (ps := [(0, .const (Value.string { data := #[105, 112, 118, 54, 95, 100, 115, 116] })), (1, .const (Value.int IntKind.i64 27)), (2, .const (Value.int IntKind.i64 128)), (3, .const (Value.bool true))]) (x := (⟨{ data := #[105, 112, 118, 54, 95, 100, 115, 116] }, 27, 128, true⟩ : field_row)) rfl rfl rfl (by kernel_rfl) Z2o ⟨_, _, Z32, _, by kernel_rfl, (vs (by decide)), _, _, lfield_row_1, _, by kernel_rfl, (vk rfl), _, _, Z2l, _, by kernel_rfl, (vk rfl), _, _, Z33, _, by kernel_rfl, vb, rfl⟩) rfl <| Ac (Z20 (ps := [(0, .const (Value.string { data := #[109, 112, 108, 115, 95, 108, 97, 98, 101, 108] })), (1, .const (Value.int IntKind.i64 34)), (2, .const (Value.int IntKind.i64 20)), (3, .const (Value.bool false))]) (x := (⟨{ data := #[109, 112, 108, 115, 95, 108, 97, 98, 101, 108] }, 34, 20, false⟩ : field_row)) rfl rfl rfl (by kernel_rfl) Z2o ⟨_, _, Z32, _, by kernel_rfl, (vs (by decide)), _, _, lfield_row_1, _, by kernel_rfl, (vk rfl), _, _, Z2l, _, by kernel_rfl, (vk rfl), _, _, Z33, _, by kernel_rfl, vb, rfl⟩) rfl ?_
 refine Ac (Z20 (ps := [(0, .tmp 1), (1, .tmp 2), (2, .tmp 3), (3, .tmp 4), (4, .tmp 5), (5, .tmp 6), (6, .tmp 7), (7, .tmp 8), (8, .tmp 9), (9, .tmp 10), (10, .tmp 11), (11, .tmp 12), (12, .tmp 13), (13, .tmp 14), (14, .tmp 15), (15, .tmp 16), (16, .tmp 17), (17, .tmp 18), (18, .tmp 19), (19, .tmp 20), (20, .tmp 21), (21, .tmp 22), (22, .tmp 23), (23, .tmp 24)]) (x := (Vector.set (Vector.set (Vector.set (Vector.set (Vector.set (Vector.set (Vector.set (Vector.set (Vector.set (Vector.set (Vector.set (Vector.set (Vector.set (Vector.set (Vector.set (Vector.set (Vector.set (Vector.set (Vector.set (Vector.set (Vector.set (Vector.set (Vector.set (Vector.set (Vector.replicate 24 Zli) 0 (⟨{ data := #[105, 110, 95, 112, 111, 114, 116] }, 0, 32, false⟩ : field_row) (by decide)) 1 (⟨{ data := #[109, 101, 116, 97, 100, 97, 116, 97] }, 2, 64, true⟩ : field_row) (by decide)) 2 (⟨{ data := #[101, 116, 104, 95, 100, 115, 116] }, 3, 48, true⟩ : field_row) (by decide)) 3 (⟨{ data := #[101, 116, 104, 95, 115, 114, 99] }, 4, 48, true⟩ : field_row) (by decide)) 4 (⟨{ data := #[101, 116, 104, 95, 116, 121, 112, 101] }, 5, 16, false⟩ : field_row) (by decide)) 5 (⟨{ data := #[118, 108, 97, 110, 95, 118, 105, 100] }, 6, 13, true⟩ : field_row) (by decide)) 6 (⟨{ data := #[118, 108, 97, 110, 95, 112, 99, 112] }, 7, 3, false⟩ : field_row) (by decide)) 7 (⟨{ data := #[105, 112, 95, 100, 115, 99, 112] }, 8, 6, false⟩ : field_row) (by decide)) 8 (⟨{ data := #[105, 112, 95, 101, 99, 110] }, 9, 2, false⟩ : field_row) (by decide)) 9 (⟨{ data := #[105, 112, 95, 112, 114, 111, 116, 111] }, 10, 8, false⟩ : field_row) (by decide)) 10 (⟨{ data := #[105, 112, 118, 52, 95, 115, 114, 99] }, 11, 32, true⟩ : field_row) (by decide)) 11 (⟨{ data := #[105, 112, 118, 52, 95, 100, 115, 116] }, 12, 32, true⟩ : field_row) (by decide)) 12 (⟨{ data := #[116, 99, 112, 95, 115, 114, 99] }, 13, 16, false⟩ : field_row) (by decide)) 13 (⟨{ data := #[116, 99, 112, 95, 100, 115, 116] }, 14, 16, false⟩ : field_row) (by decide)) 14 (⟨{ data := #[117, 100, 112, 95, 115, 114, 99] }, 15, 16, false⟩ : field_row) (by decide)) 15 (⟨{ data := #[117, 100, 112, 95, 100, 115, 116] }, 16, 16, false⟩ : field_row) (by decide)) 16 (⟨{ data := #[105, 99, 109, 112, 118, 52, 95, 116, 121, 112, 101] }, 19, 8, false⟩ : field_row) (by decide)) 17 (⟨{ data := #[105, 99, 109, 112, 118, 52, 95, 99, 111, 100, 101] }, 20, 8, false⟩ : field_row) (by decide)) 18 (⟨{ data := #[97, 114, 112, 95, 111, 112] }, 21, 16, false⟩ : field_row) (by decide)) 19 (⟨{ data := #[97, 114, 112, 95, 115, 112, 97] }, 22, 32, true⟩ : field_row) (by decide)) 20 (⟨{ data := #[97, 114, 112, 95, 116, 112, 97] }, 23, 32, true⟩ : field_row) (by decide)) 21 (⟨{ data := #[105, 112, 118, 54, 95, 115, 114, 99] }, 26, 128, true⟩ : field_row) (by decide)) 22 (⟨{ data := #[105, 112, 118, 54, 95, 100, 115, 116] }, 27, 128, true⟩ : field_row) (by decide)) 23 (⟨{ data := #[109, 112, 108, 115, 95, 108, 97, 98, 101, 108] }, 34, 20, false⟩ : field_row) (by decide))) rfl rfl rfl (by kernel_rfl) Zzy ⟨_, _, Lens.idx 24 Z1w 0 (by decide), _, by kernel_rfl, (vt rfl), _, _, Lens.idx 24 Z1w 1 (by decide), _, by kernel_rfl, (vt rfl), _, _, Lens.idx 24 Z1w 2 (by decide), _, by kernel_rfl, (vt rfl), _, _, Lens.idx 24 Z1w 3 (by decide), _, by kernel_rfl, (vt rfl), _, _, Lens.idx 24 Z1w 4 (by decide), _, by kernel_rfl, (vt rfl), _, _, Lens.idx 24 Z1w 5 (by decide), _, by kernel_rfl, (vt rfl), _, _, Lens.idx 24 Z1w 6 (by decide), _, by kernel_rfl, (vt rfl), _, _, Lens.idx 24 Z1w 7 (by decide), _, by kernel_rfl, (vt rfl), _, _, Lens.idx 24 Z1w 8 (by decide), _, by kernel_rfl, (vt rfl), _, _, Lens.idx 24 Z1w 9 (by decide), _, by kernel_rfl, (vt rfl), _, _, Lens.idx 24 Z1w 10 (by decide), _, by kernel_rfl, (vt rfl), _, _, Lens.idx 24 Z1w 11 (by decide), _, by kernel_rfl, (vt rfl), _, _, Lens.idx 24 Z1w 12 (by decide), _, by kernel_rfl, (vt rfl), _, _, Lens.idx 24 Z1w 13 (by decide), _, by kernel_rfl, (vt rfl), _, _, Lens.idx 24 Z1w 14 (by decide), _, by kernel_rfl, (vt rfl), _, _, Lens.idx 24 Z1w 15 (by decide), _, by kernel_rfl, (vt rfl), _, _, Lens.idx 24 Z1w 16 (by decide), _, by kernel_rfl, (vt rfl), _, _, Lens.idx 24 Z1w 17 (by decide), _, by kernel_rfl, (vt rfl), _, _, Lens.idx 24 Z1w 18 (by decide), _, by kernel_rfl, (vt rfl), _, _, Lens.idx 24 Z1w 19 (by decide), _, by kernel_rfl, (vt rfl), _, _, Lens.idx 24 Z1w 20 (by decide), _, by kernel_rfl, (vt rfl), _, _, Lens.idx 24 Z1w 21 (by decide), _, by kernel_rfl, (vt rfl), _, _, Lens.idx 24 Z1w 22 (by decide), _, by kernel_rfl, (vt rfl), _, _, Lens.idx 24 Z1w 23 (by decide), _, by kernel_rfl, (vt rfl), rfl⟩) rfl ?_
 refine Zj Y2q 1 rfl <| Nl <| rt ?_
 cases h; exact Zf Tryz.results344 rfl (Z01 rfl (i := 1) rfl Y2q)
def Zn1 (x1 : Int) : Option field_row :=
 (Z8g x1).bind fun x3 => (bif (!x3) then some (⟨(⟨#[]⟩ : ByteArray), (-1), 0, false⟩ : field_row) else (Zkb).bind fun x4 => (lget (Vector.toList x4) x1).bind fun x5 => some x5)
theorem Ydb : Q1 Tryz.prog 336 (rd (Z0 .i64)) (rd Z1w) Zn1 := fun x1 r h => I0 Tryz.func336 rfl Tryz.ntmps336 rfl fun w H => by
 unfold Zn1 at h
 refine SR <| Cv rfl (Zs 3 rfl rfl Z2o) fun g2 => Nl <| sq <| sq ?_
 obtain ⟨x3, hx3, h⟩ := Z8 h
 refine Rg <| Md rfl <| Cl [3] (Zp3 _ _ hx3) Zmb rfl <| Ac (Z0z rfl rfl (vt rfl)) rfl <| Nl <| Cq rfl h (fun h => ?_) (fun h => ?_)
 ·refine SR <| Ac (opb (⟨(⟨#[]⟩ : ByteArray), (-1), 0, false⟩ : field_row) Z2o rfl Yju (pc Yfr (vk rfl) <| pn rfl)) rfl <| Zj Zis 3 rfl <| Nl <| rt ?_
  cases h; exact Zf Tryz.results336 rfl (Z01 rfl (i := 3) rfl Zis)
 ·refine sk <| sq ?_
  obtain ⟨x4, hx4, x5, hx5, h⟩ := bs2 h
  refine Rg <| Cl [] (Yd0 _ hx4) Ycs rfl <| Md rfl <| Ac (Z97 rfl rfl Yby Zis (vt rfl) (vt rfl) hx5) rfl <| Zj Zis 3 rfl <| Nl <| rt ?_
  cases h; exact Zf Tryz.results336 rfl (Z01 rfl (i := 3) rfl Zis)
def Ze3 (x1 : Int) : Option Int :=
 (Zn1 x1).bind fun x2 => some x2.bits
theorem Y6h : Q1 Tryz.prog 312 (rd (Z0 .i64)) (rd (Z0 .i64)) Ze3 := fun x1 r h => I0 Tryz.func312 rfl Tryz.ntmps312 rfl fun w H => by
 unfold Ze3 at h
 refine SR <| Ak rfl <| Nl <| sq ?_
 obtain ⟨x2, hx2, h⟩ := Z8 h
 refine Rg <| Md rfl <| Cl [3] (Ydb _ _ hx2) Ycv rfl <| Ac (Zzo Z2l rfl rfl Yj3 Ygr Zq rfl (vt rfl)) rfl <| As rfl <| Nl <| rt ?_
 cases h; exact Zf Tryz.results312 rfl (Za rfl)
end Go.Proofs.YtknpgojdkobgjaaGreat.W
set_option maxRecDepth 4000
namespace Go.Proofs.YtknpgojdkobgjaaGreat.W
open Go Go.Wb
theorem Y3r : Ent Tryz.prog 299 := Ent.mk Tryz.func299 rfl rfl
theorem Yh6 : Ent Tryz.prog 312 := Ent.mk Tryz.func312 rfl rfl
theorem Zmg : Ent Tryz.prog 254 := Ent.mk Tryz.func254 rfl rfl
theorem e73 : Ent Tryz.prog 73 := Ent.mk Tryz.func73 rfl rfl
theorem Y22 : Ent Tryz.prog 275 := Ent.mk Tryz.func275 rfl rfl
theorem Za4 : Ent Tryz.prog 127 := Ent.mk Tryz.func127 rfl rfl
theorem Yca : Ent Tryz.prog 197 := Ent.mk Tryz.func197 rfl rfl
theorem Y41 : Ent Tryz.prog 196 := Ent.mk Tryz.func196 rfl rfl
theorem Yjq : Ent Tryz.prog 229 := Ent.mk Tryz.func229 rfl rfl
theorem Zn2 : Ent Tryz.prog 126 := Ent.mk Tryz.func126 rfl rfl
def Zha (n1 : Int) : Option (BitVec 64) :=
 (bif (decide (n1 ≥ 64)) then some (18446744073709551615 : BitVec 64) else (Zdf (1 : BitVec 64) (Z1f n1 0)).bind fun q2 => some (q2 - (1 : BitVec 64)))
theorem Zvh : Q1 Tryz.prog 299 (rd (Z0 .i64)) (rd Z0p) Zha := fun n1 r h => I0 Tryz.func299 rfl Tryz.ntmps299 rfl fun w H => by
 unfold Zha at h
 refine SR <| Ac (Zy (A := rd Z0p (0 : BitVec 64)) rfl rfl (vku (0 : BitVec 64) rfl)) rfl <| Nl <| sq <| SR <| Md rfl <| Ac (Z3z rfl rfl (vt rfl) (vk rfl)) rfl <| Nl <| Cq rfl h (fun h => ?_) (fun h => ?_)
 ·refine SR <| Ac (Zy (A := rd Z0p (18446744073709551615 : BitVec 64)) rfl rfl (vku (18446744073709551615 : BitVec 64) rfl)) rfl <| Nl <| rt ?_
  cases h; exact Zf Tryz.results299 rfl (Za rfl)
 ·refine sk <| sq ?_
  obtain ⟨q2, hq2, h⟩ := Z8 h
  refine Rg <| Md rfl <| Ac (Ze4 rfl rfl (vt rfl) (vk rfl)) rfl <| Ac (Y0h rfl rfl (vku (1 : BitVec 64) rfl) (vt rfl) hq2) rfl <| Ac (Yl1 rfl rfl (vt rfl) (vku (1 : BitVec 64) rfl)) rfl <| As rfl <| Nl <| rt ?_
  cases h; exact Zf Tryz.results299 rfl (Za rfl)
def Z7t (n1 : Int) : Option Wide :=
 (Zha (IntKind.i64.wrap ((Z3q (Z1f n1 0) 128) - 64))).bind fun x3 => (Zha (Z3q (Z1f n1 0) 128)).bind fun x4 => some (⟨x3, x4⟩ : Wide)
theorem Zp2 : Q1 Tryz.prog 254 (rd (Z0 .i64)) (rd Zd) Z7t := fun n1 r h => I0 Tryz.func254 rfl Tryz.ntmps254 rfl fun w H => by
 unfold Z7t at h
 refine SR <| Cv rfl (Zs 3 rfl rfl Z3p) fun g2 => Nl <| SR <| Md rfl <| Ac (Ze4 rfl rfl (vt rfl) (vk rfl)) rfl <| Ac (Zj0 rfl rfl (vt rfl) (vk rfl)) rfl <| As rfl <| Nl <| sq ?_
 obtain ⟨x3, hx3, x4, hx4, h⟩ := bs2 h
 refine Rg <| Md rfl <| Ac (Z0v rfl rfl (vt rfl) (vk rfl)) rfl <| Cl [7] (Zvh _ _ hx3) Y3r rfl <| Md rfl <| Cl [9] (Zvh _ _ hx4) Y3r rfl <| Ac (opb (⟨x3, x4⟩ : Wide) Z3p rfl Z74 (pc Zhq (vt rfl) <| pc Z9c (vt rfl) <| pn rfl)) rfl <| Zj Z02 3 rfl <| Nl <| rt ?_
 cases h; exact Zf Tryz.results254 rfl (Z01 rfl (i := 3) rfl Z02)
def Zg9 (o1 : Oxm) : Option Tern :=
 (Z8g o1.Field).bind fun x4 => (bif (!x4) then some (⟨Z0j, Z0j⟩ : Tern) else (bif o1.Masked then some (⟨o1.Value, o1.Mask⟩ : Tern) else (Ze3 o1.Field).bind fun x5 => (Z7t x5).bind fun x6 => some (⟨o1.Value, x6⟩ : Tern)))
theorem Zwv : Q1 Tryz.prog 275 (rd Z2e) (rd Z4) Zg9 := fun o1 r h => I0 Tryz.func275 rfl Tryz.ntmps275 rfl fun w H => by
 unfold Zg9 at h
 refine SR <| Cv rfl (Zn 2 rfl rfl (vt rfl)) fun g2 => Cv rfl (Zs 3 rfl rfl Z2c) fun g3 => Nl <| sq <| bk <| sq ?_
 obtain ⟨x4, hx4, h⟩ := Z8 h
 refine Rg <| Zh Zce Zh4 rfl <| Ld Zq 2 rfl <| Cl [5] (Zp3 _ _ hx4) Zmb rfl <| Ac (Z0z rfl rfl (vt rfl)) rfl <| As rfl <| Nl <| Cq rfl h (fun h => ?_) (fun h => ?_)
 ·refine SR <| Ac (opb (⟨Z0j, Z0j⟩ : Tern) Z2c rfl Z8t (pn rfl)) rfl <| Zj Z03 3 rfl <| Nl <| rt ?_
  cases h; exact Zf Tryz.results275 rfl (Z01 rfl (i := 3) rfl Z03)
 ·refine SR <| Zh Zwj Y7o rfl <| Ld ty4 2 rfl <| As rfl <| Nl <| Cq rfl h (fun h => ?_) (fun h => ?_)
  ·refine SR <| Zh Zrf Y5n rfl <| Ld Z02 2 rfl <| Zh Zvs Ybd rfl <| Ld Z02 2 rfl <| Ac (opb (⟨o1.Value, o1.Mask⟩ : Tern) Z2c rfl Z8t (pc Zba (vt rfl) <| pc Zas (vt rfl) <| pn rfl)) rfl <| Zj Z03 3 rfl <| Nl <| rt ?_
   cases h; exact Zf Tryz.results275 rfl (Z01 rfl (i := 3) rfl Z03)
  ·refine sk <| sq ?_
   obtain ⟨x5, hx5, x6, hx6, h⟩ := bs2 h
   refine AR Zw (by kernel_rfl) <| Zv Zrf Y5n rfl <| Zm Z02 2 rfl <| Zv Zce Zh4 rfl <| Zm Zq 2 rfl <| SCl [20] (Y6h _ _ hx5) Yh6 rfl <| SCl [21] (Zp2 _ _ hx6) Zmg rfl <| Sd (lo [18, 22] [] rfl fun S hs hr => opb (⟨o1.Value, x6⟩ : Tern) Z2c rfl Z8t (pc Zba (vh hs 18 rfl rfl) <| pc Zas (vh hs 22 rfl rfl) <| pn rfl)) <| SSt Z03 3 rfl <| Sn <| rt ?_
   cases h; exact Zf Tryz.results275 rfl (Z01 rfl (i := 3) rfl Z03)
def Zbi : (List Oxm) → Nat → Zl → Option Zl
 | [], i7, b6 => some b6
 | x9 :: l8, i7, b6 => (Z8g x9.Field).bind fun x11 => (bif x11 then (Zg9 x9).bind fun x12 => (chk 24 x9.Field).bind fun j13 => (Zbi l8) (i7 + 1) (Vector.set b6 j13.1 x12 j13.2) else (Zbi l8) (i7 + 1) b6)
def Zlv (l1 : (List Oxm)) : Option Zl :=
 (Zbm).bind fun x3 => Zbi l1 0 x3
theorem Yff : Q1 Tryz.prog 229 (rd (Z1 Z2e)) (rd (Z3 24 Z4)) Zlv := fun l1 r h => I0 Tryz.func229 rfl Tryz.ntmps229 rfl fun w H => by
 unfold Zlv at h
 refine SR <| Cv rfl (Zs 3 rfl rfl Z2a) fun g2 => Nl <| sq ?_
 obtain ⟨x3, hx3, h⟩ := Z8 h
 refine Rg <| Cl [] (Zpq _ hx3) e73 rfl <| Cv rfl (Zs 4 rfl rfl Z2a) fun g4 => Zj Z00 4 rfl <| Nl <| sq <| SR <| Md rfl <| Ac (Z0t rfl rfl Zu5 (vt rfl)) rfl <| Mk rfl <| Nl <| bk <| LG (d := []) (ν := (List Oxm) × Nat × Zl) (fun (l8, i7, b6) => (Sfx l1 i7 l8 ∧ Zbi l8 i7 b6 = some r, l8.length, [(2, Z7 g2 (Lens.id (Z3 24 Z4))), (3, Z7 g4 (Lens.id (Z3 24 Z4))), (7, rd (Z1 Z2e) l1), (8, rd (Z0 .i64) (l1.length : Int)), (9, rd (Z0 .i64) (i7 : Int))], [(3, Zc g2 87 (Z3 24 Z4) (Vector.replicate 24 zTern)), (4, Zc g4 87 (Z3 24 Z4) b6)])) (l1, 0, x3) ⟨Sfx.start _, h⟩ (FX rfl) ?_
 rintro ⟨l8, i7, b6⟩ ⟨hsf1, h⟩
 dsimp only at hsf1 h ⊢
 cases l8 with
 | nil =>
  unfold Zbi at h
  refine SR <| Ac (Zi rfl rfl (vt rfl) (vt rfl)) rfl <| Nl <| sq <| Cn rfl (fun hc => absurd (of_decide_eq_true hc) hsf1.nil) (fun hc => ?_)
  refine xt <| SR <| Ld Z00 4 rfl <| Zj Z00 3 rfl <| Nl <| rt ?_
  cases h; exact Zf Tryz.results229 rfl (Z01 rfl (i := 3) rfl Z00)
 | cons x9 l8 =>
  unfold Zbi at h
  refine SR <| Ac (Zi rfl rfl (vt rfl) (vt rfl)) rfl <| Nl <| sq <| Cn rfl (fun hc => ?_) (fun hc => absurd hsf1.cons (of_decide_eq_false hc))
  have hlti7 := of_decide_eq_true hc
  refine sk <| sq <| bk <| SR <| Ac (Z0k rfl rfl Zu5 (vt rfl) (vt rfl) hsf1.lget) rfl <| Lp1 Zmj rfl <| Cv rfl (Zs 6 rfl rfl Yci) fun g10 => Zj Zmj 6 rfl <| Nl <| sq ?_
  obtain ⟨x11, hx11, h⟩ := Z8 h
  refine Rg <| Zh Zce Zh4 rfl <| Ld Zq 6 rfl <| Cl [14] (Zp3 _ _ hx11) Zmb rfl <| Nl <| Cq rfl h (fun h => ?_) (fun h => ?_)
  ·obtain ⟨x12, hx12, j13, hj13, h⟩ := bs2 h
   refine AR Zw (by kernel_rfl) <| Zv Zce Zh4 rfl <| Zm Zq 6 rfl <| Zm Zmj 6 rfl <| SCl [18] (Zwv _ _ hx12) Y22 rfl <| Sd (lo [3, 17] [] rfl fun S hs hr => Z2u rfl rfl Z4b (vh hs 3 rfl rfl) (vh hs 17 rfl rfl) hj13) <| SSt Z03 4 rfl <| Sn <| Rg <| Ac (Z0u (t := 8) rfl rfl (vt rfl) (vk rfl) (vt rfl) hlti7) rfl <| Md rfl <| Nl ?_
   exact ⟨(_, _, _), Nat.lt_succ_self _, ⟨hsf1.next, h⟩, FX rfl⟩
  ·refine sk <| Rg <| Ac (Z0u (t := 8) rfl rfl (vt rfl) (vk rfl) (vt rfl) hlti7) rfl <| Md rfl <| Nl ?_
   exact ⟨(_, _, _), Nat.lt_succ_self _, ⟨hsf1.next, h⟩, FX rfl⟩
def Z7e (t1 : Tern) : Option Tern :=
 (Zc0 t1.Value t1.Mask).bind fun x4 => some (⟨x4, t1.Mask⟩ : Tern)
theorem Z9z : Q1 Tryz.prog 127 (rd Z4) (rd Z4) Z7e := fun t1 r h => I0 Tryz.func127 rfl Tryz.ntmps127 rfl fun w H => by
 unfold Z7e at h
 refine SR <| Cv rfl (Zn 2 rfl rfl (vt rfl)) fun g2 => Cv rfl (Zs 3 rfl rfl Z2c) fun g3 => Nl <| sq ?_
 obtain ⟨x4, hx4, h⟩ := Z8 h
 refine AR Zw (by kernel_rfl) <| Zv lTern_0 Z4f rfl <| Zm Z02 2 rfl <| Zv lTern_1 Z3m rfl <| Zm Z02 2 rfl <| SCl [4, 6] (Zkc _ _ _ hx4) Zlj rfl <| Zv lTern_1 Z3m rfl <| Zm Z02 2 rfl <| Sd (lo [7, 9] [] rfl fun S hs hr => opb (⟨x4, t1.Mask⟩ : Tern) Z2c rfl Z8t (pc Zba (vh hs 7 rfl rfl) <| pc Zas (vh hs 9 rfl rfl) <| pn rfl)) <| SSt Z03 3 rfl <| Sn <| rt ?_
 cases h; exact Zf Tryz.results127 rfl (Z01 rfl (i := 3) rfl Z03)
def Zh7 (i1 : Int) (x2 : Zl) : Option (Tern × Bool) :=
 (chk 24 i1).bind fun j4 => (Z7e (Vector.get x2 j4)).bind fun x5 => some (x5, true)
theorem Yfg : Q2 Tryz.prog 197 (rd (Z0 .i64)) (rp (Z3 24 Z4)) (fun r => Z1b (rd Z4 r.1) (rd Z5 r.2)) Zh7 := fun i1 x2 r h => I0 Tryz.func197 rfl Tryz.ntmps197 rfl fun w H => by
 unfold Zh7 at h
 refine SR <| Cv rfl (Zs 4 rfl rfl Z2c) fun g3 => Ab rfl <| Nl <| sq ?_
 obtain ⟨j4, hj4, x5, hx5, h⟩ := bs2 h
 refine Rg <| Md rfl <| Ac (Z7v rfl rfl Z4b (vt rfl) (vt rfl) hj4) rfl <| Lp1 Z03 rfl <| Cl [7] (Z9z _ _ hx5) Za4 rfl <| Zj Z03 4 rfl <| Ab rfl <| Nl <| rt ?_
 cases h; exact Z1m Tryz.results197 rfl (Z01 rfl (i := 4) rfl Z03) (Za rfl)
def Z7g (x1 : (Int → Option (Tern × Bool))) : Nat → Nat → Zl → Option (Zl × Bool)
 | 0, i6, b5 => some (b5, true)
 | m7 + 1, i6, b5 => (x1 (i6 : Int)).bind fun x8 => (bif (!x8.2) then some ((Vector.replicate 24 zTern), false) else (chk 24 (i6 : Int)).bind fun j10 => (Z7g x1 m7) (i6 + 1) (Vector.set b5 j10.1 x8.1 j10.2))
def Zco (x1 : (Int → Option (Tern × Bool))) : Option (Zl × Bool) :=
 Z7g x1 (24 : Int).toNat 0 (Vector.replicate 24 zTern)
theorem Zw4 : Q1 Tryz.prog 196 (fa1 Tryz.prog (Z0 .i64) (fun (y : (Tern × Bool)) => Z1b (rd Z4 y.1) (rd Z5 y.2))) (fun r => Z1b (rd (Z3 24 Z4) r.1) (rd Z5 r.2)) Zco := fun x1 r h => I0 Tryz.func196 rfl Tryz.ntmps196 rfl fun w H => by
 unfold Zco at h
 refine SR <| Cv rfl (Zs 3 rfl rfl Z2a) fun g2 => Ab rfl <| Nl <| SR <| Cv rfl (Zs 5 rfl rfl Z2a) fun g3 => Nl <| sq <| SR <| Mk rfl <| Nl <| bk <| LG (d := []) (ν := Nat × Nat × Zl) (fun (m7, i6, b5) => (Cnt 24 i6 m7 ∧ Z7g x1 m7 i6 b5 = some r, m7, [(0, fa1 Tryz.prog (Z0 .i64) (fun (y : (Tern × Bool)) => Z1b (rd Z4 y.1) (rd Z5 y.2)) x1), (2, Z7 g2 (Lens.id (Z3 24 Z4))), (4, Z7 g3 (Lens.id (Z3 24 Z4))), (8, rd (Z0 .i64) (i6 : Int))], [(3, Zc g2 87 (Z3 24 Z4) (Vector.replicate 24 zTern)), (5, Zc g3 87 (Z3 24 Z4) b5)])) ((24 : Int).toNat, 0, (Vector.replicate 24 zTern)) ⟨Cnt.start _, h⟩ (FX rfl) ?_
 rintro ⟨m7, i6, b5⟩ ⟨hsf1, h⟩
 dsimp only at hsf1 h ⊢
 cases m7 with
 | zero =>
  unfold Z7g at h
  refine SR <| Ac (Zi rfl rfl (vt rfl) (vk rfl)) rfl <| Nl <| sq <| Cn rfl (fun hc => absurd (of_decide_eq_true hc) hsf1.zero) (fun hc => ?_)
  refine xt <| SR <| Ld Z00 5 rfl <| Zj Z00 3 rfl <| Ab rfl <| Nl <| rt ?_
  cases h; exact Z1m Tryz.results196 rfl (Z01 rfl (i := 3) rfl Z00) (Za rfl)
 | succ m7 =>
  unfold Z7g at h
  refine SR <| Ac (Zi rfl rfl (vt rfl) (vk rfl)) rfl <| Nl <| sq <| Cn rfl (fun hc => ?_) (fun hc => absurd hsf1.succ (of_decide_eq_false hc))
  have hlti6 := of_decide_eq_true hc
  refine sk <| sq <| bk <| SR <| Md rfl <| As rfl <| Nl <| sq ?_
  obtain ⟨x8, hx8, h⟩ := Z8 h
  refine Rg <| Ac (Zp (A := fa1 Tryz.prog (Z0 .i64) (fun (y : (Tern × Bool)) => Z1b (rd Z4 y.1) (rd Z5 y.2)) x1) rfl rfl (vt rfl)) rfl <| Md rfl <| Ac (Ygo (B := (fun (y : (Tern × Bool)) => Z1b (rd Z4 y.1) (rd Z5 y.2))) hx8 rfl rfl (vt rfl) (vt rfl)) rfl <| Mt2 rfl <| Ac (Z1n rfl rfl (vt rfl)) rfl <| Ac (Z1l rfl rfl (vt rfl)) rfl <| Cv rfl (Zs 7 rfl rfl Z2c) fun g9 => Zj Z03 7 rfl <| As rfl <| Nl <| sq <| SR <| Md rfl <| Ac (Z0z rfl rfl (vt rfl)) rfl <| Nl <| Cq rfl h (fun h => ?_) (fun h => ?_)
  ·refine SR <| Ac (Z20 (ps := []) (x := (Vector.replicate 24 zTern)) rfl rfl rfl (by kernel_rfl) Z2a rfl) rfl <| Zj Z00 3 rfl <| Ab rfl <| Nl <| rt ?_
   cases h; exact Z1m Tryz.results196 rfl (Z01 rfl (i := 3) rfl Z00) (Za rfl)
  ·refine sk ?_
   obtain ⟨j10, hj10, h⟩ := Z8 h
   refine Rg <| Md rfl <| Ld Z03 7 rfl <| Ac (Z2u rfl rfl Z4b (vt rfl) (vt rfl) hj10) rfl <| Zj Z03 5 rfl <| Nl <| Rg <| Ac (Z7a rfl rfl (vt rfl) (vk rfl) rfl hlti6) rfl <| Md rfl <| Nl ?_
   exact ⟨(_, _, _), Nat.lt_succ_self _, ⟨hsf1.next, h⟩, FX rfl⟩
def Zca (x1 : Zl) : Option Zl :=
 (Zco (fun x => Zh7 x x1)).bind fun x4 => some x4.1
theorem Zo9 : Q1 Tryz.prog 126 (rd (Z3 24 Z4)) (rd (Z3 24 Z4)) Zca := fun x1 r h => I0 Tryz.func126 rfl Tryz.ntmps126 rfl fun w H => by
 unfold Zca at h
 refine SR <| Cv rfl (Zn 2 rfl rfl (vt rfl)) fun g2 => Cv rfl (Zs 3 rfl rfl Z2a) fun g3 => Nl <| sq <| AW.freezeB 1 2 rfl rfl rfl ?_
 obtain ⟨x4, hx4, h⟩ := Z8 h
 refine Rg <| Ac (Zyf (fs := []) (FAs := []) (cs := [.tmp 1]) (CAs := [rp (Z3 24 Z4) x1]) (kx := (Z0 .i64)) (B := (fun (y : (Tern × Bool)) => Z1b (rd Z4 y.1) (rd Z5 y.2))) (fun x => Zh7 x x1) rfl rfl Yca trivial ⟨vt rfl, trivial⟩ (fun x y h => Yfg _ _ y h)) rfl <| Cl [6] (Zw4 _ _ hx4) Y41 rfl <| Mt2 rfl <| Ac (Z1n rfl rfl (vt rfl)) rfl <| Ac (Z1l rfl rfl (vt rfl)) rfl <| Cv rfl (Zs 4 rfl rfl Z2a) fun g5 => Zj Z00 4 rfl <| As rfl <| Nl <| SR <| Ld Z00 4 rfl <| Zj Z00 3 rfl <| Nl <| rt ?_
 cases h; exact Zf Tryz.results126 rfl (Z01 rfl (i := 3) rfl Z00)
def Zfd (x1 : Flow) : Option Zl :=
 (Zlv x1.Match).bind fun x4 => (Zca x4).bind fun x5 => some x5
theorem Y1i : Q1 Tryz.prog 157 (rd Z16) (rd (Z3 24 Z4)) Zfd := fun x1 r h => I0 Tryz.func157 rfl Tryz.ntmps157 rfl fun w H => by
 unfold Zfd at h
 refine SR <| Cv rfl (Zn 2 rfl rfl (vt rfl)) fun g2 => Cv rfl (Zs 3 rfl rfl Z2a) fun g3 => Nl <| sq ?_
 obtain ⟨x4, hx4, x5, hx5, h⟩ := bs2 h
 refine Rg <| Zh Zrv Zxu rfl <| Ld Zzq 2 rfl <| Cl [4] (Yff _ _ hx4) Yjq rfl <| Cl [5] (Zo9 _ _ hx5) Zn2 rfl <| Zj Z00 3 rfl <| Nl <| rt ?_
 cases h; exact Zf Tryz.results157 rfl (Z01 rfl (i := 3) rfl Z00)
end Go.Proofs.YtknpgojdkobgjaaGreat.W
set_option maxRecDepth 4000
namespace Go.Proofs.YtknpgojdkobgjaaGreat.W
open Go Go.Wb
theorem Ybo : Ent Tryz.prog 261 := Ent.mk Tryz.func261 rfl rfl
theorem Ylq : Ent Tryz.prog 260 := Ent.mk Tryz.func260 rfl rfl
theorem Y5g : Ent Tryz.prog 259 := Ent.mk Tryz.func259 rfl rfl
theorem Y86 : Ent Tryz.prog 262 := Ent.mk Tryz.func262 rfl rfl
theorem Zw8 : Ent Tryz.prog 157 := Ent.mk Tryz.func157 rfl rfl
theorem Zuq : Ent Tryz.prog 202 := Ent.mk Tryz.func202 rfl rfl
theorem Zp1 : Ent Tryz.prog 203 := Ent.mk Tryz.func203 rfl rfl
def Zfh (a1 : Tern) (b2 : Tern) : Option (Tern × Bool) :=
 (Zc0 a1.Mask b2.Mask).bind fun x6 => (Zfa (⟨a1.Value, x6⟩ : Tern) b2.Value).bind fun x7 => (bif (!x7) then some ((⟨Z0j, Z0j⟩ : Tern), false) else (Z7e a1).bind fun x8 => (Z7e b2).bind fun x9 => (Z8s x8.Value x9.Value).bind fun x10 => (Z8s x8.Mask x9.Mask).bind fun x11 => some ((⟨x10, x11⟩ : Tern), true))
theorem Y0d : Q2 Tryz.prog 259 (rd Z4) (rd Z4) (fun r => Z1b (rd Z4 r.1) (rd Z5 r.2)) Zfh := fun a1 b2 r h => I0 Tryz.func259 rfl Tryz.ntmps259 rfl fun w H => by
 unfold Zfh at h
 refine SR <| Cv rfl (Zn 3 rfl rfl (vt rfl)) fun g3 => Cv rfl (Zn 4 rfl rfl (vt rfl)) fun g4 => Cv rfl (Zs 5 rfl rfl Z2c) fun g5 => Ab rfl <| Nl <| sq <| sq ?_
 obtain ⟨x6, hx6, x7, hx7, h⟩ := bs2 h
 refine AR Zw (by kernel_rfl) <| Zv lTern_0 Z4f rfl <| Zm Z02 3 rfl <| Zv lTern_1 Z3m rfl <| Zm Z02 3 rfl <| Zv lTern_1 Z3m rfl <| Zm Z02 4 rfl <| SCl [9, 11] (Zkc _ _ _ hx6) Zlj rfl <| Sd (lo [7, 12] [] rfl fun S hs hr => opb (⟨a1.Value, x6⟩ : Tern) Z2c rfl Z8t (pc Zba (vh hs 7 rfl rfl) <| pc Zas (vh hs 12 rfl rfl) <| pn rfl)) <| Zv lTern_0 Z4f rfl <| Zm Z02 4 rfl <| SCl [13, 15] (Zsm _ _ _ hx7) Zsa rfl <| Sd (lo [16] [] rfl fun S hs hr => Z0z rfl rfl (vh hs 16 rfl rfl)) <| Sn <| Cq rfl h (fun h => ?_) (fun h => ?_)
 ·refine SR <| Ac (opb (⟨Z0j, Z0j⟩ : Tern) Z2c rfl Z8t (pn rfl)) rfl <| Zj Z03 5 rfl <| Ab rfl <| Nl <| rt ?_
  cases h; exact Z1m Tryz.results259 rfl (Z01 rfl (i := 5) rfl Z03) (Za rfl)
 ·refine sk <| sq ?_
  obtain ⟨x8, hx8, x9, hx9, h⟩ := bs2 h
  refine AR Zw (by kernel_rfl) <| Zm Z03 3 rfl <| SCl [19] (Z9z _ _ hx8) Za4 rfl <| Zm Z03 4 rfl <| SCl [21] (Z9z _ _ hx9) Za4 rfl <| SSt Z03 3 rfl <| SSt Z03 4 rfl <| Sn <| sq ?_
  obtain ⟨x10, hx10, x11, hx11, h⟩ := bs2 h
  refine AR Zw (by kernel_rfl) <| Zv lTern_0 Z4f rfl <| Zm Z02 3 rfl <| Zv lTern_0 Z4f rfl <| Zm Z02 4 rfl <| SCl [24, 26] (Zex _ _ _ hx10) Zcp rfl <| Zv lTern_1 Z3m rfl <| Zm Z02 3 rfl <| Zv lTern_1 Z3m rfl <| Zm Z02 4 rfl <| SCl [29, 31] (Zex _ _ _ hx11) Zcp rfl <| Sd (lo [27, 32] [] rfl fun S hs hr => opb (⟨x10, x11⟩ : Tern) Z2c rfl Z8t (pc Zba (vh hs 27 rfl rfl) <| pc Zas (vh hs 32 rfl rfl) <| pn rfl)) <| SSt Z03 5 rfl <| Sd (lo [] [] rfl fun S hs hr => Zy (A := rd Z5 true) rfl rfl vb) <| Sn <| rt ?_
  cases h; exact Z1m Tryz.results259 rfl (Z01 rfl (i := 5) rfl Z03) (Za rfl)
def Zjt (i1 : Int) (x2 : Zl) (x3 : Zl) : Option Tern :=
 (chk 24 i1).bind fun j5 => (chk 24 i1).bind fun j6 => (chk 24 i1).bind fun j7 => (Z9t ((Vector.get x2 j6).Mask) ((Vector.get x3 j7).Mask)).bind fun x8 => (Z7e (⟨(Vector.get x2 j5).Value, x8⟩ : Tern)).bind fun x9 => some x9
theorem Yi8 : Q3 Tryz.prog 261 (rd (Z0 .i64)) (rp (Z3 24 Z4)) (rp (Z3 24 Z4)) (rd Z4) Zjt := fun i1 x2 x3 r h => I0 Tryz.func261 rfl Tryz.ntmps261 rfl fun w H => by
 unfold Zjt at h
 refine SR <| Cv rfl (Zs 5 rfl rfl Z2c) fun g4 => Nl <| sq ?_
 obtain ⟨j5, hj5, j6, hj6, j7, hj7, x8, hx8, h⟩ := bs4 h
 obtain ⟨x9, hx9, h⟩ := Z8 h
 refine AR Zw (by kernel_rfl) <| SMd rfl <| Sd (lo [1, 5] [] rfl fun S hs hr => Z7v rfl rfl Z4b (vh hs 1 rfl rfl) (vh hs 5 rfl rfl) hj5) <| SFp lTern_0 Z4f rfl <| SLp Z02 rfl <| SMd rfl <| Sd (lo [1, 9] [] rfl fun S hs hr => Z7v rfl rfl Z4b (vh hs 1 rfl rfl) (vh hs 9 rfl rfl) hj6) <| SFp lTern_1 Z3m rfl <| SLp Z02 rfl <| SMd rfl <| Sd (lo [2, 13] [] rfl fun S hs hr => Z7v rfl rfl Za3 (vh hs 2 rfl rfl) (vh hs 13 rfl rfl) hj7) <| SFp lTern_1 Z3m rfl <| SLp Z02 rfl <| SCl [12, 16] (Zf9 _ _ _ hx8) Zg6 rfl <| Sd (lo [8, 17] [] rfl fun S hs hr => opb (⟨(Vector.get x2 j5).Value, x8⟩ : Tern) Z2c rfl Z8t (pc Zba (vh hs 8 rfl rfl) <| pc Zas (vh hs 17 rfl rfl) <| pn rfl)) <| SCl [18] (Z9z _ _ hx9) Za4 rfl <| SSt Z03 5 rfl <| Sn <| rt ?_
 cases h; exact Zf Tryz.results261 rfl (Z01 rfl (i := 5) rfl Z03)
def Z9x (x1 : (Int → Option Tern)) : Nat → Nat → Zl → Option Zl
 | 0, i6, b5 => some b5
 | m7 + 1, i6, b5 => (x1 (i6 : Int)).bind fun x8 => (chk 24 (i6 : Int)).bind fun j9 => (Z9x x1 m7) (i6 + 1) (Vector.set b5 j9.1 x8 j9.2)
def Zll (x1 : (Int → Option Tern)) : Option Zl :=
 Z9x x1 (24 : Int).toNat 0 (Vector.replicate 24 zTern)
theorem Yev : Q1 Tryz.prog 260 (fn1 Tryz.prog (Z0 .i64) Z4) (rd (Z3 24 Z4)) Zll := fun x1 r h => I0 Tryz.func260 rfl Tryz.ntmps260 rfl fun w H => by
 unfold Zll at h
 refine SR <| Cv rfl (Zs 3 rfl rfl Z2a) fun g2 => Nl <| SR <| Cv rfl (Zs 4 rfl rfl Z2a) fun g3 => Nl <| sq <| SR <| Mk rfl <| Nl <| bk <| LG (d := []) (ν := Nat × Nat × Zl) (fun (m7, i6, b5) => (Cnt 24 i6 m7 ∧ Z9x x1 m7 i6 b5 = some r, m7, [(0, fn1 Tryz.prog (Z0 .i64) Z4 x1), (2, Z7 g2 (Lens.id (Z3 24 Z4))), (3, Z7 g3 (Lens.id (Z3 24 Z4))), (5, rd (Z0 .i64) (i6 : Int))], [(3, Zc g2 87 (Z3 24 Z4) (Vector.replicate 24 zTern)), (4, Zc g3 87 (Z3 24 Z4) b5)])) ((24 : Int).toNat, 0, (Vector.replicate 24 zTern)) ⟨Cnt.start _, h⟩ (FX rfl) ?_
 rintro ⟨m7, i6, b5⟩ ⟨hsf1, h⟩
 dsimp only at hsf1 h ⊢
 cases m7 with
 | zero =>
  unfold Z9x at h
  refine SR <| Ac (Zi rfl rfl (vt rfl) (vk rfl)) rfl <| Nl <| sq <| Cn rfl (fun hc => absurd (of_decide_eq_true hc) hsf1.zero) (fun hc => ?_)
  refine xt <| SR <| Ld Z00 4 rfl <| Zj Z00 3 rfl <| Nl <| rt ?_
  cases h; exact Zf Tryz.results260 rfl (Z01 rfl (i := 3) rfl Z00)
 | succ m7 =>
  unfold Z9x at h
  refine SR <| Ac (Zi rfl rfl (vt rfl) (vk rfl)) rfl <| Nl <| sq <| Cn rfl (fun hc => ?_) (fun hc => absurd hsf1.succ (of_decide_eq_false hc))
  have hlti6 := of_decide_eq_true hc
  refine sk <| sq <| bk <| SR <| Md rfl <| As rfl <| Nl ?_
  obtain ⟨x8, hx8, j9, hj9, h⟩ := bs2 h
  refine Rg <| Md rfl <| Ac (Zp (A := fn1 Tryz.prog (Z0 .i64) Z4 x1) rfl rfl (vt rfl)) rfl <| Md rfl <| Ac (Z88 hx8 rfl rfl (vt rfl) (vt rfl)) rfl <| Ac (Z2u rfl rfl Z4b (vt rfl) (vt rfl) hj9) rfl <| Zj Z03 4 rfl <| Nl <| Rg <| Ac (Z7a rfl rfl (vt rfl) (vk rfl) rfl hlti6) rfl <| Md rfl <| Nl ?_
  exact ⟨(_, _, _), Nat.lt_succ_self _, ⟨hsf1.next, h⟩, FX rfl⟩
def Zbe (x2 : Zl) (x1 : Zl) : (List Tern) → Nat → Option (Zl × Bool)
 | [], i6 => (Zll (fun x => Zjt x x2 x1)).bind fun x8 => some (x8, true)
 | x9 :: l7, i6 => (chk 24 (i6 : Int)).bind fun j11 => (Zfh x9 (Vector.get x2 j11)).bind fun x12 => (bif (!x12.2) then some ((Vector.replicate 24 zTern), false) else (Zbe x2 x1 l7) (i6 + 1))
def Zhi (x1 : Zl) (x2 : Zl) : Option (Zl × Bool) :=
 Zbe x2 x1 (Vector.toList x1) 0
theorem Zzn : Q2 Tryz.prog 202 (rd (Z3 24 Z4)) (rd (Z3 24 Z4)) (fun r => Z1b (rd (Z3 24 Z4) r.1) (rd Z5 r.2)) Zhi := fun x1 x2 r h => I0 Tryz.func202 rfl Tryz.ntmps202 rfl fun w H => by
 unfold Zhi at h
 refine SR <| Cv rfl (Zn 3 rfl rfl (vt rfl)) fun g3 => Cv rfl (Zn 4 rfl rfl (vt rfl)) fun g4 => Cv rfl (Zs 5 rfl rfl Z2a) fun g5 => Ab rfl <| Nl <| sq <| SR <| Ld Z0f 3 rfl <| Mk rfl <| Nl <| bk <| LG (d := []) (ν := (List Tern) × Nat) (fun (l7, i6) => (Sfx (Vector.toList x1) i6 l7 ∧ Zbe x2 x1 l7 i6 = some r, l7.length, [(2, Z7 g3 (Lens.id (Z3 24 Z4))), (3, Z7 g4 (Lens.id (Z3 24 Z4))), (4, Z7 g5 (Lens.id (Z3 24 Z4))), (10, rd (Z3 24 Z4) x1), (11, rd (Z0 .i64) (i6 : Int))], [(3, Zc g3 101 (Z3 24 Z4) x1), (4, Zc g4 87 (Z3 24 Z4) x2), (5, Zc g5 87 (Z3 24 Z4) (Vector.replicate 24 zTern))])) ((Vector.toList x1), 0) ⟨Sfx.start _, h⟩ (FX rfl) ?_
 rintro ⟨l7, i6⟩ ⟨hsf1, h⟩
 dsimp only at hsf1 h ⊢
 cases l7 with
 | nil =>
  unfold Zbe at h
  refine SR <| Ac (Zi rfl rfl (vt rfl) (vk rfl)) rfl <| Nl <| sq <| Cn rfl (fun hc => absurd (of_decide_eq_true hc) (hsf1.niln (by simp))) (fun hc => ?_)
  refine xt <| sq <| AW.freezeB 3 4 rfl rfl rfl <| AW.freezeB 2 3 rfl rfl rfl ?_
  obtain ⟨x8, hx8, h⟩ := Z8 h
  refine Rg <| Ac (Z7n (cs := [.tmp 3, .tmp 2]) (CAs := [rp (Z3 24 Z4) x2, rp (Z3 24 Z4) x1]) (fun x => Zjt x x2 x1) rfl rfl Ybo ⟨vt rfl, vt rfl, trivial⟩ (fun x y h => Yi8 _ _ _ y h)) rfl <| Cl [27] (Yev _ _ hx8) Ylq rfl <| Zj Z00 5 rfl <| Ab rfl <| Nl <| rt ?_
  cases h; exact Z1m Tryz.results202 rfl (Z01 rfl (i := 5) rfl Z00) (Za rfl)
 | cons x9 l7 =>
  unfold Zbe at h
  refine SR <| Ac (Zi rfl rfl (vt rfl) (vk rfl)) rfl <| Nl <| sq <| Cn rfl (fun hc => ?_) (fun hc => absurd (hsf1.consn (by simp)) (of_decide_eq_false hc))
  have hlti6 := of_decide_eq_true hc
  refine sk <| sq <| bk <| SR <| Md rfl <| Ac (Z97 rfl rfl Za3 Z03 (vt rfl) (vt rfl) hsf1.lget) rfl <| Cv rfl (Zs 8 rfl rfl Z2c) fun g10 => As rfl <| Zj Z03 8 rfl <| Nl <| sq ?_
  obtain ⟨j11, hj11, x12, hx12, h⟩ := bs2 h
  refine AR Zw (by kernel_rfl) <| Zm Z03 8 rfl <| SMd rfl <| Sd (lo [3, 17] [] rfl fun S hs hr => Z2u rfl rfl Z4b (vh hs 3 rfl rfl) (vh hs 17 rfl rfl) hj11) <| Zm Z03 4 rfl <| SCl [16, 19] (Y0d _ _ _ hx12) Y5g rfl <| Sd (lo [20] [] rfl fun S hs hr => Zp (A := Z1b (rd Z4 x12.1) (rd Z5 x12.2)) rfl rfl (vh hs 20 rfl rfl)) <| Sd (lo [15] [] rfl fun S hs hr => Z1n rfl rfl (vh hs 15 rfl rfl)) <| Sd (lo [15] [] rfl fun S hs hr => Z1l rfl rfl (vh hs 15 rfl rfl)) <| Sd (Z1q (us := [(8, Z46 85 Z4 zTern)]) (ur := []) [] [] rfl fun S hs hr => Zdb rfl rfl rfl Z2c) <| Sd (Z1q (us := [(8, Z46 85 Z4 x12.1)]) (ur := []) [8, 21] [] rfl fun S hs hr => Zey rfl rfl Z03 ((hs 8 rfl).trans rfl) (vh hs 21 rfl rfl)) <| SAs rfl <| Sn <| AW.unpackP 8 9 rfl rfl fun g13 => SR <| Md rfl <| Ac (Z0z rfl rfl (vt rfl)) rfl <| Nl <| Cq rfl h (fun h => ?_) (fun h => ?_)
  ·refine SR <| Ac (Z20 (ps := []) (x := (Vector.replicate 24 zTern)) rfl rfl rfl (by kernel_rfl) Z2a rfl) rfl <| Zj Z00 5 rfl <| Ab rfl <| Nl <| rt ?_
   cases h; exact Z1m Tryz.results202 rfl (Z01 rfl (i := 5) rfl Z00) (Za rfl)
  ·refine sk <| Rg <| Ac (Z7a rfl rfl (vt rfl) (vk rfl) rfl hlti6) rfl <| Md rfl <| Nl ?_
   exact ⟨(_, _), Nat.lt_succ_self _, ⟨hsf1.next, h⟩, FX rfl⟩
def Zka (i1 : Int) (x2 : Zl) (x3 : Zl) : Option (Tern × Bool) :=
 (chk 24 i1).bind fun j5 => (chk 24 i1).bind fun j6 => (Zfh (Vector.get x2 j5) (Vector.get x3 j6)).bind fun x7 => some (x7.1, x7.2)
theorem Yia : Q3 Tryz.prog 262 (rd (Z0 .i64)) (rp (Z3 24 Z4)) (rp (Z3 24 Z4)) (fun r => Z1b (rd Z4 r.1) (rd Z5 r.2)) Zka := fun i1 x2 x3 r h => I0 Tryz.func262 rfl Tryz.ntmps262 rfl fun w H => by
 unfold Zka at h
 refine SR <| Cv rfl (Zs 5 rfl rfl Z2c) fun g4 => Ab rfl <| Nl <| sq ?_
 obtain ⟨j5, hj5, j6, hj6, x7, hx7, h⟩ := bs3 h
 refine AR Zw (by kernel_rfl) <| SMd rfl <| Sd (lo [1, 6] [] rfl fun S hs hr => Z7v rfl rfl Z4b (vh hs 1 rfl rfl) (vh hs 6 rfl rfl) hj5) <| SLp Z03 rfl <| SMd rfl <| Sd (lo [2, 9] [] rfl fun S hs hr => Z7v rfl rfl Z4b (vh hs 2 rfl rfl) (vh hs 9 rfl rfl) hj6) <| SLp Z03 rfl <| SCl [8, 11] (Y0d _ _ _ hx7) Y5g rfl <| Sd (lo [12] [] rfl fun S hs hr => Z1n rfl rfl (vh hs 12 rfl rfl)) <| Sd (lo [12] [] rfl fun S hs hr => Z1l rfl rfl (vh hs 12 rfl rfl)) <| SSt Z03 5 rfl <| SAs rfl <| Sn <| rt ?_
 cases h; exact Z1m Tryz.results262 rfl (Z01 rfl (i := 5) rfl Z03) (Za rfl)
def Z7q (a1 : Zl) (b2 : Zl) : Option (Zl × Bool) :=
 (Zco (fun x => Zka x a1 b2)).bind fun x6 => some (x6.1, x6.2)
theorem Zo6 : Q2 Tryz.prog 203 (rd (Z3 24 Z4)) (rd (Z3 24 Z4)) (fun r => Z1b (rd (Z3 24 Z4) r.1) (rd Z5 r.2)) Z7q := fun a1 b2 r h => I0 Tryz.func203 rfl Tryz.ntmps203 rfl fun w H => by
 unfold Z7q at h
 refine SR <| Cv rfl (Zn 3 rfl rfl (vt rfl)) fun g3 => Cv rfl (Zn 4 rfl rfl (vt rfl)) fun g4 => Cv rfl (Zs 5 rfl rfl Z2a) fun g5 => Ab rfl <| Nl <| sq <| AW.freezeB 2 3 rfl rfl rfl <| AW.freezeB 3 4 rfl rfl rfl ?_
 obtain ⟨x6, hx6, h⟩ := Z8 h
 refine Rg <| Ac (Zyf (fs := []) (FAs := []) (cs := [.tmp 2, .tmp 3]) (CAs := [rp (Z3 24 Z4) a1, rp (Z3 24 Z4) b2]) (kx := (Z0 .i64)) (B := (fun (y : (Tern × Bool)) => Z1b (rd Z4 y.1) (rd Z5 y.2))) (fun x => Zka x a1 b2) rfl rfl Y86 trivial ⟨vt rfl, vt rfl, trivial⟩ (fun x y h => Yia _ _ _ y h)) rfl <| Cl [6] (Zw4 _ _ hx6) Y41 rfl <| Ac (Z1n rfl rfl (vt rfl)) rfl <| Ac (Z1l rfl rfl (vt rfl)) rfl <| Zj Z00 5 rfl <| As rfl <| Nl <| rt ?_
 cases h; exact Z1m Tryz.results203 rfl (Z01 rfl (i := 5) rfl Z00) (Za rfl)
def Zjg (w1 : walk_way) (x2 : Flow) : Option (walk_way × Bool) :=
 (Zfd x2).bind fun x6 => (Zhi w1.got x6).bind fun x7 => (bif (!x7.2) then some ((⟨(Vector.replicate 24 zTern), (Vector.replicate 24 zTern), [], []⟩ : walk_way), false) else (Z7q x7.1 w1.cube).bind fun x9 => some ({ w1 with cube := x9.1 }, x9.2))
theorem Ymb : Q2 Tryz.prog 136 (rd Z1o) (rd Z16) (fun r => Z1b (rd Z1o r.1) (rd Z5 r.2)) Zjg := fun w1 x2 r h => I0 Tryz.func136 rfl Tryz.ntmps136 rfl fun w H => by
 unfold Zjg at h
 refine SR <| Cv rfl (Zn 3 rfl rfl (vt rfl)) fun g3 => Cv rfl (Zn 4 rfl rfl (vt rfl)) fun g4 => Cv rfl (Zs 5 rfl rfl Zfz) fun g5 => Ab rfl <| Nl <| sq ?_
 obtain ⟨x6, hx6, x7, hx7, h⟩ := bs2 h
 refine AR Zw (by kernel_rfl) <| Zv lwalk_way_1 Zj9 rfl <| Zm Z0f 3 rfl <| Zm Z9m 4 rfl <| SCl [11] (Y1i _ _ hx6) Zw8 rfl <| SCl [10, 12] (Zzn _ _ _ hx7) Zuq rfl <| Sd (lo [13] [] rfl fun S hs hr => Zp (A := Z1b (rd (Z3 24 Z4) x7.1) (rd Z5 x7.2)) rfl rfl (vh hs 13 rfl rfl)) <| Sd (lo [8] [] rfl fun S hs hr => Z1n rfl rfl (vh hs 8 rfl rfl)) <| Sd (lo [8] [] rfl fun S hs hr => Z1l rfl rfl (vh hs 8 rfl rfl)) <| Sd (Z1q (us := [(6, Z46 87 (Z3 24 Z4) (Vector.replicate 24 zTern))]) (ur := []) [] [] rfl fun S hs hr => Zdb rfl rfl rfl Z2a) <| Sd (Z1q (us := [(6, Z46 87 (Z3 24 Z4) x7.1)]) (ur := []) [6, 14] [] rfl fun S hs hr => Zey rfl rfl Z00 ((hs 6 rfl).trans rfl) (vh hs 14 rfl rfl)) <| SAs rfl <| Sn <| AW.unpackP 6 7 rfl rfl fun g8 => sq <| SR <| Md rfl <| Ac (Z0z rfl rfl (vt rfl)) rfl <| Nl <| Cq rfl h (fun h => ?_) (fun h => ?_)
 ·refine SR <| Ac (opb (⟨(Vector.replicate 24 zTern), (Vector.replicate 24 zTern), [], []⟩ : walk_way) Zfz rfl Y5k (pn rfl)) rfl <| Zj Z38 5 rfl <| Ab rfl <| Nl <| rt ?_
  cases h; exact Z1m Tryz.results136 rfl (Z01 rfl (i := 5) rfl Z38) (Za rfl)
 ·refine sk <| sq ?_
  obtain ⟨x9, hx9, h⟩ := Z8 h
  refine Rg <| Ld Z00 7 rfl <| Zh lwalk_way_0 Zsx rfl <| Ld Z00 3 rfl <| Cl [20, 22] (Zo6 _ _ _ hx9) Zp1 rfl <| Mt2 rfl <| Ac (Z1n rfl rfl (vt rfl)) rfl <| Ac (Z1l rfl rfl (vt rfl)) rfl <| Zh lwalk_way_0 Zsx rfl <| Zj Z00 3 rfl <| As rfl <| Nl <| SR <| Ld Z38 3 rfl <| Md rfl <| Zj Z38 5 rfl <| As rfl <| Nl <| rt ?_
  cases h; exact Z1m Tryz.results136 rfl (Z01 rfl (i := 5) rfl Z38) (Za rfl)
def Zlp (i1 : Inst) (x2 : Int) : Option Bool :=
 some (decide (i1.Kind = x2))
theorem Yiq : Q2 Tryz.prog 264 (rd Z1e) (rp (Z0 .i64)) (rd Z5) Zlp := fun i1 x2 r h => I0 Tryz.func264 rfl Tryz.ntmps264 rfl fun w H => by
 unfold Zlp at h
 refine SR <| Cv rfl (Zn 3 rfl rfl (vt rfl)) fun g3 => Ab rfl <| Nl <| SR <| Zh lInst_0 Yc0 rfl <| Ld Zq 3 rfl <| Lp1 Zq rfl <| Ac (Z1r rfl rfl (vt rfl) (vt rfl)) rfl <| As rfl <| Nl <| rt ?_
 cases h; exact Zf Tryz.results264 rfl (Za rfl)
def Zcj (s1 : (List Inst)) (x2 : (Inst → Option Bool)) : Nat → Nat → Option Int
 | 0, i3 => some (-1)
 | m4 + 1, i3 => (lget s1 (i3 : Int)).bind fun x5 => (x2 x5).bind fun x6 => (bif x6 then some (i3 : Int) else (Zcj s1 x2 m4) (i3 + 1))
def Zgz (s1 : (List Inst)) (x2 : (Inst → Option Bool)) : Option Int :=
 Zcj s1 x2 ((s1.length : Int) : Int).toNat 0
theorem Zvo : Q2 Tryz.prog 263 (rd (Z1 Z1e)) (fn1 Tryz.prog Z1e Z5) (rd (Z0 .i64)) Zgz := fun s1 x2 r h => I0 Tryz.func263 rfl Tryz.ntmps263 rfl fun w H => by
 unfold Zgz at h
 refine SR <| Ak rfl <| Nl <| sq <| SR <| Md rfl <| Ac (Z0t rfl rfl Zck (vt rfl)) rfl <| Mk rfl <| Nl <| bk <| LG (d := []) (ν := Nat × Nat) (fun (m4, i3) => (Cnt (s1.length : Int) i3 m4 ∧ Zcj s1 x2 m4 i3 = some r, m4, [(0, rd (Z1 Z1e) s1), (1, fn1 Tryz.prog Z1e Z5 x2), (7, rd (Z0 .i64) (s1.length : Int)), (8, rd (Z0 .i64) (i3 : Int))], [])) (((s1.length : Int) : Int).toNat, 0) ⟨Cnt.start _, h⟩ (FX rfl) ?_
 rintro ⟨m4, i3⟩ ⟨hsf1, h⟩
 dsimp only at hsf1 h ⊢
 cases m4 with
 | zero =>
  unfold Zcj at h
  refine SR <| Ac (Zi rfl rfl (vt rfl) (vt rfl)) rfl <| Nl <| sq <| Cn rfl (fun hc => absurd (of_decide_eq_true hc) hsf1.zero) (fun hc => ?_)
  refine xt <| SR <| Ak rfl <| Nl <| rt ?_
  cases h; exact Zf Tryz.results263 rfl (Za rfl)
 | succ m4 =>
  unfold Zcj at h
  refine SR <| Ac (Zi rfl rfl (vt rfl) (vt rfl)) rfl <| Nl <| sq <| Cn rfl (fun hc => ?_) (fun hc => absurd hsf1.succ (of_decide_eq_false hc))
  have hlti3 := of_decide_eq_true hc
  refine sk <| sq <| bk <| SR <| Md rfl <| As rfl <| Nl <| sq ?_
  obtain ⟨x5, hx5, x6, hx6, h⟩ := bs2 h
  refine Rg <| Ac (Zp (A := fn1 Tryz.prog Z1e Z5 x2) rfl rfl (vt rfl)) rfl <| Md rfl <| Md rfl <| Ac (Z0k rfl rfl Zck (vt rfl) (vt rfl) hx5) rfl <| Lp1 Z40 rfl <| Ac (Z88 hx6 rfl rfl (vt rfl) (vt rfl)) rfl <| Nl <| Cq rfl h (fun h => ?_) (fun h => ?_)
  ·refine SR <| Md rfl <| As rfl <| Nl <| rt ?_
   cases h; exact Zf Tryz.results263 rfl (Za rfl)
  ·refine sk <| Rg <| Ac (Z0u (t := 7) rfl rfl (vt rfl) (vk rfl) (vt rfl) hlti3) rfl <| Md rfl <| Nl ?_
   exact ⟨(_, _), Nat.lt_succ_self _, ⟨hsf1.next, h⟩, FX rfl⟩
end Go.Proofs.YtknpgojdkobgjaaGreat.W
set_option maxRecDepth 4000
namespace Go.Proofs.YtknpgojdkobgjaaGreat.W
open Go Go.Wb
theorem Yb2 : Ent Tryz.prog 264 := Ent.mk Tryz.func264 rfl rfl
theorem Zx5 : Ent Tryz.prog 263 := Ent.mk Tryz.func263 rfl rfl
theorem Zn6 : Ent Tryz.prog 216 := Ent.mk Tryz.func216 rfl rfl
theorem Ync : Ent Tryz.prog 306 := Ent.mk Tryz.func306 rfl rfl
theorem Y4e : Ent Tryz.prog 305 := Ent.mk Tryz.func305 rfl rfl
theorem Ztd : Ent Tryz.prog 268 := Ent.mk Tryz.func268 rfl rfl
theorem Y25 : Ent Tryz.prog 270 := Ent.mk Tryz.func270 rfl rfl
theorem e77 : Ent Tryz.prog 77 := Ent.mk Tryz.func77 rfl rfl
theorem Zdd : Ent Tryz.prog 207 := Ent.mk Tryz.func207 rfl rfl
theorem Zpe : Ent Tryz.prog 327 := Ent.mk Tryz.func327 rfl rfl
def Z6w (s : List Action) : Option (List Action) := Z18 [] s
theorem Zqp (s : List Action) (r : List Action) (h : Z6w s = some r) : Con Tryz.prog 216 [rd (Z1 Z9) s] emp (fun v => Zo v) (fun v => Zb v 121 Z9 r) := by
 refine Con.intro0 Tryz.func216 rfl Tryz.ntmps216 rfl fun w H => ?_
 unfold Z6w at h
 refine AW.newnil 1001 121 Z9 <| SR <| Ac (Zy (A := Zo (.slice none 0 0)) rfl rfl vc) rfl <| Nl <| sq <| SR <| Md rfl <| Ct rfl (Zi2 rfl rfl Z13 (vt rfl)) ?_
 rintro _ ⟨b, hb, rfl⟩
 refine Nl <| Cn rfl (fun hc => ?_) (fun hc => ?_)
 ·obtain rfl := hb hc
  refine SR <| Ac (Zy (A := Zo (.slice none 0 0)) rfl rfl vc) rfl <| Nl <| rt ?_
  obtain rfl := (Zat h).2
  exact Z6m (i := 1001) Tryz.results216 rfl rfl rfl
 ·refine sk <| SR <| Cv rfl (Zg4 1002 (ps := []) (l := []) rfl rfl Z13 Z8f rfl rfl rfl rfl) fun v1 => Md rfl <| Cv rfl (Z44 1002 h rfl rfl Y2i (vt rfl) rfl (vt rfl)) fun v2 => Aw rfl <| Nl <| rt ?_
  exact Z6m (i := 1002) Tryz.results216 rfl rfl rfl
theorem Y0e (s : List Action) (r : List Action) (h : Z6w s = some r) : PCon Tryz.prog 216 [rd (Z1 Z9) s] (rd (Z1 Z9) r) := PCon.of_row (Zqp s r h)
def Z69 (l1 : (List Inst)) (k2 : Int) : Option (Inst × Bool) :=
 (Zgz l1 (fun x => Zlp x k2)).bind fun x5 => (bif (decide (x5 < 0)) then some ((⟨0, 0, Z0j, Z0j, []⟩ : Inst), false) else (lget l1 x5).bind fun x6 => (Z6w x6.Acts).bind fun x8 => some ({ x6 with Acts := x8 }, true))
theorem Z91 : Q2 Tryz.prog 204 (rd (Z1 Z1e)) (rd (Z0 .i64)) (fun r => Z1b (rd Z1e r.1) (rd Z5 r.2)) Z69 := fun l1 k2 r h => I0 Tryz.func204 rfl Tryz.ntmps204 rfl fun w H => by
 unfold Z69 at h
 refine SR <| Cv rfl (Zn 4 rfl rfl (vt rfl)) fun g3 => Cv rfl (Zs 5 rfl rfl Z4z) fun g4 => Ab rfl <| Nl <| sq <| AW.freezeB 3 4 rfl rfl rfl ?_
 obtain ⟨x5, hx5, h⟩ := Z8 h
 refine Rg <| Md rfl <| Ac (Z7n (cs := [.tmp 3]) (CAs := [rp (Z0 .i64) k2]) (fun x => Zlp x k2) rfl rfl Yb2 ⟨vt rfl, trivial⟩ (fun x y h => Yiq _ _ y h)) rfl <| Cl [8, 9] (Zvo _ _ _ hx5) Zx5 rfl <| As rfl <| Nl <| sq <| SR <| Md rfl <| Ac (Zi rfl rfl (vt rfl) (vk rfl)) rfl <| Nl <| Cq rfl h (fun h => ?_) (fun h => ?_)
 ·refine SR <| Ac (opb (⟨0, 0, Z0j, Z0j, []⟩ : Inst) Z4z rfl Zv2 (pn rfl)) rfl <| Zj Z40 5 rfl <| Ab rfl <| Nl <| rt ?_
  cases h; exact Z1m Tryz.results204 rfl (Z01 rfl (i := 5) rfl Z40) (Za rfl)
 ·refine sk <| sq ?_
  obtain ⟨x6, hx6, h⟩ := Z8 h
  refine Rg <| Md rfl <| Md rfl <| Ac (Z0k rfl rfl Zck (vt rfl) (vt rfl) hx6) rfl <| Lp1 Z40 rfl <| Cv rfl (Zs 8 rfl rfl Z4z) fun g7 => Zj Z40 8 rfl <| Nl <| sq ?_
  obtain ⟨x8, hx8, h⟩ := Z8 h
  refine Rg <| Zh lInst_4 Zb2 rfl <| Ld Z3d 8 rfl <| Cl [19] (Y0e _ _ hx8) Zn6 rfl <| Zh lInst_4 Zb2 rfl <| Zj Z3d 8 rfl <| Nl <| SR <| Ld Z40 8 rfl <| Zj Z40 5 rfl <| Ab rfl <| Nl <| rt ?_
  cases h; exact Z1m Tryz.results204 rfl (Z01 rfl (i := 5) rfl Z40) (Za rfl)
def Zf5 (i1 : Int) (x2 : Zl) : Option Tern :=
 (chk 24 i1).bind fun j4 => (Z7e (Vector.get x2 j4)).bind fun x5 => some x5
theorem Yfi : Q2 Tryz.prog 306 (rd (Z0 .i64)) (rp (Z3 24 Z4)) (rd Z4) Zf5 := fun i1 x2 r h => I0 Tryz.func306 rfl Tryz.ntmps306 rfl fun w H => by
 unfold Zf5 at h
 refine SR <| Cv rfl (Zs 4 rfl rfl Z2c) fun g3 => Nl <| sq ?_
 obtain ⟨j4, hj4, x5, hx5, h⟩ := bs2 h
 refine Rg <| Md rfl <| Ac (Z7v rfl rfl Za3 (vt rfl) (vt rfl) hj4) rfl <| Lp1 Z03 rfl <| Cl [6] (Z9z _ _ hx5) Za4 rfl <| Zj Z03 4 rfl <| Nl <| rt ?_
 cases h; exact Zf Tryz.results306 rfl (Z01 rfl (i := 4) rfl Z03)
def Za0 (x1 : (Int → Option Tern)) : Nat → Nat → Zl → Option Zl
 | 0, i6, b5 => some b5
 | m7 + 1, i6, b5 => (x1 (i6 : Int)).bind fun x8 => (chk 24 (i6 : Int)).bind fun j9 => (Za0 x1 m7) (i6 + 1) (Vector.set b5 j9.1 x8 j9.2)
def Zfg (x1 : (Int → Option Tern)) : Option Zl :=
 Za0 x1 (24 : Int).toNat 0 (Vector.replicate 24 zTern)
theorem Zwt : Q1 Tryz.prog 305 (fn1 Tryz.prog (Z0 .i64) Z4) (rd (Z3 24 Z4)) Zfg := fun x1 r h => I0 Tryz.func305 rfl Tryz.ntmps305 rfl fun w H => by
 unfold Zfg at h
 refine SR <| Cv rfl (Zs 3 rfl rfl Z75) fun g2 => Nl <| SR <| Cv rfl (Zs 4 rfl rfl Z75) fun g3 => Nl <| sq <| SR <| Mk rfl <| Nl <| bk <| LG (d := []) (ν := Nat × Nat × Zl) (fun (m7, i6, b5) => (Cnt 24 i6 m7 ∧ Za0 x1 m7 i6 b5 = some r, m7, [(0, fn1 Tryz.prog (Z0 .i64) Z4 x1), (2, Z7 g2 (Lens.id (Z3 24 Z4))), (3, Z7 g3 (Lens.id (Z3 24 Z4))), (5, rd (Z0 .i64) (i6 : Int))], [(3, Zc g2 101 (Z3 24 Z4) (Vector.replicate 24 zTern)), (4, Zc g3 101 (Z3 24 Z4) b5)])) ((24 : Int).toNat, 0, (Vector.replicate 24 zTern)) ⟨Cnt.start _, h⟩ (FX rfl) ?_
 rintro ⟨m7, i6, b5⟩ ⟨hsf1, h⟩
 dsimp only at hsf1 h ⊢
 cases m7 with
 | zero =>
  unfold Za0 at h
  refine SR <| Ac (Zi rfl rfl (vt rfl) (vk rfl)) rfl <| Nl <| sq <| Cn rfl (fun hc => absurd (of_decide_eq_true hc) hsf1.zero) (fun hc => ?_)
  refine xt <| SR <| Ld Z0f 4 rfl <| Zj Z0f 3 rfl <| Nl <| rt ?_
  cases h; exact Zf Tryz.results305 rfl (Z01 rfl (i := 3) rfl Z0f)
 | succ m7 =>
  unfold Za0 at h
  refine SR <| Ac (Zi rfl rfl (vt rfl) (vk rfl)) rfl <| Nl <| sq <| Cn rfl (fun hc => ?_) (fun hc => absurd hsf1.succ (of_decide_eq_false hc))
  have hlti6 := of_decide_eq_true hc
  refine sk <| sq <| bk <| SR <| Md rfl <| As rfl <| Nl ?_
  obtain ⟨x8, hx8, j9, hj9, h⟩ := bs2 h
  refine Rg <| Md rfl <| Ac (Zp (A := fn1 Tryz.prog (Z0 .i64) Z4 x1) rfl rfl (vt rfl)) rfl <| Md rfl <| Ac (Z88 hx8 rfl rfl (vt rfl) (vt rfl)) rfl <| Ac (Z2u rfl rfl Za3 (vt rfl) (vt rfl) hj9) rfl <| Zj Z03 4 rfl <| Nl <| Rg <| Ac (Z7a rfl rfl (vt rfl) (vk rfl) rfl hlti6) rfl <| Md rfl <| Nl ?_
  exact ⟨(_, _, _), Nat.lt_succ_self _, ⟨hsf1.next, h⟩, FX rfl⟩
def Ze9 (x1 : Zl) : Option Zl :=
 (Zfg (fun x => Zf5 x x1)).bind fun x4 => some x4
theorem Zta : Q1 Tryz.prog 268 (rd (Z3 24 Z4)) (rd (Z3 24 Z4)) Ze9 := fun x1 r h => I0 Tryz.func268 rfl Tryz.ntmps268 rfl fun w H => by
 unfold Ze9 at h
 refine SR <| Cv rfl (Zn 2 rfl rfl (vt rfl)) fun g2 => Cv rfl (Zs 3 rfl rfl Z75) fun g3 => Nl <| sq <| AW.freezeB 1 2 rfl rfl rfl ?_
 obtain ⟨x4, hx4, h⟩ := Z8 h
 refine Rg <| Ac (Z7n (cs := [.tmp 1]) (CAs := [rp (Z3 24 Z4) x1]) (fun x => Zf5 x x1) rfl rfl Ync ⟨vt rfl, trivial⟩ (fun x y h => Yfi _ _ y h)) rfl <| Cl [3] (Zwt _ _ hx4) Y4e rfl <| Zj Z0f 3 rfl <| Nl <| rt ?_
 cases h; exact Zf Tryz.results268 rfl (Z01 rfl (i := 3) rfl Z0f)
def Zjo (a1 : Tern) (b2 : Tern) : Option Tern :=
 (Z7e a1).bind fun x6 => (Z7e b2).bind fun x7 => (Z9t x6.Value x7.Mask).bind fun x8 => (Z8s x8 x7.Value).bind fun x9 => (Z8s x6.Mask x7.Mask).bind fun x10 => some (⟨x9, x10⟩ : Tern)
theorem Zyp : Q2 Tryz.prog 270 (rd Z4) (rd Z4) (rd Z4) Zjo := fun a1 b2 r h => I0 Tryz.func270 rfl Tryz.ntmps270 rfl fun w H => by
 unfold Zjo at h
 refine SR <| Cv rfl (Zn 3 rfl rfl (vt rfl)) fun g3 => Cv rfl (Zn 4 rfl rfl (vt rfl)) fun g4 => Cv rfl (Zs 5 rfl rfl Z2c) fun g5 => Nl <| sq ?_
 obtain ⟨x6, hx6, x7, hx7, h⟩ := bs2 h
 refine AR Zw (by kernel_rfl) <| Zm Z03 3 rfl <| SCl [5] (Z9z _ _ hx6) Za4 rfl <| Zm Z03 4 rfl <| SCl [7] (Z9z _ _ hx7) Za4 rfl <| SSt Z03 3 rfl <| SSt Z03 4 rfl <| Sn <| sq ?_
 obtain ⟨x8, hx8, x9, hx9, x10, hx10, h⟩ := bs3 h
 refine AR Zw (by kernel_rfl) <| Zv lTern_0 Z4f rfl <| Zm Z02 3 rfl <| Zv lTern_1 Z3m rfl <| Zm Z02 4 rfl <| SCl [10, 12] (Zf9 _ _ _ hx8) Zg6 rfl <| Zv lTern_0 Z4f rfl <| Zm Z02 4 rfl <| SCl [13, 15] (Zex _ _ _ hx9) Zcp rfl <| Zv lTern_1 Z3m rfl <| Zm Z02 3 rfl <| Zv lTern_1 Z3m rfl <| Zm Z02 4 rfl <| SCl [18, 20] (Zex _ _ _ hx10) Zcp rfl <| Sd (lo [16, 21] [] rfl fun S hs hr => opb (⟨x9, x10⟩ : Tern) Z2c rfl Z8t (pc Zba (vh hs 16 rfl rfl) <| pc Zas (vh hs 21 rfl rfl) <| pn rfl)) <| SSt Z03 5 rfl <| Sn <| rt ?_
 cases h; exact Zf Tryz.results270 rfl (Z01 rfl (i := 5) rfl Z03)
def Z73 (x1 : Zl) (x2 : Int) (x3 : Wide) (m4 : Wide) : Option Zl :=
 (Ze9 x1).bind fun x9 => (Z8g x2).bind fun x10 => (bif x10 then (chk 24 x2).bind fun j11 => (Zjo (Vector.get x9 j11) (⟨x3, m4⟩ : Tern)).bind fun x12 => (chk 24 x2).bind fun j13 => some (Vector.set x9 j13.1 x12 j13.2) else some x9)
theorem Zei : Q4 Tryz.prog 207 (rd (Z3 24 Z4)) (rd (Z0 .i64)) (rd Zd) (rd Zd) (rd (Z3 24 Z4)) Z73 := fun x1 x2 x3 m4 r h => I0 Tryz.func207 rfl Tryz.ntmps207 rfl fun w H => by
 unfold Z73 at h
 refine SR <| Cv rfl (Zn 5 rfl rfl (vt rfl)) fun g5 => Cv rfl (Zn 7 rfl rfl (vt rfl)) fun g6 => Cv rfl (Zn 8 rfl rfl (vt rfl)) fun g7 => Cv rfl (Zs 9 rfl rfl Z75) fun g8 => Nl <| sq ?_
 obtain ⟨x9, hx9, h⟩ := Z8 h
 refine Rg <| Ld Z0f 5 rfl <| Cl [9] (Zta _ _ hx9) Ztd rfl <| Zj Z0f 5 rfl <| Nl <| sq <| sq ?_
 obtain ⟨x10, hx10, h⟩ := Z8 h
 refine Rg <| Md rfl <| Cl [11] (Zp3 _ _ hx10) Zmb rfl <| Nl <| Cq rfl h (fun h => ?_) (fun h => ?_)
 ·obtain ⟨j11, hj11, x12, hx12, j13, hj13, h⟩ := bs3 h
  refine AR Zw (by kernel_rfl) <| SMd rfl <| SMd rfl <| Sd (lo [4, 14] [] rfl fun S hs hr => Z2u rfl rfl Za3 (vh hs 4 rfl rfl) (vh hs 14 rfl rfl) hj11) <| Zm Z03 5 rfl <| Zm Z02 7 rfl <| Zm Z02 8 rfl <| Sd (lo [17, 18] [] rfl fun S hs hr => opb (⟨x3, m4⟩ : Tern) Z2c rfl Z8t (pc Zba (vh hs 17 rfl rfl) <| pc Zas (vh hs 18 rfl rfl) <| pn rfl)) <| SCl [16, 19] (Zyp _ _ _ hx12) Y25 rfl <| Sd (lo [4, 13] [] rfl fun S hs hr => Z2u rfl rfl Za3 (vh hs 4 rfl rfl) (vh hs 13 rfl rfl) hj13) <| SSt Z03 5 rfl <| Sn <| SR <| Ld Z0f 5 rfl <| Zj Z0f 9 rfl <| Nl <| rt ?_
  cases h; exact Zf Tryz.results207 rfl (Z01 rfl (i := 9) rfl Z0f)
 ·refine sk <| SR <| Ld Z0f 5 rfl <| Zj Z0f 9 rfl <| Nl <| rt ?_
  cases h; exact Zf Tryz.results207 rfl (Z01 rfl (i := 9) rfl Z0f)
def Zb8 (i1 : Int) : Option Wide :=
 (bif ((decide (i1 < 0)) || (decide (i1 > 127))) then some (⟨0, 0⟩ : Wide) else (Zg2 .i64 i1 64).bind fun q4 => (Z94 i1 64).bind fun q5 => (Zdf (1 : BitVec 64) q5).bind fun q6 => (chk 2 q4).bind fun j7 => some (⟨(Vector.get (Vector.set (Vector.replicate 2 0) j7.1 q6 j7.2) (⟨1, by decide⟩ : _root_.Fin 2)), (Vector.get (Vector.set (Vector.replicate 2 0) j7.1 q6 j7.2) (⟨0, by decide⟩ : _root_.Fin 2))⟩ : Wide))
theorem Zor : Q1 Tryz.prog 327 (rd (Z0 .i64)) (rd Zd) Zb8 := fun i1 r h => I0 Tryz.func327 rfl Tryz.ntmps327 rfl fun w H => by
 unfold Zb8 at h
 refine SR <| Cv rfl (Zs 3 rfl rfl Z3p) fun g2 => Nl <| SR <| Cv rfl (Zs 4 rfl rfl Y5x) fun g3 => Nl <| sq <| SR <| Md rfl <| Ac (Zi rfl rfl (vt rfl) (vk rfl)) rfl <| Md rfl <| Gd rfl (fun hq => Zp (A := rd (Z0 .i64) i1) rfl rfl (vt rfl)) <| Gd rfl (fun hq => Z3i rfl rfl (Zg rfl hq) (vk rfl)) <| Ac (Z4o rfl rfl (vt rfl) (vt rfl)) rfl <| Nl <| Cq rfl h (fun h => ?_) (fun h => ?_)
 ·refine SR <| Ac (opb (⟨0, 0⟩ : Wide) Z3p rfl Z74 (pn rfl)) rfl <| Zj Z02 3 rfl <| Nl <| rt ?_
  cases h; exact Zf Tryz.results327 rfl (Z01 rfl (i := 3) rfl Z02)
 ·refine sk <| sq ?_
  obtain ⟨q4, hq4, q5, hq5, q6, hq6, j7, hj7, h⟩ := bs4 h
  refine Rg <| Md rfl <| Ac (Ykt rfl rfl (vt rfl) (vk rfl) hq4) rfl <| Md rfl <| Ac (Zvj rfl rfl (vt rfl) (vk rfl) hq5) rfl <| Ac (Y0h rfl rfl (vku (1 : BitVec 64) rfl) (vt rfl) hq6) rfl <| Ac (Z2u rfl rfl Ztn (vt rfl) (vt rfl) hj7) rfl <| Zj Z2p 4 rfl <| Nl <| SR <| Ac (Z2u rfl rfl Ztn (vt rfl) (vk rfl) rfl) rfl <| Ld Z2p 4 rfl <| Ac (Z2u rfl rfl Ztn (vt rfl) (vk rfl) rfl) rfl <| Ld Z2p 4 rfl <| Ac (opb (⟨(Vector.get (Vector.set (Vector.replicate 2 0) j7.1 q6 j7.2) (⟨1, by decide⟩ : _root_.Fin 2)), (Vector.get (Vector.set (Vector.replicate 2 0) j7.1 q6 j7.2) (⟨0, by decide⟩ : _root_.Fin 2))⟩ : Wide) Z3p rfl Z74 (pc Zhq (vt rfl) <| pc Z9c (vt rfl) <| pn rfl)) rfl <| Zj Z02 3 rfl <| Nl <| rt ?_
  cases h; exact Zf Tryz.results327 rfl (Z01 rfl (i := 3) rfl Z02)
def Zgm (a1 : Action) : Option Zl :=
 (Z9j).bind fun x4 => (bif (decide (a1.Kind = 25)) then (Zg9 a1.Oxm).bind fun x6 => (Z73 x4 a1.Oxm.Field x6.Value x6.Mask).bind fun x8 => some x8 else (bif (decide (a1.Kind = 17)) then (Zb8 12).bind fun x9 => (Zb8 12).bind fun x10 => (Z73 x4 5 x9 x10).bind fun x11 => some x11 else (bif (decide (a1.Kind = 18)) then (Z7t 13).bind fun x12 => (Z73 x4 5 (⟨0, 0⟩ : Wide) x12).bind fun x13 => (Z7t 3).bind fun x14 => (Z73 x13 6 (⟨0, 0⟩ : Wide) x14).bind fun x15 => some x15 else some x4)))
theorem Y4a : Q1 Tryz.prog 287 (rd Z9) (rd (Z3 24 Z4)) Zgm := fun a1 r h => I0 Tryz.func287 rfl Tryz.ntmps287 rfl fun w H => by
 unfold Zgm at h
 refine SR <| Cv rfl (Zn 2 rfl rfl (vt rfl)) fun g2 => Cv rfl (Zs 3 rfl rfl Z75) fun g3 => Nl <| sq ?_
 obtain ⟨x4, hx4, h⟩ := Z8 h
 refine Rg <| Cl [] (Zoo _ hx4) e77 rfl <| Cv rfl (Zs 4 rfl rfl Z75) fun g5 => Zj Z0f 4 rfl <| Nl <| sq <| SR <| Zh lAction_0 Z8j rfl <| Ld Zq 2 rfl <| Nl <| bk <| SR <| Ac (Z1r rfl rfl (vt rfl) (vk rfl)) rfl <| As rfl <| Nl <| Cq rfl h (fun h => ?_) (fun h => ?_)
 ·refine sq ?_
  obtain ⟨x6, hx6, h⟩ := Z8 h
  refine Rg <| Zh Zml Zrs rfl <| Ld Zmj 2 rfl <| Cl [11] (Zwv _ _ hx6) Y22 rfl <| Cv rfl (Zs 5 rfl rfl Z2c) fun g7 => Zj Z03 5 rfl <| Nl ?_
  obtain ⟨x8, hx8, h⟩ := Z8 h
  refine Rg <| Ld Z0f 4 rfl <| Zh Zml Zrs rfl <| Zh Zce Zh4 rfl <| Ld Zq 2 rfl <| Zh lTern_0 Z4f rfl <| Ld Z02 5 rfl <| Zh lTern_1 Z3m rfl <| Ld Z02 5 rfl <| Cl [13, 16, 18, 20] (Zei _ _ _ _ _ hx8) Zdd rfl <| Zj Z0f 4 rfl <| Nl <| SR <| Ld Z0f 4 rfl <| Zj Z0f 3 rfl <| Nl <| rt ?_
  cases h; exact Zf Tryz.results287 rfl (Z01 rfl (i := 3) rfl Z0f)
 ·refine SR <| Ac (Z1r rfl rfl (vt rfl) (vk rfl)) rfl <| As rfl <| Nl <| Cq rfl h (fun h => ?_) (fun h => ?_)
  ·obtain ⟨x9, hx9, x10, hx10, x11, hx11, h⟩ := bs3 h
   refine AR Zw (by kernel_rfl) <| Zm Z0f 4 rfl <| Sd (lo [] [] rfl fun S hs hr => Z14 (xs := [.const (Value.int IntKind.i64 12)]) (Zor _ _ hx9) Zpe rfl rfl ⟨vk rfl, trivial⟩) <| Sd (lo [] [] rfl fun S hs hr => Z14 (xs := [.const (Value.int IntKind.i64 12)]) (Zor _ _ hx10) Zpe rfl rfl ⟨vk rfl, trivial⟩) <| Sd (lo [24, 25, 26] [] rfl fun S hs hr => Z14 (xs := [.tmp 24, .const (Value.int IntKind.i64 5), .tmp 25, .tmp 26]) (Zei _ _ _ _ _ hx11) Zdd rfl rfl ⟨vt ((hs 24 rfl).trans rfl), vk rfl, vt ((hs 25 rfl).trans rfl), vt ((hs 26 rfl).trans rfl), trivial⟩) <| SSt Z0f 4 rfl <| Sn <| SR <| Ld Z0f 4 rfl <| Zj Z0f 3 rfl <| Nl <| rt ?_
   cases h; exact Zf Tryz.results287 rfl (Z01 rfl (i := 3) rfl Z0f)
  ·refine SR <| Ac (Z1r rfl rfl (vt rfl) (vk rfl)) rfl <| As rfl <| Nl <| Cq rfl h (fun h => ?_) (fun h => ?_)
   ·refine sq ?_
    obtain ⟨x12, hx12, x13, hx13, h⟩ := bs2 h
    refine AR Zw (by kernel_rfl) <| Zm Z0f 4 rfl <| Sd (lo [] [] rfl fun S hs hr => opb (⟨0, 0⟩ : Wide) Z3p rfl Z74 (pn rfl)) <| Sd (lo [] [] rfl fun S hs hr => Z14 (xs := [.const (Value.int IntKind.i64 13)]) (Zp2 _ _ hx12) Zmg rfl rfl ⟨vk rfl, trivial⟩) <| Sd (lo [30, 31, 32] [] rfl fun S hs hr => Z14 (xs := [.tmp 30, .const (Value.int IntKind.i64 5), .tmp 31, .tmp 32]) (Zei _ _ _ _ _ hx13) Zdd rfl rfl ⟨vt ((hs 30 rfl).trans rfl), vk rfl, vt ((hs 31 rfl).trans rfl), vt ((hs 32 rfl).trans rfl), trivial⟩) <| SSt Z0f 4 rfl <| Sn ?_
    obtain ⟨x14, hx14, x15, hx15, h⟩ := bs2 h
    refine AR Zw (by kernel_rfl) <| Zm Z0f 4 rfl <| Sd (lo [] [] rfl fun S hs hr => opb (⟨0, 0⟩ : Wide) Z3p rfl Z74 (pn rfl)) <| Sd (lo [] [] rfl fun S hs hr => Z14 (xs := [.const (Value.int IntKind.i64 3)]) (Zp2 _ _ hx14) Zmg rfl rfl ⟨vk rfl, trivial⟩) <| Sd (lo [34, 35, 36] [] rfl fun S hs hr => Z14 (xs := [.tmp 34, .const (Value.int IntKind.i64 6), .tmp 35, .tmp 36]) (Zei _ _ _ _ _ hx15) Zdd rfl rfl ⟨vt ((hs 34 rfl).trans rfl), vk rfl, vt ((hs 35 rfl).trans rfl), vt ((hs 36 rfl).trans rfl), trivial⟩) <| SSt Z0f 4 rfl <| Sn <| SR <| Ld Z0f 4 rfl <| Zj Z0f 3 rfl <| Nl <| rt ?_
    cases h; exact Zf Tryz.results287 rfl (Z01 rfl (i := 3) rfl Z0f)
   ·refine sk <| SR <| Ld Z0f 4 rfl <| Zj Z0f 3 rfl <| Nl <| rt ?_
    cases h; exact Zf Tryz.results287 rfl (Z01 rfl (i := 3) rfl Z0f)
end Go.Proofs.YtknpgojdkobgjaaGreat.W
