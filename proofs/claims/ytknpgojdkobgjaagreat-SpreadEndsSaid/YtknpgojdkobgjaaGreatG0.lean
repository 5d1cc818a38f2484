/- A part of the proof. -/
import Derived.Test.YtknpgojdkobgjaaGreatL1
import Derived.Test.YtknpgojdkobgjaaGreatProg
import Derived.KernelRfl
set_option linter.unusedVariables false
set_option maxRecDepth 4000
set_option linter.unusedSimpArgs false
namespace Go.Proofs.YtknpgojdkobgjaaGreat.W
open Go Go.Wb
structure Wide where
 Hi : (BitVec 64)
 Lo : (BitVec 64)
 deriving DecidableEq, Inhabited
def Ze : Kd Wide := Z0g (Z2 Z0a Z0a) (fun x => (x.Hi, x.Lo))
instance : PureK Ze := inferInstanceAs (PureK (Z0g (Z2 Z0a Z0a) (fun (x : Wide) => (x.Hi, x.Lo))))
def lWide_0 : Lens Ze Z0a := Lens.iso (k := (Z2 Z0a Z0a)) (Lens.fst _ _) Wide.Hi (fun x y => { x with Hi := y }) (fun _ => rfl) (fun _ _ => rfl)
def lWide_1 : Lens Ze Z0a := Lens.iso (k := (Z2 Z0a Z0a)) (Lens.snd _ _) Wide.Lo (fun x y => { x with Lo := y }) (fun _ => rfl) (fun _ _ => rfl)
def Z0e : Wide := ⟨0, 0⟩
def Z5n : List Value := ([.int .u64 0] ++ [.int .u64 0])
theorem Z4w : KZ Ze Z0e Z5n := Z1i (Z07 Zbl Zbl)
structure Tern where
 Value : Wide
 Mask : Wide
 deriving DecidableEq, Inhabited
def Z3 : Kd Tern := Z0g (Z2 Ze Ze) (fun x => (x.Value, x.Mask))
instance : PureK Z3 := inferInstanceAs (PureK (Z0g (Z2 Ze Ze) (fun (x : Tern) => (x.Value, x.Mask))))
def lTern_0 : Lens Z3 Ze := Lens.iso (k := (Z2 Ze Ze)) (Lens.fst _ _) Tern.Value (fun x y => { x with Value := y }) (fun _ => rfl) (fun _ _ => rfl)
def lTern_1 : Lens Z3 Ze := Lens.iso (k := (Z2 Ze Ze)) (Lens.snd _ _) Tern.Mask (fun x y => { x with Mask := y }) (fun _ => rfl) (fun _ _ => rfl)
def Z0n : Tern := ⟨Z0e, Z0e⟩
def Z4h : List Value := (Z5n ++ Z5n)
theorem Z3f : KZ Z3 Z0n Z4h := Z1i (Z07 Z4w Z4w)
abbrev Zg := Vector Tern 24
abbrev Z0l := Vector Wide 24
structure Ray where
 At : Int
 Port : Int
 Max : Int
 Left : Bool
 Cube : Zg
 Rewrite : Zg
 deriving DecidableEq, Inhabited
def Z0f : Kd Ray := Z0g (Z2 (Z0 .i64) (Z2 (Z0 .i64) (Z2 (Z0 .i64) (Z2 Z6 (Z2 (Z1 24 Z3) (Z1 24 Z3)))))) (fun x => (x.At, (x.Port, (x.Max, (x.Left, (x.Cube, x.Rewrite))))))
instance : PureK Z0f := inferInstanceAs (PureK (Z0g (Z2 (Z0 .i64) (Z2 (Z0 .i64) (Z2 (Z0 .i64) (Z2 Z6 (Z2 (Z1 24 Z3) (Z1 24 Z3)))))) (fun (x : Ray) => (x.At, (x.Port, (x.Max, (x.Left, (x.Cube, x.Rewrite))))))))
def lRay_0 : Lens Z0f (Z0 .i64) := Lens.iso (k := (Z2 (Z0 .i64) (Z2 (Z0 .i64) (Z2 (Z0 .i64) (Z2 Z6 (Z2 (Z1 24 Z3) (Z1 24 Z3))))))) (Lens.fst _ _) Ray.At (fun x y => { x with At := y }) (fun _ => rfl) (fun _ _ => rfl)
def lRay_1 : Lens Z0f (Z0 .i64) := Lens.iso (k := (Z2 (Z0 .i64) (Z2 (Z0 .i64) (Z2 (Z0 .i64) (Z2 Z6 (Z2 (Z1 24 Z3) (Z1 24 Z3))))))) (Lens.comp (Lens.snd _ _) (Lens.fst _ _)) Ray.Port (fun x y => { x with Port := y }) (fun _ => rfl) (fun _ _ => rfl)
def lRay_2 : Lens Z0f (Z0 .i64) := Lens.iso (k := (Z2 (Z0 .i64) (Z2 (Z0 .i64) (Z2 (Z0 .i64) (Z2 Z6 (Z2 (Z1 24 Z3) (Z1 24 Z3))))))) (Lens.comp (Lens.comp (Lens.snd _ _) (Lens.snd _ _)) (Lens.fst _ _)) Ray.Max (fun x y => { x with Max := y }) (fun _ => rfl) (fun _ _ => rfl)
def lRay_3 : Lens Z0f Z6 := Lens.iso (k := (Z2 (Z0 .i64) (Z2 (Z0 .i64) (Z2 (Z0 .i64) (Z2 Z6 (Z2 (Z1 24 Z3) (Z1 24 Z3))))))) (Lens.comp (Lens.comp (Lens.comp (Lens.snd _ _) (Lens.snd _ _)) (Lens.snd _ _)) (Lens.fst _ _)) Ray.Left (fun x y => { x with Left := y }) (fun _ => rfl) (fun _ _ => rfl)
def lRay_4 : Lens Z0f (Z1 24 Z3) := Lens.iso (k := (Z2 (Z0 .i64) (Z2 (Z0 .i64) (Z2 (Z0 .i64) (Z2 Z6 (Z2 (Z1 24 Z3) (Z1 24 Z3))))))) (Lens.comp (Lens.comp (Lens.comp (Lens.comp (Lens.snd _ _) (Lens.snd _ _)) (Lens.snd _ _)) (Lens.snd _ _)) (Lens.fst _ _)) Ray.Cube (fun x y => { x with Cube := y }) (fun _ => rfl) (fun _ _ => rfl)
def lRay_5 : Lens Z0f (Z1 24 Z3) := Lens.iso (k := (Z2 (Z0 .i64) (Z2 (Z0 .i64) (Z2 (Z0 .i64) (Z2 Z6 (Z2 (Z1 24 Z3) (Z1 24 Z3))))))) (Lens.comp (Lens.comp (Lens.comp (Lens.comp (Lens.snd _ _) (Lens.snd _ _)) (Lens.snd _ _)) (Lens.snd _ _)) (Lens.snd _ _)) Ray.Rewrite (fun x y => { x with Rewrite := y }) (fun _ => rfl) (fun _ _ => rfl)
def Zkc : Ray := ⟨0, 0, 0, false, (Vector.replicate 24 Z0n), (Vector.replicate 24 Z0n)⟩
def Zwp : List Value := ([.int .i64 0] ++ ([.int .i64 0] ++ ([.int .i64 0] ++ ([.bool false] ++ ((List.replicate 24 Z4h).flatten ++ (List.replicate 24 Z4h).flatten)))))
theorem Zq1 : KZ Z0f Zkc Zwp := Z1i (Z07 Z0t (Z07 Z0t (Z07 Z0t (Z07 Z5z (Z07 (Z2t 24 Z3f) (Z2t 24 Z3f))))))
structure End where
 At : Int
 Port : Int
 Max : Int
 Left : Bool
 Header : Z0l
 deriving DecidableEq, Inhabited
def Z3r : Kd End := Z0g (Z2 (Z0 .i64) (Z2 (Z0 .i64) (Z2 (Z0 .i64) (Z2 Z6 (Z1 24 Ze))))) (fun x => (x.At, (x.Port, (x.Max, (x.Left, x.Header)))))
instance : PureK Z3r := inferInstanceAs (PureK (Z0g (Z2 (Z0 .i64) (Z2 (Z0 .i64) (Z2 (Z0 .i64) (Z2 Z6 (Z1 24 Ze))))) (fun (x : End) => (x.At, (x.Port, (x.Max, (x.Left, x.Header)))))))
def lEnd_0 : Lens Z3r (Z0 .i64) := Lens.iso (k := (Z2 (Z0 .i64) (Z2 (Z0 .i64) (Z2 (Z0 .i64) (Z2 Z6 (Z1 24 Ze)))))) (Lens.fst _ _) End.At (fun x y => { x with At := y }) (fun _ => rfl) (fun _ _ => rfl)
def lEnd_1 : Lens Z3r (Z0 .i64) := Lens.iso (k := (Z2 (Z0 .i64) (Z2 (Z0 .i64) (Z2 (Z0 .i64) (Z2 Z6 (Z1 24 Ze)))))) (Lens.comp (Lens.snd _ _) (Lens.fst _ _)) End.Port (fun x y => { x with Port := y }) (fun _ => rfl) (fun _ _ => rfl)
def lEnd_2 : Lens Z3r (Z0 .i64) := Lens.iso (k := (Z2 (Z0 .i64) (Z2 (Z0 .i64) (Z2 (Z0 .i64) (Z2 Z6 (Z1 24 Ze)))))) (Lens.comp (Lens.comp (Lens.snd _ _) (Lens.snd _ _)) (Lens.fst _ _)) End.Max (fun x y => { x with Max := y }) (fun _ => rfl) (fun _ _ => rfl)
def lEnd_3 : Lens Z3r Z6 := Lens.iso (k := (Z2 (Z0 .i64) (Z2 (Z0 .i64) (Z2 (Z0 .i64) (Z2 Z6 (Z1 24 Ze)))))) (Lens.comp (Lens.comp (Lens.comp (Lens.snd _ _) (Lens.snd _ _)) (Lens.snd _ _)) (Lens.fst _ _)) End.Left (fun x y => { x with Left := y }) (fun _ => rfl) (fun _ _ => rfl)
def lEnd_4 : Lens Z3r (Z1 24 Ze) := Lens.iso (k := (Z2 (Z0 .i64) (Z2 (Z0 .i64) (Z2 (Z0 .i64) (Z2 Z6 (Z1 24 Ze)))))) (Lens.comp (Lens.comp (Lens.comp (Lens.snd _ _) (Lens.snd _ _)) (Lens.snd _ _)) (Lens.snd _ _)) End.Header (fun x y => { x with Header := y }) (fun _ => rfl) (fun _ _ => rfl)
def Zoa : End := ⟨0, 0, 0, false, (Vector.replicate 24 Z0e)⟩
def Y0d : List Value := ([.int .i64 0] ++ ([.int .i64 0] ++ ([.int .i64 0] ++ ([.bool false] ++ (List.replicate 24 Z5n).flatten))))
theorem Zvo : KZ Z3r Zoa Y0d := Z1i (Z07 Z0t (Z07 Z0t (Z07 Z0t (Z07 Z5z (Z2t 24 Z4w)))))
structure Oxm where
 Field : Int
 Masked : Bool
 Value : Wide
 Mask : Wide
 deriving DecidableEq, Inhabited
def Z1v : Kd Oxm := Z0g (Z2 (Z0 .i64) (Z2 Z6 (Z2 Ze Ze))) (fun x => (x.Field, (x.Masked, (x.Value, x.Mask))))
instance : PureK Z1v := inferInstanceAs (PureK (Z0g (Z2 (Z0 .i64) (Z2 Z6 (Z2 Ze Ze))) (fun (x : Oxm) => (x.Field, (x.Masked, (x.Value, x.Mask))))))
def Z6i : Lens Z1v (Z0 .i64) := Lens.iso (k := (Z2 (Z0 .i64) (Z2 Z6 (Z2 Ze Ze)))) (Lens.fst _ _) Oxm.Field (fun x y => { x with Field := y }) (fun _ => rfl) (fun _ _ => rfl)
def Zn9 : Lens Z1v Z6 := Lens.iso (k := (Z2 (Z0 .i64) (Z2 Z6 (Z2 Ze Ze)))) (Lens.comp (Lens.snd _ _) (Lens.fst _ _)) Oxm.Masked (fun x y => { x with Masked := y }) (fun _ => rfl) (fun _ _ => rfl)
def Zfp : Lens Z1v Ze := Lens.iso (k := (Z2 (Z0 .i64) (Z2 Z6 (Z2 Ze Ze)))) (Lens.comp (Lens.comp (Lens.snd _ _) (Lens.snd _ _)) (Lens.fst _ _)) Oxm.Value (fun x y => { x with Value := y }) (fun _ => rfl) (fun _ _ => rfl)
def Zn8 : Lens Z1v Ze := Lens.iso (k := (Z2 (Z0 .i64) (Z2 Z6 (Z2 Ze Ze)))) (Lens.comp (Lens.comp (Lens.snd _ _) (Lens.snd _ _)) (Lens.snd _ _)) Oxm.Mask (fun x y => { x with Mask := y }) (fun _ => rfl) (fun _ _ => rfl)
def Z6l : Oxm := ⟨0, false, Z0e, Z0e⟩
def Zos : List Value := ([.int .i64 0] ++ ([.bool false] ++ (Z5n ++ Z5n)))
theorem Zn3 : KZ Z1v Z6l Zos := Z1i (Z07 Z0t (Z07 Z5z (Z07 Z4w Z4w)))
structure Action where
 Kind : Int
 Port : Int
 Max : Int
 Group : Int
 Ether : Int
 Oxm : Oxm
 deriving DecidableEq, Inhabited
def Z8 : Kd Action := Z0g (Z2 (Z0 .i64) (Z2 (Z0 .i64) (Z2 (Z0 .i64) (Z2 (Z0 .i64) (Z2 (Z0 .i64) Z1v))))) (fun x => (x.Kind, (x.Port, (x.Max, (x.Group, (x.Ether, x.Oxm))))))
instance : PureK Z8 := inferInstanceAs (PureK (Z0g (Z2 (Z0 .i64) (Z2 (Z0 .i64) (Z2 (Z0 .i64) (Z2 (Z0 .i64) (Z2 (Z0 .i64) Z1v))))) (fun (x : Action) => (x.Kind, (x.Port, (x.Max, (x.Group, (x.Ether, x.Oxm))))))))
def lAction_0 : Lens Z8 (Z0 .i64) := Lens.iso (k := (Z2 (Z0 .i64) (Z2 (Z0 .i64) (Z2 (Z0 .i64) (Z2 (Z0 .i64) (Z2 (Z0 .i64) Z1v)))))) (Lens.fst _ _) Action.Kind (fun x y => { x with Kind := y }) (fun _ => rfl) (fun _ _ => rfl)
def lAction_1 : Lens Z8 (Z0 .i64) := Lens.iso (k := (Z2 (Z0 .i64) (Z2 (Z0 .i64) (Z2 (Z0 .i64) (Z2 (Z0 .i64) (Z2 (Z0 .i64) Z1v)))))) (Lens.comp (Lens.snd _ _) (Lens.fst _ _)) Action.Port (fun x y => { x with Port := y }) (fun _ => rfl) (fun _ _ => rfl)
def Zn1 : Lens Z8 (Z0 .i64) := Lens.iso (k := (Z2 (Z0 .i64) (Z2 (Z0 .i64) (Z2 (Z0 .i64) (Z2 (Z0 .i64) (Z2 (Z0 .i64) Z1v)))))) (Lens.comp (Lens.comp (Lens.snd _ _) (Lens.snd _ _)) (Lens.fst _ _)) Action.Max (fun x y => { x with Max := y }) (fun _ => rfl) (fun _ _ => rfl)
def Znl : Lens Z8 (Z0 .i64) := Lens.iso (k := (Z2 (Z0 .i64) (Z2 (Z0 .i64) (Z2 (Z0 .i64) (Z2 (Z0 .i64) (Z2 (Z0 .i64) Z1v)))))) (Lens.comp (Lens.comp (Lens.comp (Lens.snd _ _) (Lens.snd _ _)) (Lens.snd _ _)) (Lens.fst _ _)) Action.Group (fun x y => { x with Group := y }) (fun _ => rfl) (fun _ _ => rfl)
def Zdb : Lens Z8 Z1v := Lens.iso (k := (Z2 (Z0 .i64) (Z2 (Z0 .i64) (Z2 (Z0 .i64) (Z2 (Z0 .i64) (Z2 (Z0 .i64) Z1v)))))) (Lens.comp (Lens.comp (Lens.comp (Lens.comp (Lens.snd _ _) (Lens.snd _ _)) (Lens.snd _ _)) (Lens.snd _ _)) (Lens.snd _ _)) Action.Oxm (fun x y => { x with Oxm := y }) (fun _ => rfl) (fun _ _ => rfl)
def Zhb : Action := ⟨0, 0, 0, 0, 0, Z6l⟩
def Y2o : List Value := ([.int .i64 0] ++ ([.int .i64 0] ++ ([.int .i64 0] ++ ([.int .i64 0] ++ ([.int .i64 0] ++ Zos)))))
theorem Zt2 : KZ Z8 Zhb Y2o := Z1i (Z07 Z0t (Z07 Z0t (Z07 Z0t (Z07 Z0t (Z07 Z0t Zn3)))))
structure Inst where
 Kind : Int
 Table : Int
 Value : Wide
 Mask : Wide
 Acts : (List Action)
 deriving DecidableEq, Inhabited
def Z1h : Kd Inst := Z0g (Z2 (Z0 .i64) (Z2 (Z0 .i64) (Z2 Ze (Z2 Ze (Z4 Z8))))) (fun x => (x.Kind, (x.Table, (x.Value, (x.Mask, x.Acts)))))
def lInst_0 : Lens Z1h (Z0 .i64) := Lens.iso (k := (Z2 (Z0 .i64) (Z2 (Z0 .i64) (Z2 Ze (Z2 Ze (Z4 Z8)))))) (Lens.fst _ _) Inst.Kind (fun x y => { x with Kind := y }) (fun _ => rfl) (fun _ _ => rfl)
def Ze5 : Lens Z1h (Z0 .i64) := Lens.iso (k := (Z2 (Z0 .i64) (Z2 (Z0 .i64) (Z2 Ze (Z2 Ze (Z4 Z8)))))) (Lens.comp (Lens.snd _ _) (Lens.fst _ _)) Inst.Table (fun x y => { x with Table := y }) (fun _ => rfl) (fun _ _ => rfl)
def Zph : Lens Z1h Ze := Lens.iso (k := (Z2 (Z0 .i64) (Z2 (Z0 .i64) (Z2 Ze (Z2 Ze (Z4 Z8)))))) (Lens.comp (Lens.comp (Lens.snd _ _) (Lens.snd _ _)) (Lens.fst _ _)) Inst.Value (fun x y => { x with Value := y }) (fun _ => rfl) (fun _ _ => rfl)
def Zk7 : Lens Z1h Ze := Lens.iso (k := (Z2 (Z0 .i64) (Z2 (Z0 .i64) (Z2 Ze (Z2 Ze (Z4 Z8)))))) (Lens.comp (Lens.comp (Lens.comp (Lens.snd _ _) (Lens.snd _ _)) (Lens.snd _ _)) (Lens.fst _ _)) Inst.Mask (fun x y => { x with Mask := y }) (fun _ => rfl) (fun _ _ => rfl)
def lInst_4 : Lens Z1h (Z4 Z8) := Lens.iso (k := (Z2 (Z0 .i64) (Z2 (Z0 .i64) (Z2 Ze (Z2 Ze (Z4 Z8)))))) (Lens.comp (Lens.comp (Lens.comp (Lens.snd _ _) (Lens.snd _ _)) (Lens.snd _ _)) (Lens.snd _ _)) Inst.Acts (fun x y => { x with Acts := y }) (fun _ => rfl) (fun _ _ => rfl)
def Zon : Inst := ⟨0, 0, Z0e, Z0e, []⟩
def Zvl : List Value := ([.int .i64 0] ++ ([.int .i64 0] ++ (Z5n ++ (Z5n ++ [.slice none 0 0]))))
theorem Y21 : KZ Z1h Zon Zvl := Z1i (Z07 Z0t (Z07 Z0t (Z07 Z4w (Z07 Z4w (Z2l _)))))
structure Flow where
 Cookie : (BitVec 64)
 Priority : Int
 Idle : Int
 Hard : Int
 Flags : Int
 Match : (List Oxm)
 Insts : (List Inst)
 deriving DecidableEq, Inhabited
def Z2d : Kd Flow := Z0g (Z2 Z0a (Z2 (Z0 .i64) (Z2 (Z0 .i64) (Z2 (Z0 .i64) (Z2 (Z0 .i64) (Z2 (Z4 Z1v) (Z4 Z1h))))))) (fun x => (x.Cookie, (x.Priority, (x.Idle, (x.Hard, (x.Flags, (x.Match, x.Insts)))))))
def Z8a : Lens Z2d (Z0 .i64) := Lens.iso (k := (Z2 Z0a (Z2 (Z0 .i64) (Z2 (Z0 .i64) (Z2 (Z0 .i64) (Z2 (Z0 .i64) (Z2 (Z4 Z1v) (Z4 Z1h)))))))) (Lens.comp (Lens.snd _ _) (Lens.fst _ _)) Flow.Priority (fun x y => { x with Priority := y }) (fun _ => rfl) (fun _ _ => rfl)
def Zk4 : Lens Z2d (Z4 Z1v) := Lens.iso (k := (Z2 Z0a (Z2 (Z0 .i64) (Z2 (Z0 .i64) (Z2 (Z0 .i64) (Z2 (Z0 .i64) (Z2 (Z4 Z1v) (Z4 Z1h)))))))) (Lens.comp (Lens.comp (Lens.comp (Lens.comp (Lens.comp (Lens.snd _ _) (Lens.snd _ _)) (Lens.snd _ _)) (Lens.snd _ _)) (Lens.snd _ _)) (Lens.fst _ _)) Flow.Match (fun x y => { x with Match := y }) (fun _ => rfl) (fun _ _ => rfl)
def lFlow_6 : Lens Z2d (Z4 Z1h) := Lens.iso (k := (Z2 Z0a (Z2 (Z0 .i64) (Z2 (Z0 .i64) (Z2 (Z0 .i64) (Z2 (Z0 .i64) (Z2 (Z4 Z1v) (Z4 Z1h)))))))) (Lens.comp (Lens.comp (Lens.comp (Lens.comp (Lens.comp (Lens.snd _ _) (Lens.snd _ _)) (Lens.snd _ _)) (Lens.snd _ _)) (Lens.snd _ _)) (Lens.snd _ _)) Flow.Insts (fun x y => { x with Insts := y }) (fun _ => rfl) (fun _ _ => rfl)
def Zjo : Flow := ⟨0, 0, 0, 0, 0, [], []⟩
def Y1a : List Value := ([.int .u64 0] ++ ([.int .i64 0] ++ ([.int .i64 0] ++ ([.int .i64 0] ++ ([.int .i64 0] ++ ([.slice none 0 0] ++ [.slice none 0 0]))))))
theorem Y1q : KZ Z2d Zjo Y1a := Z1i (Z07 Zbl (Z07 Z0t (Z07 Z0t (Z07 Z0t (Z07 Z0t (Z07 (Z2l _) (Z2l _)))))))
abbrev Zqj := Vector (List Flow) 4
structure Bucket where
 Weight : Int
 Watch : Int
 WatchGroup : Int
 Acts : (List Action)
 deriving DecidableEq, Inhabited
def Z1w : Kd Bucket := Z0g (Z2 (Z0 .i64) (Z2 (Z0 .i64) (Z2 (Z0 .i64) (Z4 Z8)))) (fun x => (x.Weight, (x.Watch, (x.WatchGroup, x.Acts))))
def Zkf : Lens Z1w (Z0 .i64) := Lens.iso (k := (Z2 (Z0 .i64) (Z2 (Z0 .i64) (Z2 (Z0 .i64) (Z4 Z8))))) (Lens.comp (Lens.snd _ _) (Lens.fst _ _)) Bucket.Watch (fun x y => { x with Watch := y }) (fun _ => rfl) (fun _ _ => rfl)
def Zbv : Lens Z1w (Z4 Z8) := Lens.iso (k := (Z2 (Z0 .i64) (Z2 (Z0 .i64) (Z2 (Z0 .i64) (Z4 Z8))))) (Lens.comp (Lens.comp (Lens.snd _ _) (Lens.snd _ _)) (Lens.snd _ _)) Bucket.Acts (fun x y => { x with Acts := y }) (fun _ => rfl) (fun _ _ => rfl)
def Zn2 : Bucket := ⟨0, 0, 0, []⟩
def Y0c : List Value := ([.int .i64 0] ++ ([.int .i64 0] ++ ([.int .i64 0] ++ [.slice none 0 0])))
theorem Y26 : KZ Z1w Zn2 Y0c := Z1i (Z07 Z0t (Z07 Z0t (Z07 Z0t (Z2l _))))
structure Group where
 ID : Int
 Kind : Int
 Buckets : (List Bucket)
 deriving DecidableEq, Inhabited
def Z0b : Kd Group := Z0g (Z2 (Z0 .i64) (Z2 (Z0 .i64) (Z4 Z1w))) (fun x => (x.ID, (x.Kind, x.Buckets)))
def Zez : Lens Z0b (Z0 .i64) := Lens.iso (k := (Z2 (Z0 .i64) (Z2 (Z0 .i64) (Z4 Z1w)))) (Lens.fst _ _) Group.ID (fun x y => { x with ID := y }) (fun _ => rfl) (fun _ _ => rfl)
def Zjt : Lens Z0b (Z0 .i64) := Lens.iso (k := (Z2 (Z0 .i64) (Z2 (Z0 .i64) (Z4 Z1w)))) (Lens.comp (Lens.snd _ _) (Lens.fst _ _)) Group.Kind (fun x y => { x with Kind := y }) (fun _ => rfl) (fun _ _ => rfl)
def Z53 : Lens Z0b (Z4 Z1w) := Lens.iso (k := (Z2 (Z0 .i64) (Z2 (Z0 .i64) (Z4 Z1w)))) (Lens.comp (Lens.snd _ _) (Lens.snd _ _)) Group.Buckets (fun x y => { x with Buckets := y }) (fun _ => rfl) (fun _ _ => rfl)
def Zcp : Group := ⟨0, 0, []⟩
def Zmx : List Value := ([.int .i64 0] ++ ([.int .i64 0] ++ [.slice none 0 0]))
theorem Zoj : KZ Z0b Zcp Zmx := Z1i (Z07 Z0t (Z07 Z0t (Z2l _)))
structure Switch where
 Tables : Zqj
 Groups : (List Group)
 deriving DecidableEq, Inhabited
def Z0s : Kd Switch := Z0g (Z2 (Z1 4 (Z4 Z2d)) (Z4 Z0b)) (fun x => (x.Tables, x.Groups))
def Zcj : Lens Z0s (Z1 4 (Z4 Z2d)) := Lens.iso (k := (Z2 (Z1 4 (Z4 Z2d)) (Z4 Z0b))) (Lens.fst _ _) Switch.Tables (fun x y => { x with Tables := y }) (fun _ => rfl) (fun _ _ => rfl)
def Zno : Lens Z0s (Z4 Z0b) := Lens.iso (k := (Z2 (Z1 4 (Z4 Z2d)) (Z4 Z0b))) (Lens.snd _ _) Switch.Groups (fun x y => { x with Groups := y }) (fun _ => rfl) (fun _ _ => rfl)
def Zh6 : Switch := ⟨(Vector.replicate 4 []), []⟩
def Zz6 : List Value := ((List.replicate 4 [.slice none 0 0]).flatten ++ [.slice none 0 0])
theorem Zkk : KZ Z0s Zh6 Zz6 := Z1i (Z07 (Z2t 4 (Z2l _)) (Z2l _))
structure field_row where
 name : ByteArray
 id : Int
 bits : Int
 masks : Bool
 deriving DecidableEq, Inhabited
def Z0x : Kd field_row := Z0g (Z2 Z49 (Z2 (Z0 .i64) (Z2 (Z0 .i64) Z6))) (fun x => (x.name, (x.id, (x.bits, x.masks))))
instance : PureK Z0x := inferInstanceAs (PureK (Z0g (Z2 Z49 (Z2 (Z0 .i64) (Z2 (Z0 .i64) Z6))) (fun (x : field_row) => (x.name, (x.id, (x.bits, x.masks))))))
def Z20 : Lens Z0x Z49 := Lens.iso (k := (Z2 Z49 (Z2 (Z0 .i64) (Z2 (Z0 .i64) Z6)))) (Lens.fst _ _) field_row.name (fun x y => { x with name := y }) (fun _ => rfl) (fun _ _ => rfl)
def lfield_row_1 : Lens Z0x (Z0 .i64) := Lens.iso (k := (Z2 Z49 (Z2 (Z0 .i64) (Z2 (Z0 .i64) Z6)))) (Lens.comp (Lens.snd _ _) (Lens.fst _ _)) field_row.id (fun x y => { x with id := y }) (fun _ => rfl) (fun _ _ => rfl)
def Z1s : Lens Z0x (Z0 .i64) := Lens.iso (k := (Z2 Z49 (Z2 (Z0 .i64) (Z2 (Z0 .i64) Z6)))) (Lens.comp (Lens.comp (Lens.snd _ _) (Lens.snd _ _)) (Lens.fst _ _)) field_row.bits (fun x y => { x with bits := y }) (fun _ => rfl) (fun _ _ => rfl)
def Z21 : Lens Z0x Z6 := Lens.iso (k := (Z2 Z49 (Z2 (Z0 .i64) (Z2 (Z0 .i64) Z6)))) (Lens.comp (Lens.comp (Lens.snd _ _) (Lens.snd _ _)) (Lens.snd _ _)) field_row.masks (fun x y => { x with masks := y }) (fun _ => rfl) (fun _ _ => rfl)
def Z8i : field_row := ⟨(⟨#[]⟩ : ByteArray), 0, 0, false⟩
def Y1f : List Value := ([.string ⟨#[]⟩] ++ ([.int .i64 0] ++ ([.int .i64 0] ++ [.bool false])))
theorem Zpg : KZ Z0x Z8i Y1f := Z1i (Z07 Y0f (Z07 Z0t (Z07 Z0t Z5z)))
abbrev Zzy := Vector field_row 24
structure Atom where
 Rewrite : Zg
 Group : Bool
 Port : Int
 Max : Int
 deriving DecidableEq, Inhabited
def Z04 : Kd Atom := Z0g (Z2 (Z1 24 Z3) (Z2 Z6 (Z2 (Z0 .i64) (Z0 .i64)))) (fun x => (x.Rewrite, (x.Group, (x.Port, x.Max))))
instance : PureK Z04 := inferInstanceAs (PureK (Z0g (Z2 (Z1 24 Z3) (Z2 Z6 (Z2 (Z0 .i64) (Z0 .i64)))) (fun (x : Atom) => (x.Rewrite, (x.Group, (x.Port, x.Max))))))
def lAtom_0 : Lens Z04 (Z1 24 Z3) := Lens.iso (k := (Z2 (Z1 24 Z3) (Z2 Z6 (Z2 (Z0 .i64) (Z0 .i64))))) (Lens.fst _ _) Atom.Rewrite (fun x y => { x with Rewrite := y }) (fun _ => rfl) (fun _ _ => rfl)
def Zgv : Lens Z04 Z6 := Lens.iso (k := (Z2 (Z1 24 Z3) (Z2 Z6 (Z2 (Z0 .i64) (Z0 .i64))))) (Lens.comp (Lens.snd _ _) (Lens.fst _ _)) Atom.Group (fun x y => { x with Group := y }) (fun _ => rfl) (fun _ _ => rfl)
def Z77 : Lens Z04 (Z0 .i64) := Lens.iso (k := (Z2 (Z1 24 Z3) (Z2 Z6 (Z2 (Z0 .i64) (Z0 .i64))))) (Lens.comp (Lens.comp (Lens.snd _ _) (Lens.snd _ _)) (Lens.fst _ _)) Atom.Port (fun x y => { x with Port := y }) (fun _ => rfl) (fun _ _ => rfl)
def Zj2 : Lens Z04 (Z0 .i64) := Lens.iso (k := (Z2 (Z1 24 Z3) (Z2 Z6 (Z2 (Z0 .i64) (Z0 .i64))))) (Lens.comp (Lens.comp (Lens.snd _ _) (Lens.snd _ _)) (Lens.snd _ _)) Atom.Max (fun x y => { x with Max := y }) (fun _ => rfl) (fun _ _ => rfl)
def Zpf : Atom := ⟨(Vector.replicate 24 Z0n), false, 0, 0⟩
def Zzj : List Value := ((List.replicate 24 Z4h).flatten ++ ([.bool false] ++ ([.int .i64 0] ++ [.int .i64 0])))
theorem Ztf : KZ Z04 Zpf Zzj := Z1i (Z07 (Z2t 24 Z3f) (Z07 Z5z (Z07 Z0t Z0t)))
structure walk_way where
 cube : Zg
 got : Zg
 atoms : (List Atom)
 set : (List Action)
 deriving DecidableEq, Inhabited
def Z0u : Kd walk_way := Z0g (Z2 (Z1 24 Z3) (Z2 (Z1 24 Z3) (Z2 (Z4 Z04) (Z4 Z8)))) (fun x => (x.cube, (x.got, (x.atoms, x.set))))
def lwalk_way_0 : Lens Z0u (Z1 24 Z3) := Lens.iso (k := (Z2 (Z1 24 Z3) (Z2 (Z1 24 Z3) (Z2 (Z4 Z04) (Z4 Z8))))) (Lens.fst _ _) walk_way.cube (fun x y => { x with cube := y }) (fun _ => rfl) (fun _ _ => rfl)
def lwalk_way_1 : Lens Z0u (Z1 24 Z3) := Lens.iso (k := (Z2 (Z1 24 Z3) (Z2 (Z1 24 Z3) (Z2 (Z4 Z04) (Z4 Z8))))) (Lens.comp (Lens.snd _ _) (Lens.fst _ _)) walk_way.got (fun x y => { x with got := y }) (fun _ => rfl) (fun _ _ => rfl)
def Z7x : Lens Z0u (Z4 Z04) := Lens.iso (k := (Z2 (Z1 24 Z3) (Z2 (Z1 24 Z3) (Z2 (Z4 Z04) (Z4 Z8))))) (Lens.comp (Lens.comp (Lens.snd _ _) (Lens.snd _ _)) (Lens.fst _ _)) walk_way.atoms (fun x y => { x with atoms := y }) (fun _ => rfl) (fun _ _ => rfl)
def Z8x : Lens Z0u (Z4 Z8) := Lens.iso (k := (Z2 (Z1 24 Z3) (Z2 (Z1 24 Z3) (Z2 (Z4 Z04) (Z4 Z8))))) (Lens.comp (Lens.comp (Lens.snd _ _) (Lens.snd _ _)) (Lens.snd _ _)) walk_way.set (fun x y => { x with set := y }) (fun _ => rfl) (fun _ _ => rfl)
def Z7a : walk_way := ⟨(Vector.replicate 24 Z0n), (Vector.replicate 24 Z0n), [], []⟩
def Zqb : List Value := ((List.replicate 24 Z4h).flatten ++ ((List.replicate 24 Z4h).flatten ++ ([.slice none 0 0] ++ [.slice none 0 0])))
theorem Y2s : KZ Z0u Z7a Zqb := Z1i (Z07 (Z2t 24 Z3f) (Z07 (Z2t 24 Z3f) (Z07 (Z2l _) (Z2l _))))
structure Z3b where
 got : Zg
 atoms : (List Atom)
 deriving DecidableEq, Inhabited
structure atom_trace_o1 where
 got : Zg
 atoms : Value
def Z2z : Kd atom_trace_o1 := Z0g (Z2 (Z1 24 Z3) kraw) (fun x => (x.got, x.atoms))
def latom_trace_o1_0 : Lens Z2z (Z1 24 Z3) := Lens.iso (k := (Z2 (Z1 24 Z3) kraw)) (Lens.fst _ _) atom_trace_o1.got (fun x y => { x with got := y }) (fun _ => rfl) (fun _ _ => rfl)
def Zak : Lens Z2z kraw := Lens.iso (k := (Z2 (Z1 24 Z3) kraw)) (Lens.snd _ _) atom_trace_o1.atoms (fun x y => { x with atoms := y }) (fun _ => rfl) (fun _ _ => rfl)
def Zp6 : atom_trace_o1 := ⟨(Vector.replicate 24 Z0n), (.slice none 0 0)⟩
theorem Zr4 : KZ Z2z Zp6 ((List.replicate 24 Z4h).flatten ++ [.slice none 0 0]) := Z1i (Z07 (Z2t 24 Z3f) (Zen rfl))
structure aset_spot where
 kind : Int
 field : Int
 deriving DecidableEq, Inhabited
def Z3j : Kd aset_spot := Z0g (Z2 (Z0 .i64) (Z0 .i64)) (fun x => (x.kind, x.field))
instance : PureK Z3j := inferInstanceAs (PureK (Z0g (Z2 (Z0 .i64) (Z0 .i64)) (fun (x : aset_spot) => (x.kind, x.field))))
def laset_spot_0 : Lens Z3j (Z0 .i64) := Lens.iso (k := (Z2 (Z0 .i64) (Z0 .i64))) (Lens.fst _ _) aset_spot.kind (fun x y => { x with kind := y }) (fun _ => rfl) (fun _ _ => rfl)
def laset_spot_1 : Lens Z3j (Z0 .i64) := Lens.iso (k := (Z2 (Z0 .i64) (Z0 .i64))) (Lens.snd _ _) aset_spot.field (fun x y => { x with field := y }) (fun _ => rfl) (fun _ _ => rfl)
def Zcb : aset_spot := ⟨0, 0⟩
def Zsc : List Value := ([.int .i64 0] ++ [.int .i64 0])
theorem Zwv : KZ Z3j Zcb Zsc := Z1i (Z07 Z0t Z0t)
structure Rule where
 Cube : Zg
 Atoms : (List Atom)
 deriving DecidableEq, Inhabited
def Z02 : Kd Rule := Z0g (Z2 (Z1 24 Z3) (Z4 Z04)) (fun x => (x.Cube, x.Atoms))
def lRule_0 : Lens Z02 (Z1 24 Z3) := Lens.iso (k := (Z2 (Z1 24 Z3) (Z4 Z04))) (Lens.fst _ _) Rule.Cube (fun x y => { x with Cube := y }) (fun _ => rfl) (fun _ _ => rfl)
def lRule_1 : Lens Z02 (Z4 Z04) := Lens.iso (k := (Z2 (Z1 24 Z3) (Z4 Z04))) (Lens.snd _ _) Rule.Atoms (fun x y => { x with Atoms := y }) (fun _ => rfl) (fun _ _ => rfl)
def Zkl : Rule := ⟨(Vector.replicate 24 Z0n), []⟩
def Zua : List Value := ((List.replicate 24 Z4h).flatten ++ [.slice none 0 0])
theorem Ztu : KZ Z02 Zkl Zua := Z1i (Z07 (Z2t 24 Z3f) (Z2l _))
structure cover_purse where
 left : Int
 free : Bool
 deriving DecidableEq, Inhabited
def Z3d : Kd cover_purse := Z0g (Z2 (Z0 .i64) Z6) (fun x => (x.left, x.free))
instance : PureK Z3d := inferInstanceAs (PureK (Z0g (Z2 (Z0 .i64) Z6) (fun (x : cover_purse) => (x.left, x.free))))
def lcover_purse_0 : Lens Z3d (Z0 .i64) := Lens.iso (k := (Z2 (Z0 .i64) Z6)) (Lens.fst _ _) cover_purse.left (fun x y => { x with left := y }) (fun _ => rfl) (fun _ _ => rfl)
def lcover_purse_1 : Lens Z3d Z6 := Lens.iso (k := (Z2 (Z0 .i64) Z6)) (Lens.snd _ _) cover_purse.free (fun x y => { x with free := y }) (fun _ => rfl) (fun _ _ => rfl)
def Zfe : cover_purse := ⟨0, false⟩
def Zpj : List Value := ([.int .i64 0] ++ [.bool false])
theorem Zl8 : KZ Z3d Zfe Zpj := Z1i (Z07 Z0t Z5z)
structure cover_look where
 purse : cover_purse
 deriving DecidableEq, Inhabited
def Z14 : Kd cover_look := Z0g Z3d (fun x => x.purse)
instance : PureK Z14 := inferInstanceAs (PureK (Z0g Z3d (fun (x : cover_look) => x.purse)))
def lcover_look_0 : Lens Z14 Z3d := Lens.iso (k := Z3d) (Lens.id _) cover_look.purse (fun x y => { x with purse := y }) (fun _ => rfl) (fun _ _ => rfl)
def Zmf : cover_look := ⟨Zfe⟩
def Zym : List Value := Zpj
theorem Zw4 : KZ Z14 Zmf Zym := Z1i Zl8
structure Flat where
 Rules : (List Rule)
 Groups : (List Group)
 deriving DecidableEq, Inhabited
def Z2y : Kd Flat := Z0g (Z2 (Z4 Z02) (Z4 Z0b)) (fun x => (x.Rules, x.Groups))
def lFlat_0 : Lens Z2y (Z4 Z02) := Lens.iso (k := (Z2 (Z4 Z02) (Z4 Z0b))) (Lens.fst _ _) Flat.Rules (fun x y => { x with Rules := y }) (fun _ => rfl) (fun _ _ => rfl)
def lFlat_1 : Lens Z2y (Z4 Z0b) := Lens.iso (k := (Z2 (Z4 Z02) (Z4 Z0b))) (Lens.snd _ _) Flat.Groups (fun x y => { x with Groups := y }) (fun _ => rfl) (fun _ _ => rfl)
def Zhs : Flat := ⟨[], []⟩
def Zki : List Value := ([.slice none 0 0] ++ [.slice none 0 0])
theorem Zms : KZ Z2y Zhs Zki := Z1i (Z07 (Z2l _) (Z2l _))
structure Z30 where
 cubes : (List Zg)
 most : Int
 deriving DecidableEq, Inhabited
structure slice_heap_o0 where
 cubes : Value
 most : Int
def Z11 : Kd slice_heap_o0 := Z0g (Z2 kraw (Z0 .i64)) (fun x => (x.cubes, x.most))
def lslice_heap_o0_0 : Lens Z11 kraw := Lens.iso (k := (Z2 kraw (Z0 .i64))) (Lens.fst _ _) slice_heap_o0.cubes (fun x y => { x with cubes := y }) (fun _ => rfl) (fun _ _ => rfl)
def lslice_heap_o0_1 : Lens Z11 (Z0 .i64) := Lens.iso (k := (Z2 kraw (Z0 .i64))) (Lens.snd _ _) slice_heap_o0.most (fun x y => { x with most := y }) (fun _ => rfl) (fun _ _ => rfl)
def Zoi : slice_heap_o0 := ⟨(.slice none 0 0), 0⟩
theorem Zxc : KZ Z11 Zoi ([.slice none 0 0] ++ [.int .i64 0]) := Z1i (Z07 (Zen rfl) Z0t)
structure spread_table where
 Flat : Flat
 cubes : (List (List Zg))
 deriving DecidableEq, Inhabited
def Z1q : Kd spread_table := Z0g (Z2 Z2y (Z4 (Z4 (Z1 24 Z3)))) (fun x => (x.Flat, x.cubes))
def lspread_table_0 : Lens Z1q Z2y := Lens.iso (k := (Z2 Z2y (Z4 (Z4 (Z1 24 Z3))))) (Lens.fst _ _) spread_table.Flat (fun x y => { x with Flat := y }) (fun _ => rfl) (fun _ _ => rfl)
def lspread_table_1 : Lens Z1q (Z4 (Z4 (Z1 24 Z3))) := Lens.iso (k := (Z2 Z2y (Z4 (Z4 (Z1 24 Z3))))) (Lens.snd _ _) spread_table.cubes (fun x y => { x with cubes := y }) (fun _ => rfl) (fun _ _ => rfl)
def Zo6 : spread_table := ⟨Zhs, []⟩
def Y23 : List Value := (Zki ++ [.slice none 0 0])
theorem Y2f : KZ Z1q Zo6 Y23 := Z1i (Z07 Zms (Z2l _))
structure Link where
 From : Int
 Out : Int
 To : Int
 In : Int
 deriving DecidableEq, Inhabited
def Z2a : Kd Link := Z0g (Z2 (Z0 .i64) (Z2 (Z0 .i64) (Z2 (Z0 .i64) (Z0 .i64)))) (fun x => (x.From, (x.Out, (x.To, x.In))))
instance : PureK Z2a := inferInstanceAs (PureK (Z0g (Z2 (Z0 .i64) (Z2 (Z0 .i64) (Z2 (Z0 .i64) (Z0 .i64)))) (fun (x : Link) => (x.From, (x.Out, (x.To, x.In))))))
def lLink_0 : Lens Z2a (Z0 .i64) := Lens.iso (k := (Z2 (Z0 .i64) (Z2 (Z0 .i64) (Z2 (Z0 .i64) (Z0 .i64))))) (Lens.fst _ _) Link.From (fun x y => { x with From := y }) (fun _ => rfl) (fun _ _ => rfl)
def lLink_1 : Lens Z2a (Z0 .i64) := Lens.iso (k := (Z2 (Z0 .i64) (Z2 (Z0 .i64) (Z2 (Z0 .i64) (Z0 .i64))))) (Lens.comp (Lens.snd _ _) (Lens.fst _ _)) Link.Out (fun x y => { x with Out := y }) (fun _ => rfl) (fun _ _ => rfl)
def lLink_2 : Lens Z2a (Z0 .i64) := Lens.iso (k := (Z2 (Z0 .i64) (Z2 (Z0 .i64) (Z2 (Z0 .i64) (Z0 .i64))))) (Lens.comp (Lens.comp (Lens.snd _ _) (Lens.snd _ _)) (Lens.fst _ _)) Link.To (fun x y => { x with To := y }) (fun _ => rfl) (fun _ _ => rfl)
def lLink_3 : Lens Z2a (Z0 .i64) := Lens.iso (k := (Z2 (Z0 .i64) (Z2 (Z0 .i64) (Z2 (Z0 .i64) (Z0 .i64))))) (Lens.comp (Lens.comp (Lens.snd _ _) (Lens.snd _ _)) (Lens.snd _ _)) Link.In (fun x y => { x with In := y }) (fun _ => rfl) (fun _ _ => rfl)
def Zjn : Link := ⟨0, 0, 0, 0⟩
def Zx7 : List Value := ([.int .i64 0] ++ ([.int .i64 0] ++ ([.int .i64 0] ++ [.int .i64 0])))
theorem Zro : KZ Z2a Zjn Zx7 := Z1i (Z07 Z0t (Z07 Z0t (Z07 Z0t Z0t)))
structure Net where
 Switches : (List Switch)
 Links : (List Link)
 deriving DecidableEq, Inhabited
def Z2j : Kd Net := Z0g (Z2 (Z4 Z0s) (Z4 Z2a)) (fun x => (x.Switches, x.Links))
def lNet_0 : Lens Z2j (Z4 Z0s) := Lens.iso (k := (Z2 (Z4 Z0s) (Z4 Z2a))) (Lens.fst _ _) Net.Switches (fun x y => { x with Switches := y }) (fun _ => rfl) (fun _ _ => rfl)
def lNet_1 : Lens Z2j (Z4 Z2a) := Lens.iso (k := (Z2 (Z4 Z0s) (Z4 Z2a))) (Lens.snd _ _) Net.Links (fun x y => { x with Links := y }) (fun _ => rfl) (fun _ _ => rfl)
def Zhi : Net := ⟨[], []⟩
def Zlh : List Value := ([.slice none 0 0] ++ [.slice none 0 0])
theorem Zjp : KZ Z2j Zhi Zlh := Z1i (Z07 (Z2l _) (Z2l _))
structure spread_beam where
 cube : Zg
 got : Zg
 deriving DecidableEq, Inhabited
def Z1x : Kd spread_beam := Z0g (Z2 (Z1 24 Z3) (Z1 24 Z3)) (fun x => (x.cube, x.got))
instance : PureK Z1x := inferInstanceAs (PureK (Z0g (Z2 (Z1 24 Z3) (Z1 24 Z3)) (fun (x : spread_beam) => (x.cube, x.got))))
def lspread_beam_0 : Lens Z1x (Z1 24 Z3) := Lens.iso (k := (Z2 (Z1 24 Z3) (Z1 24 Z3))) (Lens.fst _ _) spread_beam.cube (fun x y => { x with cube := y }) (fun _ => rfl) (fun _ _ => rfl)
def lspread_beam_1 : Lens Z1x (Z1 24 Z3) := Lens.iso (k := (Z2 (Z1 24 Z3) (Z1 24 Z3))) (Lens.snd _ _) spread_beam.got (fun x y => { x with got := y }) (fun _ => rfl) (fun _ _ => rfl)
def Zns : spread_beam := ⟨(Vector.replicate 24 Z0n), (Vector.replicate 24 Z0n)⟩
def Zpr : List Value := ((List.replicate 24 Z4h).flatten ++ (List.replicate 24 Z4h).flatten)
theorem Zu4 : KZ Z1x Zns Zpr := Z1i (Z07 (Z2t 24 Z3f) (Z2t 24 Z3f))
structure Env where
 Turn : Int
 Down : (List Int)
 deriving DecidableEq, Inhabited
def Z1j : Kd Env := Z0g (Z2 (Z0 .i64) (Z4 (Z0 .i64))) (fun x => (x.Turn, x.Down))
def Zp4 : Lens Z1j (Z0 .i64) := Lens.iso (k := (Z2 (Z0 .i64) (Z4 (Z0 .i64)))) (Lens.fst _ _) Env.Turn (fun x y => { x with Turn := y }) (fun _ => rfl) (fun _ _ => rfl)
def Zkn : Lens Z1j (Z4 (Z0 .i64)) := Lens.iso (k := (Z2 (Z0 .i64) (Z4 (Z0 .i64)))) (Lens.snd _ _) Env.Down (fun x y => { x with Down := y }) (fun _ => rfl) (fun _ _ => rfl)
def Z9k : Env := ⟨0, []⟩
def Zcq : List Value := ([.int .i64 0] ++ [.slice none 0 0])
theorem Zbo : KZ Z1j Z9k Zcq := Z1i (Z07 Z0t (Z2l _))
structure env_world where
 Env : Env
 Group : Group
 deriving DecidableEq, Inhabited
def Z5x : Kd env_world := Z0g (Z2 Z1j Z0b) (fun x => (x.Env, x.Group))
def lenv_world_0 : Lens Z5x Z1j := Lens.iso (k := (Z2 Z1j Z0b)) (Lens.fst _ _) env_world.Env (fun x y => { x with Env := y }) (fun _ => rfl) (fun _ _ => rfl)
def lenv_world_1 : Lens Z5x Z0b := Lens.iso (k := (Z2 Z1j Z0b)) (Lens.snd _ _) env_world.Group (fun x y => { x with Group := y }) (fun _ => rfl) (fun _ _ => rfl)
def Zjs : env_world := ⟨Z9k, Zcp⟩
def Zuk : List Value := (Zcq ++ Zmx)
theorem Ztw : KZ Z5x Zjs Zuk := Z1i (Z07 Zbo Zoj)
structure norm_world where
 Env : Env
 groups : (List Group)
 depth : Int
 deriving DecidableEq, Inhabited
def Z2h : Kd norm_world := Z0g (Z2 Z1j (Z2 (Z4 Z0b) (Z0 .i64))) (fun x => (x.Env, (x.groups, x.depth)))
def lnorm_world_0 : Lens Z2h Z1j := Lens.iso (k := (Z2 Z1j (Z2 (Z4 Z0b) (Z0 .i64)))) (Lens.fst _ _) norm_world.Env (fun x y => { x with Env := y }) (fun _ => rfl) (fun _ _ => rfl)
def lnorm_world_1 : Lens Z2h (Z4 Z0b) := Lens.iso (k := (Z2 Z1j (Z2 (Z4 Z0b) (Z0 .i64)))) (Lens.comp (Lens.snd _ _) (Lens.fst _ _)) norm_world.groups (fun x y => { x with groups := y }) (fun _ => rfl) (fun _ _ => rfl)
def Zbe : Lens Z2h (Z0 .i64) := Lens.iso (k := (Z2 Z1j (Z2 (Z4 Z0b) (Z0 .i64)))) (Lens.comp (Lens.snd _ _) (Lens.snd _ _)) norm_world.depth (fun x y => { x with depth := y }) (fun _ => rfl) (fun _ _ => rfl)
def Zle : norm_world := ⟨Z9k, [], 0⟩
def Zpl : List Value := (Zcq ++ ([.slice none 0 0] ++ [.int .i64 0]))
theorem Zxw : KZ Z2h Zle Zpl := Z1i (Z07 Zbo (Z07 (Z2l _) Z0t))
structure Z08 where
 Net : Net
 env : Env
 tables : (List spread_table)
 most : Int
 rays : (List Ray)
 deriving DecidableEq, Inhabited
structure spread_sun_o4 where
 Net : Net
 env : Env
 tables : (List spread_table)
 most : Int
 rays : Value
def Z0k : Kd spread_sun_o4 := Z0g (Z2 Z2j (Z2 Z1j (Z2 (Z4 Z1q) (Z2 (Z0 .i64) kraw)))) (fun x => (x.Net, (x.env, (x.tables, (x.most, x.rays)))))
def lspread_sun_o4_0 : Lens Z0k Z2j := Lens.iso (k := (Z2 Z2j (Z2 Z1j (Z2 (Z4 Z1q) (Z2 (Z0 .i64) kraw))))) (Lens.fst _ _) spread_sun_o4.Net (fun x y => { x with Net := y }) (fun _ => rfl) (fun _ _ => rfl)
def lspread_sun_o4_1 : Lens Z0k Z1j := Lens.iso (k := (Z2 Z2j (Z2 Z1j (Z2 (Z4 Z1q) (Z2 (Z0 .i64) kraw))))) (Lens.comp (Lens.snd _ _) (Lens.fst _ _)) spread_sun_o4.env (fun x y => { x with env := y }) (fun _ => rfl) (fun _ _ => rfl)
def lspread_sun_o4_2 : Lens Z0k (Z4 Z1q) := Lens.iso (k := (Z2 Z2j (Z2 Z1j (Z2 (Z4 Z1q) (Z2 (Z0 .i64) kraw))))) (Lens.comp (Lens.comp (Lens.snd _ _) (Lens.snd _ _)) (Lens.fst _ _)) spread_sun_o4.tables (fun x y => { x with tables := y }) (fun _ => rfl) (fun _ _ => rfl)
def lspread_sun_o4_3 : Lens Z0k (Z0 .i64) := Lens.iso (k := (Z2 Z2j (Z2 Z1j (Z2 (Z4 Z1q) (Z2 (Z0 .i64) kraw))))) (Lens.comp (Lens.comp (Lens.comp (Lens.snd _ _) (Lens.snd _ _)) (Lens.snd _ _)) (Lens.fst _ _)) spread_sun_o4.most (fun x y => { x with most := y }) (fun _ => rfl) (fun _ _ => rfl)
def Z42 : Lens Z0k kraw := Lens.iso (k := (Z2 Z2j (Z2 Z1j (Z2 (Z4 Z1q) (Z2 (Z0 .i64) kraw))))) (Lens.comp (Lens.comp (Lens.comp (Lens.snd _ _) (Lens.snd _ _)) (Lens.snd _ _)) (Lens.snd _ _)) spread_sun_o4.rays (fun x y => { x with rays := y }) (fun _ => rfl) (fun _ _ => rfl)
def Zjg : spread_sun_o4 := ⟨Zhi, Z9k, [], 0, (.slice none 0 0)⟩
theorem Zrw : KZ Z0k Zjg (Zlh ++ (Zcq ++ ([.slice none 0 0] ++ ([.int .i64 0] ++ [.slice none 0 0])))) := Z1i (Z07 Zjp (Z07 Zbo (Z07 (Z2l _) (Z07 Z0t (Zen rfl)))))
structure Out where
 Port : Int
 Max : Int
 Header : Z0l
 deriving DecidableEq, Inhabited
def Ztt : Kd Out := Z0g (Z2 (Z0 .i64) (Z2 (Z0 .i64) (Z1 24 Ze))) (fun x => (x.Port, (x.Max, x.Header)))
instance : PureK Ztt := inferInstanceAs (PureK (Z0g (Z2 (Z0 .i64) (Z2 (Z0 .i64) (Z1 24 Ze))) (fun (x : Out) => (x.Port, (x.Max, x.Header)))))
structure Y30 where
 Env : Env
 groups : (List Group)
 out : (List Out)
 header : Z0l
 depth : Int
 deriving DecidableEq, Inhabited
structure Y2x where
 Env : Env
 groups : (List Group)
 out : Value
 header : Z0l
 depth : Int
structure Zja where
 Table : Int
 Flow : Int
 deriving DecidableEq, Inhabited
def Y2n : Kd Zja := Z0g (Z2 (Z0 .i64) (Z0 .i64)) (fun x => (x.Table, x.Flow))
instance : PureK Y2n := inferInstanceAs (PureK (Z0g (Z2 (Z0 .i64) (Z0 .i64)) (fun (x : Zja) => (x.Table, x.Flow))))
structure Y2w where
 Switch : Switch
 env : Env
 header : Z0l
 set : (List Action)
 out : (List Out)
 path : (List Zja)
 deriving DecidableEq, Inhabited
structure Y2z where
 Switch : Switch
 env : Env
 header : Z0l
 set : (List Action)
 out : Value
 path : Value
structure Y31 where
 Net : Net
 env : Env
 ends : (List End)
 deriving DecidableEq, Inhabited
structure Y2y where
 Net : Net
 env : Env
 ends : Value
theorem Z1l : Zr Tryz.prog 42 Ze Z0e := ⟨_, Z4w, by kernel_rfl⟩
theorem Z2k : Fl Tryz.prog 42 0 lWide_0 := ⟨by kernel_rfl, rfl⟩
theorem Z0m : Ty Tryz.prog 40 Z0a := ⟨by kernel_rfl, by kernel_rfl⟩
theorem Z2f : Fl Tryz.prog 42 1 lWide_1 := ⟨by kernel_rfl, rfl⟩
theorem Z48 : Z06 Tryz.prog 42 0 = some (lWide_0.off, Kd.sz Z0a) := by kernel_rfl
theorem Z3n : Z06 Tryz.prog 42 1 = some (lWide_1.off, Kd.sz Z0a) := by kernel_rfl
theorem Z31 : Z18 Tryz.prog 42 = true := by kernel_rfl
theorem Zv : Ty Tryz.prog 42 Ze := ⟨by kernel_rfl, by kernel_rfl⟩
theorem Z2e : Fl Tryz.prog 85 0 lTern_0 := ⟨by kernel_rfl, rfl⟩
theorem Z1z : Fl Tryz.prog 85 1 lTern_1 := ⟨by kernel_rfl, rfl⟩
theorem Zy : Ty Tryz.prog 87 (Z1 24 Z3) := ⟨by kernel_rfl, by kernel_rfl⟩
theorem Z2g : Ar Tryz.prog 87 85 24 Z3 := ⟨by kernel_rfl, by kernel_rfl⟩
theorem Zz : Ty Tryz.prog 85 Z3 := ⟨by kernel_rfl, by kernel_rfl⟩
theorem Z1g : Zr Tryz.prog 85 Z3 Z0n := ⟨_, Z3f, by kernel_rfl⟩
theorem Z4u : Ar Tryz.prog 44 42 24 Ze := ⟨by kernel_rfl, by kernel_rfl⟩
theorem Zkv : Fl Tryz.prog 103 4 lRay_4 := ⟨by kernel_rfl, rfl⟩
theorem Z0v : Ty Tryz.prog 44 (Z1 24 Ze) := ⟨by kernel_rfl, by kernel_rfl⟩
theorem Z37 : Zr Tryz.prog 44 (Z1 24 Ze) (Vector.replicate 24 Z0e) := ⟨_, (Z2t 24 Z4w), by kernel_rfl⟩
theorem Z05 : Ty Tryz.prog 101 (Z1 24 Z3) := ⟨by kernel_rfl, by kernel_rfl⟩
theorem Z3h : Ar Tryz.prog 101 85 24 Z3 := ⟨by kernel_rfl, by kernel_rfl⟩
theorem Zag : Zr Tryz.prog 69 Z3r Zoa := ⟨_, Zvo, by kernel_rfl⟩
theorem Zma : Fl Tryz.prog 103 0 lRay_0 := ⟨by kernel_rfl, rfl⟩
theorem Zq : Ty Tryz.prog 3 (Z0 .i64) := ⟨by kernel_rfl, by kernel_rfl⟩
theorem Zmg : Fl Tryz.prog 103 1 lRay_1 := ⟨by kernel_rfl, rfl⟩
theorem Zjy : Fl Tryz.prog 103 2 lRay_2 := ⟨by kernel_rfl, rfl⟩
theorem Znv : Fl Tryz.prog 103 3 lRay_3 := ⟨by kernel_rfl, rfl⟩
theorem ty4 : Ty Tryz.prog 4 Z6 := ⟨by kernel_rfl, by kernel_rfl⟩
theorem Zm7 : Fl Tryz.prog 103 5 lRay_5 := ⟨by kernel_rfl, rfl⟩
theorem Zke : Z06 Tryz.prog 69 0 = some (lEnd_0.off, Kd.sz (Z0 .i64)) := by kernel_rfl
theorem Zks : Z06 Tryz.prog 69 1 = some (lEnd_1.off, Kd.sz (Z0 .i64)) := by kernel_rfl
theorem Zjm : Z06 Tryz.prog 69 2 = some (lEnd_2.off, Kd.sz (Z0 .i64)) := by kernel_rfl
theorem Zo8 : Z06 Tryz.prog 69 3 = some (lEnd_3.off, Kd.sz Z6) := by kernel_rfl
theorem Znx : Z06 Tryz.prog 69 4 = some (lEnd_4.off, Kd.sz (Z1 24 Ze)) := by kernel_rfl
theorem Zmt : Z18 Tryz.prog 69 = true := by kernel_rfl
theorem Z9n : Ty Tryz.prog 69 Z3r := ⟨by kernel_rfl, by kernel_rfl⟩
theorem Zal : Zr Tryz.prog 26 Z0s Zh6 := ⟨_, Zkk, by kernel_rfl⟩
theorem Zrj : Z18 Tryz.prog 26 = true := by kernel_rfl
theorem Z46 : Ty Tryz.prog 26 Z0s := ⟨by kernel_rfl, by kernel_rfl⟩
theorem Zzf : Z06 Tryz.prog 121 0 = some (lAction_0.off, Kd.sz (Z0 .i64)) := by kernel_rfl
theorem Y22 : Z06 Tryz.prog 121 1 = some (lAction_1.off, Kd.sz (Z0 .i64)) := by kernel_rfl
theorem Z55 : Zr Tryz.prog 121 Z8 Zhb := ⟨_, Zt2, by kernel_rfl⟩
theorem Zxg : Z18 Tryz.prog 121 = true := by kernel_rfl
theorem Z0p : Sl Tryz.prog 122 121 Z8 := ⟨by kernel_rfl, by kernel_rfl⟩
theorem Y02 : Z06 Tryz.prog 124 0 = some (lInst_0.off, Kd.sz (Z0 .i64)) := by kernel_rfl
theorem Zpu : Z06 Tryz.prog 124 4 = some (lInst_4.off, Kd.sz (Z4 Z8)) := by kernel_rfl
theorem Z45 : Zr Tryz.prog 124 Z1h Zon := ⟨_, Y21, by kernel_rfl⟩
theorem Zn4 : Z18 Tryz.prog 124 = true := by kernel_rfl
theorem Zcz : Sl Tryz.prog 59 124 Z1h := ⟨by kernel_rfl, by kernel_rfl⟩
theorem Zwx : Z06 Tryz.prog 61 6 = some (lFlow_6.off, Kd.sz (Z4 Z1h)) := by kernel_rfl
theorem Zgc : Zr Tryz.prog 61 Z2d Zjo := ⟨_, Y1q, by kernel_rfl⟩
theorem Zwm : Z18 Tryz.prog 61 = true := by kernel_rfl
theorem Z5u : Sl Tryz.prog 22 61 Z2d := ⟨by kernel_rfl, by kernel_rfl⟩
theorem Zhr : Fl Tryz.prog 26 0 Zcj := ⟨by kernel_rfl, rfl⟩
theorem Zj0 : Ar Tryz.prog 23 22 4 (Z4 Z2d) := ⟨by kernel_rfl, by kernel_rfl⟩
theorem Z4y : Ty Tryz.prog 22 (Z4 Z2d) := ⟨by kernel_rfl, by kernel_rfl⟩
theorem Z1k : Zr Tryz.prog 87 (Z1 24 Z3) (Vector.replicate 24 Z0n) := ⟨_, (Z2t 24 Z3f), by kernel_rfl⟩
theorem Z3m : Zr Tryz.prog 101 (Z1 24 Z3) (Vector.replicate 24 Z0n) := ⟨_, (Z2t 24 Z3f), by kernel_rfl⟩
theorem Zb3 : Fl Tryz.prog 61 1 Z8a := ⟨by kernel_rfl, rfl⟩
theorem Z0q : Sl Tryz.prog 37 3 (Z0 .i64) := ⟨by kernel_rfl, by kernel_rfl⟩
theorem us3 : (Tryz.prog.underlying 3).isSome = true := by kernel_rfl
theorem Z57 : Tryz.prog.underlying 360 = some (.int .u64) := by kernel_rfl
theorem Z5o : (Tryz.prog.underlying 360).isSome = true := by kernel_rfl
theorem un3 : Tryz.prog.underlying 3 = some (.int .i64) := by kernel_rfl
theorem Zct : El Tryz.prog 37 3 (Z0 .i64) := ⟨by kernel_rfl, by kernel_rfl, by kernel_rfl, by kernel_rfl, by kernel_rfl⟩
theorem zr3 : Zr Tryz.prog 3 (Z0 .i64) 0 := ⟨_, Z0t, by kernel_rfl⟩
theorem Zjj : Zr Tryz.prog 369 (Z1 24 Z0x) (Vector.replicate 24 Z8i) := ⟨_, (Z2t 24 Zpg), by kernel_rfl⟩
theorem Zt7 : Z06 Tryz.prog 364 1 = some (lfield_row_1.off, Kd.sz (Z0 .i64)) := by kernel_rfl
theorem Z1t : Zr Tryz.prog 364 Z0x Z8i := ⟨_, Zpg, by kernel_rfl⟩
theorem Zkm : Ty Tryz.prog 369 (Z1 24 Z0x) := ⟨by kernel_rfl, by kernel_rfl⟩
theorem Zzd : Z18 Tryz.prog 364 = true := by kernel_rfl
theorem Z8h : Ty Tryz.prog 364 Z0x := ⟨by kernel_rfl, by kernel_rfl⟩
theorem Zyg : Ar Tryz.prog 369 364 24 Z0x := ⟨by kernel_rfl, by kernel_rfl⟩
theorem Zyd : Zep Tryz.prog 364 2 = some 3 := by kernel_rfl
theorem Zxb : Fl Tryz.prog 364 2 Z1s := ⟨by kernel_rfl, rfl⟩
theorem Z6u : Fl Tryz.prog 119 0 Z6i := ⟨by kernel_rfl, rfl⟩
theorem Z4c : Z18 Tryz.prog 85 = true := by kernel_rfl
theorem Zs5 : Fl Tryz.prog 119 1 Zn9 := ⟨by kernel_rfl, rfl⟩
theorem Zmc : Fl Tryz.prog 119 2 Zfp := ⟨by kernel_rfl, rfl⟩
theorem Ztq : Fl Tryz.prog 119 3 Zn8 := ⟨by kernel_rfl, rfl⟩
theorem Z5a : Z06 Tryz.prog 85 0 = some (lTern_0.off, Kd.sz Ze) := by kernel_rfl
theorem Z5d : Z06 Tryz.prog 85 1 = some (lTern_1.off, Kd.sz Ze) := by kernel_rfl
theorem Znq : Sl Tryz.prog 58 119 Z1v := ⟨by kernel_rfl, by kernel_rfl⟩
theorem Zeq : Ty Tryz.prog 119 Z1v := ⟨by kernel_rfl, by kernel_rfl⟩
theorem Zxe : Zr Tryz.prog 119 Z1v Z6l := ⟨_, Zn3, by kernel_rfl⟩
theorem Y29 : Fl Tryz.prog 61 5 Zk4 := ⟨by kernel_rfl, rfl⟩
theorem Y0y : Ty Tryz.prog 58 (Z4 Z1v) := ⟨by kernel_rfl, by kernel_rfl⟩
theorem Z75 : Zr Tryz.prog 135 Z0u Z7a := ⟨_, Y2s, by kernel_rfl⟩
theorem Z9q : Fl Tryz.prog 135 1 lwalk_way_1 := ⟨by kernel_rfl, rfl⟩
theorem Zdw : Ty Tryz.prog 61 Z2d := ⟨by kernel_rfl, by kernel_rfl⟩
theorem Zje : Z18 Tryz.prog 135 = true := by kernel_rfl
theorem Z24 : Ty Tryz.prog 135 Z0u := ⟨by kernel_rfl, by kernel_rfl⟩
theorem Zfl : Fl Tryz.prog 135 0 lwalk_way_0 := ⟨by kernel_rfl, rfl⟩
theorem Ztg : Fl Tryz.prog 124 0 lInst_0 := ⟨by kernel_rfl, rfl⟩
theorem Z39 : Ty Tryz.prog 124 Z1h := ⟨by kernel_rfl, by kernel_rfl⟩
theorem Zp9 : El Tryz.prog 122 121 Z8 := ⟨by kernel_rfl, by kernel_rfl, by kernel_rfl, by kernel_rfl, by kernel_rfl⟩
theorem Zer : Fl Tryz.prog 124 4 lInst_4 := ⟨by kernel_rfl, rfl⟩
theorem Z43 : Ty Tryz.prog 122 (Z4 Z8) := ⟨by kernel_rfl, by kernel_rfl⟩
theorem Zz3 : Zr Tryz.prog 367 (Z1 2 Z0a) (Vector.replicate 2 0) := ⟨_, (Z2t 2 Zbl), by kernel_rfl⟩
theorem Zgt : Ar Tryz.prog 367 40 2 Z0a := ⟨by kernel_rfl, by kernel_rfl⟩
theorem Z5i : Fl Tryz.prog 121 0 lAction_0 := ⟨by kernel_rfl, rfl⟩
theorem Zgp : Fl Tryz.prog 121 5 Zdb := ⟨by kernel_rfl, rfl⟩
theorem Ze8 : Fl Tryz.prog 346 0 latom_trace_o1_0 := ⟨by kernel_rfl, rfl⟩
theorem Zra : Z06 Tryz.prog 126 0 = some (lAtom_0.off, Kd.sz (Z1 24 Z3)) := by kernel_rfl
theorem Z6d : Zr Tryz.prog 126 Z04 Zpf := ⟨_, Ztf, by kernel_rfl⟩
theorem Zxt : Z18 Tryz.prog 126 = true := by kernel_rfl
theorem Z6c : Ty Tryz.prog 126 Z04 := ⟨by kernel_rfl, by kernel_rfl⟩
theorem Zl2 : Fl Tryz.prog 121 1 lAction_1 := ⟨by kernel_rfl, rfl⟩
theorem Za2 : Fl Tryz.prog 126 2 Z77 := ⟨by kernel_rfl, rfl⟩
theorem Zpm : Fl Tryz.prog 121 2 Zn1 := ⟨by kernel_rfl, rfl⟩
theorem Zll : Fl Tryz.prog 126 3 Zj2 := ⟨by kernel_rfl, rfl⟩
theorem Zr1 : Fl Tryz.prog 121 3 Znl := ⟨by kernel_rfl, rfl⟩
theorem Zla : Fl Tryz.prog 126 1 Zgv := ⟨by kernel_rfl, rfl⟩
theorem Z0o : Ty Tryz.prog 121 Z8 := ⟨by kernel_rfl, by kernel_rfl⟩
theorem Zgg : Fl Tryz.prog 346 1 Zak := ⟨by kernel_rfl, rfl⟩
theorem Zh2 : Ty Tryz.prog 88 kraw := ⟨by kernel_rfl, by kernel_rfl⟩
theorem Z3z : Sl Tryz.prog 88 126 Z04 := ⟨by kernel_rfl, by kernel_rfl⟩
theorem Z7d : El Tryz.prog 88 126 Z04 := ⟨by kernel_rfl, by kernel_rfl, by kernel_rfl, by kernel_rfl, by kernel_rfl⟩
theorem Zzm : Z06 Tryz.prog 346 0 = some (latom_trace_o1_0.off, Kd.sz (Z1 24 Z3)) := by kernel_rfl
theorem Ztx : Zr Tryz.prog 346 Z2z Zp6 := ⟨_, Zr4, by kernel_rfl⟩
theorem Y0v : Z18 Tryz.prog 346 = true := by kernel_rfl
theorem Z9i : Fl Tryz.prog 135 2 Z7x := ⟨by kernel_rfl, rfl⟩
theorem Z5w : Ty Tryz.prog 88 (Z4 Z04) := ⟨by kernel_rfl, by kernel_rfl⟩
theorem Zav : Zr Tryz.prog 275 Z3j Zcb := ⟨_, Zwv, by kernel_rfl⟩
theorem Zk2 : Z06 Tryz.prog 275 0 = some (laset_spot_0.off, Kd.sz (Z0 .i64)) := by kernel_rfl
theorem Y1l : Z06 Tryz.prog 275 1 = some (laset_spot_1.off, Kd.sz (Z0 .i64)) := by kernel_rfl
theorem Zly : Z18 Tryz.prog 275 = true := by kernel_rfl
theorem Z7c : Ty Tryz.prog 275 Z3j := ⟨by kernel_rfl, by kernel_rfl⟩
theorem eqk3 : EqK Tryz.prog 1 3 (Z0 .i64) := Y2g (by kernel_rfl)
theorem Zz9 : EqK Tryz.prog 2 275 Z3j := Zip (fun x y e => by cases x; cases y; simp only [Prod.mk.injEq] at e; simp [e]) (l := _) (by kernel_rfl) (by kernel_rfl) (Z6t eqk3 Zq (Zh7 eqk3 Zq))
theorem Zug : Tryz.prog.eqGuardType Tryz.prog.depth 275 = false := by kernel_rfl
theorem Zo7 : Fl Tryz.prog 275 0 laset_spot_0 := ⟨by kernel_rfl, rfl⟩
theorem Zdi : Fl Tryz.prog 275 1 laset_spot_1 := ⟨by kernel_rfl, rfl⟩
theorem zr4 : Zr Tryz.prog 4 Z6 false := ⟨_, Z5z, by kernel_rfl⟩
theorem Zb0 : Fl Tryz.prog 135 3 Z8x := ⟨by kernel_rfl, rfl⟩
theorem Zq3 : Fl Tryz.prog 124 2 Zph := ⟨by kernel_rfl, rfl⟩
theorem Zt3 : Fl Tryz.prog 124 3 Zk7 := ⟨by kernel_rfl, rfl⟩
theorem Zi8 : Fl Tryz.prog 124 1 Ze5 := ⟨by kernel_rfl, rfl⟩
theorem Z5h : Zr Tryz.prog 90 Z02 Zkl := ⟨_, Ztu, by kernel_rfl⟩
theorem Zpn : Z06 Tryz.prog 90 0 = some (lRule_0.off, Kd.sz (Z1 24 Z3)) := by kernel_rfl
theorem Y0w : Z06 Tryz.prog 90 1 = some (lRule_1.off, Kd.sz (Z4 Z04)) := by kernel_rfl
theorem Zty : Z18 Tryz.prog 90 = true := by kernel_rfl
theorem Z4x : Ty Tryz.prog 90 Z02 := ⟨by kernel_rfl, by kernel_rfl⟩
theorem Zld : Fl Tryz.prog 131 0 (Lens.fst Z0s kraw) := ⟨by kernel_rfl, rfl⟩
theorem Zlg (A : Z5) : Fl Tryz.prog 131 0 (Zfk Z0s A) := ⟨Zld.1, Zld.2⟩
theorem Zjl : Fl Tryz.prog 131 1 (Lens.snd Z0s kraw) := ⟨by kernel_rfl, rfl⟩
theorem Zoc (A : Z5) : Fl Tryz.prog 131 1 (Zg2 Z0s A) := ⟨Zjl.1, Zjl.2⟩
theorem tyr92 : Ty Tryz.prog 92 kraw := ⟨by kernel_rfl, by kernel_rfl⟩
theorem Znr (A : Z5) : Ty Tryz.prog 92 (kas A) := ⟨tyr92.sz, tyr92.ag⟩
theorem Zqr : Fl Tryz.prog 61 6 lFlow_6 := ⟨by kernel_rfl, rfl⟩
theorem Y0k : Ty Tryz.prog 59 (Z4 Z1h) := ⟨by kernel_rfl, by kernel_rfl⟩
theorem Zr5 : Zr Tryz.prog 131 (Z2 Z0s kraw) (Zh6, .nilFunc) := ⟨_, Z07 Zkk (Zen rfl), by kernel_rfl⟩
theorem Zr0 : Z06 Tryz.prog 135 0 = some (lwalk_way_0.off, Kd.sz (Z1 24 Z3)) := by kernel_rfl
theorem Y0h : Z06 Tryz.prog 135 1 = some (lwalk_way_1.off, Kd.sz (Z1 24 Z3)) := by kernel_rfl
theorem Z2u : Sl Tryz.prog 32 90 Z02 := ⟨by kernel_rfl, by kernel_rfl⟩
theorem Zgr : El Tryz.prog 32 90 Z02 := ⟨by kernel_rfl, by kernel_rfl, by kernel_rfl, by kernel_rfl, by kernel_rfl⟩
theorem Zhl : Ty Tryz.prog 32 kraw := ⟨by kernel_rfl, by kernel_rfl⟩
theorem Zrm : Fl Tryz.prog 288 1 lcover_purse_1 := ⟨by kernel_rfl, rfl⟩
theorem Zhh : Fl Tryz.prog 288 0 lcover_purse_0 := ⟨by kernel_rfl, rfl⟩
theorem Z3o : Sl Tryz.prog 229 87 (Z1 24 Z3) := ⟨by kernel_rfl, by kernel_rfl⟩
theorem Zqg : Zep Tryz.prog 85 0 = some 42 := by kernel_rfl
theorem Zs8 : (Tryz.prog.underlying 40).isSome = true := by kernel_rfl
theorem tyr286 : Ty Tryz.prog 286 kraw := ⟨by kernel_rfl, by kernel_rfl⟩
theorem Zpb (A : Z5) : Ty Tryz.prog 286 (kas A) := ⟨tyr286.sz, tyr286.ag⟩
theorem Zvg : Fl Tryz.prog 290 0 lcover_look_0 := ⟨by kernel_rfl, rfl⟩
theorem Zdt : Ty Tryz.prog 229 (Z4 (Z1 24 Z3)) := ⟨by kernel_rfl, by kernel_rfl⟩
theorem Zt9 : Z06 Tryz.prog 288 0 = some (lcover_purse_0.off, Kd.sz (Z0 .i64)) := by kernel_rfl
theorem Zyf : Z06 Tryz.prog 288 1 = some (lcover_purse_1.off, Kd.sz Z6) := by kernel_rfl
theorem Zu2 : Zr Tryz.prog 288 Z3d Zfe := ⟨_, Zl8, by kernel_rfl⟩
theorem Zss : Z18 Tryz.prog 288 = true := by kernel_rfl
theorem Ztp : Z06 Tryz.prog 290 0 = some (lcover_look_0.off, Kd.sz Z3d) := by kernel_rfl
theorem Zqk : Zr Tryz.prog 290 Z14 Zmf := ⟨_, Zw4, by kernel_rfl⟩
theorem Y1n : Z18 Tryz.prog 290 = true := by kernel_rfl
theorem Zi0 : Fl Tryz.prog 90 1 lRule_1 := ⟨by kernel_rfl, rfl⟩
theorem Zb6 : Fl Tryz.prog 90 0 lRule_0 := ⟨by kernel_rfl, rfl⟩
theorem Zoo : El Tryz.prog 229 87 (Z1 24 Z3) := ⟨by kernel_rfl, by kernel_rfl, by kernel_rfl, by kernel_rfl, by kernel_rfl⟩
theorem Zlo : Fl Tryz.prog 164 0 Zez := ⟨by kernel_rfl, rfl⟩
theorem Z3a : Sl Tryz.prog 24 164 Z0b := ⟨by kernel_rfl, by kernel_rfl⟩
theorem Z3e : Ty Tryz.prog 164 Z0b := ⟨by kernel_rfl, by kernel_rfl⟩
theorem Zmo : El Tryz.prog 24 164 Z0b := ⟨by kernel_rfl, by kernel_rfl, by kernel_rfl, by kernel_rfl, by kernel_rfl⟩
theorem Z67 : Zr Tryz.prog 164 Z0b Zcp := ⟨_, Zoj, by kernel_rfl⟩
theorem Z3x : Sl Tryz.prog 162 226 Z1w := ⟨by kernel_rfl, by kernel_rfl⟩
theorem Zus : El Tryz.prog 162 226 Z1w := ⟨by kernel_rfl, by kernel_rfl, by kernel_rfl, by kernel_rfl, by kernel_rfl⟩
theorem Y1z : Zr Tryz.prog 226 Z1w Zn2 := ⟨_, Y26, by kernel_rfl⟩
theorem Zg5 : Fl Tryz.prog 226 3 Zbv := ⟨by kernel_rfl, rfl⟩
theorem Z6r : Fl Tryz.prog 164 2 Z53 := ⟨by kernel_rfl, rfl⟩
theorem Z6h : Ty Tryz.prog 162 (Z4 Z1w) := ⟨by kernel_rfl, by kernel_rfl⟩
theorem Zvi : Z18 Tryz.prog 164 = true := by kernel_rfl
theorem Zee : Zr Tryz.prog 73 Z2y Zhs := ⟨_, Zms, by kernel_rfl⟩
theorem Zjh : Z18 Tryz.prog 73 = true := by kernel_rfl
theorem Z59 : Ty Tryz.prog 73 Z2y := ⟨by kernel_rfl, by kernel_rfl⟩
theorem Zth : Fl Tryz.prog 26 1 Zno := ⟨by kernel_rfl, rfl⟩
theorem Zhd : Ty Tryz.prog 24 (Z4 Z0b) := ⟨by kernel_rfl, by kernel_rfl⟩
theorem Y12 : Z06 Tryz.prog 73 0 = some (lFlat_0.off, Kd.sz (Z4 Z02)) := by kernel_rfl
theorem Zyn : Z06 Tryz.prog 73 1 = some (lFlat_1.off, Kd.sz (Z4 Z0b)) := by kernel_rfl
theorem Z74 : Fl Tryz.prog 338 0 lslice_heap_o0_0 := ⟨by kernel_rfl, rfl⟩
theorem Z7z : Ty Tryz.prog 229 kraw := ⟨by kernel_rfl, by kernel_rfl⟩
theorem Zw2 : Fl Tryz.prog 338 1 lslice_heap_o0_1 := ⟨by kernel_rfl, rfl⟩
theorem tyr336 : Ty Tryz.prog 336 kraw := ⟨by kernel_rfl, by kernel_rfl⟩
theorem Z97 (A : Z5) : Ty Tryz.prog 336 (kas A) := ⟨tyr336.sz, tyr336.ag⟩
theorem Z9z : Fl Tryz.prog 73 0 lFlat_0 := ⟨by kernel_rfl, rfl⟩
theorem Za0 : Ty Tryz.prog 32 (Z4 Z02) := ⟨by kernel_rfl, by kernel_rfl⟩
theorem Zz4 : Z06 Tryz.prog 338 0 = some (lslice_heap_o0_0.off, Kd.sz kraw) := by kernel_rfl
theorem Zy6 : Z06 Tryz.prog 338 1 = some (lslice_heap_o0_1.off, Kd.sz (Z0 .i64)) := by kernel_rfl
theorem Zzh : Zr Tryz.prog 338 Z11 Zoi := ⟨_, Zxc, by kernel_rfl⟩
theorem Zwi : Z18 Tryz.prog 338 = true := by kernel_rfl
theorem Zix : Sl Tryz.prog 248 229 (Z4 (Z1 24 Z3)) := ⟨by kernel_rfl, by kernel_rfl⟩
theorem Zuv : Zr Tryz.prog 229 (Z4 (Z1 24 Z3)) [] := ⟨_, (Z2l _), by kernel_rfl⟩
theorem Y0a : El Tryz.prog 248 229 (Z4 (Z1 24 Z3)) := ⟨by kernel_rfl, by kernel_rfl, by kernel_rfl, by kernel_rfl, by kernel_rfl⟩
theorem Zg1 : Fl Tryz.prog 67 0 lNet_0 := ⟨by kernel_rfl, rfl⟩
theorem Zfu : Ty Tryz.prog 64 (Z4 Z0s) := ⟨by kernel_rfl, by kernel_rfl⟩
theorem Zaa : Sl Tryz.prog 64 26 Z0s := ⟨by kernel_rfl, by kernel_rfl⟩
theorem Y00 : Z06 Tryz.prog 252 0 = some (lspread_table_0.off, Kd.sz Z2y) := by kernel_rfl
theorem Zw6 : Z06 Tryz.prog 252 1 = some (lspread_table_1.off, Kd.sz (Z4 (Z4 (Z1 24 Z3)))) := by kernel_rfl
theorem Zj3 : Zr Tryz.prog 252 Z1q Zo6 := ⟨_, Y2f, by kernel_rfl⟩
theorem Zpz : Z18 Tryz.prog 252 = true := by kernel_rfl
theorem Zl9 : Sl Tryz.prog 181 252 Z1q := ⟨by kernel_rfl, by kernel_rfl⟩
theorem Zsu : El Tryz.prog 181 252 Z1q := ⟨by kernel_rfl, by kernel_rfl, by kernel_rfl, by kernel_rfl, by kernel_rfl⟩
theorem Z6p : Zr Tryz.prog 189 Z1x Zns := ⟨_, Zu4, by kernel_rfl⟩
theorem Z70 : Fl Tryz.prog 189 1 lspread_beam_1 := ⟨by kernel_rfl, rfl⟩
theorem Zig : Z18 Tryz.prog 189 = true := by kernel_rfl
theorem Z3c : Ty Tryz.prog 189 Z1x := ⟨by kernel_rfl, by kernel_rfl⟩
theorem Z8k : Fl Tryz.prog 189 0 lspread_beam_0 := ⟨by kernel_rfl, rfl⟩
theorem Zri : Fl Tryz.prog 39 0 Zp4 := ⟨by kernel_rfl, rfl⟩
theorem Zrt : Fl Tryz.prog 39 1 Zkn := ⟨by kernel_rfl, rfl⟩
theorem Zpx : Ty Tryz.prog 37 (Z4 (Z0 .i64)) := ⟨by kernel_rfl, by kernel_rfl⟩
theorem Zpd : Fl Tryz.prog 328 0 lenv_world_0 := ⟨by kernel_rfl, rfl⟩
theorem Z6f : Ty Tryz.prog 39 Z1j := ⟨by kernel_rfl, by kernel_rfl⟩
theorem Zx9 : Fl Tryz.prog 226 1 Zkf := ⟨by kernel_rfl, rfl⟩
theorem Zvx : Ty Tryz.prog 226 Z1w := ⟨by kernel_rfl, by kernel_rfl⟩
theorem Zao : Fl Tryz.prog 328 1 lenv_world_1 := ⟨by kernel_rfl, rfl⟩
theorem Zu7 : Z06 Tryz.prog 328 0 = some (lenv_world_0.off, Kd.sz Z1j) := by kernel_rfl
theorem Zvh : Z06 Tryz.prog 328 1 = some (lenv_world_1.off, Kd.sz Z0b) := by kernel_rfl
theorem Zpc : Zr Tryz.prog 328 Z5x Zjs := ⟨_, Ztw, by kernel_rfl⟩
theorem Zrn : Z18 Tryz.prog 328 = true := by kernel_rfl
theorem Zp7 : Ty Tryz.prog 328 Z5x := ⟨by kernel_rfl, by kernel_rfl⟩
theorem Zwr : Fl Tryz.prog 164 1 Zjt := ⟨by kernel_rfl, rfl⟩
theorem Zni : Ty Tryz.prog 307 Z2h := ⟨by kernel_rfl, by kernel_rfl⟩
theorem Zet : Fl Tryz.prog 126 0 lAtom_0 := ⟨by kernel_rfl, rfl⟩
theorem Y05 : Fl Tryz.prog 307 1 lnorm_world_1 := ⟨by kernel_rfl, rfl⟩
theorem Zg3 : Fl Tryz.prog 307 2 Zbe := ⟨by kernel_rfl, rfl⟩
theorem Zqu : Fl Tryz.prog 307 0 lnorm_world_0 := ⟨by kernel_rfl, rfl⟩
theorem Zvf : Z06 Tryz.prog 307 0 = some (lnorm_world_0.off, Kd.sz Z1j) := by kernel_rfl
theorem Zu9 : Z06 Tryz.prog 307 1 = some (lnorm_world_1.off, Kd.sz (Z4 Z0b)) := by kernel_rfl
theorem Y2v : Zr Tryz.prog 307 Z2h Zle := ⟨_, Zxw, by kernel_rfl⟩
theorem Y2m : Z18 Tryz.prog 307 = true := by kernel_rfl
theorem Zjd : Z06 Tryz.prog 189 0 = some (lspread_beam_0.off, Kd.sz (Z1 24 Z3)) := by kernel_rfl
theorem Zji : Z06 Tryz.prog 189 1 = some (lspread_beam_1.off, Kd.sz (Z1 24 Z3)) := by kernel_rfl
theorem Zt4 : Fl Tryz.prog 152 0 lLink_0 := ⟨by kernel_rfl, rfl⟩
theorem Y1m : Fl Tryz.prog 152 1 lLink_1 := ⟨by kernel_rfl, rfl⟩
theorem Z68 : Ty Tryz.prog 67 Z2j := ⟨by kernel_rfl, by kernel_rfl⟩
theorem Znw : Fl Tryz.prog 152 2 lLink_2 := ⟨by kernel_rfl, rfl⟩
theorem Z9p : Sl Tryz.prog 65 152 Z2a := ⟨by kernel_rfl, by kernel_rfl⟩
theorem Zvp : Ty Tryz.prog 152 Z2a := ⟨by kernel_rfl, by kernel_rfl⟩
theorem Zft : Fl Tryz.prog 67 1 lNet_1 := ⟨by kernel_rfl, rfl⟩
theorem Zi6 : Ty Tryz.prog 65 (Z4 Z2a) := ⟨by kernel_rfl, by kernel_rfl⟩
theorem Zxs : Fl Tryz.prog 152 3 lLink_3 := ⟨by kernel_rfl, rfl⟩
theorem Z56 : Fl Tryz.prog 186 4 Z42 := ⟨by kernel_rfl, rfl⟩
theorem Z58 : Ty Tryz.prog 108 kraw := ⟨by kernel_rfl, by kernel_rfl⟩
theorem Zmw : Z06 Tryz.prog 103 0 = some (lRay_0.off, Kd.sz (Z0 .i64)) := by kernel_rfl
theorem Zjw : Z06 Tryz.prog 103 4 = some (lRay_4.off, Kd.sz (Z1 24 Z3)) := by kernel_rfl
theorem Zln : Z06 Tryz.prog 103 5 = some (lRay_5.off, Kd.sz (Z1 24 Z3)) := by kernel_rfl
theorem Zb9 : Zr Tryz.prog 103 Z0f Zkc := ⟨_, Zq1, by kernel_rfl⟩
theorem Zog : Z18 Tryz.prog 103 = true := by kernel_rfl
theorem Z5g : Sl Tryz.prog 108 103 Z0f := ⟨by kernel_rfl, by kernel_rfl⟩
theorem Zop : El Tryz.prog 108 103 Z0f := ⟨by kernel_rfl, by kernel_rfl, by kernel_rfl, by kernel_rfl, by kernel_rfl⟩
theorem Zv5 : Fl Tryz.prog 186 2 lspread_sun_o4_2 := ⟨by kernel_rfl, rfl⟩
theorem Zps : Ty Tryz.prog 181 (Z4 Z1q) := ⟨by kernel_rfl, by kernel_rfl⟩
theorem Zo3 : Ty Tryz.prog 252 Z1q := ⟨by kernel_rfl, by kernel_rfl⟩
theorem Zze : Fl Tryz.prog 252 1 lspread_table_1 := ⟨by kernel_rfl, rfl⟩
theorem Zwh : Ty Tryz.prog 248 (Z4 (Z4 (Z1 24 Z3))) := ⟨by kernel_rfl, by kernel_rfl⟩
theorem Zmm : Fl Tryz.prog 186 3 lspread_sun_o4_3 := ⟨by kernel_rfl, rfl⟩
theorem Zpe : Fl Tryz.prog 252 0 lspread_table_0 := ⟨by kernel_rfl, rfl⟩
theorem Zzc : Fl Tryz.prog 73 1 lFlat_1 := ⟨by kernel_rfl, rfl⟩
theorem Y1b : Fl Tryz.prog 186 1 lspread_sun_o4_1 := ⟨by kernel_rfl, rfl⟩
theorem Y1w : Fl Tryz.prog 186 0 lspread_sun_o4_0 := ⟨by kernel_rfl, rfl⟩
theorem Zvm : Z06 Tryz.prog 103 1 = some (lRay_1.off, Kd.sz (Z0 .i64)) := by kernel_rfl
theorem Y1r : Z06 Tryz.prog 103 2 = some (lRay_2.off, Kd.sz (Z0 .i64)) := by kernel_rfl
theorem Y0b : Z06 Tryz.prog 103 3 = some (lRay_3.off, Kd.sz Z6) := by kernel_rfl
theorem Zxd : Tryz.prog.underlying 40 = some (.int .u64) := by kernel_rfl
theorem Zwu : Z06 Tryz.prog 186 0 = some (lspread_sun_o4_0.off, Kd.sz Z2j) := by kernel_rfl
theorem Zxl : Z06 Tryz.prog 186 1 = some (lspread_sun_o4_1.off, Kd.sz Z1j) := by kernel_rfl
theorem Y04 : Z06 Tryz.prog 186 2 = some (lspread_sun_o4_2.off, Kd.sz (Z4 Z1q)) := by kernel_rfl
theorem Zw5 : Z06 Tryz.prog 186 3 = some (lspread_sun_o4_3.off, Kd.sz (Z0 .i64)) := by kernel_rfl
theorem Zsb : Zr Tryz.prog 186 Z0k Zjg := ⟨_, Zrw, by kernel_rfl⟩
theorem Y08 : Z18 Tryz.prog 186 = true := by kernel_rfl
theorem Zzp : Z06 Tryz.prog 152 0 = some (lLink_0.off, Kd.sz (Z0 .i64)) := by kernel_rfl
theorem Zsg : Z06 Tryz.prog 152 1 = some (lLink_1.off, Kd.sz (Z0 .i64)) := by kernel_rfl
theorem Zqe : Z06 Tryz.prog 152 2 = some (lLink_2.off, Kd.sz (Z0 .i64)) := by kernel_rfl
theorem Y1p : Z06 Tryz.prog 152 3 = some (lLink_3.off, Kd.sz (Z0 .i64)) := by kernel_rfl
theorem Zpk : Zr Tryz.prog 152 Z2a Zjn := ⟨_, Zro, by kernel_rfl⟩
theorem Zrh : Z18 Tryz.prog 152 = true := by kernel_rfl
theorem Zx3 : Z06 Tryz.prog 67 0 = some (lNet_0.off, Kd.sz (Z4 Z0s)) := by kernel_rfl
theorem Zzk : Z06 Tryz.prog 67 1 = some (lNet_1.off, Kd.sz (Z4 Z2a)) := by kernel_rfl
theorem Zkg : Zr Tryz.prog 67 Z2j Zhi := ⟨_, Zjp, by kernel_rfl⟩
theorem Zqf : Z18 Tryz.prog 67 = true := by kernel_rfl
theorem Zlv : Zr Tryz.prog 39 Z1j Z9k := ⟨_, Zbo, by kernel_rfl⟩
theorem Zo0 : Z18 Tryz.prog 39 = true := by kernel_rfl
theorem Z6m : Ty Tryz.prog 103 Z0f := ⟨by kernel_rfl, by kernel_rfl⟩
theorem Zts : Fl Tryz.prog 69 3 lEnd_3 := ⟨by kernel_rfl, rfl⟩
theorem Y0s : Fl Tryz.prog 69 0 lEnd_0 := ⟨by kernel_rfl, rfl⟩
theorem Zyx : Fl Tryz.prog 69 1 lEnd_1 := ⟨by kernel_rfl, rfl⟩
theorem Zv7 : Fl Tryz.prog 69 4 lEnd_4 := ⟨by kernel_rfl, rfl⟩
theorem un4 : Tryz.prog.underlying 4 = some (.bool) := by kernel_rfl
theorem eqk4 : EqK Tryz.prog 1 4 Z6 := Zqs (by kernel_rfl)
theorem Znj : EqK Tryz.prog 1 40 Z0a := Zuy (by kernel_rfl)
theorem Zzw : EqK Tryz.prog 2 42 Ze := Zip (fun x y e => by cases x; cases y; simp only [Prod.mk.injEq] at e; simp [e]) (l := _) (by kernel_rfl) (by kernel_rfl) (Z6t Znj Z0m (Zh7 Znj Z0m))
theorem Y0o : EqK Tryz.prog 3 44 (Z1 24 Ze) := Zx0 Zzw Zv Z4u
theorem Zy8 : EqK Tryz.prog 4 69 Z3r := Zip (fun x y e => by cases x; cases y; simp only [Prod.mk.injEq] at e; simp [e]) (l := _) (by kernel_rfl) (by kernel_rfl) (Z6t (eqk3.le (by decide)) Zq (Z6t (eqk3.le (by decide)) Zq (Z6t (eqk3.le (by decide)) Zq (Z6t (eqk4.le (by decide)) ty4 (Zh7 Y0o Z0v)))))
theorem Zq4 : Tryz.prog.eqGuardType Tryz.prog.depth 69 = false := by kernel_rfl
theorem Zw : Tryz.prog.follows .mixedOrders = true := by kernel_rfl
end Go.Proofs.YtknpgojdkobgjaaGreat.W
set_option maxRecDepth 4000
namespace Go.Proofs.YtknpgojdkobgjaaGreat.W
open Go Go.Wb
theorem Ztk : Ent Tryz.prog 237 := Ent.mk Tryz.func237 rfl rfl
theorem Z9v : Ent Tryz.prog 177 := Ent.mk Tryz.func177 rfl rfl
theorem Zyv : Ent Tryz.prog 174 := Ent.mk Tryz.func174 rfl rfl
theorem Zif : Ent Tryz.prog 173 := Ent.mk Tryz.func173 rfl rfl
theorem Zf3 : Ent Tryz.prog 106 := Ent.mk Tryz.func106 rfl rfl
theorem e50 : Ent Tryz.prog 50 := Ent.mk Tryz.func50 rfl rfl
def Ziv (a1 : Wide) (b2 : Wide) : Option Wide :=
 some (⟨(a1.Hi ^^^ b2.Hi), (a1.Lo ^^^ b2.Lo)⟩ : Wide)
theorem Y11 : Q2 Tryz.prog 237 (rd Ze) (rd Ze) (rd Ze) Ziv := fun a1 b2 r h => I0 Tryz.func237 rfl Tryz.ntmps237 rfl fun w H => by
 unfold Ziv at h
 refine SR <| Cv rfl (Zl 3 rfl rfl (vt rfl)) fun g3 => Cv rfl (Zl 4 rfl rfl (vt rfl)) fun g4 => Cv rfl (Zo 5 rfl rfl Z1l) fun g5 => Nl <| SR <| Zk lWide_0 Z2k rfl <| Ld Z0m 3 rfl <| Zk lWide_0 Z2k rfl <| Ld Z0m 4 rfl <| Ac (Zb1 rfl rfl (vt rfl) (vt rfl)) rfl <| Zk lWide_1 Z2f rfl <| Ld Z0m 3 rfl <| Zk lWide_1 Z2f rfl <| Ld Z0m 4 rfl <| Ac (Zb1 rfl rfl (vt rfl) (vt rfl)) rfl <| Ac (opb (⟨(a1.Hi ^^^ b2.Hi), (a1.Lo ^^^ b2.Lo)⟩ : Wide) Z1l rfl Z31 (pc Z48 (vt rfl) <| pc Z3n (vt rfl) <| pn rfl)) rfl <| Zi Zv 5 rfl <| Nl <| rt ?_
 cases h; exact Zm Tryz.results237 rfl (Zx rfl (i := 5) rfl Zv)
def Z5l (a1 : Wide) (b2 : Wide) : Option Wide :=
 some (⟨(a1.Hi &&& b2.Hi), (a1.Lo &&& b2.Lo)⟩ : Wide)
theorem Z9a : Q2 Tryz.prog 177 (rd Ze) (rd Ze) (rd Ze) Z5l := fun a1 b2 r h => I0 Tryz.func177 rfl Tryz.ntmps177 rfl fun w H => by
 unfold Z5l at h
 refine SR <| Cv rfl (Zl 3 rfl rfl (vt rfl)) fun g3 => Cv rfl (Zl 4 rfl rfl (vt rfl)) fun g4 => Cv rfl (Zo 5 rfl rfl Z1l) fun g5 => Nl <| SR <| Zk lWide_0 Z2k rfl <| Ld Z0m 3 rfl <| Zk lWide_0 Z2k rfl <| Ld Z0m 4 rfl <| Ac (Z4v rfl rfl (vt rfl) (vt rfl)) rfl <| Zk lWide_1 Z2f rfl <| Ld Z0m 3 rfl <| Zk lWide_1 Z2f rfl <| Ld Z0m 4 rfl <| Ac (Z4v rfl rfl (vt rfl) (vt rfl)) rfl <| Ac (opb (⟨(a1.Hi &&& b2.Hi), (a1.Lo &&& b2.Lo)⟩ : Wide) Z1l rfl Z31 (pc Z48 (vt rfl) <| pc Z3n (vt rfl) <| pn rfl)) rfl <| Zi Zv 5 rfl <| Nl <| rt ?_
 cases h; exact Zm Tryz.results177 rfl (Zx rfl (i := 5) rfl Zv)
def Zgd (a1 : Wide) (b2 : Wide) (m3 : Wide) : Option Wide :=
 (Ziv a1 b2).bind fun x8 => (Z5l x8 m3).bind fun x9 => some x9
theorem Zt0 : Q3 Tryz.prog 174 (rd Ze) (rd Ze) (rd Ze) (rd Ze) Zgd := fun a1 b2 m3 r h => I0 Tryz.func174 rfl Tryz.ntmps174 rfl fun w H => by
 unfold Zgd at h
 refine SR <| Cv rfl (Zl 4 rfl rfl (vt rfl)) fun g4 => Cv rfl (Zl 5 rfl rfl (vt rfl)) fun g5 => Cv rfl (Zl 6 rfl rfl (vt rfl)) fun g6 => Cv rfl (Zo 7 rfl rfl Z1l) fun g7 => Nl <| sq ?_
 obtain ⟨x8, hx8, x9, hx9, h⟩ := bs2 h
 refine AR Zw (by kernel_rfl) <| Zj Zv 4 rfl <| Zj Zv 5 rfl <| SCl [7, 8] (Y11 _ _ _ hx8) Ztk rfl <| Zj Zv 6 rfl <| SCl [9, 10] (Z9a _ _ _ hx9) Z9v rfl <| SSt Zv 7 rfl <| Sn <| rt ?_
 cases h; exact Zm Tryz.results174 rfl (Zx rfl (i := 7) rfl Zv)
def Z94 (a1 : Wide) : Option Bool :=
 some (decide ((a1.Hi ||| a1.Lo) = (0 : BitVec 64)))
theorem Zfi : Q1 Tryz.prog 173 (rd Ze) (rd Z6) Z94 := fun a1 r h => I0 Tryz.func173 rfl Tryz.ntmps173 rfl fun w H => by
 unfold Z94 at h
 refine SR <| Cv rfl (Zl 2 rfl rfl (vt rfl)) fun g2 => Ab rfl <| Nl <| SR <| Zk lWide_0 Z2k rfl <| Ld Z0m 2 rfl <| Zk lWide_1 Z2f rfl <| Ld Z0m 2 rfl <| Ac (Zab rfl rfl (vt rfl) (vt rfl)) rfl <| Ac (Zeg rfl rfl (vt rfl) (vku (0 : BitVec 64) rfl)) rfl <| As rfl <| Nl <| rt ?_
 cases h; exact Zm Tryz.results173 rfl (Zc rfl)
def Z7l (t1 : Tern) (x2 : Wide) : Option Bool :=
 (Zgd t1.Value x2 t1.Mask).bind fun x5 => (Z94 x5).bind fun x6 => some x6
theorem Zhp : Q2 Tryz.prog 106 (rd Z3) (rd Ze) (rd Z6) Z7l := fun t1 x2 r h => I0 Tryz.func106 rfl Tryz.ntmps106 rfl fun w H => by
 unfold Z7l at h
 refine SR <| Cv rfl (Zl 3 rfl rfl (vt rfl)) fun g3 => Cv rfl (Zl 4 rfl rfl (vt rfl)) fun g4 => Ab rfl <| Nl <| sq ?_
 obtain ⟨x5, hx5, x6, hx6, h⟩ := bs2 h
 refine Rg <| Zk lTern_0 Z2e rfl <| Ld Zv 3 rfl <| Ld Zv 4 rfl <| Zk lTern_1 Z1z rfl <| Ld Zv 3 rfl <| Cl [6, 7, 9] (Zt0 _ _ _ _ hx5) Zyv rfl <| Cl [10] (Zfi _ _ hx6) Zif rfl <| As rfl <| Nl <| rt ?_
 cases h; exact Zm Tryz.results106 rfl (Zc rfl)
def Z52 (x2 : Z0l) : (List Tern) → Nat → Option Bool
 | [], i5 => some true
 | x7 :: l6, i5 => (chk 24 (i5 : Int)).bind fun j9 => (Z7l x7 (Vector.get x2 j9)).bind fun x10 => (bif (!x10) then some false else (Z52 x2 l6) (i5 + 1))
def Z9f (x1 : Zg) (x2 : Z0l) : Option Bool :=
 Z52 x2 (Vector.toList x1) 0
theorem Zzz : Q2 Tryz.prog 50 (rd (Z1 24 Z3)) (rd (Z1 24 Ze)) (rd Z6) Z9f := fun x1 x2 r h => I0 Tryz.func50 rfl Tryz.ntmps50 rfl fun w H => by
 unfold Z9f at h
 refine SR <| Cv rfl (Zl 3 rfl rfl (vt rfl)) fun g3 => Cv rfl (Zl 4 rfl rfl (vt rfl)) fun g4 => Ab rfl <| Nl <| sq <| SR <| Ld Zy 3 rfl <| Mk rfl <| Nl <| bk <| LG (d := []) (ν := (List Tern) × Nat) (fun (l6, i5) => (Sfx (Vector.toList x1) i5 l6 ∧ Z52 x2 l6 i5 = some r, l6.length, [(3, Z7 g4 (Lens.id (Z1 24 Ze))), (7, rd (Z1 24 Z3) x1), (8, rd (Z0 .i64) (i5 : Int))], [(4, Zb g4 44 (Z1 24 Ze) x2)])) ((Vector.toList x1), 0) ⟨Sfx.start _, h⟩ (FX rfl) ?_
 rintro ⟨l6, i5⟩ ⟨hsf1, h⟩
 dsimp only at hsf1 h ⊢
 cases l6 with
 | nil =>
  unfold Z52 at h
  refine SR <| Ac (Zn rfl rfl (vt rfl) (vk rfl)) rfl <| Nl <| sq <| Cn rfl (fun hc => absurd (of_decide_eq_true hc) (hsf1.niln (by simp))) (fun hc => ?_)
  refine xt <| SR <| Ab rfl <| Nl <| rt ?_
  cases h; exact Zm Tryz.results50 rfl (Zc rfl)
 | cons x7 l6 =>
  unfold Z52 at h
  refine SR <| Ac (Zn rfl rfl (vt rfl) (vk rfl)) rfl <| Nl <| sq <| Cn rfl (fun hc => ?_) (fun hc => absurd (hsf1.consn (by simp)) (of_decide_eq_false hc))
  have hlti5 := of_decide_eq_true hc
  refine sk <| sq <| bk <| SR <| Md rfl <| Ac (Z6j rfl rfl Z2g Zz (vt rfl) (vt rfl) hsf1.lget) rfl <| Cv rfl (Zo 7 rfl rfl Z1g) fun g8 => As rfl <| Zi Zz 7 rfl <| Nl <| sq ?_
  obtain ⟨j9, hj9, x10, hx10, h⟩ := bs2 h
  refine AR Zw (by kernel_rfl) <| Zj Zz 7 rfl <| Zs rfl <| Sd (lo [3, 13] [] rfl fun S hs hr => Z1f rfl rfl Z4u (vh hs 3 rfl rfl) (vh hs 13 rfl rfl) hj9) <| Zj Zv 4 rfl <| SCl [12, 15] (Zhp _ _ _ hx10) Zf3 rfl <| Sd (lo [16] [] rfl fun S hs hr => Z1a rfl rfl (vh hs 16 rfl rfl)) <| Sn <| Cq rfl h (fun h => ?_) (fun h => ?_)
  ·refine SR <| Ab rfl <| Nl <| rt ?_
   cases h; exact Zm Tryz.results50 rfl (Zc rfl)
  ·refine sk <| Rg <| Ac (Z4d rfl rfl (vt rfl) (vk rfl) rfl hlti5) rfl <| Md rfl <| Nl ?_
   exact ⟨(_, _), Nat.lt_succ_self _, ⟨hsf1.next, h⟩, FX rfl⟩
def Z8w (x1 : Ray) (x2 : Z0l) : Option Bool :=
 (Z9f x1.Cube x2).bind fun x5 => some x5
theorem Zk8 : Q2 Tryz.prog 62 (rd Z0f) (rd (Z1 24 Ze)) (rd Z6) Z8w := fun x1 x2 r h => I0 Tryz.func62 rfl Tryz.ntmps62 rfl fun w H => by
 unfold Z8w at h
 refine SR <| Cv rfl (Zl 3 rfl rfl (vt rfl)) fun g3 => Cv rfl (Zl 4 rfl rfl (vt rfl)) fun g4 => Ab rfl <| Nl <| sq ?_
 obtain ⟨x5, hx5, h⟩ := Z9 h
 refine Rg <| Zk lRay_4 Zkv rfl <| Ld Zy 3 rfl <| Ld Z0v 4 rfl <| Cl [6, 7] (Zzz _ _ _ hx5) e50 rfl <| As rfl <| Nl <| rt ?_
 cases h; exact Zm Tryz.results62 rfl (Zc rfl)
def Zdz (a1 : Wide) (b2 : Wide) : Option Wide :=
 some (⟨(a1.Hi ^^^ b2.Hi), (a1.Lo ^^^ b2.Lo)⟩ : Wide)
theorem Zwq : Q2 Tryz.prog 233 (rd Ze) (rd Ze) (rd Ze) Zdz := fun a1 b2 r h => I0 Tryz.func233 rfl Tryz.ntmps233 rfl fun w H => by
 unfold Zdz at h
 refine SR <| Cv rfl (Zl 3 rfl rfl (vt rfl)) fun g3 => Cv rfl (Zl 4 rfl rfl (vt rfl)) fun g4 => Cv rfl (Zo 5 rfl rfl Z1l) fun g5 => Nl <| SR <| Zk lWide_0 Z2k rfl <| Ld Z0m 3 rfl <| Zk lWide_0 Z2k rfl <| Ld Z0m 4 rfl <| Ac (Zb1 rfl rfl (vt rfl) (vt rfl)) rfl <| Zk lWide_1 Z2f rfl <| Ld Z0m 3 rfl <| Zk lWide_1 Z2f rfl <| Ld Z0m 4 rfl <| Ac (Zb1 rfl rfl (vt rfl) (vt rfl)) rfl <| Ac (opb (⟨(a1.Hi ^^^ b2.Hi), (a1.Lo ^^^ b2.Lo)⟩ : Wide) Z1l rfl Z31 (pc Z48 (vt rfl) <| pc Z3n (vt rfl) <| pn rfl)) rfl <| Zi Zv 5 rfl <| Nl <| rt ?_
 cases h; exact Zm Tryz.results233 rfl (Zx rfl (i := 5) rfl Zv)
def Zar (a1 : Wide) (b2 : Wide) : Option Wide :=
 some (⟨(a1.Hi &&& b2.Hi), (a1.Lo &&& b2.Lo)⟩ : Wide)
theorem Zm8 : Q2 Tryz.prog 189 (rd Ze) (rd Ze) (rd Ze) Zar := fun a1 b2 r h => I0 Tryz.func189 rfl Tryz.ntmps189 rfl fun w H => by
 unfold Zar at h
 refine SR <| Cv rfl (Zl 3 rfl rfl (vt rfl)) fun g3 => Cv rfl (Zl 4 rfl rfl (vt rfl)) fun g4 => Cv rfl (Zo 5 rfl rfl Z1l) fun g5 => Nl <| SR <| Zk lWide_0 Z2k rfl <| Ld Z0m 3 rfl <| Zk lWide_0 Z2k rfl <| Ld Z0m 4 rfl <| Ac (Z4v rfl rfl (vt rfl) (vt rfl)) rfl <| Zk lWide_1 Z2f rfl <| Ld Z0m 3 rfl <| Zk lWide_1 Z2f rfl <| Ld Z0m 4 rfl <| Ac (Z4v rfl rfl (vt rfl) (vt rfl)) rfl <| Ac (opb (⟨(a1.Hi &&& b2.Hi), (a1.Lo &&& b2.Lo)⟩ : Wide) Z1l rfl Z31 (pc Z48 (vt rfl) <| pc Z3n (vt rfl) <| pn rfl)) rfl <| Zi Zv 5 rfl <| Nl <| rt ?_
 cases h; exact Zm Tryz.results189 rfl (Zx rfl (i := 5) rfl Zv)
end Go.Proofs.YtknpgojdkobgjaaGreat.W
set_option maxRecDepth 4000
namespace Go.Proofs.YtknpgojdkobgjaaGreat.W
open Go Go.Wb
theorem Zz8 : Ent Tryz.prog 233 := Ent.mk Tryz.func233 rfl rfl
theorem Zkr : Ent Tryz.prog 189 := Ent.mk Tryz.func189 rfl rfl
theorem Zt8 : Ent Tryz.prog 232 := Ent.mk Tryz.func232 rfl rfl
theorem Zr9 : Ent Tryz.prog 167 := Ent.mk Tryz.func167 rfl rfl
theorem Y1x : Ent Tryz.prog 102 := Ent.mk Tryz.func102 rfl rfl
theorem Z7j : Ent Tryz.prog 176 := Ent.mk Tryz.func176 rfl rfl
theorem Z69 : Ent Tryz.prog 175 := Ent.mk Tryz.func175 rfl rfl
theorem Zsh : Ent Tryz.prog 109 := Ent.mk Tryz.func109 rfl rfl
def Z93 (a1 : Wide) : Option Bool :=
 some ((decide (a1.Hi = (0 : BitVec 64))) && (decide (a1.Lo = (0 : BitVec 64))))
theorem Zwb : Q1 Tryz.prog 232 (rd Ze) (rd Z6) Z93 := fun a1 r h => I0 Tryz.func232 rfl Tryz.ntmps232 rfl fun w H => by
 unfold Z93 at h
 refine SR <| Cv rfl (Zl 2 rfl rfl (vt rfl)) fun g2 => Ab rfl <| Nl <| SR <| Zk lWide_0 Z2k rfl <| Ld Z0m 2 rfl <| Ac (Zeg rfl rfl (vt rfl) (vku (0 : BitVec 64) rfl)) rfl <| Md rfl <| Gd rfl (fun hq => Z2n lWide_1 rfl rfl Z2f (vt rfl)) <| Gd rfl (fun hq => Z1p rfl rfl Z0m (vgt rfl hq) (i := 2) rfl) <| Gd rfl (fun hq => Zeg rfl rfl (vgt rfl hq) (vku (0 : BitVec 64) rfl)) <| Ac (Z22 rfl rfl (vt rfl) (vt rfl)) rfl <| As rfl <| Nl <| rt ?_
 cases h; exact Zm Tryz.results232 rfl (Zc rfl)
def Zae (t1 : Tern) (x2 : Wide) : Option Bool :=
 (Zdz t1.Value x2).bind fun x5 => (Zar x5 t1.Mask).bind fun x6 => (Z93 x6).bind fun x7 => some x7
theorem Ztl : Q2 Tryz.prog 167 (rd Z3) (rd Ze) (rd Z6) Zae := fun t1 x2 r h => I0 Tryz.func167 rfl Tryz.ntmps167 rfl fun w H => by
 unfold Zae at h
 refine SR <| Cv rfl (Zl 3 rfl rfl (vt rfl)) fun g3 => Cv rfl (Zl 4 rfl rfl (vt rfl)) fun g4 => Ab rfl <| Nl <| sq ?_
 obtain ⟨x5, hx5, x6, hx6, x7, hx7, h⟩ := bs3 h
 refine AR Zw (by kernel_rfl) <| Zu lTern_0 Z2e rfl <| Zj Zv 3 rfl <| Zj Zv 4 rfl <| SCl [6, 7] (Zwq _ _ _ hx5) Zz8 rfl <| Zu lTern_1 Z1z rfl <| Zj Zv 3 rfl <| SCl [8, 10] (Zm8 _ _ _ hx6) Zkr rfl <| SCl [11] (Zwb _ _ hx7) Zt8 rfl <| SAs rfl <| Sn <| rt ?_
 cases h; exact Zm Tryz.results167 rfl (Zc rfl)
def Z7n (x1 : Zg) (x2 : Z0l) : Nat → Int → Option Bool
 | 0, _ => none
 | m7 + 1, x6 => (bif (decide (x6 < 24)) then (chk 24 x6).bind fun j8 => (chk 24 x6).bind fun j9 => (Zae (Vector.get x1 j8) (Vector.get x2 j9)).bind fun x10 => (bif (!x10) then some false else (Z7n x1 x2 m7) (IntKind.i64.wrap (x6 + 1))) else some true)
def Z9e (x1 : Zg) (x2 : Z0l) : Option Bool :=
 Z7n x1 x2 (((24 : Int) - 0).toNat + 1) 0
theorem Y1y : Q2 Tryz.prog 102 (rd (Z1 24 Z3)) (rd (Z1 24 Ze)) (rd Z6) Z9e := fun x1 x2 r h => I0 Tryz.func102 rfl Tryz.ntmps102 rfl fun w H => by
 unfold Z9e at h
 refine SR <| Cv rfl (Zl 3 rfl rfl (vt rfl)) fun g3 => Cv rfl (Zl 4 rfl rfl (vt rfl)) fun g4 => Ab rfl <| Nl <| sq <| SR <| Ak rfl <| Nl <| bk <| LG (d := []) (ν := Nat × Int) (fun (m7, x6) => (True ∧ Z7n x1 x2 m7 x6 = some r, m7, [(2, Z7 g3 (Lens.id (Z1 24 Z3))), (3, Z7 g4 (Lens.id (Z1 24 Ze))), (5, rd (Z0 .i64) x6)], [(3, Zb g3 87 (Z1 24 Z3) x1), (4, Zb g4 44 (Z1 24 Ze) x2)])) ((((24 : Int) - 0).toNat + 1), 0) ⟨trivial, h⟩ (FX rfl) ?_
 rintro ⟨m7, x6⟩ ⟨hsf1, h⟩
 dsimp only at h ⊢
 cases m7 with
 | zero => cases h
 | succ m7 =>
  unfold Z7n at h
  refine sq <| SR <| Md rfl <| Ac (Zn rfl rfl (vt rfl) (vk rfl)) rfl <| Nl <| Cq rfl h (fun h => ?_) (fun h => ?_)
  ·refine sk <| sq <| bk <| sq ?_
   obtain ⟨j8, hj8, j9, hj9, x10, hx10, h⟩ := bs3 h
   refine AR Zw (by kernel_rfl) <| Zs rfl <| Sd (lo [2, 10] [] rfl fun S hs hr => Z1f rfl rfl Z2g (vh hs 2 rfl rfl) (vh hs 10 rfl rfl) hj8) <| Zj Zz 3 rfl <| Zs rfl <| Sd (lo [3, 13] [] rfl fun S hs hr => Z1f rfl rfl Z4u (vh hs 3 rfl rfl) (vh hs 13 rfl rfl) hj9) <| Zj Zv 4 rfl <| SCl [12, 15] (Ztl _ _ _ hx10) Zr9 rfl <| Sd (lo [16] [] rfl fun S hs hr => Z1a rfl rfl (vh hs 16 rfl rfl)) <| Sn <| Cq rfl h (fun h => ?_) (fun h => ?_)
   ·refine SR <| Ab rfl <| Nl <| rt ?_
    cases h; exact Zm Tryz.results102 rfl (Zc rfl)
   ·refine sk <| Rg <| Md rfl <| Ac (Z0d rfl rfl (vt rfl) (vk rfl)) rfl <| As rfl <| Nl ?_
    exact ⟨(_, _), Nat.lt_succ_self _, ⟨trivial, h⟩, FX rfl⟩
  ·refine xt <| SR <| Ab rfl <| Nl <| rt ?_
   cases h; exact Zm Tryz.results102 rfl (Zc rfl)
def Zev (x1 : Ray) (x2 : Z0l) : Option Bool :=
 (Z9e x1.Cube x2).bind fun x5 => some x5
theorem Zqa : Q2 Tryz.prog 63 (rd Z0f) (rd (Z1 24 Ze)) (rd Z6) Zev := fun x1 x2 r h => I0 Tryz.func63 rfl Tryz.ntmps63 rfl fun w H => by
 unfold Zev at h
 refine SR <| Cv rfl (Zl 3 rfl rfl (vt rfl)) fun g3 => Cv rfl (Zl 4 rfl rfl (vt rfl)) fun g4 => Ab rfl <| Nl <| sq ?_
 obtain ⟨x5, hx5, h⟩ := Z9 h
 refine Rg <| Zk lRay_4 Zkv rfl <| Ld Zy 3 rfl <| Ld Z0v 4 rfl <| Cl [6, 7] (Y1y _ _ _ hx5) Y1x rfl <| As rfl <| Nl <| rt ?_
 cases h; exact Zm Tryz.results63 rfl (Zc rfl)
def Z4z (a1 : Wide) (b2 : Wide) : Option Wide :=
 some (⟨(a1.Hi &&& ~~~b2.Hi), (a1.Lo &&& ~~~b2.Lo)⟩ : Wide)
theorem Z7q : Q2 Tryz.prog 176 (rd Ze) (rd Ze) (rd Ze) Z4z := fun a1 b2 r h => I0 Tryz.func176 rfl Tryz.ntmps176 rfl fun w H => by
 unfold Z4z at h
 refine SR <| Cv rfl (Zl 3 rfl rfl (vt rfl)) fun g3 => Cv rfl (Zl 4 rfl rfl (vt rfl)) fun g4 => Cv rfl (Zo 5 rfl rfl Z1l) fun g5 => Nl <| SR <| Zk lWide_0 Z2k rfl <| Ld Z0m 3 rfl <| Zk lWide_0 Z2k rfl <| Ld Z0m 4 rfl <| Ac (Zcn rfl rfl (vt rfl) (vt rfl)) rfl <| Zk lWide_1 Z2f rfl <| Ld Z0m 3 rfl <| Zk lWide_1 Z2f rfl <| Ld Z0m 4 rfl <| Ac (Zcn rfl rfl (vt rfl) (vt rfl)) rfl <| Ac (opb (⟨(a1.Hi &&& ~~~b2.Hi), (a1.Lo &&& ~~~b2.Lo)⟩ : Wide) Z1l rfl Z31 (pc Z48 (vt rfl) <| pc Z3n (vt rfl) <| pn rfl)) rfl <| Zi Zv 5 rfl <| Nl <| rt ?_
 cases h; exact Zm Tryz.results176 rfl (Zx rfl (i := 5) rfl Zv)
def Z4f (a1 : Wide) (b2 : Wide) : Option Wide :=
 some (⟨(a1.Hi ||| b2.Hi), (a1.Lo ||| b2.Lo)⟩ : Wide)
theorem Z6k : Q2 Tryz.prog 175 (rd Ze) (rd Ze) (rd Ze) Z4f := fun a1 b2 r h => I0 Tryz.func175 rfl Tryz.ntmps175 rfl fun w H => by
 unfold Z4f at h
 refine SR <| Cv rfl (Zl 3 rfl rfl (vt rfl)) fun g3 => Cv rfl (Zl 4 rfl rfl (vt rfl)) fun g4 => Cv rfl (Zo 5 rfl rfl Z1l) fun g5 => Nl <| SR <| Zk lWide_0 Z2k rfl <| Ld Z0m 3 rfl <| Zk lWide_0 Z2k rfl <| Ld Z0m 4 rfl <| Ac (Zab rfl rfl (vt rfl) (vt rfl)) rfl <| Zk lWide_1 Z2f rfl <| Ld Z0m 3 rfl <| Zk lWide_1 Z2f rfl <| Ld Z0m 4 rfl <| Ac (Zab rfl rfl (vt rfl) (vt rfl)) rfl <| Ac (opb (⟨(a1.Hi ||| b2.Hi), (a1.Lo ||| b2.Lo)⟩ : Wide) Z1l rfl Z31 (pc Z48 (vt rfl) <| pc Z3n (vt rfl) <| pn rfl)) rfl <| Zi Zv 5 rfl <| Nl <| rt ?_
 cases h; exact Zm Tryz.results175 rfl (Zx rfl (i := 5) rfl Zv)
def Z54 : (List Tern) → Nat → Z0l → Option Z0l
 | [], i8, b7 => some b7
 | x10 :: l9, i8, b7 => (chk 24 (i8 : Int)).bind fun j12 => (Z4z (Vector.get b7 j12) x10.Mask).bind fun x13 => (Z5l x10.Value x10.Mask).bind fun x14 => (Z4f x13 x14).bind fun x15 => (chk 24 (i8 : Int)).bind fun j16 => (Z54 l9) (i8 + 1) (Vector.set b7 j16.1 x15 j16.2)
def Z8o (x1 : Zg) (x2 : Z0l) : Option Z0l :=
 Z54 (Vector.toList x1) 0 x2
theorem Zyt : Q2 Tryz.prog 109 (rd (Z1 24 Z3)) (rd (Z1 24 Ze)) (rd (Z1 24 Ze)) Z8o := fun x1 x2 r h => I0 Tryz.func109 rfl Tryz.ntmps109 rfl fun w H => by
 unfold Z8o at h
 refine SR <| Cv rfl (Zl 3 rfl rfl (vt rfl)) fun g3 => Cv rfl (Zl 4 rfl rfl (vt rfl)) fun g4 => Cv rfl (Zo 5 rfl rfl Z37) fun g5 => Nl <| sq <| SR <| Ld Z05 3 rfl <| Mk rfl <| Nl <| bk <| LG (d := []) (ν := (List Tern) × Nat × Z0l) (fun (l9, i8, b7) => (Sfx (Vector.toList x1) i8 l9 ∧ Z54 l9 i8 b7 = some r, l9.length, [(3, Z7 g4 (Lens.id (Z1 24 Ze))), (4, Z7 g5 (Lens.id (Z1 24 Ze))), (7, rd (Z1 24 Z3) x1), (8, rd (Z0 .i64) (i8 : Int))], [(4, Zb g4 44 (Z1 24 Ze) b7), (5, Zb g5 44 (Z1 24 Ze) (Vector.replicate 24 Z0e))])) ((Vector.toList x1), 0, x2) ⟨Sfx.start _, h⟩ (FX rfl) ?_
 rintro ⟨l9, i8, b7⟩ ⟨hsf1, h⟩
 dsimp only at hsf1 h ⊢
 cases l9 with
 | nil =>
  unfold Z54 at h
  refine SR <| Ac (Zn rfl rfl (vt rfl) (vk rfl)) rfl <| Nl <| sq <| Cn rfl (fun hc => absurd (of_decide_eq_true hc) (hsf1.niln (by simp))) (fun hc => ?_)
  refine xt <| SR <| Ld Z0v 4 rfl <| Zi Z0v 5 rfl <| Nl <| rt ?_
  cases h; exact Zm Tryz.results109 rfl (Zx rfl (i := 5) rfl Z0v)
 | cons x10 l9 =>
  unfold Z54 at h
  refine SR <| Ac (Zn rfl rfl (vt rfl) (vk rfl)) rfl <| Nl <| sq <| Cn rfl (fun hc => ?_) (fun hc => absurd (hsf1.consn (by simp)) (of_decide_eq_false hc))
  have hlti8 := of_decide_eq_true hc
  refine sk <| sq <| bk <| SR <| Md rfl <| Ac (Z6j rfl rfl Z3h Zz (vt rfl) (vt rfl) hsf1.lget) rfl <| Cv rfl (Zo 7 rfl rfl Z1g) fun g11 => As rfl <| Zi Zz 7 rfl <| Nl ?_
  obtain ⟨j12, hj12, x13, hx13, x14, hx14, x15, hx15, h⟩ := bs4 h
  obtain ⟨j16, hj16, h⟩ := Z9 h
  refine AR Zw (by kernel_rfl) <| Zs rfl <| Zs rfl <| Sd (lo [3, 13] [] rfl fun S hs hr => Z1f rfl rfl Z4u (vh hs 3 rfl rfl) (vh hs 13 rfl rfl) hj12) <| Zj Zv 4 rfl <| Zu lTern_1 Z1z rfl <| Zj Zv 7 rfl <| SCl [15, 17] (Z7q _ _ _ hx13) Z7j rfl <| Zu lTern_0 Z2e rfl <| Zj Zv 7 rfl <| Zu lTern_1 Z1z rfl <| Zj Zv 7 rfl <| SCl [20, 22] (Z9a _ _ _ hx14) Z9v rfl <| SCl [18, 23] (Z6k _ _ _ hx15) Z69 rfl <| Sd (lo [3, 12] [] rfl fun S hs hr => Z1f rfl rfl Z4u (vh hs 3 rfl rfl) (vh hs 12 rfl rfl) hj16) <| SSt Zv 4 rfl <| Sn <| Rg <| Ac (Z4d rfl rfl (vt rfl) (vk rfl) rfl hlti8) rfl <| Md rfl <| Nl ?_
  exact ⟨(_, _, _), Nat.lt_succ_self _, ⟨hsf1.next, h⟩, FX rfl⟩
def Z9m (x1 : Ray) (x2 : Z0l) : Option End :=
 (Z8o x1.Rewrite x2).bind fun x6 => some (⟨x1.At, x1.Port, x1.Max, x1.Left, x6⟩ : End)
theorem Zm4 : Q2 Tryz.prog 64 (rd Z0f) (rd (Z1 24 Ze)) (rd Z3r) Z9m := fun x1 x2 r h => I0 Tryz.func64 rfl Tryz.ntmps64 rfl fun w H => by
 unfold Z9m at h
 refine SR <| Cv rfl (Zl 3 rfl rfl (vt rfl)) fun g3 => Cv rfl (Zl 4 rfl rfl (vt rfl)) fun g4 => Cv rfl (Zo 5 rfl rfl Zag) fun g5 => Nl <| sq ?_
 obtain ⟨x6, hx6, h⟩ := Z9 h
 refine AR Zw (by kernel_rfl) <| Zu lRay_0 Zma rfl <| Zj Zq 3 rfl <| Zu lRay_1 Zmg rfl <| Zj Zq 3 rfl <| Zu lRay_2 Zjy rfl <| Zj Zq 3 rfl <| Zu lRay_3 Znv rfl <| Zj ty4 3 rfl <| Zu lRay_5 Zm7 rfl <| Zj Z05 3 rfl <| Zj Z0v 4 rfl <| SCl [14, 15] (Zyt _ _ _ hx6) Zsh rfl <| Sd (lo [6, 8, 10, 12, 16] [] rfl fun S hs hr => opb (⟨x1.At, x1.Port, x1.Max, x1.Left, x6⟩ : End) Zag rfl Zmt (pc Zke (vh hs 6 rfl rfl) <| pc Zks (vh hs 8 rfl rfl) <| pc Zjm (vh hs 10 rfl rfl) <| pc Zo8 (vh hs 12 rfl rfl) <| pc Znx (vh hs 16 rfl rfl) <| pn rfl)) <| SSt Z9n 5 rfl <| Sn <| rt ?_
 cases h; exact Zm Tryz.results64 rfl (Zx rfl (i := 5) rfl Z9n)
def Zd8 (a1 : Wide) (b2 : Wide) : Option Wide :=
 some (⟨(a1.Hi &&& ~~~b2.Hi), (a1.Lo &&& ~~~b2.Lo)⟩ : Wide)
theorem Zrl : Q2 Tryz.prog 188 (rd Ze) (rd Ze) (rd Ze) Zd8 := fun a1 b2 r h => I0 Tryz.func188 rfl Tryz.ntmps188 rfl fun w H => by
 unfold Zd8 at h
 refine SR <| Cv rfl (Zl 3 rfl rfl (vt rfl)) fun g3 => Cv rfl (Zl 4 rfl rfl (vt rfl)) fun g4 => Cv rfl (Zo 5 rfl rfl Z1l) fun g5 => Nl <| SR <| Zk lWide_0 Z2k rfl <| Ld Z0m 3 rfl <| Zk lWide_0 Z2k rfl <| Ld Z0m 4 rfl <| Ac (Zcn rfl rfl (vt rfl) (vt rfl)) rfl <| Zk lWide_1 Z2f rfl <| Ld Z0m 3 rfl <| Zk lWide_1 Z2f rfl <| Ld Z0m 4 rfl <| Ac (Zcn rfl rfl (vt rfl) (vt rfl)) rfl <| Ac (opb (⟨(a1.Hi &&& ~~~b2.Hi), (a1.Lo &&& ~~~b2.Lo)⟩ : Wide) Z1l rfl Z31 (pc Z48 (vt rfl) <| pc Z3n (vt rfl) <| pn rfl)) rfl <| Zi Zv 5 rfl <| Nl <| rt ?_
 cases h; exact Zm Tryz.results188 rfl (Zx rfl (i := 5) rfl Zv)
end Go.Proofs.YtknpgojdkobgjaaGreat.W
set_option maxRecDepth 4000
namespace Go.Proofs.YtknpgojdkobgjaaGreat.W
open Go Go.Wb
theorem Ztz : Ent Tryz.prog 188 := Ent.mk Tryz.func188 rfl rfl
theorem Zzs : Ent Tryz.prog 187 := Ent.mk Tryz.func187 rfl rfl
theorem Zpo : Ent Tryz.prog 119 := Ent.mk Tryz.func119 rfl rfl
def Zdn (a1 : Wide) (b2 : Wide) : Option Wide :=
 some (⟨(a1.Hi ||| b2.Hi), (a1.Lo ||| b2.Lo)⟩ : Wide)
theorem Zsw : Q2 Tryz.prog 187 (rd Ze) (rd Ze) (rd Ze) Zdn := fun a1 b2 r h => I0 Tryz.func187 rfl Tryz.ntmps187 rfl fun w H => by
 unfold Zdn at h
 refine SR <| Cv rfl (Zl 3 rfl rfl (vt rfl)) fun g3 => Cv rfl (Zl 4 rfl rfl (vt rfl)) fun g4 => Cv rfl (Zo 5 rfl rfl Z1l) fun g5 => Nl <| SR <| Zk lWide_0 Z2k rfl <| Ld Z0m 3 rfl <| Zk lWide_0 Z2k rfl <| Ld Z0m 4 rfl <| Ac (Zab rfl rfl (vt rfl) (vt rfl)) rfl <| Zk lWide_1 Z2f rfl <| Ld Z0m 3 rfl <| Zk lWide_1 Z2f rfl <| Ld Z0m 4 rfl <| Ac (Zab rfl rfl (vt rfl) (vt rfl)) rfl <| Ac (opb (⟨(a1.Hi ||| b2.Hi), (a1.Lo ||| b2.Lo)⟩ : Wide) Z1l rfl Z31 (pc Z48 (vt rfl) <| pc Z3n (vt rfl) <| pn rfl)) rfl <| Zi Zv 5 rfl <| Nl <| rt ?_
 cases h; exact Zm Tryz.results187 rfl (Zx rfl (i := 5) rfl Zv)
def Z83 (x1 : Zg) : Nat → Z0l → Int → Option Z0l
 | 0, _, _ => none
 | m10 + 1, b8, x9 => (bif (decide (x9 < 24)) then (chk 24 x9).bind fun j11 => (chk 24 x9).bind fun j12 => (Zd8 (Vector.get b8 j11) ((Vector.get x1 j12).Mask)).bind fun x13 => (chk 24 x9).bind fun j14 => (chk 24 x9).bind fun j15 => (Zar ((Vector.get x1 j14).Value) ((Vector.get x1 j15).Mask)).bind fun x16 => (Zdn x13 x16).bind fun x17 => (chk 24 x9).bind fun j18 => (Z83 x1 m10) (Vector.set b8 j18.1 x17 j18.2) (IntKind.i64.wrap (x9 + 1)) else some b8)
def Zac (x1 : Zg) (x2 : Z0l) : Option Z0l :=
 Z83 x1 (((24 : Int) - 0).toNat + 1) x2 0
theorem Y19 : Q2 Tryz.prog 119 (rd (Z1 24 Z3)) (rd (Z1 24 Ze)) (rd (Z1 24 Ze)) Zac := fun x1 x2 r h => I0 Tryz.func119 rfl Tryz.ntmps119 rfl fun w H => by
 unfold Zac at h
 refine SR <| Cv rfl (Zl 3 rfl rfl (vt rfl)) fun g3 => Cv rfl (Zl 4 rfl rfl (vt rfl)) fun g4 => Cv rfl (Zo 5 rfl rfl Z37) fun g5 => Nl <| sq <| SR <| Ak rfl <| Nl <| bk <| LG (d := []) (ν := Nat × Z0l × Int) (fun (m10, b8, x9) => (True ∧ Z83 x1 m10 b8 x9 = some r, m10, [(2, Z7 g3 (Lens.id (Z1 24 Z3))), (3, Z7 g4 (Lens.id (Z1 24 Ze))), (4, Z7 g5 (Lens.id (Z1 24 Ze))), (5, rd (Z0 .i64) x9)], [(3, Zb g3 101 (Z1 24 Z3) x1), (4, Zb g4 44 (Z1 24 Ze) b8), (5, Zb g5 44 (Z1 24 Ze) (Vector.replicate 24 Z0e))])) ((((24 : Int) - 0).toNat + 1), x2, 0) ⟨trivial, h⟩ (FX rfl) ?_
 rintro ⟨m10, b8, x9⟩ ⟨hsf1, h⟩
 dsimp only at h ⊢
 cases m10 with
 | zero => cases h
 | succ m10 =>
  unfold Z83 at h
  refine sq <| SR <| Md rfl <| Ac (Zn rfl rfl (vt rfl) (vk rfl)) rfl <| Nl <| Cq rfl h (fun h => ?_) (fun h => ?_)
  ·refine sk <| sq <| bk ?_
   obtain ⟨j11, hj11, j12, hj12, x13, hx13, j14, hj14, h⟩ := bs4 h
   obtain ⟨j15, hj15, x16, hx16, x17, hx17, j18, hj18, h⟩ := bs4 h
   refine AR Zw (by kernel_rfl) <| Zs rfl <| Zs rfl <| Sd (lo [3, 11] [] rfl fun S hs hr => Z1f rfl rfl Z4u (vh hs 3 rfl rfl) (vh hs 11 rfl rfl) hj11) <| Zj Zv 4 rfl <| Zs rfl <| Sd (lo [2, 14] [] rfl fun S hs hr => Z1f rfl rfl Z3h (vh hs 2 rfl rfl) (vh hs 14 rfl rfl) hj12) <| Zu lTern_1 Z1z rfl <| Zj Zv 3 rfl <| SCl [13, 17] (Zrl _ _ _ hx13) Ztz rfl <| Zs rfl <| Sd (lo [2, 19] [] rfl fun S hs hr => Z1f rfl rfl Z3h (vh hs 2 rfl rfl) (vh hs 19 rfl rfl) hj14) <| Zu lTern_0 Z2e rfl <| Zj Zv 3 rfl <| Zs rfl <| Sd (lo [2, 23] [] rfl fun S hs hr => Z1f rfl rfl Z3h (vh hs 2 rfl rfl) (vh hs 23 rfl rfl) hj15) <| Zu lTern_1 Z1z rfl <| Zj Zv 3 rfl <| SCl [22, 26] (Zm8 _ _ _ hx16) Zkr rfl <| SCl [18, 27] (Zsw _ _ _ hx17) Zzs rfl <| Sd (lo [3, 10] [] rfl fun S hs hr => Z1f rfl rfl Z4u (vh hs 3 rfl rfl) (vh hs 10 rfl rfl) hj18) <| SSt Zv 4 rfl <| Sn <| Rg <| Md rfl <| Ac (Z0d rfl rfl (vt rfl) (vk rfl)) rfl <| As rfl <| Nl ?_
   exact ⟨(_, _, _), Nat.lt_succ_self _, ⟨trivial, h⟩, FX rfl⟩
  ·refine xt <| SR <| Ld Z0v 4 rfl <| Zi Z0v 5 rfl <| Nl <| rt ?_
   cases h; exact Zm Tryz.results119 rfl (Zx rfl (i := 5) rfl Z0v)
def Zes (x1 : Ray) (x2 : Z0l) : Option End :=
 (Zac x1.Rewrite x2).bind fun x6 => some (⟨x1.At, x1.Port, x1.Max, x1.Left, x6⟩ : End)
theorem Zs9 : Q2 Tryz.prog 65 (rd Z0f) (rd (Z1 24 Ze)) (rd Z3r) Zes := fun x1 x2 r h => I0 Tryz.func65 rfl Tryz.ntmps65 rfl fun w H => by
 unfold Zes at h
 refine SR <| Cv rfl (Zl 3 rfl rfl (vt rfl)) fun g3 => Cv rfl (Zl 4 rfl rfl (vt rfl)) fun g4 => Cv rfl (Zo 5 rfl rfl Zag) fun g5 => Nl <| sq ?_
 obtain ⟨x6, hx6, h⟩ := Z9 h
 refine AR Zw (by kernel_rfl) <| Zu lRay_0 Zma rfl <| Zj Zq 3 rfl <| Zu lRay_1 Zmg rfl <| Zj Zq 3 rfl <| Zu lRay_2 Zjy rfl <| Zj Zq 3 rfl <| Zu lRay_3 Znv rfl <| Zj ty4 3 rfl <| Zu lRay_5 Zm7 rfl <| Zj Z05 3 rfl <| Zj Z0v 4 rfl <| SCl [14, 15] (Y19 _ _ _ hx6) Zpo rfl <| Sd (lo [6, 8, 10, 12, 16] [] rfl fun S hs hr => opb (⟨x1.At, x1.Port, x1.Max, x1.Left, x6⟩ : End) Zag rfl Zmt (pc Zke (vh hs 6 rfl rfl) <| pc Zks (vh hs 8 rfl rfl) <| pc Zjm (vh hs 10 rfl rfl) <| pc Zo8 (vh hs 12 rfl rfl) <| pc Znx (vh hs 16 rfl rfl) <| pn rfl)) <| SSt Z9n 5 rfl <| Sn <| rt ?_
 cases h; exact Zm Tryz.results65 rfl (Zx rfl (i := 5) rfl Z9n)
def Zb5 (p1 : Int) : Option Switch :=
 some { (⟨(Vector.replicate 4 []), []⟩ : Switch) with Tables := (Vector.set ((⟨(Vector.replicate 4 []), []⟩ : Switch).Tables) (⟨0, by decide⟩ : _root_.Fin 4).1 [(⟨0, 0, 0, 0, 0, [], [(⟨4, 0, Z0e, Z0e, [(⟨0, p1, 0, 0, 0, Z6l⟩ : Action)]⟩ : Inst)]⟩ : Flow)] (⟨0, by decide⟩ : _root_.Fin 4).2) }
theorem Zm0 : Q1 Tryz.prog 120 (rd (Z0 .i64)) (rd Z0s) Zb5 := fun p1 r h => I0 Tryz.func120 rfl Tryz.ntmps120 rfl fun w H => by
 unfold Zb5 at h
 refine SR <| Cv rfl (Zo 3 rfl rfl Zal) fun g2 => Nl <| SR <| Ac (opb (⟨(Vector.replicate 4 []), []⟩ : Switch) Zal rfl Zrj (pn rfl)) rfl <| Cv rfl (Zo 4 rfl rfl Zal) fun g3 => Zi Z46 4 rfl <| Nl <| SR <| Md rfl <| Ac (opb (⟨0, p1, 0, 0, 0, Z6l⟩ : Action) Z55 rfl Zxg (pc Zzf (vk rfl) <| pc Y22 (vt rfl) <| pn rfl)) rfl <| Ac (osl Z0p Z55 rfl (vt rfl)) rfl <| Ac (opb (⟨4, 0, Z0e, Z0e, [(⟨0, p1, 0, 0, 0, Z6l⟩ : Action)]⟩ : Inst) Z45 rfl Zn4 (pc Y02 (vk rfl) <| pc Zpu (vt rfl) <| pn rfl)) rfl <| Ac (osl Zcz Z45 rfl (vt rfl)) rfl <| Ac (opb (⟨0, 0, 0, 0, 0, [], [(⟨4, 0, Z0e, Z0e, [(⟨0, p1, 0, 0, 0, Z6l⟩ : Action)]⟩ : Inst)]⟩ : Flow) Zgc rfl Zwm (pc Zwx (vt rfl) <| pn rfl)) rfl <| Ac (osl Z5u Zgc rfl (vt rfl)) rfl <| Zk Zcj Zhr rfl <| Ac (Z1f rfl rfl Zj0 (vt rfl) (vk rfl) rfl) rfl <| Zi Z4y 4 rfl <| Nl <| SR <| Ld Z46 4 rfl <| Zi Z46 3 rfl <| Nl <| rt ?_
 cases h; exact Zm Tryz.results120 rfl (Zx rfl (i := 3) rfl Z46)
def Z76 : Option Zg :=
 some (Vector.replicate 24 Z0n)
theorem Zbh : Q0 Tryz.prog 73 (rd (Z1 24 Z3)) Z76 := fun r h => I0 Tryz.func73 rfl Tryz.ntmps73 rfl fun w H => by
 unfold Z76 at h
 refine SR <| Cv rfl (Zo 1 rfl rfl Z1k) fun g1 => Nl <| SR <| Ac (Z15 (ps := []) (x := (Vector.replicate 24 Z0n)) rfl rfl rfl (by kernel_rfl) Z1k rfl) rfl <| Zi Zy 1 rfl <| Nl <| rt ?_
 cases h; exact Zm Tryz.results73 rfl (Zx rfl (i := 1) rfl Zy)
def Z89 : Option Zg :=
 some (Vector.replicate 24 Z0n)
theorem Zhv : Q0 Tryz.prog 77 (rd (Z1 24 Z3)) Z89 := fun r h => I0 Tryz.func77 rfl Tryz.ntmps77 rfl fun w H => by
 unfold Z89 at h
 refine SR <| Cv rfl (Zo 1 rfl rfl Z3m) fun g1 => Nl <| SR <| Ac (Z15 (ps := []) (x := (Vector.replicate 24 Z0n)) rfl rfl rfl (by kernel_rfl) Z3m rfl) rfl <| Zi Z05 1 rfl <| Nl <| rt ?_
 cases h; exact Zm Tryz.results77 rfl (Zx rfl (i := 1) rfl Z05)
def Zdp (i1 : Int) (j2 : Int) (x3 : (List Flow)) : Option Int :=
 (lget x3 i1).bind fun x4 => (lget x3 j2).bind fun x5 => (bif (decide (x4.Priority > x5.Priority)) then some (-1) else (lget x3 i1).bind fun x6 => (lget x3 j2).bind fun x7 => (bif (decide (x6.Priority < x7.Priority)) then some 1 else some 0))
theorem Zt1 : Q3 Tryz.prog 201 (rd (Z0 .i64)) (rd (Z0 .i64)) (rp (Z4 Z2d)) (rd (Z0 .i64)) Zdp := fun i1 j2 x3 r h => I0 Tryz.func201 rfl Tryz.ntmps201 rfl fun w H => by
 unfold Zdp at h
 refine SR <| Ak rfl <| Nl <| sq <| bk <| sq ?_
 obtain ⟨x4, hx4, x5, hx5, h⟩ := bs2 h
 refine AR Zw (by kernel_rfl) <| SLp Z4y rfl <| Zs rfl <| Sd (lo [7, 8] [] rfl fun S hs hr => Z0z rfl rfl Z5u (vh hs 7 rfl rfl) (vh hs 8 rfl rfl) hx4) <| SFp Z8a Zb3 rfl <| SLp Zq rfl <| SLp Z4y rfl <| Zs rfl <| Sd (lo [12, 13] [] rfl fun S hs hr => Z0z rfl rfl Z5u (vh hs 12 rfl rfl) (vh hs 13 rfl rfl) hx5) <| SFp Z8a Zb3 rfl <| SLp Zq rfl <| Sd (lo [11, 16] [] rfl fun S hs hr => Z2w rfl rfl (vh hs 11 rfl rfl) (vh hs 16 rfl rfl)) <| SAs rfl <| Sn <| Cq rfl h (fun h => ?_) (fun h => ?_)
 ·refine SR <| Ak rfl <| Nl <| rt ?_
  cases h; exact Zm Tryz.results201 rfl (Zc rfl)
 ·refine sq ?_
  obtain ⟨x6, hx6, x7, hx7, h⟩ := bs2 h
  refine AR Zw (by kernel_rfl) <| SLp Z4y rfl <| Zs rfl <| Sd (lo [19, 20] [] rfl fun S hs hr => Z0z rfl rfl Z5u (vh hs 19 rfl rfl) (vh hs 20 rfl rfl) hx6) <| SFp Z8a Zb3 rfl <| SLp Zq rfl <| SLp Z4y rfl <| Zs rfl <| Sd (lo [24, 25] [] rfl fun S hs hr => Z0z rfl rfl Z5u (vh hs 24 rfl rfl) (vh hs 25 rfl rfl) hx7) <| SFp Z8a Zb3 rfl <| SLp Zq rfl <| Sd (lo [23, 28] [] rfl fun S hs hr => Zn rfl rfl (vh hs 23 rfl rfl) (vh hs 28 rfl rfl)) <| SAs rfl <| Sn <| Cq rfl h (fun h => ?_) (fun h => ?_)
  ·refine SR <| Ak rfl <| Nl <| rt ?_
   cases h; exact Zm Tryz.results201 rfl (Zc rfl)
  ·refine sk <| SR <| Ak rfl <| Nl <| rt ?_
   cases h; exact Zm Tryz.results201 rfl (Zc rfl)
def Zd4 (a3 : Int) (x5 : (Int → Int → Option Int)) (go1 : (List Int) → Int → Option (List Int)) (i9 : Int) : Nat → (List Int) → Int → Option (List Int)
 | 0, _, _ => none
 | m15 + 1, l13, j14 => (opt (decide (j14 > a3)) (lget l13 j14)).bind fun x16 => (opt (decide (j14 > a3)) (lget l13 (IntKind.i64.wrap (j14 - 1)))).bind fun x17 => (opt (decide (j14 > a3)) (x5 x16 x17)).bind fun x18 => (bif ((decide (j14 > a3)) && (decide (x18 < 0))) then (lget l13 (IntKind.i64.wrap (j14 - 1))).bind fun x19 => (lget l13 j14).bind fun x20 => (lget l13 j14).bind fun x21 => (lget (List.set l13 j14.toNat x19) (IntKind.i64.wrap (j14 - 1))).bind fun x22 => (Zd4 a3 x5 go1 i9 m15) (List.set (List.set l13 j14.toNat x19) (IntKind.i64.wrap (j14 - 1)).toNat x20) (IntKind.i64.wrap (j14 - 1)) else go1 l13 (IntKind.i64.wrap (i9 + 1)))
def Z8g (b4 : Int) (a3 : Int) (x5 : (Int → Int → Option Int)) : Nat → (List Int) → Int → Option (List Int)
 | 0, _, _ => none
 | m10 + 1, l8, i9 => (bif (decide (i9 < b4)) then Zd4 a3 x5 (Z8g b4 a3 x5 m10) i9 Z27 l8 i9 else some l8)
def Zck (d1 : (List Int)) (a3 : Int) (b4 : Int) (x5 : (Int → Int → Option Int)) : Option (List Int) :=
 Z8g b4 a3 x5 (((b4 : Int) - (IntKind.i64.wrap (a3 + 1))).toNat + 1) d1 (IntKind.i64.wrap (a3 + 1))
theorem Zl7 (v2 : Value) (d1 : (List Int)) (a3 : Int) (b4 : Int) (x5 : (Int → Int → Option Int)) (r : (List Int)) (h : Zck d1 a3 b4 x5 = some r) : Con Tryz.prog 301 [Zh v2, rd (Z0 .i64) a3, rd (Z0 .i64) b4, fn2 Tryz.prog (Z0 .i64) (Z0 .i64) (Z0 .i64) x5] (Za v2 3 (Z0 .i64) d1) (fun _ : Unit => top) (fun _ => Za v2 3 (Z0 .i64) r) := by
 refine Con.intro Tryz.func301 rfl Tryz.ntmps301 rfl fun w H X => ?_
 unfold Zck at h
 refine SR <| Md rfl <| Ac (Z0d rfl rfl (vt rfl) (vk rfl)) rfl <| As rfl <| Nl <| bk <| LG (d := []) (ν := Nat × (List Int) × Int) (fun (m10, l8, i9) => (True ∧ Z8g b4 a3 x5 m10 l8 i9 = some r, m10, [(0, Zh v2), (1, rd (Z0 .i64) a3), (2, rd (Z0 .i64) b4), (3, fn2 Tryz.prog (Z0 .i64) (Z0 .i64) (Z0 .i64) x5), (8, rd (Z0 .i64) i9)], [(0, Za v2 3 (Z0 .i64) l8)])) ((((b4 : Int) - (IntKind.i64.wrap (a3 + 1))).toNat + 1), d1, (IntKind.i64.wrap (a3 + 1))) ⟨trivial, h⟩ (FX rfl) ?_
 rintro ⟨m10, l8, i9⟩ ⟨hsf1, h⟩
 dsimp only at h ⊢
 cases m10 with
 | zero => cases h
 | succ m10 =>
  unfold Z8g at h
  refine sq <| SR <| Md rfl <| Md rfl <| Ac (Zn rfl rfl (vt rfl) (vt rfl)) rfl <| Nl <| Cq rfl h (fun h => ?_) (fun h => ?_)
  ·refine sk <| sq <| bk <| SR <| Md rfl <| As rfl <| Nl <| bk <| LG (d := []) (ν := Nat × (List Int) × Int) (fun (m15, l13, j14) => (True ∧ Zd4 a3 x5 (Z8g b4 a3 x5 m10) i9 m15 l13 j14 = some r, m15, [(0, Zh v2), (1, rd (Z0 .i64) a3), (2, rd (Z0 .i64) b4), (3, fn2 Tryz.prog (Z0 .i64) (Z0 .i64) (Z0 .i64) x5), (8, rd (Z0 .i64) i9), (9, rd (Z0 .i64) j14)], [(0, Za v2 3 (Z0 .i64) l13)])) (Z27, l8, i9) ⟨trivial, h⟩ (FX rfl) ?_
   rintro ⟨m15, l13, j14⟩ ⟨hsf2, h⟩
   dsimp only at h ⊢
   cases m15 with
   | zero => cases h
   | succ m15 =>
    unfold Zd4 at h
    refine sq <| sq ?_
    obtain ⟨x16, hx16, x17, hx17, x18, hx18, h⟩ := bs3 h
    refine AR Zw (by kernel_rfl) <| Zs rfl <| Zs rfl <| Sd (lo [18, 19] [] rfl fun S hs hr => Z2w rfl rfl (vh hs 18 rfl rfl) (vh hs 19 rfl rfl)) <| Zs rfl <| Sd (lg [3, 21] [] rfl fun hq S hs hr => Zt (A := fn2 Tryz.prog (Z0 .i64) (Z0 .i64) (Z0 .i64) x5) rfl rfl (vh hs 3 rfl rfl)) <| Sd (lg [0, 21] [] rfl fun hq S hs hr => Zt (A := Zh v2) rfl rfl (vh hs 0 rfl rfl)) <| Sd (lg [9, 21] [] rfl fun hq S hs hr => Zt (A := rd (Z0 .i64) j14) rfl rfl (vh hs 9 rfl rfl)) <| Sd (lg [23, 24, 21] [0] rfl fun hq S hs hr => Z1u 0 rfl rfl Z0q (vgt ((hs 23 rfl).trans rfl) hq) ((hr 0 rfl).trans rfl) (vgt ((hs 24 rfl).trans rfl) hq) (Z2s hx16 hq)) <| Sd (lg [25, 21] [0] rfl fun hq S hs hr => Z10 0 rfl rfl Zq (vgt ((hs 25 rfl).trans rfl) hq) ((hr 0 rfl).trans rfl) (Z09 (Z2s hx16 hq)).2) <| Sd (lg [0, 21] [] rfl fun hq S hs hr => Zt (A := Zh v2) rfl rfl (vh hs 0 rfl rfl)) <| Sd (lg [9, 21] [] rfl fun hq S hs hr => Zt (A := rd (Z0 .i64) j14) rfl rfl (vh hs 9 rfl rfl)) <| Sd (lg [28, 21] [] rfl fun hq S hs hr => Z0i rfl rfl (vgt ((hs 28 rfl).trans rfl) hq) (vk rfl)) <| Sd (lg [27, 29, 21] [0] rfl fun hq S hs hr => Z1u 0 rfl rfl Z0q (vgt ((hs 27 rfl).trans rfl) hq) ((hr 0 rfl).trans rfl) (vgt ((hs 29 rfl).trans rfl) hq) (Z2s hx17 hq)) <| Sd (lg [30, 21] [0] rfl fun hq S hs hr => Z10 0 rfl rfl Zq (vgt ((hs 30 rfl).trans rfl) hq) ((hr 0 rfl).trans rfl) (Z09 (Z2s hx17 hq)).2) <| Sd (lg [22, 26, 31, 21] [] rfl fun hq S hs hr => Z5e (Z2s hx18 hq) rfl rfl (vgt ((hs 22 rfl).trans rfl) hq) (vgt ((hs 26 rfl).trans rfl) hq) (vgt ((hs 31 rfl).trans rfl) hq)) <| Sd (lg [32, 21] [] rfl fun hq S hs hr => Zn rfl rfl (vgt ((hs 32 rfl).trans rfl) hq) (vk rfl)) <| Sd (lo [33, 21] [] rfl fun S hs hr => Z22 rfl rfl (vh hs 21 rfl rfl) (vh hs 33 rfl rfl)) <| Sn <| Cq rfl h (fun h => ?_) (fun h => ?_)
    ·refine sk <| sq <| bk <| AW.vlen 0 rfl fun hvl0_266 => ?_
     obtain ⟨x19, hx19, x20, hx20, x21, hx21, x22, hx22, h⟩ := bs4 h
     refine AR Zw (by kernel_rfl) <| SMw rfl <| Zs rfl <| SMw rfl <| Zs rfl <| Sd (lo [40] [] rfl fun S hs hr => Z0i rfl rfl (vh hs 40 rfl rfl) (vk rfl)) <| SMw rfl <| Zs rfl <| Sd (lo [43] [] rfl fun S hs hr => Z0i rfl rfl (vh hs 43 rfl rfl) (vk rfl)) <| Sd (lo [42, 44] [] rfl fun S hs hr => Z19 (l := l13) hvl0_266 rfl rfl rfl Z0q (vh hs 42 rfl rfl) (vh hs 44 rfl rfl) hx19) <| Sd (lo [45] [0] rfl fun S hs hr => Z10 0 rfl rfl Zq (vh hs 45 rfl rfl) ((hr 0 rfl).trans rfl) (Z09 hx19).2) <| SMw rfl <| Zs rfl <| Sd (lo [47, 48] [] rfl fun S hs hr => Z19 (l := l13) hvl0_266 rfl rfl rfl Z0q (vh hs 47 rfl rfl) (vh hs 48 rfl rfl) hx20) <| Sd (lo [49] [0] rfl fun S hs hr => Z10 0 rfl rfl Zq (vh hs 49 rfl rfl) ((hr 0 rfl).trans rfl) (Z09 hx20).2) <| Sd (lo [37, 38] [] rfl fun S hs hr => Z19 (l := l13) hvl0_266 rfl rfl rfl Z0q (vh hs 37 rfl rfl) (vh hs 38 rfl rfl) hx21) <| Sd (Z2m [51, 46] [0] rfl fun S hs hr => Z2b 0 rfl rfl Zq (vh hs 51 rfl rfl) ((hr 0 rfl).trans rfl) (Z09 hx21).2 (vh hs 46 rfl rfl)) <| Sd (lo [39, 41] [] rfl fun S hs hr => Z19 (l := (List.set l13 j14.toNat x19)) hvl0_266 (by simp) rfl rfl Z0q (vh hs 39 rfl rfl) (vh hs 41 rfl rfl) hx22) <| Sd (Z2m [52, 50] [0] rfl fun S hs hr => Z2b 0 rfl rfl Zq (vh hs 52 rfl rfl) ((hr 0 rfl).trans rfl) (Z09 hx22).2 (vh hs 50 rfl rfl)) <| Sn <| Rg <| Md rfl <| Ac (Z0i rfl rfl (vt rfl) (vk rfl)) rfl <| As rfl <| Nl ?_
     exact ⟨(_, _, _), Nat.lt_succ_self _, ⟨trivial, h⟩, FX rfl⟩
    ·refine xt <| Rg <| Md rfl <| Ac (Z0d rfl rfl (vt rfl) (vk rfl)) rfl <| As rfl <| Nl ?_
     exact ⟨(_, _, _), Nat.lt_succ_self _, ⟨trivial, h⟩, FX rfl⟩
  ·refine xt ?_
   cases h; exact Z1e (i := 0) Tryz.results301 rfl rfl
def Zcd (n5 : Int) (b4 : Int) (a3 : Int) : Nat → (List Int) → Int → Option (List Int)
 | 0, _, _ => none
 | m11 + 1, l9, i10 => (bif (decide (i10 < n5)) then (lget l9 (IntKind.i64.wrap (b4 + i10))).bind fun x12 => (lget l9 (IntKind.i64.wrap (a3 + i10))).bind fun x13 => (lget l9 (IntKind.i64.wrap (a3 + i10))).bind fun x14 => (lget (List.set l9 (IntKind.i64.wrap (a3 + i10)).toNat x12) (IntKind.i64.wrap (b4 + i10))).bind fun x15 => (Zcd n5 b4 a3 m11) (List.set (List.set l9 (IntKind.i64.wrap (a3 + i10)).toNat x12) (IntKind.i64.wrap (b4 + i10)).toNat x13) (IntKind.i64.wrap (i10 + 1)) else some l9)
def Z95 (d1 : (List Int)) (a3 : Int) (b4 : Int) (n5 : Int) (x6 : (Int → Int → Option Int)) : Option (List Int) :=
 Zcd n5 b4 a3 (((n5 : Int) - 0).toNat + 1) d1 0
theorem Zfd (v2 : Value) (d1 : (List Int)) (a3 : Int) (b4 : Int) (n5 : Int) (x6 : (Int → Int → Option Int)) (r : (List Int)) (h : Z95 d1 a3 b4 n5 x6 = some r) : Con Tryz.prog 341 [Zh v2, rd (Z0 .i64) a3, rd (Z0 .i64) b4, rd (Z0 .i64) n5, fn2 Tryz.prog (Z0 .i64) (Z0 .i64) (Z0 .i64) x6] (Za v2 3 (Z0 .i64) d1) (fun _ : Unit => top) (fun _ => Za v2 3 (Z0 .i64) r) := by
 refine Con.intro Tryz.func341 rfl Tryz.ntmps341 rfl fun w H X => ?_
 unfold Z95 at h
 refine SR <| Ak rfl <| Nl <| bk <| LG (d := []) (ν := Nat × (List Int) × Int) (fun (m11, l9, i10) => (True ∧ Zcd n5 b4 a3 m11 l9 i10 = some r, m11, [(0, Zh v2), (1, rd (Z0 .i64) a3), (2, rd (Z0 .i64) b4), (3, rd (Z0 .i64) n5), (10, rd (Z0 .i64) i10)], [(0, Za v2 3 (Z0 .i64) l9)])) ((((n5 : Int) - 0).toNat + 1), d1, 0) ⟨trivial, h⟩ (FX rfl) ?_
 rintro ⟨m11, l9, i10⟩ ⟨hsf1, h⟩
 dsimp only at h ⊢
 cases m11 with
 | zero => cases h
 | succ m11 =>
  unfold Zcd at h
  refine sq <| SR <| Md rfl <| Md rfl <| Ac (Zn rfl rfl (vt rfl) (vt rfl)) rfl <| Nl <| Cq rfl h (fun h => ?_) (fun h => ?_)
  ·refine sk <| sq <| bk <| AW.vlen 0 rfl fun hvl0_123 => ?_
   obtain ⟨x12, hx12, x13, hx13, x14, hx14, x15, hx15, h⟩ := bs4 h
   refine AR Zw (by kernel_rfl) <| SMw rfl <| Zs rfl <| Zs rfl <| Sd (lo [17, 18] [] rfl fun S hs hr => Z0d rfl rfl (vh hs 17 rfl rfl) (vh hs 18 rfl rfl)) <| SMw rfl <| Zs rfl <| Zs rfl <| Sd (lo [21, 22] [] rfl fun S hs hr => Z0d rfl rfl (vh hs 21 rfl rfl) (vh hs 22 rfl rfl)) <| SMw rfl <| Zs rfl <| Zs rfl <| Sd (lo [25, 26] [] rfl fun S hs hr => Z0d rfl rfl (vh hs 25 rfl rfl) (vh hs 26 rfl rfl)) <| Sd (lo [24, 27] [] rfl fun S hs hr => Z19 (l := l9) hvl0_123 rfl rfl rfl Z0q (vh hs 24 rfl rfl) (vh hs 27 rfl rfl) hx12) <| Sd (lo [28] [0] rfl fun S hs hr => Z10 0 rfl rfl Zq (vh hs 28 rfl rfl) ((hr 0 rfl).trans rfl) (Z09 hx12).2) <| SMw rfl <| Zs rfl <| Zs rfl <| Sd (lo [31, 32] [] rfl fun S hs hr => Z0d rfl rfl (vh hs 31 rfl rfl) (vh hs 32 rfl rfl)) <| Sd (lo [30, 33] [] rfl fun S hs hr => Z19 (l := l9) hvl0_123 rfl rfl rfl Z0q (vh hs 30 rfl rfl) (vh hs 33 rfl rfl) hx13) <| Sd (lo [34] [0] rfl fun S hs hr => Z10 0 rfl rfl Zq (vh hs 34 rfl rfl) ((hr 0 rfl).trans rfl) (Z09 hx13).2) <| Sd (lo [16, 19] [] rfl fun S hs hr => Z19 (l := l9) hvl0_123 rfl rfl rfl Z0q (vh hs 16 rfl rfl) (vh hs 19 rfl rfl) hx14) <| Sd (Z2m [36, 29] [0] rfl fun S hs hr => Z2b 0 rfl rfl Zq (vh hs 36 rfl rfl) ((hr 0 rfl).trans rfl) (Z09 hx14).2 (vh hs 29 rfl rfl)) <| Sd (lo [20, 23] [] rfl fun S hs hr => Z19 (l := (List.set l9 (IntKind.i64.wrap (a3 + i10)).toNat x12)) hvl0_123 (by simp) rfl rfl Z0q (vh hs 20 rfl rfl) (vh hs 23 rfl rfl) hx15) <| Sd (Z2m [37, 35] [0] rfl fun S hs hr => Z2b 0 rfl rfl Zq (vh hs 37 rfl rfl) ((hr 0 rfl).trans rfl) (Z09 hx15).2 (vh hs 35 rfl rfl)) <| Sn <| Rg <| Md rfl <| Ac (Z0d rfl rfl (vt rfl) (vk rfl)) rfl <| As rfl <| Nl ?_
   exact ⟨(_, _, _), Nat.lt_succ_self _, ⟨trivial, h⟩, FX rfl⟩
  ·refine xt ?_
   cases h; exact Z1e (i := 0) Tryz.results341 rfl rfl
end Go.Proofs.YtknpgojdkobgjaaGreat.W
set_option maxRecDepth 4000
namespace Go.Proofs.YtknpgojdkobgjaaGreat.W
open Go Go.Wb
theorem Zh9 : Ent Tryz.prog 341 := Ent.mk Tryz.func341 rfl rfl
theorem Zdc : Ent Tryz.prog 302 := Ent.mk Tryz.func302 rfl rfl
theorem Y27 : Ent Tryz.prog 333 := Ent.mk Tryz.func333 rfl rfl
theorem Zof : Ent Tryz.prog 301 := Ent.mk Tryz.func301 rfl rfl
theorem Y06 : Ent Tryz.prog 258 := Ent.mk Tryz.func258 rfl rfl
theorem Zvd : Ent Tryz.prog 201 := Ent.mk Tryz.func201 rfl rfl
theorem Zxz : Ent Tryz.prog 200 := Ent.mk Tryz.func200 rfl rfl
theorem Zeb : Ent Tryz.prog 269 := Ent.mk Tryz.func269 rfl rfl
theorem Zuj : Ent Tryz.prog 344 := Ent.mk Tryz.func344 rfl rfl
theorem Zto : Ent Tryz.prog 336 := Ent.mk Tryz.func336 rfl rfl
def Zas (m4 : Int) (x6 : (Int → Int → Option Int)) : Nat → (List Int) → Int → Int → Option (List Int)
 | 0, _, _, _ => none
 | m13 + 1, l10, i11, j12 => (bif (decide (i11 ≠ j12)) then (bif (decide (i11 > j12)) then (Z95 l10 (IntKind.i64.wrap (m4 - i11)) m4 j12 x6).bind fun l14 => (Zas m4 x6 m13) l14 (IntKind.i64.wrap (i11 - j12)) j12 else (Z95 l10 (IntKind.i64.wrap (m4 - i11)) (IntKind.i64.wrap ((IntKind.i64.wrap (m4 + j12)) - i11)) i11 x6).bind fun l15 => (Zas m4 x6 m13) l15 i11 (IntKind.i64.wrap (j12 - i11))) else (Z95 l10 (IntKind.i64.wrap (m4 - i11)) m4 i11 x6).bind fun l16 => some l16)
def Zf2 (d1 : (List Int)) (a3 : Int) (m4 : Int) (b5 : Int) (x6 : (Int → Int → Option Int)) : Option (List Int) :=
 Zas m4 x6 Z27 d1 (IntKind.i64.wrap (m4 - a3)) (IntKind.i64.wrap (b5 - m4))
theorem Zwt (v2 : Value) (d1 : (List Int)) (a3 : Int) (m4 : Int) (b5 : Int) (x6 : (Int → Int → Option Int)) (r : (List Int)) (h : Zf2 d1 a3 m4 b5 x6 = some r) : Con Tryz.prog 333 [Zh v2, rd (Z0 .i64) a3, rd (Z0 .i64) m4, rd (Z0 .i64) b5, fn2 Tryz.prog (Z0 .i64) (Z0 .i64) (Z0 .i64) x6] (Za v2 3 (Z0 .i64) d1) (fun _ : Unit => top) (fun _ => Za v2 3 (Z0 .i64) r) := by
 refine Con.intro Tryz.func333 rfl Tryz.ntmps333 rfl fun w H X => ?_
 unfold Zf2 at h
 refine SR <| Md rfl <| Md rfl <| Ac (Z0i rfl rfl (vt rfl) (vt rfl)) rfl <| As rfl <| Nl <| SR <| Md rfl <| Md rfl <| Ac (Z0i rfl rfl (vt rfl) (vt rfl)) rfl <| As rfl <| Nl <| sq <| bk <| LG (d := []) (ν := Nat × (List Int) × Int × Int) (fun (m13, l10, i11, j12) => (True ∧ Zas m4 x6 m13 l10 i11 j12 = some r, m13, [(0, Zh v2), (2, rd (Z0 .i64) m4), (4, fn2 Tryz.prog (Z0 .i64) (Z0 .i64) (Z0 .i64) x6), (10, rd (Z0 .i64) i11), (11, rd (Z0 .i64) j12)], [(0, Za v2 3 (Z0 .i64) l10)])) (Z27, d1, (IntKind.i64.wrap (m4 - a3)), (IntKind.i64.wrap (b5 - m4))) ⟨trivial, h⟩ (FX rfl) ?_
 rintro ⟨m13, l10, i11, j12⟩ ⟨hsf1, h⟩
 dsimp only at h ⊢
 cases m13 with
 | zero => cases h
 | succ m13 =>
  unfold Zas at h
  refine sq <| SR <| Md rfl <| Md rfl <| Ac (Z3g rfl rfl (vt rfl) (vt rfl)) rfl <| Nl <| Cq rfl h (fun h => ?_) (fun h => ?_)
  ·refine sk <| bk <| SR <| Md rfl <| Md rfl <| Ac (Z2w rfl rfl (vt rfl) (vt rfl)) rfl <| Nl <| Cq rfl h (fun h => ?_) (fun h => ?_)
   ·refine sq ?_
    obtain ⟨l14, hl14, h⟩ := Z9 h
    refine Rg <| Mw rfl <| Md rfl <| Md rfl <| Ac (Z0i rfl rfl (vt rfl) (vt rfl)) rfl <| Md rfl <| Md rfl <| Ac (Zt (A := fn2 Tryz.prog (Z0 .i64) (Z0 .i64) (Z0 .i64) x6) rfl rfl (vt rfl)) rfl <| Cv rfl (Z0r 0 (xs := [.tmp 24, .tmp 27, .tmp 28, .tmp 29, .tmp 30]) (Zfd _ _ _ _ _ _ _ hl14) Zh9 rfl rfl ⟨vt rfl, vt rfl, vt rfl, vt rfl, vt rfl, trivial⟩ rfl) fun _u => Nl <| Rg <| Md rfl <| Md rfl <| Ac (Z0i rfl rfl (vt rfl) (vt rfl)) rfl <| As rfl <| Nl ?_
    exact ⟨(_, _, _, _), Nat.lt_succ_self _, ⟨trivial, h⟩, FX rfl⟩
   ·refine sq ?_
    obtain ⟨l15, hl15, h⟩ := Z9 h
    refine Rg <| Mw rfl <| Md rfl <| Md rfl <| Ac (Z0i rfl rfl (vt rfl) (vt rfl)) rfl <| Md rfl <| Md rfl <| Ac (Z0d rfl rfl (vt rfl) (vt rfl)) rfl <| Md rfl <| Ac (Z0i rfl rfl (vt rfl) (vt rfl)) rfl <| Md rfl <| Ac (Zt (A := fn2 Tryz.prog (Z0 .i64) (Z0 .i64) (Z0 .i64) x6) rfl rfl (vt rfl)) rfl <| Cv rfl (Z0r 0 (xs := [.tmp 35, .tmp 38, .tmp 43, .tmp 44, .tmp 45]) (Zfd _ _ _ _ _ _ _ hl15) Zh9 rfl rfl ⟨vt rfl, vt rfl, vt rfl, vt rfl, vt rfl, trivial⟩ rfl) fun _u => Nl <| Rg <| Md rfl <| Md rfl <| Ac (Z0i rfl rfl (vt rfl) (vt rfl)) rfl <| As rfl <| Nl ?_
    exact ⟨(_, _, _, _), Nat.lt_succ_self _, ⟨trivial, h⟩, FX rfl⟩
  ·refine xt ?_
   obtain ⟨l16, hl16, h⟩ := Z9 h
   refine Rg <| Mw rfl <| Md rfl <| Md rfl <| Ac (Z0i rfl rfl (vt rfl) (vt rfl)) rfl <| Md rfl <| Md rfl <| Ac (Zt (A := fn2 Tryz.prog (Z0 .i64) (Z0 .i64) (Z0 .i64) x6) rfl rfl (vt rfl)) rfl <| Cv rfl (Z0r 0 (xs := [.tmp 50, .tmp 53, .tmp 54, .tmp 55, .tmp 56]) (Zfd _ _ _ _ _ _ _ hl16) Zh9 rfl rfl ⟨vt rfl, vt rfl, vt rfl, vt rfl, vt rfl, trivial⟩ rfl) fun _u => Nl ?_
   cases h; exact Z1e (i := 0) Tryz.results333 rfl rfl
def Zdy (i9 : Int) : Nat → (List Int) → Int → Option (List Int)
 | 0, _, _ => none
 | m20 + 1, l18, k19 => (bif (decide (k19 < (IntKind.i64.wrap (i9 - 1)))) then (lget l18 (IntKind.i64.wrap (k19 + 1))).bind fun x21 => (lget l18 k19).bind fun x22 => (lget l18 k19).bind fun x23 => (lget (List.set l18 k19.toNat x21) (IntKind.i64.wrap (k19 + 1))).bind fun x24 => (Zdy i9 m20) (List.set (List.set l18 k19.toNat x21) (IntKind.i64.wrap (k19 + 1)).toNat x22) (IntKind.i64.wrap (k19 + 1)) else some l18)
def Z9o (d1 : (List Int)) (a3 : Int) (x6 : (Int → Int → Option Int)) : Nat → Int → Int → Option (List Int)
 | 0, _, _ => none
 | m11 + 1, i9, j10 => (bif (decide (i9 < j10)) then (Z2p (BitVec.ofInt 64 (IntKind.i64.wrap (i9 + j10))) ((1 : BitVec 64).toNat : Int)).bind fun q12 => (lget d1 (IntKind.i64.wrap (q12.toNat : Int))).bind fun x13 => (lget d1 a3).bind fun x14 => (x6 x13 x14).bind fun x15 => (bif (decide (x15 < 0)) then (Z9o d1 a3 x6 m11) (IntKind.i64.wrap ((IntKind.i64.wrap (q12.toNat : Int)) + 1)) j10 else (Z9o d1 a3 x6 m11) i9 (IntKind.i64.wrap (q12.toNat : Int))) else Zdy i9 ((((IntKind.i64.wrap (i9 - 1)) : Int) - a3).toNat + 1) d1 a3)
def Zdu (i27 : Int) : Nat → (List Int) → Int → Option (List Int)
 | 0, _, _ => none
 | m38 + 1, l36, k37 => (bif (decide (k37 > i27)) then (lget l36 (IntKind.i64.wrap (k37 - 1))).bind fun x39 => (lget l36 k37).bind fun x40 => (lget l36 k37).bind fun x41 => (lget (List.set l36 k37.toNat x39) (IntKind.i64.wrap (k37 - 1))).bind fun x42 => (Zdu i27 m38) (List.set (List.set l36 k37.toNat x39) (IntKind.i64.wrap (k37 - 1)).toNat x40) (IntKind.i64.wrap (k37 - 1)) else some l36)
def Z8e (d1 : (List Int)) (m4 : Int) (x6 : (Int → Int → Option Int)) : Nat → Int → Int → Option (List Int)
 | 0, _, _ => none
 | m29 + 1, i27, j28 => (bif (decide (i27 < j28)) then (Z2p (BitVec.ofInt 64 (IntKind.i64.wrap (i27 + j28))) ((1 : BitVec 64).toNat : Int)).bind fun q30 => (lget d1 m4).bind fun x31 => (lget d1 (IntKind.i64.wrap (q30.toNat : Int))).bind fun x32 => (x6 x31 x32).bind fun x33 => (bif (!(decide (x33 < 0))) then (Z8e d1 m4 x6 m29) (IntKind.i64.wrap ((IntKind.i64.wrap (q30.toNat : Int)) + 1)) j28 else (Z8e d1 m4 x6 m29) i27 (IntKind.i64.wrap (q30.toNat : Int))) else Zdu i27 (((m4 : Int) - i27).toNat + 1) d1 m4)
def Zef (q43 : (BitVec 64)) (m4 : Int) (s48 : Int) (b5 : Int) (R_slices_symMergeCmpFunc_int : ((List Int) → Int → Int → Int → (Int → Int → Option Int) → Option (List Int))) (x6 : (Int → Int → Option Int)) (l56 : (List Int)) : Option (List Int) :=
 (bif ((decide ((IntKind.i64.wrap (q43.toNat : Int)) < (IntKind.i64.wrap ((IntKind.i64.wrap ((IntKind.i64.wrap (q43.toNat : Int)) + m4)) - s48)))) && (decide ((IntKind.i64.wrap ((IntKind.i64.wrap ((IntKind.i64.wrap (q43.toNat : Int)) + m4)) - s48)) < b5))) then (R_slices_symMergeCmpFunc_int l56 (IntKind.i64.wrap (q43.toNat : Int)) (IntKind.i64.wrap ((IntKind.i64.wrap ((IntKind.i64.wrap (q43.toNat : Int)) + m4)) - s48)) b5 x6).bind fun l57 => some l57 else some l56)
def Zbs (a3 : Int) (s48 : Int) (q43 : (BitVec 64)) (R_slices_symMergeCmpFunc_int : ((List Int) → Int → Int → Int → (Int → Int → Option Int) → Option (List Int))) (x6 : (Int → Int → Option Int)) (m4 : Int) (b5 : Int) (l55 : (List Int)) : Option (List Int) :=
 (bif ((decide (a3 < s48)) && (decide (s48 < (IntKind.i64.wrap (q43.toNat : Int))))) then (R_slices_symMergeCmpFunc_int l55 a3 s48 (IntKind.i64.wrap (q43.toNat : Int)) x6).bind fun l58 => Zef q43 m4 s48 b5 R_slices_symMergeCmpFunc_int x6 l58 else Zef q43 m4 s48 b5 R_slices_symMergeCmpFunc_int x6 l55)
def Z8u (d1 : (List Int)) (q43 : (BitVec 64)) (m4 : Int) (x6 : (Int → Int → Option Int)) (a3 : Int) (R_slices_symMergeCmpFunc_int : ((List Int) → Int → Int → Int → (Int → Int → Option Int) → Option (List Int))) (b5 : Int) : Nat → Int → Int → Option (List Int)
 | 0, _, _ => none
 | m50 + 1, s48, x49 => (bif (decide (s48 < x49)) then (Z2p (BitVec.ofInt 64 (IntKind.i64.wrap (s48 + x49))) ((1 : BitVec 64).toNat : Int)).bind fun q51 => (lget d1 (IntKind.i64.wrap ((IntKind.i64.wrap ((IntKind.i64.wrap ((IntKind.i64.wrap (q43.toNat : Int)) + m4)) - 1)) - (IntKind.i64.wrap (q51.toNat : Int))))).bind fun x52 => (lget d1 (IntKind.i64.wrap (q51.toNat : Int))).bind fun x53 => (x6 x52 x53).bind fun x54 => (bif (!(decide (x54 < 0))) then (Z8u d1 q43 m4 x6 a3 R_slices_symMergeCmpFunc_int b5 m50) (IntKind.i64.wrap ((IntKind.i64.wrap (q51.toNat : Int)) + 1)) x49 else (Z8u d1 q43 m4 x6 a3 R_slices_symMergeCmpFunc_int b5 m50) s48 (IntKind.i64.wrap (q51.toNat : Int))) else (bif ((decide (s48 < m4)) && (decide (m4 < (IntKind.i64.wrap ((IntKind.i64.wrap ((IntKind.i64.wrap (q43.toNat : Int)) + m4)) - s48))))) then (Zf2 d1 s48 m4 (IntKind.i64.wrap ((IntKind.i64.wrap ((IntKind.i64.wrap (q43.toNat : Int)) + m4)) - s48)) x6).bind fun l59 => Zbs a3 s48 q43 R_slices_symMergeCmpFunc_int x6 m4 b5 l59 else Zbs a3 s48 q43 R_slices_symMergeCmpFunc_int x6 m4 b5 d1))
def Zed (d1 : (List Int)) (q43 : (BitVec 64)) (m4 : Int) (x6 : (Int → Int → Option Int)) (a3 : Int) (R_slices_symMergeCmpFunc_int : ((List Int) → Int → Int → Int → (Int → Int → Option Int) → Option (List Int))) (b5 : Int) (s44 : Int) (x45 : Int) : Option (List Int) :=
 Z8u d1 q43 m4 x6 a3 R_slices_symMergeCmpFunc_int b5 (((x45 : Int) - s44).toNat + 1) s44 x45
def Zi4 (R_slices_symMergeCmpFunc_int : ((List Int) → Int → Int → Int → (Int → Int → Option Int) → Option (List Int))) (d1 : (List Int)) (a3 : Int) (m4 : Int) (b5 : Int) (x6 : (Int → Int → Option Int)) : Option (List Int) :=
 (bif (decide ((IntKind.i64.wrap (m4 - a3)) = 1)) then Z9o d1 a3 x6 (((b5 : Int) - m4).toNat + 1) m4 b5 else (bif (decide ((IntKind.i64.wrap (b5 - m4)) = 1)) then Z8e d1 m4 x6 (((m4 : Int) - a3).toNat + 1) a3 m4 else (Z2p (BitVec.ofInt 64 (IntKind.i64.wrap (a3 + b5))) ((1 : BitVec 64).toNat : Int)).bind fun q43 => (bif (decide (m4 > (IntKind.i64.wrap (q43.toNat : Int)))) then Zed d1 q43 m4 x6 a3 R_slices_symMergeCmpFunc_int b5 (IntKind.i64.wrap ((IntKind.i64.wrap ((IntKind.i64.wrap (q43.toNat : Int)) + m4)) - b5)) (IntKind.i64.wrap (q43.toNat : Int)) else Zed d1 q43 m4 x6 a3 R_slices_symMergeCmpFunc_int b5 a3 m4)))
theorem Y20 (R_slices_symMergeCmpFunc_int : ((List Int) → Int → Int → Int → (Int → Int → Option Int) → Option (List Int))) (hR_slices_symMergeCmpFunc_int : ∀ (v2 : Value) (d1 : (List Int)) (a3 : Int) (m4 : Int) (b5 : Int) (x6 : (Int → Int → Option Int)) (r : (List Int)), R_slices_symMergeCmpFunc_int d1 a3 m4 b5 x6 = some r → Con Tryz.prog 302 [Zh v2, rd (Z0 .i64) a3, rd (Z0 .i64) m4, rd (Z0 .i64) b5, fn2 Tryz.prog (Z0 .i64) (Z0 .i64) (Z0 .i64) x6] (Za v2 3 (Z0 .i64) d1) (fun _ : Unit => top) (fun _ => Za v2 3 (Z0 .i64) r)) (v2 : Value) (d1 : (List Int)) (a3 : Int) (m4 : Int) (b5 : Int) (x6 : (Int → Int → Option Int)) (r : (List Int)) (h : Zi4 R_slices_symMergeCmpFunc_int d1 a3 m4 b5 x6 = some r) : Con Tryz.prog 302 [Zh v2, rd (Z0 .i64) a3, rd (Z0 .i64) m4, rd (Z0 .i64) b5, fn2 Tryz.prog (Z0 .i64) (Z0 .i64) (Z0 .i64) x6] (Za v2 3 (Z0 .i64) d1) (fun _ : Unit => top) (fun _ => Za v2 3 (Z0 .i64) r) := by
 refine Con.intro Tryz.func302 rfl Tryz.ntmps302 rfl fun w H X => ?_
 unfold Zi4 at h
 refine sq <| SR <| Md rfl <| Md rfl <| Ac (Z0i rfl rfl (vt rfl) (vt rfl)) rfl <| Ac (Z1m rfl rfl (vt rfl) (vk rfl)) rfl <| Nl <| Cq rfl h (fun h => ?_) (fun h => ?_)
 ·refine SR <| Md rfl <| As rfl <| Nl <| SR <| Md rfl <| As rfl <| Nl <| sq <| bk <| LG (d := []) (ν := Nat × Int × Int) (fun (m11, i9, j10) => (True ∧ Z9o d1 a3 x6 m11 i9 j10 = some r, m11, [(0, Zh v2), (1, rd (Z0 .i64) a3), (4, fn2 Tryz.prog (Z0 .i64) (Z0 .i64) (Z0 .i64) x6), (10, rd (Z0 .i64) i9), (11, rd (Z0 .i64) j10)], [(0, Za v2 3 (Z0 .i64) d1)])) ((((b5 : Int) - m4).toNat + 1), m4, b5) ⟨trivial, h⟩ (FX rfl) ?_
  rintro ⟨m11, i9, j10⟩ ⟨hsf1, h⟩
  dsimp only at h ⊢
  cases m11 with
  | zero => cases h
  | succ m11 =>
   unfold Z9o at h
   refine sq <| SR <| Md rfl <| Md rfl <| Ac (Zn rfl rfl (vt rfl) (vt rfl)) rfl <| Nl <| Cq rfl h (fun h => ?_) (fun h => ?_)
   ·refine sk <| bk <| sq ?_
    obtain ⟨q12, hq12, h⟩ := Z9 h
    refine Rg <| Md rfl <| Md rfl <| Ac (Z0d rfl rfl (vt rfl) (vt rfl)) rfl <| Ac (Z4o rfl rfl us3 Z57 (vt rfl)) rfl <| Ac (Z34 rfl rfl (vt rfl) (Z36 (vku (1 : BitVec 64) rfl)) hq12) rfl <| Ac (Z50 rfl rfl Z5o un3 (vt rfl)) rfl <| As rfl <| Nl <| sq ?_
    obtain ⟨x13, hx13, x14, hx14, x15, hx15, h⟩ := bs3 h
    refine AR Zw (by kernel_rfl) <| Sd (lo [4] [] rfl fun S hs hr => Zt (A := fn2 Tryz.prog (Z0 .i64) (Z0 .i64) (Z0 .i64) x6) rfl rfl (vh hs 4 rfl rfl)) <| SMw rfl <| Zs rfl <| Sd (lo [41, 42] [0] rfl fun S hs hr => Z1u 0 rfl rfl Z0q (vh hs 41 rfl rfl) ((hr 0 rfl).trans rfl) (vh hs 42 rfl rfl) hx13) <| Sd (lo [43] [0] rfl fun S hs hr => Z10 0 rfl rfl Zq (vh hs 43 rfl rfl) ((hr 0 rfl).trans rfl) (Z09 hx13).2) <| SMw rfl <| Zs rfl <| Sd (lo [45, 46] [0] rfl fun S hs hr => Z1u 0 rfl rfl Z0q (vh hs 45 rfl rfl) ((hr 0 rfl).trans rfl) (vh hs 46 rfl rfl) hx14) <| Sd (lo [47] [0] rfl fun S hs hr => Z10 0 rfl rfl Zq (vh hs 47 rfl rfl) ((hr 0 rfl).trans rfl) (Z09 hx14).2) <| Sd (lo [40, 44, 48] [] rfl fun S hs hr => Z5e hx15 rfl rfl (vh hs 40 rfl rfl) (vh hs 44 rfl rfl) (vh hs 48 rfl rfl)) <| Sd (lo [49] [] rfl fun S hs hr => Zn rfl rfl (vh hs 49 rfl rfl) (vk rfl)) <| Sn <| Cq rfl h (fun h => ?_) (fun h => ?_)
    ·refine Rg <| Md rfl <| Ac (Z0d rfl rfl (vt rfl) (vk rfl)) rfl <| As rfl <| Nl ?_
     exact ⟨(_, _, _), Nat.lt_succ_self _, ⟨trivial, h⟩, FX rfl⟩
    ·refine Rg <| Md rfl <| As rfl <| Nl ?_
     exact ⟨(_, _, _), Nat.lt_succ_self _, ⟨trivial, h⟩, FX rfl⟩
   ·refine xt <| sq <| SR <| Md rfl <| As rfl <| Nl <| bk <| LG (d := []) (ν := Nat × (List Int) × Int) (fun (m20, l18, k19) => (True ∧ Zdy i9 m20 l18 k19 = some r, m20, [(0, Zh v2), (10, rd (Z0 .i64) i9), (13, rd (Z0 .i64) k19)], [(0, Za v2 3 (Z0 .i64) l18)])) (((((IntKind.i64.wrap (i9 - 1)) : Int) - a3).toNat + 1), d1, a3) ⟨trivial, h⟩ (FX rfl) ?_
    rintro ⟨m20, l18, k19⟩ ⟨hsf2, h⟩
    dsimp only at h ⊢
    cases m20 with
    | zero => cases h
    | succ m20 =>
     unfold Zdy at h
     refine sq <| SR <| Md rfl <| Md rfl <| Ac (Z0i rfl rfl (vt rfl) (vk rfl)) rfl <| Ac (Zn rfl rfl (vt rfl) (vt rfl)) rfl <| Nl <| Cq rfl h (fun h => ?_) (fun h => ?_)
     ·refine sk <| sq <| bk <| AW.vlen 0 rfl fun hvl0_205 => ?_
      obtain ⟨x21, hx21, x22, hx22, x23, hx23, x24, hx24, h⟩ := bs4 h
      refine AR Zw (by kernel_rfl) <| SMw rfl <| Zs rfl <| SMw rfl <| Zs rfl <| Sd (lo [64] [] rfl fun S hs hr => Z0d rfl rfl (vh hs 64 rfl rfl) (vk rfl)) <| SMw rfl <| Zs rfl <| Sd (lo [67] [] rfl fun S hs hr => Z0d rfl rfl (vh hs 67 rfl rfl) (vk rfl)) <| Sd (lo [66, 68] [] rfl fun S hs hr => Z19 (l := l18) hvl0_205 rfl rfl rfl Z0q (vh hs 66 rfl rfl) (vh hs 68 rfl rfl) hx21) <| Sd (lo [69] [0] rfl fun S hs hr => Z10 0 rfl rfl Zq (vh hs 69 rfl rfl) ((hr 0 rfl).trans rfl) (Z09 hx21).2) <| SMw rfl <| Zs rfl <| Sd (lo [71, 72] [] rfl fun S hs hr => Z19 (l := l18) hvl0_205 rfl rfl rfl Z0q (vh hs 71 rfl rfl) (vh hs 72 rfl rfl) hx22) <| Sd (lo [73] [0] rfl fun S hs hr => Z10 0 rfl rfl Zq (vh hs 73 rfl rfl) ((hr 0 rfl).trans rfl) (Z09 hx22).2) <| Sd (lo [61, 62] [] rfl fun S hs hr => Z19 (l := l18) hvl0_205 rfl rfl rfl Z0q (vh hs 61 rfl rfl) (vh hs 62 rfl rfl) hx23) <| Sd (Z2m [75, 70] [0] rfl fun S hs hr => Z2b 0 rfl rfl Zq (vh hs 75 rfl rfl) ((hr 0 rfl).trans rfl) (Z09 hx23).2 (vh hs 70 rfl rfl)) <| Sd (lo [63, 65] [] rfl fun S hs hr => Z19 (l := (List.set l18 k19.toNat x21)) hvl0_205 (by simp) rfl rfl Z0q (vh hs 63 rfl rfl) (vh hs 65 rfl rfl) hx24) <| Sd (Z2m [76, 74] [0] rfl fun S hs hr => Z2b 0 rfl rfl Zq (vh hs 76 rfl rfl) ((hr 0 rfl).trans rfl) (Z09 hx24).2 (vh hs 74 rfl rfl)) <| Sn <| Rg <| Md rfl <| Ac (Z0d rfl rfl (vt rfl) (vk rfl)) rfl <| As rfl <| Nl ?_
      exact ⟨(_, _, _), Nat.lt_succ_self _, ⟨trivial, h⟩, FX rfl⟩
     ·refine xt <| rt ?_
      cases h; exact Z1e (i := 0) Tryz.results302 rfl rfl
 ·refine sk <| sq <| SR <| Md rfl <| Md rfl <| Ac (Z0i rfl rfl (vt rfl) (vt rfl)) rfl <| Ac (Z1m rfl rfl (vt rfl) (vk rfl)) rfl <| Nl <| Cq rfl h (fun h => ?_) (fun h => ?_)
  ·refine SR <| Md rfl <| As rfl <| Nl <| SR <| Md rfl <| As rfl <| Nl <| sq <| bk <| LG (d := []) (ν := Nat × Int × Int) (fun (m29, i27, j28) => (True ∧ Z8e d1 m4 x6 m29 i27 j28 = some r, m29, [(0, Zh v2), (2, rd (Z0 .i64) m4), (4, fn2 Tryz.prog (Z0 .i64) (Z0 .i64) (Z0 .i64) x6), (14, rd (Z0 .i64) i27), (15, rd (Z0 .i64) j28)], [(0, Za v2 3 (Z0 .i64) d1)])) ((((m4 : Int) - a3).toNat + 1), a3, m4) ⟨trivial, h⟩ (FX rfl) ?_
   rintro ⟨m29, i27, j28⟩ ⟨hsf3, h⟩
   dsimp only at h ⊢
   cases m29 with
   | zero => cases h
   | succ m29 =>
    unfold Z8e at h
    refine sq <| SR <| Md rfl <| Md rfl <| Ac (Zn rfl rfl (vt rfl) (vt rfl)) rfl <| Nl <| Cq rfl h (fun h => ?_) (fun h => ?_)
    ·refine sk <| bk <| sq ?_
     obtain ⟨q30, hq30, h⟩ := Z9 h
     refine Rg <| Md rfl <| Md rfl <| Ac (Z0d rfl rfl (vt rfl) (vt rfl)) rfl <| Ac (Z4o rfl rfl us3 Z57 (vt rfl)) rfl <| Ac (Z34 rfl rfl (vt rfl) (Z36 (vku (1 : BitVec 64) rfl)) hq30) rfl <| Ac (Z50 rfl rfl Z5o un3 (vt rfl)) rfl <| As rfl <| Nl <| sq ?_
     obtain ⟨x31, hx31, x32, hx32, x33, hx33, h⟩ := bs3 h
     refine AR Zw (by kernel_rfl) <| Sd (lo [4] [] rfl fun S hs hr => Zt (A := fn2 Tryz.prog (Z0 .i64) (Z0 .i64) (Z0 .i64) x6) rfl rfl (vh hs 4 rfl rfl)) <| SMw rfl <| Zs rfl <| Sd (lo [93, 94] [0] rfl fun S hs hr => Z1u 0 rfl rfl Z0q (vh hs 93 rfl rfl) ((hr 0 rfl).trans rfl) (vh hs 94 rfl rfl) hx31) <| Sd (lo [95] [0] rfl fun S hs hr => Z10 0 rfl rfl Zq (vh hs 95 rfl rfl) ((hr 0 rfl).trans rfl) (Z09 hx31).2) <| SMw rfl <| Zs rfl <| Sd (lo [97, 98] [0] rfl fun S hs hr => Z1u 0 rfl rfl Z0q (vh hs 97 rfl rfl) ((hr 0 rfl).trans rfl) (vh hs 98 rfl rfl) hx32) <| Sd (lo [99] [0] rfl fun S hs hr => Z10 0 rfl rfl Zq (vh hs 99 rfl rfl) ((hr 0 rfl).trans rfl) (Z09 hx32).2) <| Sd (lo [92, 96, 100] [] rfl fun S hs hr => Z5e hx33 rfl rfl (vh hs 92 rfl rfl) (vh hs 96 rfl rfl) (vh hs 100 rfl rfl)) <| Sd (lo [101] [] rfl fun S hs hr => Zn rfl rfl (vh hs 101 rfl rfl) (vk rfl)) <| Sd (lo [102] [] rfl fun S hs hr => Z1a rfl rfl (vh hs 102 rfl rfl)) <| Sn <| Cq rfl h (fun h => ?_) (fun h => ?_)
     ·refine Rg <| Md rfl <| Ac (Z0d rfl rfl (vt rfl) (vk rfl)) rfl <| As rfl <| Nl ?_
      exact ⟨(_, _, _), Nat.lt_succ_self _, ⟨trivial, h⟩, FX rfl⟩
     ·refine Rg <| Md rfl <| As rfl <| Nl ?_
      exact ⟨(_, _, _), Nat.lt_succ_self _, ⟨trivial, h⟩, FX rfl⟩
    ·refine xt <| sq <| SR <| Md rfl <| As rfl <| Nl <| bk <| LG (d := []) (ν := Nat × (List Int) × Int) (fun (m38, l36, k37) => (True ∧ Zdu i27 m38 l36 k37 = some r, m38, [(0, Zh v2), (14, rd (Z0 .i64) i27), (17, rd (Z0 .i64) k37)], [(0, Za v2 3 (Z0 .i64) l36)])) ((((m4 : Int) - i27).toNat + 1), d1, m4) ⟨trivial, h⟩ (FX rfl) ?_
     rintro ⟨m38, l36, k37⟩ ⟨hsf4, h⟩
     dsimp only at h ⊢
     cases m38 with
     | zero => cases h
     | succ m38 =>
      unfold Zdu at h
      refine sq <| SR <| Md rfl <| Md rfl <| Ac (Z2w rfl rfl (vt rfl) (vt rfl)) rfl <| Nl <| Cq rfl h (fun h => ?_) (fun h => ?_)
      ·refine sk <| sq <| bk <| AW.vlen 0 rfl fun hvl0_446 => ?_
       obtain ⟨x39, hx39, x40, hx40, x41, hx41, x42, hx42, h⟩ := bs4 h
       refine AR Zw (by kernel_rfl) <| SMw rfl <| Zs rfl <| SMw rfl <| Zs rfl <| Sd (lo [116] [] rfl fun S hs hr => Z0i rfl rfl (vh hs 116 rfl rfl) (vk rfl)) <| SMw rfl <| Zs rfl <| Sd (lo [119] [] rfl fun S hs hr => Z0i rfl rfl (vh hs 119 rfl rfl) (vk rfl)) <| Sd (lo [118, 120] [] rfl fun S hs hr => Z19 (l := l36) hvl0_446 rfl rfl rfl Z0q (vh hs 118 rfl rfl) (vh hs 120 rfl rfl) hx39) <| Sd (lo [121] [0] rfl fun S hs hr => Z10 0 rfl rfl Zq (vh hs 121 rfl rfl) ((hr 0 rfl).trans rfl) (Z09 hx39).2) <| SMw rfl <| Zs rfl <| Sd (lo [123, 124] [] rfl fun S hs hr => Z19 (l := l36) hvl0_446 rfl rfl rfl Z0q (vh hs 123 rfl rfl) (vh hs 124 rfl rfl) hx40) <| Sd (lo [125] [0] rfl fun S hs hr => Z10 0 rfl rfl Zq (vh hs 125 rfl rfl) ((hr 0 rfl).trans rfl) (Z09 hx40).2) <| Sd (lo [113, 114] [] rfl fun S hs hr => Z19 (l := l36) hvl0_446 rfl rfl rfl Z0q (vh hs 113 rfl rfl) (vh hs 114 rfl rfl) hx41) <| Sd (Z2m [127, 122] [0] rfl fun S hs hr => Z2b 0 rfl rfl Zq (vh hs 127 rfl rfl) ((hr 0 rfl).trans rfl) (Z09 hx41).2 (vh hs 122 rfl rfl)) <| Sd (lo [115, 117] [] rfl fun S hs hr => Z19 (l := (List.set l36 k37.toNat x39)) hvl0_446 (by simp) rfl rfl Z0q (vh hs 115 rfl rfl) (vh hs 117 rfl rfl) hx42) <| Sd (Z2m [128, 126] [0] rfl fun S hs hr => Z2b 0 rfl rfl Zq (vh hs 128 rfl rfl) ((hr 0 rfl).trans rfl) (Z09 hx42).2 (vh hs 126 rfl rfl)) <| Sn <| Rg <| Md rfl <| Ac (Z0i rfl rfl (vt rfl) (vk rfl)) rfl <| As rfl <| Nl ?_
       exact ⟨(_, _, _), Nat.lt_succ_self _, ⟨trivial, h⟩, FX rfl⟩
      ·refine xt <| rt ?_
       cases h; exact Z1e (i := 0) Tryz.results302 rfl rfl
  ·refine sk <| sq ?_
   obtain ⟨q43, hq43, h⟩ := Z9 h
   refine Rg <| Md rfl <| Md rfl <| Ac (Z0d rfl rfl (vt rfl) (vt rfl)) rfl <| Ac (Z4o rfl rfl us3 Z57 (vt rfl)) rfl <| Ac (Z34 rfl rfl (vt rfl) (Z36 (vku (1 : BitVec 64) rfl)) hq43) rfl <| Ac (Z50 rfl rfl Z5o un3 (vt rfl)) rfl <| As rfl <| Nl <| SR <| Md rfl <| Md rfl <| Ac (Z0d rfl rfl (vt rfl) (vt rfl)) rfl <| As rfl <| Nl <| SR <| Ak rfl <| Ak rfl <| Nl ?_
   refine JN (d := []) (ν := Int × Int) (fun (s44, x45) => (Zed d1 q43 m4 x6 a3 R_slices_symMergeCmpFunc_int b5 s44 x45 = some r, [(0, Zh v2), (1, rd (Z0 .i64) a3), (2, rd (Z0 .i64) m4), (3, rd (Z0 .i64) b5), (4, fn2 Tryz.prog (Z0 .i64) (Z0 .i64) (Z0 .i64) x6), (18, rd (Z0 .i64) (IntKind.i64.wrap (q43.toNat : Int))), (19, rd (Z0 .i64) (IntKind.i64.wrap ((IntKind.i64.wrap (q43.toNat : Int)) + m4))), (20, rd (Z0 .i64) s44), (21, rd (Z0 .i64) x45)], [(0, Za v2 3 (Z0 .i64) d1)])) ?hx5 ?hy5
   case hy5 =>
    rintro ⟨s44, x45⟩ h
    dsimp only at h ⊢
    unfold Zed at h
    refine SR <| Md rfl <| Ac (Z0i rfl rfl (vt rfl) (vk rfl)) rfl <| As rfl <| Nl <| sq <| bk <| LG (d := []) (ν := Nat × Int × Int) (fun (m50, s48, x49) => (True ∧ Z8u d1 q43 m4 x6 a3 R_slices_symMergeCmpFunc_int b5 m50 s48 x49 = some r, m50, [(0, Zh v2), (1, rd (Z0 .i64) a3), (2, rd (Z0 .i64) m4), (3, rd (Z0 .i64) b5), (4, fn2 Tryz.prog (Z0 .i64) (Z0 .i64) (Z0 .i64) x6), (18, rd (Z0 .i64) (IntKind.i64.wrap (q43.toNat : Int))), (19, rd (Z0 .i64) (IntKind.i64.wrap ((IntKind.i64.wrap (q43.toNat : Int)) + m4))), (20, rd (Z0 .i64) s48), (21, rd (Z0 .i64) x49), (22, rd (Z0 .i64) (IntKind.i64.wrap ((IntKind.i64.wrap ((IntKind.i64.wrap (q43.toNat : Int)) + m4)) - 1)))], [(0, Za v2 3 (Z0 .i64) d1)])) ((((x45 : Int) - s44).toNat + 1), s44, x45) ⟨trivial, h⟩ (FX rfl) ?_
    rintro ⟨m50, s48, x49⟩ ⟨hsf6, h⟩
    dsimp only at h ⊢
    cases m50 with
    | zero => cases h
    | succ m50 =>
     unfold Z8u at h
     refine sq <| SR <| Md rfl <| Md rfl <| Ac (Zn rfl rfl (vt rfl) (vt rfl)) rfl <| Nl <| Cq rfl h (fun h => ?_) (fun h => ?_)
     ·refine sk <| bk <| sq ?_
      obtain ⟨q51, hq51, h⟩ := Z9 h
      refine Rg <| Md rfl <| Md rfl <| Ac (Z0d rfl rfl (vt rfl) (vt rfl)) rfl <| Ac (Z4o rfl rfl us3 Z57 (vt rfl)) rfl <| Ac (Z34 rfl rfl (vt rfl) (Z36 (vku (1 : BitVec 64) rfl)) hq51) rfl <| Ac (Z50 rfl rfl Z5o un3 (vt rfl)) rfl <| As rfl <| Nl <| sq ?_
      obtain ⟨x52, hx52, x53, hx53, x54, hx54, h⟩ := bs3 h
      refine AR Zw (by kernel_rfl) <| Sd (lo [4] [] rfl fun S hs hr => Zt (A := fn2 Tryz.prog (Z0 .i64) (Z0 .i64) (Z0 .i64) x6) rfl rfl (vh hs 4 rfl rfl)) <| SMw rfl <| Zs rfl <| Zs rfl <| Sd (lo [160, 161] [] rfl fun S hs hr => Z0i rfl rfl (vh hs 160 rfl rfl) (vh hs 161 rfl rfl)) <| Sd (lo [159, 162] [0] rfl fun S hs hr => Z1u 0 rfl rfl Z0q (vh hs 159 rfl rfl) ((hr 0 rfl).trans rfl) (vh hs 162 rfl rfl) hx52) <| Sd (lo [163] [0] rfl fun S hs hr => Z10 0 rfl rfl Zq (vh hs 163 rfl rfl) ((hr 0 rfl).trans rfl) (Z09 hx52).2) <| SMw rfl <| Zs rfl <| Sd (lo [165, 166] [0] rfl fun S hs hr => Z1u 0 rfl rfl Z0q (vh hs 165 rfl rfl) ((hr 0 rfl).trans rfl) (vh hs 166 rfl rfl) hx53) <| Sd (lo [167] [0] rfl fun S hs hr => Z10 0 rfl rfl Zq (vh hs 167 rfl rfl) ((hr 0 rfl).trans rfl) (Z09 hx53).2) <| Sd (lo [158, 164, 168] [] rfl fun S hs hr => Z5e hx54 rfl rfl (vh hs 158 rfl rfl) (vh hs 164 rfl rfl) (vh hs 168 rfl rfl)) <| Sd (lo [169] [] rfl fun S hs hr => Zn rfl rfl (vh hs 169 rfl rfl) (vk rfl)) <| Sd (lo [170] [] rfl fun S hs hr => Z1a rfl rfl (vh hs 170 rfl rfl)) <| Sn <| Cq rfl h (fun h => ?_) (fun h => ?_)
      ·refine Rg <| Md rfl <| Ac (Z0d rfl rfl (vt rfl) (vk rfl)) rfl <| As rfl <| Nl ?_
       exact ⟨(_, _, _), Nat.lt_succ_self _, ⟨trivial, h⟩, FX rfl⟩
      ·refine Rg <| Md rfl <| As rfl <| Nl ?_
       exact ⟨(_, _, _), Nat.lt_succ_self _, ⟨trivial, h⟩, FX rfl⟩
     ·refine xt <| SR <| Md rfl <| Md rfl <| Ac (Z0i rfl rfl (vt rfl) (vt rfl)) rfl <| As rfl <| Nl ?_
      refine JN (d := []) (ν := (List Int)) (fun l55 => (Zbs a3 s48 q43 R_slices_symMergeCmpFunc_int x6 m4 b5 l55 = some r, [(0, Zh v2), (1, rd (Z0 .i64) a3), (3, rd (Z0 .i64) b5), (4, fn2 Tryz.prog (Z0 .i64) (Z0 .i64) (Z0 .i64) x6), (18, rd (Z0 .i64) (IntKind.i64.wrap (q43.toNat : Int))), (20, rd (Z0 .i64) s48), (24, rd (Z0 .i64) (IntKind.i64.wrap ((IntKind.i64.wrap ((IntKind.i64.wrap (q43.toNat : Int)) + m4)) - s48)))], [(0, Za v2 3 (Z0 .i64) l55)])) ?hx7 ?hy7
      case hy7 =>
       intro l55 h
       dsimp only at h ⊢
       unfold Zbs at h
       refine JN (d := []) (ν := (List Int)) (fun l56 => (Zef q43 m4 s48 b5 R_slices_symMergeCmpFunc_int x6 l56 = some r, [(0, Zh v2), (3, rd (Z0 .i64) b5), (4, fn2 Tryz.prog (Z0 .i64) (Z0 .i64) (Z0 .i64) x6), (18, rd (Z0 .i64) (IntKind.i64.wrap (q43.toNat : Int))), (24, rd (Z0 .i64) (IntKind.i64.wrap ((IntKind.i64.wrap ((IntKind.i64.wrap (q43.toNat : Int)) + m4)) - s48)))], [(0, Za v2 3 (Z0 .i64) l56)])) ?hx8 ?hy8
       case hy8 =>
        intro l56 h
        dsimp only at h ⊢
        unfold Zef at h
        refine SR <| Md rfl <| Md rfl <| Ac (Zn rfl rfl (vt rfl) (vt rfl)) rfl <| Md rfl <| Gd rfl (fun hq => Zt (A := rd (Z0 .i64) (IntKind.i64.wrap ((IntKind.i64.wrap ((IntKind.i64.wrap (q43.toNat : Int)) + m4)) - s48))) rfl rfl (vt rfl)) <| Gd rfl (fun hq => Zt (A := rd (Z0 .i64) b5) rfl rfl (vt rfl)) <| Gd rfl (fun hq => Zn rfl rfl (vgt rfl hq) (vgt rfl hq)) <| Ac (Z22 rfl rfl (vt rfl) (vt rfl)) rfl <| Nl <| Cq rfl h (fun h => ?_) (fun h => ?_)
        ·obtain ⟨l57, hl57, h⟩ := Z9 h
         refine Rg <| Mw rfl <| Md rfl <| Md rfl <| Md rfl <| Ac (Zt (A := fn2 Tryz.prog (Z0 .i64) (Z0 .i64) (Z0 .i64) x6) rfl rfl (vt rfl)) rfl <| Cv rfl (Z0r 0 (xs := [.tmp 214, .tmp 215, .tmp 216, .tmp 217, .tmp 218]) (hR_slices_symMergeCmpFunc_int _ _ _ _ _ _ _ hl57) Zdc rfl rfl ⟨vt rfl, vt rfl, vt rfl, vt rfl, vt rfl, trivial⟩ rfl) fun _u => Nl ?_
         cases h; exact Z1e (i := 0) Tryz.results302 rfl rfl
        ·refine sk ?_
         cases h; exact Z1e (i := 0) Tryz.results302 rfl rfl
       case hx8 =>
        refine SR <| Md rfl <| Md rfl <| Ac (Zn rfl rfl (vt rfl) (vt rfl)) rfl <| Md rfl <| Gd rfl (fun hq => Zt (A := rd (Z0 .i64) s48) rfl rfl (vt rfl)) <| Gd rfl (fun hq => Zt (A := rd (Z0 .i64) (IntKind.i64.wrap (q43.toNat : Int))) rfl rfl (vt rfl)) <| Gd rfl (fun hq => Zn rfl rfl (vgt rfl hq) (vgt rfl hq)) <| Ac (Z22 rfl rfl (vt rfl) (vt rfl)) rfl <| Nl <| Cq rfl h (fun h => ?_) (fun h => ?_)
        ·obtain ⟨l58, hl58, h⟩ := Z9 h
         refine Rg <| Mw rfl <| Md rfl <| Md rfl <| Md rfl <| Ac (Zt (A := fn2 Tryz.prog (Z0 .i64) (Z0 .i64) (Z0 .i64) x6) rfl rfl (vt rfl)) rfl <| Cv rfl (Z0r 0 (xs := [.tmp 200, .tmp 201, .tmp 202, .tmp 203, .tmp 204]) (hR_slices_symMergeCmpFunc_int _ _ _ _ _ _ _ hl58) Zdc rfl rfl ⟨vt rfl, vt rfl, vt rfl, vt rfl, vt rfl, trivial⟩ rfl) fun _u => Nl ?_
         exact ⟨_, h, FX rfl⟩
        ·refine sk ?_
         exact ⟨_, h, FX rfl⟩
      case hx7 =>
       refine SR <| Md rfl <| Md rfl <| Ac (Zn rfl rfl (vt rfl) (vt rfl)) rfl <| Md rfl <| Gd rfl (fun hq => Zt (A := rd (Z0 .i64) m4) rfl rfl (vt rfl)) <| Gd rfl (fun hq => Zt (A := rd (Z0 .i64) (IntKind.i64.wrap ((IntKind.i64.wrap ((IntKind.i64.wrap (q43.toNat : Int)) + m4)) - s48))) rfl rfl (vt rfl)) <| Gd rfl (fun hq => Zn rfl rfl (vgt rfl hq) (vgt rfl hq)) <| Ac (Z22 rfl rfl (vt rfl) (vt rfl)) rfl <| Nl <| Cq rfl h (fun h => ?_) (fun h => ?_)
       ·obtain ⟨l59, hl59, h⟩ := Z9 h
        refine Rg <| Mw rfl <| Md rfl <| Md rfl <| Md rfl <| Ac (Zt (A := fn2 Tryz.prog (Z0 .i64) (Z0 .i64) (Z0 .i64) x6) rfl rfl (vt rfl)) rfl <| Cv rfl (Z0r 0 (xs := [.tmp 186, .tmp 187, .tmp 188, .tmp 189, .tmp 190]) (Zwt _ _ _ _ _ _ _ hl59) Y27 rfl rfl ⟨vt rfl, vt rfl, vt rfl, vt rfl, vt rfl, trivial⟩ rfl) fun _u => Nl ?_
        exact ⟨_, h, FX rfl⟩
       ·refine sk ?_
        exact ⟨_, h, FX rfl⟩
   case hx5 =>
    refine SR <| Md rfl <| Md rfl <| Ac (Z2w rfl rfl (vt rfl) (vt rfl)) rfl <| Nl <| Cq rfl h (fun h => ?_) (fun h => ?_)
    ·refine SR <| Md rfl <| Md rfl <| Ac (Z0i rfl rfl (vt rfl) (vt rfl)) rfl <| As rfl <| Nl <| Rg <| Md rfl <| As rfl <| Nl ?_
     exact ⟨(_, _), h, FX rfl⟩
    ·refine SR <| Md rfl <| As rfl <| Nl <| Rg <| Md rfl <| As rfl <| Nl ?_
     exact ⟨(_, _), h, FX rfl⟩
def Zc3 : Nat → ((List Int) → Int → Int → Int → (Int → Int → Option Int) → Option (List Int))
 | 0 => (fun _ _ _ _ _ => none)
 | n + 1 => (Zi4 (Zc3 n))
theorem Zk5 : ∀ n : Nat, (∀ (v2 : Value) (d1 : (List Int)) (a3 : Int) (m4 : Int) (b5 : Int) (x6 : (Int → Int → Option Int)) (r : (List Int)), (Zc3 n) d1 a3 m4 b5 x6 = some r → Con Tryz.prog 302 [Zh v2, rd (Z0 .i64) a3, rd (Z0 .i64) m4, rd (Z0 .i64) b5, fn2 Tryz.prog (Z0 .i64) (Z0 .i64) (Z0 .i64) x6] (Za v2 3 (Z0 .i64) d1) (fun _ : Unit => top) (fun _ => Za v2 3 (Z0 .i64) r))
 | 0 => (by intros; rename_i h; cases h)
 | n + 1 => by
  have ih := Zk5 n
  exact (Y20 (Zc3 n) ih)
def Zie (d1 : (List Int)) (a3 : Int) (m4 : Int) (b5 : Int) (x6 : (Int → Int → Option Int)) : Option (List Int) := (Zc3 Z27) d1 a3 m4 b5 x6
theorem Zn7 : ∀ (v2 : Value) (d1 : (List Int)) (a3 : Int) (m4 : Int) (b5 : Int) (x6 : (Int → Int → Option Int)) (r : (List Int)), Zie d1 a3 m4 b5 x6 = some r → Con Tryz.prog 302 [Zh v2, rd (Z0 .i64) a3, rd (Z0 .i64) m4, rd (Z0 .i64) b5, fn2 Tryz.prog (Z0 .i64) (Z0 .i64) (Z0 .i64) x6] (Za v2 3 (Z0 .i64) d1) (fun _ : Unit => top) (fun _ => Za v2 3 (Z0 .i64) r) := Zk5 Z27
def Zc6 (n3 : Int) (b17 : Int) (x4 : (Int → Int → Option Int)) (go2 : (List Int) → Int → Option (List Int)) : Nat → (List Int) → Int → Int → Option (List Int)
 | 0, _, _, _ => none
 | m25 + 1, l22, a23, b24 => (bif (decide (b24 ≤ n3)) then (Zie l22 a23 (IntKind.i64.wrap (a23 + b17)) b24 x4).bind fun l26 => (Zc6 n3 b17 x4 go2 m25) l26 b24 (IntKind.i64.wrap (b24 + (IntKind.i64.wrap (2 * b17)))) else (bif (decide ((IntKind.i64.wrap (a23 + b17)) < n3)) then (Zie l22 a23 (IntKind.i64.wrap (a23 + b17)) n3 x4).bind fun l27 => go2 l27 (IntKind.i64.wrap (b17 * 2)) else go2 l22 (IntKind.i64.wrap (b17 * 2))))
def Z8b (n3 : Int) (x4 : (Int → Int → Option Int)) : Nat → (List Int) → Int → Option (List Int)
 | 0, _, _ => none
 | m18 + 1, l16, b17 => (bif (decide (b17 < n3)) then Zc6 n3 b17 x4 (Z8b n3 x4 m18) (((n3 : Int) - (IntKind.i64.wrap (2 * b17))).toNat + 2) l16 0 (IntKind.i64.wrap (2 * b17)) else some l16)
def Zbc (n3 : Int) (x4 : (Int → Int → Option Int)) : Nat → (List Int) → Int → Int → Option (List Int)
 | 0, _, _, _ => none
 | m11 + 1, l8, a9, b10 => (bif (decide (b10 ≤ n3)) then (Zck l8 a9 b10 x4).bind fun l12 => (Zbc n3 x4 m11) l12 b10 (IntKind.i64.wrap (b10 + 20)) else (Zck l8 a9 n3 x4).bind fun l13 => Z8b n3 x4 (((n3 : Int) - 20).toNat + 1) l13 20)
def Zfw (d1 : (List Int)) (n3 : Int) (x4 : (Int → Int → Option Int)) : Option (List Int) :=
 Zbc n3 x4 (((n3 : Int) - 20).toNat + 2) d1 0 20
theorem Y0r (v2 : Value) (d1 : (List Int)) (n3 : Int) (x4 : (Int → Int → Option Int)) (r : (List Int)) (h : Zfw d1 n3 x4 = some r) : Con Tryz.prog 258 [Zh v2, rd (Z0 .i64) n3, fn2 Tryz.prog (Z0 .i64) (Z0 .i64) (Z0 .i64) x4] (Za v2 3 (Z0 .i64) d1) (fun _ : Unit => top) (fun _ => Za v2 3 (Z0 .i64) r) := by
 refine Con.intro Tryz.func258 rfl Tryz.ntmps258 rfl fun w H X => ?_
 unfold Zfw at h
 refine SR <| Ak rfl <| Nl <| SR <| Md rfl <| Ak rfl <| As rfl <| Nl <| sq <| bk <| LG (d := []) (ν := Nat × (List Int) × Int × Int) (fun (m11, l8, a9, b10) => (True ∧ Zbc n3 x4 m11 l8 a9 b10 = some r, m11, [(0, Zh v2), (1, rd (Z0 .i64) n3), (2, fn2 Tryz.prog (Z0 .i64) (Z0 .i64) (Z0 .i64) x4), (6, rd (Z0 .i64) 20), (7, rd (Z0 .i64) a9), (8, rd (Z0 .i64) b10)], [(0, Za v2 3 (Z0 .i64) l8)])) ((((n3 : Int) - 20).toNat + 2), d1, 0, 20) ⟨trivial, h⟩ (FX rfl) ?_
 rintro ⟨m11, l8, a9, b10⟩ ⟨hsf1, h⟩
 dsimp only at h ⊢
 cases m11 with
 | zero => cases h
 | succ m11 =>
  unfold Zbc at h
  refine sq <| SR <| Md rfl <| Md rfl <| Ac (Zbw rfl rfl (vt rfl) (vt rfl)) rfl <| Nl <| Cq rfl h (fun h => ?_) (fun h => ?_)
  ·refine sk <| bk <| sq ?_
   obtain ⟨l12, hl12, h⟩ := Z9 h
   refine Rg <| Mw rfl <| Md rfl <| Md rfl <| Ac (Zt (A := fn2 Tryz.prog (Z0 .i64) (Z0 .i64) (Z0 .i64) x4) rfl rfl (vt rfl)) rfl <| Cv rfl (Z0r 0 (xs := [.tmp 14, .tmp 15, .tmp 16, .tmp 17]) (Zl7 _ _ _ _ _ _ hl12) Zof rfl rfl ⟨vt rfl, vt rfl, vt rfl, vt rfl, trivial⟩ rfl) fun _u => Nl <| SR <| Md rfl <| As rfl <| Nl <| Rg <| Md rfl <| Md rfl <| Ac (Z0d rfl rfl (vt rfl) (vt rfl)) rfl <| As rfl <| Nl ?_
   exact ⟨(_, _, _, _), Nat.lt_succ_self _, ⟨trivial, h⟩, FX rfl⟩
  ·refine xt <| sq ?_
   obtain ⟨l13, hl13, h⟩ := Z9 h
   refine Rg <| Mw rfl <| Md rfl <| Md rfl <| Ac (Zt (A := fn2 Tryz.prog (Z0 .i64) (Z0 .i64) (Z0 .i64) x4) rfl rfl (vt rfl)) rfl <| Cv rfl (Z0r 0 (xs := [.tmp 23, .tmp 24, .tmp 25, .tmp 26]) (Zl7 _ _ _ _ _ _ hl13) Zof rfl rfl ⟨vt rfl, vt rfl, vt rfl, vt rfl, trivial⟩ rfl) fun _u => Nl <| bk <| LG (d := []) (ν := Nat × (List Int) × Int) (fun (m18, l16, b17) => (True ∧ Z8b n3 x4 m18 l16 b17 = some r, m18, [(0, Zh v2), (1, rd (Z0 .i64) n3), (2, fn2 Tryz.prog (Z0 .i64) (Z0 .i64) (Z0 .i64) x4), (6, rd (Z0 .i64) b17)], [(0, Za v2 3 (Z0 .i64) l16)])) ((((n3 : Int) - 20).toNat + 1), l13, 20) ⟨trivial, h⟩ (FX rfl) ?_
   rintro ⟨m18, l16, b17⟩ ⟨hsf2, h⟩
   dsimp only at h ⊢
   cases m18 with
   | zero => cases h
   | succ m18 =>
    unfold Z8b at h
    refine sq <| SR <| Md rfl <| Md rfl <| Ac (Zn rfl rfl (vt rfl) (vt rfl)) rfl <| Nl <| Cq rfl h (fun h => ?_) (fun h => ?_)
    ·refine sk <| bk <| SR <| Md rfl <| Ac (Z5c rfl rfl (vk rfl) (vt rfl)) rfl <| Ak rfl <| As rfl <| Nl <| sq <| bk <| LG (d := []) (ν := Nat × (List Int) × Int × Int) (fun (m25, l22, a23, b24) => (True ∧ Zc6 n3 b17 x4 (Z8b n3 x4 m18) m25 l22 a23 b24 = some r, m25, [(0, Zh v2), (1, rd (Z0 .i64) n3), (2, fn2 Tryz.prog (Z0 .i64) (Z0 .i64) (Z0 .i64) x4), (6, rd (Z0 .i64) b17), (7, rd (Z0 .i64) a23), (8, rd (Z0 .i64) b24)], [(0, Za v2 3 (Z0 .i64) l22)])) ((((n3 : Int) - (IntKind.i64.wrap (2 * b17))).toNat + 2), l16, 0, (IntKind.i64.wrap (2 * b17))) ⟨trivial, h⟩ (FX rfl) ?_
     rintro ⟨m25, l22, a23, b24⟩ ⟨hsf3, h⟩
     dsimp only at h ⊢
     cases m25 with
     | zero => cases h
     | succ m25 =>
      unfold Zc6 at h
      refine sq <| SR <| Md rfl <| Md rfl <| Ac (Zbw rfl rfl (vt rfl) (vt rfl)) rfl <| Nl <| Cq rfl h (fun h => ?_) (fun h => ?_)
      ·refine sk <| bk <| sq ?_
       obtain ⟨l26, hl26, h⟩ := Z9 h
       refine Rg <| Mw rfl <| Md rfl <| Md rfl <| Md rfl <| Ac (Z0d rfl rfl (vt rfl) (vt rfl)) rfl <| Md rfl <| Ac (Zt (A := fn2 Tryz.prog (Z0 .i64) (Z0 .i64) (Z0 .i64) x4) rfl rfl (vt rfl)) rfl <| Cv rfl (Z0r 0 (xs := [.tmp 36, .tmp 37, .tmp 40, .tmp 41, .tmp 42]) (Zn7 _ _ _ _ _ _ _ hl26) Zdc rfl rfl ⟨vt rfl, vt rfl, vt rfl, vt rfl, vt rfl, trivial⟩ rfl) fun _u => Nl <| SR <| Md rfl <| As rfl <| Nl <| Rg <| Md rfl <| Md rfl <| Ac (Z5c rfl rfl (vk rfl) (vt rfl)) rfl <| Ac (Z0d rfl rfl (vt rfl) (vt rfl)) rfl <| As rfl <| Nl ?_
       exact ⟨(_, _, _, _), Nat.lt_succ_self _, ⟨trivial, h⟩, FX rfl⟩
      ·refine xt <| sq <| SR <| Md rfl <| Md rfl <| Ac (Z0d rfl rfl (vt rfl) (vt rfl)) rfl <| As rfl <| Nl <| SR <| Md rfl <| Md rfl <| Ac (Zn rfl rfl (vt rfl) (vt rfl)) rfl <| Nl <| Cq rfl h (fun h => ?_) (fun h => ?_)
       ·obtain ⟨l27, hl27, h⟩ := Z9 h
        refine Rg <| Mw rfl <| Md rfl <| Md rfl <| Md rfl <| Ac (Zt (A := fn2 Tryz.prog (Z0 .i64) (Z0 .i64) (Z0 .i64) x4) rfl rfl (vt rfl)) rfl <| Cv rfl (Z0r 0 (xs := [.tmp 55, .tmp 56, .tmp 57, .tmp 58, .tmp 59]) (Zn7 _ _ _ _ _ _ _ hl27) Zdc rfl rfl ⟨vt rfl, vt rfl, vt rfl, vt rfl, vt rfl, trivial⟩ rfl) fun _u => Nl <| Rg <| Md rfl <| Ac (Z5c rfl rfl (vt rfl) (vk rfl)) rfl <| As rfl <| Nl ?_
        exact ⟨(_, _, _), Nat.lt_succ_self _, ⟨trivial, h⟩, FX rfl⟩
       ·refine sk <| Rg <| Md rfl <| Ac (Z5c rfl rfl (vt rfl) (vk rfl)) rfl <| As rfl <| Nl ?_
        exact ⟨(_, _, _), Nat.lt_succ_self _, ⟨trivial, h⟩, FX rfl⟩
    ·refine xt ?_
     cases h; exact Z1e (i := 0) Tryz.results258 rfl rfl
def Zgx (x1 : (List Int)) (x3 : (Int → Int → Option Int)) : Option (List Int) :=
 (Zfw x1 (x1.length : Int) x3).bind fun l4 => some l4
theorem Zum (v2 : Value) (x1 : (List Int)) (x3 : (Int → Int → Option Int)) (r : (List Int)) (h : Zgx x1 x3 = some r) : Con Tryz.prog 200 [Zh v2, fn2 Tryz.prog (Z0 .i64) (Z0 .i64) (Z0 .i64) x3] (Za v2 3 (Z0 .i64) x1) (fun _ : Unit => top) (fun _ => Za v2 3 (Z0 .i64) r) := by
 refine Con.intro Tryz.func200 rfl Tryz.ntmps200 rfl fun w H X => ?_
 unfold Zgx at h
 obtain ⟨l4, hl4, h⟩ := Z9 h
 refine Rg <| Mw rfl <| Mw rfl <| Ac (Z3s 0 rfl rfl Z0q (vt rfl) rfl) rfl <| Ac (Zt (A := fn2 Tryz.prog (Z0 .i64) (Z0 .i64) (Z0 .i64) x3) rfl rfl (vt rfl)) rfl <| Cv rfl (Z0r 0 (xs := [.tmp 4, .tmp 6, .tmp 7]) (Y0r _ _ _ _ _ hl4) Y06 rfl rfl ⟨vt rfl, vt rfl, vt rfl, trivial⟩ rfl) fun _u => Nl ?_
 cases h; exact Z1e (i := 0) Tryz.results200 rfl rfl
def Z9w (t1 : (List Flow)) : Nat → Nat → (List Int) → Option (List Int)
 | 0, i9, l7 => (Zgx l7 (fun x z => Zdp x z t1)).bind fun l11 => some l11
 | m10 + 1, i9, l7 => (Z1n l7 [(i9 : Int)]).bind fun l12 => (Z9w t1 m10) (i9 + 1) l12
def Zfx (t1 : (List Flow)) : Option (List Int) :=
 (omk (t1.length : Int)).bind fun u3 => Z9w t1 ((t1.length : Int) : Int).toNat 0 []
theorem Zq5 : Q1 Tryz.prog 135 (rd (Z4 Z2d)) (rd (Z4 (Z0 .i64))) Zfx := fun t1 r h => I0 Tryz.func135 rfl Tryz.ntmps135 rfl fun w H => by
 unfold Zfx at h
 refine SR <| Cv rfl (Zl 2 rfl rfl (vt rfl)) fun g2 => Ac (Z00 (A := rd (Z4 (Z0 .i64)) []) rfl rfl Z13) rfl <| Nl <| sq ?_
 obtain ⟨u3, hu3, h⟩ := Z9 h
 refine Rg <| Ld Z4y 2 rfl <| Ac (Z16 rfl rfl Z5u (vt rfl)) rfl <| Cv rfl (Zsf 1001 hu3 rfl rfl Zct zr3 (vt rfl)) fun v4 => Aw rfl <| Nl <| sq <| SR <| Ld Z4y 2 rfl <| Ac (Z16 rfl rfl Z5u (vt rfl)) rfl <| Mk rfl <| Nl <| bk <| LG (d := []) (ν := Nat × Nat × (List Int) × Value) (fun (m10, i9, l7, v8) => (Cnt (t1.length : Int) i9 m10 ∧ Z9w t1 m10 i9 l7 = some r, m10, [(1, Z7 g2 (Lens.id (Z4 Z2d))), (3, Zh v8), (9, rd (Z0 .i64) (t1.length : Int)), (10, rd (Z0 .i64) (i9 : Int))], [(2, Zb g2 22 (Z4 Z2d) t1), (1001, Za v8 3 (Z0 .i64) l7)])) (((t1.length : Int) : Int).toNat, 0, [], v4) ⟨Cnt.start _, h⟩ (FX rfl) ?_
 rintro ⟨m10, i9, l7, v8⟩ ⟨hsf1, h⟩
 dsimp only at hsf1 h ⊢
 cases m10 with
 | zero =>
  unfold Z9w at h
  refine SR <| Ac (Zn rfl rfl (vt rfl) (vt rfl)) rfl <| Nl <| sq <| Cn rfl (fun hc => absurd (of_decide_eq_true hc) hsf1.zero) (fun hc => ?_)
  refine xt <| sq <| AW.freezeB 1 2 rfl rfl rfl ?_
  obtain ⟨l11, hl11, h⟩ := Z9 h
  refine Rg <| Mw rfl <| Ac (Zvk (cs := [.tmp 1]) (CAs := [rp (Z4 Z2d) t1]) (fun x z => Zdp x z t1) rfl rfl Zvd ⟨vt rfl, trivial⟩ (fun x z y h => Zt1 _ _ _ y h)) rfl <| Cv rfl (Z0r 1001 (xs := [.tmp 18, .tmp 19]) (Zum _ _ _ _ hl11) Zxz rfl rfl ⟨vt rfl, vt rfl, trivial⟩ rfl) fun _u => Nl <| SR <| Mw rfl <| Aw rfl <| Nl <| AW.freezes [2, 3, 18, 21] 1001 rfl ⟨rfl, rfl, rfl, rfl, trivial⟩ rfl <| rt ?_
  cases h; exact Zm Tryz.results135 rfl (Zc rfl)
 | succ m10 =>
  unfold Z9w at h
  refine SR <| Ac (Zn rfl rfl (vt rfl) (vt rfl)) rfl <| Nl <| sq <| Cn rfl (fun hc => ?_) (fun hc => absurd hsf1.succ (of_decide_eq_false hc))
  have hlti9 := of_decide_eq_true hc
  refine sk <| sq <| bk <| SR <| Md rfl <| As rfl <| Nl ?_
  obtain ⟨l12, hl12, h⟩ := Z9 h
  refine Rg <| Mw rfl <| Md rfl <| Ac (osl Z0q zr3 rfl (vt rfl)) rfl <| Cv rfl (Z2x 1001 hl12 rfl rfl Zct (vt rfl) rfl (vt rfl)) fun v13 => Aw rfl <| Nl <| Rg <| Ac (Z12 (t := 9) rfl rfl (vt rfl) (vk rfl) (vt rfl) hlti9) rfl <| Md rfl <| Nl ?_
  exact ⟨(_, _, _, _), Nat.lt_succ_self _, ⟨hsf1.next, h⟩, FX rfl⟩
def Z7i (x1 : Int) : Option Bool :=
 some ((decide (x1 ≥ 0)) && (decide (x1 < 24)))
theorem Zcl : Q1 Tryz.prog 269 (rd (Z0 .i64)) (rd Z6) Z7i := fun x1 r h => I0 Tryz.func269 rfl Tryz.ntmps269 rfl fun w H => by
 unfold Z7i at h
 refine SR <| Ab rfl <| Nl <| SR <| Md rfl <| Ac (Z3l rfl rfl (vt rfl) (vk rfl)) rfl <| Md rfl <| Gd rfl (fun hq => Zt (A := rd (Z0 .i64) x1) rfl rfl (vt rfl)) <| Gd rfl (fun hq => Zn rfl rfl (vgt rfl hq) (vk rfl)) <| Ac (Z22 rfl rfl (vt rfl) (vt rfl)) rfl <| As rfl <| Nl <| rt ?_
 cases h; exact Zm Tryz.results269 rfl (Zc rfl)
def Zfr : Option Zzy :=
 some (Vector.set (Vector.set (Vector.set (Vector.set (Vector.set (Vector.set (Vector.set (Vector.set (Vector.set (Vector.set (Vector.set (Vector.set (Vector.set (Vector.set (Vector.set (Vector.set (Vector.set (Vector.set (Vector.set (Vector.set (Vector.set (Vector.set (Vector.set (Vector.set (Vector.replicate 24 Z8i) 0 (⟨{ data := #[105, 110, 95, 112, 111, 114, 116] }, 0, 32, false⟩ : field_row) (by decide)) 1 (⟨{ data := #[109, 101, 116, 97, 100, 97, 116, 97] }, 2, 64, true⟩ : field_row) (by decide)) 2 (⟨{ data := #[101, 116, 104, 95, 100, 115, 116] }, 3, 48, true⟩ : field_row) (by decide)) 3 (⟨{ data := #[101, 116, 104, 95, 115, 114, 99] }, 4, 48, true⟩ : field_row) (by decide)) 4 (⟨{ data := #[101, 116, 104, 95, 116, 121, 112, 101] }, 5, 16, false⟩ : field_row) (by decide)) 5 (⟨{ data := #[118, 108, 97, 110, 95, 118, 105, 100] }, 6, 13, true⟩ : field_row) (by decide)) 6 (⟨{ data := #[118, 108, 97, 110, 95, 112, 99, 112] }, 7, 3, false⟩ : field_row) (by decide)) 7 (⟨{ data := #[105, 112, 95, 100, 115, 99, 112] }, 8, 6, false⟩ : field_row) (by decide)) 8 (⟨{ data := #[105, 112, 95, 101, 99, 110] }, 9, 2, false⟩ : field_row) (by decide)) 9 (⟨{ data := #[105, 112, 95, 112, 114, 111, 116, 111] }, 10, 8, false⟩ : field_row) (by decide)) 10 (⟨{ data := #[105, 112, 118, 52, 95, 115, 114, 99] }, 11, 32, true⟩ : field_row) (by decide)) 11 (⟨{ data := #[105, 112, 118, 52, 95, 100, 115, 116] }, 12, 32, true⟩ : field_row) (by decide)) 12 (⟨{ data := #[116, 99, 112, 95, 115, 114, 99] }, 13, 16, false⟩ : field_row) (by decide)) 13 (⟨{ data := #[116, 99, 112, 95, 100, 115, 116] }, 14, 16, false⟩ : field_row) (by decide)) 14 (⟨{ data := #[117, 100, 112, 95, 115, 114, 99] }, 15, 16, false⟩ : field_row) (by decide)) 15 (⟨{ data := #[117, 100, 112, 95, 100, 115, 116] }, 16, 16, false⟩ : field_row) (by decide)) 16 (⟨{ data := #[105, 99, 109, 112, 118, 52, 95, 116, 121, 112, 101] }, 19, 8, false⟩ : field_row) (by decide)) 17 (⟨{ data := #[105, 99, 109, 112, 118, 52, 95, 99, 111, 100, 101] }, 20, 8, false⟩ : field_row) (by decide)) 18 (⟨{ data := #[97, 114, 112, 95, 111, 112] }, 21, 16, false⟩ : field_row) (by decide)) 19 (⟨{ data := #[97, 114, 112, 95, 115, 112, 97] }, 22, 32, true⟩ : field_row) (by decide)) 20 (⟨{ data := #[97, 114, 112, 95, 116, 112, 97] }, 23, 32, true⟩ : field_row) (by decide)) 21 (⟨{ data := #[105, 112, 118, 54, 95, 115, 114, 99] }, 26, 128, true⟩ : field_row) (by decide)) 22 (⟨{ data := #[105, 112, 118, 54, 95, 100, 115, 116] }, 27, 128, true⟩ : field_row) (by decide)) 23 (⟨{ data := #[109, 112, 108, 115, 95, 108, 97, 98, 101, 108] }, 34, 20, false⟩ : field_row) (by decide))
theorem Zyy : Q0 Tryz.prog 344 (rd (Z1 24 Z0x)) Zfr := fun r h => I0 Tryz.func344 rfl Tryz.ntmps344 rfl fun w H => by
 unfold Zfr at h
 refine SR <| Cv rfl (Zo 1 rfl rfl Zjj) fun g1 => Nl <| SR <| Ac (Z15 (ps := [(0, .const (Value.string { data := #[105, 110, 95, 112, 111, 114, 116] })), (1, .const (Value.int IntKind.i64 0)), (2, .const (Value.int IntKind.i64 32)), (3, .const (Value.bool false))]) (x := (⟨{ data := #[105, 110, 95, 112, 111, 114, 116] }, 0, 32, false⟩ : field_row)) rfl rfl rfl (by kernel_rfl) Z1t ⟨_, _, Z20, _, by kernel_rfl, (vs (by decide)), _, _, lfield_row_1, _, by kernel_rfl, (vk rfl), _, _, Z1s, _, by kernel_rfl, (vk rfl), _, _, Z21, _, by kernel_rfl, vb, rfl⟩) rfl <| Ac (Z15 (ps := [(0, .const (Value.string { data := #[109, 101, 116, 97, 100, 97, 116, 97] })), (1, .const (Value.int IntKind.i64 2)), (2, .const (Value.int IntKind.i64 64)), (3, .const (Value.bool true))]) (x := (⟨{ data := #[109, 101, 116, 97, 100, 97, 116, 97] }, 2, 64, true⟩ : field_row)) rfl rfl rfl (by kernel_rfl) Z1t ⟨_, _, Z20, _, by kernel_rfl, (vs (by decide)), _, _, lfield_row_1, _, by kernel_rfl, (vk rfl), _, _, Z1s, _, by kernel_rfl, (vk rfl), _, _, Z21, _, by kernel_rfl, vb, rfl⟩) rfl <| Ac (Z15 (ps := [(0, .const (Value.string { data := #[101, 116, 104, 95, 100, 115, 116] })), (1, .const (Value.int IntKind.i64 3)), (2, .const (Value.int IntKind.i64 48)), (3, .const (Value.bool true))]) (x := (⟨{ data := #[101, 116, 104, 95, 100, 115, 116] }, 3, 48, true⟩ : field_row)) rfl rfl rfl (by kernel_rfl) Z1t ⟨_, _, Z20, _, by kernel_rfl, (vs (by decide)), _, _, lfield_row_1, _, by kernel_rfl, (vk rfl), _, _, Z1s, _, by kernel_rfl, (vk rfl), _, _, Z21, _, by kernel_rfl, vb, rfl⟩) rfl <| Ac (Z15 (ps := [(0, .const (Value.string { data := #[101, 116, 104, 95, 115, 114, 99] })), (1, .const (Value.int IntKind.i64 4)), (2, .const (Value.int IntKind.i64 48)), (3, .const (Value.bool true))]) (x := (⟨{ data := #[101, 116, 104, 95, 115, 114, 99] }, 4, 48, true⟩ : field_row)) rfl rfl rfl (by kernel_rfl) Z1t ⟨_, _, Z20, _, by kernel_rfl, (vs (by decide)), _, _, lfield_row_1, _, by kernel_rfl, (vk rfl), _, _, Z1s, _, by kernel_rfl, (vk rfl), _, _, Z21, _, by kernel_rfl, vb, rfl⟩) rfl <| Ac (Z15 (ps := [(0, .const (Value.string { data := #[101, 116, 104, 95, 116, 121, 112, 101] })), (1, .const (Value.int IntKind.i64 5)), (2, .const (Value.int IntKind.i64 16)), (3, .const (Value.bool false))]) (x := (⟨{ data := #[101, 116, 104, 95, 116, 121, 112, 101] }, 5, 16, false⟩ : field_row)) rfl rfl rfl (by kernel_rfl) Z1t ⟨_, _, Z20, _, by kernel_rfl, (vs (by decide)), _, _, lfield_row_1, _, by kernel_rfl, (vk rfl), _, _, Z1s, _, by kernel_rfl, (vk rfl), _, _, Z21, _, by kernel_rfl, vb, rfl⟩) rfl <| Ac (Z15 (ps := [(0, .const (Value.string { data := #[118, 108, 97, 110, 95, 118, 105, 100] })), (1, .const (Value.int IntKind.i64 6)), (2, .const (Value.int IntKind.i64 13)), (3, .const (Value.bool true))]) (x := (⟨{ data := #[118, 108, 97, 110, 95, 118, 105, 100] }, 6, 13, true⟩ : field_row)) rfl rfl rfl (by kernel_rfl) Z1t ⟨_, _, Z20, _, by kernel_rfl, (vs (by decide)), _, _, lfield_row_1, _, by kernel_rfl, (vk rfl), _, _, Z1s, _, by kernel_rfl, (vk rfl), _, _, Z21, _, by kernel_rfl, vb, rfl⟩) rfl ?_
 refine Ac (Z15 (ps := [(0, .const (Value.string { data := #[118, 108, 97, 110, 95, 112, 99, 112] })), (1, .const (Value.int IntKind.i64 7)), (2, .const (Value.int IntKind.i64 3)), (3, .const (Value.bool false))]) (x := (⟨{ data := #[118, 108, 97, 110, 95, 112, 99, 112] }, 7, 3, false⟩ : field_row)) rfl rfl rfl (by kernel_rfl) Z1t ⟨_, _, Z20, _, by kernel_rfl, (vs (by decide)), _, _, lfield_row_1, _, by kernel_rfl, (vk rfl), _, _, Z1s, _, by kernel_rfl, (vk rfl), _, _, Z21, _, by kernel_rfl, vb, rfl⟩) rfl <| Ac (Z15 (ps := [(0, .const (Value.string { data := #[105, 112, 95, 100, 115, 99, 112] })), (1, .const (Value.int IntKind.i64 8)), (2, .const (Value.int IntKind.i64 6)), (3, .const (Value.bool false))]) (x := (⟨{ data := #[105, 112, 95, 100, 115, 99, 112] }, 8, 6, false⟩ : field_row)) rfl rfl rfl (by kernel_rfl) Z1t ⟨_, _, Z20, _, by kernel_rfl, (vs (by decide)), _, _, lfield_row_1, _, by kernel_rfl, (vk rfl), _, _, Z1s, _, by kernel_rfl, (vk rfl), _, _, Z21, _, by kernel_rfl, vb, rfl⟩) rfl <| Ac (Z15 (ps := [(0, .const (Value.string { data := #[105, 112, 95, 101, 99, 110] })), (1, .const (Value.int IntKind.i64 9)), (2, .const (Value.int IntKind.i64 2)), (3, .const (Value.bool false))]) (x := (⟨{ data := #[105, 112, 95, 101, 99, 110] }, 9, 2, false⟩ : field_row)) rfl rfl rfl (by kernel_rfl) Z1t ⟨_, _, Z20, _, by kernel_rfl, (vs (by decide)), _, _, lfield_row_1, _, by kernel_rfl, (vk rfl), _, _, Z1s, _, by kernel_rfl, (vk rfl), _, _, Z21, _, by kernel_rfl, vb, rfl⟩) rfl <| Ac (Z15 (ps := [(0, .const (Value.string { data := #[105, 112, 95, 112, 114, 111, 116, 111] })), (1, .const (Value.int IntKind.i64 10)), (2, .const (Value.int IntKind.i64 8)), (3, .const (Value.bool false))]) (x := (⟨{ data := #[105, 112, 95, 112, 114, 111, 116, 111] }, 10, 8, false⟩ : field_row)) rfl rfl rfl (by kernel_rfl) Z1t ⟨_, _, Z20, _, by kernel_rfl, (vs (by decide)), _, _, lfield_row_1, _, by kernel_rfl, (vk rfl), _, _, Z1s, _, by kernel_rfl, (vk rfl), _, _, Z21, _, by kernel_rfl, vb, rfl⟩) rfl <| Ac (Z15 (ps := [(0, .const (Value.string { data := #[105, 112, 118, 52, 95, 115, 114, 99] })), (1, .const (Value.int IntKind.i64 11)), (2, .const (Value.int IntKind.i64 32)), (3, .const (Value.bool true))]) (x := (⟨{ data := #[105, 112, 118, 52, 95, 115, 114, 99] }, 11, 32, true⟩ : field_row)) rfl rfl rfl (by kernel_rfl) Z1t ⟨_, _, Z20, _, by kernel_rfl, (vs (by decide)), _, _, lfield_row_1, _, by kernel_rfl, (vk rfl), _, _, Z1s, _, by kernel_rfl, (vk rfl), _, _, Z21, _, by kernel_rfl, vb, rfl⟩) rfl <| Ac (Z15 (ps := [(0, .const (Value.string { data := #[105, 112, 118, 52, 95, 100, 115, 116] })), (1, .const (Value.int IntKind.i64 12)), (2, .const (Value.int IntKind.i64 32)), (3, .const (Value.bool true))]) (x := (⟨{ data := #[105, 112, 118, 52, 95, 100, 115, 116] }, 12, 32, true⟩ : field_row)) rfl rfl rfl (by kernel_rfl) Z1t ⟨_, _, Z20, _, by kernel_rfl, (vs (by decide)), _, _, lfield_row_1, _, by kernel_rfl, (vk rfl), _, _, Z1s, _, by kernel_rfl, (vk rfl), _, _, Z21, _, by kernel_rfl, vb, rfl⟩) rfl ?_
 refine Ac (Z15 (ps := [(0, .const (Value.string { data := #[116, 99, 112, 95, 115, 114, 99] })), (1, .const (Value.int IntKind.i64 13)), (2, .const (Value.int IntKind.i64 16)), (3, .const (Value.bool false))]) (x := (⟨{ data := #[116, 99, 112, 95, 115, 114, 99] }, 13, 16, false⟩ : field_row)) rfl rfl rfl (by kernel_rfl) Z1t ⟨_, _, Z20, _, by kernel_rfl, (vs (by decide)), _, _, lfield_row_1, _, by kernel_rfl, (vk rfl), _, _, Z1s, _, by kernel_rfl, (vk rfl), _, _, Z21, _, by kernel_rfl, vb, rfl⟩) rfl <| Ac (Z15 (ps := [(0, .const (Value.string { data := #[116, 99, 112, 95, 100, 115, 116] })), (1, .const (Value.int IntKind.i64 14)), (2, .const (Value.int IntKind.i64 16)), (3, .const (Value.bool false))]) (x := (⟨{ data := #[116, 99, 112, 95, 100, 115, 116] }, 14, 16, false⟩ : field_row)) rfl rfl rfl (by kernel_rfl) Z1t ⟨_, _, Z20, _, by kernel_rfl, (vs (by decide)), _, _, lfield_row_1, _, by kernel_rfl, (vk rfl), _, _, Z1s, _, by kernel_rfl, (vk rfl), _, _, Z21, _, by kernel_rfl, vb, rfl⟩) rfl <| Ac (Z15 (ps := [(0, .const (Value.string { data := #[117, 100, 112, 95, 115, 114, 99] })), (1, .const (Value.int IntKind.i64 15)), (2, .const (Value.int IntKind.i64 16)), (3, .const (Value.bool false))]) (x := (⟨{ data := #[117, 100, 112, 95, 115, 114, 99] }, 15, 16, false⟩ : field_row)) rfl rfl rfl (by kernel_rfl) Z1t ⟨_, _, Z20, _, by kernel_rfl, (vs (by decide)), _, _, lfield_row_1, _, by kernel_rfl, (vk rfl), _, _, Z1s, _, by kernel_rfl, (vk rfl), _, _, Z21, _, by kernel_rfl, vb, rfl⟩) rfl <| Ac (Z15 (ps := [(0, .const (Value.string { data := #[117, 100, 112, 95, 100, 115, 116] })), (1, .const (Value.int IntKind.i64 16)), (2, .const (Value.int IntKind.i64 16)), (3, .const (Value.bool false))]) (x := (⟨{ data := #[117, 100, 112, 95, 100, 115, 116] }, 16, 16, false⟩ : field_row)) rfl rfl rfl (by kernel_rfl) Z1t ⟨_, _, Z20, _, by kernel_rfl, (vs (by decide)), _, _, lfield_row_1, _, by kernel_rfl, (vk rfl), _, _, Z1s, _, by kernel_rfl, (vk rfl), _, _, Z21, _, by kernel_rfl, vb, rfl⟩) rfl <| Ac (Z15 (ps := [(0, .const (Value.string { data := #[105, 99, 109, 112, 118, 52, 95, 116, 121, 112, 101] })), (1, .const (Value.int IntKind.i64 19)), (2, .const (Value.int IntKind.i64 8)), (3, .const (Value.bool false))]) (x := (⟨{ data := #[105, 99, 109, 112, 118, 52, 95, 116, 121, 112, 101] }, 19, 8, false⟩ : field_row)) rfl rfl rfl (by kernel_rfl) Z1t ⟨_, _, Z20, _, by kernel_rfl, (vs (by decide)), _, _, lfield_row_1, _, by kernel_rfl, (vk rfl), _, _, Z1s, _, by kernel_rfl, (vk rfl), _, _, Z21, _, by kernel_rfl, vb, rfl⟩) rfl <| Ac (Z15 (ps := [(0, .const (Value.string { data := #[105, 99, 109, 112, 118, 52, 95, 99, 111, 100, 101] })), (1, .const (Value.int IntKind.i64 20)), (2, .const (Value.int IntKind.i64 8)), (3, .const (Value.bool false))]) (x := (⟨{ data := #[105, 99, 109, 112, 118, 52, 95, 99, 111, 100, 101] }, 20, 8, false⟩ : field_row)) rfl rfl rfl (by kernel_rfl) Z1t ⟨_, _, Z20, _, by kernel_rfl, (vs (by decide)), _, _, lfield_row_1, _, by kernel_rfl, (vk rfl), _, _, Z1s, _, by kernel_rfl, (vk rfl), _, _, Z21, _, by kernel_rfl, vb, rfl⟩) rfl ?_
 refine Ac (Z15 (ps := [(0, .const (Value.string { data := #[97, 114, 112, 95, 111, 112] })), (1, .const (Value.int IntKind.i64 21)), (2, .const (Value.int IntKind.i64 16)), (3, .const (Value.bool false))]) (x := (⟨{ data := #[97, 114, 112, 95, 111, 112] }, 21, 16, false⟩ : field_row)) rfl rfl rfl (by kernel_rfl) Z1t ⟨_, _, Z20, _, by kernel_rfl, (vs (by decide)), _, _, lfield_row_1, _, by kernel_rfl, (vk rfl), _, _, Z1s, _, by kernel_rfl, (vk rfl), _, _, Z21, _, by kernel_rfl, vb, rfl⟩) rfl <| Ac (Z15 (ps := [(0, .const (Value.string { data := #[97, 114, 112, 95, 115, 112, 97] })), (1, .const (Value.int IntKind.i64 22)), (2, .const (Value.int IntKind.i64 32)), (3, .const (Value.bool true))]) (x := (⟨{ data := #[97, 114, 112, 95, 115, 112, 97] }, 22, 32, true⟩ : field_row)) rfl rfl rfl (by kernel_rfl) Z1t ⟨_, _, Z20, _, by kernel_rfl, (vs (by decide)), _, _, lfield_row_1, _, by kernel_rfl, (vk rfl), _, _, Z1s, _, by kernel_rfl, (vk rfl), _, _, Z21, _, by kernel_rfl, vb, rfl⟩) rfl <| Ac (Z15 (ps := [(0, .const (Value.string { data := #[97, 114, 112, 95, 116, 112, 97] })), (1, .const (Value.int IntKind.i64 23)), (2, .const (Value.int IntKind.i64 32)), (3, .const (Value.bool true))]) (x := (⟨{ data := #[97, 114, 112, 95, 116, 112, 97] }, 23, 32, true⟩ : field_row)) rfl rfl rfl (by kernel_rfl) Z1t ⟨_, _, Z20, _, by kernel_rfl, (vs (by decide)), _, _, lfield_row_1, _, by kernel_rfl, (vk rfl), _, _, Z1s, _, by kernel_rfl, (vk rfl), _, _, Z21, _, by kernel_rfl, vb, rfl⟩) rfl <| Ac (Z15 (ps := [(0, .const (Value.string { data := #[105, 112, 118, 54, 95, 115, 114, 99] })), (1, .const (Value.int IntKind.i64 26)), (2, .const (Value.int IntKind.i64 128)), (3, .const (Value.bool true))]) (x := (⟨{ data := #[105, 112, 118, 54, 95, 115, 114, 99] }, 26, 128, true⟩ : field_row)) rfl rfl rfl (by kernel_rfl) Z1t ⟨_, _, Z20, _, by kernel_rfl, (vs (by decide)), _, _, lfield_row_1, _, by kernel_rfl, (vk rfl), _, _, Z1s, _, by kernel_rfl, (vk rfl), _, _, Z21, _, by kernel_rfl, vb, rfl⟩) rfl <| Ac (Z15 (ps := [(0, .const (Value.string { data := #[105, 112, 118, 54, 95, 100, 115, 116] })), (1, .const (Value.int IntKind.i64 27)), (2, .const (Value.int IntKind.i64 128)), (3, .const (Value.bool true))]) (x := (⟨{ data := #[105, 112, 118, 54, 95, 100, 115, 116] }, 27, 128, true⟩ : field_row)) rfl rfl rfl (by kernel_rfl) Z1t ⟨_, _, Z20, _, by kernel_rfl, (vs (by decide)), _, _, lfield_row_1, _, by kernel_rfl, (vk rfl), _, _, Z1s, _, by kernel_rfl, (vk rfl), _, _, Z21, _, by kernel_rfl, vb, rfl⟩) rfl <| Ac (Z15 (ps := [(0, .const (Value.string { data := #[109, 112, 108, 115, 95, 108, 97, 98, 101, 108] })), (1, .const (Value.int IntKind.i64 34)), (2, .const (Value.int IntKind.i64 20)), (3, .const (Value.bool false))]) (x := (⟨{ data := #[109, 112, 108, 115, 95, 108, 97, 98, 101, 108] }, 34, 20, false⟩ : field_row)) rfl rfl rfl (by kernel_rfl) Z1t ⟨_, _, Z20, _, by kernel_rfl, (vs (by decide)), _, _, lfield_row_1, _, by kernel_rfl, (vk rfl), _, _, Z1s, _, by kernel_rfl, (vk rfl), _, _, Z21, _, by kernel_rfl, vb, rfl⟩) rfl ?_
 refine Ac (Z15 (ps := [(0, .tmp 1), (1, .tmp 2), (2, .tmp 3), (3, .tmp 4), (4, .tmp 5), (5, .tmp 6), (6, .tmp 7), (7, .tmp 8), (8, .tmp 9), (9, .tmp 10), (10, .tmp 11), (11, .tmp 12), (12, .tmp 13), (13, .tmp 14), (14, .tmp 15), (15, .tmp 16), (16, .tmp 17), (17, .tmp 18), (18, .tmp 19), (19, .tmp 20), (20, .tmp 21), (21, .tmp 22), (22, .tmp 23), (23, .tmp 24)]) (x := (Vector.set (Vector.set (Vector.set (Vector.set (Vector.set (Vector.set (Vector.set (Vector.set (Vector.set (Vector.set (Vector.set (Vector.set (Vector.set (Vector.set (Vector.set (Vector.set (Vector.set (Vector.set (Vector.set (Vector.set (Vector.set (Vector.set (Vector.set (Vector.set (Vector.replicate 24 Z8i) 0 (⟨{ data := #[105, 110, 95, 112, 111, 114, 116] }, 0, 32, false⟩ : field_row) (by decide)) 1 (⟨{ data := #[109, 101, 116, 97, 100, 97, 116, 97] }, 2, 64, true⟩ : field_row) (by decide)) 2 (⟨{ data := #[101, 116, 104, 95, 100, 115, 116] }, 3, 48, true⟩ : field_row) (by decide)) 3 (⟨{ data := #[101, 116, 104, 95, 115, 114, 99] }, 4, 48, true⟩ : field_row) (by decide)) 4 (⟨{ data := #[101, 116, 104, 95, 116, 121, 112, 101] }, 5, 16, false⟩ : field_row) (by decide)) 5 (⟨{ data := #[118, 108, 97, 110, 95, 118, 105, 100] }, 6, 13, true⟩ : field_row) (by decide)) 6 (⟨{ data := #[118, 108, 97, 110, 95, 112, 99, 112] }, 7, 3, false⟩ : field_row) (by decide)) 7 (⟨{ data := #[105, 112, 95, 100, 115, 99, 112] }, 8, 6, false⟩ : field_row) (by decide)) 8 (⟨{ data := #[105, 112, 95, 101, 99, 110] }, 9, 2, false⟩ : field_row) (by decide)) 9 (⟨{ data := #[105, 112, 95, 112, 114, 111, 116, 111] }, 10, 8, false⟩ : field_row) (by decide)) 10 (⟨{ data := #[105, 112, 118, 52, 95, 115, 114, 99] }, 11, 32, true⟩ : field_row) (by decide)) 11 (⟨{ data := #[105, 112, 118, 52, 95, 100, 115, 116] }, 12, 32, true⟩ : field_row) (by decide)) 12 (⟨{ data := #[116, 99, 112, 95, 115, 114, 99] }, 13, 16, false⟩ : field_row) (by decide)) 13 (⟨{ data := #[116, 99, 112, 95, 100, 115, 116] }, 14, 16, false⟩ : field_row) (by decide)) 14 (⟨{ data := #[117, 100, 112, 95, 115, 114, 99] }, 15, 16, false⟩ : field_row) (by decide)) 15 (⟨{ data := #[117, 100, 112, 95, 100, 115, 116] }, 16, 16, false⟩ : field_row) (by decide)) 16 (⟨{ data := #[105, 99, 109, 112, 118, 52, 95, 116, 121, 112, 101] }, 19, 8, false⟩ : field_row) (by decide)) 17 (⟨{ data := #[105, 99, 109, 112, 118, 52, 95, 99, 111, 100, 101] }, 20, 8, false⟩ : field_row) (by decide)) 18 (⟨{ data := #[97, 114, 112, 95, 111, 112] }, 21, 16, false⟩ : field_row) (by decide)) 19 (⟨{ data := #[97, 114, 112, 95, 115, 112, 97] }, 22, 32, true⟩ : field_row) (by decide)) 20 (⟨{ data := #[97, 114, 112, 95, 116, 112, 97] }, 23, 32, true⟩ : field_row) (by decide)) 21 (⟨{ data := #[105, 112, 118, 54, 95, 115, 114, 99] }, 26, 128, true⟩ : field_row) (by decide)) 22 (⟨{ data := #[105, 112, 118, 54, 95, 100, 115, 116] }, 27, 128, true⟩ : field_row) (by decide)) 23 (⟨{ data := #[109, 112, 108, 115, 95, 108, 97, 98, 101, 108] }, 34, 20, false⟩ : field_row) (by decide))) rfl rfl rfl (by kernel_rfl) Zjj ⟨_, _, Lens.idx 24 Z0x 0 (by decide), _, by kernel_rfl, (vt rfl), _, _, Lens.idx 24 Z0x 1 (by decide), _, by kernel_rfl, (vt rfl), _, _, Lens.idx 24 Z0x 2 (by decide), _, by kernel_rfl, (vt rfl), _, _, Lens.idx 24 Z0x 3 (by decide), _, by kernel_rfl, (vt rfl), _, _, Lens.idx 24 Z0x 4 (by decide), _, by kernel_rfl, (vt rfl), _, _, Lens.idx 24 Z0x 5 (by decide), _, by kernel_rfl, (vt rfl), _, _, Lens.idx 24 Z0x 6 (by decide), _, by kernel_rfl, (vt rfl), _, _, Lens.idx 24 Z0x 7 (by decide), _, by kernel_rfl, (vt rfl), _, _, Lens.idx 24 Z0x 8 (by decide), _, by kernel_rfl, (vt rfl), _, _, Lens.idx 24 Z0x 9 (by decide), _, by kernel_rfl, (vt rfl), _, _, Lens.idx 24 Z0x 10 (by decide), _, by kernel_rfl, (vt rfl), _, _, Lens.idx 24 Z0x 11 (by decide), _, by kernel_rfl, (vt rfl), _, _, Lens.idx 24 Z0x 12 (by decide), _, by kernel_rfl, (vt rfl), _, _, Lens.idx 24 Z0x 13 (by decide), _, by kernel_rfl, (vt rfl), _, _, Lens.idx 24 Z0x 14 (by decide), _, by kernel_rfl, (vt rfl), _, _, Lens.idx 24 Z0x 15 (by decide), _, by kernel_rfl, (vt rfl), _, _, Lens.idx 24 Z0x 16 (by decide), _, by kernel_rfl, (vt rfl), _, _, Lens.idx 24 Z0x 17 (by decide), _, by kernel_rfl, (vt rfl), _, _, Lens.idx 24 Z0x 18 (by decide), _, by kernel_rfl, (vt rfl), _, _, Lens.idx 24 Z0x 19 (by decide), _, by kernel_rfl, (vt rfl), _, _, Lens.idx 24 Z0x 20 (by decide), _, by kernel_rfl, (vt rfl), _, _, Lens.idx 24 Z0x 21 (by decide), _, by kernel_rfl, (vt rfl), _, _, Lens.idx 24 Z0x 22 (by decide), _, by kernel_rfl, (vt rfl), _, _, Lens.idx 24 Z0x 23 (by decide), _, by kernel_rfl, (vt rfl), rfl⟩) rfl ?_
 refine Zi Zkm 1 rfl <| Nl <| rt ?_
 cases h; exact Zm Tryz.results344 rfl (Zx rfl (i := 1) rfl Zkm)
def Zj6 (x1 : Int) : Option field_row :=
 (Z7i x1).bind fun x3 => (bif (!x3) then some (⟨(⟨#[]⟩ : ByteArray), (-1), 0, false⟩ : field_row) else (Zfr).bind fun x4 => (lget (Vector.toList x4) x1).bind fun x5 => some x5)
theorem Zvb : Q1 Tryz.prog 336 (rd (Z0 .i64)) (rd Z0x) Zj6 := fun x1 r h => I0 Tryz.func336 rfl Tryz.ntmps336 rfl fun w H => by
 unfold Zj6 at h
 refine SR <| Cv rfl (Zo 3 rfl rfl Z1t) fun g2 => Nl <| sq <| sq ?_
 obtain ⟨x3, hx3, h⟩ := Z9 h
 refine Rg <| Md rfl <| Cl [3] (Zcl _ _ hx3) Zeb rfl <| Ac (Z1a rfl rfl (vt rfl)) rfl <| Nl <| Cq rfl h (fun h => ?_) (fun h => ?_)
 ·refine SR <| Ac (opb (⟨(⟨#[]⟩ : ByteArray), (-1), 0, false⟩ : field_row) Z1t rfl Zzd (pc Zt7 (vk rfl) <| pn rfl)) rfl <| Zi Z8h 3 rfl <| Nl <| rt ?_
  cases h; exact Zm Tryz.results336 rfl (Zx rfl (i := 3) rfl Z8h)
 ·refine sk <| sq ?_
  obtain ⟨x4, hx4, x5, hx5, h⟩ := bs2 h
  refine Rg <| Cl [] (Zyy _ hx4) Zuj rfl <| Md rfl <| Ac (Z6j rfl rfl Zyg Z8h (vt rfl) (vt rfl) hx5) rfl <| Zi Z8h 3 rfl <| Nl <| rt ?_
  cases h; exact Zm Tryz.results336 rfl (Zx rfl (i := 3) rfl Z8h)
def Zfv (x1 : Int) : Option Int :=
 (Zj6 x1).bind fun x2 => some x2.bits
theorem Y2r : Q1 Tryz.prog 312 (rd (Z0 .i64)) (rd (Z0 .i64)) Zfv := fun x1 r h => I0 Tryz.func312 rfl Tryz.ntmps312 rfl fun w H => by
 unfold Zfv at h
 refine SR <| Ak rfl <| Nl <| sq ?_
 obtain ⟨x2, hx2, h⟩ := Z9 h
 refine Rg <| Md rfl <| Cl [3] (Zvb _ _ hx2) Zto rfl <| Ac (Zku Z1s rfl rfl Zxb Zyd Zq rfl (vt rfl)) rfl <| As rfl <| Nl <| rt ?_
 cases h; exact Zm Tryz.results312 rfl (Zc rfl)
end Go.Proofs.YtknpgojdkobgjaaGreat.W
set_option maxRecDepth 4000
namespace Go.Proofs.YtknpgojdkobgjaaGreat.W
open Go Go.Wb
theorem Zl6 : Ent Tryz.prog 299 := Ent.mk Tryz.func299 rfl rfl
theorem Zrx : Ent Tryz.prog 312 := Ent.mk Tryz.func312 rfl rfl
theorem Zea : Ent Tryz.prog 254 := Ent.mk Tryz.func254 rfl rfl
theorem e73 : Ent Tryz.prog 73 := Ent.mk Tryz.func73 rfl rfl
theorem Zme : Ent Tryz.prog 275 := Ent.mk Tryz.func275 rfl rfl
theorem Z4q : Ent Tryz.prog 127 := Ent.mk Tryz.func127 rfl rfl
theorem Zsq : Ent Tryz.prog 197 := Ent.mk Tryz.func197 rfl rfl
theorem Zor : Ent Tryz.prog 196 := Ent.mk Tryz.func196 rfl rfl
theorem Zqv : Ent Tryz.prog 229 := Ent.mk Tryz.func229 rfl rfl
theorem Zeh : Ent Tryz.prog 126 := Ent.mk Tryz.func126 rfl rfl
def Zem (n1 : Int) : Option (BitVec 64) :=
 (bif (decide (n1 ≥ 64)) then some (18446744073709551615 : BitVec 64) else (Z8s (1 : BitVec 64) (Z3i n1 0)).bind fun q2 => some (q2 - (1 : BitVec 64)))
theorem Zlj : Q1 Tryz.prog 299 (rd (Z0 .i64)) (rd Z0a) Zem := fun n1 r h => I0 Tryz.func299 rfl Tryz.ntmps299 rfl fun w H => by
 unfold Zem at h
 refine SR <| Ac (Z00 (A := rd Z0a (0 : BitVec 64)) rfl rfl (vku (0 : BitVec 64) rfl)) rfl <| Nl <| sq <| SR <| Md rfl <| Ac (Z3l rfl rfl (vt rfl) (vk rfl)) rfl <| Nl <| Cq rfl h (fun h => ?_) (fun h => ?_)
 ·refine SR <| Ac (Z00 (A := rd Z0a (18446744073709551615 : BitVec 64)) rfl rfl (vku (18446744073709551615 : BitVec 64) rfl)) rfl <| Nl <| rt ?_
  cases h; exact Zm Tryz.results299 rfl (Zc rfl)
 ·refine sk <| sq ?_
  obtain ⟨q2, hq2, h⟩ := Z9 h
  refine Rg <| Md rfl <| Ac (Ze9 rfl rfl (vt rfl) (vk rfl)) rfl <| Ac (Zmv rfl rfl (vku (1 : BitVec 64) rfl) (vt rfl) hq2) rfl <| Ac (Zrv rfl rfl (vt rfl) (vku (1 : BitVec 64) rfl)) rfl <| As rfl <| Nl <| rt ?_
  cases h; exact Zm Tryz.results299 rfl (Zc rfl)
def Z6x (n1 : Int) : Option Wide :=
 (Zem (IntKind.i64.wrap ((Z5k (Z3i n1 0) 128) - 64))).bind fun x3 => (Zem (Z5k (Z3i n1 0) 128)).bind fun x4 => some (⟨x3, x4⟩ : Wide)
theorem Zei : Q1 Tryz.prog 254 (rd (Z0 .i64)) (rd Ze) Z6x := fun n1 r h => I0 Tryz.func254 rfl Tryz.ntmps254 rfl fun w H => by
 unfold Z6x at h
 refine SR <| Cv rfl (Zo 3 rfl rfl Z1l) fun g2 => Nl <| SR <| Md rfl <| Ac (Ze9 rfl rfl (vt rfl) (vk rfl)) rfl <| Ac (Zpi rfl rfl (vt rfl) (vk rfl)) rfl <| As rfl <| Nl <| sq ?_
 obtain ⟨x3, hx3, x4, hx4, h⟩ := bs2 h
 refine Rg <| Md rfl <| Ac (Z0i rfl rfl (vt rfl) (vk rfl)) rfl <| Cl [7] (Zlj _ _ hx3) Zl6 rfl <| Md rfl <| Cl [9] (Zlj _ _ hx4) Zl6 rfl <| Ac (opb (⟨x3, x4⟩ : Wide) Z1l rfl Z31 (pc Z48 (vt rfl) <| pc Z3n (vt rfl) <| pn rfl)) rfl <| Zi Zv 3 rfl <| Nl <| rt ?_
 cases h; exact Zm Tryz.results254 rfl (Zx rfl (i := 3) rfl Zv)
def Zba (o1 : Oxm) : Option Tern :=
 (Z7i o1.Field).bind fun x4 => (bif (!x4) then some (⟨Z0e, Z0e⟩ : Tern) else (bif o1.Masked then some (⟨o1.Value, o1.Mask⟩ : Tern) else (Zfv o1.Field).bind fun x5 => (Z6x x5).bind fun x6 => some (⟨o1.Value, x6⟩ : Tern)))
theorem Zjv : Q1 Tryz.prog 275 (rd Z1v) (rd Z3) Zba := fun o1 r h => I0 Tryz.func275 rfl Tryz.ntmps275 rfl fun w H => by
 unfold Zba at h
 refine SR <| Cv rfl (Zl 2 rfl rfl (vt rfl)) fun g2 => Cv rfl (Zo 3 rfl rfl Z1g) fun g3 => Nl <| sq <| bk <| sq ?_
 obtain ⟨x4, hx4, h⟩ := Z9 h
 refine Rg <| Zk Z6i Z6u rfl <| Ld Zq 2 rfl <| Cl [5] (Zcl _ _ hx4) Zeb rfl <| Ac (Z1a rfl rfl (vt rfl)) rfl <| As rfl <| Nl <| Cq rfl h (fun h => ?_) (fun h => ?_)
 ·refine SR <| Ac (opb (⟨Z0e, Z0e⟩ : Tern) Z1g rfl Z4c (pn rfl)) rfl <| Zi Zz 3 rfl <| Nl <| rt ?_
  cases h; exact Zm Tryz.results275 rfl (Zx rfl (i := 3) rfl Zz)
 ·refine SR <| Zk Zn9 Zs5 rfl <| Ld ty4 2 rfl <| As rfl <| Nl <| Cq rfl h (fun h => ?_) (fun h => ?_)
  ·refine SR <| Zk Zfp Zmc rfl <| Ld Zv 2 rfl <| Zk Zn8 Ztq rfl <| Ld Zv 2 rfl <| Ac (opb (⟨o1.Value, o1.Mask⟩ : Tern) Z1g rfl Z4c (pc Z5a (vt rfl) <| pc Z5d (vt rfl) <| pn rfl)) rfl <| Zi Zz 3 rfl <| Nl <| rt ?_
   cases h; exact Zm Tryz.results275 rfl (Zx rfl (i := 3) rfl Zz)
  ·refine sk <| sq ?_
   obtain ⟨x5, hx5, x6, hx6, h⟩ := bs2 h
   refine AR Zw (by kernel_rfl) <| Zu Zfp Zmc rfl <| Zj Zv 2 rfl <| Zu Z6i Z6u rfl <| Zj Zq 2 rfl <| SCl [20] (Y2r _ _ hx5) Zrx rfl <| SCl [21] (Zei _ _ hx6) Zea rfl <| Sd (lo [18, 22] [] rfl fun S hs hr => opb (⟨o1.Value, x6⟩ : Tern) Z1g rfl Z4c (pc Z5a (vh hs 18 rfl rfl) <| pc Z5d (vh hs 22 rfl rfl) <| pn rfl)) <| SSt Zz 3 rfl <| Sn <| rt ?_
   cases h; exact Zm Tryz.results275 rfl (Zx rfl (i := 3) rfl Zz)
def Z6s : (List Oxm) → Nat → Zg → Option Zg
 | [], i7, b6 => some b6
 | x9 :: l8, i7, b6 => (Z7i x9.Field).bind fun x11 => (bif x11 then (Zba x9).bind fun x12 => (chk 24 x9.Field).bind fun j13 => (Z6s l8) (i7 + 1) (Vector.set b6 j13.1 x12 j13.2) else (Z6s l8) (i7 + 1) b6)
def Zha (l1 : (List Oxm)) : Option Zg :=
 (Z76).bind fun x3 => Z6s l1 0 x3
theorem Zzq : Q1 Tryz.prog 229 (rd (Z4 Z1v)) (rd (Z1 24 Z3)) Zha := fun l1 r h => I0 Tryz.func229 rfl Tryz.ntmps229 rfl fun w H => by
 unfold Zha at h
 refine SR <| Cv rfl (Zo 3 rfl rfl Z1k) fun g2 => Nl <| sq ?_
 obtain ⟨x3, hx3, h⟩ := Z9 h
 refine Rg <| Cl [] (Zbh _ hx3) e73 rfl <| Cv rfl (Zo 4 rfl rfl Z1k) fun g4 => Zi Zy 4 rfl <| Nl <| sq <| SR <| Md rfl <| Ac (Z16 rfl rfl Znq (vt rfl)) rfl <| Mk rfl <| Nl <| bk <| LG (d := []) (ν := (List Oxm) × Nat × Zg) (fun (l8, i7, b6) => (Sfx l1 i7 l8 ∧ Z6s l8 i7 b6 = some r, l8.length, [(2, Z7 g2 (Lens.id (Z1 24 Z3))), (3, Z7 g4 (Lens.id (Z1 24 Z3))), (7, rd (Z4 Z1v) l1), (8, rd (Z0 .i64) (l1.length : Int)), (9, rd (Z0 .i64) (i7 : Int))], [(3, Zb g2 87 (Z1 24 Z3) (Vector.replicate 24 Z0n)), (4, Zb g4 87 (Z1 24 Z3) b6)])) (l1, 0, x3) ⟨Sfx.start _, h⟩ (FX rfl) ?_
 rintro ⟨l8, i7, b6⟩ ⟨hsf1, h⟩
 dsimp only at hsf1 h ⊢
 cases l8 with
 | nil =>
  unfold Z6s at h
  refine SR <| Ac (Zn rfl rfl (vt rfl) (vt rfl)) rfl <| Nl <| sq <| Cn rfl (fun hc => absurd (of_decide_eq_true hc) hsf1.nil) (fun hc => ?_)
  refine xt <| SR <| Ld Zy 4 rfl <| Zi Zy 3 rfl <| Nl <| rt ?_
  cases h; exact Zm Tryz.results229 rfl (Zx rfl (i := 3) rfl Zy)
 | cons x9 l8 =>
  unfold Z6s at h
  refine SR <| Ac (Zn rfl rfl (vt rfl) (vt rfl)) rfl <| Nl <| sq <| Cn rfl (fun hc => ?_) (fun hc => absurd hsf1.cons (of_decide_eq_false hc))
  have hlti7 := of_decide_eq_true hc
  refine sk <| sq <| bk <| SR <| Ac (Z0z rfl rfl Znq (vt rfl) (vt rfl) hsf1.lget) rfl <| Lp1 Zeq rfl <| Cv rfl (Zo 6 rfl rfl Zxe) fun g10 => Zi Zeq 6 rfl <| Nl <| sq ?_
  obtain ⟨x11, hx11, h⟩ := Z9 h
  refine Rg <| Zk Z6i Z6u rfl <| Ld Zq 6 rfl <| Cl [14] (Zcl _ _ hx11) Zeb rfl <| Nl <| Cq rfl h (fun h => ?_) (fun h => ?_)
  ·obtain ⟨x12, hx12, j13, hj13, h⟩ := bs2 h
   refine AR Zw (by kernel_rfl) <| Zu Z6i Z6u rfl <| Zj Zq 6 rfl <| Zj Zeq 6 rfl <| SCl [18] (Zjv _ _ hx12) Zme rfl <| Sd (lo [3, 17] [] rfl fun S hs hr => Z1f rfl rfl Z2g (vh hs 3 rfl rfl) (vh hs 17 rfl rfl) hj13) <| SSt Zz 4 rfl <| Sn <| Rg <| Ac (Z12 (t := 8) rfl rfl (vt rfl) (vk rfl) (vt rfl) hlti7) rfl <| Md rfl <| Nl ?_
   exact ⟨(_, _, _), Nat.lt_succ_self _, ⟨hsf1.next, h⟩, FX rfl⟩
  ·refine sk <| Rg <| Ac (Z12 (t := 8) rfl rfl (vt rfl) (vk rfl) (vt rfl) hlti7) rfl <| Md rfl <| Nl ?_
   exact ⟨(_, _, _), Nat.lt_succ_self _, ⟨hsf1.next, h⟩, FX rfl⟩
def Z3y (t1 : Tern) : Option Tern :=
 (Z5l t1.Value t1.Mask).bind fun x4 => some (⟨x4, t1.Mask⟩ : Tern)
theorem Z4t : Q1 Tryz.prog 127 (rd Z3) (rd Z3) Z3y := fun t1 r h => I0 Tryz.func127 rfl Tryz.ntmps127 rfl fun w H => by
 unfold Z3y at h
 refine SR <| Cv rfl (Zl 2 rfl rfl (vt rfl)) fun g2 => Cv rfl (Zo 3 rfl rfl Z1g) fun g3 => Nl <| sq ?_
 obtain ⟨x4, hx4, h⟩ := Z9 h
 refine AR Zw (by kernel_rfl) <| Zu lTern_0 Z2e rfl <| Zj Zv 2 rfl <| Zu lTern_1 Z1z rfl <| Zj Zv 2 rfl <| SCl [4, 6] (Z9a _ _ _ hx4) Z9v rfl <| Zu lTern_1 Z1z rfl <| Zj Zv 2 rfl <| Sd (lo [7, 9] [] rfl fun S hs hr => opb (⟨x4, t1.Mask⟩ : Tern) Z1g rfl Z4c (pc Z5a (vh hs 7 rfl rfl) <| pc Z5d (vh hs 9 rfl rfl) <| pn rfl)) <| SSt Zz 3 rfl <| Sn <| rt ?_
 cases h; exact Zm Tryz.results127 rfl (Zx rfl (i := 3) rfl Zz)
def Zd5 (i1 : Int) (x2 : Zg) : Option (Tern × Bool) :=
 (chk 24 i1).bind fun j4 => (Z3y (Vector.get x2 j4)).bind fun x5 => some (x5, true)
theorem Zsp : Q2 Tryz.prog 197 (rd (Z0 .i64)) (rp (Z1 24 Z3)) (fun r => Z0w (rd Z3 r.1) (rd Z6 r.2)) Zd5 := fun i1 x2 r h => I0 Tryz.func197 rfl Tryz.ntmps197 rfl fun w H => by
 unfold Zd5 at h
 refine SR <| Cv rfl (Zo 4 rfl rfl Z1g) fun g3 => Ab rfl <| Nl <| sq ?_
 obtain ⟨j4, hj4, x5, hx5, h⟩ := bs2 h
 refine Rg <| Md rfl <| Ac (Z41 rfl rfl Z2g (vt rfl) (vt rfl) hj4) rfl <| Lp1 Zz rfl <| Cl [7] (Z4t _ _ hx5) Z4q rfl <| Zi Zz 4 rfl <| Ab rfl <| Nl <| rt ?_
 cases h; exact Z0y Tryz.results197 rfl (Zx rfl (i := 4) rfl Zz) (Zc rfl)
def Z9l (x1 : (Int → Option (Tern × Bool))) : Nat → Nat → Zg → Option (Zg × Bool)
 | 0, i6, b5 => some (b5, true)
 | m7 + 1, i6, b5 => (x1 (i6 : Int)).bind fun x8 => (bif (!x8.2) then some ((Vector.replicate 24 Z0n), false) else (chk 24 (i6 : Int)).bind fun j10 => (Z9l x1 m7) (i6 + 1) (Vector.set b5 j10.1 x8.1 j10.2))
def Ze7 (x1 : (Int → Option (Tern × Bool))) : Option (Zg × Bool) :=
 Z9l x1 (24 : Int).toNat 0 (Vector.replicate 24 Z0n)
theorem Zli : Q1 Tryz.prog 196 (fa1 Tryz.prog (Z0 .i64) (fun (y : (Tern × Bool)) => Z0w (rd Z3 y.1) (rd Z6 y.2))) (fun r => Z0w (rd (Z1 24 Z3) r.1) (rd Z6 r.2)) Ze7 := fun x1 r h => I0 Tryz.func196 rfl Tryz.ntmps196 rfl fun w H => by
 unfold Ze7 at h
 refine SR <| Cv rfl (Zo 3 rfl rfl Z1k) fun g2 => Ab rfl <| Nl <| SR <| Cv rfl (Zo 5 rfl rfl Z1k) fun g3 => Nl <| sq <| SR <| Mk rfl <| Nl <| bk <| LG (d := []) (ν := Nat × Nat × Zg) (fun (m7, i6, b5) => (Cnt 24 i6 m7 ∧ Z9l x1 m7 i6 b5 = some r, m7, [(0, fa1 Tryz.prog (Z0 .i64) (fun (y : (Tern × Bool)) => Z0w (rd Z3 y.1) (rd Z6 y.2)) x1), (2, Z7 g2 (Lens.id (Z1 24 Z3))), (4, Z7 g3 (Lens.id (Z1 24 Z3))), (8, rd (Z0 .i64) (i6 : Int))], [(3, Zb g2 87 (Z1 24 Z3) (Vector.replicate 24 Z0n)), (5, Zb g3 87 (Z1 24 Z3) b5)])) ((24 : Int).toNat, 0, (Vector.replicate 24 Z0n)) ⟨Cnt.start _, h⟩ (FX rfl) ?_
 rintro ⟨m7, i6, b5⟩ ⟨hsf1, h⟩
 dsimp only at hsf1 h ⊢
 cases m7 with
 | zero =>
  unfold Z9l at h
  refine SR <| Ac (Zn rfl rfl (vt rfl) (vk rfl)) rfl <| Nl <| sq <| Cn rfl (fun hc => absurd (of_decide_eq_true hc) hsf1.zero) (fun hc => ?_)
  refine xt <| SR <| Ld Zy 5 rfl <| Zi Zy 3 rfl <| Ab rfl <| Nl <| rt ?_
  cases h; exact Z0y Tryz.results196 rfl (Zx rfl (i := 3) rfl Zy) (Zc rfl)
 | succ m7 =>
  unfold Z9l at h
  refine SR <| Ac (Zn rfl rfl (vt rfl) (vk rfl)) rfl <| Nl <| sq <| Cn rfl (fun hc => ?_) (fun hc => absurd hsf1.succ (of_decide_eq_false hc))
  have hlti6 := of_decide_eq_true hc
  refine sk <| sq <| bk <| SR <| Md rfl <| As rfl <| Nl <| sq ?_
  obtain ⟨x8, hx8, h⟩ := Z9 h
  refine Rg <| Ac (Zt (A := fa1 Tryz.prog (Z0 .i64) (fun (y : (Tern × Bool)) => Z0w (rd Z3 y.1) (rd Z6 y.2)) x1) rfl rfl (vt rfl)) rfl <| Md rfl <| Ac (Zux (B := (fun (y : (Tern × Bool)) => Z0w (rd Z3 y.1) (rd Z6 y.2))) hx8 rfl rfl (vt rfl) (vt rfl)) rfl <| Mt2 rfl <| Ac (Z1b rfl rfl (vt rfl)) rfl <| Ac (Z1d rfl rfl (vt rfl)) rfl <| Cv rfl (Zo 7 rfl rfl Z1g) fun g9 => Zi Zz 7 rfl <| As rfl <| Nl <| sq <| SR <| Md rfl <| Ac (Z1a rfl rfl (vt rfl)) rfl <| Nl <| Cq rfl h (fun h => ?_) (fun h => ?_)
  ·refine SR <| Ac (Z15 (ps := []) (x := (Vector.replicate 24 Z0n)) rfl rfl rfl (by kernel_rfl) Z1k rfl) rfl <| Zi Zy 3 rfl <| Ab rfl <| Nl <| rt ?_
   cases h; exact Z0y Tryz.results196 rfl (Zx rfl (i := 3) rfl Zy) (Zc rfl)
  ·refine sk ?_
   obtain ⟨j10, hj10, h⟩ := Z9 h
   refine Rg <| Md rfl <| Ld Zz 7 rfl <| Ac (Z1f rfl rfl Z2g (vt rfl) (vt rfl) hj10) rfl <| Zi Zz 5 rfl <| Nl <| Rg <| Ac (Z4d rfl rfl (vt rfl) (vk rfl) rfl hlti6) rfl <| Md rfl <| Nl ?_
   exact ⟨(_, _, _), Nat.lt_succ_self _, ⟨hsf1.next, h⟩, FX rfl⟩
def Z85 (x1 : Zg) : Option Zg :=
 (Ze7 (fun x => Zd5 x x1)).bind fun x4 => some x4.1
theorem Zbf : Q1 Tryz.prog 126 (rd (Z1 24 Z3)) (rd (Z1 24 Z3)) Z85 := fun x1 r h => I0 Tryz.func126 rfl Tryz.ntmps126 rfl fun w H => by
 unfold Z85 at h
 refine SR <| Cv rfl (Zl 2 rfl rfl (vt rfl)) fun g2 => Cv rfl (Zo 3 rfl rfl Z1k) fun g3 => Nl <| sq <| AW.freezeB 1 2 rfl rfl rfl ?_
 obtain ⟨x4, hx4, h⟩ := Z9 h
 refine Rg <| Ac (Znm (fs := []) (FAs := []) (cs := [.tmp 1]) (CAs := [rp (Z1 24 Z3) x1]) (kx := (Z0 .i64)) (B := (fun (y : (Tern × Bool)) => Z0w (rd Z3 y.1) (rd Z6 y.2))) (fun x => Zd5 x x1) rfl rfl Zsq trivial ⟨vt rfl, trivial⟩ (fun x y h => Zsp _ _ y h)) rfl <| Cl [6] (Zli _ _ hx4) Zor rfl <| Mt2 rfl <| Ac (Z1b rfl rfl (vt rfl)) rfl <| Ac (Z1d rfl rfl (vt rfl)) rfl <| Cv rfl (Zo 4 rfl rfl Z1k) fun g5 => Zi Zy 4 rfl <| As rfl <| Nl <| SR <| Ld Zy 4 rfl <| Zi Zy 3 rfl <| Nl <| rt ?_
 cases h; exact Zm Tryz.results126 rfl (Zx rfl (i := 3) rfl Zy)
def Zia (x1 : Flow) : Option Zg :=
 (Zha x1.Match).bind fun x4 => (Z85 x4).bind fun x5 => some x5
theorem Zt6 : Q1 Tryz.prog 157 (rd Z2d) (rd (Z1 24 Z3)) Zia := fun x1 r h => I0 Tryz.func157 rfl Tryz.ntmps157 rfl fun w H => by
 unfold Zia at h
 refine SR <| Cv rfl (Zl 2 rfl rfl (vt rfl)) fun g2 => Cv rfl (Zo 3 rfl rfl Z1k) fun g3 => Nl <| sq ?_
 obtain ⟨x4, hx4, x5, hx5, h⟩ := bs2 h
 refine Rg <| Zk Zk4 Y29 rfl <| Ld Y0y 2 rfl <| Cl [4] (Zzq _ _ hx4) Zqv rfl <| Cl [5] (Zbf _ _ hx5) Zeh rfl <| Zi Zy 3 rfl <| Nl <| rt ?_
 cases h; exact Zm Tryz.results157 rfl (Zx rfl (i := 3) rfl Zy)
end Go.Proofs.YtknpgojdkobgjaaGreat.W
set_option maxRecDepth 4000
namespace Go.Proofs.YtknpgojdkobgjaaGreat.W
open Go Go.Wb
theorem Zwf : Ent Tryz.prog 261 := Ent.mk Tryz.func261 rfl rfl
theorem Zsd : Ent Tryz.prog 260 := Ent.mk Tryz.func260 rfl rfl
theorem Zok : Ent Tryz.prog 259 := Ent.mk Tryz.func259 rfl rfl
theorem Zyz : Ent Tryz.prog 262 := Ent.mk Tryz.func262 rfl rfl
theorem Zsn : Ent Tryz.prog 157 := Ent.mk Tryz.func157 rfl rfl
theorem Zlt : Ent Tryz.prog 202 := Ent.mk Tryz.func202 rfl rfl
theorem Zbk : Ent Tryz.prog 203 := Ent.mk Tryz.func203 rfl rfl
def Zb4 (a1 : Tern) (b2 : Tern) : Option (Tern × Bool) :=
 (Z5l a1.Mask b2.Mask).bind fun x6 => (Z7l (⟨a1.Value, x6⟩ : Tern) b2.Value).bind fun x7 => (bif (!x7) then some ((⟨Z0e, Z0e⟩ : Tern), false) else (Z3y a1).bind fun x8 => (Z3y b2).bind fun x9 => (Z4f x8.Value x9.Value).bind fun x10 => (Z4f x8.Mask x9.Mask).bind fun x11 => some ((⟨x10, x11⟩ : Tern), true))
theorem Zl1 : Q2 Tryz.prog 259 (rd Z3) (rd Z3) (fun r => Z0w (rd Z3 r.1) (rd Z6 r.2)) Zb4 := fun a1 b2 r h => I0 Tryz.func259 rfl Tryz.ntmps259 rfl fun w H => by
 unfold Zb4 at h
 refine SR <| Cv rfl (Zl 3 rfl rfl (vt rfl)) fun g3 => Cv rfl (Zl 4 rfl rfl (vt rfl)) fun g4 => Cv rfl (Zo 5 rfl rfl Z1g) fun g5 => Ab rfl <| Nl <| sq <| sq ?_
 obtain ⟨x6, hx6, x7, hx7, h⟩ := bs2 h
 refine AR Zw (by kernel_rfl) <| Zu lTern_0 Z2e rfl <| Zj Zv 3 rfl <| Zu lTern_1 Z1z rfl <| Zj Zv 3 rfl <| Zu lTern_1 Z1z rfl <| Zj Zv 4 rfl <| SCl [9, 11] (Z9a _ _ _ hx6) Z9v rfl <| Sd (lo [7, 12] [] rfl fun S hs hr => opb (⟨a1.Value, x6⟩ : Tern) Z1g rfl Z4c (pc Z5a (vh hs 7 rfl rfl) <| pc Z5d (vh hs 12 rfl rfl) <| pn rfl)) <| Zu lTern_0 Z2e rfl <| Zj Zv 4 rfl <| SCl [13, 15] (Zhp _ _ _ hx7) Zf3 rfl <| Sd (lo [16] [] rfl fun S hs hr => Z1a rfl rfl (vh hs 16 rfl rfl)) <| Sn <| Cq rfl h (fun h => ?_) (fun h => ?_)
 ·refine SR <| Ac (opb (⟨Z0e, Z0e⟩ : Tern) Z1g rfl Z4c (pn rfl)) rfl <| Zi Zz 5 rfl <| Ab rfl <| Nl <| rt ?_
  cases h; exact Z0y Tryz.results259 rfl (Zx rfl (i := 5) rfl Zz) (Zc rfl)
 ·refine sk <| sq ?_
  obtain ⟨x8, hx8, x9, hx9, h⟩ := bs2 h
  refine AR Zw (by kernel_rfl) <| Zj Zz 3 rfl <| SCl [19] (Z4t _ _ hx8) Z4q rfl <| Zj Zz 4 rfl <| SCl [21] (Z4t _ _ hx9) Z4q rfl <| SSt Zz 3 rfl <| SSt Zz 4 rfl <| Sn <| sq ?_
  obtain ⟨x10, hx10, x11, hx11, h⟩ := bs2 h
  refine AR Zw (by kernel_rfl) <| Zu lTern_0 Z2e rfl <| Zj Zv 3 rfl <| Zu lTern_0 Z2e rfl <| Zj Zv 4 rfl <| SCl [24, 26] (Z6k _ _ _ hx10) Z69 rfl <| Zu lTern_1 Z1z rfl <| Zj Zv 3 rfl <| Zu lTern_1 Z1z rfl <| Zj Zv 4 rfl <| SCl [29, 31] (Z6k _ _ _ hx11) Z69 rfl <| Sd (lo [27, 32] [] rfl fun S hs hr => opb (⟨x10, x11⟩ : Tern) Z1g rfl Z4c (pc Z5a (vh hs 27 rfl rfl) <| pc Z5d (vh hs 32 rfl rfl) <| pn rfl)) <| SSt Zz 5 rfl <| Sd (lo [] [] rfl fun S hs hr => Z00 (A := rd Z6 true) rfl rfl vb) <| Sn <| rt ?_
  cases h; exact Z0y Tryz.results259 rfl (Zx rfl (i := 5) rfl Zz) (Zc rfl)
def Zda (i1 : Int) (x2 : Zg) (x3 : Zg) : Option Tern :=
 (chk 24 i1).bind fun j5 => (chk 24 i1).bind fun j6 => (chk 24 i1).bind fun j7 => (Z4z ((Vector.get x2 j6).Mask) ((Vector.get x3 j7).Mask)).bind fun x8 => (Z3y (⟨(Vector.get x2 j5).Value, x8⟩ : Tern)).bind fun x9 => some x9
theorem Zsj : Q3 Tryz.prog 261 (rd (Z0 .i64)) (rp (Z1 24 Z3)) (rp (Z1 24 Z3)) (rd Z3) Zda := fun i1 x2 x3 r h => I0 Tryz.func261 rfl Tryz.ntmps261 rfl fun w H => by
 unfold Zda at h
 refine SR <| Cv rfl (Zo 5 rfl rfl Z1g) fun g4 => Nl <| sq ?_
 obtain ⟨j5, hj5, j6, hj6, j7, hj7, x8, hx8, h⟩ := bs4 h
 obtain ⟨x9, hx9, h⟩ := Z9 h
 refine AR Zw (by kernel_rfl) <| Zs rfl <| Sd (lo [1, 5] [] rfl fun S hs hr => Z41 rfl rfl Z2g (vh hs 1 rfl rfl) (vh hs 5 rfl rfl) hj5) <| SFp lTern_0 Z2e rfl <| SLp Zv rfl <| Zs rfl <| Sd (lo [1, 9] [] rfl fun S hs hr => Z41 rfl rfl Z2g (vh hs 1 rfl rfl) (vh hs 9 rfl rfl) hj6) <| SFp lTern_1 Z1z rfl <| SLp Zv rfl <| Zs rfl <| Sd (lo [2, 13] [] rfl fun S hs hr => Z41 rfl rfl Z3h (vh hs 2 rfl rfl) (vh hs 13 rfl rfl) hj7) <| SFp lTern_1 Z1z rfl <| SLp Zv rfl <| SCl [12, 16] (Z7q _ _ _ hx8) Z7j rfl <| Sd (lo [8, 17] [] rfl fun S hs hr => opb (⟨(Vector.get x2 j5).Value, x8⟩ : Tern) Z1g rfl Z4c (pc Z5a (vh hs 8 rfl rfl) <| pc Z5d (vh hs 17 rfl rfl) <| pn rfl)) <| SCl [18] (Z4t _ _ hx9) Z4q rfl <| SSt Zz 5 rfl <| Sn <| rt ?_
 cases h; exact Zm Tryz.results261 rfl (Zx rfl (i := 5) rfl Zz)
def Zau (x1 : (Int → Option Tern)) : Nat → Nat → Zg → Option Zg
 | 0, i6, b5 => some b5
 | m7 + 1, i6, b5 => (x1 (i6 : Int)).bind fun x8 => (chk 24 (i6 : Int)).bind fun j9 => (Zau x1 m7) (i6 + 1) (Vector.set b5 j9.1 x8 j9.2)
def Zfa (x1 : (Int → Option Tern)) : Option Zg :=
 Zau x1 (24 : Int).toNat 0 (Vector.replicate 24 Z0n)
theorem Zsa : Q1 Tryz.prog 260 (fn1 Tryz.prog (Z0 .i64) Z3) (rd (Z1 24 Z3)) Zfa := fun x1 r h => I0 Tryz.func260 rfl Tryz.ntmps260 rfl fun w H => by
 unfold Zfa at h
 refine SR <| Cv rfl (Zo 3 rfl rfl Z1k) fun g2 => Nl <| SR <| Cv rfl (Zo 4 rfl rfl Z1k) fun g3 => Nl <| sq <| SR <| Mk rfl <| Nl <| bk <| LG (d := []) (ν := Nat × Nat × Zg) (fun (m7, i6, b5) => (Cnt 24 i6 m7 ∧ Zau x1 m7 i6 b5 = some r, m7, [(0, fn1 Tryz.prog (Z0 .i64) Z3 x1), (2, Z7 g2 (Lens.id (Z1 24 Z3))), (3, Z7 g3 (Lens.id (Z1 24 Z3))), (5, rd (Z0 .i64) (i6 : Int))], [(3, Zb g2 87 (Z1 24 Z3) (Vector.replicate 24 Z0n)), (4, Zb g3 87 (Z1 24 Z3) b5)])) ((24 : Int).toNat, 0, (Vector.replicate 24 Z0n)) ⟨Cnt.start _, h⟩ (FX rfl) ?_
 rintro ⟨m7, i6, b5⟩ ⟨hsf1, h⟩
 dsimp only at hsf1 h ⊢
 cases m7 with
 | zero =>
  unfold Zau at h
  refine SR <| Ac (Zn rfl rfl (vt rfl) (vk rfl)) rfl <| Nl <| sq <| Cn rfl (fun hc => absurd (of_decide_eq_true hc) hsf1.zero) (fun hc => ?_)
  refine xt <| SR <| Ld Zy 4 rfl <| Zi Zy 3 rfl <| Nl <| rt ?_
  cases h; exact Zm Tryz.results260 rfl (Zx rfl (i := 3) rfl Zy)
 | succ m7 =>
  unfold Zau at h
  refine SR <| Ac (Zn rfl rfl (vt rfl) (vk rfl)) rfl <| Nl <| sq <| Cn rfl (fun hc => ?_) (fun hc => absurd hsf1.succ (of_decide_eq_false hc))
  have hlti6 := of_decide_eq_true hc
  refine sk <| sq <| bk <| SR <| Md rfl <| As rfl <| Nl ?_
  obtain ⟨x8, hx8, j9, hj9, h⟩ := bs2 h
  refine Rg <| Md rfl <| Ac (Zt (A := fn1 Tryz.prog (Z0 .i64) Z3 x1) rfl rfl (vt rfl)) rfl <| Md rfl <| Ac (Z5r hx8 rfl rfl (vt rfl) (vt rfl)) rfl <| Ac (Z1f rfl rfl Z2g (vt rfl) (vt rfl) hj9) rfl <| Zi Zz 4 rfl <| Nl <| Rg <| Ac (Z4d rfl rfl (vt rfl) (vk rfl) rfl hlti6) rfl <| Md rfl <| Nl ?_
  exact ⟨(_, _, _), Nat.lt_succ_self _, ⟨hsf1.next, h⟩, FX rfl⟩
def Za1 (x2 : Zg) (x1 : Zg) : (List Tern) → Nat → Option (Zg × Bool)
 | [], i6 => (Zfa (fun x => Zda x x2 x1)).bind fun x8 => some (x8, true)
 | x9 :: l7, i6 => (chk 24 (i6 : Int)).bind fun j11 => (Zb4 x9 (Vector.get x2 j11)).bind fun x12 => (bif (!x12.2) then some ((Vector.replicate 24 Z0n), false) else (Za1 x2 x1 l7) (i6 + 1))
def Zdf (x1 : Zg) (x2 : Zg) : Option (Zg × Bool) :=
 Za1 x2 x1 (Vector.toList x1) 0
theorem Zlx : Q2 Tryz.prog 202 (rd (Z1 24 Z3)) (rd (Z1 24 Z3)) (fun r => Z0w (rd (Z1 24 Z3) r.1) (rd Z6 r.2)) Zdf := fun x1 x2 r h => I0 Tryz.func202 rfl Tryz.ntmps202 rfl fun w H => by
 unfold Zdf at h
 refine SR <| Cv rfl (Zl 3 rfl rfl (vt rfl)) fun g3 => Cv rfl (Zl 4 rfl rfl (vt rfl)) fun g4 => Cv rfl (Zo 5 rfl rfl Z1k) fun g5 => Ab rfl <| Nl <| sq <| SR <| Ld Z05 3 rfl <| Mk rfl <| Nl <| bk <| LG (d := []) (ν := (List Tern) × Nat) (fun (l7, i6) => (Sfx (Vector.toList x1) i6 l7 ∧ Za1 x2 x1 l7 i6 = some r, l7.length, [(2, Z7 g3 (Lens.id (Z1 24 Z3))), (3, Z7 g4 (Lens.id (Z1 24 Z3))), (4, Z7 g5 (Lens.id (Z1 24 Z3))), (10, rd (Z1 24 Z3) x1), (11, rd (Z0 .i64) (i6 : Int))], [(3, Zb g3 101 (Z1 24 Z3) x1), (4, Zb g4 87 (Z1 24 Z3) x2), (5, Zb g5 87 (Z1 24 Z3) (Vector.replicate 24 Z0n))])) ((Vector.toList x1), 0) ⟨Sfx.start _, h⟩ (FX rfl) ?_
 rintro ⟨l7, i6⟩ ⟨hsf1, h⟩
 dsimp only at hsf1 h ⊢
 cases l7 with
 | nil =>
  unfold Za1 at h
  refine SR <| Ac (Zn rfl rfl (vt rfl) (vk rfl)) rfl <| Nl <| sq <| Cn rfl (fun hc => absurd (of_decide_eq_true hc) (hsf1.niln (by simp))) (fun hc => ?_)
  refine xt <| sq <| AW.freezeB 3 4 rfl rfl rfl <| AW.freezeB 2 3 rfl rfl rfl ?_
  obtain ⟨x8, hx8, h⟩ := Z9 h
  refine Rg <| Ac (Z4k (cs := [.tmp 3, .tmp 2]) (CAs := [rp (Z1 24 Z3) x2, rp (Z1 24 Z3) x1]) (fun x => Zda x x2 x1) rfl rfl Zwf ⟨vt rfl, vt rfl, trivial⟩ (fun x y h => Zsj _ _ _ y h)) rfl <| Cl [27] (Zsa _ _ hx8) Zsd rfl <| Zi Zy 5 rfl <| Ab rfl <| Nl <| rt ?_
  cases h; exact Z0y Tryz.results202 rfl (Zx rfl (i := 5) rfl Zy) (Zc rfl)
 | cons x9 l7 =>
  unfold Za1 at h
  refine SR <| Ac (Zn rfl rfl (vt rfl) (vk rfl)) rfl <| Nl <| sq <| Cn rfl (fun hc => ?_) (fun hc => absurd (hsf1.consn (by simp)) (of_decide_eq_false hc))
  have hlti6 := of_decide_eq_true hc
  refine sk <| sq <| bk <| SR <| Md rfl <| Ac (Z6j rfl rfl Z3h Zz (vt rfl) (vt rfl) hsf1.lget) rfl <| Cv rfl (Zo 8 rfl rfl Z1g) fun g10 => As rfl <| Zi Zz 8 rfl <| Nl <| sq ?_
  obtain ⟨j11, hj11, x12, hx12, h⟩ := bs2 h
  refine AR Zw (by kernel_rfl) <| Zj Zz 8 rfl <| Zs rfl <| Sd (lo [3, 17] [] rfl fun S hs hr => Z1f rfl rfl Z2g (vh hs 3 rfl rfl) (vh hs 17 rfl rfl) hj11) <| Zj Zz 4 rfl <| SCl [16, 19] (Zl1 _ _ _ hx12) Zok rfl <| Sd (lo [20] [] rfl fun S hs hr => Zt (A := Z0w (rd Z3 x12.1) (rd Z6 x12.2)) rfl rfl (vh hs 20 rfl rfl)) <| Sd (lo [15] [] rfl fun S hs hr => Z1b rfl rfl (vh hs 15 rfl rfl)) <| Sd (lo [15] [] rfl fun S hs hr => Z1d rfl rfl (vh hs 15 rfl rfl)) <| Sd (Z1o (us := [(8, Z2q 85 Z3 Z0n)]) (ur := []) [] [] rfl fun S hs hr => Z71 rfl rfl rfl Z1g) <| Sd (Z1o (us := [(8, Z2q 85 Z3 x12.1)]) (ur := []) [8, 21] [] rfl fun S hs hr => Z7t rfl rfl Zz ((hs 8 rfl).trans rfl) (vh hs 21 rfl rfl)) <| SAs rfl <| Sn <| AW.unpackP 8 9 rfl rfl fun g13 => SR <| Md rfl <| Ac (Z1a rfl rfl (vt rfl)) rfl <| Nl <| Cq rfl h (fun h => ?_) (fun h => ?_)
  ·refine SR <| Ac (Z15 (ps := []) (x := (Vector.replicate 24 Z0n)) rfl rfl rfl (by kernel_rfl) Z1k rfl) rfl <| Zi Zy 5 rfl <| Ab rfl <| Nl <| rt ?_
   cases h; exact Z0y Tryz.results202 rfl (Zx rfl (i := 5) rfl Zy) (Zc rfl)
  ·refine sk <| Rg <| Ac (Z4d rfl rfl (vt rfl) (vk rfl) rfl hlti6) rfl <| Md rfl <| Nl ?_
   exact ⟨(_, _), Nat.lt_succ_self _, ⟨hsf1.next, h⟩, FX rfl⟩
def Zcy (i1 : Int) (x2 : Zg) (x3 : Zg) : Option (Tern × Bool) :=
 (chk 24 i1).bind fun j5 => (chk 24 i1).bind fun j6 => (Zb4 (Vector.get x2 j5) (Vector.get x3 j6)).bind fun x7 => some (x7.1, x7.2)
theorem Zpp : Q3 Tryz.prog 262 (rd (Z0 .i64)) (rp (Z1 24 Z3)) (rp (Z1 24 Z3)) (fun r => Z0w (rd Z3 r.1) (rd Z6 r.2)) Zcy := fun i1 x2 x3 r h => I0 Tryz.func262 rfl Tryz.ntmps262 rfl fun w H => by
 unfold Zcy at h
 refine SR <| Cv rfl (Zo 5 rfl rfl Z1g) fun g4 => Ab rfl <| Nl <| sq ?_
 obtain ⟨j5, hj5, j6, hj6, x7, hx7, h⟩ := bs3 h
 refine AR Zw (by kernel_rfl) <| Zs rfl <| Sd (lo [1, 6] [] rfl fun S hs hr => Z41 rfl rfl Z2g (vh hs 1 rfl rfl) (vh hs 6 rfl rfl) hj5) <| SLp Zz rfl <| Zs rfl <| Sd (lo [2, 9] [] rfl fun S hs hr => Z41 rfl rfl Z2g (vh hs 2 rfl rfl) (vh hs 9 rfl rfl) hj6) <| SLp Zz rfl <| SCl [8, 11] (Zl1 _ _ _ hx7) Zok rfl <| Sd (lo [12] [] rfl fun S hs hr => Z1b rfl rfl (vh hs 12 rfl rfl)) <| Sd (lo [12] [] rfl fun S hs hr => Z1d rfl rfl (vh hs 12 rfl rfl)) <| SSt Zz 5 rfl <| SAs rfl <| Sn <| rt ?_
 cases h; exact Z0y Tryz.results262 rfl (Zx rfl (i := 5) rfl Zz) (Zc rfl)
def Z6z (a1 : Zg) (b2 : Zg) : Option (Zg × Bool) :=
 (Ze7 (fun x => Zcy x a1 b2)).bind fun x6 => some (x6.1, x6.2)
theorem Zd1 : Q2 Tryz.prog 203 (rd (Z1 24 Z3)) (rd (Z1 24 Z3)) (fun r => Z0w (rd (Z1 24 Z3) r.1) (rd Z6 r.2)) Z6z := fun a1 b2 r h => I0 Tryz.func203 rfl Tryz.ntmps203 rfl fun w H => by
 unfold Z6z at h
 refine SR <| Cv rfl (Zl 3 rfl rfl (vt rfl)) fun g3 => Cv rfl (Zl 4 rfl rfl (vt rfl)) fun g4 => Cv rfl (Zo 5 rfl rfl Z1k) fun g5 => Ab rfl <| Nl <| sq <| AW.freezeB 2 3 rfl rfl rfl <| AW.freezeB 3 4 rfl rfl rfl ?_
 obtain ⟨x6, hx6, h⟩ := Z9 h
 refine Rg <| Ac (Znm (fs := []) (FAs := []) (cs := [.tmp 2, .tmp 3]) (CAs := [rp (Z1 24 Z3) a1, rp (Z1 24 Z3) b2]) (kx := (Z0 .i64)) (B := (fun (y : (Tern × Bool)) => Z0w (rd Z3 y.1) (rd Z6 y.2))) (fun x => Zcy x a1 b2) rfl rfl Zyz trivial ⟨vt rfl, vt rfl, trivial⟩ (fun x y h => Zpp _ _ _ y h)) rfl <| Cl [6] (Zli _ _ hx6) Zor rfl <| Ac (Z1b rfl rfl (vt rfl)) rfl <| Ac (Z1d rfl rfl (vt rfl)) rfl <| Zi Zy 5 rfl <| As rfl <| Nl <| rt ?_
 cases h; exact Z0y Tryz.results203 rfl (Zx rfl (i := 5) rfl Zy) (Zc rfl)
def Zi1 (w1 : walk_way) (x2 : Flow) : Option (walk_way × Bool) :=
 (Zia x2).bind fun x6 => (Zdf w1.got x6).bind fun x7 => (bif (!x7.2) then some ((⟨(Vector.replicate 24 Z0n), (Vector.replicate 24 Z0n), [], []⟩ : walk_way), false) else (Z6z x7.1 w1.cube).bind fun x9 => some ({ w1 with cube := x9.1 }, x9.2))
theorem Zxy : Q2 Tryz.prog 136 (rd Z0u) (rd Z2d) (fun r => Z0w (rd Z0u r.1) (rd Z6 r.2)) Zi1 := fun w1 x2 r h => I0 Tryz.func136 rfl Tryz.ntmps136 rfl fun w H => by
 unfold Zi1 at h
 refine SR <| Cv rfl (Zl 3 rfl rfl (vt rfl)) fun g3 => Cv rfl (Zl 4 rfl rfl (vt rfl)) fun g4 => Cv rfl (Zo 5 rfl rfl Z75) fun g5 => Ab rfl <| Nl <| sq ?_
 obtain ⟨x6, hx6, x7, hx7, h⟩ := bs2 h
 refine AR Zw (by kernel_rfl) <| Zu lwalk_way_1 Z9q rfl <| Zj Z05 3 rfl <| Zj Zdw 4 rfl <| SCl [11] (Zt6 _ _ hx6) Zsn rfl <| SCl [10, 12] (Zlx _ _ _ hx7) Zlt rfl <| Sd (lo [13] [] rfl fun S hs hr => Zt (A := Z0w (rd (Z1 24 Z3) x7.1) (rd Z6 x7.2)) rfl rfl (vh hs 13 rfl rfl)) <| Sd (lo [8] [] rfl fun S hs hr => Z1b rfl rfl (vh hs 8 rfl rfl)) <| Sd (lo [8] [] rfl fun S hs hr => Z1d rfl rfl (vh hs 8 rfl rfl)) <| Sd (Z1o (us := [(6, Z2q 87 (Z1 24 Z3) (Vector.replicate 24 Z0n))]) (ur := []) [] [] rfl fun S hs hr => Z71 rfl rfl rfl Z1k) <| Sd (Z1o (us := [(6, Z2q 87 (Z1 24 Z3) x7.1)]) (ur := []) [6, 14] [] rfl fun S hs hr => Z7t rfl rfl Zy ((hs 6 rfl).trans rfl) (vh hs 14 rfl rfl)) <| SAs rfl <| Sn <| AW.unpackP 6 7 rfl rfl fun g8 => sq <| SR <| Md rfl <| Ac (Z1a rfl rfl (vt rfl)) rfl <| Nl <| Cq rfl h (fun h => ?_) (fun h => ?_)
 ·refine SR <| Ac (opb (⟨(Vector.replicate 24 Z0n), (Vector.replicate 24 Z0n), [], []⟩ : walk_way) Z75 rfl Zje (pn rfl)) rfl <| Zi Z24 5 rfl <| Ab rfl <| Nl <| rt ?_
  cases h; exact Z0y Tryz.results136 rfl (Zx rfl (i := 5) rfl Z24) (Zc rfl)
 ·refine sk <| sq ?_
  obtain ⟨x9, hx9, h⟩ := Z9 h
  refine Rg <| Ld Zy 7 rfl <| Zk lwalk_way_0 Zfl rfl <| Ld Zy 3 rfl <| Cl [20, 22] (Zd1 _ _ _ hx9) Zbk rfl <| Mt2 rfl <| Ac (Z1b rfl rfl (vt rfl)) rfl <| Ac (Z1d rfl rfl (vt rfl)) rfl <| Zk lwalk_way_0 Zfl rfl <| Zi Zy 3 rfl <| As rfl <| Nl <| SR <| Ld Z24 3 rfl <| Md rfl <| Zi Z24 5 rfl <| As rfl <| Nl <| rt ?_
  cases h; exact Z0y Tryz.results136 rfl (Zx rfl (i := 5) rfl Z24) (Zc rfl)
def Zcc (i1 : Inst) (x2 : Int) : Option Bool :=
 some (decide (i1.Kind = x2))
theorem Zqo : Q2 Tryz.prog 264 (rd Z1h) (rp (Z0 .i64)) (rd Z6) Zcc := fun i1 x2 r h => I0 Tryz.func264 rfl Tryz.ntmps264 rfl fun w H => by
 unfold Zcc at h
 refine SR <| Cv rfl (Zl 3 rfl rfl (vt rfl)) fun g3 => Ab rfl <| Nl <| SR <| Zk lInst_0 Ztg rfl <| Ld Zq 3 rfl <| Lp1 Zq rfl <| Ac (Z1m rfl rfl (vt rfl) (vt rfl)) rfl <| As rfl <| Nl <| rt ?_
 cases h; exact Zm Tryz.results264 rfl (Zc rfl)
def Za8 (s1 : (List Inst)) (x2 : (Inst → Option Bool)) : Nat → Nat → Option Int
 | 0, i3 => some (-1)
 | m4 + 1, i3 => (lget s1 (i3 : Int)).bind fun x5 => (x2 x5).bind fun x6 => (bif x6 then some (i3 : Int) else (Za8 s1 x2 m4) (i3 + 1))
def Zhu (s1 : (List Inst)) (x2 : (Inst → Option Bool)) : Option Int :=
 Za8 s1 x2 ((s1.length : Int) : Int).toNat 0
theorem Zwy : Q2 Tryz.prog 263 (rd (Z4 Z1h)) (fn1 Tryz.prog Z1h Z6) (rd (Z0 .i64)) Zhu := fun s1 x2 r h => I0 Tryz.func263 rfl Tryz.ntmps263 rfl fun w H => by
 unfold Zhu at h
 refine SR <| Ak rfl <| Nl <| sq <| SR <| Md rfl <| Ac (Z16 rfl rfl Zcz (vt rfl)) rfl <| Mk rfl <| Nl <| bk <| LG (d := []) (ν := Nat × Nat) (fun (m4, i3) => (Cnt (s1.length : Int) i3 m4 ∧ Za8 s1 x2 m4 i3 = some r, m4, [(0, rd (Z4 Z1h) s1), (1, fn1 Tryz.prog Z1h Z6 x2), (7, rd (Z0 .i64) (s1.length : Int)), (8, rd (Z0 .i64) (i3 : Int))], [])) (((s1.length : Int) : Int).toNat, 0) ⟨Cnt.start _, h⟩ (FX rfl) ?_
 rintro ⟨m4, i3⟩ ⟨hsf1, h⟩
 dsimp only at hsf1 h ⊢
 cases m4 with
 | zero =>
  unfold Za8 at h
  refine SR <| Ac (Zn rfl rfl (vt rfl) (vt rfl)) rfl <| Nl <| sq <| Cn rfl (fun hc => absurd (of_decide_eq_true hc) hsf1.zero) (fun hc => ?_)
  refine xt <| SR <| Ak rfl <| Nl <| rt ?_
  cases h; exact Zm Tryz.results263 rfl (Zc rfl)
 | succ m4 =>
  unfold Za8 at h
  refine SR <| Ac (Zn rfl rfl (vt rfl) (vt rfl)) rfl <| Nl <| sq <| Cn rfl (fun hc => ?_) (fun hc => absurd hsf1.succ (of_decide_eq_false hc))
  have hlti3 := of_decide_eq_true hc
  refine sk <| sq <| bk <| SR <| Md rfl <| As rfl <| Nl <| sq ?_
  obtain ⟨x5, hx5, x6, hx6, h⟩ := bs2 h
  refine Rg <| Ac (Zt (A := fn1 Tryz.prog Z1h Z6 x2) rfl rfl (vt rfl)) rfl <| Md rfl <| Md rfl <| Ac (Z0z rfl rfl Zcz (vt rfl) (vt rfl) hx5) rfl <| Lp1 Z39 rfl <| Ac (Z5r hx6 rfl rfl (vt rfl) (vt rfl)) rfl <| Nl <| Cq rfl h (fun h => ?_) (fun h => ?_)
  ·refine SR <| Md rfl <| As rfl <| Nl <| rt ?_
   cases h; exact Zm Tryz.results263 rfl (Zc rfl)
  ·refine sk <| Rg <| Ac (Z12 (t := 7) rfl rfl (vt rfl) (vk rfl) (vt rfl) hlti3) rfl <| Md rfl <| Nl ?_
   exact ⟨(_, _), Nat.lt_succ_self _, ⟨hsf1.next, h⟩, FX rfl⟩
end Go.Proofs.YtknpgojdkobgjaaGreat.W
set_option maxRecDepth 4000
namespace Go.Proofs.YtknpgojdkobgjaaGreat.W
open Go Go.Wb
theorem Y2b : Ent Tryz.prog 264 := Ent.mk Tryz.func264 rfl rfl
theorem Y0l : Ent Tryz.prog 263 := Ent.mk Tryz.func263 rfl rfl
theorem Zdd : Ent Tryz.prog 216 := Ent.mk Tryz.func216 rfl rfl
theorem Ztm : Ent Tryz.prog 306 := Ent.mk Tryz.func306 rfl rfl
theorem Znn : Ent Tryz.prog 305 := Ent.mk Tryz.func305 rfl rfl
theorem Zh0 : Ent Tryz.prog 268 := Ent.mk Tryz.func268 rfl rfl
theorem Zne : Ent Tryz.prog 270 := Ent.mk Tryz.func270 rfl rfl
theorem e77 : Ent Tryz.prog 77 := Ent.mk Tryz.func77 rfl rfl
theorem Z86 : Ent Tryz.prog 207 := Ent.mk Tryz.func207 rfl rfl
theorem Ze2 : Ent Tryz.prog 327 := Ent.mk Tryz.func327 rfl rfl
def Z6a (s : List Action) : Option (List Action) := Z1n [] s
theorem Zj8 (s : List Action) (r : List Action) (h : Z6a s = some r) : Con Tryz.prog 216 [rd (Z4 Z8) s] emp (fun v => Zh v) (fun v => Za v 121 Z8 r) := by
 refine Con.intro0 Tryz.func216 rfl Tryz.ntmps216 rfl fun w H => ?_
 unfold Z6a at h
 refine AW.newnil 1001 121 Z8 <| SR <| Ac (Z00 (A := Zh (.slice none 0 0)) rfl rfl vc) rfl <| Nl <| sq <| SR <| Md rfl <| Ct rfl (Z8q rfl rfl Z0p (vt rfl)) ?_
 rintro _ ⟨b, hb, rfl⟩
 refine Nl <| Cn rfl (fun hc => ?_) (fun hc => ?_)
 ·obtain rfl := hb hc
  refine SR <| Ac (Z00 (A := Zh (.slice none 0 0)) rfl rfl vc) rfl <| Nl <| rt ?_
  obtain rfl := (Z5b h).2
  exact Z38 (i := 1001) Tryz.results216 rfl rfl rfl
 ·refine sk <| SR <| Cv rfl (Z81 1002 (ps := []) (l := []) rfl rfl Z0p Z55 rfl rfl rfl rfl) fun v1 => Md rfl <| Cv rfl (Z2x 1002 h rfl rfl Zp9 (vt rfl) rfl (vt rfl)) fun v2 => Aw rfl <| Nl <| rt ?_
  exact Z38 (i := 1002) Tryz.results216 rfl rfl rfl
theorem Zn6 (s : List Action) (r : List Action) (h : Z6a s = some r) : PCon Tryz.prog 216 [rd (Z4 Z8) s] (rd (Z4 Z8) r) := PCon.of_row (Zj8 s r h)
def Z6n (l1 : (List Inst)) (k2 : Int) : Option (Inst × Bool) :=
 (Zhu l1 (fun x => Zcc x k2)).bind fun x5 => (bif (decide (x5 < 0)) then some ((⟨0, 0, Z0e, Z0e, []⟩ : Inst), false) else (lget l1 x5).bind fun x6 => (Z6a x6.Acts).bind fun x8 => some ({ x6 with Acts := x8 }, true))
theorem Z99 : Q2 Tryz.prog 204 (rd (Z4 Z1h)) (rd (Z0 .i64)) (fun r => Z0w (rd Z1h r.1) (rd Z6 r.2)) Z6n := fun l1 k2 r h => I0 Tryz.func204 rfl Tryz.ntmps204 rfl fun w H => by
 unfold Z6n at h
 refine SR <| Cv rfl (Zl 4 rfl rfl (vt rfl)) fun g3 => Cv rfl (Zo 5 rfl rfl Z45) fun g4 => Ab rfl <| Nl <| sq <| AW.freezeB 3 4 rfl rfl rfl ?_
 obtain ⟨x5, hx5, h⟩ := Z9 h
 refine Rg <| Md rfl <| Ac (Z4k (cs := [.tmp 3]) (CAs := [rp (Z0 .i64) k2]) (fun x => Zcc x k2) rfl rfl Y2b ⟨vt rfl, trivial⟩ (fun x y h => Zqo _ _ y h)) rfl <| Cl [8, 9] (Zwy _ _ _ hx5) Y0l rfl <| As rfl <| Nl <| sq <| SR <| Md rfl <| Ac (Zn rfl rfl (vt rfl) (vk rfl)) rfl <| Nl <| Cq rfl h (fun h => ?_) (fun h => ?_)
 ·refine SR <| Ac (opb (⟨0, 0, Z0e, Z0e, []⟩ : Inst) Z45 rfl Zn4 (pn rfl)) rfl <| Zi Z39 5 rfl <| Ab rfl <| Nl <| rt ?_
  cases h; exact Z0y Tryz.results204 rfl (Zx rfl (i := 5) rfl Z39) (Zc rfl)
 ·refine sk <| sq ?_
  obtain ⟨x6, hx6, h⟩ := Z9 h
  refine Rg <| Md rfl <| Md rfl <| Ac (Z0z rfl rfl Zcz (vt rfl) (vt rfl) hx6) rfl <| Lp1 Z39 rfl <| Cv rfl (Zo 8 rfl rfl Z45) fun g7 => Zi Z39 8 rfl <| Nl <| sq ?_
  obtain ⟨x8, hx8, h⟩ := Z9 h
  refine Rg <| Zk lInst_4 Zer rfl <| Ld Z43 8 rfl <| Cl [19] (Zn6 _ _ hx8) Zdd rfl <| Zk lInst_4 Zer rfl <| Zi Z43 8 rfl <| Nl <| SR <| Ld Z39 8 rfl <| Zi Z39 5 rfl <| Ab rfl <| Nl <| rt ?_
  cases h; exact Z0y Tryz.results204 rfl (Zx rfl (i := 5) rfl Z39) (Zc rfl)
def Zbp (i1 : Int) (x2 : Zg) : Option Tern :=
 (chk 24 i1).bind fun j4 => (Z3y (Vector.get x2 j4)).bind fun x5 => some x5
theorem Zub : Q2 Tryz.prog 306 (rd (Z0 .i64)) (rp (Z1 24 Z3)) (rd Z3) Zbp := fun i1 x2 r h => I0 Tryz.func306 rfl Tryz.ntmps306 rfl fun w H => by
 unfold Zbp at h
 refine SR <| Cv rfl (Zo 4 rfl rfl Z1g) fun g3 => Nl <| sq ?_
 obtain ⟨j4, hj4, x5, hx5, h⟩ := bs2 h
 refine Rg <| Md rfl <| Ac (Z41 rfl rfl Z3h (vt rfl) (vt rfl) hj4) rfl <| Lp1 Zz rfl <| Cl [6] (Z4t _ _ hx5) Z4q rfl <| Zi Zz 4 rfl <| Nl <| rt ?_
 cases h; exact Zm Tryz.results306 rfl (Zx rfl (i := 4) rfl Zz)
def Z8c (x1 : (Int → Option Tern)) : Nat → Nat → Zg → Option Zg
 | 0, i6, b5 => some b5
 | m7 + 1, i6, b5 => (x1 (i6 : Int)).bind fun x8 => (chk 24 (i6 : Int)).bind fun j9 => (Z8c x1 m7) (i6 + 1) (Vector.set b5 j9.1 x8 j9.2)
def Zds (x1 : (Int → Option Tern)) : Option Zg :=
 Z8c x1 (24 : Int).toNat 0 (Vector.replicate 24 Z0n)
theorem Zmr : Q1 Tryz.prog 305 (fn1 Tryz.prog (Z0 .i64) Z3) (rd (Z1 24 Z3)) Zds := fun x1 r h => I0 Tryz.func305 rfl Tryz.ntmps305 rfl fun w H => by
 unfold Zds at h
 refine SR <| Cv rfl (Zo 3 rfl rfl Z3m) fun g2 => Nl <| SR <| Cv rfl (Zo 4 rfl rfl Z3m) fun g3 => Nl <| sq <| SR <| Mk rfl <| Nl <| bk <| LG (d := []) (ν := Nat × Nat × Zg) (fun (m7, i6, b5) => (Cnt 24 i6 m7 ∧ Z8c x1 m7 i6 b5 = some r, m7, [(0, fn1 Tryz.prog (Z0 .i64) Z3 x1), (2, Z7 g2 (Lens.id (Z1 24 Z3))), (3, Z7 g3 (Lens.id (Z1 24 Z3))), (5, rd (Z0 .i64) (i6 : Int))], [(3, Zb g2 101 (Z1 24 Z3) (Vector.replicate 24 Z0n)), (4, Zb g3 101 (Z1 24 Z3) b5)])) ((24 : Int).toNat, 0, (Vector.replicate 24 Z0n)) ⟨Cnt.start _, h⟩ (FX rfl) ?_
 rintro ⟨m7, i6, b5⟩ ⟨hsf1, h⟩
 dsimp only at hsf1 h ⊢
 cases m7 with
 | zero =>
  unfold Z8c at h
  refine SR <| Ac (Zn rfl rfl (vt rfl) (vk rfl)) rfl <| Nl <| sq <| Cn rfl (fun hc => absurd (of_decide_eq_true hc) hsf1.zero) (fun hc => ?_)
  refine xt <| SR <| Ld Z05 4 rfl <| Zi Z05 3 rfl <| Nl <| rt ?_
  cases h; exact Zm Tryz.results305 rfl (Zx rfl (i := 3) rfl Z05)
 | succ m7 =>
  unfold Z8c at h
  refine SR <| Ac (Zn rfl rfl (vt rfl) (vk rfl)) rfl <| Nl <| sq <| Cn rfl (fun hc => ?_) (fun hc => absurd hsf1.succ (of_decide_eq_false hc))
  have hlti6 := of_decide_eq_true hc
  refine sk <| sq <| bk <| SR <| Md rfl <| As rfl <| Nl ?_
  obtain ⟨x8, hx8, j9, hj9, h⟩ := bs2 h
  refine Rg <| Md rfl <| Ac (Zt (A := fn1 Tryz.prog (Z0 .i64) Z3 x1) rfl rfl (vt rfl)) rfl <| Md rfl <| Ac (Z5r hx8 rfl rfl (vt rfl) (vt rfl)) rfl <| Ac (Z1f rfl rfl Z3h (vt rfl) (vt rfl) hj9) rfl <| Zi Zz 4 rfl <| Nl <| Rg <| Ac (Z4d rfl rfl (vt rfl) (vk rfl) rfl hlti6) rfl <| Md rfl <| Nl ?_
  exact ⟨(_, _, _), Nat.lt_succ_self _, ⟨hsf1.next, h⟩, FX rfl⟩
def Z9u (x1 : Zg) : Option Zg :=
 (Zds (fun x => Zbp x x1)).bind fun x4 => some x4
theorem Zex : Q1 Tryz.prog 268 (rd (Z1 24 Z3)) (rd (Z1 24 Z3)) Z9u := fun x1 r h => I0 Tryz.func268 rfl Tryz.ntmps268 rfl fun w H => by
 unfold Z9u at h
 refine SR <| Cv rfl (Zl 2 rfl rfl (vt rfl)) fun g2 => Cv rfl (Zo 3 rfl rfl Z3m) fun g3 => Nl <| sq <| AW.freezeB 1 2 rfl rfl rfl ?_
 obtain ⟨x4, hx4, h⟩ := Z9 h
 refine Rg <| Ac (Z4k (cs := [.tmp 1]) (CAs := [rp (Z1 24 Z3) x1]) (fun x => Zbp x x1) rfl rfl Ztm ⟨vt rfl, trivial⟩ (fun x y h => Zub _ _ y h)) rfl <| Cl [3] (Zmr _ _ hx4) Znn rfl <| Zi Z05 3 rfl <| Nl <| rt ?_
 cases h; exact Zm Tryz.results268 rfl (Zx rfl (i := 3) rfl Z05)
def Zd9 (a1 : Tern) (b2 : Tern) : Option Tern :=
 (Z3y a1).bind fun x6 => (Z3y b2).bind fun x7 => (Z4z x6.Value x7.Mask).bind fun x8 => (Z4f x8 x7.Value).bind fun x9 => (Z4f x6.Mask x7.Mask).bind fun x10 => some (⟨x9, x10⟩ : Tern)
theorem Zju : Q2 Tryz.prog 270 (rd Z3) (rd Z3) (rd Z3) Zd9 := fun a1 b2 r h => I0 Tryz.func270 rfl Tryz.ntmps270 rfl fun w H => by
 unfold Zd9 at h
 refine SR <| Cv rfl (Zl 3 rfl rfl (vt rfl)) fun g3 => Cv rfl (Zl 4 rfl rfl (vt rfl)) fun g4 => Cv rfl (Zo 5 rfl rfl Z1g) fun g5 => Nl <| sq ?_
 obtain ⟨x6, hx6, x7, hx7, h⟩ := bs2 h
 refine AR Zw (by kernel_rfl) <| Zj Zz 3 rfl <| SCl [5] (Z4t _ _ hx6) Z4q rfl <| Zj Zz 4 rfl <| SCl [7] (Z4t _ _ hx7) Z4q rfl <| SSt Zz 3 rfl <| SSt Zz 4 rfl <| Sn <| sq ?_
 obtain ⟨x8, hx8, x9, hx9, x10, hx10, h⟩ := bs3 h
 refine AR Zw (by kernel_rfl) <| Zu lTern_0 Z2e rfl <| Zj Zv 3 rfl <| Zu lTern_1 Z1z rfl <| Zj Zv 4 rfl <| SCl [10, 12] (Z7q _ _ _ hx8) Z7j rfl <| Zu lTern_0 Z2e rfl <| Zj Zv 4 rfl <| SCl [13, 15] (Z6k _ _ _ hx9) Z69 rfl <| Zu lTern_1 Z1z rfl <| Zj Zv 3 rfl <| Zu lTern_1 Z1z rfl <| Zj Zv 4 rfl <| SCl [18, 20] (Z6k _ _ _ hx10) Z69 rfl <| Sd (lo [16, 21] [] rfl fun S hs hr => opb (⟨x9, x10⟩ : Tern) Z1g rfl Z4c (pc Z5a (vh hs 16 rfl rfl) <| pc Z5d (vh hs 21 rfl rfl) <| pn rfl)) <| SSt Zz 5 rfl <| Sn <| rt ?_
 cases h; exact Zm Tryz.results270 rfl (Zx rfl (i := 5) rfl Zz)
def Z5f (x1 : Zg) (x2 : Int) (x3 : Wide) (m4 : Wide) : Option Zg :=
 (Z9u x1).bind fun x9 => (Z7i x2).bind fun x10 => (bif x10 then (chk 24 x2).bind fun j11 => (Zd9 (Vector.get x9 j11) (⟨x3, m4⟩ : Tern)).bind fun x12 => (chk 24 x2).bind fun j13 => some (Vector.set x9 j13.1 x12 j13.2) else some x9)
theorem Z7o : Q4 Tryz.prog 207 (rd (Z1 24 Z3)) (rd (Z0 .i64)) (rd Ze) (rd Ze) (rd (Z1 24 Z3)) Z5f := fun x1 x2 x3 m4 r h => I0 Tryz.func207 rfl Tryz.ntmps207 rfl fun w H => by
 unfold Z5f at h
 refine SR <| Cv rfl (Zl 5 rfl rfl (vt rfl)) fun g5 => Cv rfl (Zl 7 rfl rfl (vt rfl)) fun g6 => Cv rfl (Zl 8 rfl rfl (vt rfl)) fun g7 => Cv rfl (Zo 9 rfl rfl Z3m) fun g8 => Nl <| sq ?_
 obtain ⟨x9, hx9, h⟩ := Z9 h
 refine Rg <| Ld Z05 5 rfl <| Cl [9] (Zex _ _ hx9) Zh0 rfl <| Zi Z05 5 rfl <| Nl <| sq <| sq ?_
 obtain ⟨x10, hx10, h⟩ := Z9 h
 refine Rg <| Md rfl <| Cl [11] (Zcl _ _ hx10) Zeb rfl <| Nl <| Cq rfl h (fun h => ?_) (fun h => ?_)
 ·obtain ⟨j11, hj11, x12, hx12, j13, hj13, h⟩ := bs3 h
  refine AR Zw (by kernel_rfl) <| Zs rfl <| Zs rfl <| Sd (lo [4, 14] [] rfl fun S hs hr => Z1f rfl rfl Z3h (vh hs 4 rfl rfl) (vh hs 14 rfl rfl) hj11) <| Zj Zz 5 rfl <| Zj Zv 7 rfl <| Zj Zv 8 rfl <| Sd (lo [17, 18] [] rfl fun S hs hr => opb (⟨x3, m4⟩ : Tern) Z1g rfl Z4c (pc Z5a (vh hs 17 rfl rfl) <| pc Z5d (vh hs 18 rfl rfl) <| pn rfl)) <| SCl [16, 19] (Zju _ _ _ hx12) Zne rfl <| Sd (lo [4, 13] [] rfl fun S hs hr => Z1f rfl rfl Z3h (vh hs 4 rfl rfl) (vh hs 13 rfl rfl) hj13) <| SSt Zz 5 rfl <| Sn <| SR <| Ld Z05 5 rfl <| Zi Z05 9 rfl <| Nl <| rt ?_
  cases h; exact Zm Tryz.results207 rfl (Zx rfl (i := 9) rfl Z05)
 ·refine sk <| SR <| Ld Z05 5 rfl <| Zi Z05 9 rfl <| Nl <| rt ?_
  cases h; exact Zm Tryz.results207 rfl (Zx rfl (i := 9) rfl Z05)
def Z80 (i1 : Int) : Option Wide :=
 (bif ((decide (i1 < 0)) || (decide (i1 > 127))) then some (⟨0, 0⟩ : Wide) else (Ze6 .i64 i1 64).bind fun q4 => (Zay i1 64).bind fun q5 => (Z8s (1 : BitVec 64) q5).bind fun q6 => (chk 2 q4).bind fun j7 => some (⟨(Vector.get (Vector.set (Vector.replicate 2 0) j7.1 q6 j7.2) (⟨1, by decide⟩ : _root_.Fin 2)), (Vector.get (Vector.set (Vector.replicate 2 0) j7.1 q6 j7.2) (⟨0, by decide⟩ : _root_.Fin 2))⟩ : Wide))
theorem Zc7 : Q1 Tryz.prog 327 (rd (Z0 .i64)) (rd Ze) Z80 := fun i1 r h => I0 Tryz.func327 rfl Tryz.ntmps327 rfl fun w H => by
 unfold Z80 at h
 refine SR <| Cv rfl (Zo 3 rfl rfl Z1l) fun g2 => Nl <| SR <| Cv rfl (Zo 4 rfl rfl Zz3) fun g3 => Nl <| sq <| SR <| Md rfl <| Ac (Zn rfl rfl (vt rfl) (vk rfl)) rfl <| Md rfl <| Gd rfl (fun hq => Zt (A := rd (Z0 .i64) i1) rfl rfl (vt rfl)) <| Gd rfl (fun hq => Z2w rfl rfl (vgt rfl hq) (vk rfl)) <| Ac (Z5p rfl rfl (vt rfl) (vt rfl)) rfl <| Nl <| Cq rfl h (fun h => ?_) (fun h => ?_)
 ·refine SR <| Ac (opb (⟨0, 0⟩ : Wide) Z1l rfl Z31 (pn rfl)) rfl <| Zi Zv 3 rfl <| Nl <| rt ?_
  cases h; exact Zm Tryz.results327 rfl (Zx rfl (i := 3) rfl Zv)
 ·refine sk <| sq ?_
  obtain ⟨q4, hq4, q5, hq5, q6, hq6, j7, hj7, h⟩ := bs4 h
  refine Rg <| Md rfl <| Ac (Zzg rfl rfl (vt rfl) (vk rfl) hq4) rfl <| Md rfl <| Ac (Zkx rfl rfl (vt rfl) (vk rfl) hq5) rfl <| Ac (Zmv rfl rfl (vku (1 : BitVec 64) rfl) (vt rfl) hq6) rfl <| Ac (Z1f rfl rfl Zgt (vt rfl) (vt rfl) hj7) rfl <| Zi Z0m 4 rfl <| Nl <| SR <| Ac (Z1f rfl rfl Zgt (vt rfl) (vk rfl) rfl) rfl <| Ld Z0m 4 rfl <| Ac (Z1f rfl rfl Zgt (vt rfl) (vk rfl) rfl) rfl <| Ld Z0m 4 rfl <| Ac (opb (⟨(Vector.get (Vector.set (Vector.replicate 2 0) j7.1 q6 j7.2) (⟨1, by decide⟩ : _root_.Fin 2)), (Vector.get (Vector.set (Vector.replicate 2 0) j7.1 q6 j7.2) (⟨0, by decide⟩ : _root_.Fin 2))⟩ : Wide) Z1l rfl Z31 (pc Z48 (vt rfl) <| pc Z3n (vt rfl) <| pn rfl)) rfl <| Zi Zv 3 rfl <| Nl <| rt ?_
  cases h; exact Zm Tryz.results327 rfl (Zx rfl (i := 3) rfl Zv)
def Zfq (a1 : Action) : Option Zg :=
 (Z89).bind fun x4 => (bif (decide (a1.Kind = 25)) then (Zba a1.Oxm).bind fun x6 => (Z5f x4 a1.Oxm.Field x6.Value x6.Mask).bind fun x8 => some x8 else (bif (decide (a1.Kind = 17)) then (Z80 12).bind fun x9 => (Z80 12).bind fun x10 => (Z5f x4 5 x9 x10).bind fun x11 => some x11 else (bif (decide (a1.Kind = 18)) then (Z6x 13).bind fun x12 => (Z5f x4 5 (⟨0, 0⟩ : Wide) x12).bind fun x13 => (Z6x 3).bind fun x14 => (Z5f x13 6 (⟨0, 0⟩ : Wide) x14).bind fun x15 => some x15 else some x4)))
theorem Zv3 : Q1 Tryz.prog 287 (rd Z8) (rd (Z1 24 Z3)) Zfq := fun a1 r h => I0 Tryz.func287 rfl Tryz.ntmps287 rfl fun w H => by
 unfold Zfq at h
 refine SR <| Cv rfl (Zl 2 rfl rfl (vt rfl)) fun g2 => Cv rfl (Zo 3 rfl rfl Z3m) fun g3 => Nl <| sq ?_
 obtain ⟨x4, hx4, h⟩ := Z9 h
 refine Rg <| Cl [] (Zhv _ hx4) e77 rfl <| Cv rfl (Zo 4 rfl rfl Z3m) fun g5 => Zi Z05 4 rfl <| Nl <| sq <| SR <| Zk lAction_0 Z5i rfl <| Ld Zq 2 rfl <| Nl <| bk <| SR <| Ac (Z1m rfl rfl (vt rfl) (vk rfl)) rfl <| As rfl <| Nl <| Cq rfl h (fun h => ?_) (fun h => ?_)
 ·refine sq ?_
  obtain ⟨x6, hx6, h⟩ := Z9 h
  refine Rg <| Zk Zdb Zgp rfl <| Ld Zeq 2 rfl <| Cl [11] (Zjv _ _ hx6) Zme rfl <| Cv rfl (Zo 5 rfl rfl Z1g) fun g7 => Zi Zz 5 rfl <| Nl ?_
  obtain ⟨x8, hx8, h⟩ := Z9 h
  refine Rg <| Ld Z05 4 rfl <| Zk Zdb Zgp rfl <| Zk Z6i Z6u rfl <| Ld Zq 2 rfl <| Zk lTern_0 Z2e rfl <| Ld Zv 5 rfl <| Zk lTern_1 Z1z rfl <| Ld Zv 5 rfl <| Cl [13, 16, 18, 20] (Z7o _ _ _ _ _ hx8) Z86 rfl <| Zi Z05 4 rfl <| Nl <| SR <| Ld Z05 4 rfl <| Zi Z05 3 rfl <| Nl <| rt ?_
  cases h; exact Zm Tryz.results287 rfl (Zx rfl (i := 3) rfl Z05)
 ·refine SR <| Ac (Z1m rfl rfl (vt rfl) (vk rfl)) rfl <| As rfl <| Nl <| Cq rfl h (fun h => ?_) (fun h => ?_)
  ·obtain ⟨x9, hx9, x10, hx10, x11, hx11, h⟩ := bs3 h
   refine AR Zw (by kernel_rfl) <| Zj Z05 4 rfl <| Sd (lo [] [] rfl fun S hs hr => Z1c (xs := [.const (Value.int IntKind.i64 12)]) (Zc7 _ _ hx9) Ze2 rfl rfl ⟨vk rfl, trivial⟩) <| Sd (lo [] [] rfl fun S hs hr => Z1c (xs := [.const (Value.int IntKind.i64 12)]) (Zc7 _ _ hx10) Ze2 rfl rfl ⟨vk rfl, trivial⟩) <| Sd (lo [24, 25, 26] [] rfl fun S hs hr => Z1c (xs := [.tmp 24, .const (Value.int IntKind.i64 5), .tmp 25, .tmp 26]) (Z7o _ _ _ _ _ hx11) Z86 rfl rfl ⟨vt ((hs 24 rfl).trans rfl), vk rfl, vt ((hs 25 rfl).trans rfl), vt ((hs 26 rfl).trans rfl), trivial⟩) <| SSt Z05 4 rfl <| Sn <| SR <| Ld Z05 4 rfl <| Zi Z05 3 rfl <| Nl <| rt ?_
   cases h; exact Zm Tryz.results287 rfl (Zx rfl (i := 3) rfl Z05)
  ·refine SR <| Ac (Z1m rfl rfl (vt rfl) (vk rfl)) rfl <| As rfl <| Nl <| Cq rfl h (fun h => ?_) (fun h => ?_)
   ·refine sq ?_
    obtain ⟨x12, hx12, x13, hx13, h⟩ := bs2 h
    refine AR Zw (by kernel_rfl) <| Zj Z05 4 rfl <| Sd (lo [] [] rfl fun S hs hr => opb (⟨0, 0⟩ : Wide) Z1l rfl Z31 (pn rfl)) <| Sd (lo [] [] rfl fun S hs hr => Z1c (xs := [.const (Value.int IntKind.i64 13)]) (Zei _ _ hx12) Zea rfl rfl ⟨vk rfl, trivial⟩) <| Sd (lo [30, 31, 32] [] rfl fun S hs hr => Z1c (xs := [.tmp 30, .const (Value.int IntKind.i64 5), .tmp 31, .tmp 32]) (Z7o _ _ _ _ _ hx13) Z86 rfl rfl ⟨vt ((hs 30 rfl).trans rfl), vk rfl, vt ((hs 31 rfl).trans rfl), vt ((hs 32 rfl).trans rfl), trivial⟩) <| SSt Z05 4 rfl <| Sn ?_
    obtain ⟨x14, hx14, x15, hx15, h⟩ := bs2 h
    refine AR Zw (by kernel_rfl) <| Zj Z05 4 rfl <| Sd (lo [] [] rfl fun S hs hr => opb (⟨0, 0⟩ : Wide) Z1l rfl Z31 (pn rfl)) <| Sd (lo [] [] rfl fun S hs hr => Z1c (xs := [.const (Value.int IntKind.i64 3)]) (Zei _ _ hx14) Zea rfl rfl ⟨vk rfl, trivial⟩) <| Sd (lo [34, 35, 36] [] rfl fun S hs hr => Z1c (xs := [.tmp 34, .const (Value.int IntKind.i64 6), .tmp 35, .tmp 36]) (Z7o _ _ _ _ _ hx15) Z86 rfl rfl ⟨vt ((hs 34 rfl).trans rfl), vk rfl, vt ((hs 35 rfl).trans rfl), vt ((hs 36 rfl).trans rfl), trivial⟩) <| SSt Z05 4 rfl <| Sn <| SR <| Ld Z05 4 rfl <| Zi Z05 3 rfl <| Nl <| rt ?_
    cases h; exact Zm Tryz.results287 rfl (Zx rfl (i := 3) rfl Z05)
   ·refine sk <| SR <| Ld Z05 4 rfl <| Zi Z05 3 rfl <| Nl <| rt ?_
    cases h; exact Zm Tryz.results287 rfl (Zx rfl (i := 3) rfl Z05)
end Go.Proofs.YtknpgojdkobgjaaGreat.W
