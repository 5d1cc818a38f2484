/- A part of the proof. -/
import Derived.Test.YtknpgojdkobgjaaGreatL1
import Derived.Test.YtknpgojdkobgjaaGreatProg
import Derived.KernelRfl
set_option linter.unusedVariables false
set_option maxRecDepth 4000
set_option linter.unusedSimpArgs false
namespace Go.Proofs.YtknpgojdkobgjaaGreat.W
open Go Go.Wb
structure Wide where
 Hi : (BitVec 64)
 Lo : (BitVec 64)
 deriving DecidableEq, Inhabited
def Zd : Kd Wide := Z1j (Z5 Z0o Z0o) (fun x => (x.Hi, x.Lo))
instance : PureK Zd := inferInstanceAs (PureK (Z1j (Z5 Z0o Z0o) (fun (x : Wide) => (x.Hi, x.Lo))))
def lWide_0 : Lens Zd Z0o := Lens.iso (k := (Z5 Z0o Z0o)) (Lens.fst _ _) Wide.Hi (fun x y => { x with Hi := y }) (fun _ => rfl) (fun _ _ => rfl)
def lWide_1 : Lens Zd Z0o := Lens.iso (k := (Z5 Z0o Z0o)) (Lens.snd _ _) Wide.Lo (fun x y => { x with Lo := y }) (fun _ => rfl) (fun _ _ => rfl)
def Z09 : Wide := ⟨0, 0⟩
def Z8h : List Value := ([.int .u64 0] ++ [.int .u64 0])
theorem Z7g : KZ Zd Z09 Z8h := Z33 (Z0z Zmh Zmh)
structure Tern where
 Value : Wide
 Mask : Wide
 deriving DecidableEq, Inhabited
def Z3 : Kd Tern := Z1j (Z5 Zd Zd) (fun x => (x.Value, x.Mask))
instance : PureK Z3 := inferInstanceAs (PureK (Z1j (Z5 Zd Zd) (fun (x : Tern) => (x.Value, x.Mask))))
def lTern_0 : Lens Z3 Zd := Lens.iso (k := (Z5 Zd Zd)) (Lens.fst _ _) Tern.Value (fun x y => { x with Value := y }) (fun _ => rfl) (fun _ _ => rfl)
def lTern_1 : Lens Z3 Zd := Lens.iso (k := (Z5 Zd Zd)) (Lens.snd _ _) Tern.Mask (fun x y => { x with Mask := y }) (fun _ => rfl) (fun _ _ => rfl)
def zTern : Tern := ⟨Z09, Z09⟩
def Zgh : List Value := (Z8h ++ Z8h)
theorem Zbc : KZ Z3 zTern Zgh := Z33 (Z0z Z7g Z7g)
abbrev Z9 := Vector Tern 24
structure Oxm where
 Field : Int
 Masked : Bool
 Value : Wide
 Mask : Wide
 deriving DecidableEq, Inhabited
def Z2f : Kd Oxm := Z1j (Z5 (Z0 .i64) (Z5 Z7 (Z5 Zd Zd))) (fun x => (x.Field, (x.Masked, (x.Value, x.Mask))))
instance : PureK Z2f := inferInstanceAs (PureK (Z1j (Z5 (Z0 .i64) (Z5 Z7 (Z5 Zd Zd))) (fun (x : Oxm) => (x.Field, (x.Masked, (x.Value, x.Mask))))))
def Z4w : Lens Z2f (Z0 .i64) := Lens.iso (k := (Z5 (Z0 .i64) (Z5 Z7 (Z5 Zd Zd)))) (Lens.fst _ _) Oxm.Field (fun x y => { x with Field := y }) (fun _ => rfl) (fun _ _ => rfl)
def Zu6 : Lens Z2f Z7 := Lens.iso (k := (Z5 (Z0 .i64) (Z5 Z7 (Z5 Zd Zd)))) (Lens.comp (Lens.snd _ _) (Lens.fst _ _)) Oxm.Masked (fun x y => { x with Masked := y }) (fun _ => rfl) (fun _ _ => rfl)
def Zim : Lens Z2f Zd := Lens.iso (k := (Z5 (Z0 .i64) (Z5 Z7 (Z5 Zd Zd)))) (Lens.comp (Lens.comp (Lens.snd _ _) (Lens.snd _ _)) (Lens.fst _ _)) Oxm.Value (fun x y => { x with Value := y }) (fun _ => rfl) (fun _ _ => rfl)
def Zqz : Lens Z2f Zd := Lens.iso (k := (Z5 (Z0 .i64) (Z5 Z7 (Z5 Zd Zd)))) (Lens.comp (Lens.comp (Lens.snd _ _) (Lens.snd _ _)) (Lens.snd _ _)) Oxm.Mask (fun x y => { x with Mask := y }) (fun _ => rfl) (fun _ _ => rfl)
def Z7i : Oxm := ⟨0, false, Z09, Z09⟩
def Zyd : List Value := ([.int .i64 0] ++ ([.bool false] ++ (Z8h ++ Z8h)))
theorem Zyr : KZ Z2f Z7i Zyd := Z33 (Z0z Z2e (Z0z Zip (Z0z Z7g Z7g)))
structure Action where
 Kind : Int
 Port : Int
 Max : Int
 Group : Int
 Ether : Int
 Oxm : Oxm
 deriving DecidableEq, Inhabited
def Z8 : Kd Action := Z1j (Z5 (Z0 .i64) (Z5 (Z0 .i64) (Z5 (Z0 .i64) (Z5 (Z0 .i64) (Z5 (Z0 .i64) Z2f))))) (fun x => (x.Kind, (x.Port, (x.Max, (x.Group, (x.Ether, x.Oxm))))))
instance : PureK Z8 := inferInstanceAs (PureK (Z1j (Z5 (Z0 .i64) (Z5 (Z0 .i64) (Z5 (Z0 .i64) (Z5 (Z0 .i64) (Z5 (Z0 .i64) Z2f))))) (fun (x : Action) => (x.Kind, (x.Port, (x.Max, (x.Group, (x.Ether, x.Oxm))))))))
def Z51 : Lens Z8 (Z0 .i64) := Lens.iso (k := (Z5 (Z0 .i64) (Z5 (Z0 .i64) (Z5 (Z0 .i64) (Z5 (Z0 .i64) (Z5 (Z0 .i64) Z2f)))))) (Lens.fst _ _) Action.Kind (fun x y => { x with Kind := y }) (fun _ => rfl) (fun _ _ => rfl)
def Zhw : Lens Z8 (Z0 .i64) := Lens.iso (k := (Z5 (Z0 .i64) (Z5 (Z0 .i64) (Z5 (Z0 .i64) (Z5 (Z0 .i64) (Z5 (Z0 .i64) Z2f)))))) (Lens.comp (Lens.snd _ _) (Lens.fst _ _)) Action.Port (fun x y => { x with Port := y }) (fun _ => rfl) (fun _ _ => rfl)
def Zob : Lens Z8 (Z0 .i64) := Lens.iso (k := (Z5 (Z0 .i64) (Z5 (Z0 .i64) (Z5 (Z0 .i64) (Z5 (Z0 .i64) (Z5 (Z0 .i64) Z2f)))))) (Lens.comp (Lens.comp (Lens.snd _ _) (Lens.snd _ _)) (Lens.fst _ _)) Action.Max (fun x y => { x with Max := y }) (fun _ => rfl) (fun _ _ => rfl)
def Zpk : Lens Z8 (Z0 .i64) := Lens.iso (k := (Z5 (Z0 .i64) (Z5 (Z0 .i64) (Z5 (Z0 .i64) (Z5 (Z0 .i64) (Z5 (Z0 .i64) Z2f)))))) (Lens.comp (Lens.comp (Lens.comp (Lens.snd _ _) (Lens.snd _ _)) (Lens.snd _ _)) (Lens.fst _ _)) Action.Group (fun x y => { x with Group := y }) (fun _ => rfl) (fun _ _ => rfl)
def Z82 : Lens Z8 Z2f := Lens.iso (k := (Z5 (Z0 .i64) (Z5 (Z0 .i64) (Z5 (Z0 .i64) (Z5 (Z0 .i64) (Z5 (Z0 .i64) Z2f)))))) (Lens.comp (Lens.comp (Lens.comp (Lens.comp (Lens.snd _ _) (Lens.snd _ _)) (Lens.snd _ _)) (Lens.snd _ _)) (Lens.snd _ _)) Action.Oxm (fun x y => { x with Oxm := y }) (fun _ => rfl) (fun _ _ => rfl)
def Znv : Action := ⟨0, 0, 0, 0, 0, Z7i⟩
def Yb6 : List Value := ([.int .i64 0] ++ ([.int .i64 0] ++ ([.int .i64 0] ++ ([.int .i64 0] ++ ([.int .i64 0] ++ Zyd)))))
theorem Yjj : KZ Z8 Znv Yb6 := Z33 (Z0z Z2e (Z0z Z2e (Z0z Z2e (Z0z Z2e (Z0z Z2e Zyr)))))
structure Inst where
 Kind : Int
 Table : Int
 Value : Wide
 Mask : Wide
 Acts : (List Action)
 deriving DecidableEq, Inhabited
def Z1a : Kd Inst := Z1j (Z5 (Z0 .i64) (Z5 (Z0 .i64) (Z5 Zd (Z5 Zd (Z2 Z8))))) (fun x => (x.Kind, (x.Table, (x.Value, (x.Mask, x.Acts)))))
def Zrv : Lens Z1a (Z0 .i64) := Lens.iso (k := (Z5 (Z0 .i64) (Z5 (Z0 .i64) (Z5 Zd (Z5 Zd (Z2 Z8)))))) (Lens.fst _ _) Inst.Kind (fun x y => { x with Kind := y }) (fun _ => rfl) (fun _ _ => rfl)
def Z7t : Lens Z1a (Z0 .i64) := Lens.iso (k := (Z5 (Z0 .i64) (Z5 (Z0 .i64) (Z5 Zd (Z5 Zd (Z2 Z8)))))) (Lens.comp (Lens.snd _ _) (Lens.fst _ _)) Inst.Table (fun x y => { x with Table := y }) (fun _ => rfl) (fun _ _ => rfl)
def Zou : Lens Z1a Zd := Lens.iso (k := (Z5 (Z0 .i64) (Z5 (Z0 .i64) (Z5 Zd (Z5 Zd (Z2 Z8)))))) (Lens.comp (Lens.comp (Lens.snd _ _) (Lens.snd _ _)) (Lens.fst _ _)) Inst.Value (fun x y => { x with Value := y }) (fun _ => rfl) (fun _ _ => rfl)
def Zmm : Lens Z1a Zd := Lens.iso (k := (Z5 (Z0 .i64) (Z5 (Z0 .i64) (Z5 Zd (Z5 Zd (Z2 Z8)))))) (Lens.comp (Lens.comp (Lens.comp (Lens.snd _ _) (Lens.snd _ _)) (Lens.snd _ _)) (Lens.fst _ _)) Inst.Mask (fun x y => { x with Mask := y }) (fun _ => rfl) (fun _ _ => rfl)
def Z81 : Lens Z1a (Z2 Z8) := Lens.iso (k := (Z5 (Z0 .i64) (Z5 (Z0 .i64) (Z5 Zd (Z5 Zd (Z2 Z8)))))) (Lens.comp (Lens.comp (Lens.comp (Lens.snd _ _) (Lens.snd _ _)) (Lens.snd _ _)) (Lens.snd _ _)) Inst.Acts (fun x y => { x with Acts := y }) (fun _ => rfl) (fun _ _ => rfl)
def Ztp : Inst := ⟨0, 0, Z09, Z09, []⟩
def Yij : List Value := ([.int .i64 0] ++ ([.int .i64 0] ++ (Z8h ++ (Z8h ++ [.slice none 0 0]))))
theorem Yd8 : KZ Z1a Ztp Yij := Z33 (Z0z Z2e (Z0z Z2e (Z0z Z7g (Z0z Z7g (Z52 _)))))
structure Flow where
 Cookie : (BitVec 64)
 Priority : Int
 Idle : Int
 Hard : Int
 Flags : Int
 Match : (List Oxm)
 Insts : (List Inst)
 deriving DecidableEq, Inhabited
def Z0n : Kd Flow := Z1j (Z5 Z0o (Z5 (Z0 .i64) (Z5 (Z0 .i64) (Z5 (Z0 .i64) (Z5 (Z0 .i64) (Z5 (Z2 Z2f) (Z2 Z1a))))))) (fun x => (x.Cookie, (x.Priority, (x.Idle, (x.Hard, (x.Flags, (x.Match, x.Insts)))))))
def Zcp : Lens Z0n (Z0 .i64) := Lens.iso (k := (Z5 Z0o (Z5 (Z0 .i64) (Z5 (Z0 .i64) (Z5 (Z0 .i64) (Z5 (Z0 .i64) (Z5 (Z2 Z2f) (Z2 Z1a)))))))) (Lens.comp (Lens.snd _ _) (Lens.fst _ _)) Flow.Priority (fun x y => { x with Priority := y }) (fun _ => rfl) (fun _ _ => rfl)
def Zpc : Lens Z0n (Z2 Z2f) := Lens.iso (k := (Z5 Z0o (Z5 (Z0 .i64) (Z5 (Z0 .i64) (Z5 (Z0 .i64) (Z5 (Z0 .i64) (Z5 (Z2 Z2f) (Z2 Z1a)))))))) (Lens.comp (Lens.comp (Lens.comp (Lens.comp (Lens.comp (Lens.snd _ _) (Lens.snd _ _)) (Lens.snd _ _)) (Lens.snd _ _)) (Lens.snd _ _)) (Lens.fst _ _)) Flow.Match (fun x y => { x with Match := y }) (fun _ => rfl) (fun _ _ => rfl)
def Z9h : Lens Z0n (Z2 Z1a) := Lens.iso (k := (Z5 Z0o (Z5 (Z0 .i64) (Z5 (Z0 .i64) (Z5 (Z0 .i64) (Z5 (Z0 .i64) (Z5 (Z2 Z2f) (Z2 Z1a)))))))) (Lens.comp (Lens.comp (Lens.comp (Lens.comp (Lens.comp (Lens.snd _ _) (Lens.snd _ _)) (Lens.snd _ _)) (Lens.snd _ _)) (Lens.snd _ _)) (Lens.snd _ _)) Flow.Insts (fun x y => { x with Insts := y }) (fun _ => rfl) (fun _ _ => rfl)
def Zry : Flow := ⟨0, 0, 0, 0, 0, [], []⟩
def Y5g : List Value := ([.int .u64 0] ++ ([.int .i64 0] ++ ([.int .i64 0] ++ ([.int .i64 0] ++ ([.int .i64 0] ++ ([.slice none 0 0] ++ [.slice none 0 0]))))))
theorem Ygr : KZ Z0n Zry Y5g := Z33 (Z0z Zmh (Z0z Z2e (Z0z Z2e (Z0z Z2e (Z0z Z2e (Z0z (Z52 _) (Z52 _)))))))
structure field_row where
 name : ByteArray
 id : Int
 bits : Int
 masks : Bool
 deriving DecidableEq, Inhabited
def Z1u : Kd field_row := Z1j (Z5 Z1k (Z5 (Z0 .i64) (Z5 (Z0 .i64) Z7))) (fun x => (x.name, (x.id, (x.bits, x.masks))))
instance : PureK Z1u := inferInstanceAs (PureK (Z1j (Z5 Z1k (Z5 (Z0 .i64) (Z5 (Z0 .i64) Z7))) (fun (x : field_row) => (x.name, (x.id, (x.bits, x.masks))))))
def Z32 : Lens Z1u Z1k := Lens.iso (k := (Z5 Z1k (Z5 (Z0 .i64) (Z5 (Z0 .i64) Z7)))) (Lens.fst _ _) field_row.name (fun x y => { x with name := y }) (fun _ => rfl) (fun _ _ => rfl)
def lfield_row_1 : Lens Z1u (Z0 .i64) := Lens.iso (k := (Z5 Z1k (Z5 (Z0 .i64) (Z5 (Z0 .i64) Z7)))) (Lens.comp (Lens.snd _ _) (Lens.fst _ _)) field_row.id (fun x y => { x with id := y }) (fun _ => rfl) (fun _ _ => rfl)
def Z2p : Lens Z1u (Z0 .i64) := Lens.iso (k := (Z5 Z1k (Z5 (Z0 .i64) (Z5 (Z0 .i64) Z7)))) (Lens.comp (Lens.comp (Lens.snd _ _) (Lens.snd _ _)) (Lens.fst _ _)) field_row.bits (fun x y => { x with bits := y }) (fun _ => rfl) (fun _ _ => rfl)
def Z34 : Lens Z1u Z7 := Lens.iso (k := (Z5 Z1k (Z5 (Z0 .i64) (Z5 (Z0 .i64) Z7)))) (Lens.comp (Lens.comp (Lens.snd _ _) (Lens.snd _ _)) (Lens.snd _ _)) field_row.masks (fun x y => { x with masks := y }) (fun _ => rfl) (fun _ _ => rfl)
def Zhy : field_row := ⟨(⟨#[]⟩ : ByteArray), 0, 0, false⟩
def Y5m : List Value := ([.string ⟨#[]⟩] ++ ([.int .i64 0] ++ ([.int .i64 0] ++ [.bool false])))
theorem Zvc : KZ Z1u Zhy Y5m := Z33 (Z0z Ybh (Z0z Z2e (Z0z Z2e Zip)))
abbrev Y67 := Vector field_row 24
structure Atom where
 Rewrite : Z9
 Group : Bool
 Port : Int
 Max : Int
 deriving DecidableEq, Inhabited
def Z0b : Kd Atom := Z1j (Z5 (Z1 24 Z3) (Z5 Z7 (Z5 (Z0 .i64) (Z0 .i64)))) (fun x => (x.Rewrite, (x.Group, (x.Port, x.Max))))
instance : PureK Z0b := inferInstanceAs (PureK (Z1j (Z5 (Z1 24 Z3) (Z5 Z7 (Z5 (Z0 .i64) (Z0 .i64)))) (fun (x : Atom) => (x.Rewrite, (x.Group, (x.Port, x.Max))))))
def lAtom_0 : Lens Z0b (Z1 24 Z3) := Lens.iso (k := (Z5 (Z1 24 Z3) (Z5 Z7 (Z5 (Z0 .i64) (Z0 .i64))))) (Lens.fst _ _) Atom.Rewrite (fun x y => { x with Rewrite := y }) (fun _ => rfl) (fun _ _ => rfl)
def lAtom_1 : Lens Z0b Z7 := Lens.iso (k := (Z5 (Z1 24 Z3) (Z5 Z7 (Z5 (Z0 .i64) (Z0 .i64))))) (Lens.comp (Lens.snd _ _) (Lens.fst _ _)) Atom.Group (fun x y => { x with Group := y }) (fun _ => rfl) (fun _ _ => rfl)
def lAtom_2 : Lens Z0b (Z0 .i64) := Lens.iso (k := (Z5 (Z1 24 Z3) (Z5 Z7 (Z5 (Z0 .i64) (Z0 .i64))))) (Lens.comp (Lens.comp (Lens.snd _ _) (Lens.snd _ _)) (Lens.fst _ _)) Atom.Port (fun x y => { x with Port := y }) (fun _ => rfl) (fun _ _ => rfl)
def Znw : Lens Z0b (Z0 .i64) := Lens.iso (k := (Z5 (Z1 24 Z3) (Z5 Z7 (Z5 (Z0 .i64) (Z0 .i64))))) (Lens.comp (Lens.comp (Lens.snd _ _) (Lens.snd _ _)) (Lens.snd _ _)) Atom.Max (fun x y => { x with Max := y }) (fun _ => rfl) (fun _ _ => rfl)
def Zrj : Atom := ⟨(Vector.replicate 24 zTern), false, 0, 0⟩
def Y9t : List Value := ((List.replicate 24 Zgh).flatten ++ ([.bool false] ++ ([.int .i64 0] ++ [.int .i64 0])))
theorem Y73 : KZ Z0b Zrj Y9t := Z33 (Z0z (Z5o 24 Zbc) (Z0z Zip (Z0z Z2e Z2e)))
structure walk_way where
 cube : Z9
 got : Z9
 atoms : (List Atom)
 set : (List Action)
 deriving DecidableEq, Inhabited
def Z1r : Kd walk_way := Z1j (Z5 (Z1 24 Z3) (Z5 (Z1 24 Z3) (Z5 (Z2 Z0b) (Z2 Z8)))) (fun x => (x.cube, (x.got, (x.atoms, x.set))))
def lwalk_way_0 : Lens Z1r (Z1 24 Z3) := Lens.iso (k := (Z5 (Z1 24 Z3) (Z5 (Z1 24 Z3) (Z5 (Z2 Z0b) (Z2 Z8))))) (Lens.fst _ _) walk_way.cube (fun x y => { x with cube := y }) (fun _ => rfl) (fun _ _ => rfl)
def lwalk_way_1 : Lens Z1r (Z1 24 Z3) := Lens.iso (k := (Z5 (Z1 24 Z3) (Z5 (Z1 24 Z3) (Z5 (Z2 Z0b) (Z2 Z8))))) (Lens.comp (Lens.snd _ _) (Lens.fst _ _)) walk_way.got (fun x y => { x with got := y }) (fun _ => rfl) (fun _ _ => rfl)
def Zfw : Lens Z1r (Z2 Z0b) := Lens.iso (k := (Z5 (Z1 24 Z3) (Z5 (Z1 24 Z3) (Z5 (Z2 Z0b) (Z2 Z8))))) (Lens.comp (Lens.comp (Lens.snd _ _) (Lens.snd _ _)) (Lens.fst _ _)) walk_way.atoms (fun x y => { x with atoms := y }) (fun _ => rfl) (fun _ _ => rfl)
def Zk3 : Lens Z1r (Z2 Z8) := Lens.iso (k := (Z5 (Z1 24 Z3) (Z5 (Z1 24 Z3) (Z5 (Z2 Z0b) (Z2 Z8))))) (Lens.comp (Lens.comp (Lens.snd _ _) (Lens.snd _ _)) (Lens.snd _ _)) walk_way.set (fun x y => { x with set := y }) (fun _ => rfl) (fun _ _ => rfl)
def Zg0 : walk_way := ⟨(Vector.replicate 24 zTern), (Vector.replicate 24 zTern), [], []⟩
def Yba : List Value := ((List.replicate 24 Zgh).flatten ++ ((List.replicate 24 Zgh).flatten ++ ([.slice none 0 0] ++ [.slice none 0 0])))
theorem Yk8 : KZ Z1r Zg0 Yba := Z33 (Z0z (Z5o 24 Zbc) (Z0z (Z5o 24 Zbc) (Z0z (Z52 _) (Z52 _))))
structure Z61 where
 got : Z9
 atoms : (List Atom)
 deriving DecidableEq, Inhabited
structure atom_trace_o1 where
 got : Z9
 atoms : Value
def Z56 : Kd atom_trace_o1 := Z1j (Z5 (Z1 24 Z3) kraw) (fun x => (x.got, x.atoms))
def latom_trace_o1_0 : Lens Z56 (Z1 24 Z3) := Lens.iso (k := (Z5 (Z1 24 Z3) kraw)) (Lens.fst _ _) atom_trace_o1.got (fun x y => { x with got := y }) (fun _ => rfl) (fun _ _ => rfl)
def Zj9 : Lens Z56 kraw := Lens.iso (k := (Z5 (Z1 24 Z3) kraw)) (Lens.snd _ _) atom_trace_o1.atoms (fun x y => { x with atoms := y }) (fun _ => rfl) (fun _ _ => rfl)
def Zzz : atom_trace_o1 := ⟨(Vector.replicate 24 zTern), (.slice none 0 0)⟩
theorem Ycn : KZ Z56 Zzz ((List.replicate 24 Zgh).flatten ++ [.slice none 0 0]) := Z33 (Z0z (Z5o 24 Zbc) (Zhm rfl))
structure aset_spot where
 kind : Int
 field : Int
 deriving DecidableEq, Inhabited
def Z70 : Kd aset_spot := Z1j (Z5 (Z0 .i64) (Z0 .i64)) (fun x => (x.kind, x.field))
instance : PureK Z70 := inferInstanceAs (PureK (Z1j (Z5 (Z0 .i64) (Z0 .i64)) (fun (x : aset_spot) => (x.kind, x.field))))
def laset_spot_0 : Lens Z70 (Z0 .i64) := Lens.iso (k := (Z5 (Z0 .i64) (Z0 .i64))) (Lens.fst _ _) aset_spot.kind (fun x y => { x with kind := y }) (fun _ => rfl) (fun _ _ => rfl)
def laset_spot_1 : Lens Z70 (Z0 .i64) := Lens.iso (k := (Z5 (Z0 .i64) (Z0 .i64))) (Lens.snd _ _) aset_spot.field (fun x y => { x with field := y }) (fun _ => rfl) (fun _ _ => rfl)
def Zoz : aset_spot := ⟨0, 0⟩
def Yb2 : List Value := ([.int .i64 0] ++ [.int .i64 0])
theorem Y7y : KZ Z70 Zoz Yb2 := Z33 (Z0z Z2e Z2e)
structure Rule where
 Cube : Z9
 Atoms : (List Atom)
 deriving DecidableEq, Inhabited
def Z00 : Kd Rule := Z1j (Z5 (Z1 24 Z3) (Z2 Z0b)) (fun x => (x.Cube, x.Atoms))
def lRule_0 : Lens Z00 (Z1 24 Z3) := Lens.iso (k := (Z5 (Z1 24 Z3) (Z2 Z0b))) (Lens.fst _ _) Rule.Cube (fun x y => { x with Cube := y }) (fun _ => rfl) (fun _ _ => rfl)
def lRule_1 : Lens Z00 (Z2 Z0b) := Lens.iso (k := (Z5 (Z1 24 Z3) (Z2 Z0b))) (Lens.snd _ _) Rule.Atoms (fun x y => { x with Atoms := y }) (fun _ => rfl) (fun _ _ => rfl)
def Zz3 : Rule := ⟨(Vector.replicate 24 zTern), []⟩
def Y68 : List Value := ((List.replicate 24 Zgh).flatten ++ [.slice none 0 0])
theorem Y6j : KZ Z00 Zz3 Y68 := Z33 (Z0z (Z5o 24 Zbc) (Z52 _))
abbrev Y6v := Vector (List Flow) 4
structure Bucket where
 Weight : Int
 Watch : Int
 WatchGroup : Int
 Acts : (List Action)
 deriving DecidableEq, Inhabited
def Z26 : Kd Bucket := Z1j (Z5 (Z0 .i64) (Z5 (Z0 .i64) (Z5 (Z0 .i64) (Z2 Z8)))) (fun x => (x.Weight, (x.Watch, (x.WatchGroup, x.Acts))))
def Zzt : Lens Z26 (Z0 .i64) := Lens.iso (k := (Z5 (Z0 .i64) (Z5 (Z0 .i64) (Z5 (Z0 .i64) (Z2 Z8))))) (Lens.comp (Lens.snd _ _) (Lens.fst _ _)) Bucket.Watch (fun x y => { x with Watch := y }) (fun _ => rfl) (fun _ _ => rfl)
def Zkp : Lens Z26 (Z2 Z8) := Lens.iso (k := (Z5 (Z0 .i64) (Z5 (Z0 .i64) (Z5 (Z0 .i64) (Z2 Z8))))) (Lens.comp (Lens.comp (Lens.snd _ _) (Lens.snd _ _)) (Lens.snd _ _)) Bucket.Acts (fun x y => { x with Acts := y }) (fun _ => rfl) (fun _ _ => rfl)
def Y4r : Bucket := ⟨0, 0, 0, []⟩
def Yi4 : List Value := ([.int .i64 0] ++ ([.int .i64 0] ++ ([.int .i64 0] ++ [.slice none 0 0])))
theorem Yab : KZ Z26 Y4r Yi4 := Z33 (Z0z Z2e (Z0z Z2e (Z0z Z2e (Z52 _))))
structure Group where
 ID : Int
 Kind : Int
 Buckets : (List Bucket)
 deriving DecidableEq, Inhabited
def Z0d : Kd Group := Z1j (Z5 (Z0 .i64) (Z5 (Z0 .i64) (Z2 Z26))) (fun x => (x.ID, (x.Kind, x.Buckets)))
def Zsx : Lens Z0d (Z0 .i64) := Lens.iso (k := (Z5 (Z0 .i64) (Z5 (Z0 .i64) (Z2 Z26)))) (Lens.fst _ _) Group.ID (fun x y => { x with ID := y }) (fun _ => rfl) (fun _ _ => rfl)
def Y3x : Lens Z0d (Z0 .i64) := Lens.iso (k := (Z5 (Z0 .i64) (Z5 (Z0 .i64) (Z2 Z26)))) (Lens.comp (Lens.snd _ _) (Lens.fst _ _)) Group.Kind (fun x y => { x with Kind := y }) (fun _ => rfl) (fun _ _ => rfl)
def Z99 : Lens Z0d (Z2 Z26) := Lens.iso (k := (Z5 (Z0 .i64) (Z5 (Z0 .i64) (Z2 Z26)))) (Lens.comp (Lens.snd _ _) (Lens.snd _ _)) Group.Buckets (fun x y => { x with Buckets := y }) (fun _ => rfl) (fun _ _ => rfl)
def Zph : Group := ⟨0, 0, []⟩
def Zv6 : List Value := ([.int .i64 0] ++ ([.int .i64 0] ++ [.slice none 0 0]))
theorem Zz4 : KZ Z0d Zph Zv6 := Z33 (Z0z Z2e (Z0z Z2e (Z52 _)))
structure Switch where
 Tables : Y6v
 Groups : (List Group)
 deriving DecidableEq, Inhabited
def Z0i : Kd Switch := Z1j (Z5 (Z1 4 (Z2 Z0n)) (Z2 Z0d)) (fun x => (x.Tables, x.Groups))
def Zav : Lens Z0i (Z1 4 (Z2 Z0n)) := Lens.iso (k := (Z5 (Z1 4 (Z2 Z0n)) (Z2 Z0d))) (Lens.fst _ _) Switch.Tables (fun x y => { x with Tables := y }) (fun _ => rfl) (fun _ _ => rfl)
def Zmy : Lens Z0i (Z2 Z0d) := Lens.iso (k := (Z5 (Z1 4 (Z2 Z0n)) (Z2 Z0d))) (Lens.snd _ _) Switch.Groups (fun x y => { x with Groups := y }) (fun _ => rfl) (fun _ _ => rfl)
def Zta : Switch := ⟨(Vector.replicate 4 []), []⟩
def Zzy : List Value := ((List.replicate 4 [.slice none 0 0]).flatten ++ [.slice none 0 0])
theorem Zyo : KZ Z0i Zta Zzy := Z33 (Z0z (Z5o 4 (Z52 _)) (Z52 _))
structure cover_purse where
 left : Int
 free : Bool
 deriving DecidableEq, Inhabited
def Z6f : Kd cover_purse := Z1j (Z5 (Z0 .i64) Z7) (fun x => (x.left, x.free))
instance : PureK Z6f := inferInstanceAs (PureK (Z1j (Z5 (Z0 .i64) Z7) (fun (x : cover_purse) => (x.left, x.free))))
def lcover_purse_0 : Lens Z6f (Z0 .i64) := Lens.iso (k := (Z5 (Z0 .i64) Z7)) (Lens.fst _ _) cover_purse.left (fun x y => { x with left := y }) (fun _ => rfl) (fun _ _ => rfl)
def lcover_purse_1 : Lens Z6f Z7 := Lens.iso (k := (Z5 (Z0 .i64) Z7)) (Lens.snd _ _) cover_purse.free (fun x y => { x with free := y }) (fun _ => rfl) (fun _ _ => rfl)
def Ztd : cover_purse := ⟨0, false⟩
def Zvh : List Value := ([.int .i64 0] ++ [.bool false])
theorem Y4w : KZ Z6f Ztd Zvh := Z33 (Z0z Z2e Zip)
abbrev Z0j := Vector Wide 24
structure cover_look where
 purse : cover_purse
 deriving DecidableEq, Inhabited
def Z24 : Kd cover_look := Z1j Z6f (fun x => x.purse)
instance : PureK Z24 := inferInstanceAs (PureK (Z1j Z6f (fun (x : cover_look) => x.purse)))
def lcover_look_0 : Lens Z24 Z6f := Lens.iso (k := Z6f) (Lens.id _) cover_look.purse (fun x y => { x with purse := y }) (fun _ => rfl) (fun _ _ => rfl)
def Y2q : cover_look := ⟨Ztd⟩
def Yf0 : List Value := Zvh
theorem Yja : KZ Z24 Y2q Yf0 := Z33 Y4w
structure Flat where
 Rules : (List Rule)
 Groups : (List Group)
 deriving DecidableEq, Inhabited
def Z91 : Kd Flat := Z1j (Z5 (Z2 Z00) (Z2 Z0d)) (fun x => (x.Rules, x.Groups))
def lFlat_0 : Lens Z91 (Z2 Z00) := Lens.iso (k := (Z5 (Z2 Z00) (Z2 Z0d))) (Lens.fst _ _) Flat.Rules (fun x y => { x with Rules := y }) (fun _ => rfl) (fun _ _ => rfl)
def lFlat_1 : Lens Z91 (Z2 Z0d) := Lens.iso (k := (Z5 (Z2 Z00) (Z2 Z0d))) (Lens.snd _ _) Flat.Groups (fun x y => { x with Groups := y }) (fun _ => rfl) (fun _ _ => rfl)
def Zxm : Flat := ⟨[], []⟩
def Yk2 : List Value := ([.slice none 0 0] ++ [.slice none 0 0])
theorem Yeo : KZ Z91 Zxm Yk2 := Z33 (Z0z (Z52 _) (Z52 _))
structure Env where
 Turn : Int
 Down : (List Int)
 deriving DecidableEq, Inhabited
def Z1m : Kd Env := Z1j (Z5 (Z0 .i64) (Z2 (Z0 .i64))) (fun x => (x.Turn, x.Down))
def Zw5 : Lens Z1m (Z0 .i64) := Lens.iso (k := (Z5 (Z0 .i64) (Z2 (Z0 .i64)))) (Lens.fst _ _) Env.Turn (fun x y => { x with Turn := y }) (fun _ => rfl) (fun _ _ => rfl)
def Zru : Lens Z1m (Z2 (Z0 .i64)) := Lens.iso (k := (Z5 (Z0 .i64) (Z2 (Z0 .i64)))) (Lens.snd _ _) Env.Down (fun x y => { x with Down := y }) (fun _ => rfl) (fun _ _ => rfl)
def Zjw : Env := ⟨0, []⟩
def Zmi : List Value := ([.int .i64 0] ++ [.slice none 0 0])
theorem Zod : KZ Z1m Zjw Zmi := Z33 (Z0z Z2e (Z52 _))
structure env_world where
 Env : Env
 Group : Group
 deriving DecidableEq, Inhabited
def Zaa : Kd env_world := Z1j (Z5 Z1m Z0d) (fun x => (x.Env, x.Group))
def lenv_world_0 : Lens Zaa Z1m := Lens.iso (k := (Z5 Z1m Z0d)) (Lens.fst _ _) env_world.Env (fun x y => { x with Env := y }) (fun _ => rfl) (fun _ _ => rfl)
def lenv_world_1 : Lens Zaa Z0d := Lens.iso (k := (Z5 Z1m Z0d)) (Lens.snd _ _) env_world.Group (fun x y => { x with Group := y }) (fun _ => rfl) (fun _ _ => rfl)
def Y4n : env_world := ⟨Zjw, Zph⟩
def Y85 : List Value := (Zmi ++ Zv6)
theorem Ybz : KZ Zaa Y4n Y85 := Z33 (Z0z Zod Zz4)
structure Out where
 Port : Int
 Max : Int
 Header : Z0j
 deriving DecidableEq, Inhabited
def Z08 : Kd Out := Z1j (Z5 (Z0 .i64) (Z5 (Z0 .i64) (Z1 24 Zd))) (fun x => (x.Port, (x.Max, x.Header)))
instance : PureK Z08 := inferInstanceAs (PureK (Z1j (Z5 (Z0 .i64) (Z5 (Z0 .i64) (Z1 24 Zd))) (fun (x : Out) => (x.Port, (x.Max, x.Header)))))
def lOut_0 : Lens Z08 (Z0 .i64) := Lens.iso (k := (Z5 (Z0 .i64) (Z5 (Z0 .i64) (Z1 24 Zd)))) (Lens.fst _ _) Out.Port (fun x y => { x with Port := y }) (fun _ => rfl) (fun _ _ => rfl)
def lOut_1 : Lens Z08 (Z0 .i64) := Lens.iso (k := (Z5 (Z0 .i64) (Z5 (Z0 .i64) (Z1 24 Zd)))) (Lens.comp (Lens.snd _ _) (Lens.fst _ _)) Out.Max (fun x y => { x with Max := y }) (fun _ => rfl) (fun _ _ => rfl)
def lOut_2 : Lens Z08 (Z1 24 Zd) := Lens.iso (k := (Z5 (Z0 .i64) (Z5 (Z0 .i64) (Z1 24 Zd)))) (Lens.comp (Lens.snd _ _) (Lens.snd _ _)) Out.Header (fun x y => { x with Header := y }) (fun _ => rfl) (fun _ _ => rfl)
def Zwg : Out := ⟨0, 0, (Vector.replicate 24 Z09)⟩
def Ykw : List Value := ([.int .i64 0] ++ ([.int .i64 0] ++ (List.replicate 24 Z8h).flatten))
theorem Yff : KZ Z08 Zwg Ykw := Z33 (Z0z Z2e (Z0z Z2e (Z5o 24 Z7g)))
structure Z0g where
 Env : Env
 groups : (List Group)
 out : (List Out)
 header : Z0j
 depth : Int
 deriving DecidableEq, Inhabited
structure exec_run_o2 where
 Env : Env
 groups : (List Group)
 out : Value
 header : Z0j
 depth : Int
def Z18 : Kd exec_run_o2 := Z1j (Z5 Z1m (Z5 (Z2 Z0d) (Z5 kraw (Z5 (Z1 24 Zd) (Z0 .i64))))) (fun x => (x.Env, (x.groups, (x.out, (x.header, x.depth)))))
def lexec_run_o2_0 : Lens Z18 Z1m := Lens.iso (k := (Z5 Z1m (Z5 (Z2 Z0d) (Z5 kraw (Z5 (Z1 24 Zd) (Z0 .i64)))))) (Lens.fst _ _) exec_run_o2.Env (fun x y => { x with Env := y }) (fun _ => rfl) (fun _ _ => rfl)
def lexec_run_o2_1 : Lens Z18 (Z2 Z0d) := Lens.iso (k := (Z5 Z1m (Z5 (Z2 Z0d) (Z5 kraw (Z5 (Z1 24 Zd) (Z0 .i64)))))) (Lens.comp (Lens.snd _ _) (Lens.fst _ _)) exec_run_o2.groups (fun x y => { x with groups := y }) (fun _ => rfl) (fun _ _ => rfl)
def Zgx : Lens Z18 kraw := Lens.iso (k := (Z5 Z1m (Z5 (Z2 Z0d) (Z5 kraw (Z5 (Z1 24 Zd) (Z0 .i64)))))) (Lens.comp (Lens.comp (Lens.snd _ _) (Lens.snd _ _)) (Lens.fst _ _)) exec_run_o2.out (fun x y => { x with out := y }) (fun _ => rfl) (fun _ _ => rfl)
def lexec_run_o2_3 : Lens Z18 (Z1 24 Zd) := Lens.iso (k := (Z5 Z1m (Z5 (Z2 Z0d) (Z5 kraw (Z5 (Z1 24 Zd) (Z0 .i64)))))) (Lens.comp (Lens.comp (Lens.comp (Lens.snd _ _) (Lens.snd _ _)) (Lens.snd _ _)) (Lens.fst _ _)) exec_run_o2.header (fun x y => { x with header := y }) (fun _ => rfl) (fun _ _ => rfl)
def Zhf : Lens Z18 (Z0 .i64) := Lens.iso (k := (Z5 Z1m (Z5 (Z2 Z0d) (Z5 kraw (Z5 (Z1 24 Zd) (Z0 .i64)))))) (Lens.comp (Lens.comp (Lens.comp (Lens.snd _ _) (Lens.snd _ _)) (Lens.snd _ _)) (Lens.snd _ _)) exec_run_o2.depth (fun x y => { x with depth := y }) (fun _ => rfl) (fun _ _ => rfl)
def Y2e : exec_run_o2 := ⟨Zjw, [], (.slice none 0 0), (Vector.replicate 24 Z09), 0⟩
theorem Y9e : KZ Z18 Y2e (Zmi ++ ([.slice none 0 0] ++ ([.slice none 0 0] ++ ((List.replicate 24 Z8h).flatten ++ [.int .i64 0])))) := Z33 (Z0z Zod (Z0z (Z52 _) (Z0z (Zhm rfl) (Z0z (Z5o 24 Z7g) Z2e))))
structure Place where
 Table : Int
 Flow : Int
 deriving DecidableEq, Inhabited
def Z46 : Kd Place := Z1j (Z5 (Z0 .i64) (Z0 .i64)) (fun x => (x.Table, x.Flow))
instance : PureK Z46 := inferInstanceAs (PureK (Z1j (Z5 (Z0 .i64) (Z0 .i64)) (fun (x : Place) => (x.Table, x.Flow))))
def lPlace_0 : Lens Z46 (Z0 .i64) := Lens.iso (k := (Z5 (Z0 .i64) (Z0 .i64))) (Lens.fst _ _) Place.Table (fun x y => { x with Table := y }) (fun _ => rfl) (fun _ _ => rfl)
def lPlace_1 : Lens Z46 (Z0 .i64) := Lens.iso (k := (Z5 (Z0 .i64) (Z0 .i64))) (Lens.snd _ _) Place.Flow (fun x y => { x with Flow := y }) (fun _ => rfl) (fun _ _ => rfl)
def Y0a : Place := ⟨0, 0⟩
def Yg7 : List Value := ([.int .i64 0] ++ [.int .i64 0])
theorem Ybu : KZ Z46 Y0a Yg7 := Z33 (Z0z Z2e Z2e)
structure Z2t where
 Switch : Switch
 env : Env
 header : Z0j
 set : (List Action)
 out : (List Out)
 path : (List Place)
 deriving DecidableEq, Inhabited
structure sem_packet_o4_5 where
 Switch : Switch
 env : Env
 header : Z0j
 set : (List Action)
 out : Value
 path : Value
def Z1x : Kd sem_packet_o4_5 := Z1j (Z5 Z0i (Z5 Z1m (Z5 (Z1 24 Zd) (Z5 (Z2 Z8) (Z5 kraw kraw))))) (fun x => (x.Switch, (x.env, (x.header, (x.set, (x.out, x.path))))))
def lsem_packet_o4_5_0 : Lens Z1x Z0i := Lens.iso (k := (Z5 Z0i (Z5 Z1m (Z5 (Z1 24 Zd) (Z5 (Z2 Z8) (Z5 kraw kraw)))))) (Lens.fst _ _) sem_packet_o4_5.Switch (fun x y => { x with Switch := y }) (fun _ => rfl) (fun _ _ => rfl)
def lsem_packet_o4_5_1 : Lens Z1x Z1m := Lens.iso (k := (Z5 Z0i (Z5 Z1m (Z5 (Z1 24 Zd) (Z5 (Z2 Z8) (Z5 kraw kraw)))))) (Lens.comp (Lens.snd _ _) (Lens.fst _ _)) sem_packet_o4_5.env (fun x y => { x with env := y }) (fun _ => rfl) (fun _ _ => rfl)
def lsem_packet_o4_5_2 : Lens Z1x (Z1 24 Zd) := Lens.iso (k := (Z5 Z0i (Z5 Z1m (Z5 (Z1 24 Zd) (Z5 (Z2 Z8) (Z5 kraw kraw)))))) (Lens.comp (Lens.comp (Lens.snd _ _) (Lens.snd _ _)) (Lens.fst _ _)) sem_packet_o4_5.header (fun x y => { x with header := y }) (fun _ => rfl) (fun _ _ => rfl)
def Zjl : Lens Z1x (Z2 Z8) := Lens.iso (k := (Z5 Z0i (Z5 Z1m (Z5 (Z1 24 Zd) (Z5 (Z2 Z8) (Z5 kraw kraw)))))) (Lens.comp (Lens.comp (Lens.comp (Lens.snd _ _) (Lens.snd _ _)) (Lens.snd _ _)) (Lens.fst _ _)) sem_packet_o4_5.set (fun x y => { x with set := y }) (fun _ => rfl) (fun _ _ => rfl)
def Zic : Lens Z1x kraw := Lens.iso (k := (Z5 Z0i (Z5 Z1m (Z5 (Z1 24 Zd) (Z5 (Z2 Z8) (Z5 kraw kraw)))))) (Lens.comp (Lens.comp (Lens.comp (Lens.comp (Lens.snd _ _) (Lens.snd _ _)) (Lens.snd _ _)) (Lens.snd _ _)) (Lens.fst _ _)) sem_packet_o4_5.out (fun x y => { x with out := y }) (fun _ => rfl) (fun _ _ => rfl)
def Zhx : Lens Z1x kraw := Lens.iso (k := (Z5 Z0i (Z5 Z1m (Z5 (Z1 24 Zd) (Z5 (Z2 Z8) (Z5 kraw kraw)))))) (Lens.comp (Lens.comp (Lens.comp (Lens.comp (Lens.snd _ _) (Lens.snd _ _)) (Lens.snd _ _)) (Lens.snd _ _)) (Lens.snd _ _)) sem_packet_o4_5.path (fun x y => { x with path := y }) (fun _ => rfl) (fun _ _ => rfl)
def Y49 : sem_packet_o4_5 := ⟨Zta, Zjw, (Vector.replicate 24 Z09), [], (.slice none 0 0), (.slice none 0 0)⟩
theorem Ybb : KZ Z1x Y49 (Zzy ++ (Zmi ++ ((List.replicate 24 Z8h).flatten ++ ([.slice none 0 0] ++ ([.slice none 0 0] ++ [.slice none 0 0]))))) := Z33 (Z0z Zyo (Z0z Zod (Z0z (Z5o 24 Z7g) (Z0z (Z52 _) (Z0z (Zhm rfl) (Zhm rfl))))))
theorem Z13 : Zr Tryz.prog 87 (Z1 24 Z3) (Vector.replicate 24 zTern) := ⟨_, (Z5o 24 Zbc), by kernel_rfl⟩
theorem Z01 : Ty Tryz.prog 87 (Z1 24 Z3) := ⟨by kernel_rfl, by kernel_rfl⟩
theorem Z3f : Zr Tryz.prog 101 (Z1 24 Z3) (Vector.replicate 24 zTern) := ⟨_, (Z5o 24 Zbc), by kernel_rfl⟩
theorem Z02 : Ty Tryz.prog 101 (Z1 24 Z3) := ⟨by kernel_rfl, by kernel_rfl⟩
theorem Z5c : Ty Tryz.prog 22 (Z2 Z0n) := ⟨by kernel_rfl, by kernel_rfl⟩
theorem Z4q : Sl Tryz.prog 22 61 Z0n := ⟨by kernel_rfl, by kernel_rfl⟩
theorem Zf9 : Fl Tryz.prog 61 1 Zcp := ⟨by kernel_rfl, rfl⟩
theorem Zt : Ty Tryz.prog 3 (Z0 .i64) := ⟨by kernel_rfl, by kernel_rfl⟩
theorem Z0y : Sl Tryz.prog 37 3 (Z0 .i64) := ⟨by kernel_rfl, by kernel_rfl⟩
theorem us3 : (Tryz.prog.underlying 3).isSome = true := by kernel_rfl
theorem Z89 : Tryz.prog.underlying 360 = some (.int .u64) := by kernel_rfl
theorem Zbl : (Tryz.prog.underlying 360).isSome = true := by kernel_rfl
theorem un3 : Tryz.prog.underlying 3 = some (.int .i64) := by kernel_rfl
theorem Zlp : El Tryz.prog 37 3 (Z0 .i64) := ⟨by kernel_rfl, by kernel_rfl, by kernel_rfl, by kernel_rfl, by kernel_rfl⟩
theorem zr3 : Zr Tryz.prog 3 (Z0 .i64) 0 := ⟨_, Z2e, by kernel_rfl⟩
theorem Zy3 : Zr Tryz.prog 369 (Z1 24 Z1u) (Vector.replicate 24 Zhy) := ⟨_, (Z5o 24 Zvc), by kernel_rfl⟩
theorem Ykc : Z1c Tryz.prog 364 1 = some (lfield_row_1.off, Kd.sz (Z0 .i64)) := by kernel_rfl
theorem Z2s : Zr Tryz.prog 364 Z1u Zhy := ⟨_, Zvc, by kernel_rfl⟩
theorem Zv0 : Ty Tryz.prog 369 (Z1 24 Z1u) := ⟨by kernel_rfl, by kernel_rfl⟩
theorem Yex : Z2z Tryz.prog 364 = true := by kernel_rfl
theorem Zl5 : Ty Tryz.prog 364 Z1u := ⟨by kernel_rfl, by kernel_rfl⟩
theorem Yci : Ar Tryz.prog 369 364 24 Z1u := ⟨by kernel_rfl, by kernel_rfl⟩
theorem Yg8 : Zmw Tryz.prog 364 2 = some 3 := by kernel_rfl
theorem Yg6 : Fl Tryz.prog 364 2 Z2p := ⟨by kernel_rfl, rfl⟩
theorem Z1s : Zr Tryz.prog 42 Zd Z09 := ⟨_, Z7g, by kernel_rfl⟩
theorem Z7f : Z1c Tryz.prog 42 0 = some (lWide_0.off, Kd.sz Z0o) := by kernel_rfl
theorem Z6d : Z1c Tryz.prog 42 1 = some (lWide_1.off, Kd.sz Z0o) := by kernel_rfl
theorem Z3o : Z2z Tryz.prog 42 = true := by kernel_rfl
theorem Zu : Ty Tryz.prog 42 Zd := ⟨by kernel_rfl, by kernel_rfl⟩
theorem Z1d : Zr Tryz.prog 85 Z3 zTern := ⟨_, Zbc, by kernel_rfl⟩
theorem Z55 : Fl Tryz.prog 119 0 Z4w := ⟨by kernel_rfl, rfl⟩
theorem Z3v : Z2z Tryz.prog 85 = true := by kernel_rfl
theorem Zw : Ty Tryz.prog 85 Z3 := ⟨by kernel_rfl, by kernel_rfl⟩
theorem Zzi : Fl Tryz.prog 119 1 Zu6 := ⟨by kernel_rfl, rfl⟩
theorem ty4 : Ty Tryz.prog 4 Z7 := ⟨by kernel_rfl, by kernel_rfl⟩
theorem Zox : Fl Tryz.prog 119 2 Zim := ⟨by kernel_rfl, rfl⟩
theorem Zy5 : Fl Tryz.prog 119 3 Zqz := ⟨by kernel_rfl, rfl⟩
theorem Z59 : Z1c Tryz.prog 85 0 = some (lTern_0.off, Kd.sz Zd) := by kernel_rfl
theorem Z4k : Z1c Tryz.prog 85 1 = some (lTern_1.off, Kd.sz Zd) := by kernel_rfl
theorem Zci : Sl Tryz.prog 58 119 Z2f := ⟨by kernel_rfl, by kernel_rfl⟩
theorem Zgj : Ty Tryz.prog 119 Z2f := ⟨by kernel_rfl, by kernel_rfl⟩
theorem Yj6 : Zr Tryz.prog 119 Z2f Z7i := ⟨_, Zyr, by kernel_rfl⟩
theorem Z2h : Ar Tryz.prog 87 85 24 Z3 := ⟨by kernel_rfl, by kernel_rfl⟩
theorem Z45 : Fl Tryz.prog 42 0 lWide_0 := ⟨by kernel_rfl, rfl⟩
theorem Z1g : Ty Tryz.prog 40 Z0o := ⟨by kernel_rfl, by kernel_rfl⟩
theorem Z3z : Fl Tryz.prog 42 1 lWide_1 := ⟨by kernel_rfl, rfl⟩
theorem Z2n : Fl Tryz.prog 85 0 lTern_0 := ⟨by kernel_rfl, rfl⟩
theorem Z27 : Fl Tryz.prog 85 1 lTern_1 := ⟨by kernel_rfl, rfl⟩
theorem Zsa : Fl Tryz.prog 61 5 Zpc := ⟨by kernel_rfl, rfl⟩
theorem Zrz : Ty Tryz.prog 58 (Z2 Z2f) := ⟨by kernel_rfl, by kernel_rfl⟩
theorem Z40 : Ar Tryz.prog 101 85 24 Z3 := ⟨by kernel_rfl, by kernel_rfl⟩
theorem Zhe : Zr Tryz.prog 135 Z1r Zg0 := ⟨_, Yk8, by kernel_rfl⟩
theorem Zl3 : Fl Tryz.prog 135 1 lwalk_way_1 := ⟨by kernel_rfl, rfl⟩
theorem Z76 : Ty Tryz.prog 61 Z0n := ⟨by kernel_rfl, by kernel_rfl⟩
theorem Y0t : Z2z Tryz.prog 135 = true := by kernel_rfl
theorem Z3b : Ty Tryz.prog 135 Z1r := ⟨by kernel_rfl, by kernel_rfl⟩
theorem Zpz : Fl Tryz.prog 135 0 lwalk_way_0 := ⟨by kernel_rfl, rfl⟩
theorem Zww : Fl Tryz.prog 124 0 Zrv := ⟨by kernel_rfl, rfl⟩
theorem Zc6 : Sl Tryz.prog 59 124 Z1a := ⟨by kernel_rfl, by kernel_rfl⟩
theorem Z2k : Ty Tryz.prog 124 Z1a := ⟨by kernel_rfl, by kernel_rfl⟩
theorem Z0c : Sl Tryz.prog 122 121 Z8 := ⟨by kernel_rfl, by kernel_rfl⟩
theorem Z7u : El Tryz.prog 122 121 Z8 := ⟨by kernel_rfl, by kernel_rfl, by kernel_rfl, by kernel_rfl, by kernel_rfl⟩
theorem Z5v : Zr Tryz.prog 121 Z8 Znv := ⟨_, Yjj, by kernel_rfl⟩
theorem Z3t : Zr Tryz.prog 124 Z1a Ztp := ⟨_, Yd8, by kernel_rfl⟩
theorem Y0m : Z2z Tryz.prog 124 = true := by kernel_rfl
theorem Z90 : Fl Tryz.prog 124 4 Z81 := ⟨by kernel_rfl, rfl⟩
theorem Z3q : Ty Tryz.prog 122 (Z2 Z8) := ⟨by kernel_rfl, by kernel_rfl⟩
theorem Ygs : Zr Tryz.prog 367 (Z1 2 Z0o) (Vector.replicate 2 0) := ⟨_, (Z5o 2 Zmh), by kernel_rfl⟩
theorem Ztz : Ar Tryz.prog 367 40 2 Z0o := ⟨by kernel_rfl, by kernel_rfl⟩
theorem Z58 : Fl Tryz.prog 121 0 Z51 := ⟨by kernel_rfl, rfl⟩
theorem Z8s : Fl Tryz.prog 121 5 Z82 := ⟨by kernel_rfl, rfl⟩
theorem Zm7 : Fl Tryz.prog 346 0 latom_trace_o1_0 := ⟨by kernel_rfl, rfl⟩
theorem Zug : Z1c Tryz.prog 126 0 = some (lAtom_0.off, Kd.sz (Z1 24 Z3)) := by kernel_rfl
theorem Z5f : Zr Tryz.prog 126 Z0b Zrj := ⟨_, Y73, by kernel_rfl⟩
theorem Zom : Z2z Tryz.prog 126 = true := by kernel_rfl
theorem Zcc : Ty Tryz.prog 126 Z0b := ⟨by kernel_rfl, by kernel_rfl⟩
theorem Zjb : Fl Tryz.prog 121 1 Zhw := ⟨by kernel_rfl, rfl⟩
theorem Zjn : Fl Tryz.prog 126 2 lAtom_2 := ⟨by kernel_rfl, rfl⟩
theorem Zr8 : Fl Tryz.prog 121 2 Zob := ⟨by kernel_rfl, rfl⟩
theorem Ztw : Fl Tryz.prog 126 3 Znw := ⟨by kernel_rfl, rfl⟩
theorem Zr5 : Fl Tryz.prog 121 3 Zpk := ⟨by kernel_rfl, rfl⟩
theorem Y1q : Fl Tryz.prog 126 1 lAtom_1 := ⟨by kernel_rfl, rfl⟩
theorem Z0s : Ty Tryz.prog 121 Z8 := ⟨by kernel_rfl, by kernel_rfl⟩
theorem Zth : Fl Tryz.prog 346 1 Zj9 := ⟨by kernel_rfl, rfl⟩
theorem Zrn : Ty Tryz.prog 88 kraw := ⟨by kernel_rfl, by kernel_rfl⟩
theorem Z5r : Sl Tryz.prog 88 126 Z0b := ⟨by kernel_rfl, by kernel_rfl⟩
theorem Z8m : El Tryz.prog 88 126 Z0b := ⟨by kernel_rfl, by kernel_rfl, by kernel_rfl, by kernel_rfl, by kernel_rfl⟩
theorem Y6z : Z1c Tryz.prog 346 0 = some (latom_trace_o1_0.off, Kd.sz (Z1 24 Z3)) := by kernel_rfl
theorem Yh9 : Zr Tryz.prog 346 Z56 Zzz := ⟨_, Ycn, by kernel_rfl⟩
theorem Ygu : Z2z Tryz.prog 346 = true := by kernel_rfl
theorem Zlv : Fl Tryz.prog 135 2 Zfw := ⟨by kernel_rfl, rfl⟩
theorem Zaf : Ty Tryz.prog 88 (Z2 Z0b) := ⟨by kernel_rfl, by kernel_rfl⟩
theorem Zjf : Zr Tryz.prog 275 Z70 Zoz := ⟨_, Y7y, by kernel_rfl⟩
theorem Zwj : Z1c Tryz.prog 275 0 = some (laset_spot_0.off, Kd.sz (Z0 .i64)) := by kernel_rfl
theorem Y63 : Z1c Tryz.prog 275 1 = some (laset_spot_1.off, Kd.sz (Z0 .i64)) := by kernel_rfl
theorem Y2u : Z2z Tryz.prog 275 = true := by kernel_rfl
theorem Zgn : Ty Tryz.prog 275 Z70 := ⟨by kernel_rfl, by kernel_rfl⟩
theorem eqk3 : EqK Tryz.prog 1 3 (Z0 .i64) := Yhu (by kernel_rfl)
theorem Yd6 : EqK Tryz.prog 2 275 Z70 := Zrc (fun x y e => by cases x; cases y; simp only [Prod.mk.injEq] at e; simp [e]) (l := _) (by kernel_rfl) (by kernel_rfl) (Zn2 eqk3 Zt (Ztn eqk3 Zt))
theorem Ylq : Tryz.prog.eqGuardType Tryz.prog.depth 275 = false := by kernel_rfl
theorem Y1r : Fl Tryz.prog 275 0 laset_spot_0 := ⟨by kernel_rfl, rfl⟩
theorem Zp0 : Fl Tryz.prog 275 1 laset_spot_1 := ⟨by kernel_rfl, rfl⟩
theorem zr4 : Zr Tryz.prog 4 Z7 false := ⟨_, Zip, by kernel_rfl⟩
theorem Zo5 : Fl Tryz.prog 135 3 Zk3 := ⟨by kernel_rfl, rfl⟩
theorem Zu2 : Fl Tryz.prog 124 2 Zou := ⟨by kernel_rfl, rfl⟩
theorem Zt5 : Fl Tryz.prog 124 3 Zmm := ⟨by kernel_rfl, rfl⟩
theorem Z8r : Fl Tryz.prog 124 1 Z7t := ⟨by kernel_rfl, rfl⟩
theorem Z4n : Zr Tryz.prog 90 Z00 Zz3 := ⟨_, Y6j, by kernel_rfl⟩
theorem Zmd : Z1c Tryz.prog 90 0 = some (lRule_0.off, Kd.sz (Z1 24 Z3)) := by kernel_rfl
theorem Zm5 : Z1c Tryz.prog 90 1 = some (lRule_1.off, Kd.sz (Z2 Z0b)) := by kernel_rfl
theorem Zj7 : Z2z Tryz.prog 90 = true := by kernel_rfl
theorem Z8d : Ty Tryz.prog 90 Z00 := ⟨by kernel_rfl, by kernel_rfl⟩
theorem Zvj : Fl Tryz.prog 131 0 (Lens.fst Z0i kraw) := ⟨by kernel_rfl, rfl⟩
theorem Y2f (A : Z6) : Fl Tryz.prog 131 0 (Zt1 Z0i A) := ⟨Zvj.1, Zvj.2⟩
theorem Zeh : Fl Tryz.prog 26 0 Zav := ⟨by kernel_rfl, rfl⟩
theorem Zc1 : Ar Tryz.prog 23 22 4 (Z2 Z0n) := ⟨by kernel_rfl, by kernel_rfl⟩
theorem Zxl : Fl Tryz.prog 131 1 (Lens.snd Z0i kraw) := ⟨by kernel_rfl, rfl⟩
theorem Zxj (A : Z6) : Fl Tryz.prog 131 1 (Zsn Z0i A) := ⟨Zxl.1, Zxl.2⟩
theorem tyr92 : Ty Tryz.prog 92 kraw := ⟨by kernel_rfl, by kernel_rfl⟩
theorem Y2t (A : Z6) : Ty Tryz.prog 92 (kas A) := ⟨tyr92.sz, tyr92.ag⟩
theorem Zza : Zr Tryz.prog 61 Z0n Zry := ⟨_, Ygr, by kernel_rfl⟩
theorem Zbb : Fl Tryz.prog 61 6 Z9h := ⟨by kernel_rfl, rfl⟩
theorem Zbd : Ty Tryz.prog 59 (Z2 Z1a) := ⟨by kernel_rfl, by kernel_rfl⟩
theorem Z5t : Ty Tryz.prog 26 Z0i := ⟨by kernel_rfl, by kernel_rfl⟩
theorem Ycz : Zr Tryz.prog 131 (Z5 Z0i kraw) (Zta, .nilFunc) := ⟨_, Z0z Zyo (Zhm rfl), by kernel_rfl⟩
theorem Yb4 : Z1c Tryz.prog 135 0 = some (lwalk_way_0.off, Kd.sz (Z1 24 Z3)) := by kernel_rfl
theorem Y6a : Z1c Tryz.prog 135 1 = some (lwalk_way_1.off, Kd.sz (Z1 24 Z3)) := by kernel_rfl
theorem Z30 : Sl Tryz.prog 32 90 Z00 := ⟨by kernel_rfl, by kernel_rfl⟩
theorem Zj2 : El Tryz.prog 32 90 Z00 := ⟨by kernel_rfl, by kernel_rfl, by kernel_rfl, by kernel_rfl, by kernel_rfl⟩
theorem Ztk : Ty Tryz.prog 32 kraw := ⟨by kernel_rfl, by kernel_rfl⟩
theorem Yj9 : Ty Tryz.prog 23 (Z1 4 (Z2 Z0n)) := ⟨by kernel_rfl, by kernel_rfl⟩
theorem Yhr : Z2z Tryz.prog 121 = true := by kernel_rfl
theorem Zr3 : Fl Tryz.prog 90 1 lRule_1 := ⟨by kernel_rfl, rfl⟩
theorem Zfh : Fl Tryz.prog 90 0 lRule_0 := ⟨by kernel_rfl, rfl⟩
theorem Y14 : EqK Tryz.prog 1 40 Z0o := Yln (by kernel_rfl)
theorem Yls : EqK Tryz.prog 2 42 Zd := Zrc (fun x y e => by cases x; cases y; simp only [Prod.mk.injEq] at e; simp [e]) (l := _) (by kernel_rfl) (by kernel_rfl) (Zn2 Y14 Z1g (Ztn Y14 Z1g))
theorem Z72 : Sl Tryz.prog 162 226 Z26 := ⟨by kernel_rfl, by kernel_rfl⟩
theorem Yi6 : Ty Tryz.prog 226 Z26 := ⟨by kernel_rfl, by kernel_rfl⟩
theorem Zn1 : Fl Tryz.prog 226 3 Zkp := ⟨by kernel_rfl, rfl⟩
theorem Zb5 : Fl Tryz.prog 164 2 Z99 := ⟨by kernel_rfl, rfl⟩
theorem Zbv : Ty Tryz.prog 162 (Z2 Z26) := ⟨by kernel_rfl, by kernel_rfl⟩
theorem Z5y : Sl Tryz.prog 24 164 Z0d := ⟨by kernel_rfl, by kernel_rfl⟩
theorem Z6i : Ty Tryz.prog 164 Z0d := ⟨by kernel_rfl, by kernel_rfl⟩
theorem Zt7 : Fl Tryz.prog 26 1 Zmy := ⟨by kernel_rfl, rfl⟩
theorem Zh9 : Ty Tryz.prog 24 (Z2 Z0d) := ⟨by kernel_rfl, by kernel_rfl⟩
theorem Zqb : Z1c Tryz.prog 126 2 = some (lAtom_2.off, Kd.sz (Z0 .i64)) := by kernel_rfl
theorem Yh8 : Z1c Tryz.prog 126 1 = some (lAtom_1.off, Kd.sz Z7) := by kernel_rfl
theorem Y82 : Fl Tryz.prog 126 0 lAtom_0 := ⟨by kernel_rfl, rfl⟩
theorem Z4e : Sl Tryz.prog 229 87 (Z1 24 Z3) := ⟨by kernel_rfl, by kernel_rfl⟩
theorem Zp3 : El Tryz.prog 229 87 (Z1 24 Z3) := ⟨by kernel_rfl, by kernel_rfl, by kernel_rfl, by kernel_rfl, by kernel_rfl⟩
theorem Yd7 : Fl Tryz.prog 288 1 lcover_purse_1 := ⟨by kernel_rfl, rfl⟩
theorem Zqx : Fl Tryz.prog 288 0 lcover_purse_0 := ⟨by kernel_rfl, rfl⟩
theorem Z3n : Zr Tryz.prog 44 (Z1 24 Zd) (Vector.replicate 24 Z09) := ⟨_, (Z5o 24 Z7g), by kernel_rfl⟩
theorem Z0f : Ty Tryz.prog 44 (Z1 24 Zd) := ⟨by kernel_rfl, by kernel_rfl⟩
theorem Ybx : Zmw Tryz.prog 85 0 = some 42 := by kernel_rfl
theorem Zeu : Ar Tryz.prog 44 42 24 Zd := ⟨by kernel_rfl, by kernel_rfl⟩
theorem Yiu : (Tryz.prog.underlying 40).isSome = true := by kernel_rfl
theorem tyr286 : Ty Tryz.prog 286 kraw := ⟨by kernel_rfl, by kernel_rfl⟩
theorem Zwd (A : Z6) : Ty Tryz.prog 286 (kas A) := ⟨tyr286.sz, tyr286.ag⟩
theorem Y8e : Fl Tryz.prog 290 0 lcover_look_0 := ⟨by kernel_rfl, rfl⟩
theorem Zrf : Ty Tryz.prog 229 (Z2 (Z1 24 Z3)) := ⟨by kernel_rfl, by kernel_rfl⟩
theorem Yc7 : Z1c Tryz.prog 288 0 = some (lcover_purse_0.off, Kd.sz (Z0 .i64)) := by kernel_rfl
theorem Yie : Z1c Tryz.prog 288 1 = some (lcover_purse_1.off, Kd.sz Z7) := by kernel_rfl
theorem Y90 : Zr Tryz.prog 288 Z6f Ztd := ⟨_, Y4w, by kernel_rfl⟩
theorem Yfg : Z2z Tryz.prog 288 = true := by kernel_rfl
theorem Yjt : Z1c Tryz.prog 290 0 = some (lcover_look_0.off, Kd.sz Z6f) := by kernel_rfl
theorem Y9y : Zr Tryz.prog 290 Z24 Y2q := ⟨_, Yja, by kernel_rfl⟩
theorem Yct : Z2z Tryz.prog 290 = true := by kernel_rfl
theorem Y3l : Fl Tryz.prog 164 0 Zsx := ⟨by kernel_rfl, rfl⟩
theorem Y4d : El Tryz.prog 24 164 Z0d := ⟨by kernel_rfl, by kernel_rfl, by kernel_rfl, by kernel_rfl, by kernel_rfl⟩
theorem Zck : Zr Tryz.prog 164 Z0d Zph := ⟨_, Zz4, by kernel_rfl⟩
theorem Yhk : El Tryz.prog 162 226 Z26 := ⟨by kernel_rfl, by kernel_rfl, by kernel_rfl, by kernel_rfl, by kernel_rfl⟩
theorem Ygd : Zr Tryz.prog 226 Z26 Y4r := ⟨_, Yab, by kernel_rfl⟩
theorem Yic : Z2z Tryz.prog 164 = true := by kernel_rfl
theorem Zep : Zr Tryz.prog 73 Z91 Zxm := ⟨_, Yeo, by kernel_rfl⟩
theorem Zt2 : Z2z Tryz.prog 73 = true := by kernel_rfl
theorem Z6y : Ty Tryz.prog 73 Z91 := ⟨by kernel_rfl, by kernel_rfl⟩
theorem Y4u : Z1c Tryz.prog 73 0 = some (lFlat_0.off, Kd.sz (Z2 Z00)) := by kernel_rfl
theorem Ykx : Z1c Tryz.prog 73 1 = some (lFlat_1.off, Kd.sz (Z2 Z0d)) := by kernel_rfl
theorem Yan : Fl Tryz.prog 226 1 Zzt := ⟨by kernel_rfl, rfl⟩
theorem Ybe : Fl Tryz.prog 164 1 Y3x := ⟨by kernel_rfl, rfl⟩
theorem Zsu : Fl Tryz.prog 73 0 lFlat_0 := ⟨by kernel_rfl, rfl⟩
theorem Zt6 : Ty Tryz.prog 32 (Z2 Z00) := ⟨by kernel_rfl, by kernel_rfl⟩
theorem Ygk : Fl Tryz.prog 73 1 lFlat_1 := ⟨by kernel_rfl, rfl⟩
theorem Y8d : Fl Tryz.prog 39 0 Zw5 := ⟨by kernel_rfl, rfl⟩
theorem Y3o : Fl Tryz.prog 39 1 Zru := ⟨by kernel_rfl, rfl⟩
theorem Y17 : Ty Tryz.prog 37 (Z2 (Z0 .i64)) := ⟨by kernel_rfl, by kernel_rfl⟩
theorem Y21 : Fl Tryz.prog 328 0 lenv_world_0 := ⟨by kernel_rfl, rfl⟩
theorem Z6h : Ty Tryz.prog 39 Z1m := ⟨by kernel_rfl, by kernel_rfl⟩
theorem Zlo : Fl Tryz.prog 328 1 lenv_world_1 := ⟨by kernel_rfl, rfl⟩
theorem Y94 : Z1c Tryz.prog 328 0 = some (lenv_world_0.off, Kd.sz Z1m) := by kernel_rfl
theorem Yfd : Z1c Tryz.prog 328 1 = some (lenv_world_1.off, Kd.sz Z0d) := by kernel_rfl
theorem Zvl : Zr Tryz.prog 328 Zaa Y4n := ⟨_, Ybz, by kernel_rfl⟩
theorem Yb1 : Z2z Tryz.prog 328 = true := by kernel_rfl
theorem Y22 : Ty Tryz.prog 328 Zaa := ⟨by kernel_rfl, by kernel_rfl⟩
theorem Ygj : Fl Tryz.prog 237 1 lexec_run_o2_1 := ⟨by kernel_rfl, rfl⟩
theorem Zk8 : Fl Tryz.prog 237 4 Zhf := ⟨by kernel_rfl, rfl⟩
theorem Zfv : Fl Tryz.prog 237 3 lexec_run_o2_3 := ⟨by kernel_rfl, rfl⟩
theorem Yjv : Fl Tryz.prog 237 0 lexec_run_o2_0 := ⟨by kernel_rfl, rfl⟩
theorem Zpi : Fl Tryz.prog 237 2 Zgx := ⟨by kernel_rfl, rfl⟩
theorem Z6z : Ty Tryz.prog 46 kraw := ⟨by kernel_rfl, by kernel_rfl⟩
theorem Y0j : Z1c Tryz.prog 71 0 = some (lOut_0.off, Kd.sz (Z0 .i64)) := by kernel_rfl
theorem Zzr : Z1c Tryz.prog 71 1 = some (lOut_1.off, Kd.sz (Z0 .i64)) := by kernel_rfl
theorem Y02 : Z1c Tryz.prog 71 2 = some (lOut_2.off, Kd.sz (Z1 24 Zd)) := by kernel_rfl
theorem Zm9 : Zr Tryz.prog 71 Z08 Zwg := ⟨_, Yff, by kernel_rfl⟩
theorem Zx5 : Z2z Tryz.prog 71 = true := by kernel_rfl
theorem Zbp : Sl Tryz.prog 46 71 Z08 := ⟨by kernel_rfl, by kernel_rfl⟩
theorem Zov : El Tryz.prog 46 71 Z08 := ⟨by kernel_rfl, by kernel_rfl, by kernel_rfl, by kernel_rfl, by kernel_rfl⟩
theorem Zw6 : Z1c Tryz.prog 237 0 = some (lexec_run_o2_0.off, Kd.sz Z1m) := by kernel_rfl
theorem Y3m : Z1c Tryz.prog 237 1 = some (lexec_run_o2_1.off, Kd.sz (Z2 Z0d)) := by kernel_rfl
theorem Zw8 : Z1c Tryz.prog 237 3 = some (lexec_run_o2_3.off, Kd.sz (Z1 24 Zd)) := by kernel_rfl
theorem Zvs : Zr Tryz.prog 237 Z18 Y2e := ⟨_, Y9e, by kernel_rfl⟩
theorem Zxt : Z2z Tryz.prog 237 = true := by kernel_rfl
theorem Yki : Zr Tryz.prog 46 kraw (.slice none 0 0) := ⟨_, Zhm rfl, by kernel_rfl⟩
theorem Ylh : Zr Tryz.prog 39 Z1m Zjw := ⟨_, Zod, by kernel_rfl⟩
theorem Y96 : Z2z Tryz.prog 39 = true := by kernel_rfl
theorem Zsc : Fl Tryz.prog 144 0 lsem_packet_o4_5_0 := ⟨by kernel_rfl, rfl⟩
theorem Ym1 : Fl Tryz.prog 144 1 lsem_packet_o4_5_1 := ⟨by kernel_rfl, rfl⟩
theorem Ziz : Fl Tryz.prog 144 2 lsem_packet_o4_5_2 := ⟨by kernel_rfl, rfl⟩
theorem Zr0 : Fl Tryz.prog 144 4 Zic := ⟨by kernel_rfl, rfl⟩
theorem Zpo : Fl Tryz.prog 144 3 Zjl := ⟨by kernel_rfl, rfl⟩
theorem Zpd : Fl Tryz.prog 144 5 Zhx := ⟨by kernel_rfl, rfl⟩
theorem Zp8 : Ty Tryz.prog 49 kraw := ⟨by kernel_rfl, by kernel_rfl⟩
theorem Zyw : Z1c Tryz.prog 51 0 = some (lPlace_0.off, Kd.sz (Z0 .i64)) := by kernel_rfl
theorem Zwk : Z1c Tryz.prog 51 1 = some (lPlace_1.off, Kd.sz (Z0 .i64)) := by kernel_rfl
theorem Zo8 : Zr Tryz.prog 51 Z46 Y0a := ⟨_, Ybu, by kernel_rfl⟩
theorem Zzw : Z2z Tryz.prog 51 = true := by kernel_rfl
theorem Zzh : Sl Tryz.prog 49 51 Z46 := ⟨by kernel_rfl, by kernel_rfl⟩
theorem Y3p : El Tryz.prog 49 51 Z46 := ⟨by kernel_rfl, by kernel_rfl, by kernel_rfl, by kernel_rfl, by kernel_rfl⟩
theorem Ydu : Z1c Tryz.prog 144 0 = some (lsem_packet_o4_5_0.off, Kd.sz Z0i) := by kernel_rfl
theorem Ylt : Z1c Tryz.prog 144 1 = some (lsem_packet_o4_5_1.off, Kd.sz Z1m) := by kernel_rfl
theorem Ya0 : Z1c Tryz.prog 144 2 = some (lsem_packet_o4_5_2.off, Kd.sz (Z1 24 Zd)) := by kernel_rfl
theorem Yal : Zr Tryz.prog 144 Z1x Y49 := ⟨_, Ybb, by kernel_rfl⟩
theorem Ygg : Z2z Tryz.prog 144 = true := by kernel_rfl
theorem Y1i : Ty Tryz.prog 71 Z08 := ⟨by kernel_rfl, by kernel_rfl⟩
theorem Yl4 : EqK Tryz.prog 3 44 (Z1 24 Zd) := Yjg Yls Zu Zeu
theorem Ybp : EqK Tryz.prog 4 71 Z08 := Zrc (fun x y e => by cases x; cases y; simp only [Prod.mk.injEq] at e; simp [e]) (l := _) (by kernel_rfl) (by kernel_rfl) (Zn2 (eqk3.le (by decide)) Zt (Zn2 (eqk3.le (by decide)) Zt (Ztn Yl4 Z0f)))
theorem Y8n : Tryz.prog.eqGuardType Tryz.prog.depth 71 = false := by kernel_rfl
theorem Zx : Tryz.prog.follows .mixedOrders = true := by kernel_rfl
end Go.Proofs.YtknpgojdkobgjaaGreat.W
set_option maxRecDepth 4000
namespace Go.Proofs.YtknpgojdkobgjaaGreat.W
open Go Go.Wb
theorem Ztj : Ent Tryz.prog 341 := Ent.mk Tryz.func341 rfl rfl
theorem Znk : Ent Tryz.prog 302 := Ent.mk Tryz.func302 rfl rfl
theorem Yha : Ent Tryz.prog 333 := Ent.mk Tryz.func333 rfl rfl
theorem Y0q : Ent Tryz.prog 301 := Ent.mk Tryz.func301 rfl rfl
theorem Y5q : Ent Tryz.prog 258 := Ent.mk Tryz.func258 rfl rfl
def Zg8 : Option Z9 :=
 some (Vector.replicate 24 zTern)
theorem Y25 : Q0 Tryz.prog 73 (rd (Z1 24 Z3)) Zg8 := fun r h => I0 Tryz.func73 rfl Tryz.ntmps73 rfl fun w H => by
 unfold Zg8 at h
 refine SR <| Cv rfl (Zp 1 rfl rfl Z13) fun g1 => Nl <| SR <| Ac (Z1e (ps := []) (x := (Vector.replicate 24 zTern)) rfl rfl rfl (by kernel_rfl) Z13 rfl) rfl <| Zh Z01 1 rfl <| Nl <| rt ?_
 cases h; exact Zg Tryz.results73 rfl (Zz rfl (i := 1) rfl Z01)
def Za4 : Option Z9 :=
 some (Vector.replicate 24 zTern)
theorem Zsk : Q0 Tryz.prog 77 (rd (Z1 24 Z3)) Za4 := fun r h => I0 Tryz.func77 rfl Tryz.ntmps77 rfl fun w H => by
 unfold Za4 at h
 refine SR <| Cv rfl (Zp 1 rfl rfl Z3f) fun g1 => Nl <| SR <| Ac (Z1e (ps := []) (x := (Vector.replicate 24 zTern)) rfl rfl rfl (by kernel_rfl) Z3f rfl) rfl <| Zh Z02 1 rfl <| Nl <| rt ?_
 cases h; exact Zg Tryz.results77 rfl (Zz rfl (i := 1) rfl Z02)
def Zhd (i1 : Int) (j2 : Int) (x3 : (List Flow)) : Option Int :=
 (lget x3 i1).bind fun x4 => (lget x3 j2).bind fun x5 => (bif (decide (x4.Priority > x5.Priority)) then some (-1) else (lget x3 i1).bind fun x6 => (lget x3 j2).bind fun x7 => (bif (decide (x6.Priority < x7.Priority)) then some 1 else some 0))
theorem Ydq : Q3 Tryz.prog 201 (rd (Z0 .i64)) (rd (Z0 .i64)) (rp (Z2 Z0n)) (rd (Z0 .i64)) Zhd := fun i1 j2 x3 r h => I0 Tryz.func201 rfl Tryz.ntmps201 rfl fun w H => by
 unfold Zhd at h
 refine SR <| Ak rfl <| Nl <| sq <| bk <| sq ?_
 obtain ⟨x4, hx4, x5, hx5, h⟩ := bs2 h
 refine AR Zx (by kernel_rfl) <| SLp Z5c rfl <| Zq rfl <| Sd (lo [7, 8] [] rfl fun S hs hr => Z0q rfl rfl Z4q (vh hs 7 rfl rfl) (vh hs 8 rfl rfl) hx4) <| SFp Zcp Zf9 rfl <| SLp Zt rfl <| SLp Z5c rfl <| Zq rfl <| Sd (lo [12, 13] [] rfl fun S hs hr => Z0q rfl rfl Z4q (vh hs 12 rfl rfl) (vh hs 13 rfl rfl) hx5) <| SFp Zcp Zf9 rfl <| SLp Zt rfl <| Sd (lo [11, 16] [] rfl fun S hs hr => Z3i rfl rfl (vh hs 11 rfl rfl) (vh hs 16 rfl rfl)) <| SAs rfl <| Sn <| Cq rfl h (fun h => ?_) (fun h => ?_)
 ·refine SR <| Ak rfl <| Nl <| rt ?_
  cases h; exact Zg Tryz.results201 rfl (Z4 rfl)
 ·refine sq ?_
  obtain ⟨x6, hx6, x7, hx7, h⟩ := bs2 h
  refine AR Zx (by kernel_rfl) <| SLp Z5c rfl <| Zq rfl <| Sd (lo [19, 20] [] rfl fun S hs hr => Z0q rfl rfl Z4q (vh hs 19 rfl rfl) (vh hs 20 rfl rfl) hx6) <| SFp Zcp Zf9 rfl <| SLp Zt rfl <| SLp Z5c rfl <| Zq rfl <| Sd (lo [24, 25] [] rfl fun S hs hr => Z0q rfl rfl Z4q (vh hs 24 rfl rfl) (vh hs 25 rfl rfl) hx7) <| SFp Zcp Zf9 rfl <| SLp Zt rfl <| Sd (lo [23, 28] [] rfl fun S hs hr => Zn rfl rfl (vh hs 23 rfl rfl) (vh hs 28 rfl rfl)) <| SAs rfl <| Sn <| Cq rfl h (fun h => ?_) (fun h => ?_)
  ·refine SR <| Ak rfl <| Nl <| rt ?_
   cases h; exact Zg Tryz.results201 rfl (Z4 rfl)
  ·refine sk <| SR <| Ak rfl <| Nl <| rt ?_
   cases h; exact Zg Tryz.results201 rfl (Z4 rfl)
def Zdq (a3 : Int) (x5 : (Int → Int → Option Int)) (go1 : (List Int) → Int → Option (List Int)) (i9 : Int) : Nat → (List Int) → Int → Option (List Int)
 | 0, _, _ => none
 | m15 + 1, l13, j14 => (opt (decide (j14 > a3)) (lget l13 j14)).bind fun x16 => (opt (decide (j14 > a3)) (lget l13 (IntKind.i64.wrap (j14 - 1)))).bind fun x17 => (opt (decide (j14 > a3)) (x5 x16 x17)).bind fun x18 => (bif ((decide (j14 > a3)) && (decide (x18 < 0))) then (lget l13 (IntKind.i64.wrap (j14 - 1))).bind fun x19 => (lget l13 j14).bind fun x20 => (lget l13 j14).bind fun x21 => (lget (List.set l13 j14.toNat x19) (IntKind.i64.wrap (j14 - 1))).bind fun x22 => (Zdq a3 x5 go1 i9 m15) (List.set (List.set l13 j14.toNat x19) (IntKind.i64.wrap (j14 - 1)).toNat x20) (IntKind.i64.wrap (j14 - 1)) else go1 l13 (IntKind.i64.wrap (i9 + 1)))
def Za2 (b4 : Int) (a3 : Int) (x5 : (Int → Int → Option Int)) : Nat → (List Int) → Int → Option (List Int)
 | 0, _, _ => none
 | m10 + 1, l8, i9 => (bif (decide (i9 < b4)) then Zdq a3 x5 (Za2 b4 a3 x5 m10) i9 Z0l l8 i9 else some l8)
def Zfa (d1 : (List Int)) (a3 : Int) (b4 : Int) (x5 : (Int → Int → Option Int)) : Option (List Int) :=
 Za2 b4 a3 x5 (((b4 : Int) - (IntKind.i64.wrap (a3 + 1))).toNat + 1) d1 (IntKind.i64.wrap (a3 + 1))
theorem Zze (v2 : Value) (d1 : (List Int)) (a3 : Int) (b4 : Int) (x5 : (Int → Int → Option Int)) (r : (List Int)) (h : Zfa d1 a3 b4 x5 = some r) : Con Tryz.prog 301 [Zi v2, rd (Z0 .i64) a3, rd (Z0 .i64) b4, fn2 Tryz.prog (Z0 .i64) (Z0 .i64) (Z0 .i64) x5] (Zc v2 3 (Z0 .i64) d1) (fun _ : Unit => top) (fun _ => Zc v2 3 (Z0 .i64) r) := by
 refine Con.intro Tryz.func301 rfl Tryz.ntmps301 rfl fun w H X => ?_
 unfold Zfa at h
 refine SR <| Md rfl <| Ac (Z06 rfl rfl (vt rfl) (vk rfl)) rfl <| As rfl <| Nl <| bk <| LG (d := []) (ν := Nat × (List Int) × Int) (fun (m10, l8, i9) => (True ∧ Za2 b4 a3 x5 m10 l8 i9 = some r, m10, [(0, Zi v2), (1, rd (Z0 .i64) a3), (2, rd (Z0 .i64) b4), (3, fn2 Tryz.prog (Z0 .i64) (Z0 .i64) (Z0 .i64) x5), (8, rd (Z0 .i64) i9)], [(0, Zc v2 3 (Z0 .i64) l8)])) ((((b4 : Int) - (IntKind.i64.wrap (a3 + 1))).toNat + 1), d1, (IntKind.i64.wrap (a3 + 1))) ⟨trivial, h⟩ (FX rfl) ?_
 rintro ⟨m10, l8, i9⟩ ⟨hsf1, h⟩
 dsimp only at h ⊢
 cases m10 with
 | zero => cases h
 | succ m10 =>
  unfold Za2 at h
  refine sq <| SR <| Md rfl <| Md rfl <| Ac (Zn rfl rfl (vt rfl) (vt rfl)) rfl <| Nl <| Cq rfl h (fun h => ?_) (fun h => ?_)
  ·refine sk <| sq <| bk <| SR <| Md rfl <| As rfl <| Nl <| bk <| LG (d := []) (ν := Nat × (List Int) × Int) (fun (m15, l13, j14) => (True ∧ Zdq a3 x5 (Za2 b4 a3 x5 m10) i9 m15 l13 j14 = some r, m15, [(0, Zi v2), (1, rd (Z0 .i64) a3), (2, rd (Z0 .i64) b4), (3, fn2 Tryz.prog (Z0 .i64) (Z0 .i64) (Z0 .i64) x5), (8, rd (Z0 .i64) i9), (9, rd (Z0 .i64) j14)], [(0, Zc v2 3 (Z0 .i64) l13)])) (Z0l, l8, i9) ⟨trivial, h⟩ (FX rfl) ?_
   rintro ⟨m15, l13, j14⟩ ⟨hsf2, h⟩
   dsimp only at h ⊢
   cases m15 with
   | zero => cases h
   | succ m15 =>
    unfold Zdq at h
    refine sq <| sq ?_
    obtain ⟨x16, hx16, x17, hx17, x18, hx18, h⟩ := bs3 h
    refine AR Zx (by kernel_rfl) <| Zq rfl <| Zq rfl <| Sd (lo [18, 19] [] rfl fun S hs hr => Z3i rfl rfl (vh hs 18 rfl rfl) (vh hs 19 rfl rfl)) <| Zq rfl <| Sd (lg [3, 21] [] rfl fun hq S hs hr => Zs (A := fn2 Tryz.prog (Z0 .i64) (Z0 .i64) (Z0 .i64) x5) rfl rfl (vh hs 3 rfl rfl)) <| Sd (lg [0, 21] [] rfl fun hq S hs hr => Zs (A := Zi v2) rfl rfl (vh hs 0 rfl rfl)) <| Sd (lg [9, 21] [] rfl fun hq S hs hr => Zs (A := rd (Z0 .i64) j14) rfl rfl (vh hs 9 rfl rfl)) <| Sd (lg [23, 24, 21] [0] rfl fun hq S hs hr => Z21 0 rfl rfl Z0y (Zo ((hs 23 rfl).trans rfl) hq) ((hr 0 rfl).trans rfl) (Zo ((hs 24 rfl).trans rfl) hq) (Z28 hx16 hq)) <| Sd (lg [25, 21] [0] rfl fun hq S hs hr => Z1i 0 rfl rfl Zt (Zo ((hs 25 rfl).trans rfl) hq) ((hr 0 rfl).trans rfl) (Z0e (Z28 hx16 hq)).2) <| Sd (lg [0, 21] [] rfl fun hq S hs hr => Zs (A := Zi v2) rfl rfl (vh hs 0 rfl rfl)) <| Sd (lg [9, 21] [] rfl fun hq S hs hr => Zs (A := rd (Z0 .i64) j14) rfl rfl (vh hs 9 rfl rfl)) <| Sd (lg [28, 21] [] rfl fun hq S hs hr => Z0p rfl rfl (Zo ((hs 28 rfl).trans rfl) hq) (vk rfl)) <| Sd (lg [27, 29, 21] [0] rfl fun hq S hs hr => Z21 0 rfl rfl Z0y (Zo ((hs 27 rfl).trans rfl) hq) ((hr 0 rfl).trans rfl) (Zo ((hs 29 rfl).trans rfl) hq) (Z28 hx17 hq)) <| Sd (lg [30, 21] [0] rfl fun hq S hs hr => Z1i 0 rfl rfl Zt (Zo ((hs 30 rfl).trans rfl) hq) ((hr 0 rfl).trans rfl) (Z0e (Z28 hx17 hq)).2) <| Sd (lg [22, 26, 31, 21] [] rfl fun hq S hs hr => Za7 (Z28 hx18 hq) rfl rfl (Zo ((hs 22 rfl).trans rfl) hq) (Zo ((hs 26 rfl).trans rfl) hq) (Zo ((hs 31 rfl).trans rfl) hq)) <| Sd (lg [32, 21] [] rfl fun hq S hs hr => Zn rfl rfl (Zo ((hs 32 rfl).trans rfl) hq) (vk rfl)) <| Sd (lo [33, 21] [] rfl fun S hs hr => Z1t rfl rfl (vh hs 21 rfl rfl) (vh hs 33 rfl rfl)) <| Sn <| Cq rfl h (fun h => ?_) (fun h => ?_)
    ·refine sk <| sq <| bk <| AW.vlen 0 rfl fun hvl0_266 => ?_
     obtain ⟨x19, hx19, x20, hx20, x21, hx21, x22, hx22, h⟩ := bs4 h
     refine AR Zx (by kernel_rfl) <| SMw rfl <| Zq rfl <| SMw rfl <| Zq rfl <| Sd (lo [40] [] rfl fun S hs hr => Z0p rfl rfl (vh hs 40 rfl rfl) (vk rfl)) <| SMw rfl <| Zq rfl <| Sd (lo [43] [] rfl fun S hs hr => Z0p rfl rfl (vh hs 43 rfl rfl) (vk rfl)) <| Sd (lo [42, 44] [] rfl fun S hs hr => Z2c (l := l13) hvl0_266 rfl rfl rfl Z0y (vh hs 42 rfl rfl) (vh hs 44 rfl rfl) hx19) <| Sd (lo [45] [0] rfl fun S hs hr => Z1i 0 rfl rfl Zt (vh hs 45 rfl rfl) ((hr 0 rfl).trans rfl) (Z0e hx19).2) <| SMw rfl <| Zq rfl <| Sd (lo [47, 48] [] rfl fun S hs hr => Z2c (l := l13) hvl0_266 rfl rfl rfl Z0y (vh hs 47 rfl rfl) (vh hs 48 rfl rfl) hx20) <| Sd (lo [49] [0] rfl fun S hs hr => Z1i 0 rfl rfl Zt (vh hs 49 rfl rfl) ((hr 0 rfl).trans rfl) (Z0e hx20).2) <| Sd (lo [37, 38] [] rfl fun S hs hr => Z2c (l := l13) hvl0_266 rfl rfl rfl Z0y (vh hs 37 rfl rfl) (vh hs 38 rfl rfl) hx21) <| Sd (Z44 [51, 46] [0] rfl fun S hs hr => Z2o 0 rfl rfl Zt (vh hs 51 rfl rfl) ((hr 0 rfl).trans rfl) (Z0e hx21).2 (vh hs 46 rfl rfl)) <| Sd (lo [39, 41] [] rfl fun S hs hr => Z2c (l := (List.set l13 j14.toNat x19)) hvl0_266 (by simp) rfl rfl Z0y (vh hs 39 rfl rfl) (vh hs 41 rfl rfl) hx22) <| Sd (Z44 [52, 50] [0] rfl fun S hs hr => Z2o 0 rfl rfl Zt (vh hs 52 rfl rfl) ((hr 0 rfl).trans rfl) (Z0e hx22).2 (vh hs 50 rfl rfl)) <| Sn <| Rg <| Md rfl <| Ac (Z0p rfl rfl (vt rfl) (vk rfl)) rfl <| As rfl <| Nl ?_
     exact ⟨(_, _, _), Nat.lt_succ_self _, ⟨trivial, h⟩, FX rfl⟩
    ·refine xt <| Rg <| Md rfl <| Ac (Z06 rfl rfl (vt rfl) (vk rfl)) rfl <| As rfl <| Nl ?_
     exact ⟨(_, _, _), Nat.lt_succ_self _, ⟨trivial, h⟩, FX rfl⟩
  ·refine xt ?_
   cases h; exact Z20 (i := 0) Tryz.results301 rfl rfl
def Zpl (n5 : Int) (b4 : Int) (a3 : Int) : Nat → (List Int) → Int → Option (List Int)
 | 0, _, _ => none
 | m11 + 1, l9, i10 => (bif (decide (i10 < n5)) then (lget l9 (IntKind.i64.wrap (b4 + i10))).bind fun x12 => (lget l9 (IntKind.i64.wrap (a3 + i10))).bind fun x13 => (lget l9 (IntKind.i64.wrap (a3 + i10))).bind fun x14 => (lget (List.set l9 (IntKind.i64.wrap (a3 + i10)).toNat x12) (IntKind.i64.wrap (b4 + i10))).bind fun x15 => (Zpl n5 b4 a3 m11) (List.set (List.set l9 (IntKind.i64.wrap (a3 + i10)).toNat x12) (IntKind.i64.wrap (b4 + i10)).toNat x13) (IntKind.i64.wrap (i10 + 1)) else some l9)
def Zlm (d1 : (List Int)) (a3 : Int) (b4 : Int) (n5 : Int) (x6 : (Int → Int → Option Int)) : Option (List Int) :=
 Zpl n5 b4 a3 (((n5 : Int) - 0).toNat + 1) d1 0
theorem Zsw (v2 : Value) (d1 : (List Int)) (a3 : Int) (b4 : Int) (n5 : Int) (x6 : (Int → Int → Option Int)) (r : (List Int)) (h : Zlm d1 a3 b4 n5 x6 = some r) : Con Tryz.prog 341 [Zi v2, rd (Z0 .i64) a3, rd (Z0 .i64) b4, rd (Z0 .i64) n5, fn2 Tryz.prog (Z0 .i64) (Z0 .i64) (Z0 .i64) x6] (Zc v2 3 (Z0 .i64) d1) (fun _ : Unit => top) (fun _ => Zc v2 3 (Z0 .i64) r) := by
 refine Con.intro Tryz.func341 rfl Tryz.ntmps341 rfl fun w H X => ?_
 unfold Zlm at h
 refine SR <| Ak rfl <| Nl <| bk <| LG (d := []) (ν := Nat × (List Int) × Int) (fun (m11, l9, i10) => (True ∧ Zpl n5 b4 a3 m11 l9 i10 = some r, m11, [(0, Zi v2), (1, rd (Z0 .i64) a3), (2, rd (Z0 .i64) b4), (3, rd (Z0 .i64) n5), (10, rd (Z0 .i64) i10)], [(0, Zc v2 3 (Z0 .i64) l9)])) ((((n5 : Int) - 0).toNat + 1), d1, 0) ⟨trivial, h⟩ (FX rfl) ?_
 rintro ⟨m11, l9, i10⟩ ⟨hsf1, h⟩
 dsimp only at h ⊢
 cases m11 with
 | zero => cases h
 | succ m11 =>
  unfold Zpl at h
  refine sq <| SR <| Md rfl <| Md rfl <| Ac (Zn rfl rfl (vt rfl) (vt rfl)) rfl <| Nl <| Cq rfl h (fun h => ?_) (fun h => ?_)
  ·refine sk <| sq <| bk <| AW.vlen 0 rfl fun hvl0_123 => ?_
   obtain ⟨x12, hx12, x13, hx13, x14, hx14, x15, hx15, h⟩ := bs4 h
   refine AR Zx (by kernel_rfl) <| SMw rfl <| Zq rfl <| Zq rfl <| Sd (lo [17, 18] [] rfl fun S hs hr => Z06 rfl rfl (vh hs 17 rfl rfl) (vh hs 18 rfl rfl)) <| SMw rfl <| Zq rfl <| Zq rfl <| Sd (lo [21, 22] [] rfl fun S hs hr => Z06 rfl rfl (vh hs 21 rfl rfl) (vh hs 22 rfl rfl)) <| SMw rfl <| Zq rfl <| Zq rfl <| Sd (lo [25, 26] [] rfl fun S hs hr => Z06 rfl rfl (vh hs 25 rfl rfl) (vh hs 26 rfl rfl)) <| Sd (lo [24, 27] [] rfl fun S hs hr => Z2c (l := l9) hvl0_123 rfl rfl rfl Z0y (vh hs 24 rfl rfl) (vh hs 27 rfl rfl) hx12) <| Sd (lo [28] [0] rfl fun S hs hr => Z1i 0 rfl rfl Zt (vh hs 28 rfl rfl) ((hr 0 rfl).trans rfl) (Z0e hx12).2) <| SMw rfl <| Zq rfl <| Zq rfl <| Sd (lo [31, 32] [] rfl fun S hs hr => Z06 rfl rfl (vh hs 31 rfl rfl) (vh hs 32 rfl rfl)) <| Sd (lo [30, 33] [] rfl fun S hs hr => Z2c (l := l9) hvl0_123 rfl rfl rfl Z0y (vh hs 30 rfl rfl) (vh hs 33 rfl rfl) hx13) <| Sd (lo [34] [0] rfl fun S hs hr => Z1i 0 rfl rfl Zt (vh hs 34 rfl rfl) ((hr 0 rfl).trans rfl) (Z0e hx13).2) <| Sd (lo [16, 19] [] rfl fun S hs hr => Z2c (l := l9) hvl0_123 rfl rfl rfl Z0y (vh hs 16 rfl rfl) (vh hs 19 rfl rfl) hx14) <| Sd (Z44 [36, 29] [0] rfl fun S hs hr => Z2o 0 rfl rfl Zt (vh hs 36 rfl rfl) ((hr 0 rfl).trans rfl) (Z0e hx14).2 (vh hs 29 rfl rfl)) <| Sd (lo [20, 23] [] rfl fun S hs hr => Z2c (l := (List.set l9 (IntKind.i64.wrap (a3 + i10)).toNat x12)) hvl0_123 (by simp) rfl rfl Z0y (vh hs 20 rfl rfl) (vh hs 23 rfl rfl) hx15) <| Sd (Z44 [37, 35] [0] rfl fun S hs hr => Z2o 0 rfl rfl Zt (vh hs 37 rfl rfl) ((hr 0 rfl).trans rfl) (Z0e hx15).2 (vh hs 35 rfl rfl)) <| Sn <| Rg <| Md rfl <| Ac (Z06 rfl rfl (vt rfl) (vk rfl)) rfl <| As rfl <| Nl ?_
   exact ⟨(_, _, _), Nat.lt_succ_self _, ⟨trivial, h⟩, FX rfl⟩
  ·refine xt ?_
   cases h; exact Z20 (i := 0) Tryz.results341 rfl rfl
def Zjd (m4 : Int) (x6 : (Int → Int → Option Int)) : Nat → (List Int) → Int → Int → Option (List Int)
 | 0, _, _, _ => none
 | m13 + 1, l10, i11, j12 => (bif (decide (i11 ≠ j12)) then (bif (decide (i11 > j12)) then (Zlm l10 (IntKind.i64.wrap (m4 - i11)) m4 j12 x6).bind fun l14 => (Zjd m4 x6 m13) l14 (IntKind.i64.wrap (i11 - j12)) j12 else (Zlm l10 (IntKind.i64.wrap (m4 - i11)) (IntKind.i64.wrap ((IntKind.i64.wrap (m4 + j12)) - i11)) i11 x6).bind fun l15 => (Zjd m4 x6 m13) l15 i11 (IntKind.i64.wrap (j12 - i11))) else (Zlm l10 (IntKind.i64.wrap (m4 - i11)) m4 i11 x6).bind fun l16 => some l16)
def Zqy (d1 : (List Int)) (a3 : Int) (m4 : Int) (b5 : Int) (x6 : (Int → Int → Option Int)) : Option (List Int) :=
 Zjd m4 x6 Z0l d1 (IntKind.i64.wrap (m4 - a3)) (IntKind.i64.wrap (b5 - m4))
theorem Yei (v2 : Value) (d1 : (List Int)) (a3 : Int) (m4 : Int) (b5 : Int) (x6 : (Int → Int → Option Int)) (r : (List Int)) (h : Zqy d1 a3 m4 b5 x6 = some r) : Con Tryz.prog 333 [Zi v2, rd (Z0 .i64) a3, rd (Z0 .i64) m4, rd (Z0 .i64) b5, fn2 Tryz.prog (Z0 .i64) (Z0 .i64) (Z0 .i64) x6] (Zc v2 3 (Z0 .i64) d1) (fun _ : Unit => top) (fun _ => Zc v2 3 (Z0 .i64) r) := by
 refine Con.intro Tryz.func333 rfl Tryz.ntmps333 rfl fun w H X => ?_
 unfold Zqy at h
 refine SR <| Md rfl <| Md rfl <| Ac (Z0p rfl rfl (vt rfl) (vt rfl)) rfl <| As rfl <| Nl <| SR <| Md rfl <| Md rfl <| Ac (Z0p rfl rfl (vt rfl) (vt rfl)) rfl <| As rfl <| Nl <| sq <| bk <| LG (d := []) (ν := Nat × (List Int) × Int × Int) (fun (m13, l10, i11, j12) => (True ∧ Zjd m4 x6 m13 l10 i11 j12 = some r, m13, [(0, Zi v2), (2, rd (Z0 .i64) m4), (4, fn2 Tryz.prog (Z0 .i64) (Z0 .i64) (Z0 .i64) x6), (10, rd (Z0 .i64) i11), (11, rd (Z0 .i64) j12)], [(0, Zc v2 3 (Z0 .i64) l10)])) (Z0l, d1, (IntKind.i64.wrap (m4 - a3)), (IntKind.i64.wrap (b5 - m4))) ⟨trivial, h⟩ (FX rfl) ?_
 rintro ⟨m13, l10, i11, j12⟩ ⟨hsf1, h⟩
 dsimp only at h ⊢
 cases m13 with
 | zero => cases h
 | succ m13 =>
  unfold Zjd at h
  refine sq <| SR <| Md rfl <| Md rfl <| Ac (Zbr rfl rfl (vt rfl) (vt rfl)) rfl <| Nl <| Cq rfl h (fun h => ?_) (fun h => ?_)
  ·refine sk <| bk <| SR <| Md rfl <| Md rfl <| Ac (Z3i rfl rfl (vt rfl) (vt rfl)) rfl <| Nl <| Cq rfl h (fun h => ?_) (fun h => ?_)
   ·refine sq ?_
    obtain ⟨l14, hl14, h⟩ := Za h
    refine Rg <| Mw rfl <| Md rfl <| Md rfl <| Ac (Z0p rfl rfl (vt rfl) (vt rfl)) rfl <| Md rfl <| Md rfl <| Ac (Zs (A := fn2 Tryz.prog (Z0 .i64) (Z0 .i64) (Z0 .i64) x6) rfl rfl (vt rfl)) rfl <| Cv rfl (Z1b 0 (xs := [.tmp 24, .tmp 27, .tmp 28, .tmp 29, .tmp 30]) (Zsw _ _ _ _ _ _ _ hl14) Ztj rfl rfl ⟨vt rfl, vt rfl, vt rfl, vt rfl, vt rfl, trivial⟩ rfl) fun _u => Nl <| Rg <| Md rfl <| Md rfl <| Ac (Z0p rfl rfl (vt rfl) (vt rfl)) rfl <| As rfl <| Nl ?_
    exact ⟨(_, _, _, _), Nat.lt_succ_self _, ⟨trivial, h⟩, FX rfl⟩
   ·refine sq ?_
    obtain ⟨l15, hl15, h⟩ := Za h
    refine Rg <| Mw rfl <| Md rfl <| Md rfl <| Ac (Z0p rfl rfl (vt rfl) (vt rfl)) rfl <| Md rfl <| Md rfl <| Ac (Z06 rfl rfl (vt rfl) (vt rfl)) rfl <| Md rfl <| Ac (Z0p rfl rfl (vt rfl) (vt rfl)) rfl <| Md rfl <| Ac (Zs (A := fn2 Tryz.prog (Z0 .i64) (Z0 .i64) (Z0 .i64) x6) rfl rfl (vt rfl)) rfl <| Cv rfl (Z1b 0 (xs := [.tmp 35, .tmp 38, .tmp 43, .tmp 44, .tmp 45]) (Zsw _ _ _ _ _ _ _ hl15) Ztj rfl rfl ⟨vt rfl, vt rfl, vt rfl, vt rfl, vt rfl, trivial⟩ rfl) fun _u => Nl <| Rg <| Md rfl <| Md rfl <| Ac (Z0p rfl rfl (vt rfl) (vt rfl)) rfl <| As rfl <| Nl ?_
    exact ⟨(_, _, _, _), Nat.lt_succ_self _, ⟨trivial, h⟩, FX rfl⟩
  ·refine xt ?_
   obtain ⟨l16, hl16, h⟩ := Za h
   refine Rg <| Mw rfl <| Md rfl <| Md rfl <| Ac (Z0p rfl rfl (vt rfl) (vt rfl)) rfl <| Md rfl <| Md rfl <| Ac (Zs (A := fn2 Tryz.prog (Z0 .i64) (Z0 .i64) (Z0 .i64) x6) rfl rfl (vt rfl)) rfl <| Cv rfl (Z1b 0 (xs := [.tmp 50, .tmp 53, .tmp 54, .tmp 55, .tmp 56]) (Zsw _ _ _ _ _ _ _ hl16) Ztj rfl rfl ⟨vt rfl, vt rfl, vt rfl, vt rfl, vt rfl, trivial⟩ rfl) fun _u => Nl ?_
   cases h; exact Z20 (i := 0) Tryz.results333 rfl rfl
def Zpa (i9 : Int) : Nat → (List Int) → Int → Option (List Int)
 | 0, _, _ => none
 | m20 + 1, l18, k19 => (bif (decide (k19 < (IntKind.i64.wrap (i9 - 1)))) then (lget l18 (IntKind.i64.wrap (k19 + 1))).bind fun x21 => (lget l18 k19).bind fun x22 => (lget l18 k19).bind fun x23 => (lget (List.set l18 k19.toNat x21) (IntKind.i64.wrap (k19 + 1))).bind fun x24 => (Zpa i9 m20) (List.set (List.set l18 k19.toNat x21) (IntKind.i64.wrap (k19 + 1)).toNat x22) (IntKind.i64.wrap (k19 + 1)) else some l18)
def Zjx (d1 : (List Int)) (a3 : Int) (x6 : (Int → Int → Option Int)) : Nat → Int → Int → Option (List Int)
 | 0, _, _ => none
 | m11 + 1, i9, j10 => (bif (decide (i9 < j10)) then (Z3g (BitVec.ofInt 64 (IntKind.i64.wrap (i9 + j10))) ((1 : BitVec 64).toNat : Int)).bind fun q12 => (lget d1 (IntKind.i64.wrap (q12.toNat : Int))).bind fun x13 => (lget d1 a3).bind fun x14 => (x6 x13 x14).bind fun x15 => (bif (decide (x15 < 0)) then (Zjx d1 a3 x6 m11) (IntKind.i64.wrap ((IntKind.i64.wrap (q12.toNat : Int)) + 1)) j10 else (Zjx d1 a3 x6 m11) i9 (IntKind.i64.wrap (q12.toNat : Int))) else Zpa i9 ((((IntKind.i64.wrap (i9 - 1)) : Int) - a3).toNat + 1) d1 a3)
def Zm8 (i27 : Int) : Nat → (List Int) → Int → Option (List Int)
 | 0, _, _ => none
 | m38 + 1, l36, k37 => (bif (decide (k37 > i27)) then (lget l36 (IntKind.i64.wrap (k37 - 1))).bind fun x39 => (lget l36 k37).bind fun x40 => (lget l36 k37).bind fun x41 => (lget (List.set l36 k37.toNat x39) (IntKind.i64.wrap (k37 - 1))).bind fun x42 => (Zm8 i27 m38) (List.set (List.set l36 k37.toNat x39) (IntKind.i64.wrap (k37 - 1)).toNat x40) (IntKind.i64.wrap (k37 - 1)) else some l36)
def Zlu (d1 : (List Int)) (m4 : Int) (x6 : (Int → Int → Option Int)) : Nat → Int → Int → Option (List Int)
 | 0, _, _ => none
 | m29 + 1, i27, j28 => (bif (decide (i27 < j28)) then (Z3g (BitVec.ofInt 64 (IntKind.i64.wrap (i27 + j28))) ((1 : BitVec 64).toNat : Int)).bind fun q30 => (lget d1 m4).bind fun x31 => (lget d1 (IntKind.i64.wrap (q30.toNat : Int))).bind fun x32 => (x6 x31 x32).bind fun x33 => (bif (!(decide (x33 < 0))) then (Zlu d1 m4 x6 m29) (IntKind.i64.wrap ((IntKind.i64.wrap (q30.toNat : Int)) + 1)) j28 else (Zlu d1 m4 x6 m29) i27 (IntKind.i64.wrap (q30.toNat : Int))) else Zm8 i27 (((m4 : Int) - i27).toNat + 1) d1 m4)
def Zn0 (q43 : (BitVec 64)) (m4 : Int) (s48 : Int) (b5 : Int) (R_slices_symMergeCmpFunc_int : ((List Int) → Int → Int → Int → (Int → Int → Option Int) → Option (List Int))) (x6 : (Int → Int → Option Int)) (l56 : (List Int)) : Option (List Int) :=
 (bif ((decide ((IntKind.i64.wrap (q43.toNat : Int)) < (IntKind.i64.wrap ((IntKind.i64.wrap ((IntKind.i64.wrap (q43.toNat : Int)) + m4)) - s48)))) && (decide ((IntKind.i64.wrap ((IntKind.i64.wrap ((IntKind.i64.wrap (q43.toNat : Int)) + m4)) - s48)) < b5))) then (R_slices_symMergeCmpFunc_int l56 (IntKind.i64.wrap (q43.toNat : Int)) (IntKind.i64.wrap ((IntKind.i64.wrap ((IntKind.i64.wrap (q43.toNat : Int)) + m4)) - s48)) b5 x6).bind fun l57 => some l57 else some l56)
def Zpm (a3 : Int) (s48 : Int) (q43 : (BitVec 64)) (R_slices_symMergeCmpFunc_int : ((List Int) → Int → Int → Int → (Int → Int → Option Int) → Option (List Int))) (x6 : (Int → Int → Option Int)) (m4 : Int) (b5 : Int) (l55 : (List Int)) : Option (List Int) :=
 (bif ((decide (a3 < s48)) && (decide (s48 < (IntKind.i64.wrap (q43.toNat : Int))))) then (R_slices_symMergeCmpFunc_int l55 a3 s48 (IntKind.i64.wrap (q43.toNat : Int)) x6).bind fun l58 => Zn0 q43 m4 s48 b5 R_slices_symMergeCmpFunc_int x6 l58 else Zn0 q43 m4 s48 b5 R_slices_symMergeCmpFunc_int x6 l55)
def Zkj (d1 : (List Int)) (q43 : (BitVec 64)) (m4 : Int) (x6 : (Int → Int → Option Int)) (a3 : Int) (R_slices_symMergeCmpFunc_int : ((List Int) → Int → Int → Int → (Int → Int → Option Int) → Option (List Int))) (b5 : Int) : Nat → Int → Int → Option (List Int)
 | 0, _, _ => none
 | m50 + 1, s48, x49 => (bif (decide (s48 < x49)) then (Z3g (BitVec.ofInt 64 (IntKind.i64.wrap (s48 + x49))) ((1 : BitVec 64).toNat : Int)).bind fun q51 => (lget d1 (IntKind.i64.wrap ((IntKind.i64.wrap ((IntKind.i64.wrap ((IntKind.i64.wrap (q43.toNat : Int)) + m4)) - 1)) - (IntKind.i64.wrap (q51.toNat : Int))))).bind fun x52 => (lget d1 (IntKind.i64.wrap (q51.toNat : Int))).bind fun x53 => (x6 x52 x53).bind fun x54 => (bif (!(decide (x54 < 0))) then (Zkj d1 q43 m4 x6 a3 R_slices_symMergeCmpFunc_int b5 m50) (IntKind.i64.wrap ((IntKind.i64.wrap (q51.toNat : Int)) + 1)) x49 else (Zkj d1 q43 m4 x6 a3 R_slices_symMergeCmpFunc_int b5 m50) s48 (IntKind.i64.wrap (q51.toNat : Int))) else (bif ((decide (s48 < m4)) && (decide (m4 < (IntKind.i64.wrap ((IntKind.i64.wrap ((IntKind.i64.wrap (q43.toNat : Int)) + m4)) - s48))))) then (Zqy d1 s48 m4 (IntKind.i64.wrap ((IntKind.i64.wrap ((IntKind.i64.wrap (q43.toNat : Int)) + m4)) - s48)) x6).bind fun l59 => Zpm a3 s48 q43 R_slices_symMergeCmpFunc_int x6 m4 b5 l59 else Zpm a3 s48 q43 R_slices_symMergeCmpFunc_int x6 m4 b5 d1))
def Znl (d1 : (List Int)) (q43 : (BitVec 64)) (m4 : Int) (x6 : (Int → Int → Option Int)) (a3 : Int) (R_slices_symMergeCmpFunc_int : ((List Int) → Int → Int → Int → (Int → Int → Option Int) → Option (List Int))) (b5 : Int) (s44 : Int) (x45 : Int) : Option (List Int) :=
 Zkj d1 q43 m4 x6 a3 R_slices_symMergeCmpFunc_int b5 (((x45 : Int) - s44).toNat + 1) s44 x45
def Zql (R_slices_symMergeCmpFunc_int : ((List Int) → Int → Int → Int → (Int → Int → Option Int) → Option (List Int))) (d1 : (List Int)) (a3 : Int) (m4 : Int) (b5 : Int) (x6 : (Int → Int → Option Int)) : Option (List Int) :=
 (bif (decide ((IntKind.i64.wrap (m4 - a3)) = 1)) then Zjx d1 a3 x6 (((b5 : Int) - m4).toNat + 1) m4 b5 else (bif (decide ((IntKind.i64.wrap (b5 - m4)) = 1)) then Zlu d1 m4 x6 (((m4 : Int) - a3).toNat + 1) a3 m4 else (Z3g (BitVec.ofInt 64 (IntKind.i64.wrap (a3 + b5))) ((1 : BitVec 64).toNat : Int)).bind fun q43 => (bif (decide (m4 > (IntKind.i64.wrap (q43.toNat : Int)))) then Znl d1 q43 m4 x6 a3 R_slices_symMergeCmpFunc_int b5 (IntKind.i64.wrap ((IntKind.i64.wrap ((IntKind.i64.wrap (q43.toNat : Int)) + m4)) - b5)) (IntKind.i64.wrap (q43.toNat : Int)) else Znl d1 q43 m4 x6 a3 R_slices_symMergeCmpFunc_int b5 a3 m4)))
theorem Ykp (R_slices_symMergeCmpFunc_int : ((List Int) → Int → Int → Int → (Int → Int → Option Int) → Option (List Int))) (hR_slices_symMergeCmpFunc_int : ∀ (v2 : Value) (d1 : (List Int)) (a3 : Int) (m4 : Int) (b5 : Int) (x6 : (Int → Int → Option Int)) (r : (List Int)), R_slices_symMergeCmpFunc_int d1 a3 m4 b5 x6 = some r → Con Tryz.prog 302 [Zi v2, rd (Z0 .i64) a3, rd (Z0 .i64) m4, rd (Z0 .i64) b5, fn2 Tryz.prog (Z0 .i64) (Z0 .i64) (Z0 .i64) x6] (Zc v2 3 (Z0 .i64) d1) (fun _ : Unit => top) (fun _ => Zc v2 3 (Z0 .i64) r)) (v2 : Value) (d1 : (List Int)) (a3 : Int) (m4 : Int) (b5 : Int) (x6 : (Int → Int → Option Int)) (r : (List Int)) (h : Zql R_slices_symMergeCmpFunc_int d1 a3 m4 b5 x6 = some r) : Con Tryz.prog 302 [Zi v2, rd (Z0 .i64) a3, rd (Z0 .i64) m4, rd (Z0 .i64) b5, fn2 Tryz.prog (Z0 .i64) (Z0 .i64) (Z0 .i64) x6] (Zc v2 3 (Z0 .i64) d1) (fun _ : Unit => top) (fun _ => Zc v2 3 (Z0 .i64) r) := by
 refine Con.intro Tryz.func302 rfl Tryz.ntmps302 rfl fun w H X => ?_
 unfold Zql at h
 refine sq <| SR <| Md rfl <| Md rfl <| Ac (Z0p rfl rfl (vt rfl) (vt rfl)) rfl <| Ac (Z0m rfl rfl (vt rfl) (vk rfl)) rfl <| Nl <| Cq rfl h (fun h => ?_) (fun h => ?_)
 ·refine SR <| Md rfl <| As rfl <| Nl <| SR <| Md rfl <| As rfl <| Nl <| sq <| bk <| LG (d := []) (ν := Nat × Int × Int) (fun (m11, i9, j10) => (True ∧ Zjx d1 a3 x6 m11 i9 j10 = some r, m11, [(0, Zi v2), (1, rd (Z0 .i64) a3), (4, fn2 Tryz.prog (Z0 .i64) (Z0 .i64) (Z0 .i64) x6), (10, rd (Z0 .i64) i9), (11, rd (Z0 .i64) j10)], [(0, Zc v2 3 (Z0 .i64) d1)])) ((((b5 : Int) - m4).toNat + 1), m4, b5) ⟨trivial, h⟩ (FX rfl) ?_
  rintro ⟨m11, i9, j10⟩ ⟨hsf1, h⟩
  dsimp only at h ⊢
  cases m11 with
  | zero => cases h
  | succ m11 =>
   unfold Zjx at h
   refine sq <| SR <| Md rfl <| Md rfl <| Ac (Zn rfl rfl (vt rfl) (vt rfl)) rfl <| Nl <| Cq rfl h (fun h => ?_) (fun h => ?_)
   ·refine sk <| bk <| sq ?_
    obtain ⟨q12, hq12, h⟩ := Za h
    refine Rg <| Md rfl <| Md rfl <| Ac (Z06 rfl rfl (vt rfl) (vt rfl)) rfl <| Ac (Z8g rfl rfl us3 Z89 (vt rfl)) rfl <| Ac (Z5p rfl rfl (vt rfl) (Z4o (vku (1 : BitVec 64) rfl)) hq12) rfl <| Ac (Z8x rfl rfl Zbl un3 (vt rfl)) rfl <| As rfl <| Nl <| sq ?_
    obtain ⟨x13, hx13, x14, hx14, x15, hx15, h⟩ := bs3 h
    refine AR Zx (by kernel_rfl) <| Sd (lo [4] [] rfl fun S hs hr => Zs (A := fn2 Tryz.prog (Z0 .i64) (Z0 .i64) (Z0 .i64) x6) rfl rfl (vh hs 4 rfl rfl)) <| SMw rfl <| Zq rfl <| Sd (lo [41, 42] [0] rfl fun S hs hr => Z21 0 rfl rfl Z0y (vh hs 41 rfl rfl) ((hr 0 rfl).trans rfl) (vh hs 42 rfl rfl) hx13) <| Sd (lo [43] [0] rfl fun S hs hr => Z1i 0 rfl rfl Zt (vh hs 43 rfl rfl) ((hr 0 rfl).trans rfl) (Z0e hx13).2) <| SMw rfl <| Zq rfl <| Sd (lo [45, 46] [0] rfl fun S hs hr => Z21 0 rfl rfl Z0y (vh hs 45 rfl rfl) ((hr 0 rfl).trans rfl) (vh hs 46 rfl rfl) hx14) <| Sd (lo [47] [0] rfl fun S hs hr => Z1i 0 rfl rfl Zt (vh hs 47 rfl rfl) ((hr 0 rfl).trans rfl) (Z0e hx14).2) <| Sd (lo [40, 44, 48] [] rfl fun S hs hr => Za7 hx15 rfl rfl (vh hs 40 rfl rfl) (vh hs 44 rfl rfl) (vh hs 48 rfl rfl)) <| Sd (lo [49] [] rfl fun S hs hr => Zn rfl rfl (vh hs 49 rfl rfl) (vk rfl)) <| Sn <| Cq rfl h (fun h => ?_) (fun h => ?_)
    ·refine Rg <| Md rfl <| Ac (Z06 rfl rfl (vt rfl) (vk rfl)) rfl <| As rfl <| Nl ?_
     exact ⟨(_, _, _), Nat.lt_succ_self _, ⟨trivial, h⟩, FX rfl⟩
    ·refine Rg <| Md rfl <| As rfl <| Nl ?_
     exact ⟨(_, _, _), Nat.lt_succ_self _, ⟨trivial, h⟩, FX rfl⟩
   ·refine xt <| sq <| SR <| Md rfl <| As rfl <| Nl <| bk <| LG (d := []) (ν := Nat × (List Int) × Int) (fun (m20, l18, k19) => (True ∧ Zpa i9 m20 l18 k19 = some r, m20, [(0, Zi v2), (10, rd (Z0 .i64) i9), (13, rd (Z0 .i64) k19)], [(0, Zc v2 3 (Z0 .i64) l18)])) (((((IntKind.i64.wrap (i9 - 1)) : Int) - a3).toNat + 1), d1, a3) ⟨trivial, h⟩ (FX rfl) ?_
    rintro ⟨m20, l18, k19⟩ ⟨hsf2, h⟩
    dsimp only at h ⊢
    cases m20 with
    | zero => cases h
    | succ m20 =>
     unfold Zpa at h
     refine sq <| SR <| Md rfl <| Md rfl <| Ac (Z0p rfl rfl (vt rfl) (vk rfl)) rfl <| Ac (Zn rfl rfl (vt rfl) (vt rfl)) rfl <| Nl <| Cq rfl h (fun h => ?_) (fun h => ?_)
     ·refine sk <| sq <| bk <| AW.vlen 0 rfl fun hvl0_205 => ?_
      obtain ⟨x21, hx21, x22, hx22, x23, hx23, x24, hx24, h⟩ := bs4 h
      refine AR Zx (by kernel_rfl) <| SMw rfl <| Zq rfl <| SMw rfl <| Zq rfl <| Sd (lo [64] [] rfl fun S hs hr => Z06 rfl rfl (vh hs 64 rfl rfl) (vk rfl)) <| SMw rfl <| Zq rfl <| Sd (lo [67] [] rfl fun S hs hr => Z06 rfl rfl (vh hs 67 rfl rfl) (vk rfl)) <| Sd (lo [66, 68] [] rfl fun S hs hr => Z2c (l := l18) hvl0_205 rfl rfl rfl Z0y (vh hs 66 rfl rfl) (vh hs 68 rfl rfl) hx21) <| Sd (lo [69] [0] rfl fun S hs hr => Z1i 0 rfl rfl Zt (vh hs 69 rfl rfl) ((hr 0 rfl).trans rfl) (Z0e hx21).2) <| SMw rfl <| Zq rfl <| Sd (lo [71, 72] [] rfl fun S hs hr => Z2c (l := l18) hvl0_205 rfl rfl rfl Z0y (vh hs 71 rfl rfl) (vh hs 72 rfl rfl) hx22) <| Sd (lo [73] [0] rfl fun S hs hr => Z1i 0 rfl rfl Zt (vh hs 73 rfl rfl) ((hr 0 rfl).trans rfl) (Z0e hx22).2) <| Sd (lo [61, 62] [] rfl fun S hs hr => Z2c (l := l18) hvl0_205 rfl rfl rfl Z0y (vh hs 61 rfl rfl) (vh hs 62 rfl rfl) hx23) <| Sd (Z44 [75, 70] [0] rfl fun S hs hr => Z2o 0 rfl rfl Zt (vh hs 75 rfl rfl) ((hr 0 rfl).trans rfl) (Z0e hx23).2 (vh hs 70 rfl rfl)) <| Sd (lo [63, 65] [] rfl fun S hs hr => Z2c (l := (List.set l18 k19.toNat x21)) hvl0_205 (by simp) rfl rfl Z0y (vh hs 63 rfl rfl) (vh hs 65 rfl rfl) hx24) <| Sd (Z44 [76, 74] [0] rfl fun S hs hr => Z2o 0 rfl rfl Zt (vh hs 76 rfl rfl) ((hr 0 rfl).trans rfl) (Z0e hx24).2 (vh hs 74 rfl rfl)) <| Sn <| Rg <| Md rfl <| Ac (Z06 rfl rfl (vt rfl) (vk rfl)) rfl <| As rfl <| Nl ?_
      exact ⟨(_, _, _), Nat.lt_succ_self _, ⟨trivial, h⟩, FX rfl⟩
     ·refine xt <| rt ?_
      cases h; exact Z20 (i := 0) Tryz.results302 rfl rfl
 ·refine sk <| sq <| SR <| Md rfl <| Md rfl <| Ac (Z0p rfl rfl (vt rfl) (vt rfl)) rfl <| Ac (Z0m rfl rfl (vt rfl) (vk rfl)) rfl <| Nl <| Cq rfl h (fun h => ?_) (fun h => ?_)
  ·refine SR <| Md rfl <| As rfl <| Nl <| SR <| Md rfl <| As rfl <| Nl <| sq <| bk <| LG (d := []) (ν := Nat × Int × Int) (fun (m29, i27, j28) => (True ∧ Zlu d1 m4 x6 m29 i27 j28 = some r, m29, [(0, Zi v2), (2, rd (Z0 .i64) m4), (4, fn2 Tryz.prog (Z0 .i64) (Z0 .i64) (Z0 .i64) x6), (14, rd (Z0 .i64) i27), (15, rd (Z0 .i64) j28)], [(0, Zc v2 3 (Z0 .i64) d1)])) ((((m4 : Int) - a3).toNat + 1), a3, m4) ⟨trivial, h⟩ (FX rfl) ?_
   rintro ⟨m29, i27, j28⟩ ⟨hsf3, h⟩
   dsimp only at h ⊢
   cases m29 with
   | zero => cases h
   | succ m29 =>
    unfold Zlu at h
    refine sq <| SR <| Md rfl <| Md rfl <| Ac (Zn rfl rfl (vt rfl) (vt rfl)) rfl <| Nl <| Cq rfl h (fun h => ?_) (fun h => ?_)
    ·refine sk <| bk <| sq ?_
     obtain ⟨q30, hq30, h⟩ := Za h
     refine Rg <| Md rfl <| Md rfl <| Ac (Z06 rfl rfl (vt rfl) (vt rfl)) rfl <| Ac (Z8g rfl rfl us3 Z89 (vt rfl)) rfl <| Ac (Z5p rfl rfl (vt rfl) (Z4o (vku (1 : BitVec 64) rfl)) hq30) rfl <| Ac (Z8x rfl rfl Zbl un3 (vt rfl)) rfl <| As rfl <| Nl <| sq ?_
     obtain ⟨x31, hx31, x32, hx32, x33, hx33, h⟩ := bs3 h
     refine AR Zx (by kernel_rfl) <| Sd (lo [4] [] rfl fun S hs hr => Zs (A := fn2 Tryz.prog (Z0 .i64) (Z0 .i64) (Z0 .i64) x6) rfl rfl (vh hs 4 rfl rfl)) <| SMw rfl <| Zq rfl <| Sd (lo [93, 94] [0] rfl fun S hs hr => Z21 0 rfl rfl Z0y (vh hs 93 rfl rfl) ((hr 0 rfl).trans rfl) (vh hs 94 rfl rfl) hx31) <| Sd (lo [95] [0] rfl fun S hs hr => Z1i 0 rfl rfl Zt (vh hs 95 rfl rfl) ((hr 0 rfl).trans rfl) (Z0e hx31).2) <| SMw rfl <| Zq rfl <| Sd (lo [97, 98] [0] rfl fun S hs hr => Z21 0 rfl rfl Z0y (vh hs 97 rfl rfl) ((hr 0 rfl).trans rfl) (vh hs 98 rfl rfl) hx32) <| Sd (lo [99] [0] rfl fun S hs hr => Z1i 0 rfl rfl Zt (vh hs 99 rfl rfl) ((hr 0 rfl).trans rfl) (Z0e hx32).2) <| Sd (lo [92, 96, 100] [] rfl fun S hs hr => Za7 hx33 rfl rfl (vh hs 92 rfl rfl) (vh hs 96 rfl rfl) (vh hs 100 rfl rfl)) <| Sd (lo [101] [] rfl fun S hs hr => Zn rfl rfl (vh hs 101 rfl rfl) (vk rfl)) <| Sd (lo [102] [] rfl fun S hs hr => Z15 rfl rfl (vh hs 102 rfl rfl)) <| Sn <| Cq rfl h (fun h => ?_) (fun h => ?_)
     ·refine Rg <| Md rfl <| Ac (Z06 rfl rfl (vt rfl) (vk rfl)) rfl <| As rfl <| Nl ?_
      exact ⟨(_, _, _), Nat.lt_succ_self _, ⟨trivial, h⟩, FX rfl⟩
     ·refine Rg <| Md rfl <| As rfl <| Nl ?_
      exact ⟨(_, _, _), Nat.lt_succ_self _, ⟨trivial, h⟩, FX rfl⟩
    ·refine xt <| sq <| SR <| Md rfl <| As rfl <| Nl <| bk <| LG (d := []) (ν := Nat × (List Int) × Int) (fun (m38, l36, k37) => (True ∧ Zm8 i27 m38 l36 k37 = some r, m38, [(0, Zi v2), (14, rd (Z0 .i64) i27), (17, rd (Z0 .i64) k37)], [(0, Zc v2 3 (Z0 .i64) l36)])) ((((m4 : Int) - i27).toNat + 1), d1, m4) ⟨trivial, h⟩ (FX rfl) ?_
     rintro ⟨m38, l36, k37⟩ ⟨hsf4, h⟩
     dsimp only at h ⊢
     cases m38 with
     | zero => cases h
     | succ m38 =>
      unfold Zm8 at h
      refine sq <| SR <| Md rfl <| Md rfl <| Ac (Z3i rfl rfl (vt rfl) (vt rfl)) rfl <| Nl <| Cq rfl h (fun h => ?_) (fun h => ?_)
      ·refine sk <| sq <| bk <| AW.vlen 0 rfl fun hvl0_446 => ?_
       obtain ⟨x39, hx39, x40, hx40, x41, hx41, x42, hx42, h⟩ := bs4 h
       refine AR Zx (by kernel_rfl) <| SMw rfl <| Zq rfl <| SMw rfl <| Zq rfl <| Sd (lo [116] [] rfl fun S hs hr => Z0p rfl rfl (vh hs 116 rfl rfl) (vk rfl)) <| SMw rfl <| Zq rfl <| Sd (lo [119] [] rfl fun S hs hr => Z0p rfl rfl (vh hs 119 rfl rfl) (vk rfl)) <| Sd (lo [118, 120] [] rfl fun S hs hr => Z2c (l := l36) hvl0_446 rfl rfl rfl Z0y (vh hs 118 rfl rfl) (vh hs 120 rfl rfl) hx39) <| Sd (lo [121] [0] rfl fun S hs hr => Z1i 0 rfl rfl Zt (vh hs 121 rfl rfl) ((hr 0 rfl).trans rfl) (Z0e hx39).2) <| SMw rfl <| Zq rfl <| Sd (lo [123, 124] [] rfl fun S hs hr => Z2c (l := l36) hvl0_446 rfl rfl rfl Z0y (vh hs 123 rfl rfl) (vh hs 124 rfl rfl) hx40) <| Sd (lo [125] [0] rfl fun S hs hr => Z1i 0 rfl rfl Zt (vh hs 125 rfl rfl) ((hr 0 rfl).trans rfl) (Z0e hx40).2) <| Sd (lo [113, 114] [] rfl fun S hs hr => Z2c (l := l36) hvl0_446 rfl rfl rfl Z0y (vh hs 113 rfl rfl) (vh hs 114 rfl rfl) hx41) <| Sd (Z44 [127, 122] [0] rfl fun S hs hr => Z2o 0 rfl rfl Zt (vh hs 127 rfl rfl) ((hr 0 rfl).trans rfl) (Z0e hx41).2 (vh hs 122 rfl rfl)) <| Sd (lo [115, 117] [] rfl fun S hs hr => Z2c (l := (List.set l36 k37.toNat x39)) hvl0_446 (by simp) rfl rfl Z0y (vh hs 115 rfl rfl) (vh hs 117 rfl rfl) hx42) <| Sd (Z44 [128, 126] [0] rfl fun S hs hr => Z2o 0 rfl rfl Zt (vh hs 128 rfl rfl) ((hr 0 rfl).trans rfl) (Z0e hx42).2 (vh hs 126 rfl rfl)) <| Sn <| Rg <| Md rfl <| Ac (Z0p rfl rfl (vt rfl) (vk rfl)) rfl <| As rfl <| Nl ?_
       exact ⟨(_, _, _), Nat.lt_succ_self _, ⟨trivial, h⟩, FX rfl⟩
      ·refine xt <| rt ?_
       cases h; exact Z20 (i := 0) Tryz.results302 rfl rfl
  ·refine sk <| sq ?_
   obtain ⟨q43, hq43, h⟩ := Za h
   refine Rg <| Md rfl <| Md rfl <| Ac (Z06 rfl rfl (vt rfl) (vt rfl)) rfl <| Ac (Z8g rfl rfl us3 Z89 (vt rfl)) rfl <| Ac (Z5p rfl rfl (vt rfl) (Z4o (vku (1 : BitVec 64) rfl)) hq43) rfl <| Ac (Z8x rfl rfl Zbl un3 (vt rfl)) rfl <| As rfl <| Nl <| SR <| Md rfl <| Md rfl <| Ac (Z06 rfl rfl (vt rfl) (vt rfl)) rfl <| As rfl <| Nl <| SR <| Ak rfl <| Ak rfl <| Nl ?_
   refine JN (d := []) (ν := Int × Int) (fun (s44, x45) => (Znl d1 q43 m4 x6 a3 R_slices_symMergeCmpFunc_int b5 s44 x45 = some r, [(0, Zi v2), (1, rd (Z0 .i64) a3), (2, rd (Z0 .i64) m4), (3, rd (Z0 .i64) b5), (4, fn2 Tryz.prog (Z0 .i64) (Z0 .i64) (Z0 .i64) x6), (18, rd (Z0 .i64) (IntKind.i64.wrap (q43.toNat : Int))), (19, rd (Z0 .i64) (IntKind.i64.wrap ((IntKind.i64.wrap (q43.toNat : Int)) + m4))), (20, rd (Z0 .i64) s44), (21, rd (Z0 .i64) x45)], [(0, Zc v2 3 (Z0 .i64) d1)])) ?hx5 ?hy5
   case hy5 =>
    rintro ⟨s44, x45⟩ h
    dsimp only at h ⊢
    unfold Znl at h
    refine SR <| Md rfl <| Ac (Z0p rfl rfl (vt rfl) (vk rfl)) rfl <| As rfl <| Nl <| sq <| bk <| LG (d := []) (ν := Nat × Int × Int) (fun (m50, s48, x49) => (True ∧ Zkj d1 q43 m4 x6 a3 R_slices_symMergeCmpFunc_int b5 m50 s48 x49 = some r, m50, [(0, Zi v2), (1, rd (Z0 .i64) a3), (2, rd (Z0 .i64) m4), (3, rd (Z0 .i64) b5), (4, fn2 Tryz.prog (Z0 .i64) (Z0 .i64) (Z0 .i64) x6), (18, rd (Z0 .i64) (IntKind.i64.wrap (q43.toNat : Int))), (19, rd (Z0 .i64) (IntKind.i64.wrap ((IntKind.i64.wrap (q43.toNat : Int)) + m4))), (20, rd (Z0 .i64) s48), (21, rd (Z0 .i64) x49), (22, rd (Z0 .i64) (IntKind.i64.wrap ((IntKind.i64.wrap ((IntKind.i64.wrap (q43.toNat : Int)) + m4)) - 1)))], [(0, Zc v2 3 (Z0 .i64) d1)])) ((((x45 : Int) - s44).toNat + 1), s44, x45) ⟨trivial, h⟩ (FX rfl) ?_
    rintro ⟨m50, s48, x49⟩ ⟨hsf6, h⟩
    dsimp only at h ⊢
    cases m50 with
    | zero => cases h
    | succ m50 =>
     unfold Zkj at h
     refine sq <| SR <| Md rfl <| Md rfl <| Ac (Zn rfl rfl (vt rfl) (vt rfl)) rfl <| Nl <| Cq rfl h (fun h => ?_) (fun h => ?_)
     ·refine sk <| bk <| sq ?_
      obtain ⟨q51, hq51, h⟩ := Za h
      refine Rg <| Md rfl <| Md rfl <| Ac (Z06 rfl rfl (vt rfl) (vt rfl)) rfl <| Ac (Z8g rfl rfl us3 Z89 (vt rfl)) rfl <| Ac (Z5p rfl rfl (vt rfl) (Z4o (vku (1 : BitVec 64) rfl)) hq51) rfl <| Ac (Z8x rfl rfl Zbl un3 (vt rfl)) rfl <| As rfl <| Nl <| sq ?_
      obtain ⟨x52, hx52, x53, hx53, x54, hx54, h⟩ := bs3 h
      refine AR Zx (by kernel_rfl) <| Sd (lo [4] [] rfl fun S hs hr => Zs (A := fn2 Tryz.prog (Z0 .i64) (Z0 .i64) (Z0 .i64) x6) rfl rfl (vh hs 4 rfl rfl)) <| SMw rfl <| Zq rfl <| Zq rfl <| Sd (lo [160, 161] [] rfl fun S hs hr => Z0p rfl rfl (vh hs 160 rfl rfl) (vh hs 161 rfl rfl)) <| Sd (lo [159, 162] [0] rfl fun S hs hr => Z21 0 rfl rfl Z0y (vh hs 159 rfl rfl) ((hr 0 rfl).trans rfl) (vh hs 162 rfl rfl) hx52) <| Sd (lo [163] [0] rfl fun S hs hr => Z1i 0 rfl rfl Zt (vh hs 163 rfl rfl) ((hr 0 rfl).trans rfl) (Z0e hx52).2) <| SMw rfl <| Zq rfl <| Sd (lo [165, 166] [0] rfl fun S hs hr => Z21 0 rfl rfl Z0y (vh hs 165 rfl rfl) ((hr 0 rfl).trans rfl) (vh hs 166 rfl rfl) hx53) <| Sd (lo [167] [0] rfl fun S hs hr => Z1i 0 rfl rfl Zt (vh hs 167 rfl rfl) ((hr 0 rfl).trans rfl) (Z0e hx53).2) <| Sd (lo [158, 164, 168] [] rfl fun S hs hr => Za7 hx54 rfl rfl (vh hs 158 rfl rfl) (vh hs 164 rfl rfl) (vh hs 168 rfl rfl)) <| Sd (lo [169] [] rfl fun S hs hr => Zn rfl rfl (vh hs 169 rfl rfl) (vk rfl)) <| Sd (lo [170] [] rfl fun S hs hr => Z15 rfl rfl (vh hs 170 rfl rfl)) <| Sn <| Cq rfl h (fun h => ?_) (fun h => ?_)
      ·refine Rg <| Md rfl <| Ac (Z06 rfl rfl (vt rfl) (vk rfl)) rfl <| As rfl <| Nl ?_
       exact ⟨(_, _, _), Nat.lt_succ_self _, ⟨trivial, h⟩, FX rfl⟩
      ·refine Rg <| Md rfl <| As rfl <| Nl ?_
       exact ⟨(_, _, _), Nat.lt_succ_self _, ⟨trivial, h⟩, FX rfl⟩
     ·refine xt <| SR <| Md rfl <| Md rfl <| Ac (Z0p rfl rfl (vt rfl) (vt rfl)) rfl <| As rfl <| Nl ?_
      refine JN (d := []) (ν := (List Int)) (fun l55 => (Zpm a3 s48 q43 R_slices_symMergeCmpFunc_int x6 m4 b5 l55 = some r, [(0, Zi v2), (1, rd (Z0 .i64) a3), (3, rd (Z0 .i64) b5), (4, fn2 Tryz.prog (Z0 .i64) (Z0 .i64) (Z0 .i64) x6), (18, rd (Z0 .i64) (IntKind.i64.wrap (q43.toNat : Int))), (20, rd (Z0 .i64) s48), (24, rd (Z0 .i64) (IntKind.i64.wrap ((IntKind.i64.wrap ((IntKind.i64.wrap (q43.toNat : Int)) + m4)) - s48)))], [(0, Zc v2 3 (Z0 .i64) l55)])) ?hx7 ?hy7
      case hy7 =>
       intro l55 h
       dsimp only at h ⊢
       unfold Zpm at h
       refine JN (d := []) (ν := (List Int)) (fun l56 => (Zn0 q43 m4 s48 b5 R_slices_symMergeCmpFunc_int x6 l56 = some r, [(0, Zi v2), (3, rd (Z0 .i64) b5), (4, fn2 Tryz.prog (Z0 .i64) (Z0 .i64) (Z0 .i64) x6), (18, rd (Z0 .i64) (IntKind.i64.wrap (q43.toNat : Int))), (24, rd (Z0 .i64) (IntKind.i64.wrap ((IntKind.i64.wrap ((IntKind.i64.wrap (q43.toNat : Int)) + m4)) - s48)))], [(0, Zc v2 3 (Z0 .i64) l56)])) ?hx8 ?hy8
       case hy8 =>
        intro l56 h
        dsimp only at h ⊢
        unfold Zn0 at h
        refine SR <| Md rfl <| Md rfl <| Ac (Zn rfl rfl (vt rfl) (vt rfl)) rfl <| Md rfl <| Gd rfl (fun hq => Zs (A := rd (Z0 .i64) (IntKind.i64.wrap ((IntKind.i64.wrap ((IntKind.i64.wrap (q43.toNat : Int)) + m4)) - s48))) rfl rfl (vt rfl)) <| Gd rfl (fun hq => Zs (A := rd (Z0 .i64) b5) rfl rfl (vt rfl)) <| Gd rfl (fun hq => Zn rfl rfl (Zo rfl hq) (Zo rfl hq)) <| Ac (Z1t rfl rfl (vt rfl) (vt rfl)) rfl <| Nl <| Cq rfl h (fun h => ?_) (fun h => ?_)
        ·obtain ⟨l57, hl57, h⟩ := Za h
         refine Rg <| Mw rfl <| Md rfl <| Md rfl <| Md rfl <| Ac (Zs (A := fn2 Tryz.prog (Z0 .i64) (Z0 .i64) (Z0 .i64) x6) rfl rfl (vt rfl)) rfl <| Cv rfl (Z1b 0 (xs := [.tmp 214, .tmp 215, .tmp 216, .tmp 217, .tmp 218]) (hR_slices_symMergeCmpFunc_int _ _ _ _ _ _ _ hl57) Znk rfl rfl ⟨vt rfl, vt rfl, vt rfl, vt rfl, vt rfl, trivial⟩ rfl) fun _u => Nl ?_
         cases h; exact Z20 (i := 0) Tryz.results302 rfl rfl
        ·refine sk ?_
         cases h; exact Z20 (i := 0) Tryz.results302 rfl rfl
       case hx8 =>
        refine SR <| Md rfl <| Md rfl <| Ac (Zn rfl rfl (vt rfl) (vt rfl)) rfl <| Md rfl <| Gd rfl (fun hq => Zs (A := rd (Z0 .i64) s48) rfl rfl (vt rfl)) <| Gd rfl (fun hq => Zs (A := rd (Z0 .i64) (IntKind.i64.wrap (q43.toNat : Int))) rfl rfl (vt rfl)) <| Gd rfl (fun hq => Zn rfl rfl (Zo rfl hq) (Zo rfl hq)) <| Ac (Z1t rfl rfl (vt rfl) (vt rfl)) rfl <| Nl <| Cq rfl h (fun h => ?_) (fun h => ?_)
        ·obtain ⟨l58, hl58, h⟩ := Za h
         refine Rg <| Mw rfl <| Md rfl <| Md rfl <| Md rfl <| Ac (Zs (A := fn2 Tryz.prog (Z0 .i64) (Z0 .i64) (Z0 .i64) x6) rfl rfl (vt rfl)) rfl <| Cv rfl (Z1b 0 (xs := [.tmp 200, .tmp 201, .tmp 202, .tmp 203, .tmp 204]) (hR_slices_symMergeCmpFunc_int _ _ _ _ _ _ _ hl58) Znk rfl rfl ⟨vt rfl, vt rfl, vt rfl, vt rfl, vt rfl, trivial⟩ rfl) fun _u => Nl ?_
         exact ⟨_, h, FX rfl⟩
        ·refine sk ?_
         exact ⟨_, h, FX rfl⟩
      case hx7 =>
       refine SR <| Md rfl <| Md rfl <| Ac (Zn rfl rfl (vt rfl) (vt rfl)) rfl <| Md rfl <| Gd rfl (fun hq => Zs (A := rd (Z0 .i64) m4) rfl rfl (vt rfl)) <| Gd rfl (fun hq => Zs (A := rd (Z0 .i64) (IntKind.i64.wrap ((IntKind.i64.wrap ((IntKind.i64.wrap (q43.toNat : Int)) + m4)) - s48))) rfl rfl (vt rfl)) <| Gd rfl (fun hq => Zn rfl rfl (Zo rfl hq) (Zo rfl hq)) <| Ac (Z1t rfl rfl (vt rfl) (vt rfl)) rfl <| Nl <| Cq rfl h (fun h => ?_) (fun h => ?_)
       ·obtain ⟨l59, hl59, h⟩ := Za h
        refine Rg <| Mw rfl <| Md rfl <| Md rfl <| Md rfl <| Ac (Zs (A := fn2 Tryz.prog (Z0 .i64) (Z0 .i64) (Z0 .i64) x6) rfl rfl (vt rfl)) rfl <| Cv rfl (Z1b 0 (xs := [.tmp 186, .tmp 187, .tmp 188, .tmp 189, .tmp 190]) (Yei _ _ _ _ _ _ _ hl59) Yha rfl rfl ⟨vt rfl, vt rfl, vt rfl, vt rfl, vt rfl, trivial⟩ rfl) fun _u => Nl ?_
        exact ⟨_, h, FX rfl⟩
       ·refine sk ?_
        exact ⟨_, h, FX rfl⟩
   case hx5 =>
    refine SR <| Md rfl <| Md rfl <| Ac (Z3i rfl rfl (vt rfl) (vt rfl)) rfl <| Nl <| Cq rfl h (fun h => ?_) (fun h => ?_)
    ·refine SR <| Md rfl <| Md rfl <| Ac (Z0p rfl rfl (vt rfl) (vt rfl)) rfl <| As rfl <| Nl <| Rg <| Md rfl <| As rfl <| Nl ?_
     exact ⟨(_, _), h, FX rfl⟩
    ·refine SR <| Md rfl <| As rfl <| Nl <| Rg <| Md rfl <| As rfl <| Nl ?_
     exact ⟨(_, _), h, FX rfl⟩
def Zn9 : Nat → ((List Int) → Int → Int → Int → (Int → Int → Option Int) → Option (List Int))
 | 0 => (fun _ _ _ _ _ => none)
 | n + 1 => (Zql (Zn9 n))
theorem Y4i : ∀ n : Nat, (∀ (v2 : Value) (d1 : (List Int)) (a3 : Int) (m4 : Int) (b5 : Int) (x6 : (Int → Int → Option Int)) (r : (List Int)), (Zn9 n) d1 a3 m4 b5 x6 = some r → Con Tryz.prog 302 [Zi v2, rd (Z0 .i64) a3, rd (Z0 .i64) m4, rd (Z0 .i64) b5, fn2 Tryz.prog (Z0 .i64) (Z0 .i64) (Z0 .i64) x6] (Zc v2 3 (Z0 .i64) d1) (fun _ : Unit => top) (fun _ => Zc v2 3 (Z0 .i64) r))
 | 0 => (by intros; rename_i h; cases h)
 | n + 1 => by
  have ih := Y4i n
  exact (Ykp (Zn9 n) ih)
def Zpy (d1 : (List Int)) (a3 : Int) (m4 : Int) (b5 : Int) (x6 : (Int → Int → Option Int)) : Option (List Int) := (Zn9 Z0l) d1 a3 m4 b5 x6
theorem Zwt : ∀ (v2 : Value) (d1 : (List Int)) (a3 : Int) (m4 : Int) (b5 : Int) (x6 : (Int → Int → Option Int)) (r : (List Int)), Zpy d1 a3 m4 b5 x6 = some r → Con Tryz.prog 302 [Zi v2, rd (Z0 .i64) a3, rd (Z0 .i64) m4, rd (Z0 .i64) b5, fn2 Tryz.prog (Z0 .i64) (Z0 .i64) (Z0 .i64) x6] (Zc v2 3 (Z0 .i64) d1) (fun _ : Unit => top) (fun _ => Zc v2 3 (Z0 .i64) r) := Y4i Z0l
def Zmf (n3 : Int) (b17 : Int) (x4 : (Int → Int → Option Int)) (go2 : (List Int) → Int → Option (List Int)) : Nat → (List Int) → Int → Int → Option (List Int)
 | 0, _, _, _ => none
 | m25 + 1, l22, a23, b24 => (bif (decide (b24 ≤ n3)) then (Zpy l22 a23 (IntKind.i64.wrap (a23 + b17)) b24 x4).bind fun l26 => (Zmf n3 b17 x4 go2 m25) l26 b24 (IntKind.i64.wrap (b24 + (IntKind.i64.wrap (2 * b17)))) else (bif (decide ((IntKind.i64.wrap (a23 + b17)) < n3)) then (Zpy l22 a23 (IntKind.i64.wrap (a23 + b17)) n3 x4).bind fun l27 => go2 l27 (IntKind.i64.wrap (b17 * 2)) else go2 l22 (IntKind.i64.wrap (b17 * 2))))
def Zh0 (n3 : Int) (x4 : (Int → Int → Option Int)) : Nat → (List Int) → Int → Option (List Int)
 | 0, _, _ => none
 | m18 + 1, l16, b17 => (bif (decide (b17 < n3)) then Zmf n3 b17 x4 (Zh0 n3 x4 m18) (((n3 : Int) - (IntKind.i64.wrap (2 * b17))).toNat + 2) l16 0 (IntKind.i64.wrap (2 * b17)) else some l16)
def Ziq (n3 : Int) (x4 : (Int → Int → Option Int)) : Nat → (List Int) → Int → Int → Option (List Int)
 | 0, _, _, _ => none
 | m11 + 1, l8, a9, b10 => (bif (decide (b10 ≤ n3)) then (Zfa l8 a9 b10 x4).bind fun l12 => (Ziq n3 x4 m11) l12 b10 (IntKind.i64.wrap (b10 + 20)) else (Zfa l8 a9 n3 x4).bind fun l13 => Zh0 n3 x4 (((n3 : Int) - 20).toNat + 1) l13 20)
def Zmb (d1 : (List Int)) (n3 : Int) (x4 : (Int → Int → Option Int)) : Option (List Int) :=
 Ziq n3 x4 (((n3 : Int) - 20).toNat + 2) d1 0 20
theorem Yih (v2 : Value) (d1 : (List Int)) (n3 : Int) (x4 : (Int → Int → Option Int)) (r : (List Int)) (h : Zmb d1 n3 x4 = some r) : Con Tryz.prog 258 [Zi v2, rd (Z0 .i64) n3, fn2 Tryz.prog (Z0 .i64) (Z0 .i64) (Z0 .i64) x4] (Zc v2 3 (Z0 .i64) d1) (fun _ : Unit => top) (fun _ => Zc v2 3 (Z0 .i64) r) := by
 refine Con.intro Tryz.func258 rfl Tryz.ntmps258 rfl fun w H X => ?_
 unfold Zmb at h
 refine SR <| Ak rfl <| Nl <| SR <| Md rfl <| Ak rfl <| As rfl <| Nl <| sq <| bk <| LG (d := []) (ν := Nat × (List Int) × Int × Int) (fun (m11, l8, a9, b10) => (True ∧ Ziq n3 x4 m11 l8 a9 b10 = some r, m11, [(0, Zi v2), (1, rd (Z0 .i64) n3), (2, fn2 Tryz.prog (Z0 .i64) (Z0 .i64) (Z0 .i64) x4), (6, rd (Z0 .i64) 20), (7, rd (Z0 .i64) a9), (8, rd (Z0 .i64) b10)], [(0, Zc v2 3 (Z0 .i64) l8)])) ((((n3 : Int) - 20).toNat + 2), d1, 0, 20) ⟨trivial, h⟩ (FX rfl) ?_
 rintro ⟨m11, l8, a9, b10⟩ ⟨hsf1, h⟩
 dsimp only at h ⊢
 cases m11 with
 | zero => cases h
 | succ m11 =>
  unfold Ziq at h
  refine sq <| SR <| Md rfl <| Md rfl <| Ac (Z6k rfl rfl (vt rfl) (vt rfl)) rfl <| Nl <| Cq rfl h (fun h => ?_) (fun h => ?_)
  ·refine sk <| bk <| sq ?_
   obtain ⟨l12, hl12, h⟩ := Za h
   refine Rg <| Mw rfl <| Md rfl <| Md rfl <| Ac (Zs (A := fn2 Tryz.prog (Z0 .i64) (Z0 .i64) (Z0 .i64) x4) rfl rfl (vt rfl)) rfl <| Cv rfl (Z1b 0 (xs := [.tmp 14, .tmp 15, .tmp 16, .tmp 17]) (Zze _ _ _ _ _ _ hl12) Y0q rfl rfl ⟨vt rfl, vt rfl, vt rfl, vt rfl, trivial⟩ rfl) fun _u => Nl <| SR <| Md rfl <| As rfl <| Nl <| Rg <| Md rfl <| Md rfl <| Ac (Z06 rfl rfl (vt rfl) (vt rfl)) rfl <| As rfl <| Nl ?_
   exact ⟨(_, _, _, _), Nat.lt_succ_self _, ⟨trivial, h⟩, FX rfl⟩
  ·refine xt <| sq ?_
   obtain ⟨l13, hl13, h⟩ := Za h
   refine Rg <| Mw rfl <| Md rfl <| Md rfl <| Ac (Zs (A := fn2 Tryz.prog (Z0 .i64) (Z0 .i64) (Z0 .i64) x4) rfl rfl (vt rfl)) rfl <| Cv rfl (Z1b 0 (xs := [.tmp 23, .tmp 24, .tmp 25, .tmp 26]) (Zze _ _ _ _ _ _ hl13) Y0q rfl rfl ⟨vt rfl, vt rfl, vt rfl, vt rfl, trivial⟩ rfl) fun _u => Nl <| bk <| LG (d := []) (ν := Nat × (List Int) × Int) (fun (m18, l16, b17) => (True ∧ Zh0 n3 x4 m18 l16 b17 = some r, m18, [(0, Zi v2), (1, rd (Z0 .i64) n3), (2, fn2 Tryz.prog (Z0 .i64) (Z0 .i64) (Z0 .i64) x4), (6, rd (Z0 .i64) b17)], [(0, Zc v2 3 (Z0 .i64) l16)])) ((((n3 : Int) - 20).toNat + 1), l13, 20) ⟨trivial, h⟩ (FX rfl) ?_
   rintro ⟨m18, l16, b17⟩ ⟨hsf2, h⟩
   dsimp only at h ⊢
   cases m18 with
   | zero => cases h
   | succ m18 =>
    unfold Zh0 at h
    refine sq <| SR <| Md rfl <| Md rfl <| Ac (Zn rfl rfl (vt rfl) (vt rfl)) rfl <| Nl <| Cq rfl h (fun h => ?_) (fun h => ?_)
    ·refine sk <| bk <| SR <| Md rfl <| Ac (Z9z rfl rfl (vk rfl) (vt rfl)) rfl <| Ak rfl <| As rfl <| Nl <| sq <| bk <| LG (d := []) (ν := Nat × (List Int) × Int × Int) (fun (m25, l22, a23, b24) => (True ∧ Zmf n3 b17 x4 (Zh0 n3 x4 m18) m25 l22 a23 b24 = some r, m25, [(0, Zi v2), (1, rd (Z0 .i64) n3), (2, fn2 Tryz.prog (Z0 .i64) (Z0 .i64) (Z0 .i64) x4), (6, rd (Z0 .i64) b17), (7, rd (Z0 .i64) a23), (8, rd (Z0 .i64) b24)], [(0, Zc v2 3 (Z0 .i64) l22)])) ((((n3 : Int) - (IntKind.i64.wrap (2 * b17))).toNat + 2), l16, 0, (IntKind.i64.wrap (2 * b17))) ⟨trivial, h⟩ (FX rfl) ?_
     rintro ⟨m25, l22, a23, b24⟩ ⟨hsf3, h⟩
     dsimp only at h ⊢
     cases m25 with
     | zero => cases h
     | succ m25 =>
      unfold Zmf at h
      refine sq <| SR <| Md rfl <| Md rfl <| Ac (Z6k rfl rfl (vt rfl) (vt rfl)) rfl <| Nl <| Cq rfl h (fun h => ?_) (fun h => ?_)
      ·refine sk <| bk <| sq ?_
       obtain ⟨l26, hl26, h⟩ := Za h
       refine Rg <| Mw rfl <| Md rfl <| Md rfl <| Md rfl <| Ac (Z06 rfl rfl (vt rfl) (vt rfl)) rfl <| Md rfl <| Ac (Zs (A := fn2 Tryz.prog (Z0 .i64) (Z0 .i64) (Z0 .i64) x4) rfl rfl (vt rfl)) rfl <| Cv rfl (Z1b 0 (xs := [.tmp 36, .tmp 37, .tmp 40, .tmp 41, .tmp 42]) (Zwt _ _ _ _ _ _ _ hl26) Znk rfl rfl ⟨vt rfl, vt rfl, vt rfl, vt rfl, vt rfl, trivial⟩ rfl) fun _u => Nl <| SR <| Md rfl <| As rfl <| Nl <| Rg <| Md rfl <| Md rfl <| Ac (Z9z rfl rfl (vk rfl) (vt rfl)) rfl <| Ac (Z06 rfl rfl (vt rfl) (vt rfl)) rfl <| As rfl <| Nl ?_
       exact ⟨(_, _, _, _), Nat.lt_succ_self _, ⟨trivial, h⟩, FX rfl⟩
      ·refine xt <| sq <| SR <| Md rfl <| Md rfl <| Ac (Z06 rfl rfl (vt rfl) (vt rfl)) rfl <| As rfl <| Nl <| SR <| Md rfl <| Md rfl <| Ac (Zn rfl rfl (vt rfl) (vt rfl)) rfl <| Nl <| Cq rfl h (fun h => ?_) (fun h => ?_)
       ·obtain ⟨l27, hl27, h⟩ := Za h
        refine Rg <| Mw rfl <| Md rfl <| Md rfl <| Md rfl <| Ac (Zs (A := fn2 Tryz.prog (Z0 .i64) (Z0 .i64) (Z0 .i64) x4) rfl rfl (vt rfl)) rfl <| Cv rfl (Z1b 0 (xs := [.tmp 55, .tmp 56, .tmp 57, .tmp 58, .tmp 59]) (Zwt _ _ _ _ _ _ _ hl27) Znk rfl rfl ⟨vt rfl, vt rfl, vt rfl, vt rfl, vt rfl, trivial⟩ rfl) fun _u => Nl <| Rg <| Md rfl <| Ac (Z9z rfl rfl (vt rfl) (vk rfl)) rfl <| As rfl <| Nl ?_
        exact ⟨(_, _, _), Nat.lt_succ_self _, ⟨trivial, h⟩, FX rfl⟩
       ·refine sk <| Rg <| Md rfl <| Ac (Z9z rfl rfl (vt rfl) (vk rfl)) rfl <| As rfl <| Nl ?_
        exact ⟨(_, _, _), Nat.lt_succ_self _, ⟨trivial, h⟩, FX rfl⟩
    ·refine xt ?_
     cases h; exact Z20 (i := 0) Tryz.results258 rfl rfl
def Zlx (x1 : (List Int)) (x3 : (Int → Int → Option Int)) : Option (List Int) :=
 (Zmb x1 (x1.length : Int) x3).bind fun l4 => some l4
theorem Ylp (v2 : Value) (x1 : (List Int)) (x3 : (Int → Int → Option Int)) (r : (List Int)) (h : Zlx x1 x3 = some r) : Con Tryz.prog 200 [Zi v2, fn2 Tryz.prog (Z0 .i64) (Z0 .i64) (Z0 .i64) x3] (Zc v2 3 (Z0 .i64) x1) (fun _ : Unit => top) (fun _ => Zc v2 3 (Z0 .i64) r) := by
 refine Con.intro Tryz.func200 rfl Tryz.ntmps200 rfl fun w H X => ?_
 unfold Zlx at h
 obtain ⟨l4, hl4, h⟩ := Za h
 refine Rg <| Mw rfl <| Mw rfl <| Ac (Z6q 0 rfl rfl Z0y (vt rfl) rfl) rfl <| Ac (Zs (A := fn2 Tryz.prog (Z0 .i64) (Z0 .i64) (Z0 .i64) x3) rfl rfl (vt rfl)) rfl <| Cv rfl (Z1b 0 (xs := [.tmp 4, .tmp 6, .tmp 7]) (Yih _ _ _ _ _ hl4) Y5q rfl rfl ⟨vt rfl, vt rfl, vt rfl, trivial⟩ rfl) fun _u => Nl ?_
 cases h; exact Z20 (i := 0) Tryz.results200 rfl rfl
end Go.Proofs.YtknpgojdkobgjaaGreat.W
set_option maxRecDepth 4000
namespace Go.Proofs.YtknpgojdkobgjaaGreat.W
open Go Go.Wb
theorem Yk3 : Ent Tryz.prog 201 := Ent.mk Tryz.func201 rfl rfl
theorem Yfc : Ent Tryz.prog 200 := Ent.mk Tryz.func200 rfl rfl
theorem Zmk : Ent Tryz.prog 269 := Ent.mk Tryz.func269 rfl rfl
theorem Ycw : Ent Tryz.prog 344 := Ent.mk Tryz.func344 rfl rfl
theorem Y9r : Ent Tryz.prog 336 := Ent.mk Tryz.func336 rfl rfl
theorem Y1j : Ent Tryz.prog 299 := Ent.mk Tryz.func299 rfl rfl
theorem Yd9 : Ent Tryz.prog 312 := Ent.mk Tryz.func312 rfl rfl
theorem Zse : Ent Tryz.prog 254 := Ent.mk Tryz.func254 rfl rfl
theorem e73 : Ent Tryz.prog 73 := Ent.mk Tryz.func73 rfl rfl
theorem Y0i : Ent Tryz.prog 275 := Ent.mk Tryz.func275 rfl rfl
def Zad (t1 : (List Flow)) : Nat → Nat → (List Int) → Option (List Int)
 | 0, i9, l7 => (Zlx l7 (fun x z => Zhd x z t1)).bind fun l11 => some l11
 | m10 + 1, i9, l7 => (Z0u l7 [(i9 : Int)]).bind fun l12 => (Zad t1 m10) (i9 + 1) l12
def Zgv (t1 : (List Flow)) : Option (List Int) :=
 (omk (t1.length : Int)).bind fun u3 => Zad t1 ((t1.length : Int) : Int).toNat 0 []
theorem Y4k : Q1 Tryz.prog 135 (rd (Z2 Z0n)) (rd (Z2 (Z0 .i64))) Zgv := fun t1 r h => I0 Tryz.func135 rfl Tryz.ntmps135 rfl fun w H => by
 unfold Zgv at h
 refine SR <| Cv rfl (Zl 2 rfl rfl (vt rfl)) fun g2 => Ac (Zy (A := rd (Z2 (Z0 .i64)) []) rfl rfl Z1p) rfl <| Nl <| sq ?_
 obtain ⟨u3, hu3, h⟩ := Za h
 refine Rg <| Ld Z5c 2 rfl <| Ac (Z0x rfl rfl Z4q (vt rfl)) rfl <| Cv rfl (Yav 1001 hu3 rfl rfl Zlp zr3 (vt rfl)) fun v4 => Aw rfl <| Nl <| sq <| SR <| Ld Z5c 2 rfl <| Ac (Z0x rfl rfl Z4q (vt rfl)) rfl <| Mk rfl <| Nl <| bk <| LG (d := []) (ν := Nat × Nat × (List Int) × Value) (fun (m10, i9, l7, v8) => (Cnt (t1.length : Int) i9 m10 ∧ Zad t1 m10 i9 l7 = some r, m10, [(1, Zb g2 (Lens.id (Z2 Z0n))), (3, Zi v8), (9, rd (Z0 .i64) (t1.length : Int)), (10, rd (Z0 .i64) (i9 : Int))], [(2, Ze g2 22 (Z2 Z0n) t1), (1001, Zc v8 3 (Z0 .i64) l7)])) (((t1.length : Int) : Int).toNat, 0, [], v4) ⟨Cnt.start _, h⟩ (FX rfl) ?_
 rintro ⟨m10, i9, l7, v8⟩ ⟨hsf1, h⟩
 dsimp only at hsf1 h ⊢
 cases m10 with
 | zero =>
  unfold Zad at h
  refine SR <| Ac (Zn rfl rfl (vt rfl) (vt rfl)) rfl <| Nl <| sq <| Cn rfl (fun hc => absurd (of_decide_eq_true hc) hsf1.zero) (fun hc => ?_)
  refine xt <| sq <| AW.freezeB 1 2 rfl rfl rfl ?_
  obtain ⟨l11, hl11, h⟩ := Za h
  refine Rg <| Mw rfl <| Ac (Y9j (cs := [.tmp 1]) (CAs := [rp (Z2 Z0n) t1]) (fun x z => Zhd x z t1) rfl rfl Yk3 ⟨vt rfl, trivial⟩ (fun x z y h => Ydq _ _ _ y h)) rfl <| Cv rfl (Z1b 1001 (xs := [.tmp 18, .tmp 19]) (Ylp _ _ _ _ hl11) Yfc rfl rfl ⟨vt rfl, vt rfl, trivial⟩ rfl) fun _u => Nl <| SR <| Mw rfl <| Aw rfl <| Nl <| AW.freezes [2, 3, 18, 21] 1001 rfl ⟨rfl, rfl, rfl, rfl, trivial⟩ rfl <| rt ?_
  cases h; exact Zg Tryz.results135 rfl (Z4 rfl)
 | succ m10 =>
  unfold Zad at h
  refine SR <| Ac (Zn rfl rfl (vt rfl) (vt rfl)) rfl <| Nl <| sq <| Cn rfl (fun hc => ?_) (fun hc => absurd hsf1.succ (of_decide_eq_false hc))
  have hlti9 := of_decide_eq_true hc
  refine sk <| sq <| bk <| SR <| Md rfl <| As rfl <| Nl ?_
  obtain ⟨l12, hl12, h⟩ := Za h
  refine Rg <| Mw rfl <| Md rfl <| Ac (osl Z0y zr3 rfl (vt rfl)) rfl <| Cv rfl (Z2m 1001 hl12 rfl rfl Zlp (vt rfl) rfl (vt rfl)) fun v13 => Aw rfl <| Nl <| Rg <| Ac (Z23 (t := 9) rfl rfl (vt rfl) (vk rfl) (vt rfl) hlti9) rfl <| Md rfl <| Nl ?_
  exact ⟨(_, _, _, _), Nat.lt_succ_self _, ⟨hsf1.next, h⟩, FX rfl⟩
def Z88 (x1 : Int) : Option Bool :=
 some ((decide (x1 ≥ 0)) && (decide (x1 < 24)))
theorem Znn : Q1 Tryz.prog 269 (rd (Z0 .i64)) (rd Z7) Z88 := fun x1 r h => I0 Tryz.func269 rfl Tryz.ntmps269 rfl fun w H => by
 unfold Z88 at h
 refine SR <| Ab rfl <| Nl <| SR <| Md rfl <| Ac (Z4z rfl rfl (vt rfl) (vk rfl)) rfl <| Md rfl <| Gd rfl (fun hq => Zs (A := rd (Z0 .i64) x1) rfl rfl (vt rfl)) <| Gd rfl (fun hq => Zn rfl rfl (Zo rfl hq) (vk rfl)) <| Ac (Z1t rfl rfl (vt rfl) (vt rfl)) rfl <| As rfl <| Nl <| rt ?_
 cases h; exact Zg Tryz.results269 rfl (Z4 rfl)
def Zlk : Option Y67 :=
 some (Vector.set (Vector.set (Vector.set (Vector.set (Vector.set (Vector.set (Vector.set (Vector.set (Vector.set (Vector.set (Vector.set (Vector.set (Vector.set (Vector.set (Vector.set (Vector.set (Vector.set (Vector.set (Vector.set (Vector.set (Vector.set (Vector.set (Vector.set (Vector.set (Vector.replicate 24 Zhy) 0 (⟨{ data := #[105, 110, 95, 112, 111, 114, 116] }, 0, 32, false⟩ : field_row) (by decide)) 1 (⟨{ data := #[109, 101, 116, 97, 100, 97, 116, 97] }, 2, 64, true⟩ : field_row) (by decide)) 2 (⟨{ data := #[101, 116, 104, 95, 100, 115, 116] }, 3, 48, true⟩ : field_row) (by decide)) 3 (⟨{ data := #[101, 116, 104, 95, 115, 114, 99] }, 4, 48, true⟩ : field_row) (by decide)) 4 (⟨{ data := #[101, 116, 104, 95, 116, 121, 112, 101] }, 5, 16, false⟩ : field_row) (by decide)) 5 (⟨{ data := #[118, 108, 97, 110, 95, 118, 105, 100] }, 6, 13, true⟩ : field_row) (by decide)) 6 (⟨{ data := #[118, 108, 97, 110, 95, 112, 99, 112] }, 7, 3, false⟩ : field_row) (by decide)) 7 (⟨{ data := #[105, 112, 95, 100, 115, 99, 112] }, 8, 6, false⟩ : field_row) (by decide)) 8 (⟨{ data := #[105, 112, 95, 101, 99, 110] }, 9, 2, false⟩ : field_row) (by decide)) 9 (⟨{ data := #[105, 112, 95, 112, 114, 111, 116, 111] }, 10, 8, false⟩ : field_row) (by decide)) 10 (⟨{ data := #[105, 112, 118, 52, 95, 115, 114, 99] }, 11, 32, true⟩ : field_row) (by decide)) 11 (⟨{ data := #[105, 112, 118, 52, 95, 100, 115, 116] }, 12, 32, true⟩ : field_row) (by decide)) 12 (⟨{ data := #[116, 99, 112, 95, 115, 114, 99] }, 13, 16, false⟩ : field_row) (by decide)) 13 (⟨{ data := #[116, 99, 112, 95, 100, 115, 116] }, 14, 16, false⟩ : field_row) (by decide)) 14 (⟨{ data := #[117, 100, 112, 95, 115, 114, 99] }, 15, 16, false⟩ : field_row) (by decide)) 15 (⟨{ data := #[117, 100, 112, 95, 100, 115, 116] }, 16, 16, false⟩ : field_row) (by decide)) 16 (⟨{ data := #[105, 99, 109, 112, 118, 52, 95, 116, 121, 112, 101] }, 19, 8, false⟩ : field_row) (by decide)) 17 (⟨{ data := #[105, 99, 109, 112, 118, 52, 95, 99, 111, 100, 101] }, 20, 8, false⟩ : field_row) (by decide)) 18 (⟨{ data := #[97, 114, 112, 95, 111, 112] }, 21, 16, false⟩ : field_row) (by decide)) 19 (⟨{ data := #[97, 114, 112, 95, 115, 112, 97] }, 22, 32, true⟩ : field_row) (by decide)) 20 (⟨{ data := #[97, 114, 112, 95, 116, 112, 97] }, 23, 32, true⟩ : field_row) (by decide)) 21 (⟨{ data := #[105, 112, 118, 54, 95, 115, 114, 99] }, 26, 128, true⟩ : field_row) (by decide)) 22 (⟨{ data := #[105, 112, 118, 54, 95, 100, 115, 116] }, 27, 128, true⟩ : field_row) (by decide)) 23 (⟨{ data := #[109, 112, 108, 115, 95, 108, 97, 98, 101, 108] }, 34, 20, false⟩ : field_row) (by decide))
theorem Ym9 : Q0 Tryz.prog 344 (rd (Z1 24 Z1u)) Zlk := fun r h => I0 Tryz.func344 rfl Tryz.ntmps344 rfl fun w H => by
 unfold Zlk at h
 refine SR <| Cv rfl (Zp 1 rfl rfl Zy3) fun g1 => Nl <| SR <| Ac (Z1e (ps := [(0, .const (Value.string { data := #[105, 110, 95, 112, 111, 114, 116] })), (1, .const (Value.int IntKind.i64 0)), (2, .const (Value.int IntKind.i64 32)), (3, .const (Value.bool false))]) (x := (⟨{ data := #[105, 110, 95, 112, 111, 114, 116] }, 0, 32, false⟩ : field_row)) rfl rfl rfl (by kernel_rfl) Z2s ⟨_, _, Z32, _, by kernel_rfl, (vs (by decide)), _, _, lfield_row_1, _, by kernel_rfl, (vk rfl), _, _, Z2p, _, by kernel_rfl, (vk rfl), _, _, Z34, _, by kernel_rfl, vb, rfl⟩) rfl <| Ac (Z1e (ps := [(0, .const (Value.string { data := #[109, 101, 116, 97, 100, 97, 116, 97] })), (1, .const (Value.int IntKind.i64 2)), (2, .const (Value.int IntKind.i64 64)), (3, .const (Value.bool true))]) (x := (⟨{ data := #[109, 101, 116, 97, 100, 97, 116, 97] }, 2, 64, true⟩ : field_row)) rfl rfl rfl (by kernel_rfl) Z2s ⟨_, _, Z32, _, by kernel_rfl, (vs (by decide)), _, _, lfield_row_1, _, by kernel_rfl, (vk rfl), _, _, Z2p, _, by kernel_rfl, (vk rfl), _, _, Z34, _, by kernel_rfl, vb, rfl⟩) rfl <| Ac (Z1e (ps := [(0, .const (Value.string { data := #[101, 116, 104, 95, 100, 115, 116] })), (1, .const (Value.int IntKind.i64 3)), (2, .const (Value.int IntKind.i64 48)), (3, .const (Value.bool true))]) (x := (⟨{ data := #[101, 116, 104, 95, 100, 115, 116] }, 3, 48, true⟩ : field_row)) rfl rfl rfl (by kernel_rfl) Z2s ⟨_, _, Z32, _, by kernel_rfl, (vs (by decide)), _, _, lfield_row_1, _, by kernel_rfl, (vk rfl), _, _, Z2p, _, by kernel_rfl, (vk rfl), _, _, Z34, _, by kernel_rfl, vb, rfl⟩) rfl <| Ac (Z1e (ps := [(0, .const (Value.string { data := #[101, 116, 104, 95, 115, 114, 99] })), (1, .const (Value.int IntKind.i64 4)), (2, .const (Value.int IntKind.i64 48)), (3, .const (Value.bool true))]) (x := (⟨{ data := #[101, 116, 104, 95, 115, 114, 99] }, 4, 48, true⟩ : field_row)) rfl rfl rfl (by kernel_rfl) Z2s ⟨_, _, Z32, _, by kernel_rfl, (vs (by decide)), _, _, lfield_row_1, _, by kernel_rfl, (vk rfl), _, _, Z2p, _, by kernel_rfl, (vk rfl), _, _, Z34, _, by kernel_rfl, vb, rfl⟩) rfl <| Ac (Z1e (ps := [(0, .const (Value.string { data := #[101, 116, 104, 95, 116, 121, 112, 101] })), (1, .const (Value.int IntKind.i64 5)), (2, .const (Value.int IntKind.i64 16)), (3, .const (Value.bool false))]) (x := (⟨{ data := #[101, 116, 104, 95, 116, 121, 112, 101] }, 5, 16, false⟩ : field_row)) rfl rfl rfl (by kernel_rfl) Z2s ⟨_, _, Z32, _, by kernel_rfl, (vs (by decide)), _, _, lfield_row_1, _, by kernel_rfl, (vk rfl), _, _, Z2p, _, by kernel_rfl, (vk rfl), _, _, Z34, _, by kernel_rfl, vb, rfl⟩) rfl <| Ac (Z1e (ps := [(0, .const (Value.string { data := #[118, 108, 97, 110, 95, 118, 105, 100] })), (1, .const (Value.int IntKind.i64 6)), (2, .const (Value.int IntKind.i64 13)), (3, .const (Value.bool true))]) (x := (⟨{ data := #[118, 108, 97, 110, 95, 118, 105, 100] }, 6, 13, true⟩ : field_row)) rfl rfl rfl (by kernel_rfl) Z2s ⟨_, _, Z32, _, by kernel_rfl, (vs (by decide)), _, _, lfield_row_1, _, by kernel_rfl, (vk rfl), _, _, Z2p, _, by kernel_rfl, (vk rfl), _, _, Z34, _, by kernel_rfl, vb, rfl⟩) rfl ?_
 refine Ac (Z1e (ps := [(0, .const (Value.string { data := #[118, 108, 97, 110, 95, 112, 99, 112] })), (1, .const (Value.int IntKind.i64 7)), (2, .const (Value.int IntKind.i64 3)), (3, .const (Value.bool false))]) (x := (⟨{ data := #[118, 108, 97, 110, 95, 112, 99, 112] }, 7, 3, false⟩ : field_row)) rfl rfl rfl (by kernel_rfl) Z2s ⟨_, _, Z32, _, by kernel_rfl, (vs (by decide)), _, _, lfield_row_1, _, by kernel_rfl, (vk rfl), _, _, Z2p, _, by kernel_rfl, (vk rfl), _, _, Z34, _, by kernel_rfl, vb, rfl⟩) rfl <| Ac (Z1e (ps := [(0, .const (Value.string { data := #[105, 112, 95, 100, 115, 99, 112] })), (1, .const (Value.int IntKind.i64 8)), (2, .const (Value.int IntKind.i64 6)), (3, .const (Value.bool false))]) (x := (⟨{ data := #[105, 112, 95, 100, 115, 99, 112] }, 8, 6, false⟩ : field_row)) rfl rfl rfl (by kernel_rfl) Z2s ⟨_, _, Z32, _, by kernel_rfl, (vs (by decide)), _, _, lfield_row_1, _, by kernel_rfl, (vk rfl), _, _, Z2p, _, by kernel_rfl, (vk rfl), _, _, Z34, _, by kernel_rfl, vb, rfl⟩) rfl <| Ac (Z1e (ps := [(0, .const (Value.string { data := #[105, 112, 95, 101, 99, 110] })), (1, .const (Value.int IntKind.i64 9)), (2, .const (Value.int IntKind.i64 2)), (3, .const (Value.bool false))]) (x := (⟨{ data := #[105, 112, 95, 101, 99, 110] }, 9, 2, false⟩ : field_row)) rfl rfl rfl (by kernel_rfl) Z2s ⟨_, _, Z32, _, by kernel_rfl, (vs (by decide)), _, _, lfield_row_1, _, by kernel_rfl, (vk rfl), _, _, Z2p, _, by kernel_rfl, (vk rfl), _, _, Z34, _, by kernel_rfl, vb, rfl⟩) rfl <| Ac (Z1e (ps := [(0, .const (Value.string { data := #[105, 112, 95, 112, 114, 111, 116, 111] })), (1, .const (Value.int IntKind.i64 10)), (2, .const (Value.int IntKind.i64 8)), (3, .const (Value.bool false))]) (x := (⟨{ data := #[105, 112, 95, 112, 114, 111, 116, 111] }, 10, 8, false⟩ : field_row)) rfl rfl rfl (by kernel_rfl) Z2s ⟨_, _, Z32, _, by kernel_rfl, (vs (by decide)), _, _, lfield_row_1, _, by kernel_rfl, (vk rfl), _, _, Z2p, _, by kernel_rfl, (vk rfl), _, _, Z34, _, by kernel_rfl, vb, rfl⟩) rfl <| Ac (Z1e (ps := [(0, .const (Value.string { data := #[105, 112, 118, 52, 95, 115, 114, 99] })), (1, .const (Value.int IntKind.i64 11)), (2, .const (Value.int IntKind.i64 32)), (3, .const (Value.bool true))]) (x := (⟨{ data := #[105, 112, 118, 52, 95, 115, 114, 99] }, 11, 32, true⟩ : field_row)) rfl rfl rfl (by kernel_rfl) Z2s ⟨_, _, Z32, _, by kernel_rfl, (vs (by decide)), _, _, lfield_row_1, _, by kernel_rfl, (vk rfl), _, _, Z2p, _, by kernel_rfl, (vk rfl), _, _, Z34, _, by kernel_rfl, vb, rfl⟩) rfl <| Ac (Z1e (ps := [(0, .const (Value.string { data := #[105, 112, 118, 52, 95, 100, 115, 116] })), (1, .const (Value.int IntKind.i64 12)), (2, .const (Value.int IntKind.i64 32)), (3, .const (Value.bool true))]) (x := (⟨{ data := #[105, 112, 118, 52, 95, 100, 115, 116] }, 12, 32, true⟩ : field_row)) rfl rfl rfl (by kernel_rfl) Z2s ⟨_, _, Z32, _, by kernel_rfl, (vs (by decide)), _, _, lfield_row_1, _, by kernel_rfl, (vk rfl), _, _, Z2p, _, by kernel_rfl, (vk rfl), _, _, Z34, _, by kernel_rfl, vb, rfl⟩) rfl ?_
 refine Ac (Z1e (ps := [(0, .const (Value.string { data := #[116, 99, 112, 95, 115, 114, 99] })), (1, .const (Value.int IntKind.i64 13)), (2, .const (Value.int IntKind.i64 16)), (3, .const (Value.bool false))]) (x := (⟨{ data := #[116, 99, 112, 95, 115, 114, 99] }, 13, 16, false⟩ : field_row)) rfl rfl rfl (by kernel_rfl) Z2s ⟨_, _, Z32, _, by kernel_rfl, (vs (by decide)), _, _, lfield_row_1, _, by kernel_rfl, (vk rfl), _, _, Z2p, _, by kernel_rfl, (vk rfl), _, _, Z34, _, by kernel_rfl, vb, rfl⟩) rfl <| Ac (Z1e (ps := [(0, .const (Value.string { data := #[116, 99, 112, 95, 100, 115, 116] })), (1, .const (Value.int IntKind.i64 14)), (2, .const (Value.int IntKind.i64 16)), (3, .const (Value.bool false))]) (x := (⟨{ data := #[116, 99, 112, 95, 100, 115, 116] }, 14, 16, false⟩ : field_row)) rfl rfl rfl (by kernel_rfl) Z2s ⟨_, _, Z32, _, by kernel_rfl, (vs (by decide)), _, _, lfield_row_1, _, by kernel_rfl, (vk rfl), _, _, Z2p, _, by kernel_rfl, (vk rfl), _, _, Z34, _, by kernel_rfl, vb, rfl⟩) rfl <| Ac (Z1e (ps := [(0, .const (Value.string { data := #[117, 100, 112, 95, 115, 114, 99] })), (1, .const (Value.int IntKind.i64 15)), (2, .const (Value.int IntKind.i64 16)), (3, .const (Value.bool false))]) (x := (⟨{ data := #[117, 100, 112, 95, 115, 114, 99] }, 15, 16, false⟩ : field_row)) rfl rfl rfl (by kernel_rfl) Z2s ⟨_, _, Z32, _, by kernel_rfl, (vs (by decide)), _, _, lfield_row_1, _, by kernel_rfl, (vk rfl), _, _, Z2p, _, by kernel_rfl, (vk rfl), _, _, Z34, _, by kernel_rfl, vb, rfl⟩) rfl <| Ac (Z1e (ps := [(0, .const (Value.string { data := #[117, 100, 112, 95, 100, 115, 116] })), (1, .const (Value.int IntKind.i64 16)), (2, .const (Value.int IntKind.i64 16)), (3, .const (Value.bool false))]) (x := (⟨{ data := #[117, 100, 112, 95, 100, 115, 116] }, 16, 16, false⟩ : field_row)) rfl rfl rfl (by kernel_rfl) Z2s ⟨_, _, Z32, _, by kernel_rfl, (vs (by decide)), _, _, lfield_row_1, _, by kernel_rfl, (vk rfl), _, _, Z2p, _, by kernel_rfl, (vk rfl), _, _, Z34, _, by kernel_rfl, vb, rfl⟩) rfl <| Ac (Z1e (ps := [(0, .const (Value.string { data := #[105, 99, 109, 112, 118, 52, 95, 116, 121, 112, 101] })), (1, .const (Value.int IntKind.i64 19)), (2, .const (Value.int IntKind.i64 8)), (3, .const (Value.bool false))]) (x := (⟨{ data := #[105, 99, 109, 112, 118, 52, 95, 116, 121, 112, 101] }, 19, 8, false⟩ : field_row)) rfl rfl rfl (by kernel_rfl) Z2s ⟨_, _, Z32, _, by kernel_rfl, (vs (by decide)), _, _, lfield_row_1, _, by kernel_rfl, (vk rfl), _, _, Z2p, _, by kernel_rfl, (vk rfl), _, _, Z34, _, by kernel_rfl, vb, rfl⟩) rfl <| Ac (Z1e (ps := [(0, .const (Value.string { data := #[105, 99, 109, 112, 118, 52, 95, 99, 111, 100, 101] })), (1, .const (Value.int IntKind.i64 20)), (2, .const (Value.int IntKind.i64 8)), (3, .const (Value.bool false))]) (x := (⟨{ data := #[105, 99, 109, 112, 118, 52, 95, 99, 111, 100, 101] }, 20, 8, false⟩ : field_row)) rfl rfl rfl (by kernel_rfl) Z2s ⟨_, _, Z32, _, by kernel_rfl, (vs (by decide)), _, _, lfield_row_1, _, by kernel_rfl, (vk rfl), _, _, Z2p, _, by kernel_rfl, (vk rfl), _, _, Z34, _, by kernel_rfl, vb, rfl⟩) rfl ?_
 refine Ac (Z1e (ps := [(0, .const (Value.string { data := #[97, 114, 112, 95, 111, 112] })), (1, .const (Value.int IntKind.i64 21)), (2, .const (Value.int IntKind.i64 16)), (3, .const (Value.bool false))]) (x := (⟨{ data := #[97, 114, 112, 95, 111, 112] }, 21, 16, false⟩ : field_row)) rfl rfl rfl (by kernel_rfl) Z2s ⟨_, _, Z32, _, by kernel_rfl, (vs (by decide)), _, _, lfield_row_1, _, by kernel_rfl, (vk rfl), _, _, Z2p, _, by kernel_rfl, (vk rfl), _, _, Z34, _, by kernel_rfl, vb, rfl⟩) rfl <| Ac (Z1e (ps := [(0, .const (Value.string { data := #[97, 114, 112, 95, 115, 112, 97] })), (1, .const (Value.int IntKind.i64 22)), (2, .const (Value.int IntKind.i64 32)), (3, .const (Value.bool true))]) (x := (⟨{ data := #[97, 114, 112, 95, 115, 112, 97] }, 22, 32, true⟩ : field_row)) rfl rfl rfl (by kernel_rfl) Z2s ⟨_, _, Z32, _, by kernel_rfl, (vs (by decide)), _, _, lfield_row_1, _, by kernel_rfl, (vk rfl), _, _, Z2p, _, by kernel_rfl, (vk rfl), _, _, Z34, _, by kernel_rfl, vb, rfl⟩) rfl <| Ac (Z1e (ps := [(0, .const (Value.string { data := #[97, 114, 112, 95, 116, 112, 97] })), (1, .const (Value.int IntKind.i64 23)), (2, .const (Value.int IntKind.i64 32)), (3, .const (Value.bool true))]) (x := (⟨{ data := #[97, 114, 112, 95, 116, 112, 97] }, 23, 32, true⟩ : field_row)) rfl rfl rfl (by kernel_rfl) Z2s ⟨_, _, Z32, _, by kernel_rfl, (vs (by decide)), _, _, lfield_row_1, _, by kernel_rfl, (vk rfl), _, _, Z2p, _, by kernel_rfl, (vk rfl), _, _, Z34, _, by kernel_rfl, vb, rfl⟩) rfl <| Ac (Z1e (ps := [(0, .const (Value.string { data := #[105, 112, 118, 54, 95, 115, 114, 99] })), (1, .const (Value.int IntKind.i64 26)), (2, .const (Value.int IntKind.i64 128)), (3, .const (Value.bool true))]) (x := (⟨{ data := #[105, 112, 118, 54, 95, 115, 114, 99] }, 26, 128, true⟩ : field_row)) rfl rfl rfl (by kernel_rfl) Z2s ⟨_, _, Z32, _, by kernel_rfl, (vs (by decide)), _, _, lfield_row_1, _, by kernel_rfl, (vk rfl), _, _, Z2p, _, by kernel_rfl, (vk rfl), _, _, Z34, _, by kernel_rfl, vb, rfl⟩) rfl <| Ac (Z1e (ps := [(0, .const (Value.string { data := #[105, 112, 118, 54, 95, 100, 115, 116] })), (1, .const (Value.int IntKind.i64 27)), (2, .const (Value.int IntKind.i64 128)), (3, .const (Value.bool true))]) (x := (⟨{ data := #[105, 112, 118, 54, 95, 100, 115, 116] }, 27, 128, true⟩ : field_row)) rfl rfl rfl (by kernel_rfl) Z2s ⟨_, _, Z32, _, by kernel_rfl, (vs (by decide)), _, _, lfield_row_1, _, by kernel_rfl, (vk rfl), _, _, Z2p, _, by kernel_rfl, (vk rfl), _, _, Z34, _, by kernel_rfl, vb, rfl⟩) rfl <| Ac (Z1e (ps := [(0, .const (Value.string { data := #[109, 112, 108, 115, 95, 108, 97, 98, 101, 108] })), (1, .const (Value.int IntKind.i64 34)), (2, .const (Value.int IntKind.i64 20)), (3, .const (Value.bool false))]) (x := (⟨{ data := #[109, 112, 108, 115, 95, 108, 97, 98, 101, 108] }, 34, 20, false⟩ : field_row)) rfl rfl rfl (by kernel_rfl) Z2s ⟨_, _, Z32, _, by kernel_rfl, (vs (by decide)), _, _, lfield_row_1, _, by kernel_rfl, (vk rfl), _, _, Z2p, _, by kernel_rfl, (vk rfl), _, _, Z34, _, by kernel_rfl, vb, rfl⟩) rfl ?_
 refine Ac (Z1e (ps := [(0, .tmp 1), (1, .tmp 2), (2, .tmp 3), (3, .tmp 4), (4, .tmp 5), (5, .tmp 6), (6, .tmp 7), (7, .tmp 8), (8, .tmp 9), (9, .tmp 10), (10, .tmp 11), (11, .tmp 12), (12, .tmp 13), (13, .tmp 14), (14, .tmp 15), (15, .tmp 16), (16, .tmp 17), (17, .tmp 18), (18, .tmp 19), (19, .tmp 20), (20, .tmp 21), (21, .tmp 22), (22, .tmp 23), (23, .tmp 24)]) (x := (Vector.set (Vector.set (Vector.set (Vector.set (Vector.set (Vector.set (Vector.set (Vector.set (Vector.set (Vector.set (Vector.set (Vector.set (Vector.set (Vector.set (Vector.set (Vector.set (Vector.set (Vector.set (Vector.set (Vector.set (Vector.set (Vector.set (Vector.set (Vector.set (Vector.replicate 24 Zhy) 0 (⟨{ data := #[105, 110, 95, 112, 111, 114, 116] }, 0, 32, false⟩ : field_row) (by decide)) 1 (⟨{ data := #[109, 101, 116, 97, 100, 97, 116, 97] }, 2, 64, true⟩ : field_row) (by decide)) 2 (⟨{ data := #[101, 116, 104, 95, 100, 115, 116] }, 3, 48, true⟩ : field_row) (by decide)) 3 (⟨{ data := #[101, 116, 104, 95, 115, 114, 99] }, 4, 48, true⟩ : field_row) (by decide)) 4 (⟨{ data := #[101, 116, 104, 95, 116, 121, 112, 101] }, 5, 16, false⟩ : field_row) (by decide)) 5 (⟨{ data := #[118, 108, 97, 110, 95, 118, 105, 100] }, 6, 13, true⟩ : field_row) (by decide)) 6 (⟨{ data := #[118, 108, 97, 110, 95, 112, 99, 112] }, 7, 3, false⟩ : field_row) (by decide)) 7 (⟨{ data := #[105, 112, 95, 100, 115, 99, 112] }, 8, 6, false⟩ : field_row) (by decide)) 8 (⟨{ data := #[105, 112, 95, 101, 99, 110] }, 9, 2, false⟩ : field_row) (by decide)) 9 (⟨{ data := #[105, 112, 95, 112, 114, 111, 116, 111] }, 10, 8, false⟩ : field_row) (by decide)) 10 (⟨{ data := #[105, 112, 118, 52, 95, 115, 114, 99] }, 11, 32, true⟩ : field_row) (by decide)) 11 (⟨{ data := #[105, 112, 118, 52, 95, 100, 115, 116] }, 12, 32, true⟩ : field_row) (by decide)) 12 (⟨{ data := #[116, 99, 112, 95, 115, 114, 99] }, 13, 16, false⟩ : field_row) (by decide)) 13 (⟨{ data := #[116, 99, 112, 95, 100, 115, 116] }, 14, 16, false⟩ : field_row) (by decide)) 14 (⟨{ data := #[117, 100, 112, 95, 115, 114, 99] }, 15, 16, false⟩ : field_row) (by decide)) 15 (⟨{ data := #[117, 100, 112, 95, 100, 115, 116] }, 16, 16, false⟩ : field_row) (by decide)) 16 (⟨{ data := #[105, 99, 109, 112, 118, 52, 95, 116, 121, 112, 101] }, 19, 8, false⟩ : field_row) (by decide)) 17 (⟨{ data := #[105, 99, 109, 112, 118, 52, 95, 99, 111, 100, 101] }, 20, 8, false⟩ : field_row) (by decide)) 18 (⟨{ data := #[97, 114, 112, 95, 111, 112] }, 21, 16, false⟩ : field_row) (by decide)) 19 (⟨{ data := #[97, 114, 112, 95, 115, 112, 97] }, 22, 32, true⟩ : field_row) (by decide)) 20 (⟨{ data := #[97, 114, 112, 95, 116, 112, 97] }, 23, 32, true⟩ : field_row) (by decide)) 21 (⟨{ data := #[105, 112, 118, 54, 95, 115, 114, 99] }, 26, 128, true⟩ : field_row) (by decide)) 22 (⟨{ data := #[105, 112, 118, 54, 95, 100, 115, 116] }, 27, 128, true⟩ : field_row) (by decide)) 23 (⟨{ data := #[109, 112, 108, 115, 95, 108, 97, 98, 101, 108] }, 34, 20, false⟩ : field_row) (by decide))) rfl rfl rfl (by kernel_rfl) Zy3 ⟨_, _, Lens.idx 24 Z1u 0 (by decide), _, by kernel_rfl, (vt rfl), _, _, Lens.idx 24 Z1u 1 (by decide), _, by kernel_rfl, (vt rfl), _, _, Lens.idx 24 Z1u 2 (by decide), _, by kernel_rfl, (vt rfl), _, _, Lens.idx 24 Z1u 3 (by decide), _, by kernel_rfl, (vt rfl), _, _, Lens.idx 24 Z1u 4 (by decide), _, by kernel_rfl, (vt rfl), _, _, Lens.idx 24 Z1u 5 (by decide), _, by kernel_rfl, (vt rfl), _, _, Lens.idx 24 Z1u 6 (by decide), _, by kernel_rfl, (vt rfl), _, _, Lens.idx 24 Z1u 7 (by decide), _, by kernel_rfl, (vt rfl), _, _, Lens.idx 24 Z1u 8 (by decide), _, by kernel_rfl, (vt rfl), _, _, Lens.idx 24 Z1u 9 (by decide), _, by kernel_rfl, (vt rfl), _, _, Lens.idx 24 Z1u 10 (by decide), _, by kernel_rfl, (vt rfl), _, _, Lens.idx 24 Z1u 11 (by decide), _, by kernel_rfl, (vt rfl), _, _, Lens.idx 24 Z1u 12 (by decide), _, by kernel_rfl, (vt rfl), _, _, Lens.idx 24 Z1u 13 (by decide), _, by kernel_rfl, (vt rfl), _, _, Lens.idx 24 Z1u 14 (by decide), _, by kernel_rfl, (vt rfl), _, _, Lens.idx 24 Z1u 15 (by decide), _, by kernel_rfl, (vt rfl), _, _, Lens.idx 24 Z1u 16 (by decide), _, by kernel_rfl, (vt rfl), _, _, Lens.idx 24 Z1u 17 (by decide), _, by kernel_rfl, (vt rfl), _, _, Lens.idx 24 Z1u 18 (by decide), _, by kernel_rfl, (vt rfl), _, _, Lens.idx 24 Z1u 19 (by decide), _, by kernel_rfl, (vt rfl), _, _, Lens.idx 24 Z1u 20 (by decide), _, by kernel_rfl, (vt rfl), _, _, Lens.idx 24 Z1u 21 (by decide), _, by kernel_rfl, (vt rfl), _, _, Lens.idx 24 Z1u 22 (by decide), _, by kernel_rfl, (vt rfl), _, _, Lens.idx 24 Z1u 23 (by decide), _, by kernel_rfl, (vt rfl), rfl⟩) rfl ?_
 refine Zh Zv0 1 rfl <| Nl <| rt ?_
 cases h; exact Zg Tryz.results344 rfl (Zz rfl (i := 1) rfl Zv0)
def Zn3 (x1 : Int) : Option field_row :=
 (Z88 x1).bind fun x3 => (bif (!x3) then some (⟨(⟨#[]⟩ : ByteArray), (-1), 0, false⟩ : field_row) else (Zlk).bind fun x4 => (lget (Vector.toList x4) x1).bind fun x5 => some x5)
theorem Ydh : Q1 Tryz.prog 336 (rd (Z0 .i64)) (rd Z1u) Zn3 := fun x1 r h => I0 Tryz.func336 rfl Tryz.ntmps336 rfl fun w H => by
 unfold Zn3 at h
 refine SR <| Cv rfl (Zp 3 rfl rfl Z2s) fun g2 => Nl <| sq <| sq ?_
 obtain ⟨x3, hx3, h⟩ := Za h
 refine Rg <| Md rfl <| Cl [3] (Znn _ _ hx3) Zmk rfl <| Ac (Z15 rfl rfl (vt rfl)) rfl <| Nl <| Cq rfl h (fun h => ?_) (fun h => ?_)
 ·refine SR <| Ac (opb (⟨(⟨#[]⟩ : ByteArray), (-1), 0, false⟩ : field_row) Z2s rfl Yex (pc Ykc (vk rfl) <| pn rfl)) rfl <| Zh Zl5 3 rfl <| Nl <| rt ?_
  cases h; exact Zg Tryz.results336 rfl (Zz rfl (i := 3) rfl Zl5)
 ·refine sk <| sq ?_
  obtain ⟨x4, hx4, x5, hx5, h⟩ := bs2 h
  refine Rg <| Cl [] (Ym9 _ hx4) Ycw rfl <| Md rfl <| Ac (Zb4 rfl rfl Yci Zl5 (vt rfl) (vt rfl) hx5) rfl <| Zh Zl5 3 rfl <| Nl <| rt ?_
  cases h; exact Zg Tryz.results336 rfl (Zz rfl (i := 3) rfl Zl5)
def Ze6 (x1 : Int) : Option Int :=
 (Zn3 x1).bind fun x2 => some x2.bits
theorem Ygl : Q1 Tryz.prog 312 (rd (Z0 .i64)) (rd (Z0 .i64)) Ze6 := fun x1 r h => I0 Tryz.func312 rfl Tryz.ntmps312 rfl fun w H => by
 unfold Ze6 at h
 refine SR <| Ak rfl <| Nl <| sq ?_
 obtain ⟨x2, hx2, h⟩ := Za h
 refine Rg <| Md rfl <| Cl [3] (Ydh _ _ hx2) Y9r rfl <| Ac (Zwv Z2p rfl rfl Yg6 Yg8 Zt rfl (vt rfl)) rfl <| As rfl <| Nl <| rt ?_
 cases h; exact Zg Tryz.results312 rfl (Z4 rfl)
def Zfr (n1 : Int) : Option (BitVec 64) :=
 (bif (decide (n1 ≥ 64)) then some (18446744073709551615 : BitVec 64) else (Z93 (1 : BitVec 64) (Z22 n1 0)).bind fun q2 => some (q2 - (1 : BitVec 64)))
theorem Zwq : Q1 Tryz.prog 299 (rd (Z0 .i64)) (rd Z0o) Zfr := fun n1 r h => I0 Tryz.func299 rfl Tryz.ntmps299 rfl fun w H => by
 unfold Zfr at h
 refine SR <| Ac (Zy (A := rd Z0o (0 : BitVec 64)) rfl rfl (vku (0 : BitVec 64) rfl)) rfl <| Nl <| sq <| SR <| Md rfl <| Ac (Z4z rfl rfl (vt rfl) (vk rfl)) rfl <| Nl <| Cq rfl h (fun h => ?_) (fun h => ?_)
 ·refine SR <| Ac (Zy (A := rd Z0o (18446744073709551615 : BitVec 64)) rfl rfl (vku (18446744073709551615 : BitVec 64) rfl)) rfl <| Nl <| rt ?_
  cases h; exact Zg Tryz.results299 rfl (Z4 rfl)
 ·refine sk <| sq ?_
  obtain ⟨q2, hq2, h⟩ := Za h
  refine Rg <| Md rfl <| Ac (Zgm rfl rfl (vt rfl) (vk rfl)) rfl <| Ac (Zme rfl rfl (vku (1 : BitVec 64) rfl) (vt rfl) hq2) rfl <| Ac (Yfz rfl rfl (vt rfl) (vku (1 : BitVec 64) rfl)) rfl <| As rfl <| Nl <| rt ?_
  cases h; exact Zg Tryz.results299 rfl (Z4 rfl)
def Z9t (n1 : Int) : Option Wide :=
 (Zfr (IntKind.i64.wrap ((Z5a (Z22 n1 0) 128) - 64))).bind fun x3 => (Zfr (Z5a (Z22 n1 0) 128)).bind fun x4 => some (⟨x3, x4⟩ : Wide)
theorem Zqe : Q1 Tryz.prog 254 (rd (Z0 .i64)) (rd Zd) Z9t := fun n1 r h => I0 Tryz.func254 rfl Tryz.ntmps254 rfl fun w H => by
 unfold Z9t at h
 refine SR <| Cv rfl (Zp 3 rfl rfl Z1s) fun g2 => Nl <| SR <| Md rfl <| Ac (Zgm rfl rfl (vt rfl) (vk rfl)) rfl <| Ac (Zq1 rfl rfl (vt rfl) (vk rfl)) rfl <| As rfl <| Nl <| sq ?_
 obtain ⟨x3, hx3, x4, hx4, h⟩ := bs2 h
 refine Rg <| Md rfl <| Ac (Z0p rfl rfl (vt rfl) (vk rfl)) rfl <| Cl [7] (Zwq _ _ hx3) Y1j rfl <| Md rfl <| Cl [9] (Zwq _ _ hx4) Y1j rfl <| Ac (opb (⟨x3, x4⟩ : Wide) Z1s rfl Z3o (pc Z7f (vt rfl) <| pc Z6d (vt rfl) <| pn rfl)) rfl <| Zh Zu 3 rfl <| Nl <| rt ?_
 cases h; exact Zg Tryz.results254 rfl (Zz rfl (i := 3) rfl Zu)
def Zga (o1 : Oxm) : Option Tern :=
 (Z88 o1.Field).bind fun x4 => (bif (!x4) then some (⟨Z09, Z09⟩ : Tern) else (bif o1.Masked then some (⟨o1.Value, o1.Mask⟩ : Tern) else (Ze6 o1.Field).bind fun x5 => (Z9t x5).bind fun x6 => some (⟨o1.Value, x6⟩ : Tern)))
theorem Zvb : Q1 Tryz.prog 275 (rd Z2f) (rd Z3) Zga := fun o1 r h => I0 Tryz.func275 rfl Tryz.ntmps275 rfl fun w H => by
 unfold Zga at h
 refine SR <| Cv rfl (Zl 2 rfl rfl (vt rfl)) fun g2 => Cv rfl (Zp 3 rfl rfl Z1d) fun g3 => Nl <| sq <| bk <| sq ?_
 obtain ⟨x4, hx4, h⟩ := Za h
 refine Rg <| Zj Z4w Z55 rfl <| Ld Zt 2 rfl <| Cl [5] (Znn _ _ hx4) Zmk rfl <| Ac (Z15 rfl rfl (vt rfl)) rfl <| As rfl <| Nl <| Cq rfl h (fun h => ?_) (fun h => ?_)
 ·refine SR <| Ac (opb (⟨Z09, Z09⟩ : Tern) Z1d rfl Z3v (pn rfl)) rfl <| Zh Zw 3 rfl <| Nl <| rt ?_
  cases h; exact Zg Tryz.results275 rfl (Zz rfl (i := 3) rfl Zw)
 ·refine SR <| Zj Zu6 Zzi rfl <| Ld ty4 2 rfl <| As rfl <| Nl <| Cq rfl h (fun h => ?_) (fun h => ?_)
  ·refine SR <| Zj Zim Zox rfl <| Ld Zu 2 rfl <| Zj Zqz Zy5 rfl <| Ld Zu 2 rfl <| Ac (opb (⟨o1.Value, o1.Mask⟩ : Tern) Z1d rfl Z3v (pc Z59 (vt rfl) <| pc Z4k (vt rfl) <| pn rfl)) rfl <| Zh Zw 3 rfl <| Nl <| rt ?_
   cases h; exact Zg Tryz.results275 rfl (Zz rfl (i := 3) rfl Zw)
  ·refine sk <| sq ?_
   obtain ⟨x5, hx5, x6, hx6, h⟩ := bs2 h
   refine AR Zx (by kernel_rfl) <| SFd Zim Zox rfl <| Zk Zu 2 rfl <| SFd Z4w Z55 rfl <| Zk Zt 2 rfl <| SCl [20] (Ygl _ _ hx5) Yd9 rfl <| SCl [21] (Zqe _ _ hx6) Zse rfl <| Sd (lo [18, 22] [] rfl fun S hs hr => opb (⟨o1.Value, x6⟩ : Tern) Z1d rfl Z3v (pc Z59 (vh hs 18 rfl rfl) <| pc Z4k (vh hs 22 rfl rfl) <| pn rfl)) <| SSt Zw 3 rfl <| Sn <| rt ?_
   cases h; exact Zg Tryz.results275 rfl (Zz rfl (i := 3) rfl Zw)
def Zb8 : (List Oxm) → Nat → Z9 → Option Z9
 | [], i7, b6 => some b6
 | x9 :: l8, i7, b6 => (Z88 x9.Field).bind fun x11 => (bif x11 then (Zga x9).bind fun x12 => (chk 24 x9.Field).bind fun j13 => (Zb8 l8) (i7 + 1) (Vector.set b6 j13.1 x12 j13.2) else (Zb8 l8) (i7 + 1) b6)
def Zno (l1 : (List Oxm)) : Option Z9 :=
 (Zg8).bind fun x3 => Zb8 l1 0 x3
theorem Yme : Q1 Tryz.prog 229 (rd (Z2 Z2f)) (rd (Z1 24 Z3)) Zno := fun l1 r h => I0 Tryz.func229 rfl Tryz.ntmps229 rfl fun w H => by
 unfold Zno at h
 refine SR <| Cv rfl (Zp 3 rfl rfl Z13) fun g2 => Nl <| sq ?_
 obtain ⟨x3, hx3, h⟩ := Za h
 refine Rg <| Cl [] (Y25 _ hx3) e73 rfl <| Cv rfl (Zp 4 rfl rfl Z13) fun g4 => Zh Z01 4 rfl <| Nl <| sq <| SR <| Md rfl <| Ac (Z0x rfl rfl Zci (vt rfl)) rfl <| Mk rfl <| Nl <| bk <| LG (d := []) (ν := (List Oxm) × Nat × Z9) (fun (l8, i7, b6) => (Sfx l1 i7 l8 ∧ Zb8 l8 i7 b6 = some r, l8.length, [(2, Zb g2 (Lens.id (Z1 24 Z3))), (3, Zb g4 (Lens.id (Z1 24 Z3))), (7, rd (Z2 Z2f) l1), (8, rd (Z0 .i64) (l1.length : Int)), (9, rd (Z0 .i64) (i7 : Int))], [(3, Ze g2 87 (Z1 24 Z3) (Vector.replicate 24 zTern)), (4, Ze g4 87 (Z1 24 Z3) b6)])) (l1, 0, x3) ⟨Sfx.start _, h⟩ (FX rfl) ?_
 rintro ⟨l8, i7, b6⟩ ⟨hsf1, h⟩
 dsimp only at hsf1 h ⊢
 cases l8 with
 | nil =>
  unfold Zb8 at h
  refine SR <| Ac (Zn rfl rfl (vt rfl) (vt rfl)) rfl <| Nl <| sq <| Cn rfl (fun hc => absurd (of_decide_eq_true hc) hsf1.nil) (fun hc => ?_)
  refine xt <| SR <| Ld Z01 4 rfl <| Zh Z01 3 rfl <| Nl <| rt ?_
  cases h; exact Zg Tryz.results229 rfl (Zz rfl (i := 3) rfl Z01)
 | cons x9 l8 =>
  unfold Zb8 at h
  refine SR <| Ac (Zn rfl rfl (vt rfl) (vt rfl)) rfl <| Nl <| sq <| Cn rfl (fun hc => ?_) (fun hc => absurd hsf1.cons (of_decide_eq_false hc))
  have hlti7 := of_decide_eq_true hc
  refine sk <| sq <| bk <| SR <| Ac (Z0q rfl rfl Zci (vt rfl) (vt rfl) hsf1.lget) rfl <| Lp1 Zgj rfl <| Cv rfl (Zp 6 rfl rfl Yj6) fun g10 => Zh Zgj 6 rfl <| Nl <| sq ?_
  obtain ⟨x11, hx11, h⟩ := Za h
  refine Rg <| Zj Z4w Z55 rfl <| Ld Zt 6 rfl <| Cl [14] (Znn _ _ hx11) Zmk rfl <| Nl <| Cq rfl h (fun h => ?_) (fun h => ?_)
  ·obtain ⟨x12, hx12, j13, hj13, h⟩ := bs2 h
   refine AR Zx (by kernel_rfl) <| SFd Z4w Z55 rfl <| Zk Zt 6 rfl <| Zk Zgj 6 rfl <| SCl [18] (Zvb _ _ hx12) Y0i rfl <| Sd (lo [3, 17] [] rfl fun S hs hr => Z14 rfl rfl Z2h (vh hs 3 rfl rfl) (vh hs 17 rfl rfl) hj13) <| SSt Zw 4 rfl <| Sn <| Rg <| Ac (Z23 (t := 8) rfl rfl (vt rfl) (vk rfl) (vt rfl) hlti7) rfl <| Md rfl <| Nl ?_
   exact ⟨(_, _, _), Nat.lt_succ_self _, ⟨hsf1.next, h⟩, FX rfl⟩
  ·refine sk <| Rg <| Ac (Z23 (t := 8) rfl rfl (vt rfl) (vk rfl) (vt rfl) hlti7) rfl <| Md rfl <| Nl ?_
   exact ⟨(_, _, _), Nat.lt_succ_self _, ⟨hsf1.next, h⟩, FX rfl⟩
end Go.Proofs.YtknpgojdkobgjaaGreat.W
set_option maxRecDepth 4000
namespace Go.Proofs.YtknpgojdkobgjaaGreat.W
open Go Go.Wb
theorem Zlw : Ent Tryz.prog 177 := Ent.mk Tryz.func177 rfl rfl
theorem Z8t : Ent Tryz.prog 127 := Ent.mk Tryz.func127 rfl rfl
theorem Ybf : Ent Tryz.prog 197 := Ent.mk Tryz.func197 rfl rfl
theorem Zvk : Ent Tryz.prog 196 := Ent.mk Tryz.func196 rfl rfl
theorem Ym4 : Ent Tryz.prog 229 := Ent.mk Tryz.func229 rfl rfl
theorem Zzp : Ent Tryz.prog 126 := Ent.mk Tryz.func126 rfl rfl
theorem Yc1 : Ent Tryz.prog 237 := Ent.mk Tryz.func237 rfl rfl
def Zb0 (a1 : Wide) (b2 : Wide) : Option Wide :=
 some (⟨(a1.Hi &&& b2.Hi), (a1.Lo &&& b2.Lo)⟩ : Wide)
theorem Zio : Q2 Tryz.prog 177 (rd Zd) (rd Zd) (rd Zd) Zb0 := fun a1 b2 r h => I0 Tryz.func177 rfl Tryz.ntmps177 rfl fun w H => by
 unfold Zb0 at h
 refine SR <| Cv rfl (Zl 3 rfl rfl (vt rfl)) fun g3 => Cv rfl (Zl 4 rfl rfl (vt rfl)) fun g4 => Cv rfl (Zp 5 rfl rfl Z1s) fun g5 => Nl <| SR <| Zj lWide_0 Z45 rfl <| Ld Z1g 3 rfl <| Zj lWide_0 Z45 rfl <| Ld Z1g 4 rfl <| Ac (Z92 rfl rfl (vt rfl) (vt rfl)) rfl <| Zj lWide_1 Z3z rfl <| Ld Z1g 3 rfl <| Zj lWide_1 Z3z rfl <| Ld Z1g 4 rfl <| Ac (Z92 rfl rfl (vt rfl) (vt rfl)) rfl <| Ac (opb (⟨(a1.Hi &&& b2.Hi), (a1.Lo &&& b2.Lo)⟩ : Wide) Z1s rfl Z3o (pc Z7f (vt rfl) <| pc Z6d (vt rfl) <| pn rfl)) rfl <| Zh Zu 5 rfl <| Nl <| rt ?_
 cases h; exact Zg Tryz.results177 rfl (Zz rfl (i := 5) rfl Zu)
def Z73 (t1 : Tern) : Option Tern :=
 (Zb0 t1.Value t1.Mask).bind fun x4 => some (⟨x4, t1.Mask⟩ : Tern)
theorem Z9g : Q1 Tryz.prog 127 (rd Z3) (rd Z3) Z73 := fun t1 r h => I0 Tryz.func127 rfl Tryz.ntmps127 rfl fun w H => by
 unfold Z73 at h
 refine SR <| Cv rfl (Zl 2 rfl rfl (vt rfl)) fun g2 => Cv rfl (Zp 3 rfl rfl Z1d) fun g3 => Nl <| sq ?_
 obtain ⟨x4, hx4, h⟩ := Za h
 refine AR Zx (by kernel_rfl) <| SFd lTern_0 Z2n rfl <| Zk Zu 2 rfl <| SFd lTern_1 Z27 rfl <| Zk Zu 2 rfl <| SCl [4, 6] (Zio _ _ _ hx4) Zlw rfl <| SFd lTern_1 Z27 rfl <| Zk Zu 2 rfl <| Sd (lo [7, 9] [] rfl fun S hs hr => opb (⟨x4, t1.Mask⟩ : Tern) Z1d rfl Z3v (pc Z59 (vh hs 7 rfl rfl) <| pc Z4k (vh hs 9 rfl rfl) <| pn rfl)) <| SSt Zw 3 rfl <| Sn <| rt ?_
 cases h; exact Zg Tryz.results127 rfl (Zz rfl (i := 3) rfl Zw)
def Zhn (i1 : Int) (x2 : Z9) : Option (Tern × Bool) :=
 (chk 24 i1).bind fun j4 => (Z73 (Vector.get x2 j4)).bind fun x5 => some (x5, true)
theorem Yas : Q2 Tryz.prog 197 (rd (Z0 .i64)) (rp (Z1 24 Z3)) (fun r => Z19 (rd Z3 r.1) (rd Z7 r.2)) Zhn := fun i1 x2 r h => I0 Tryz.func197 rfl Tryz.ntmps197 rfl fun w H => by
 unfold Zhn at h
 refine SR <| Cv rfl (Zp 4 rfl rfl Z1d) fun g3 => Ab rfl <| Nl <| sq ?_
 obtain ⟨j4, hj4, x5, hx5, h⟩ := bs2 h
 refine Rg <| Md rfl <| Ac (Z7e rfl rfl Z2h (vt rfl) (vt rfl) hj4) rfl <| Lp1 Zw rfl <| Cl [7] (Z9g _ _ hx5) Z8t rfl <| Zh Zw 4 rfl <| Ab rfl <| Nl <| rt ?_
 cases h; exact Z25 Tryz.results197 rfl (Zz rfl (i := 4) rfl Zw) (Z4 rfl)
def Z6x (x1 : (Int → Option (Tern × Bool))) : Nat → Nat → Z9 → Option (Z9 × Bool)
 | 0, i6, b5 => some (b5, true)
 | m7 + 1, i6, b5 => (x1 (i6 : Int)).bind fun x8 => (bif (!x8.2) then some ((Vector.replicate 24 zTern), false) else (chk 24 (i6 : Int)).bind fun j10 => (Z6x x1 m7) (i6 + 1) (Vector.set b5 j10.1 x8.1 j10.2))
def Ze2 (x1 : (Int → Option (Tern × Bool))) : Option (Z9 × Bool) :=
 Z6x x1 (24 : Int).toNat 0 (Vector.replicate 24 zTern)
theorem Y2j : Q1 Tryz.prog 196 (fa1 Tryz.prog (Z0 .i64) (fun (y : (Tern × Bool)) => Z19 (rd Z3 y.1) (rd Z7 y.2))) (fun r => Z19 (rd (Z1 24 Z3) r.1) (rd Z7 r.2)) Ze2 := fun x1 r h => I0 Tryz.func196 rfl Tryz.ntmps196 rfl fun w H => by
 unfold Ze2 at h
 refine SR <| Cv rfl (Zp 3 rfl rfl Z13) fun g2 => Ab rfl <| Nl <| SR <| Cv rfl (Zp 5 rfl rfl Z13) fun g3 => Nl <| sq <| SR <| Mk rfl <| Nl <| bk <| LG (d := []) (ν := Nat × Nat × Z9) (fun (m7, i6, b5) => (Cnt 24 i6 m7 ∧ Z6x x1 m7 i6 b5 = some r, m7, [(0, fa1 Tryz.prog (Z0 .i64) (fun (y : (Tern × Bool)) => Z19 (rd Z3 y.1) (rd Z7 y.2)) x1), (2, Zb g2 (Lens.id (Z1 24 Z3))), (4, Zb g3 (Lens.id (Z1 24 Z3))), (8, rd (Z0 .i64) (i6 : Int))], [(3, Ze g2 87 (Z1 24 Z3) (Vector.replicate 24 zTern)), (5, Ze g3 87 (Z1 24 Z3) b5)])) ((24 : Int).toNat, 0, (Vector.replicate 24 zTern)) ⟨Cnt.start _, h⟩ (FX rfl) ?_
 rintro ⟨m7, i6, b5⟩ ⟨hsf1, h⟩
 dsimp only at hsf1 h ⊢
 cases m7 with
 | zero =>
  unfold Z6x at h
  refine SR <| Ac (Zn rfl rfl (vt rfl) (vk rfl)) rfl <| Nl <| sq <| Cn rfl (fun hc => absurd (of_decide_eq_true hc) hsf1.zero) (fun hc => ?_)
  refine xt <| SR <| Ld Z01 5 rfl <| Zh Z01 3 rfl <| Ab rfl <| Nl <| rt ?_
  cases h; exact Z25 Tryz.results196 rfl (Zz rfl (i := 3) rfl Z01) (Z4 rfl)
 | succ m7 =>
  unfold Z6x at h
  refine SR <| Ac (Zn rfl rfl (vt rfl) (vk rfl)) rfl <| Nl <| sq <| Cn rfl (fun hc => ?_) (fun hc => absurd hsf1.succ (of_decide_eq_false hc))
  have hlti6 := of_decide_eq_true hc
  refine sk <| sq <| bk <| SR <| Md rfl <| As rfl <| Nl <| sq ?_
  obtain ⟨x8, hx8, h⟩ := Za h
  refine Rg <| Ac (Zs (A := fa1 Tryz.prog (Z0 .i64) (fun (y : (Tern × Bool)) => Z19 (rd Z3 y.1) (rd Z7 y.2)) x1) rfl rfl (vt rfl)) rfl <| Md rfl <| Ac (Yac (B := (fun (y : (Tern × Bool)) => Z19 (rd Z3 y.1) (rd Z7 y.2))) hx8 rfl rfl (vt rfl) (vt rfl)) rfl <| Mt2 rfl <| Ac (Z1h rfl rfl (vt rfl)) rfl <| Ac (Z1f rfl rfl (vt rfl)) rfl <| Cv rfl (Zp 7 rfl rfl Z1d) fun g9 => Zh Zw 7 rfl <| As rfl <| Nl <| sq <| SR <| Md rfl <| Ac (Z15 rfl rfl (vt rfl)) rfl <| Nl <| Cq rfl h (fun h => ?_) (fun h => ?_)
  ·refine SR <| Ac (Z1e (ps := []) (x := (Vector.replicate 24 zTern)) rfl rfl rfl (by kernel_rfl) Z13 rfl) rfl <| Zh Z01 3 rfl <| Ab rfl <| Nl <| rt ?_
   cases h; exact Z25 Tryz.results196 rfl (Zz rfl (i := 3) rfl Z01) (Z4 rfl)
  ·refine sk ?_
   obtain ⟨j10, hj10, h⟩ := Za h
   refine Rg <| Md rfl <| Ld Zw 7 rfl <| Ac (Z14 rfl rfl Z2h (vt rfl) (vt rfl) hj10) rfl <| Zh Zw 5 rfl <| Nl <| Rg <| Ac (Z74 rfl rfl (vt rfl) (vk rfl) rfl hlti6) rfl <| Md rfl <| Nl ?_
   exact ⟨(_, _, _), Nat.lt_succ_self _, ⟨hsf1.next, h⟩, FX rfl⟩
def Zf8 (x1 : Z9) : Option Z9 :=
 (Ze2 (fun x => Zhn x x1)).bind fun x4 => some x4.1
theorem Y3r : Q1 Tryz.prog 126 (rd (Z1 24 Z3)) (rd (Z1 24 Z3)) Zf8 := fun x1 r h => I0 Tryz.func126 rfl Tryz.ntmps126 rfl fun w H => by
 unfold Zf8 at h
 refine SR <| Cv rfl (Zl 2 rfl rfl (vt rfl)) fun g2 => Cv rfl (Zp 3 rfl rfl Z13) fun g3 => Nl <| sq <| AW.freezeB 1 2 rfl rfl rfl ?_
 obtain ⟨x4, hx4, h⟩ := Za h
 refine Rg <| Ac (Zvz (fs := []) (FAs := []) (cs := [.tmp 1]) (CAs := [rp (Z1 24 Z3) x1]) (kx := (Z0 .i64)) (B := (fun (y : (Tern × Bool)) => Z19 (rd Z3 y.1) (rd Z7 y.2))) (fun x => Zhn x x1) rfl rfl Ybf trivial ⟨vt rfl, trivial⟩ (fun x y h => Yas _ _ y h)) rfl <| Cl [6] (Y2j _ _ hx4) Zvk rfl <| Mt2 rfl <| Ac (Z1h rfl rfl (vt rfl)) rfl <| Ac (Z1f rfl rfl (vt rfl)) rfl <| Cv rfl (Zp 4 rfl rfl Z13) fun g5 => Zh Z01 4 rfl <| As rfl <| Nl <| SR <| Ld Z01 4 rfl <| Zh Z01 3 rfl <| Nl <| rt ?_
 cases h; exact Zg Tryz.results126 rfl (Zz rfl (i := 3) rfl Z01)
def Zgr (x1 : Flow) : Option Z9 :=
 (Zno x1.Match).bind fun x4 => (Zf8 x4).bind fun x5 => some x5
theorem Zw2 : Q1 Tryz.prog 157 (rd Z0n) (rd (Z1 24 Z3)) Zgr := fun x1 r h => I0 Tryz.func157 rfl Tryz.ntmps157 rfl fun w H => by
 unfold Zgr at h
 refine SR <| Cv rfl (Zl 2 rfl rfl (vt rfl)) fun g2 => Cv rfl (Zp 3 rfl rfl Z13) fun g3 => Nl <| sq ?_
 obtain ⟨x4, hx4, x5, hx5, h⟩ := bs2 h
 refine Rg <| Zj Zpc Zsa rfl <| Ld Zrz 2 rfl <| Cl [4] (Yme _ _ hx4) Ym4 rfl <| Cl [5] (Y3r _ _ hx5) Zzp rfl <| Zh Z01 3 rfl <| Nl <| rt ?_
 cases h; exact Zg Tryz.results157 rfl (Zz rfl (i := 3) rfl Z01)
def Zs5 (a1 : Wide) (b2 : Wide) : Option Wide :=
 some (⟨(a1.Hi ^^^ b2.Hi), (a1.Lo ^^^ b2.Lo)⟩ : Wide)
theorem Yl2 : Q2 Tryz.prog 237 (rd Zd) (rd Zd) (rd Zd) Zs5 := fun a1 b2 r h => I0 Tryz.func237 rfl Tryz.ntmps237 rfl fun w H => by
 unfold Zs5 at h
 refine SR <| Cv rfl (Zl 3 rfl rfl (vt rfl)) fun g3 => Cv rfl (Zl 4 rfl rfl (vt rfl)) fun g4 => Cv rfl (Zp 5 rfl rfl Z1s) fun g5 => Nl <| SR <| Zj lWide_0 Z45 rfl <| Ld Z1g 3 rfl <| Zj lWide_0 Z45 rfl <| Ld Z1g 4 rfl <| Ac (Zpp rfl rfl (vt rfl) (vt rfl)) rfl <| Zj lWide_1 Z3z rfl <| Ld Z1g 3 rfl <| Zj lWide_1 Z3z rfl <| Ld Z1g 4 rfl <| Ac (Zpp rfl rfl (vt rfl) (vt rfl)) rfl <| Ac (opb (⟨(a1.Hi ^^^ b2.Hi), (a1.Lo ^^^ b2.Lo)⟩ : Wide) Z1s rfl Z3o (pc Z7f (vt rfl) <| pc Z6d (vt rfl) <| pn rfl)) rfl <| Zh Zu 5 rfl <| Nl <| rt ?_
 cases h; exact Zg Tryz.results237 rfl (Zz rfl (i := 5) rfl Zu)
def Zu4 (a1 : Wide) (b2 : Wide) (m3 : Wide) : Option Wide :=
 (Zs5 a1 b2).bind fun x8 => (Zb0 x8 m3).bind fun x9 => some x9
theorem Y9k : Q3 Tryz.prog 174 (rd Zd) (rd Zd) (rd Zd) (rd Zd) Zu4 := fun a1 b2 m3 r h => I0 Tryz.func174 rfl Tryz.ntmps174 rfl fun w H => by
 unfold Zu4 at h
 refine SR <| Cv rfl (Zl 4 rfl rfl (vt rfl)) fun g4 => Cv rfl (Zl 5 rfl rfl (vt rfl)) fun g5 => Cv rfl (Zl 6 rfl rfl (vt rfl)) fun g6 => Cv rfl (Zp 7 rfl rfl Z1s) fun g7 => Nl <| sq ?_
 obtain ⟨x8, hx8, x9, hx9, h⟩ := bs2 h
 refine AR Zx (by kernel_rfl) <| Zk Zu 4 rfl <| Zk Zu 5 rfl <| SCl [7, 8] (Yl2 _ _ _ hx8) Yc1 rfl <| Zk Zu 6 rfl <| SCl [9, 10] (Zio _ _ _ hx9) Zlw rfl <| SSt Zu 7 rfl <| Sn <| rt ?_
 cases h; exact Zg Tryz.results174 rfl (Zz rfl (i := 7) rfl Zu)
def Zhi (a1 : Wide) : Option Bool :=
 some (decide ((a1.Hi ||| a1.Lo) = (0 : BitVec 64)))
theorem Zty : Q1 Tryz.prog 173 (rd Zd) (rd Z7) Zhi := fun a1 r h => I0 Tryz.func173 rfl Tryz.ntmps173 rfl fun w H => by
 unfold Zhi at h
 refine SR <| Cv rfl (Zl 2 rfl rfl (vt rfl)) fun g2 => Ab rfl <| Nl <| SR <| Zj lWide_0 Z45 rfl <| Ld Z1g 2 rfl <| Zj lWide_1 Z3z rfl <| Ld Z1g 2 rfl <| Ac (Zj3 rfl rfl (vt rfl) (vt rfl)) rfl <| Ac (Znj rfl rfl (vt rfl) (vku (0 : BitVec 64) rfl)) rfl <| As rfl <| Nl <| rt ?_
 cases h; exact Zg Tryz.results173 rfl (Z4 rfl)
end Go.Proofs.YtknpgojdkobgjaaGreat.W
set_option maxRecDepth 4000
namespace Go.Proofs.YtknpgojdkobgjaaGreat.W
open Go Go.Wb
theorem Y6d : Ent Tryz.prog 174 := Ent.mk Tryz.func174 rfl rfl
theorem Ztc : Ent Tryz.prog 173 := Ent.mk Tryz.func173 rfl rfl
theorem Zrm : Ent Tryz.prog 106 := Ent.mk Tryz.func106 rfl rfl
theorem Zcg : Ent Tryz.prog 175 := Ent.mk Tryz.func175 rfl rfl
theorem Zhv : Ent Tryz.prog 176 := Ent.mk Tryz.func176 rfl rfl
theorem Yge : Ent Tryz.prog 261 := Ent.mk Tryz.func261 rfl rfl
theorem Y7m : Ent Tryz.prog 260 := Ent.mk Tryz.func260 rfl rfl
theorem Y4b : Ent Tryz.prog 259 := Ent.mk Tryz.func259 rfl rfl
theorem Ycb : Ent Tryz.prog 262 := Ent.mk Tryz.func262 rfl rfl
def Zg1 (t1 : Tern) (x2 : Wide) : Option Bool :=
 (Zu4 t1.Value x2 t1.Mask).bind fun x5 => (Zhi x5).bind fun x6 => some x6
theorem Zuk : Q2 Tryz.prog 106 (rd Z3) (rd Zd) (rd Z7) Zg1 := fun t1 x2 r h => I0 Tryz.func106 rfl Tryz.ntmps106 rfl fun w H => by
 unfold Zg1 at h
 refine SR <| Cv rfl (Zl 3 rfl rfl (vt rfl)) fun g3 => Cv rfl (Zl 4 rfl rfl (vt rfl)) fun g4 => Ab rfl <| Nl <| sq ?_
 obtain ⟨x5, hx5, x6, hx6, h⟩ := bs2 h
 refine Rg <| Zj lTern_0 Z2n rfl <| Ld Zu 3 rfl <| Ld Zu 4 rfl <| Zj lTern_1 Z27 rfl <| Ld Zu 3 rfl <| Cl [6, 7, 9] (Y9k _ _ _ _ hx5) Y6d rfl <| Cl [10] (Zty _ _ hx6) Ztc rfl <| As rfl <| Nl <| rt ?_
 cases h; exact Zg Tryz.results106 rfl (Z4 rfl)
def Z87 (a1 : Wide) (b2 : Wide) : Option Wide :=
 some (⟨(a1.Hi ||| b2.Hi), (a1.Lo ||| b2.Lo)⟩ : Wide)
theorem Zd1 : Q2 Tryz.prog 175 (rd Zd) (rd Zd) (rd Zd) Z87 := fun a1 b2 r h => I0 Tryz.func175 rfl Tryz.ntmps175 rfl fun w H => by
 unfold Z87 at h
 refine SR <| Cv rfl (Zl 3 rfl rfl (vt rfl)) fun g3 => Cv rfl (Zl 4 rfl rfl (vt rfl)) fun g4 => Cv rfl (Zp 5 rfl rfl Z1s) fun g5 => Nl <| SR <| Zj lWide_0 Z45 rfl <| Ld Z1g 3 rfl <| Zj lWide_0 Z45 rfl <| Ld Z1g 4 rfl <| Ac (Zj3 rfl rfl (vt rfl) (vt rfl)) rfl <| Zj lWide_1 Z3z rfl <| Ld Z1g 3 rfl <| Zj lWide_1 Z3z rfl <| Ld Z1g 4 rfl <| Ac (Zj3 rfl rfl (vt rfl) (vt rfl)) rfl <| Ac (opb (⟨(a1.Hi ||| b2.Hi), (a1.Lo ||| b2.Lo)⟩ : Wide) Z1s rfl Z3o (pc Z7f (vt rfl) <| pc Z6d (vt rfl) <| pn rfl)) rfl <| Zh Zu 5 rfl <| Nl <| rt ?_
 cases h; exact Zg Tryz.results175 rfl (Zz rfl (i := 5) rfl Zu)
def Zes (a1 : Tern) (b2 : Tern) : Option (Tern × Bool) :=
 (Zb0 a1.Mask b2.Mask).bind fun x6 => (Zg1 (⟨a1.Value, x6⟩ : Tern) b2.Value).bind fun x7 => (bif (!x7) then some ((⟨Z09, Z09⟩ : Tern), false) else (Z73 a1).bind fun x8 => (Z73 b2).bind fun x9 => (Z87 x8.Value x9.Value).bind fun x10 => (Z87 x8.Mask x9.Mask).bind fun x11 => some ((⟨x10, x11⟩ : Tern), true))
theorem Y0s : Q2 Tryz.prog 259 (rd Z3) (rd Z3) (fun r => Z19 (rd Z3 r.1) (rd Z7 r.2)) Zes := fun a1 b2 r h => I0 Tryz.func259 rfl Tryz.ntmps259 rfl fun w H => by
 unfold Zes at h
 refine SR <| Cv rfl (Zl 3 rfl rfl (vt rfl)) fun g3 => Cv rfl (Zl 4 rfl rfl (vt rfl)) fun g4 => Cv rfl (Zp 5 rfl rfl Z1d) fun g5 => Ab rfl <| Nl <| sq <| sq ?_
 obtain ⟨x6, hx6, x7, hx7, h⟩ := bs2 h
 refine AR Zx (by kernel_rfl) <| SFd lTern_0 Z2n rfl <| Zk Zu 3 rfl <| SFd lTern_1 Z27 rfl <| Zk Zu 3 rfl <| SFd lTern_1 Z27 rfl <| Zk Zu 4 rfl <| SCl [9, 11] (Zio _ _ _ hx6) Zlw rfl <| Sd (lo [7, 12] [] rfl fun S hs hr => opb (⟨a1.Value, x6⟩ : Tern) Z1d rfl Z3v (pc Z59 (vh hs 7 rfl rfl) <| pc Z4k (vh hs 12 rfl rfl) <| pn rfl)) <| SFd lTern_0 Z2n rfl <| Zk Zu 4 rfl <| SCl [13, 15] (Zuk _ _ _ hx7) Zrm rfl <| Sd (lo [16] [] rfl fun S hs hr => Z15 rfl rfl (vh hs 16 rfl rfl)) <| Sn <| Cq rfl h (fun h => ?_) (fun h => ?_)
 ·refine SR <| Ac (opb (⟨Z09, Z09⟩ : Tern) Z1d rfl Z3v (pn rfl)) rfl <| Zh Zw 5 rfl <| Ab rfl <| Nl <| rt ?_
  cases h; exact Z25 Tryz.results259 rfl (Zz rfl (i := 5) rfl Zw) (Z4 rfl)
 ·refine sk <| sq ?_
  obtain ⟨x8, hx8, x9, hx9, h⟩ := bs2 h
  refine AR Zx (by kernel_rfl) <| Zk Zw 3 rfl <| SCl [19] (Z9g _ _ hx8) Z8t rfl <| Zk Zw 4 rfl <| SCl [21] (Z9g _ _ hx9) Z8t rfl <| SSt Zw 3 rfl <| SSt Zw 4 rfl <| Sn <| sq ?_
  obtain ⟨x10, hx10, x11, hx11, h⟩ := bs2 h
  refine AR Zx (by kernel_rfl) <| SFd lTern_0 Z2n rfl <| Zk Zu 3 rfl <| SFd lTern_0 Z2n rfl <| Zk Zu 4 rfl <| SCl [24, 26] (Zd1 _ _ _ hx10) Zcg rfl <| SFd lTern_1 Z27 rfl <| Zk Zu 3 rfl <| SFd lTern_1 Z27 rfl <| Zk Zu 4 rfl <| SCl [29, 31] (Zd1 _ _ _ hx11) Zcg rfl <| Sd (lo [27, 32] [] rfl fun S hs hr => opb (⟨x10, x11⟩ : Tern) Z1d rfl Z3v (pc Z59 (vh hs 27 rfl rfl) <| pc Z4k (vh hs 32 rfl rfl) <| pn rfl)) <| SSt Zw 5 rfl <| Sd (lo [] [] rfl fun S hs hr => Zy (A := rd Z7 true) rfl rfl vb) <| Sn <| rt ?_
  cases h; exact Z25 Tryz.results259 rfl (Zz rfl (i := 5) rfl Zw) (Z4 rfl)
def Z9u (a1 : Wide) (b2 : Wide) : Option Wide :=
 some (⟨(a1.Hi &&& ~~~b2.Hi), (a1.Lo &&& ~~~b2.Lo)⟩ : Wide)
theorem Zfg : Q2 Tryz.prog 176 (rd Zd) (rd Zd) (rd Zd) Z9u := fun a1 b2 r h => I0 Tryz.func176 rfl Tryz.ntmps176 rfl fun w H => by
 unfold Z9u at h
 refine SR <| Cv rfl (Zl 3 rfl rfl (vt rfl)) fun g3 => Cv rfl (Zl 4 rfl rfl (vt rfl)) fun g4 => Cv rfl (Zp 5 rfl rfl Z1s) fun g5 => Nl <| SR <| Zj lWide_0 Z45 rfl <| Ld Z1g 3 rfl <| Zj lWide_0 Z45 rfl <| Ld Z1g 4 rfl <| Ac (Znd rfl rfl (vt rfl) (vt rfl)) rfl <| Zj lWide_1 Z3z rfl <| Ld Z1g 3 rfl <| Zj lWide_1 Z3z rfl <| Ld Z1g 4 rfl <| Ac (Znd rfl rfl (vt rfl) (vt rfl)) rfl <| Ac (opb (⟨(a1.Hi &&& ~~~b2.Hi), (a1.Lo &&& ~~~b2.Lo)⟩ : Wide) Z1s rfl Z3o (pc Z7f (vt rfl) <| pc Z6d (vt rfl) <| pn rfl)) rfl <| Zh Zu 5 rfl <| Nl <| rt ?_
 cases h; exact Zg Tryz.results176 rfl (Zz rfl (i := 5) rfl Zu)
def Zie (i1 : Int) (x2 : Z9) (x3 : Z9) : Option Tern :=
 (chk 24 i1).bind fun j5 => (chk 24 i1).bind fun j6 => (chk 24 i1).bind fun j7 => (Z9u ((Vector.get x2 j6).Mask) ((Vector.get x3 j7).Mask)).bind fun x8 => (Z73 (⟨(Vector.get x2 j5).Value, x8⟩ : Tern)).bind fun x9 => some x9
theorem Ye7 : Q3 Tryz.prog 261 (rd (Z0 .i64)) (rp (Z1 24 Z3)) (rp (Z1 24 Z3)) (rd Z3) Zie := fun i1 x2 x3 r h => I0 Tryz.func261 rfl Tryz.ntmps261 rfl fun w H => by
 unfold Zie at h
 refine SR <| Cv rfl (Zp 5 rfl rfl Z1d) fun g4 => Nl <| sq ?_
 obtain ⟨j5, hj5, j6, hj6, j7, hj7, x8, hx8, h⟩ := bs4 h
 obtain ⟨x9, hx9, h⟩ := Za h
 refine AR Zx (by kernel_rfl) <| Zq rfl <| Sd (lo [1, 5] [] rfl fun S hs hr => Z7e rfl rfl Z2h (vh hs 1 rfl rfl) (vh hs 5 rfl rfl) hj5) <| SFp lTern_0 Z2n rfl <| SLp Zu rfl <| Zq rfl <| Sd (lo [1, 9] [] rfl fun S hs hr => Z7e rfl rfl Z2h (vh hs 1 rfl rfl) (vh hs 9 rfl rfl) hj6) <| SFp lTern_1 Z27 rfl <| SLp Zu rfl <| Zq rfl <| Sd (lo [2, 13] [] rfl fun S hs hr => Z7e rfl rfl Z40 (vh hs 2 rfl rfl) (vh hs 13 rfl rfl) hj7) <| SFp lTern_1 Z27 rfl <| SLp Zu rfl <| SCl [12, 16] (Zfg _ _ _ hx8) Zhv rfl <| Sd (lo [8, 17] [] rfl fun S hs hr => opb (⟨(Vector.get x2 j5).Value, x8⟩ : Tern) Z1d rfl Z3v (pc Z59 (vh hs 8 rfl rfl) <| pc Z4k (vh hs 17 rfl rfl) <| pn rfl)) <| SCl [18] (Z9g _ _ hx9) Z8t rfl <| SSt Zw 5 rfl <| Sn <| rt ?_
 cases h; exact Zg Tryz.results261 rfl (Zz rfl (i := 5) rfl Zw)
def Z8y (x1 : (Int → Option Tern)) : Nat → Nat → Z9 → Option Z9
 | 0, i6, b5 => some b5
 | m7 + 1, i6, b5 => (x1 (i6 : Int)).bind fun x8 => (chk 24 (i6 : Int)).bind fun j9 => (Z8y x1 m7) (i6 + 1) (Vector.set b5 j9.1 x8 j9.2)
def Zk7 (x1 : (Int → Option Tern)) : Option Z9 :=
 Z8y x1 (24 : Int).toNat 0 (Vector.replicate 24 zTern)
theorem Yfk : Q1 Tryz.prog 260 (fn1 Tryz.prog (Z0 .i64) Z3) (rd (Z1 24 Z3)) Zk7 := fun x1 r h => I0 Tryz.func260 rfl Tryz.ntmps260 rfl fun w H => by
 unfold Zk7 at h
 refine SR <| Cv rfl (Zp 3 rfl rfl Z13) fun g2 => Nl <| SR <| Cv rfl (Zp 4 rfl rfl Z13) fun g3 => Nl <| sq <| SR <| Mk rfl <| Nl <| bk <| LG (d := []) (ν := Nat × Nat × Z9) (fun (m7, i6, b5) => (Cnt 24 i6 m7 ∧ Z8y x1 m7 i6 b5 = some r, m7, [(0, fn1 Tryz.prog (Z0 .i64) Z3 x1), (2, Zb g2 (Lens.id (Z1 24 Z3))), (3, Zb g3 (Lens.id (Z1 24 Z3))), (5, rd (Z0 .i64) (i6 : Int))], [(3, Ze g2 87 (Z1 24 Z3) (Vector.replicate 24 zTern)), (4, Ze g3 87 (Z1 24 Z3) b5)])) ((24 : Int).toNat, 0, (Vector.replicate 24 zTern)) ⟨Cnt.start _, h⟩ (FX rfl) ?_
 rintro ⟨m7, i6, b5⟩ ⟨hsf1, h⟩
 dsimp only at hsf1 h ⊢
 cases m7 with
 | zero =>
  unfold Z8y at h
  refine SR <| Ac (Zn rfl rfl (vt rfl) (vk rfl)) rfl <| Nl <| sq <| Cn rfl (fun hc => absurd (of_decide_eq_true hc) hsf1.zero) (fun hc => ?_)
  refine xt <| SR <| Ld Z01 4 rfl <| Zh Z01 3 rfl <| Nl <| rt ?_
  cases h; exact Zg Tryz.results260 rfl (Zz rfl (i := 3) rfl Z01)
 | succ m7 =>
  unfold Z8y at h
  refine SR <| Ac (Zn rfl rfl (vt rfl) (vk rfl)) rfl <| Nl <| sq <| Cn rfl (fun hc => ?_) (fun hc => absurd hsf1.succ (of_decide_eq_false hc))
  have hlti6 := of_decide_eq_true hc
  refine sk <| sq <| bk <| SR <| Md rfl <| As rfl <| Nl ?_
  obtain ⟨x8, hx8, j9, hj9, h⟩ := bs2 h
  refine Rg <| Md rfl <| Ac (Zs (A := fn1 Tryz.prog (Z0 .i64) Z3 x1) rfl rfl (vt rfl)) rfl <| Md rfl <| Ac (Z94 hx8 rfl rfl (vt rfl) (vt rfl)) rfl <| Ac (Z14 rfl rfl Z2h (vt rfl) (vt rfl) hj9) rfl <| Zh Zw 4 rfl <| Nl <| Rg <| Ac (Z74 rfl rfl (vt rfl) (vk rfl) rfl hlti6) rfl <| Md rfl <| Nl ?_
  exact ⟨(_, _, _), Nat.lt_succ_self _, ⟨hsf1.next, h⟩, FX rfl⟩
def Zbh (x2 : Z9) (x1 : Z9) : (List Tern) → Nat → Option (Z9 × Bool)
 | [], i6 => (Zk7 (fun x => Zie x x2 x1)).bind fun x8 => some (x8, true)
 | x9 :: l7, i6 => (chk 24 (i6 : Int)).bind fun j11 => (Zes x9 (Vector.get x2 j11)).bind fun x12 => (bif (!x12.2) then some ((Vector.replicate 24 zTern), false) else (Zbh x2 x1 l7) (i6 + 1))
def Zl6 (x1 : Z9) (x2 : Z9) : Option (Z9 × Bool) :=
 Zbh x2 x1 (Vector.toList x1) 0
theorem Yez : Q2 Tryz.prog 202 (rd (Z1 24 Z3)) (rd (Z1 24 Z3)) (fun r => Z19 (rd (Z1 24 Z3) r.1) (rd Z7 r.2)) Zl6 := fun x1 x2 r h => I0 Tryz.func202 rfl Tryz.ntmps202 rfl fun w H => by
 unfold Zl6 at h
 refine SR <| Cv rfl (Zl 3 rfl rfl (vt rfl)) fun g3 => Cv rfl (Zl 4 rfl rfl (vt rfl)) fun g4 => Cv rfl (Zp 5 rfl rfl Z13) fun g5 => Ab rfl <| Nl <| sq <| SR <| Ld Z02 3 rfl <| Mk rfl <| Nl <| bk <| LG (d := []) (ν := (List Tern) × Nat) (fun (l7, i6) => (Sfx (Vector.toList x1) i6 l7 ∧ Zbh x2 x1 l7 i6 = some r, l7.length, [(2, Zb g3 (Lens.id (Z1 24 Z3))), (3, Zb g4 (Lens.id (Z1 24 Z3))), (4, Zb g5 (Lens.id (Z1 24 Z3))), (10, rd (Z1 24 Z3) x1), (11, rd (Z0 .i64) (i6 : Int))], [(3, Ze g3 101 (Z1 24 Z3) x1), (4, Ze g4 87 (Z1 24 Z3) x2), (5, Ze g5 87 (Z1 24 Z3) (Vector.replicate 24 zTern))])) ((Vector.toList x1), 0) ⟨Sfx.start _, h⟩ (FX rfl) ?_
 rintro ⟨l7, i6⟩ ⟨hsf1, h⟩
 dsimp only at hsf1 h ⊢
 cases l7 with
 | nil =>
  unfold Zbh at h
  refine SR <| Ac (Zn rfl rfl (vt rfl) (vk rfl)) rfl <| Nl <| sq <| Cn rfl (fun hc => absurd (of_decide_eq_true hc) (hsf1.niln (by simp))) (fun hc => ?_)
  refine xt <| sq <| AW.freezeB 3 4 rfl rfl rfl <| AW.freezeB 2 3 rfl rfl rfl ?_
  obtain ⟨x8, hx8, h⟩ := Za h
  refine Rg <| Ac (Z8k (cs := [.tmp 3, .tmp 2]) (CAs := [rp (Z1 24 Z3) x2, rp (Z1 24 Z3) x1]) (fun x => Zie x x2 x1) rfl rfl Yge ⟨vt rfl, vt rfl, trivial⟩ (fun x y h => Ye7 _ _ _ y h)) rfl <| Cl [27] (Yfk _ _ hx8) Y7m rfl <| Zh Z01 5 rfl <| Ab rfl <| Nl <| rt ?_
  cases h; exact Z25 Tryz.results202 rfl (Zz rfl (i := 5) rfl Z01) (Z4 rfl)
 | cons x9 l7 =>
  unfold Zbh at h
  refine SR <| Ac (Zn rfl rfl (vt rfl) (vk rfl)) rfl <| Nl <| sq <| Cn rfl (fun hc => ?_) (fun hc => absurd (hsf1.consn (by simp)) (of_decide_eq_false hc))
  have hlti6 := of_decide_eq_true hc
  refine sk <| sq <| bk <| SR <| Md rfl <| Ac (Zb4 rfl rfl Z40 Zw (vt rfl) (vt rfl) hsf1.lget) rfl <| Cv rfl (Zp 8 rfl rfl Z1d) fun g10 => As rfl <| Zh Zw 8 rfl <| Nl <| sq ?_
  obtain ⟨j11, hj11, x12, hx12, h⟩ := bs2 h
  refine AR Zx (by kernel_rfl) <| Zk Zw 8 rfl <| Zq rfl <| Sd (lo [3, 17] [] rfl fun S hs hr => Z14 rfl rfl Z2h (vh hs 3 rfl rfl) (vh hs 17 rfl rfl) hj11) <| Zk Zw 4 rfl <| SCl [16, 19] (Y0s _ _ _ hx12) Y4b rfl <| Sd (lo [20] [] rfl fun S hs hr => Zs (A := Z19 (rd Z3 x12.1) (rd Z7 x12.2)) rfl rfl (vh hs 20 rfl rfl)) <| Sd (lo [15] [] rfl fun S hs hr => Z1h rfl rfl (vh hs 15 rfl rfl)) <| Sd (lo [15] [] rfl fun S hs hr => Z1f rfl rfl (vh hs 15 rfl rfl)) <| Sd (Z11 (us := [(8, Z2g 85 Z3 zTern)]) (ur := []) [] [] rfl fun S hs hr => Z6b rfl rfl rfl Z1d) <| Sd (Z11 (us := [(8, Z2g 85 Z3 x12.1)]) (ur := []) [8, 21] [] rfl fun S hs hr => Z68 rfl rfl Zw ((hs 8 rfl).trans rfl) (vh hs 21 rfl rfl)) <| SAs rfl <| Sn <| AW.unpackP 8 9 rfl rfl fun g13 => SR <| Md rfl <| Ac (Z15 rfl rfl (vt rfl)) rfl <| Nl <| Cq rfl h (fun h => ?_) (fun h => ?_)
  ·refine SR <| Ac (Z1e (ps := []) (x := (Vector.replicate 24 zTern)) rfl rfl rfl (by kernel_rfl) Z13 rfl) rfl <| Zh Z01 5 rfl <| Ab rfl <| Nl <| rt ?_
   cases h; exact Z25 Tryz.results202 rfl (Zz rfl (i := 5) rfl Z01) (Z4 rfl)
  ·refine sk <| Rg <| Ac (Z74 rfl rfl (vt rfl) (vk rfl) rfl hlti6) rfl <| Md rfl <| Nl ?_
   exact ⟨(_, _), Nat.lt_succ_self _, ⟨hsf1.next, h⟩, FX rfl⟩
def Zl2 (i1 : Int) (x2 : Z9) (x3 : Z9) : Option (Tern × Bool) :=
 (chk 24 i1).bind fun j5 => (chk 24 i1).bind fun j6 => (Zes (Vector.get x2 j5) (Vector.get x3 j6)).bind fun x7 => some (x7.1, x7.2)
theorem Y8k : Q3 Tryz.prog 262 (rd (Z0 .i64)) (rp (Z1 24 Z3)) (rp (Z1 24 Z3)) (fun r => Z19 (rd Z3 r.1) (rd Z7 r.2)) Zl2 := fun i1 x2 x3 r h => I0 Tryz.func262 rfl Tryz.ntmps262 rfl fun w H => by
 unfold Zl2 at h
 refine SR <| Cv rfl (Zp 5 rfl rfl Z1d) fun g4 => Ab rfl <| Nl <| sq ?_
 obtain ⟨j5, hj5, j6, hj6, x7, hx7, h⟩ := bs3 h
 refine AR Zx (by kernel_rfl) <| Zq rfl <| Sd (lo [1, 6] [] rfl fun S hs hr => Z7e rfl rfl Z2h (vh hs 1 rfl rfl) (vh hs 6 rfl rfl) hj5) <| SLp Zw rfl <| Zq rfl <| Sd (lo [2, 9] [] rfl fun S hs hr => Z7e rfl rfl Z2h (vh hs 2 rfl rfl) (vh hs 9 rfl rfl) hj6) <| SLp Zw rfl <| SCl [8, 11] (Y0s _ _ _ hx7) Y4b rfl <| Sd (lo [12] [] rfl fun S hs hr => Z1h rfl rfl (vh hs 12 rfl rfl)) <| Sd (lo [12] [] rfl fun S hs hr => Z1f rfl rfl (vh hs 12 rfl rfl)) <| SSt Zw 5 rfl <| SAs rfl <| Sn <| rt ?_
 cases h; exact Z25 Tryz.results262 rfl (Zz rfl (i := 5) rfl Zw) (Z4 rfl)
def Za3 (a1 : Z9) (b2 : Z9) : Option (Z9 × Bool) :=
 (Ze2 (fun x => Zl2 x a1 b2)).bind fun x6 => some (x6.1, x6.2)
theorem Zu8 : Q2 Tryz.prog 203 (rd (Z1 24 Z3)) (rd (Z1 24 Z3)) (fun r => Z19 (rd (Z1 24 Z3) r.1) (rd Z7 r.2)) Za3 := fun a1 b2 r h => I0 Tryz.func203 rfl Tryz.ntmps203 rfl fun w H => by
 unfold Za3 at h
 refine SR <| Cv rfl (Zl 3 rfl rfl (vt rfl)) fun g3 => Cv rfl (Zl 4 rfl rfl (vt rfl)) fun g4 => Cv rfl (Zp 5 rfl rfl Z13) fun g5 => Ab rfl <| Nl <| sq <| AW.freezeB 2 3 rfl rfl rfl <| AW.freezeB 3 4 rfl rfl rfl ?_
 obtain ⟨x6, hx6, h⟩ := Za h
 refine Rg <| Ac (Zvz (fs := []) (FAs := []) (cs := [.tmp 2, .tmp 3]) (CAs := [rp (Z1 24 Z3) a1, rp (Z1 24 Z3) b2]) (kx := (Z0 .i64)) (B := (fun (y : (Tern × Bool)) => Z19 (rd Z3 y.1) (rd Z7 y.2))) (fun x => Zl2 x a1 b2) rfl rfl Ycb trivial ⟨vt rfl, vt rfl, trivial⟩ (fun x y h => Y8k _ _ _ y h)) rfl <| Cl [6] (Y2j _ _ hx6) Zvk rfl <| Ac (Z1h rfl rfl (vt rfl)) rfl <| Ac (Z1f rfl rfl (vt rfl)) rfl <| Zh Z01 5 rfl <| As rfl <| Nl <| rt ?_
 cases h; exact Z25 Tryz.results203 rfl (Zz rfl (i := 5) rfl Z01) (Z4 rfl)
end Go.Proofs.YtknpgojdkobgjaaGreat.W
set_option maxRecDepth 4000
namespace Go.Proofs.YtknpgojdkobgjaaGreat.W
open Go Go.Wb
theorem Y1h : Ent Tryz.prog 157 := Ent.mk Tryz.func157 rfl rfl
theorem Yfa : Ent Tryz.prog 202 := Ent.mk Tryz.func202 rfl rfl
theorem Ztf : Ent Tryz.prog 203 := Ent.mk Tryz.func203 rfl rfl
theorem Y7n : Ent Tryz.prog 264 := Ent.mk Tryz.func264 rfl rfl
theorem Zwa : Ent Tryz.prog 263 := Ent.mk Tryz.func263 rfl rfl
theorem Znp : Ent Tryz.prog 216 := Ent.mk Tryz.func216 rfl rfl
theorem Ydx : Ent Tryz.prog 306 := Ent.mk Tryz.func306 rfl rfl
theorem Y18 : Ent Tryz.prog 305 := Ent.mk Tryz.func305 rfl rfl
def Zka (w1 : walk_way) (x2 : Flow) : Option (walk_way × Bool) :=
 (Zgr x2).bind fun x6 => (Zl6 w1.got x6).bind fun x7 => (bif (!x7.2) then some ((⟨(Vector.replicate 24 zTern), (Vector.replicate 24 zTern), [], []⟩ : walk_way), false) else (Za3 x7.1 w1.cube).bind fun x9 => some ({ w1 with cube := x9.1 }, x9.2))
theorem Yhq : Q2 Tryz.prog 136 (rd Z1r) (rd Z0n) (fun r => Z19 (rd Z1r r.1) (rd Z7 r.2)) Zka := fun w1 x2 r h => I0 Tryz.func136 rfl Tryz.ntmps136 rfl fun w H => by
 unfold Zka at h
 refine SR <| Cv rfl (Zl 3 rfl rfl (vt rfl)) fun g3 => Cv rfl (Zl 4 rfl rfl (vt rfl)) fun g4 => Cv rfl (Zp 5 rfl rfl Zhe) fun g5 => Ab rfl <| Nl <| sq ?_
 obtain ⟨x6, hx6, x7, hx7, h⟩ := bs2 h
 refine AR Zx (by kernel_rfl) <| SFd lwalk_way_1 Zl3 rfl <| Zk Z02 3 rfl <| Zk Z76 4 rfl <| SCl [11] (Zw2 _ _ hx6) Y1h rfl <| SCl [10, 12] (Yez _ _ _ hx7) Yfa rfl <| Sd (lo [13] [] rfl fun S hs hr => Zs (A := Z19 (rd (Z1 24 Z3) x7.1) (rd Z7 x7.2)) rfl rfl (vh hs 13 rfl rfl)) <| Sd (lo [8] [] rfl fun S hs hr => Z1h rfl rfl (vh hs 8 rfl rfl)) <| Sd (lo [8] [] rfl fun S hs hr => Z1f rfl rfl (vh hs 8 rfl rfl)) <| Sd (Z11 (us := [(6, Z2g 87 (Z1 24 Z3) (Vector.replicate 24 zTern))]) (ur := []) [] [] rfl fun S hs hr => Z6b rfl rfl rfl Z13) <| Sd (Z11 (us := [(6, Z2g 87 (Z1 24 Z3) x7.1)]) (ur := []) [6, 14] [] rfl fun S hs hr => Z68 rfl rfl Z01 ((hs 6 rfl).trans rfl) (vh hs 14 rfl rfl)) <| SAs rfl <| Sn <| AW.unpackP 6 7 rfl rfl fun g8 => sq <| SR <| Md rfl <| Ac (Z15 rfl rfl (vt rfl)) rfl <| Nl <| Cq rfl h (fun h => ?_) (fun h => ?_)
 ·refine SR <| Ac (opb (⟨(Vector.replicate 24 zTern), (Vector.replicate 24 zTern), [], []⟩ : walk_way) Zhe rfl Y0t (pn rfl)) rfl <| Zh Z3b 5 rfl <| Ab rfl <| Nl <| rt ?_
  cases h; exact Z25 Tryz.results136 rfl (Zz rfl (i := 5) rfl Z3b) (Z4 rfl)
 ·refine sk <| sq ?_
  obtain ⟨x9, hx9, h⟩ := Za h
  refine Rg <| Ld Z01 7 rfl <| Zj lwalk_way_0 Zpz rfl <| Ld Z01 3 rfl <| Cl [20, 22] (Zu8 _ _ _ hx9) Ztf rfl <| Mt2 rfl <| Ac (Z1h rfl rfl (vt rfl)) rfl <| Ac (Z1f rfl rfl (vt rfl)) rfl <| Zj lwalk_way_0 Zpz rfl <| Zh Z01 3 rfl <| As rfl <| Nl <| SR <| Ld Z3b 3 rfl <| Md rfl <| Zh Z3b 5 rfl <| As rfl <| Nl <| rt ?_
  cases h; exact Z25 Tryz.results136 rfl (Zz rfl (i := 5) rfl Z3b) (Z4 rfl)
def Zjz (i1 : Inst) (x2 : Int) : Option Bool :=
 some (decide (i1.Kind = x2))
theorem Yh1 : Q2 Tryz.prog 264 (rd Z1a) (rp (Z0 .i64)) (rd Z7) Zjz := fun i1 x2 r h => I0 Tryz.func264 rfl Tryz.ntmps264 rfl fun w H => by
 unfold Zjz at h
 refine SR <| Cv rfl (Zl 3 rfl rfl (vt rfl)) fun g3 => Ab rfl <| Nl <| SR <| Zj Zrv Zww rfl <| Ld Zt 3 rfl <| Lp1 Zt rfl <| Ac (Z0m rfl rfl (vt rfl) (vt rfl)) rfl <| As rfl <| Nl <| rt ?_
 cases h; exact Zg Tryz.results264 rfl (Z4 rfl)
def Zdz (s1 : (List Inst)) (x2 : (Inst → Option Bool)) : Nat → Nat → Option Int
 | 0, i3 => some (-1)
 | m4 + 1, i3 => (lget s1 (i3 : Int)).bind fun x5 => (x2 x5).bind fun x6 => (bif x6 then some (i3 : Int) else (Zdz s1 x2 m4) (i3 + 1))
def Zf4 (s1 : (List Inst)) (x2 : (Inst → Option Bool)) : Option Int :=
 Zdz s1 x2 ((s1.length : Int) : Int).toNat 0
theorem Zwc : Q2 Tryz.prog 263 (rd (Z2 Z1a)) (fn1 Tryz.prog Z1a Z7) (rd (Z0 .i64)) Zf4 := fun s1 x2 r h => I0 Tryz.func263 rfl Tryz.ntmps263 rfl fun w H => by
 unfold Zf4 at h
 refine SR <| Ak rfl <| Nl <| sq <| SR <| Md rfl <| Ac (Z0x rfl rfl Zc6 (vt rfl)) rfl <| Mk rfl <| Nl <| bk <| LG (d := []) (ν := Nat × Nat) (fun (m4, i3) => (Cnt (s1.length : Int) i3 m4 ∧ Zdz s1 x2 m4 i3 = some r, m4, [(0, rd (Z2 Z1a) s1), (1, fn1 Tryz.prog Z1a Z7 x2), (7, rd (Z0 .i64) (s1.length : Int)), (8, rd (Z0 .i64) (i3 : Int))], [])) (((s1.length : Int) : Int).toNat, 0) ⟨Cnt.start _, h⟩ (FX rfl) ?_
 rintro ⟨m4, i3⟩ ⟨hsf1, h⟩
 dsimp only at hsf1 h ⊢
 cases m4 with
 | zero =>
  unfold Zdz at h
  refine SR <| Ac (Zn rfl rfl (vt rfl) (vt rfl)) rfl <| Nl <| sq <| Cn rfl (fun hc => absurd (of_decide_eq_true hc) hsf1.zero) (fun hc => ?_)
  refine xt <| SR <| Ak rfl <| Nl <| rt ?_
  cases h; exact Zg Tryz.results263 rfl (Z4 rfl)
 | succ m4 =>
  unfold Zdz at h
  refine SR <| Ac (Zn rfl rfl (vt rfl) (vt rfl)) rfl <| Nl <| sq <| Cn rfl (fun hc => ?_) (fun hc => absurd hsf1.succ (of_decide_eq_false hc))
  have hlti3 := of_decide_eq_true hc
  refine sk <| sq <| bk <| SR <| Md rfl <| As rfl <| Nl <| sq ?_
  obtain ⟨x5, hx5, x6, hx6, h⟩ := bs2 h
  refine Rg <| Ac (Zs (A := fn1 Tryz.prog Z1a Z7 x2) rfl rfl (vt rfl)) rfl <| Md rfl <| Md rfl <| Ac (Z0q rfl rfl Zc6 (vt rfl) (vt rfl) hx5) rfl <| Lp1 Z2k rfl <| Ac (Z94 hx6 rfl rfl (vt rfl) (vt rfl)) rfl <| Nl <| Cq rfl h (fun h => ?_) (fun h => ?_)
  ·refine SR <| Md rfl <| As rfl <| Nl <| rt ?_
   cases h; exact Zg Tryz.results263 rfl (Z4 rfl)
  ·refine sk <| Rg <| Ac (Z23 (t := 7) rfl rfl (vt rfl) (vk rfl) (vt rfl) hlti3) rfl <| Md rfl <| Nl ?_
   exact ⟨(_, _), Nat.lt_succ_self _, ⟨hsf1.next, h⟩, FX rfl⟩
def Z6w (s : List Action) : Option (List Action) := Z0u [] s
theorem Zqf (s : List Action) (r : List Action) (h : Z6w s = some r) : Con Tryz.prog 216 [rd (Z2 Z8) s] emp (fun v => Zi v) (fun v => Zc v 121 Z8 r) := by
 refine Con.intro0 Tryz.func216 rfl Tryz.ntmps216 rfl fun w H => ?_
 unfold Z6w at h
 refine AW.newnil 1001 121 Z8 <| SR <| Ac (Zy (A := Zi (.slice none 0 0)) rfl rfl vc) rfl <| Nl <| sq <| SR <| Md rfl <| Ct rfl (Zlj rfl rfl Z0c (vt rfl)) ?_
 rintro _ ⟨b, hb, rfl⟩
 refine Nl <| Cn rfl (fun hc => ?_) (fun hc => ?_)
 ·obtain rfl := hb hc
  refine SR <| Ac (Zy (A := Zi (.slice none 0 0)) rfl rfl vc) rfl <| Nl <| rt ?_
  obtain rfl := (Zbs h).2
  exact Z53 (i := 1001) Tryz.results216 rfl rfl rfl
 ·refine sk <| SR <| Cv rfl (Z57 1002 (ps := []) (l := []) rfl rfl Z0c Z5v rfl rfl rfl rfl) fun v1 => Md rfl <| Cv rfl (Z2m 1002 h rfl rfl Z7u (vt rfl) rfl (vt rfl)) fun v2 => Aw rfl <| Nl <| rt ?_
  exact Z53 (i := 1002) Tryz.results216 rfl rfl rfl
theorem Zyi (s : List Action) (r : List Action) (h : Z6w s = some r) : PCon Tryz.prog 216 [rd (Z2 Z8) s] (rd (Z2 Z8) r) := PCon.of_row (Zqf s r h)
def Z62 (l1 : (List Inst)) (k2 : Int) : Option (Inst × Bool) :=
 (Zf4 l1 (fun x => Zjz x k2)).bind fun x5 => (bif (decide (x5 < 0)) then some ((⟨0, 0, Z09, Z09, []⟩ : Inst), false) else (lget l1 x5).bind fun x6 => (Z6w x6.Acts).bind fun x8 => some ({ x6 with Acts := x8 }, true))
theorem Z7s : Q2 Tryz.prog 204 (rd (Z2 Z1a)) (rd (Z0 .i64)) (fun r => Z19 (rd Z1a r.1) (rd Z7 r.2)) Z62 := fun l1 k2 r h => I0 Tryz.func204 rfl Tryz.ntmps204 rfl fun w H => by
 unfold Z62 at h
 refine SR <| Cv rfl (Zl 4 rfl rfl (vt rfl)) fun g3 => Cv rfl (Zp 5 rfl rfl Z3t) fun g4 => Ab rfl <| Nl <| sq <| AW.freezeB 3 4 rfl rfl rfl ?_
 obtain ⟨x5, hx5, h⟩ := Za h
 refine Rg <| Md rfl <| Ac (Z8k (cs := [.tmp 3]) (CAs := [rp (Z0 .i64) k2]) (fun x => Zjz x k2) rfl rfl Y7n ⟨vt rfl, trivial⟩ (fun x y h => Yh1 _ _ y h)) rfl <| Cl [8, 9] (Zwc _ _ _ hx5) Zwa rfl <| As rfl <| Nl <| sq <| SR <| Md rfl <| Ac (Zn rfl rfl (vt rfl) (vk rfl)) rfl <| Nl <| Cq rfl h (fun h => ?_) (fun h => ?_)
 ·refine SR <| Ac (opb (⟨0, 0, Z09, Z09, []⟩ : Inst) Z3t rfl Y0m (pn rfl)) rfl <| Zh Z2k 5 rfl <| Ab rfl <| Nl <| rt ?_
  cases h; exact Z25 Tryz.results204 rfl (Zz rfl (i := 5) rfl Z2k) (Z4 rfl)
 ·refine sk <| sq ?_
  obtain ⟨x6, hx6, h⟩ := Za h
  refine Rg <| Md rfl <| Md rfl <| Ac (Z0q rfl rfl Zc6 (vt rfl) (vt rfl) hx6) rfl <| Lp1 Z2k rfl <| Cv rfl (Zp 8 rfl rfl Z3t) fun g7 => Zh Z2k 8 rfl <| Nl <| sq ?_
  obtain ⟨x8, hx8, h⟩ := Za h
  refine Rg <| Zj Z81 Z90 rfl <| Ld Z3q 8 rfl <| Cl [19] (Zyi _ _ hx8) Znp rfl <| Zj Z81 Z90 rfl <| Zh Z3q 8 rfl <| Nl <| SR <| Ld Z2k 8 rfl <| Zh Z2k 5 rfl <| Ab rfl <| Nl <| rt ?_
  cases h; exact Z25 Tryz.results204 rfl (Zz rfl (i := 5) rfl Z2k) (Z4 rfl)
def Zel (i1 : Int) (x2 : Z9) : Option Tern :=
 (chk 24 i1).bind fun j4 => (Z73 (Vector.get x2 j4)).bind fun x5 => some x5
theorem Yjh : Q2 Tryz.prog 306 (rd (Z0 .i64)) (rp (Z1 24 Z3)) (rd Z3) Zel := fun i1 x2 r h => I0 Tryz.func306 rfl Tryz.ntmps306 rfl fun w H => by
 unfold Zel at h
 refine SR <| Cv rfl (Zp 4 rfl rfl Z1d) fun g3 => Nl <| sq ?_
 obtain ⟨j4, hj4, x5, hx5, h⟩ := bs2 h
 refine Rg <| Md rfl <| Ac (Z7e rfl rfl Z40 (vt rfl) (vt rfl) hj4) rfl <| Lp1 Zw rfl <| Cl [6] (Z9g _ _ hx5) Z8t rfl <| Zh Zw 4 rfl <| Nl <| rt ?_
 cases h; exact Zg Tryz.results306 rfl (Zz rfl (i := 4) rfl Zw)
def Z98 (x1 : (Int → Option Tern)) : Nat → Nat → Z9 → Option Z9
 | 0, i6, b5 => some b5
 | m7 + 1, i6, b5 => (x1 (i6 : Int)).bind fun x8 => (chk 24 (i6 : Int)).bind fun j9 => (Z98 x1 m7) (i6 + 1) (Vector.set b5 j9.1 x8 j9.2)
def Zgs (x1 : (Int → Option Tern)) : Option Z9 :=
 Z98 x1 (24 : Int).toNat 0 (Vector.replicate 24 zTern)
theorem Zwo : Q1 Tryz.prog 305 (fn1 Tryz.prog (Z0 .i64) Z3) (rd (Z1 24 Z3)) Zgs := fun x1 r h => I0 Tryz.func305 rfl Tryz.ntmps305 rfl fun w H => by
 unfold Zgs at h
 refine SR <| Cv rfl (Zp 3 rfl rfl Z3f) fun g2 => Nl <| SR <| Cv rfl (Zp 4 rfl rfl Z3f) fun g3 => Nl <| sq <| SR <| Mk rfl <| Nl <| bk <| LG (d := []) (ν := Nat × Nat × Z9) (fun (m7, i6, b5) => (Cnt 24 i6 m7 ∧ Z98 x1 m7 i6 b5 = some r, m7, [(0, fn1 Tryz.prog (Z0 .i64) Z3 x1), (2, Zb g2 (Lens.id (Z1 24 Z3))), (3, Zb g3 (Lens.id (Z1 24 Z3))), (5, rd (Z0 .i64) (i6 : Int))], [(3, Ze g2 101 (Z1 24 Z3) (Vector.replicate 24 zTern)), (4, Ze g3 101 (Z1 24 Z3) b5)])) ((24 : Int).toNat, 0, (Vector.replicate 24 zTern)) ⟨Cnt.start _, h⟩ (FX rfl) ?_
 rintro ⟨m7, i6, b5⟩ ⟨hsf1, h⟩
 dsimp only at hsf1 h ⊢
 cases m7 with
 | zero =>
  unfold Z98 at h
  refine SR <| Ac (Zn rfl rfl (vt rfl) (vk rfl)) rfl <| Nl <| sq <| Cn rfl (fun hc => absurd (of_decide_eq_true hc) hsf1.zero) (fun hc => ?_)
  refine xt <| SR <| Ld Z02 4 rfl <| Zh Z02 3 rfl <| Nl <| rt ?_
  cases h; exact Zg Tryz.results305 rfl (Zz rfl (i := 3) rfl Z02)
 | succ m7 =>
  unfold Z98 at h
  refine SR <| Ac (Zn rfl rfl (vt rfl) (vk rfl)) rfl <| Nl <| sq <| Cn rfl (fun hc => ?_) (fun hc => absurd hsf1.succ (of_decide_eq_false hc))
  have hlti6 := of_decide_eq_true hc
  refine sk <| sq <| bk <| SR <| Md rfl <| As rfl <| Nl ?_
  obtain ⟨x8, hx8, j9, hj9, h⟩ := bs2 h
  refine Rg <| Md rfl <| Ac (Zs (A := fn1 Tryz.prog (Z0 .i64) Z3 x1) rfl rfl (vt rfl)) rfl <| Md rfl <| Ac (Z94 hx8 rfl rfl (vt rfl) (vt rfl)) rfl <| Ac (Z14 rfl rfl Z40 (vt rfl) (vt rfl) hj9) rfl <| Zh Zw 4 rfl <| Nl <| Rg <| Ac (Z74 rfl rfl (vt rfl) (vk rfl) rfl hlti6) rfl <| Md rfl <| Nl ?_
  exact ⟨(_, _, _), Nat.lt_succ_self _, ⟨hsf1.next, h⟩, FX rfl⟩
def Zgy (x1 : Z9) : Option Z9 :=
 (Zgs (fun x => Zel x x1)).bind fun x4 => some x4
theorem Zya : Q1 Tryz.prog 268 (rd (Z1 24 Z3)) (rd (Z1 24 Z3)) Zgy := fun x1 r h => I0 Tryz.func268 rfl Tryz.ntmps268 rfl fun w H => by
 unfold Zgy at h
 refine SR <| Cv rfl (Zl 2 rfl rfl (vt rfl)) fun g2 => Cv rfl (Zp 3 rfl rfl Z3f) fun g3 => Nl <| sq <| AW.freezeB 1 2 rfl rfl rfl ?_
 obtain ⟨x4, hx4, h⟩ := Za h
 refine Rg <| Ac (Z8k (cs := [.tmp 1]) (CAs := [rp (Z1 24 Z3) x1]) (fun x => Zel x x1) rfl rfl Ydx ⟨vt rfl, trivial⟩ (fun x y h => Yjh _ _ y h)) rfl <| Cl [3] (Zwo _ _ hx4) Y18 rfl <| Zh Z02 3 rfl <| Nl <| rt ?_
 cases h; exact Zg Tryz.results268 rfl (Zz rfl (i := 3) rfl Z02)
def Zjm (a1 : Tern) (b2 : Tern) : Option Tern :=
 (Z73 a1).bind fun x6 => (Z73 b2).bind fun x7 => (Z9u x6.Value x7.Mask).bind fun x8 => (Z87 x8 x7.Value).bind fun x9 => (Z87 x6.Mask x7.Mask).bind fun x10 => some (⟨x9, x10⟩ : Tern)
theorem Y1c : Q2 Tryz.prog 270 (rd Z3) (rd Z3) (rd Z3) Zjm := fun a1 b2 r h => I0 Tryz.func270 rfl Tryz.ntmps270 rfl fun w H => by
 unfold Zjm at h
 refine SR <| Cv rfl (Zl 3 rfl rfl (vt rfl)) fun g3 => Cv rfl (Zl 4 rfl rfl (vt rfl)) fun g4 => Cv rfl (Zp 5 rfl rfl Z1d) fun g5 => Nl <| sq ?_
 obtain ⟨x6, hx6, x7, hx7, h⟩ := bs2 h
 refine AR Zx (by kernel_rfl) <| Zk Zw 3 rfl <| SCl [5] (Z9g _ _ hx6) Z8t rfl <| Zk Zw 4 rfl <| SCl [7] (Z9g _ _ hx7) Z8t rfl <| SSt Zw 3 rfl <| SSt Zw 4 rfl <| Sn <| sq ?_
 obtain ⟨x8, hx8, x9, hx9, x10, hx10, h⟩ := bs3 h
 refine AR Zx (by kernel_rfl) <| SFd lTern_0 Z2n rfl <| Zk Zu 3 rfl <| SFd lTern_1 Z27 rfl <| Zk Zu 4 rfl <| SCl [10, 12] (Zfg _ _ _ hx8) Zhv rfl <| SFd lTern_0 Z2n rfl <| Zk Zu 4 rfl <| SCl [13, 15] (Zd1 _ _ _ hx9) Zcg rfl <| SFd lTern_1 Z27 rfl <| Zk Zu 3 rfl <| SFd lTern_1 Z27 rfl <| Zk Zu 4 rfl <| SCl [18, 20] (Zd1 _ _ _ hx10) Zcg rfl <| Sd (lo [16, 21] [] rfl fun S hs hr => opb (⟨x9, x10⟩ : Tern) Z1d rfl Z3v (pc Z59 (vh hs 16 rfl rfl) <| pc Z4k (vh hs 21 rfl rfl) <| pn rfl)) <| SSt Zw 5 rfl <| Sn <| rt ?_
 cases h; exact Zg Tryz.results270 rfl (Zz rfl (i := 5) rfl Zw)
end Go.Proofs.YtknpgojdkobgjaaGreat.W
set_option maxRecDepth 4000
namespace Go.Proofs.YtknpgojdkobgjaaGreat.W
open Go Go.Wb
theorem Y31 : Ent Tryz.prog 268 := Ent.mk Tryz.func268 rfl rfl
theorem Zz7 : Ent Tryz.prog 270 := Ent.mk Tryz.func270 rfl rfl
theorem e77 : Ent Tryz.prog 77 := Ent.mk Tryz.func77 rfl rfl
theorem Zhh : Ent Tryz.prog 207 := Ent.mk Tryz.func207 rfl rfl
theorem Zm1 : Ent Tryz.prog 327 := Ent.mk Tryz.func327 rfl rfl
theorem Y72 : Ent Tryz.prog 332 := Ent.mk Tryz.func332 rfl rfl
theorem Zyf : Ent Tryz.prog 287 := Ent.mk Tryz.func287 rfl rfl
theorem Ycr : Ent Tryz.prog 298 := Ent.mk Tryz.func298 rfl rfl
theorem Yd5 : Ent Tryz.prog 304 := Ent.mk Tryz.func304 rfl rfl
theorem Yc0 : Ent Tryz.prog 303 := Ent.mk Tryz.func303 rfl rfl
theorem Y8b : Ent Tryz.prog 265 := Ent.mk Tryz.func265 rfl rfl
def Z8f (x1 : Z9) (x2 : Int) (x3 : Wide) (m4 : Wide) : Option Z9 :=
 (Zgy x1).bind fun x9 => (Z88 x2).bind fun x10 => (bif x10 then (chk 24 x2).bind fun j11 => (Zjm (Vector.get x9 j11) (⟨x3, m4⟩ : Tern)).bind fun x12 => (chk 24 x2).bind fun j13 => some (Vector.set x9 j13.1 x12 j13.2) else some x9)
theorem Zek : Q4 Tryz.prog 207 (rd (Z1 24 Z3)) (rd (Z0 .i64)) (rd Zd) (rd Zd) (rd (Z1 24 Z3)) Z8f := fun x1 x2 x3 m4 r h => I0 Tryz.func207 rfl Tryz.ntmps207 rfl fun w H => by
 unfold Z8f at h
 refine SR <| Cv rfl (Zl 5 rfl rfl (vt rfl)) fun g5 => Cv rfl (Zl 7 rfl rfl (vt rfl)) fun g6 => Cv rfl (Zl 8 rfl rfl (vt rfl)) fun g7 => Cv rfl (Zp 9 rfl rfl Z3f) fun g8 => Nl <| sq ?_
 obtain ⟨x9, hx9, h⟩ := Za h
 refine Rg <| Ld Z02 5 rfl <| Cl [9] (Zya _ _ hx9) Y31 rfl <| Zh Z02 5 rfl <| Nl <| sq <| sq ?_
 obtain ⟨x10, hx10, h⟩ := Za h
 refine Rg <| Md rfl <| Cl [11] (Znn _ _ hx10) Zmk rfl <| Nl <| Cq rfl h (fun h => ?_) (fun h => ?_)
 ·obtain ⟨j11, hj11, x12, hx12, j13, hj13, h⟩ := bs3 h
  refine AR Zx (by kernel_rfl) <| Zq rfl <| Zq rfl <| Sd (lo [4, 14] [] rfl fun S hs hr => Z14 rfl rfl Z40 (vh hs 4 rfl rfl) (vh hs 14 rfl rfl) hj11) <| Zk Zw 5 rfl <| Zk Zu 7 rfl <| Zk Zu 8 rfl <| Sd (lo [17, 18] [] rfl fun S hs hr => opb (⟨x3, m4⟩ : Tern) Z1d rfl Z3v (pc Z59 (vh hs 17 rfl rfl) <| pc Z4k (vh hs 18 rfl rfl) <| pn rfl)) <| SCl [16, 19] (Y1c _ _ _ hx12) Zz7 rfl <| Sd (lo [4, 13] [] rfl fun S hs hr => Z14 rfl rfl Z40 (vh hs 4 rfl rfl) (vh hs 13 rfl rfl) hj13) <| SSt Zw 5 rfl <| Sn <| SR <| Ld Z02 5 rfl <| Zh Z02 9 rfl <| Nl <| rt ?_
  cases h; exact Zg Tryz.results207 rfl (Zz rfl (i := 9) rfl Z02)
 ·refine sk <| SR <| Ld Z02 5 rfl <| Zh Z02 9 rfl <| Nl <| rt ?_
  cases h; exact Zg Tryz.results207 rfl (Zz rfl (i := 9) rfl Z02)
def Zb2 (i1 : Int) : Option Wide :=
 (bif ((decide (i1 < 0)) || (decide (i1 > 127))) then some (⟨0, 0⟩ : Wide) else (Zfp .i64 i1 64).bind fun q4 => (Z8q i1 64).bind fun q5 => (Z93 (1 : BitVec 64) q5).bind fun q6 => (chk 2 q4).bind fun j7 => some (⟨(Vector.get (Vector.set (Vector.replicate 2 0) j7.1 q6 j7.2) (⟨1, by decide⟩ : _root_.Fin 2)), (Vector.get (Vector.set (Vector.replicate 2 0) j7.1 q6 j7.2) (⟨0, by decide⟩ : _root_.Fin 2))⟩ : Wide))
theorem Zpg : Q1 Tryz.prog 327 (rd (Z0 .i64)) (rd Zd) Zb2 := fun i1 r h => I0 Tryz.func327 rfl Tryz.ntmps327 rfl fun w H => by
 unfold Zb2 at h
 refine SR <| Cv rfl (Zp 3 rfl rfl Z1s) fun g2 => Nl <| SR <| Cv rfl (Zp 4 rfl rfl Ygs) fun g3 => Nl <| sq <| SR <| Md rfl <| Ac (Zn rfl rfl (vt rfl) (vk rfl)) rfl <| Md rfl <| Gd rfl (fun hq => Zs (A := rd (Z0 .i64) i1) rfl rfl (vt rfl)) <| Gd rfl (fun hq => Z3i rfl rfl (Zo rfl hq) (vk rfl)) <| Ac (Za0 rfl rfl (vt rfl) (vt rfl)) rfl <| Nl <| Cq rfl h (fun h => ?_) (fun h => ?_)
 ·refine SR <| Ac (opb (⟨0, 0⟩ : Wide) Z1s rfl Z3o (pn rfl)) rfl <| Zh Zu 3 rfl <| Nl <| rt ?_
  cases h; exact Zg Tryz.results327 rfl (Zz rfl (i := 3) rfl Zu)
 ·refine sk <| sq ?_
  obtain ⟨q4, hq4, q5, hq5, q6, hq6, j7, hj7, h⟩ := bs4 h
  refine Rg <| Md rfl <| Ac (Yl0 rfl rfl (vt rfl) (vk rfl) hq4) rfl <| Md rfl <| Ac (Zx0 rfl rfl (vt rfl) (vk rfl) hq5) rfl <| Ac (Zme rfl rfl (vku (1 : BitVec 64) rfl) (vt rfl) hq6) rfl <| Ac (Z14 rfl rfl Ztz (vt rfl) (vt rfl) hj7) rfl <| Zh Z1g 4 rfl <| Nl <| SR <| Ac (Z14 rfl rfl Ztz (vt rfl) (vk rfl) rfl) rfl <| Ld Z1g 4 rfl <| Ac (Z14 rfl rfl Ztz (vt rfl) (vk rfl) rfl) rfl <| Ld Z1g 4 rfl <| Ac (opb (⟨(Vector.get (Vector.set (Vector.replicate 2 0) j7.1 q6 j7.2) (⟨1, by decide⟩ : _root_.Fin 2)), (Vector.get (Vector.set (Vector.replicate 2 0) j7.1 q6 j7.2) (⟨0, by decide⟩ : _root_.Fin 2))⟩ : Wide) Z1s rfl Z3o (pc Z7f (vt rfl) <| pc Z6d (vt rfl) <| pn rfl)) rfl <| Zh Zu 3 rfl <| Nl <| rt ?_
  cases h; exact Zg Tryz.results327 rfl (Zz rfl (i := 3) rfl Zu)
def Zfm (a1 : Action) : Option Z9 :=
 (Za4).bind fun x4 => (bif (decide (a1.Kind = 25)) then (Zga a1.Oxm).bind fun x6 => (Z8f x4 a1.Oxm.Field x6.Value x6.Mask).bind fun x8 => some x8 else (bif (decide (a1.Kind = 17)) then (Zb2 12).bind fun x9 => (Zb2 12).bind fun x10 => (Z8f x4 5 x9 x10).bind fun x11 => some x11 else (bif (decide (a1.Kind = 18)) then (Z9t 13).bind fun x12 => (Z8f x4 5 (⟨0, 0⟩ : Wide) x12).bind fun x13 => (Z9t 3).bind fun x14 => (Z8f x13 6 (⟨0, 0⟩ : Wide) x14).bind fun x15 => some x15 else some x4)))
theorem Zxx : Q1 Tryz.prog 287 (rd Z8) (rd (Z1 24 Z3)) Zfm := fun a1 r h => I0 Tryz.func287 rfl Tryz.ntmps287 rfl fun w H => by
 unfold Zfm at h
 refine SR <| Cv rfl (Zl 2 rfl rfl (vt rfl)) fun g2 => Cv rfl (Zp 3 rfl rfl Z3f) fun g3 => Nl <| sq ?_
 obtain ⟨x4, hx4, h⟩ := Za h
 refine Rg <| Cl [] (Zsk _ hx4) e77 rfl <| Cv rfl (Zp 4 rfl rfl Z3f) fun g5 => Zh Z02 4 rfl <| Nl <| sq <| SR <| Zj Z51 Z58 rfl <| Ld Zt 2 rfl <| Nl <| bk <| SR <| Ac (Z0m rfl rfl (vt rfl) (vk rfl)) rfl <| As rfl <| Nl <| Cq rfl h (fun h => ?_) (fun h => ?_)
 ·refine sq ?_
  obtain ⟨x6, hx6, h⟩ := Za h
  refine Rg <| Zj Z82 Z8s rfl <| Ld Zgj 2 rfl <| Cl [11] (Zvb _ _ hx6) Y0i rfl <| Cv rfl (Zp 5 rfl rfl Z1d) fun g7 => Zh Zw 5 rfl <| Nl ?_
  obtain ⟨x8, hx8, h⟩ := Za h
  refine Rg <| Ld Z02 4 rfl <| Zj Z82 Z8s rfl <| Zj Z4w Z55 rfl <| Ld Zt 2 rfl <| Zj lTern_0 Z2n rfl <| Ld Zu 5 rfl <| Zj lTern_1 Z27 rfl <| Ld Zu 5 rfl <| Cl [13, 16, 18, 20] (Zek _ _ _ _ _ hx8) Zhh rfl <| Zh Z02 4 rfl <| Nl <| SR <| Ld Z02 4 rfl <| Zh Z02 3 rfl <| Nl <| rt ?_
  cases h; exact Zg Tryz.results287 rfl (Zz rfl (i := 3) rfl Z02)
 ·refine SR <| Ac (Z0m rfl rfl (vt rfl) (vk rfl)) rfl <| As rfl <| Nl <| Cq rfl h (fun h => ?_) (fun h => ?_)
  ·obtain ⟨x9, hx9, x10, hx10, x11, hx11, h⟩ := bs3 h
   refine AR Zx (by kernel_rfl) <| Zk Z02 4 rfl <| Sd (lo [] [] rfl fun S hs hr => Z0r (xs := [.const (Value.int IntKind.i64 12)]) (Zpg _ _ hx9) Zm1 rfl rfl ⟨vk rfl, trivial⟩) <| Sd (lo [] [] rfl fun S hs hr => Z0r (xs := [.const (Value.int IntKind.i64 12)]) (Zpg _ _ hx10) Zm1 rfl rfl ⟨vk rfl, trivial⟩) <| Sd (lo [24, 25, 26] [] rfl fun S hs hr => Z0r (xs := [.tmp 24, .const (Value.int IntKind.i64 5), .tmp 25, .tmp 26]) (Zek _ _ _ _ _ hx11) Zhh rfl rfl ⟨vt ((hs 24 rfl).trans rfl), vk rfl, vt ((hs 25 rfl).trans rfl), vt ((hs 26 rfl).trans rfl), trivial⟩) <| SSt Z02 4 rfl <| Sn <| SR <| Ld Z02 4 rfl <| Zh Z02 3 rfl <| Nl <| rt ?_
   cases h; exact Zg Tryz.results287 rfl (Zz rfl (i := 3) rfl Z02)
  ·refine SR <| Ac (Z0m rfl rfl (vt rfl) (vk rfl)) rfl <| As rfl <| Nl <| Cq rfl h (fun h => ?_) (fun h => ?_)
   ·refine sq ?_
    obtain ⟨x12, hx12, x13, hx13, h⟩ := bs2 h
    refine AR Zx (by kernel_rfl) <| Zk Z02 4 rfl <| Sd (lo [] [] rfl fun S hs hr => opb (⟨0, 0⟩ : Wide) Z1s rfl Z3o (pn rfl)) <| Sd (lo [] [] rfl fun S hs hr => Z0r (xs := [.const (Value.int IntKind.i64 13)]) (Zqe _ _ hx12) Zse rfl rfl ⟨vk rfl, trivial⟩) <| Sd (lo [30, 31, 32] [] rfl fun S hs hr => Z0r (xs := [.tmp 30, .const (Value.int IntKind.i64 5), .tmp 31, .tmp 32]) (Zek _ _ _ _ _ hx13) Zhh rfl rfl ⟨vt ((hs 30 rfl).trans rfl), vk rfl, vt ((hs 31 rfl).trans rfl), vt ((hs 32 rfl).trans rfl), trivial⟩) <| SSt Z02 4 rfl <| Sn ?_
    obtain ⟨x14, hx14, x15, hx15, h⟩ := bs2 h
    refine AR Zx (by kernel_rfl) <| Zk Z02 4 rfl <| Sd (lo [] [] rfl fun S hs hr => opb (⟨0, 0⟩ : Wide) Z1s rfl Z3o (pn rfl)) <| Sd (lo [] [] rfl fun S hs hr => Z0r (xs := [.const (Value.int IntKind.i64 3)]) (Zqe _ _ hx14) Zse rfl rfl ⟨vk rfl, trivial⟩) <| Sd (lo [34, 35, 36] [] rfl fun S hs hr => Z0r (xs := [.tmp 34, .const (Value.int IntKind.i64 6), .tmp 35, .tmp 36]) (Zek _ _ _ _ _ hx15) Zhh rfl rfl ⟨vt ((hs 34 rfl).trans rfl), vk rfl, vt ((hs 35 rfl).trans rfl), vt ((hs 36 rfl).trans rfl), trivial⟩) <| SSt Z02 4 rfl <| Sn <| SR <| Ld Z02 4 rfl <| Zh Z02 3 rfl <| Nl <| rt ?_
    cases h; exact Zg Tryz.results287 rfl (Zz rfl (i := 3) rfl Z02)
   ·refine sk <| SR <| Ld Z02 4 rfl <| Zh Z02 3 rfl <| Nl <| rt ?_
    cases h; exact Zg Tryz.results287 rfl (Zz rfl (i := 3) rfl Z02)
def Zf7 (i1 : Int) (x2 : Z9) (x3 : Z9) : Option Tern :=
 (chk 24 i1).bind fun j5 => (chk 24 i1).bind fun j6 => (Zjm (Vector.get x2 j5) (Vector.get x3 j6)).bind fun x7 => some x7
theorem Ycd : Q3 Tryz.prog 332 (rd (Z0 .i64)) (rp (Z1 24 Z3)) (rp (Z1 24 Z3)) (rd Z3) Zf7 := fun i1 x2 x3 r h => I0 Tryz.func332 rfl Tryz.ntmps332 rfl fun w H => by
 unfold Zf7 at h
 refine SR <| Cv rfl (Zp 5 rfl rfl Z1d) fun g4 => Nl <| sq ?_
 obtain ⟨j5, hj5, j6, hj6, x7, hx7, h⟩ := bs3 h
 refine AR Zx (by kernel_rfl) <| Zq rfl <| Sd (lo [1, 5] [] rfl fun S hs hr => Z7e rfl rfl Z40 (vh hs 1 rfl rfl) (vh hs 5 rfl rfl) hj5) <| SLp Zw rfl <| Zq rfl <| Sd (lo [2, 8] [] rfl fun S hs hr => Z7e rfl rfl Z40 (vh hs 2 rfl rfl) (vh hs 8 rfl rfl) hj6) <| SLp Zw rfl <| SCl [7, 10] (Y1c _ _ _ hx7) Zz7 rfl <| SSt Zw 5 rfl <| Sn <| rt ?_
 cases h; exact Zg Tryz.results332 rfl (Zz rfl (i := 5) rfl Zw)
def Zl7 (a1 : Z9) (b2 : Z9) : Option Z9 :=
 (Zgs (fun x => Zf7 x a1 b2)).bind fun x6 => some x6
theorem Yle : Q2 Tryz.prog 298 (rd (Z1 24 Z3)) (rd (Z1 24 Z3)) (rd (Z1 24 Z3)) Zl7 := fun a1 b2 r h => I0 Tryz.func298 rfl Tryz.ntmps298 rfl fun w H => by
 unfold Zl7 at h
 refine SR <| Cv rfl (Zl 3 rfl rfl (vt rfl)) fun g3 => Cv rfl (Zl 4 rfl rfl (vt rfl)) fun g4 => Cv rfl (Zp 5 rfl rfl Z3f) fun g5 => Nl <| sq <| AW.freezeB 2 3 rfl rfl rfl <| AW.freezeB 3 4 rfl rfl rfl ?_
 obtain ⟨x6, hx6, h⟩ := Za h
 refine Rg <| Ac (Z8k (cs := [.tmp 2, .tmp 3]) (CAs := [rp (Z1 24 Z3) a1, rp (Z1 24 Z3) b2]) (fun x => Zf7 x a1 b2) rfl rfl Y72 ⟨vt rfl, vt rfl, trivial⟩ (fun x y h => Ycd _ _ _ y h)) rfl <| Cl [5] (Zwo _ _ hx6) Y18 rfl <| Zh Z02 5 rfl <| Nl <| rt ?_
 cases h; exact Zg Tryz.results298 rfl (Zz rfl (i := 5) rfl Z02)
def Zd4 (t1 : Z61) (b7 : Atom) : Option Z61 :=
 (Z0u t1.atoms [b7]).bind fun l8 => some (⟨t1.got, l8⟩ : Z61)
def Zc4 (t1 : Z61) (a4 : Action) : Option Z61 :=
 (bif (decide (a4.Kind = 0)) then (bif (decide (a4.Port = 4294967293)) then Zd4 t1 { { (⟨t1.got, false, 0, 0⟩ : Atom) with Port := a4.Port } with Max := a4.Max } else Zd4 t1 { (⟨t1.got, false, 0, 0⟩ : Atom) with Port := a4.Port }) else (bif (decide (a4.Kind = 22)) then Zd4 t1 { { (⟨t1.got, false, 0, 0⟩ : Atom) with Group := true } with Port := a4.Group } else (Zfm a4).bind fun x10 => (Zl7 t1.got x10).bind fun x11 => some (⟨x11, t1.atoms⟩ : Z61)))
theorem Ygw (g2 gT : Nat) (t1 : Z61) (a4 : Action) (r : Z61) (h : Zc4 t1 a4 = some r) : Con Tryz.prog 304 [Zb g2 (Lens.id Z56), rd Z8 a4] (Z0t g2 gT Z56 (fun v => (⟨t1.got, v⟩ : atom_trace_o1)) 126 Z0b t1.atoms) (fun _ : Unit => top) (fun _ => Z0t g2 gT Z56 (fun v => (⟨r.got, v⟩ : atom_trace_o1)) 126 Z0b r.atoms) := by
 refine Con.intro Tryz.func304 rfl Tryz.ntmps304 rfl fun w H X => ?_
 unfold Zc4 at h
 refine AW.unboxF 0 2001 (by decide) rfl rfl fun v3 => SR <| Cv rfl (Zl 4 rfl rfl (vt rfl)) fun g5 => Nl <| SR <| Mp rfl <| Nc rfl <| Zj latom_trace_o1_0 Zm7 rfl <| Ld Z02 0 rfl <| Ac (opb (⟨t1.got, false, 0, 0⟩ : Atom) Z5f rfl Zom (pc Zug (vt rfl) <| pn rfl)) rfl <| Cv rfl (Zp 5 rfl rfl Z5f) fun g6 => Zh Zcc 5 rfl <| Nl ?_
 refine JN (d := []) (ν := Atom) (fun b7 => (Zd4 t1 b7 = some r, [(0, Zb g2 (Lens.id Z56)), (4, Zb g6 (Lens.id Z0b))], [(0, Ze g2 gT Z56 (⟨t1.got, v3⟩ : atom_trace_o1)), (5, Ze g6 126 Z0b b7), (2001, Zc v3 126 Z0b t1.atoms)])) ?hx1 ?hy1
 case hy1 =>
  intro b7 h
  dsimp only at h ⊢
  unfold Zd4 at h
  obtain ⟨l8, hl8, h⟩ := Za h
  refine AW.endT <| AR Zx (by kernel_rfl) <| SMp rfl <| SMp rfl <| SNc rfl <| SFd Zj9 Zth rfl <| Sd (lo [42] [0] rfl fun S hs hr => Z6s v3 rfl rfl Zrn (vh hs 42 rfl rfl) (i := 0) ((hr 0 rfl).trans rfl) rfl) <| Zk Zcc 5 rfl <| Sd (lo [44] [] rfl fun S hs hr => osl Z5r Z5f rfl (vh hs 44 rfl rfl)) <| Sd (Z11 (us := [(46, Z1v 126 Z0b l8)]) (ur := [(2001, emp)]) [43, 45] [2001] rfl fun S hs hr => Z78 2001 hl8 rfl rfl rfl Z8m (vh hs 43 rfl rfl) ((hr 2001 rfl).trans rfl) (vh hs 45 rfl rfl)) <| SNc rfl <| SFd Zj9 Zth rfl <| Sd (Z11 (us := [(46, top)]) (ur := [(0, Z0t g2 gT Z56 (fun v => ((Lens.comp (Lens.id Z56) Zj9)).set (⟨t1.got, v3⟩ : atom_trace_o1) v) 126 Z0b l8)]) [48, 46] [0] rfl fun S hs hr => Zmv rfl rfl Zrn (vh hs 48 rfl rfl) ((hr 0 rfl).trans rfl) ((hs 46 rfl).trans rfl)) <| Sn <| EndT.unboxF 0 2001 (by decide) rfl rfl fun v9 => EndT.done ?_
  cases h; exact RetOK.turn (Turn.packF 0 2001 (fun v => (⟨t1.got, v⟩ : atom_trace_o1)) (by decide) rfl rfl) (Z20 (i := 0) Tryz.results304 rfl rfl)
 case hx1 =>
  refine SR <| Zj Z51 Z58 rfl <| Ld Zt 4 rfl <| Nl <| bk <| SR <| Ac (Z0m rfl rfl (vt rfl) (vk rfl)) rfl <| As rfl <| Nl <| Cq rfl h (fun h => ?_) (fun h => ?_)
  ·refine SR <| Zj Zhw Zjb rfl <| Ld Zt 4 rfl <| Zj lAtom_2 Zjn rfl <| Zh Zt 5 rfl <| Nl <| SR <| Zj Zhw Zjb rfl <| Ld Zt 4 rfl <| Ac (Z0m rfl rfl (vt rfl) (vk rfl)) rfl <| Nl <| Cq rfl h (fun h => ?_) (fun h => ?_)
   ·refine Rg <| Zj Zob Zr8 rfl <| Ld Zt 4 rfl <| Zj Znw Ztw rfl <| Zh Zt 5 rfl <| Nl ?_
    exact ⟨_, h, FX rfl⟩
   ·refine sk ?_
    exact ⟨_, h, FX rfl⟩
  ·refine SR <| Ac (Z0m rfl rfl (vt rfl) (vk rfl)) rfl <| As rfl <| Nl <| Cq rfl h (fun h => ?_) (fun h => ?_)
   ·refine AR Zx (by kernel_rfl) <| SFd Zpk Zr5 rfl <| Zk Zt 4 rfl <| SFd lAtom_1 Y1q rfl <| Sd (Z44 [37] [5] rfl fun S hs hr => Z5s rfl rfl ty4 (vh hs 37 rfl rfl) (i := 5) ((hr 5 rfl).trans rfl) vb) <| SFd lAtom_2 Zjn rfl <| SSt Zt 5 rfl <| Sn ?_
    exact ⟨_, h, FX rfl⟩
   ·refine sq ?_
    obtain ⟨x10, hx10, x11, hx11, h⟩ := bs2 h
    refine AR Zx (by kernel_rfl) <| SMp rfl <| SMp rfl <| SNc rfl <| SFd latom_trace_o1_0 Zm7 rfl <| Zk Z02 0 rfl <| Zk Z0s 4 rfl <| SCl [17] (Zxx _ _ hx10) Zyf rfl <| SCl [16, 18] (Yle _ _ _ hx11) Ycr rfl <| SNc rfl <| SFd latom_trace_o1_0 Zm7 rfl <| SSt Z02 0 rfl <| Sn <| rt ?_
    cases h; exact RetOK.turn (Turn.packF 0 2001 (fun v => (⟨x11, v⟩ : atom_trace_o1)) (by decide) rfl rfl) (Z20 (i := 0) Tryz.results304 rfl rfl)
def Zay (sg : Type) (d2 : (sg → Action → Option sg)) : (List Action) → Nat → sg → Option sg
 | [], i6, s5 => some s5
 | x8 :: l7, i6, s5 => (d2 s5 x8).bind fun s10 => (Zay sg d2 l7) (i6 + 1) s10
def Zp1 (l1 : (List Action)) (sg : Type) (d2 : (sg → Action → Option sg)) (s3 : sg) : Option sg :=
 Zay sg d2 l1 0 s3
theorem Ybr (l1 : (List Action)) (sg : Type) (d2 : (sg → Action → Option sg)) (L : sg → Zv) (s3 : sg) (r : sg) (h : Zp1 l1 sg d2 s3 = some r) : Con Tryz.prog 303 [rd (Z2 Z8) l1, stA Tryz.prog Z8 d2 L] (L s3) (fun _ : Unit => top) (fun _ => L r) := by
 refine Con.intro Tryz.func303 rfl Tryz.ntmps303 rfl fun w H X => ?_
 unfold Zp1 at h
 refine SR <| Md rfl <| Ac (Z0x rfl rfl Z0c (vt rfl)) rfl <| Mk rfl <| Nl <| bk <| LG (d := []) (ν := (List Action) × Nat × sg) (fun (l7, i6, s5) => (Sfx l1 i6 l7 ∧ Zay sg d2 l7 i6 s5 = some r, l7.length, [(1, stA Tryz.prog Z8 d2 L), (6, rd (Z2 Z8) l1), (7, rd (Z0 .i64) (l1.length : Int)), (8, rd (Z0 .i64) (i6 : Int))], [(0, L s5)])) (l1, 0, s3) ⟨Sfx.start _, h⟩ (FX rfl) ?_
 rintro ⟨l7, i6, s5⟩ ⟨hsf1, h⟩
 dsimp only at hsf1 h ⊢
 cases l7 with
 | nil =>
  unfold Zay at h
  refine SR <| Ac (Zn rfl rfl (vt rfl) (vt rfl)) rfl <| Nl <| sq <| Cn rfl (fun hc => absurd (of_decide_eq_true hc) hsf1.nil) (fun hc => ?_)
  refine xt ?_
  cases h; exact Z20 (i := 0) Tryz.results303 rfl rfl
 | cons x8 l7 =>
  unfold Zay at h
  refine SR <| Ac (Zn rfl rfl (vt rfl) (vt rfl)) rfl <| Nl <| sq <| Cn rfl (fun hc => ?_) (fun hc => absurd hsf1.cons (of_decide_eq_false hc))
  have hlti6 := of_decide_eq_true hc
  refine sk <| sq <| bk <| SR <| Ac (Z0q rfl rfl Z0c (vt rfl) (vt rfl) hsf1.lget) rfl <| Lp1 Z0s rfl <| Cv rfl (Zp 6 rfl rfl Z5v) fun g9 => Zh Z0s 6 rfl <| Nl ?_
  obtain ⟨s10, hs10, h⟩ := Za h
  refine Rg <| Ac (Zs (A := stA Tryz.prog Z8 d2 L) rfl rfl (vt rfl)) rfl <| Ld Z0s 6 rfl <| Ac (Y09 0 hs10 rfl rfl (vt rfl) (vt rfl) rfl) rfl <| Nl <| Rg <| Ac (Z23 (t := 7) rfl rfl (vt rfl) (vk rfl) (vt rfl) hlti6) rfl <| Md rfl <| Nl ?_
  exact ⟨(_, _, _), Nat.lt_succ_self _, ⟨hsf1.next, h⟩, FX rfl⟩
def Zkr (a1 : (List Action)) (x2 : Z9) : Option ((List Atom) × Z9) :=
 (Zgy x2).bind fun x5 => (Zp1 a1 Z61 (fun s x => Zc4 s x) (⟨x5, []⟩ : Z61)).bind fun b7 => some (b7.atoms, b7.got)
theorem Y76 : Q2 Tryz.prog 265 (rd (Z2 Z8)) (rd (Z1 24 Z3)) (fun r => Z19 (rd (Z2 Z0b) r.1) (rd (Z1 24 Z3) r.2)) Zkr := fun a1 x2 r h => I0 Tryz.func265 rfl Tryz.ntmps265 rfl fun w H => by
 unfold Zkr at h
 refine SR <| Cv rfl (Zl 4 rfl rfl (vt rfl)) fun g3 => Ac (Zy (A := rd (Z2 Z0b) []) rfl rfl Z1p) rfl <| Cv rfl (Zp 6 rfl rfl Z3f) fun g4 => Nl <| sq <| AW.newnil 2221 126 Z0b ?_
 obtain ⟨x5, hx5, h⟩ := Za h
 refine Rg <| Ld Z02 4 rfl <| Cl [7] (Zya _ _ hx5) Y31 rfl <| Ac (opb (⟨x5, (.slice none 0 0)⟩ : atom_trace_o1) Yh9 rfl Ygu (pc Y6z (vt rfl) <| pn rfl)) rfl <| Cv rfl (Zl 11 rfl rfl (vt rfl)) fun g6 => Ac (Zy (A := Zb g6 (Lens.id Z56)) rfl rfl (vt rfl)) rfl <| Nl <| sq ?_
 obtain ⟨b7, hb7, h⟩ := Za h
 refine Rg <| Md rfl <| Mp rfl <| Ac (Y1s (fs := [.tmp 12]) (cs := []) (FAs := [Zb g6 (Lens.id Z56)]) (CAs := []) (k := Z8) (fun s x => Zc4 s x) (fun (s : Z61) => Z0t g6 346 Z56 (fun v => (⟨s.got, v⟩ : atom_trace_o1)) 126 Z0b s.atoms) rfl rfl Yd5 ⟨vt rfl, trivial⟩ trivial (fun s x s2 h => Ygw _ _ s x s2 h)) rfl <| AOps.packF 11 2221 (fun v => (⟨x5, v⟩ : atom_trace_o1)) (by decide) rfl rfl <| Cv rfl (Z1b 11 (xs := [.tmp 11, .tmp 13]) (Ybr _ Z61 _ (fun (s : Z61) => Z0t g6 346 Z56 (fun v => (⟨s.got, v⟩ : atom_trace_o1)) 126 Z0b s.atoms) _ _ hb7) Yc0 rfl rfl ⟨vt rfl, vt rfl, trivial⟩ rfl) fun _u => AOps.unboxF 11 2221 (by decide) rfl rfl fun v8 => Nl <| sq <| AR Zx (by kernel_rfl) <| SMp rfl <| SNc rfl <| SFd Zj9 Zth rfl <| Sd (lo [17] [11] rfl fun S hs hr => Z6s v8 rfl rfl Zrn (vh hs 17 rfl rfl) (i := 11) ((hr 11 rfl).trans rfl) rfl) <| SMp rfl <| SNc rfl <| SFd latom_trace_o1_0 Zm7 rfl <| Zk Z02 11 rfl <| Sd (lo [18] [] rfl fun S hs hr => Zy (A := Zi v8) rfl rfl (vh hs 18 rfl rfl)) <| SSt Z02 6 rfl <| Sn <| AW.freezes [4, 18] 2221 rfl ⟨rfl, rfl, trivial⟩ rfl <| rt ?_
 cases h; exact Z25 Tryz.results265 rfl (Z4 rfl) (Zz rfl (i := 6) rfl Z02)
def Zcu (w1 : walk_way) (l2 : (List Action)) : Option walk_way :=
 (Zkr l2 w1.got).bind fun x5 => (Z4y w1.atoms (w1.atoms.length : Int)).bind fun s7 => (Z0u s7 x5.1).bind fun l8 => some { { w1 with atoms := l8 } with got := x5.2 }
theorem Zwf : Q2 Tryz.prog 205 (rd Z1r) (rd (Z2 Z8)) (rd Z1r) Zcu := fun w1 l2 r h => I0 Tryz.func205 rfl Tryz.ntmps205 rfl fun w H => by
 unfold Zcu at h
 refine SR <| Cv rfl (Zl 3 rfl rfl (vt rfl)) fun g3 => Cv rfl (Zp 5 rfl rfl Zhe) fun g4 => Nl <| sq ?_
 obtain ⟨x5, hx5, h⟩ := Za h
 refine Rg <| Md rfl <| Zj lwalk_way_1 Zl3 rfl <| Ld Z02 3 rfl <| Cl [8, 10] (Y76 _ _ _ hx5) Y8b rfl <| Mt2 rfl <| Ac (Z1h rfl rfl (vt rfl)) rfl <| Ac (Z1f rfl rfl (vt rfl)) rfl <| Cv rfl (Zp 7 rfl rfl Z3f) fun g6 => As rfl <| Zh Z02 7 rfl <| Nl <| sq ?_
 obtain ⟨s7, hs7, l8, hl8, h⟩ := bs2 h
 refine AR Zx (by kernel_rfl) <| SFd Zfw Zlv rfl <| Zk Zaf 3 rfl <| SFd Zfw Zlv rfl <| Zk Zaf 3 rfl <| Sd (lo [17] [] rfl fun S hs hr => Z0x rfl rfl Z5r (vh hs 17 rfl rfl)) <| SFd Zfw Zlv rfl <| Zk Zaf 3 rfl <| Sd (lo [20] [] rfl fun S hs hr => Z0x rfl rfl Z5r (vh hs 20 rfl rfl)) <| Sd (lo [15, 18, 21] [] rfl fun S hs hr => Y40 hs7 rfl rfl Z5r (vh hs 15 rfl rfl) (vh hs 18 rfl rfl) (vh hs 21 rfl rfl)) <| Zq rfl <| Sd (lo [22, 23] [] rfl fun S hs hr => Y8c hl8 rfl rfl Z8m (vh hs 22 rfl rfl) (vh hs 23 rfl rfl)) <| Zk Z02 7 rfl <| SFd Zfw Zlv rfl <| SSt Zaf 3 rfl <| SFd lwalk_way_1 Zl3 rfl <| SSt Z02 3 rfl <| Sn <| SR <| Ld Z3b 3 rfl <| Zh Z3b 5 rfl <| Nl <| rt ?_
 cases h; exact Zg Tryz.results205 rfl (Zz rfl (i := 5) rfl Z3b)
end Go.Proofs.YtknpgojdkobgjaaGreat.W
set_option maxRecDepth 4000
namespace Go.Proofs.YtknpgojdkobgjaaGreat.W
open Go Go.Wb
theorem Zpv : Ent Tryz.prog 221 := Ent.mk Tryz.func221 rfl rfl
theorem Yf8 : Ent Tryz.prog 267 := Ent.mk Tryz.func267 rfl rfl
theorem Zqa : Ent Tryz.prog 266 := Ent.mk Tryz.func266 rfl rfl
theorem Y46 : Ent Tryz.prog 273 := Ent.mk Tryz.func273 rfl rfl
theorem Zq0 : Ent Tryz.prog 218 := Ent.mk Tryz.func218 rfl rfl
def Zaq (a1 : Action) : Option aset_spot :=
 (bif (decide (a1.Kind = 25)) then some (⟨a1.Kind, a1.Oxm.Field⟩ : aset_spot) else some (⟨a1.Kind, 0⟩ : aset_spot))
theorem Zmj : Q1 Tryz.prog 221 (rd Z8) (rd Z70) Zaq := fun a1 r h => I0 Tryz.func221 rfl Tryz.ntmps221 rfl fun w H => by
 unfold Zaq at h
 refine SR <| Cv rfl (Zl 2 rfl rfl (vt rfl)) fun g2 => Cv rfl (Zp 3 rfl rfl Zjf) fun g3 => Nl <| sq <| SR <| Zj Z51 Z58 rfl <| Ld Zt 2 rfl <| Ac (Z0m rfl rfl (vt rfl) (vk rfl)) rfl <| Nl <| Cq rfl h (fun h => ?_) (fun h => ?_)
 ·refine SR <| Zj Z51 Z58 rfl <| Ld Zt 2 rfl <| Zj Z82 Z8s rfl <| Zj Z4w Z55 rfl <| Ld Zt 2 rfl <| Ac (opb (⟨a1.Kind, a1.Oxm.Field⟩ : aset_spot) Zjf rfl Y2u (pc Zwj (vt rfl) <| pc Y63 (vt rfl) <| pn rfl)) rfl <| Zh Zgn 3 rfl <| Nl <| rt ?_
  cases h; exact Zg Tryz.results221 rfl (Zz rfl (i := 3) rfl Zgn)
 ·refine sk <| SR <| Zj Z51 Z58 rfl <| Ld Zt 2 rfl <| Ac (opb (⟨a1.Kind, 0⟩ : aset_spot) Zjf rfl Y2u (pc Zwj (vt rfl) <| pn rfl)) rfl <| Zh Zgn 3 rfl <| Nl <| rt ?_
  cases h; exact Zg Tryz.results221 rfl (Zz rfl (i := 3) rfl Zgn)
def Zdv (b1 : Action) (x2 : Action) : Option Bool :=
 (Zaq x2).bind fun x4 => (Zaq b1).bind fun x5 => some (decide (x4 = x5))
theorem Yjq : Q2 Tryz.prog 267 (rd Z8) (rp Z8) (rd Z7) Zdv := fun b1 x2 r h => I0 Tryz.func267 rfl Tryz.ntmps267 rfl fun w H => by
 unfold Zdv at h
 refine SR <| Cv rfl (Zl 3 rfl rfl (vt rfl)) fun g3 => Ab rfl <| Nl <| sq ?_
 obtain ⟨x4, hx4, x5, hx5, h⟩ := bs2 h
 refine AR Zx (by kernel_rfl) <| SLp Z0s rfl <| SCl [4] (Zmj _ _ hx4) Zpv rfl <| Zk Z0s 3 rfl <| SCl [6] (Zmj _ _ hx5) Zpv rfl <| Sd (lo [5, 7] [] rfl fun S hs hr => Y8l rfl rfl Yd6 (by decide) rfl Ylq (vh hs 5 rfl rfl) (vh hs 7 rfl rfl)) <| SAs rfl <| Sn <| rt ?_
 cases h; exact Zg Tryz.results267 rfl (Z4 rfl)
def Zca (s1 : (List Action)) (x2 : (Action → Option Bool)) : Nat → Nat → Option Int
 | 0, i3 => some (-1)
 | m4 + 1, i3 => (lget s1 (i3 : Int)).bind fun x5 => (x2 x5).bind fun x6 => (bif x6 then some (i3 : Int) else (Zca s1 x2 m4) (i3 + 1))
def Zcv (s1 : (List Action)) (x2 : (Action → Option Bool)) : Option Int :=
 Zca s1 x2 ((s1.length : Int) : Int).toNat 0
theorem Zsb : Q2 Tryz.prog 266 (rd (Z2 Z8)) (fn1 Tryz.prog Z8 Z7) (rd (Z0 .i64)) Zcv := fun s1 x2 r h => I0 Tryz.func266 rfl Tryz.ntmps266 rfl fun w H => by
 unfold Zcv at h
 refine SR <| Ak rfl <| Nl <| sq <| SR <| Md rfl <| Ac (Z0x rfl rfl Z0c (vt rfl)) rfl <| Mk rfl <| Nl <| bk <| LG (d := []) (ν := Nat × Nat) (fun (m4, i3) => (Cnt (s1.length : Int) i3 m4 ∧ Zca s1 x2 m4 i3 = some r, m4, [(0, rd (Z2 Z8) s1), (1, fn1 Tryz.prog Z8 Z7 x2), (7, rd (Z0 .i64) (s1.length : Int)), (8, rd (Z0 .i64) (i3 : Int))], [])) (((s1.length : Int) : Int).toNat, 0) ⟨Cnt.start _, h⟩ (FX rfl) ?_
 rintro ⟨m4, i3⟩ ⟨hsf1, h⟩
 dsimp only at hsf1 h ⊢
 cases m4 with
 | zero =>
  unfold Zca at h
  refine SR <| Ac (Zn rfl rfl (vt rfl) (vt rfl)) rfl <| Nl <| sq <| Cn rfl (fun hc => absurd (of_decide_eq_true hc) hsf1.zero) (fun hc => ?_)
  refine xt <| SR <| Ak rfl <| Nl <| rt ?_
  cases h; exact Zg Tryz.results266 rfl (Z4 rfl)
 | succ m4 =>
  unfold Zca at h
  refine SR <| Ac (Zn rfl rfl (vt rfl) (vt rfl)) rfl <| Nl <| sq <| Cn rfl (fun hc => ?_) (fun hc => absurd hsf1.succ (of_decide_eq_false hc))
  have hlti3 := of_decide_eq_true hc
  refine sk <| sq <| bk <| SR <| Md rfl <| As rfl <| Nl <| sq ?_
  obtain ⟨x5, hx5, x6, hx6, h⟩ := bs2 h
  refine Rg <| Ac (Zs (A := fn1 Tryz.prog Z8 Z7 x2) rfl rfl (vt rfl)) rfl <| Md rfl <| Md rfl <| Ac (Z0q rfl rfl Z0c (vt rfl) (vt rfl) hx5) rfl <| Lp1 Z0s rfl <| Ac (Z94 hx6 rfl rfl (vt rfl) (vt rfl)) rfl <| Nl <| Cq rfl h (fun h => ?_) (fun h => ?_)
  ·refine SR <| Md rfl <| As rfl <| Nl <| rt ?_
   cases h; exact Zg Tryz.results266 rfl (Z4 rfl)
  ·refine sk <| Rg <| Ac (Z23 (t := 7) rfl rfl (vt rfl) (vk rfl) (vt rfl) hlti3) rfl <| Md rfl <| Nl ?_
   exact ⟨(_, _), Nat.lt_succ_self _, ⟨hsf1.next, h⟩, FX rfl⟩
def Z9q : (List Action) → Nat → (List Action) → Option (List Action)
 | [], i9, l7 => some l7
 | x11 :: l10, i9, l7 => (Zcv l7 (fun x => Zdv x x11)).bind fun x13 => (bif (decide (x13 < 0)) then (Z0u l7 [x11]).bind fun l14 => (Z9q l10) (i9 + 1) l14 else (lget l7 x13).bind fun x16 => (Z9q l10) (i9 + 1) (List.set l7 x13.toNat x11))
def Zcl (s1 : (List Action)) (l2 : (List Action)) : Option (List Action) :=
 (Z6w s1).bind fun x3 => Z9q l2 0 x3
theorem Zue : Q2 Tryz.prog 206 (rd (Z2 Z8)) (rd (Z2 Z8)) (rd (Z2 Z8)) Zcl := fun s1 l2 r h => I0 Tryz.func206 rfl Tryz.ntmps206 rfl fun w H => by
 unfold Zcl at h
 refine SR <| Ac (Zy (A := rd (Z2 Z8) []) rfl rfl Z1p) rfl <| Nl <| sq ?_
 obtain ⟨x3, hx3, h⟩ := Za h
 refine Rg <| Md rfl <| Cv rfl (Z1b 1001 (xs := [.tmp 9]) (Zqf _ _ hx3) Znp rfl rfl ⟨vt rfl, trivial⟩ rfl) fun v4 => Aw rfl <| Nl <| sq <| SR <| Md rfl <| Ac (Z0x rfl rfl Z0c (vt rfl)) rfl <| Mk rfl <| Nl <| bk <| LG (d := []) (ν := (List Action) × Nat × (List Action) × Value) (fun (l10, i9, l7, v8) => (Sfx l2 i9 l10 ∧ Z9q l10 i9 l7 = some r, l10.length, [(5, Zi v8), (11, rd (Z2 Z8) l2), (12, rd (Z0 .i64) (l2.length : Int)), (13, rd (Z0 .i64) (i9 : Int))], [(1001, Zc v8 121 Z8 l7)])) (l2, 0, x3, v4) ⟨Sfx.start _, h⟩ (FX rfl) ?_
 rintro ⟨l10, i9, l7, v8⟩ ⟨hsf1, h⟩
 dsimp only at hsf1 h ⊢
 cases l10 with
 | nil =>
  unfold Z9q at h
  refine SR <| Ac (Zn rfl rfl (vt rfl) (vt rfl)) rfl <| Nl <| sq <| Cn rfl (fun hc => absurd (of_decide_eq_true hc) hsf1.nil) (fun hc => ?_)
  refine xt <| SR <| Mw rfl <| Aw rfl <| Nl <| AW.freezes [4, 5, 31] 1001 rfl ⟨rfl, rfl, rfl, trivial⟩ rfl <| rt ?_
  cases h; exact Zg Tryz.results206 rfl (Z4 rfl)
 | cons x11 l10 =>
  unfold Z9q at h
  refine SR <| Ac (Zn rfl rfl (vt rfl) (vt rfl)) rfl <| Nl <| sq <| Cn rfl (fun hc => ?_) (fun hc => absurd hsf1.cons (of_decide_eq_false hc))
  have hlti9 := of_decide_eq_true hc
  refine sk <| sq <| bk <| SR <| Ac (Z0q rfl rfl Z0c (vt rfl) (vt rfl) hsf1.lget) rfl <| Lp1 Z0s rfl <| Cv rfl (Zp 8 rfl rfl Z5v) fun g12 => Zh Z0s 8 rfl <| Nl <| sq <| AW.freezeB 7 8 rfl rfl rfl ?_
  obtain ⟨x13, hx13, h⟩ := Za h
  refine Rg <| Mw rfl <| Ac (Z8k (cs := [.tmp 7]) (CAs := [rp Z8 x11]) (fun x => Zdv x x11) rfl rfl Yf8 ⟨vt rfl, trivial⟩ (fun x y h => Yjq _ _ y h)) rfl <| Ac (Zsy (xs := [.tmp 17, .tmp 18]) 1001 (Zsb _ _ _ hx13) Zqa rfl rfl ⟨vL rfl rfl, vB (vt rfl), trivial⟩) rfl <| As rfl <| Nl <| SR <| Md rfl <| Ac (Zn rfl rfl (vt rfl) (vk rfl)) rfl <| Nl <| Cq rfl h (fun h => ?_) (fun h => ?_)
  ·obtain ⟨l14, hl14, h⟩ := Za h
   refine Rg <| Mw rfl <| Lp1 Z0s rfl <| Ac (osl Z0c Z5v rfl (vt rfl)) rfl <| Cv rfl (Z2m 1001 hl14 rfl rfl Z7u (vt rfl) rfl (vt rfl)) fun v15 => Aw rfl <| Nl <| Rg <| Ac (Z23 (t := 12) rfl rfl (vt rfl) (vk rfl) (vt rfl) hlti9) rfl <| Md rfl <| Nl ?_
   exact ⟨(_, _, _, _), Nat.lt_succ_self _, ⟨hsf1.next, h⟩, FX rfl⟩
  ·obtain ⟨x16, hx16, h⟩ := Za h
   refine Rg <| Mw rfl <| Md rfl <| Lp1 Z0s rfl <| Ac (Z21 1001 rfl rfl Z0c (vt rfl) rfl (vt rfl) hx16) rfl <| Ac (Z2o 1001 rfl rfl Z0s (vt rfl) rfl (Z0e hx16).2 (vt rfl)) rfl <| Nl <| Rg <| Ac (Z23 (t := 12) rfl rfl (vt rfl) (vk rfl) (vt rfl) hlti9) rfl <| Md rfl <| Nl ?_
   exact ⟨(_, _, _, _), Nat.lt_succ_self _, ⟨hsf1.next, h⟩, FX rfl⟩
def Zj6 (s1 : (List Action)) (x2 : (Action → Option Bool)) : Option Bool :=
 (Zcv s1 x2).bind fun x3 => some (decide (x3 ≥ 0))
theorem Yae : Q2 Tryz.prog 213 (rd (Z2 Z8)) (fn1 Tryz.prog Z8 Z7) (rd Z7) Zj6 := fun s1 x2 r h => I0 Tryz.func213 rfl Tryz.ntmps213 rfl fun w H => by
 unfold Zj6 at h
 refine SR <| Ab rfl <| Nl <| sq ?_
 obtain ⟨x3, hx3, h⟩ := Za h
 refine Rg <| Md rfl <| Ac (Zs (A := fn1 Tryz.prog Z8 Z7 x2) rfl rfl (vt rfl)) rfl <| Cl [5, 6] (Zsb _ _ _ hx3) Zqa rfl <| Ac (Z4z rfl rfl (vt rfl) (vk rfl)) rfl <| As rfl <| Nl <| rt ?_
 cases h; exact Zg Tryz.results213 rfl (Z4 rfl)
def Zjo (a1 : Action) : Option Bool :=
 some (decide (a1.Kind = 22))
theorem Ya4 : Q1 Tryz.prog 214 (rd Z8) (rd Z7) Zjo := fun a1 r h => I0 Tryz.func214 rfl Tryz.ntmps214 rfl fun w H => by
 unfold Zjo at h
 refine SR <| Cv rfl (Zl 2 rfl rfl (vt rfl)) fun g2 => Ab rfl <| Nl <| SR <| Zj Z51 Z58 rfl <| Ld Zt 2 rfl <| Ac (Z0m rfl rfl (vt rfl) (vk rfl)) rfl <| As rfl <| Nl <| rt ?_
 cases h; exact Zg Tryz.results214 rfl (Z4 rfl)
def Zcw (s1 : (List Int)) (x2 : Int) : Nat → Nat → Option Int
 | 0, i3 => some (-1)
 | m4 + 1, i3 => (lget s1 (i3 : Int)).bind fun x5 => (bif (decide (x2 = x5)) then some (i3 : Int) else (Zcw s1 x2 m4) (i3 + 1))
def Zfn (s1 : (List Int)) (x2 : Int) : Option Int :=
 Zcw s1 x2 ((s1.length : Int) : Int).toNat 0
theorem Y23 : Q2 Tryz.prog 273 (rd (Z2 (Z0 .i64))) (rd (Z0 .i64)) (rd (Z0 .i64)) Zfn := fun s1 x2 r h => I0 Tryz.func273 rfl Tryz.ntmps273 rfl fun w H => by
 unfold Zfn at h
 refine SR <| Ak rfl <| Nl <| sq <| SR <| Md rfl <| Ac (Z0x rfl rfl Z0y (vt rfl)) rfl <| Mk rfl <| Nl <| bk <| LG (d := []) (ν := Nat × Nat) (fun (m4, i3) => (Cnt (s1.length : Int) i3 m4 ∧ Zcw s1 x2 m4 i3 = some r, m4, [(0, rd (Z2 (Z0 .i64)) s1), (1, rd (Z0 .i64) x2), (7, rd (Z0 .i64) (s1.length : Int)), (8, rd (Z0 .i64) (i3 : Int))], [])) (((s1.length : Int) : Int).toNat, 0) ⟨Cnt.start _, h⟩ (FX rfl) ?_
 rintro ⟨m4, i3⟩ ⟨hsf1, h⟩
 dsimp only at hsf1 h ⊢
 cases m4 with
 | zero =>
  unfold Zcw at h
  refine SR <| Ac (Zn rfl rfl (vt rfl) (vt rfl)) rfl <| Nl <| sq <| Cn rfl (fun hc => absurd (of_decide_eq_true hc) hsf1.zero) (fun hc => ?_)
  refine xt <| SR <| Ak rfl <| Nl <| rt ?_
  cases h; exact Zg Tryz.results273 rfl (Z4 rfl)
 | succ m4 =>
  unfold Zcw at h
  refine SR <| Ac (Zn rfl rfl (vt rfl) (vt rfl)) rfl <| Nl <| sq <| Cn rfl (fun hc => ?_) (fun hc => absurd hsf1.succ (of_decide_eq_false hc))
  have hlti3 := of_decide_eq_true hc
  refine sk <| sq <| bk <| SR <| Md rfl <| As rfl <| Nl <| sq ?_
  obtain ⟨x5, hx5, h⟩ := Za h
  refine Rg <| Md rfl <| Md rfl <| Md rfl <| Ac (Z0q rfl rfl Z0y (vt rfl) (vt rfl) hx5) rfl <| Lp1 Zt rfl <| Ac (Z0m rfl rfl (vt rfl) (vt rfl)) rfl <| Nl <| Cq rfl h (fun h => ?_) (fun h => ?_)
  ·refine SR <| Md rfl <| As rfl <| Nl <| rt ?_
   cases h; exact Zg Tryz.results273 rfl (Z4 rfl)
  ·refine sk <| Rg <| Ac (Z23 (t := 7) rfl rfl (vt rfl) (vk rfl) (vt rfl) hlti3) rfl <| Md rfl <| Nl ?_
   exact ⟨(_, _), Nat.lt_succ_self _, ⟨hsf1.next, h⟩, FX rfl⟩
def Zdt (k1 : Int) : Option Int :=
 (Zfn [18, 17, 25, 22, 0] k1).bind fun x2 => some x2
theorem Ztm : Q1 Tryz.prog 218 (rd (Z0 .i64)) (rd (Z0 .i64)) Zdt := fun k1 r h => I0 Tryz.func218 rfl Tryz.ntmps218 rfl fun w H => by
 unfold Zdt at h
 refine SR <| Ak rfl <| Nl <| sq ?_
 obtain ⟨x2, hx2, h⟩ := Za h
 refine Rg <| Ac (Zpw (ps := [(0, .const (Value.int IntKind.i64 18)), (1, .const (Value.int IntKind.i64 17)), (2, .const (Value.int IntKind.i64 25)), (3, .const (Value.int IntKind.i64 22)), (4, .const (Value.int IntKind.i64 0))]) (l := [18, 17, 25, 22, 0]) rfl rfl Z0y zr3 rfl rfl ⟨_, _, Lens.idx 5 (Z0 .i64) 0 (by decide), _, rfl, (vk rfl), _, _, Lens.idx 5 (Z0 .i64) 1 (by decide), _, rfl, (vk rfl), _, _, Lens.idx 5 (Z0 .i64) 2 (by decide), _, rfl, (vk rfl), _, _, Lens.idx 5 (Z0 .i64) 3 (by decide), _, rfl, (vk rfl), _, _, Lens.idx 5 (Z0 .i64) 4 (by decide), _, rfl, (vk rfl), rfl⟩ rfl) rfl <| Md rfl <| Cl [3, 4] (Y23 _ _ _ hx2) Y46 rfl <| As rfl <| Nl <| rt ?_
 cases h; exact Zg Tryz.results218 rfl (Z4 rfl)
def Zbg (a1 : Action) (x2 : Bool) : Option Bool :=
 (Zdt a1.Kind).bind fun x4 => some ((decide (x4 < 0)) || (x2 && (decide (a1.Kind = 0))))
theorem Yjr : Q2 Tryz.prog 217 (rd Z8) (rp Z7) (rd Z7) Zbg := fun a1 x2 r h => I0 Tryz.func217 rfl Tryz.ntmps217 rfl fun w H => by
 unfold Zbg at h
 refine SR <| Cv rfl (Zl 3 rfl rfl (vt rfl)) fun g3 => Ab rfl <| Nl <| sq ?_
 obtain ⟨x4, hx4, h⟩ := Za h
 refine Rg <| Zj Z51 Z58 rfl <| Ld Zt 3 rfl <| Cl [5] (Ztm _ _ hx4) Zq0 rfl <| Ac (Zn rfl rfl (vt rfl) (vk rfl)) rfl <| Md rfl <| Gd rfl (fun hq => Zbj rfl rfl ty4 (vt rfl)) <| AOps.consG (OpG.guardX rfl rfl rfl rfl rfl fun hq => Zs (A := rd Z7 x2) rfl rfl (Zo rfl hq)) <| AOps.consG (OpG.guardN rfl rfl rfl rfl rfl fun hq => Z3y Z51 rfl rfl Z58 (vt rfl)) <| AOps.consG (OpG.guardN rfl rfl rfl rfl rfl fun hq => Z29 rfl rfl Zt (Zo rfl hq) (i := 3) rfl) <| AOps.consG (OpG.guardN rfl rfl rfl rfl rfl fun hq => Z0m rfl rfl (Zo rfl hq) (vk rfl)) <| Gd rfl (fun hq => Z1t rfl rfl (vgx rfl hq) (vgw rfl hq)) <| Ac (Za0 rfl rfl (vt rfl) (vt rfl)) rfl <| As rfl <| Nl <| rt ?_
 cases h; exact Zg Tryz.results217 rfl (Z4 rfl)
end Go.Proofs.YtknpgojdkobgjaaGreat.W
