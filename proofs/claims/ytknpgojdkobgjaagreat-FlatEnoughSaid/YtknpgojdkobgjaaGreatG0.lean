/- A part of the proof. -/
import Derived.Test.YtknpgojdkobgjaaGreatL1
import Derived.Test.YtknpgojdkobgjaaGreatProg
import Derived.KernelRfl
set_option linter.unusedVariables false
set_option maxRecDepth 4000
set_option linter.unusedSimpArgs false
namespace Go.Proofs.YtknpgojdkobgjaaGreat.W
open Go Go.Wb
structure Wide where
 Hi : (BitVec 64)
 Lo : (BitVec 64)
 deriving DecidableEq, Inhabited
def Zn : Kd Wide := Z0z (Z8 Z0b Z0b) (fun x => (x.Hi, x.Lo))
instance : PureK Zn := inferInstanceAs (PureK (Z0z (Z8 Z0b Z0b) (fun (x : Wide) => (x.Hi, x.Lo))))
def Z36 : Lens Zn Z0b := Lens.iso (k := (Z8 Z0b Z0b)) (Lens.fst _ _) Wide.Hi (fun x y => { x with Hi := y }) (fun _ => rfl) (fun _ _ => rfl)
def Z34 : Lens Zn Z0b := Lens.iso (k := (Z8 Z0b Z0b)) (Lens.snd _ _) Wide.Lo (fun x y => { x with Lo := y }) (fun _ => rfl) (fun _ _ => rfl)
def Zy : Wide := ⟨0, 0⟩
theorem Z88 : KZ Zn Zy [(Value.int IntKind.u64 0), (Value.int IntKind.u64 0)] := Z31 (Z0u Zjg Zjg)
structure Tern where
 Value : Wide
 Mask : Wide
 deriving DecidableEq, Inhabited
def Z4 : Kd Tern := Z0z (Z8 Zn Zn) (fun x => (x.Value, x.Mask))
instance : PureK Z4 := inferInstanceAs (PureK (Z0z (Z8 Zn Zn) (fun (x : Tern) => (x.Value, x.Mask))))
def Z1p : Lens Z4 Zn := Lens.iso (k := (Z8 Zn Zn)) (Lens.fst _ _) Tern.Value (fun x y => { x with Value := y }) (fun _ => rfl) (fun _ _ => rfl)
def Z1g : Lens Z4 Zn := Lens.iso (k := (Z8 Zn Zn)) (Lens.snd _ _) Tern.Mask (fun x y => { x with Mask := y }) (fun _ => rfl) (fun _ _ => rfl)
def Z0h : Tern := ⟨Zy, Zy⟩
theorem Z8h : KZ Z4 Z0h [(Value.int IntKind.u64 0), (Value.int IntKind.u64 0), (Value.int IntKind.u64 0), (Value.int IntKind.u64 0)] := Z31 (Z0u Z88 Z88)
structure Oxm where
 Field : Int
 Masked : Bool
 Value : Wide
 Mask : Wide
 deriving DecidableEq, Inhabited
def Z1f : Kd Oxm := Z0z (Z8 (Z0 .i64) (Z8 Z6 (Z8 Zn Zn))) (fun x => (x.Field, (x.Masked, (x.Value, x.Mask))))
instance : PureK Z1f := inferInstanceAs (PureK (Z0z (Z8 (Z0 .i64) (Z8 Z6 (Z8 Zn Zn))) (fun (x : Oxm) => (x.Field, (x.Masked, (x.Value, x.Mask))))))
def Z9j : Lens Z1f (Z0 .i64) := Lens.iso (k := (Z8 (Z0 .i64) (Z8 Z6 (Z8 Zn Zn)))) (Lens.fst _ _) Oxm.Field (fun x y => { x with Field := y }) (fun _ => rfl) (fun _ _ => rfl)
def Zux : Lens Z1f Z6 := Lens.iso (k := (Z8 (Z0 .i64) (Z8 Z6 (Z8 Zn Zn)))) (Lens.comp (Lens.snd _ _) (Lens.fst _ _)) Oxm.Masked (fun x y => { x with Masked := y }) (fun _ => rfl) (fun _ _ => rfl)
def Zmd : Lens Z1f Zn := Lens.iso (k := (Z8 (Z0 .i64) (Z8 Z6 (Z8 Zn Zn)))) (Lens.comp (Lens.comp (Lens.snd _ _) (Lens.snd _ _)) (Lens.fst _ _)) Oxm.Value (fun x y => { x with Value := y }) (fun _ => rfl) (fun _ _ => rfl)
def Zp5 : Lens Z1f Zn := Lens.iso (k := (Z8 (Z0 .i64) (Z8 Z6 (Z8 Zn Zn)))) (Lens.comp (Lens.comp (Lens.snd _ _) (Lens.snd _ _)) (Lens.snd _ _)) Oxm.Mask (fun x y => { x with Mask := y }) (fun _ => rfl) (fun _ _ => rfl)
def Z4r : Oxm := ⟨0, false, Zy, Zy⟩
theorem Zum : KZ Z1f Z4r [(Value.int IntKind.i64 0), (Value.bool false), (Value.int IntKind.u64 0), (Value.int IntKind.u64 0), (Value.int IntKind.u64 0), (Value.int IntKind.u64 0)] := Z31 (Z0u Z1v (Z0u Zeq (Z0u Z88 Z88)))
structure Action where
 Kind : Int
 Port : Int
 Max : Int
 Group : Int
 Ether : Int
 Oxm : Oxm
 deriving DecidableEq, Inhabited
def Z5 : Kd Action := Z0z (Z8 (Z0 .i64) (Z8 (Z0 .i64) (Z8 (Z0 .i64) (Z8 (Z0 .i64) (Z8 (Z0 .i64) Z1f))))) (fun x => (x.Kind, (x.Port, (x.Max, (x.Group, (x.Ether, x.Oxm))))))
instance : PureK Z5 := inferInstanceAs (PureK (Z0z (Z8 (Z0 .i64) (Z8 (Z0 .i64) (Z8 (Z0 .i64) (Z8 (Z0 .i64) (Z8 (Z0 .i64) Z1f))))) (fun (x : Action) => (x.Kind, (x.Port, (x.Max, (x.Group, (x.Ether, x.Oxm))))))))
def Z6a : Lens Z5 (Z0 .i64) := Lens.iso (k := (Z8 (Z0 .i64) (Z8 (Z0 .i64) (Z8 (Z0 .i64) (Z8 (Z0 .i64) (Z8 (Z0 .i64) Z1f)))))) (Lens.fst _ _) Action.Kind (fun x y => { x with Kind := y }) (fun _ => rfl) (fun _ _ => rfl)
def Zgj : Lens Z5 (Z0 .i64) := Lens.iso (k := (Z8 (Z0 .i64) (Z8 (Z0 .i64) (Z8 (Z0 .i64) (Z8 (Z0 .i64) (Z8 (Z0 .i64) Z1f)))))) (Lens.comp (Lens.snd _ _) (Lens.fst _ _)) Action.Port (fun x y => { x with Port := y }) (fun _ => rfl) (fun _ _ => rfl)
def Zsn : Lens Z5 (Z0 .i64) := Lens.iso (k := (Z8 (Z0 .i64) (Z8 (Z0 .i64) (Z8 (Z0 .i64) (Z8 (Z0 .i64) (Z8 (Z0 .i64) Z1f)))))) (Lens.comp (Lens.comp (Lens.snd _ _) (Lens.snd _ _)) (Lens.fst _ _)) Action.Max (fun x y => { x with Max := y }) (fun _ => rfl) (fun _ _ => rfl)
def Zs3 : Lens Z5 (Z0 .i64) := Lens.iso (k := (Z8 (Z0 .i64) (Z8 (Z0 .i64) (Z8 (Z0 .i64) (Z8 (Z0 .i64) (Z8 (Z0 .i64) Z1f)))))) (Lens.comp (Lens.comp (Lens.comp (Lens.snd _ _) (Lens.snd _ _)) (Lens.snd _ _)) (Lens.fst _ _)) Action.Group (fun x y => { x with Group := y }) (fun _ => rfl) (fun _ _ => rfl)
def Zi3 : Lens Z5 Z1f := Lens.iso (k := (Z8 (Z0 .i64) (Z8 (Z0 .i64) (Z8 (Z0 .i64) (Z8 (Z0 .i64) (Z8 (Z0 .i64) Z1f)))))) (Lens.comp (Lens.comp (Lens.comp (Lens.comp (Lens.snd _ _) (Lens.snd _ _)) (Lens.snd _ _)) (Lens.snd _ _)) (Lens.snd _ _)) Action.Oxm (fun x y => { x with Oxm := y }) (fun _ => rfl) (fun _ _ => rfl)
def Zjl : Action := ⟨0, 0, 0, 0, 0, Z4r⟩
theorem Zvw : KZ Z5 Zjl [(Value.int IntKind.i64 0), (Value.int IntKind.i64 0), (Value.int IntKind.i64 0), (Value.int IntKind.i64 0), (Value.int IntKind.i64 0), (Value.int IntKind.i64 0), (Value.bool false), (Value.int IntKind.u64 0), (Value.int IntKind.u64 0), (Value.int IntKind.u64 0), (Value.int IntKind.u64 0)] := Z31 (Z0u Z1v (Z0u Z1v (Z0u Z1v (Z0u Z1v (Z0u Z1v Zum)))))
structure Inst where
 Kind : Int
 Table : Int
 Value : Wide
 Mask : Wide
 Acts : (List Action)
 deriving DecidableEq, Inhabited
def Z0s : Kd Inst := Z0z (Z8 (Z0 .i64) (Z8 (Z0 .i64) (Z8 Zn (Z8 Zn (Z2 Z5))))) (fun x => (x.Kind, (x.Table, (x.Value, (x.Mask, x.Acts)))))
def Zgv : Lens Z0s (Z0 .i64) := Lens.iso (k := (Z8 (Z0 .i64) (Z8 (Z0 .i64) (Z8 Zn (Z8 Zn (Z2 Z5)))))) (Lens.fst _ _) Inst.Kind (fun x y => { x with Kind := y }) (fun _ => rfl) (fun _ _ => rfl)
def Zdq : Lens Z0s (Z0 .i64) := Lens.iso (k := (Z8 (Z0 .i64) (Z8 (Z0 .i64) (Z8 Zn (Z8 Zn (Z2 Z5)))))) (Lens.comp (Lens.snd _ _) (Lens.fst _ _)) Inst.Table (fun x y => { x with Table := y }) (fun _ => rfl) (fun _ _ => rfl)
def Zsi : Lens Z0s Zn := Lens.iso (k := (Z8 (Z0 .i64) (Z8 (Z0 .i64) (Z8 Zn (Z8 Zn (Z2 Z5)))))) (Lens.comp (Lens.comp (Lens.snd _ _) (Lens.snd _ _)) (Lens.fst _ _)) Inst.Value (fun x y => { x with Value := y }) (fun _ => rfl) (fun _ _ => rfl)
def Zpc : Lens Z0s Zn := Lens.iso (k := (Z8 (Z0 .i64) (Z8 (Z0 .i64) (Z8 Zn (Z8 Zn (Z2 Z5)))))) (Lens.comp (Lens.comp (Lens.comp (Lens.snd _ _) (Lens.snd _ _)) (Lens.snd _ _)) (Lens.fst _ _)) Inst.Mask (fun x y => { x with Mask := y }) (fun _ => rfl) (fun _ _ => rfl)
def Z9i : Lens Z0s (Z2 Z5) := Lens.iso (k := (Z8 (Z0 .i64) (Z8 (Z0 .i64) (Z8 Zn (Z8 Zn (Z2 Z5)))))) (Lens.comp (Lens.comp (Lens.comp (Lens.snd _ _) (Lens.snd _ _)) (Lens.snd _ _)) (Lens.snd _ _)) Inst.Acts (fun x y => { x with Acts := y }) (fun _ => rfl) (fun _ _ => rfl)
def Ztc : Inst := ⟨0, 0, Zy, Zy, []⟩
theorem Y8i : KZ Z0s Ztc [(Value.int IntKind.i64 0), (Value.int IntKind.i64 0), (Value.int IntKind.u64 0), (Value.int IntKind.u64 0), (Value.int IntKind.u64 0), (Value.int IntKind.u64 0), (Value.slice none 0 0)] := Z31 (Z0u Z1v (Z0u Z1v (Z0u Z88 (Z0u Z88 (Z51 _)))))
structure Flow where
 Cookie : (BitVec 64)
 Priority : Int
 Idle : Int
 Hard : Int
 Flags : Int
 Match : (List Oxm)
 Insts : (List Inst)
 deriving DecidableEq, Inhabited
def Z0o : Kd Flow := Z0z (Z8 Z0b (Z8 (Z0 .i64) (Z8 (Z0 .i64) (Z8 (Z0 .i64) (Z8 (Z0 .i64) (Z8 (Z2 Z1f) (Z2 Z0s))))))) (fun x => (x.Cookie, (x.Priority, (x.Idle, (x.Hard, (x.Flags, (x.Match, x.Insts)))))))
def Z9r : Lens Z0o (Z0 .i64) := Lens.iso (k := (Z8 Z0b (Z8 (Z0 .i64) (Z8 (Z0 .i64) (Z8 (Z0 .i64) (Z8 (Z0 .i64) (Z8 (Z2 Z1f) (Z2 Z0s)))))))) (Lens.comp (Lens.snd _ _) (Lens.fst _ _)) Flow.Priority (fun x y => { x with Priority := y }) (fun _ => rfl) (fun _ _ => rfl)
def Zml : Lens Z0o (Z2 Z1f) := Lens.iso (k := (Z8 Z0b (Z8 (Z0 .i64) (Z8 (Z0 .i64) (Z8 (Z0 .i64) (Z8 (Z0 .i64) (Z8 (Z2 Z1f) (Z2 Z0s)))))))) (Lens.comp (Lens.comp (Lens.comp (Lens.comp (Lens.comp (Lens.snd _ _) (Lens.snd _ _)) (Lens.snd _ _)) (Lens.snd _ _)) (Lens.snd _ _)) (Lens.fst _ _)) Flow.Match (fun x y => { x with Match := y }) (fun _ => rfl) (fun _ _ => rfl)
def Zdo : Lens Z0o (Z2 Z0s) := Lens.iso (k := (Z8 Z0b (Z8 (Z0 .i64) (Z8 (Z0 .i64) (Z8 (Z0 .i64) (Z8 (Z0 .i64) (Z8 (Z2 Z1f) (Z2 Z0s)))))))) (Lens.comp (Lens.comp (Lens.comp (Lens.comp (Lens.comp (Lens.snd _ _) (Lens.snd _ _)) (Lens.snd _ _)) (Lens.snd _ _)) (Lens.snd _ _)) (Lens.snd _ _)) Flow.Insts (fun x y => { x with Insts := y }) (fun _ => rfl) (fun _ _ => rfl)
def Zqa : Flow := ⟨0, 0, 0, 0, 0, [], []⟩
theorem Y3d : KZ Z0o Zqa [(Value.int IntKind.u64 0), (Value.int IntKind.i64 0), (Value.int IntKind.i64 0), (Value.int IntKind.i64 0), (Value.int IntKind.i64 0), (Value.slice none 0 0), (Value.slice none 0 0)] := Z31 (Z0u Zjg (Z0u Z1v (Z0u Z1v (Z0u Z1v (Z0u Z1v (Z0u (Z51 _) (Z51 _)))))))
structure field_row where
 name : ByteArray
 id : Int
 bits : Int
 masks : Bool
 deriving DecidableEq, Inhabited
def Z0y : Kd field_row := Z0z (Z8 Z68 (Z8 (Z0 .i64) (Z8 (Z0 .i64) Z6))) (fun x => (x.name, (x.id, (x.bits, x.masks))))
instance : PureK Z0y := inferInstanceAs (PureK (Z0z (Z8 Z68 (Z8 (Z0 .i64) (Z8 (Z0 .i64) Z6))) (fun (x : field_row) => (x.name, (x.id, (x.bits, x.masks))))))
def Z20 : Lens Z0y Z68 := Lens.iso (k := (Z8 Z68 (Z8 (Z0 .i64) (Z8 (Z0 .i64) Z6)))) (Lens.fst _ _) field_row.name (fun x y => { x with name := y }) (fun _ => rfl) (fun _ _ => rfl)
def Z1u : Lens Z0y (Z0 .i64) := Lens.iso (k := (Z8 Z68 (Z8 (Z0 .i64) (Z8 (Z0 .i64) Z6)))) (Lens.comp (Lens.snd _ _) (Lens.fst _ _)) field_row.id (fun x y => { x with id := y }) (fun _ => rfl) (fun _ _ => rfl)
def Z1r : Lens Z0y (Z0 .i64) := Lens.iso (k := (Z8 Z68 (Z8 (Z0 .i64) (Z8 (Z0 .i64) Z6)))) (Lens.comp (Lens.comp (Lens.snd _ _) (Lens.snd _ _)) (Lens.fst _ _)) field_row.bits (fun x y => { x with bits := y }) (fun _ => rfl) (fun _ _ => rfl)
def Z21 : Lens Z0y Z6 := Lens.iso (k := (Z8 Z68 (Z8 (Z0 .i64) (Z8 (Z0 .i64) Z6)))) (Lens.comp (Lens.comp (Lens.snd _ _) (Lens.snd _ _)) (Lens.snd _ _)) field_row.masks (fun x y => { x with masks := y }) (fun _ => rfl) (fun _ _ => rfl)
def Zfu : field_row := ⟨(⟨#[]⟩ : ByteArray), 0, 0, false⟩
theorem Zqt : KZ Z0y Zfu [(Value.string { data := #[] }), (Value.int IntKind.i64 0), (Value.int IntKind.i64 0), (Value.bool false)] := Z31 (Z0u Y33 (Z0u Z1v (Z0u Z1v Zeq)))
structure Atom where
 Rewrite : (Vector Tern 24)
 Group : Bool
 Port : Int
 Max : Int
 deriving DecidableEq, Inhabited
def Z0a : Kd Atom := Z0z (Z8 (Z3 24 Z4) (Z8 Z6 (Z8 (Z0 .i64) (Z0 .i64)))) (fun x => (x.Rewrite, (x.Group, (x.Port, x.Max))))
instance : PureK Z0a := inferInstanceAs (PureK (Z0z (Z8 (Z3 24 Z4) (Z8 Z6 (Z8 (Z0 .i64) (Z0 .i64)))) (fun (x : Atom) => (x.Rewrite, (x.Group, (x.Port, x.Max))))))
def Zc0 : Lens Z0a (Z3 24 Z4) := Lens.iso (k := (Z8 (Z3 24 Z4) (Z8 Z6 (Z8 (Z0 .i64) (Z0 .i64))))) (Lens.fst _ _) Atom.Rewrite (fun x y => { x with Rewrite := y }) (fun _ => rfl) (fun _ _ => rfl)
def Zuu : Lens Z0a Z6 := Lens.iso (k := (Z8 (Z3 24 Z4) (Z8 Z6 (Z8 (Z0 .i64) (Z0 .i64))))) (Lens.comp (Lens.snd _ _) (Lens.fst _ _)) Atom.Group (fun x y => { x with Group := y }) (fun _ => rfl) (fun _ _ => rfl)
def Zky : Lens Z0a (Z0 .i64) := Lens.iso (k := (Z8 (Z3 24 Z4) (Z8 Z6 (Z8 (Z0 .i64) (Z0 .i64))))) (Lens.comp (Lens.comp (Lens.snd _ _) (Lens.snd _ _)) (Lens.fst _ _)) Atom.Port (fun x y => { x with Port := y }) (fun _ => rfl) (fun _ _ => rfl)
def Zu0 : Lens Z0a (Z0 .i64) := Lens.iso (k := (Z8 (Z3 24 Z4) (Z8 Z6 (Z8 (Z0 .i64) (Z0 .i64))))) (Lens.comp (Lens.comp (Lens.snd _ _) (Lens.snd _ _)) (Lens.snd _ _)) Atom.Max (fun x y => { x with Max := y }) (fun _ => rfl) (fun _ _ => rfl)
def Zok : Atom := ⟨(Vector.replicate 24 Z0h), false, 0, 0⟩
theorem Y2q : KZ Z0a Zok [(Value.int IntKind.u64 0), (Value.int IntKind.u64 0), (Value.int IntKind.u64 0), (Value.int IntKind.u64 0), (Value.int IntKind.u64 0), (Value.int IntKind.u64 0), (Value.int IntKind.u64 0), (Value.int IntKind.u64 0), (Value.int IntKind.u64 0), (Value.int IntKind.u64 0), (Value.int IntKind.u64 0), (Value.int IntKind.u64 0), (Value.int IntKind.u64 0), (Value.int IntKind.u64 0), (Value.int IntKind.u64 0), (Value.int IntKind.u64 0), (Value.int IntKind.u64 0), (Value.int IntKind.u64 0), (Value.int IntKind.u64 0), (Value.int IntKind.u64 0), (Value.int IntKind.u64 0), (Value.int IntKind.u64 0), (Value.int IntKind.u64 0), (Value.int IntKind.u64 0), (Value.int IntKind.u64 0), (Value.int IntKind.u64 0), (Value.int IntKind.u64 0), (Value.int IntKind.u64 0), (Value.int IntKind.u64 0), (Value.int IntKind.u64 0), (Value.int IntKind.u64 0), (Value.int IntKind.u64 0), (Value.int IntKind.u64 0), (Value.int IntKind.u64 0), (Value.int IntKind.u64 0), (Value.int IntKind.u64 0), (Value.int IntKind.u64 0), (Value.int IntKind.u64 0), (Value.int IntKind.u64 0), (Value.int IntKind.u64 0), (Value.int IntKind.u64 0), (Value.int IntKind.u64 0), (Value.int IntKind.u64 0), (Value.int IntKind.u64 0), (Value.int IntKind.u64 0), (Value.int IntKind.u64 0), (Value.int IntKind.u64 0), (Value.int IntKind.u64 0), (Value.int IntKind.u64 0), (Value.int IntKind.u64 0), (Value.int IntKind.u64 0), (Value.int IntKind.u64 0), (Value.int IntKind.u64 0), (Value.int IntKind.u64 0), (Value.int IntKind.u64 0), (Value.int IntKind.u64 0), (Value.int IntKind.u64 0), (Value.int IntKind.u64 0), (Value.int IntKind.u64 0), (Value.int IntKind.u64 0), (Value.int IntKind.u64 0), (Value.int IntKind.u64 0), (Value.int IntKind.u64 0), (Value.int IntKind.u64 0), (Value.int IntKind.u64 0), (Value.int IntKind.u64 0), (Value.int IntKind.u64 0), (Value.int IntKind.u64 0), (Value.int IntKind.u64 0), (Value.int IntKind.u64 0), (Value.int IntKind.u64 0), (Value.int IntKind.u64 0), (Value.int IntKind.u64 0), (Value.int IntKind.u64 0), (Value.int IntKind.u64 0), (Value.int IntKind.u64 0), (Value.int IntKind.u64 0), (Value.int IntKind.u64 0), (Value.int IntKind.u64 0), (Value.int IntKind.u64 0), (Value.int IntKind.u64 0), (Value.int IntKind.u64 0), (Value.int IntKind.u64 0), (Value.int IntKind.u64 0), (Value.int IntKind.u64 0), (Value.int IntKind.u64 0), (Value.int IntKind.u64 0), (Value.int IntKind.u64 0), (Value.int IntKind.u64 0), (Value.int IntKind.u64 0), (Value.int IntKind.u64 0), (Value.int IntKind.u64 0), (Value.int IntKind.u64 0), (Value.int IntKind.u64 0), (Value.int IntKind.u64 0), (Value.int IntKind.u64 0), (Value.bool false), (Value.int IntKind.i64 0), (Value.int IntKind.i64 0)] := Z31 (Z0u (Z5j 24 Z8h) (Z0u Zeq (Z0u Z1v Z1v)))
structure walk_way where
 cube : (Vector Tern 24)
 got : (Vector Tern 24)
 atoms : (List Atom)
 set : (List Action)
 deriving DecidableEq, Inhabited
def Z0c : Kd walk_way := Z0z (Z8 (Z3 24 Z4) (Z8 (Z3 24 Z4) (Z8 (Z2 Z0a) (Z2 Z5)))) (fun x => (x.cube, (x.got, (x.atoms, x.set))))
def Zev : Lens Z0c (Z3 24 Z4) := Lens.iso (k := (Z8 (Z3 24 Z4) (Z8 (Z3 24 Z4) (Z8 (Z2 Z0a) (Z2 Z5))))) (Lens.fst _ _) walk_way.cube (fun x y => { x with cube := y }) (fun _ => rfl) (fun _ _ => rfl)
def Zay : Lens Z0c (Z3 24 Z4) := Lens.iso (k := (Z8 (Z3 24 Z4) (Z8 (Z3 24 Z4) (Z8 (Z2 Z0a) (Z2 Z5))))) (Lens.comp (Lens.snd _ _) (Lens.fst _ _)) walk_way.got (fun x y => { x with got := y }) (fun _ => rfl) (fun _ _ => rfl)
def Zby : Lens Z0c (Z2 Z0a) := Lens.iso (k := (Z8 (Z3 24 Z4) (Z8 (Z3 24 Z4) (Z8 (Z2 Z0a) (Z2 Z5))))) (Lens.comp (Lens.comp (Lens.snd _ _) (Lens.snd _ _)) (Lens.fst _ _)) walk_way.atoms (fun x y => { x with atoms := y }) (fun _ => rfl) (fun _ _ => rfl)
def Zdv : Lens Z0c (Z2 Z5) := Lens.iso (k := (Z8 (Z3 24 Z4) (Z8 (Z3 24 Z4) (Z8 (Z2 Z0a) (Z2 Z5))))) (Lens.comp (Lens.comp (Lens.snd _ _) (Lens.snd _ _)) (Lens.snd _ _)) walk_way.set (fun x y => { x with set := y }) (fun _ => rfl) (fun _ _ => rfl)
def Z6c : walk_way := ⟨(Vector.replicate 24 Z0h), (Vector.replicate 24 Z0h), [], []⟩
theorem Y0h : KZ Z0c Z6c [(Value.int IntKind.u64 0), (Value.int IntKind.u64 0), (Value.int IntKind.u64 0), (Value.int IntKind.u64 0), (Value.int IntKind.u64 0), (Value.int IntKind.u64 0), (Value.int IntKind.u64 0), (Value.int IntKind.u64 0), (Value.int IntKind.u64 0), (Value.int IntKind.u64 0), (Value.int IntKind.u64 0), (Value.int IntKind.u64 0), (Value.int IntKind.u64 0), (Value.int IntKind.u64 0), (Value.int IntKind.u64 0), (Value.int IntKind.u64 0), (Value.int IntKind.u64 0), (Value.int IntKind.u64 0), (Value.int IntKind.u64 0), (Value.int IntKind.u64 0), (Value.int IntKind.u64 0), (Value.int IntKind.u64 0), (Value.int IntKind.u64 0), (Value.int IntKind.u64 0), (Value.int IntKind.u64 0), (Value.int IntKind.u64 0), (Value.int IntKind.u64 0), (Value.int IntKind.u64 0), (Value.int IntKind.u64 0), (Value.int IntKind.u64 0), (Value.int IntKind.u64 0), (Value.int IntKind.u64 0), (Value.int IntKind.u64 0), (Value.int IntKind.u64 0), (Value.int IntKind.u64 0), (Value.int IntKind.u64 0), (Value.int IntKind.u64 0), (Value.int IntKind.u64 0), (Value.int IntKind.u64 0), (Value.int IntKind.u64 0), (Value.int IntKind.u64 0), (Value.int IntKind.u64 0), (Value.int IntKind.u64 0), (Value.int IntKind.u64 0), (Value.int IntKind.u64 0), (Value.int IntKind.u64 0), (Value.int IntKind.u64 0), (Value.int IntKind.u64 0), (Value.int IntKind.u64 0), (Value.int IntKind.u64 0), (Value.int IntKind.u64 0), (Value.int IntKind.u64 0), (Value.int IntKind.u64 0), (Value.int IntKind.u64 0), (Value.int IntKind.u64 0), (Value.int IntKind.u64 0), (Value.int IntKind.u64 0), (Value.int IntKind.u64 0), (Value.int IntKind.u64 0), (Value.int IntKind.u64 0), (Value.int IntKind.u64 0), (Value.int IntKind.u64 0), (Value.int IntKind.u64 0), (Value.int IntKind.u64 0), (Value.int IntKind.u64 0), (Value.int IntKind.u64 0), (Value.int IntKind.u64 0), (Value.int IntKind.u64 0), (Value.int IntKind.u64 0), (Value.int IntKind.u64 0), (Value.int IntKind.u64 0), (Value.int IntKind.u64 0), (Value.int IntKind.u64 0), (Value.int IntKind.u64 0), (Value.int IntKind.u64 0), (Value.int IntKind.u64 0), (Value.int IntKind.u64 0), (Value.int IntKind.u64 0), (Value.int IntKind.u64 0), (Value.int IntKind.u64 0), (Value.int IntKind.u64 0), (Value.int IntKind.u64 0), (Value.int IntKind.u64 0), (Value.int IntKind.u64 0), (Value.int IntKind.u64 0), (Value.int IntKind.u64 0), (Value.int IntKind.u64 0), (Value.int IntKind.u64 0), (Value.int IntKind.u64 0), (Value.int IntKind.u64 0), (Value.int IntKind.u64 0), (Value.int IntKind.u64 0), (Value.int IntKind.u64 0), (Value.int IntKind.u64 0), (Value.int IntKind.u64 0), (Value.int IntKind.u64 0), (Value.int IntKind.u64 0), (Value.int IntKind.u64 0), (Value.int IntKind.u64 0), (Value.int IntKind.u64 0), (Value.int IntKind.u64 0), (Value.int IntKind.u64 0), (Value.int IntKind.u64 0), (Value.int IntKind.u64 0), (Value.int IntKind.u64 0), (Value.int IntKind.u64 0), (Value.int IntKind.u64 0), (Value.int IntKind.u64 0), (Value.int IntKind.u64 0), (Value.int IntKind.u64 0), (Value.int IntKind.u64 0), (Value.int IntKind.u64 0), (Value.int IntKind.u64 0), (Value.int IntKind.u64 0), (Value.int IntKind.u64 0), (Value.int IntKind.u64 0), (Value.int IntKind.u64 0), (Value.int IntKind.u64 0), (Value.int IntKind.u64 0), (Value.int IntKind.u64 0), (Value.int IntKind.u64 0), (Value.int IntKind.u64 0), (Value.int IntKind.u64 0), (Value.int IntKind.u64 0), (Value.int IntKind.u64 0), (Value.int IntKind.u64 0), (Value.int IntKind.u64 0), (Value.int IntKind.u64 0), (Value.int IntKind.u64 0), (Value.int IntKind.u64 0), (Value.int IntKind.u64 0), (Value.int IntKind.u64 0), (Value.int IntKind.u64 0), (Value.int IntKind.u64 0), (Value.int IntKind.u64 0), (Value.int IntKind.u64 0), (Value.int IntKind.u64 0), (Value.int IntKind.u64 0), (Value.int IntKind.u64 0), (Value.int IntKind.u64 0), (Value.int IntKind.u64 0), (Value.int IntKind.u64 0), (Value.int IntKind.u64 0), (Value.int IntKind.u64 0), (Value.int IntKind.u64 0), (Value.int IntKind.u64 0), (Value.int IntKind.u64 0), (Value.int IntKind.u64 0), (Value.int IntKind.u64 0), (Value.int IntKind.u64 0), (Value.int IntKind.u64 0), (Value.int IntKind.u64 0), (Value.int IntKind.u64 0), (Value.int IntKind.u64 0), (Value.int IntKind.u64 0), (Value.int IntKind.u64 0), (Value.int IntKind.u64 0), (Value.int IntKind.u64 0), (Value.int IntKind.u64 0), (Value.int IntKind.u64 0), (Value.int IntKind.u64 0), (Value.int IntKind.u64 0), (Value.int IntKind.u64 0), (Value.int IntKind.u64 0), (Value.int IntKind.u64 0), (Value.int IntKind.u64 0), (Value.int IntKind.u64 0), (Value.int IntKind.u64 0), (Value.int IntKind.u64 0), (Value.int IntKind.u64 0), (Value.int IntKind.u64 0), (Value.int IntKind.u64 0), (Value.int IntKind.u64 0), (Value.int IntKind.u64 0), (Value.int IntKind.u64 0), (Value.int IntKind.u64 0), (Value.int IntKind.u64 0), (Value.int IntKind.u64 0), (Value.int IntKind.u64 0), (Value.int IntKind.u64 0), (Value.int IntKind.u64 0), (Value.int IntKind.u64 0), (Value.int IntKind.u64 0), (Value.int IntKind.u64 0), (Value.int IntKind.u64 0), (Value.int IntKind.u64 0), (Value.int IntKind.u64 0), (Value.int IntKind.u64 0), (Value.int IntKind.u64 0), (Value.int IntKind.u64 0), (Value.int IntKind.u64 0), (Value.int IntKind.u64 0), (Value.slice none 0 0), (Value.slice none 0 0)] := Z31 (Z0u (Z5j 24 Z8h) (Z0u (Z5j 24 Z8h) (Z0u (Z51 _) (Z51 _))))
structure Z4a where
 got : (Vector Tern 24)
 atoms : (List Atom)
 deriving DecidableEq, Inhabited
structure atom_trace_o1 where
 got : (Vector Tern 24)
 atoms : Value
def Z33 : Kd atom_trace_o1 := Z0z (Z8 (Z3 24 Z4) kraw) (fun x => (x.got, x.atoms))
def Zcd : Lens Z33 (Z3 24 Z4) := Lens.iso (k := (Z8 (Z3 24 Z4) kraw)) (Lens.fst _ _) atom_trace_o1.got (fun x y => { x with got := y }) (fun _ => rfl) (fun _ _ => rfl)
def Zdk : Lens Z33 kraw := Lens.iso (k := (Z8 (Z3 24 Z4) kraw)) (Lens.snd _ _) atom_trace_o1.atoms (fun x y => { x with atoms := y }) (fun _ => rfl) (fun _ _ => rfl)
def Zoc : atom_trace_o1 := ⟨(Vector.replicate 24 Z0h), (.slice none 0 0)⟩
theorem Y85 : KZ Z33 Zoc [(Value.int IntKind.u64 0), (Value.int IntKind.u64 0), (Value.int IntKind.u64 0), (Value.int IntKind.u64 0), (Value.int IntKind.u64 0), (Value.int IntKind.u64 0), (Value.int IntKind.u64 0), (Value.int IntKind.u64 0), (Value.int IntKind.u64 0), (Value.int IntKind.u64 0), (Value.int IntKind.u64 0), (Value.int IntKind.u64 0), (Value.int IntKind.u64 0), (Value.int IntKind.u64 0), (Value.int IntKind.u64 0), (Value.int IntKind.u64 0), (Value.int IntKind.u64 0), (Value.int IntKind.u64 0), (Value.int IntKind.u64 0), (Value.int IntKind.u64 0), (Value.int IntKind.u64 0), (Value.int IntKind.u64 0), (Value.int IntKind.u64 0), (Value.int IntKind.u64 0), (Value.int IntKind.u64 0), (Value.int IntKind.u64 0), (Value.int IntKind.u64 0), (Value.int IntKind.u64 0), (Value.int IntKind.u64 0), (Value.int IntKind.u64 0), (Value.int IntKind.u64 0), (Value.int IntKind.u64 0), (Value.int IntKind.u64 0), (Value.int IntKind.u64 0), (Value.int IntKind.u64 0), (Value.int IntKind.u64 0), (Value.int IntKind.u64 0), (Value.int IntKind.u64 0), (Value.int IntKind.u64 0), (Value.int IntKind.u64 0), (Value.int IntKind.u64 0), (Value.int IntKind.u64 0), (Value.int IntKind.u64 0), (Value.int IntKind.u64 0), (Value.int IntKind.u64 0), (Value.int IntKind.u64 0), (Value.int IntKind.u64 0), (Value.int IntKind.u64 0), (Value.int IntKind.u64 0), (Value.int IntKind.u64 0), (Value.int IntKind.u64 0), (Value.int IntKind.u64 0), (Value.int IntKind.u64 0), (Value.int IntKind.u64 0), (Value.int IntKind.u64 0), (Value.int IntKind.u64 0), (Value.int IntKind.u64 0), (Value.int IntKind.u64 0), (Value.int IntKind.u64 0), (Value.int IntKind.u64 0), (Value.int IntKind.u64 0), (Value.int IntKind.u64 0), (Value.int IntKind.u64 0), (Value.int IntKind.u64 0), (Value.int IntKind.u64 0), (Value.int IntKind.u64 0), (Value.int IntKind.u64 0), (Value.int IntKind.u64 0), (Value.int IntKind.u64 0), (Value.int IntKind.u64 0), (Value.int IntKind.u64 0), (Value.int IntKind.u64 0), (Value.int IntKind.u64 0), (Value.int IntKind.u64 0), (Value.int IntKind.u64 0), (Value.int IntKind.u64 0), (Value.int IntKind.u64 0), (Value.int IntKind.u64 0), (Value.int IntKind.u64 0), (Value.int IntKind.u64 0), (Value.int IntKind.u64 0), (Value.int IntKind.u64 0), (Value.int IntKind.u64 0), (Value.int IntKind.u64 0), (Value.int IntKind.u64 0), (Value.int IntKind.u64 0), (Value.int IntKind.u64 0), (Value.int IntKind.u64 0), (Value.int IntKind.u64 0), (Value.int IntKind.u64 0), (Value.int IntKind.u64 0), (Value.int IntKind.u64 0), (Value.int IntKind.u64 0), (Value.int IntKind.u64 0), (Value.int IntKind.u64 0), (Value.int IntKind.u64 0), (Value.slice none 0 0)] := Z31 (Z0u (Z5j 24 Z8h) (Ztj rfl))
structure aset_spot where
 kind : Int
 field : Int
 deriving DecidableEq, Inhabited
def Z57 : Kd aset_spot := Z0z (Z8 (Z0 .i64) (Z0 .i64)) (fun x => (x.kind, x.field))
instance : PureK Z57 := inferInstanceAs (PureK (Z0z (Z8 (Z0 .i64) (Z0 .i64)) (fun (x : aset_spot) => (x.kind, x.field))))
def Zea : Lens Z57 (Z0 .i64) := Lens.iso (k := (Z8 (Z0 .i64) (Z0 .i64))) (Lens.fst _ _) aset_spot.kind (fun x y => { x with kind := y }) (fun _ => rfl) (fun _ _ => rfl)
def Zc5 : Lens Z57 (Z0 .i64) := Lens.iso (k := (Z8 (Z0 .i64) (Z0 .i64))) (Lens.snd _ _) aset_spot.field (fun x y => { x with field := y }) (fun _ => rfl) (fun _ _ => rfl)
def Zj8 : aset_spot := ⟨0, 0⟩
theorem Zwn : KZ Z57 Zj8 [(Value.int IntKind.i64 0), (Value.int IntKind.i64 0)] := Z31 (Z0u Z1v Z1v)
structure Rule where
 Cube : (Vector Tern 24)
 Atoms : (List Atom)
 deriving DecidableEq, Inhabited
def Zv : Kd Rule := Z0z (Z8 (Z3 24 Z4) (Z2 Z0a)) (fun x => (x.Cube, x.Atoms))
def Z98 : Lens Zv (Z3 24 Z4) := Lens.iso (k := (Z8 (Z3 24 Z4) (Z2 Z0a))) (Lens.fst _ _) Rule.Cube (fun x y => { x with Cube := y }) (fun _ => rfl) (fun _ _ => rfl)
def Z9s : Lens Zv (Z2 Z0a) := Lens.iso (k := (Z8 (Z3 24 Z4) (Z2 Z0a))) (Lens.snd _ _) Rule.Atoms (fun x y => { x with Atoms := y }) (fun _ => rfl) (fun _ _ => rfl)
def Zuy : Rule := ⟨(Vector.replicate 24 Z0h), []⟩
theorem Zwq : KZ Zv Zuy [(Value.int IntKind.u64 0), (Value.int IntKind.u64 0), (Value.int IntKind.u64 0), (Value.int IntKind.u64 0), (Value.int IntKind.u64 0), (Value.int IntKind.u64 0), (Value.int IntKind.u64 0), (Value.int IntKind.u64 0), (Value.int IntKind.u64 0), (Value.int IntKind.u64 0), (Value.int IntKind.u64 0), (Value.int IntKind.u64 0), (Value.int IntKind.u64 0), (Value.int IntKind.u64 0), (Value.int IntKind.u64 0), (Value.int IntKind.u64 0), (Value.int IntKind.u64 0), (Value.int IntKind.u64 0), (Value.int IntKind.u64 0), (Value.int IntKind.u64 0), (Value.int IntKind.u64 0), (Value.int IntKind.u64 0), (Value.int IntKind.u64 0), (Value.int IntKind.u64 0), (Value.int IntKind.u64 0), (Value.int IntKind.u64 0), (Value.int IntKind.u64 0), (Value.int IntKind.u64 0), (Value.int IntKind.u64 0), (Value.int IntKind.u64 0), (Value.int IntKind.u64 0), (Value.int IntKind.u64 0), (Value.int IntKind.u64 0), (Value.int IntKind.u64 0), (Value.int IntKind.u64 0), (Value.int IntKind.u64 0), (Value.int IntKind.u64 0), (Value.int IntKind.u64 0), (Value.int IntKind.u64 0), (Value.int IntKind.u64 0), (Value.int IntKind.u64 0), (Value.int IntKind.u64 0), (Value.int IntKind.u64 0), (Value.int IntKind.u64 0), (Value.int IntKind.u64 0), (Value.int IntKind.u64 0), (Value.int IntKind.u64 0), (Value.int IntKind.u64 0), (Value.int IntKind.u64 0), (Value.int IntKind.u64 0), (Value.int IntKind.u64 0), (Value.int IntKind.u64 0), (Value.int IntKind.u64 0), (Value.int IntKind.u64 0), (Value.int IntKind.u64 0), (Value.int IntKind.u64 0), (Value.int IntKind.u64 0), (Value.int IntKind.u64 0), (Value.int IntKind.u64 0), (Value.int IntKind.u64 0), (Value.int IntKind.u64 0), (Value.int IntKind.u64 0), (Value.int IntKind.u64 0), (Value.int IntKind.u64 0), (Value.int IntKind.u64 0), (Value.int IntKind.u64 0), (Value.int IntKind.u64 0), (Value.int IntKind.u64 0), (Value.int IntKind.u64 0), (Value.int IntKind.u64 0), (Value.int IntKind.u64 0), (Value.int IntKind.u64 0), (Value.int IntKind.u64 0), (Value.int IntKind.u64 0), (Value.int IntKind.u64 0), (Value.int IntKind.u64 0), (Value.int IntKind.u64 0), (Value.int IntKind.u64 0), (Value.int IntKind.u64 0), (Value.int IntKind.u64 0), (Value.int IntKind.u64 0), (Value.int IntKind.u64 0), (Value.int IntKind.u64 0), (Value.int IntKind.u64 0), (Value.int IntKind.u64 0), (Value.int IntKind.u64 0), (Value.int IntKind.u64 0), (Value.int IntKind.u64 0), (Value.int IntKind.u64 0), (Value.int IntKind.u64 0), (Value.int IntKind.u64 0), (Value.int IntKind.u64 0), (Value.int IntKind.u64 0), (Value.int IntKind.u64 0), (Value.int IntKind.u64 0), (Value.int IntKind.u64 0), (Value.slice none 0 0)] := Z31 (Z0u (Z5j 24 Z8h) (Z51 _))
structure Bucket where
 Weight : Int
 Watch : Int
 WatchGroup : Int
 Acts : (List Action)
 deriving DecidableEq, Inhabited
def Z0f : Kd Bucket := Z0z (Z8 (Z0 .i64) (Z8 (Z0 .i64) (Z8 (Z0 .i64) (Z2 Z5)))) (fun x => (x.Weight, (x.Watch, (x.WatchGroup, x.Acts))))
def Zjv : Lens Z0f (Z0 .i64) := Lens.iso (k := (Z8 (Z0 .i64) (Z8 (Z0 .i64) (Z8 (Z0 .i64) (Z2 Z5))))) (Lens.fst _ _) Bucket.Weight (fun x y => { x with Weight := y }) (fun _ => rfl) (fun _ _ => rfl)
def Znm : Lens Z0f (Z0 .i64) := Lens.iso (k := (Z8 (Z0 .i64) (Z8 (Z0 .i64) (Z8 (Z0 .i64) (Z2 Z5))))) (Lens.comp (Lens.snd _ _) (Lens.fst _ _)) Bucket.Watch (fun x y => { x with Watch := y }) (fun _ => rfl) (fun _ _ => rfl)
def Zk2 : Lens Z0f (Z0 .i64) := Lens.iso (k := (Z8 (Z0 .i64) (Z8 (Z0 .i64) (Z8 (Z0 .i64) (Z2 Z5))))) (Lens.comp (Lens.comp (Lens.snd _ _) (Lens.snd _ _)) (Lens.fst _ _)) Bucket.WatchGroup (fun x y => { x with WatchGroup := y }) (fun _ => rfl) (fun _ _ => rfl)
def Zb1 : Lens Z0f (Z2 Z5) := Lens.iso (k := (Z8 (Z0 .i64) (Z8 (Z0 .i64) (Z8 (Z0 .i64) (Z2 Z5))))) (Lens.comp (Lens.comp (Lens.snd _ _) (Lens.snd _ _)) (Lens.snd _ _)) Bucket.Acts (fun x y => { x with Acts := y }) (fun _ => rfl) (fun _ _ => rfl)
def Zq0 : Bucket := ⟨0, 0, 0, []⟩
theorem Y3w : KZ Z0f Zq0 [(Value.int IntKind.i64 0), (Value.int IntKind.i64 0), (Value.int IntKind.i64 0), (Value.slice none 0 0)] := Z31 (Z0u Z1v (Z0u Z1v (Z0u Z1v (Z51 _))))
structure Group where
 ID : Int
 Kind : Int
 Buckets : (List Bucket)
 deriving DecidableEq, Inhabited
def Z02 : Kd Group := Z0z (Z8 (Z0 .i64) (Z8 (Z0 .i64) (Z2 Z0f))) (fun x => (x.ID, (x.Kind, x.Buckets)))
def Zds : Lens Z02 (Z0 .i64) := Lens.iso (k := (Z8 (Z0 .i64) (Z8 (Z0 .i64) (Z2 Z0f)))) (Lens.fst _ _) Group.ID (fun x y => { x with ID := y }) (fun _ => rfl) (fun _ _ => rfl)
def Zl7 : Lens Z02 (Z0 .i64) := Lens.iso (k := (Z8 (Z0 .i64) (Z8 (Z0 .i64) (Z2 Z0f)))) (Lens.comp (Lens.snd _ _) (Lens.fst _ _)) Group.Kind (fun x y => { x with Kind := y }) (fun _ => rfl) (fun _ _ => rfl)
def Zcb : Lens Z02 (Z2 Z0f) := Lens.iso (k := (Z8 (Z0 .i64) (Z8 (Z0 .i64) (Z2 Z0f)))) (Lens.comp (Lens.snd _ _) (Lens.snd _ _)) Group.Buckets (fun x y => { x with Buckets := y }) (fun _ => rfl) (fun _ _ => rfl)
def Zjs : Group := ⟨0, 0, []⟩
theorem Zwj : KZ Z02 Zjs [(Value.int IntKind.i64 0), (Value.int IntKind.i64 0), (Value.slice none 0 0)] := Z31 (Z0u Z1v (Z0u Z1v (Z51 _)))
structure Switch where
 Tables : (Vector (List Flow) 4)
 Groups : (List Group)
 deriving DecidableEq, Inhabited
def Z0v : Kd Switch := Z0z (Z8 (Z3 4 (Z2 Z0o)) (Z2 Z02)) (fun x => (x.Tables, x.Groups))
def Zak : Lens Z0v (Z3 4 (Z2 Z0o)) := Lens.iso (k := (Z8 (Z3 4 (Z2 Z0o)) (Z2 Z02))) (Lens.fst _ _) Switch.Tables (fun x y => { x with Tables := y }) (fun _ => rfl) (fun _ _ => rfl)
def Zke : Lens Z0v (Z2 Z02) := Lens.iso (k := (Z8 (Z3 4 (Z2 Z0o)) (Z2 Z02))) (Lens.snd _ _) Switch.Groups (fun x y => { x with Groups := y }) (fun _ => rfl) (fun _ _ => rfl)
def Zn2 : Switch := ⟨(Vector.replicate 4 []), []⟩
theorem Zso : KZ Z0v Zn2 [(Value.slice none 0 0), (Value.slice none 0 0), (Value.slice none 0 0), (Value.slice none 0 0), (Value.slice none 0 0)] := Z31 (Z0u (Z5j 4 (Z51 _)) (Z51 _))
structure cover_purse where
 left : Int
 free : Bool
 deriving DecidableEq, Inhabited
def Z4z : Kd cover_purse := Z0z (Z8 (Z0 .i64) Z6) (fun x => (x.left, x.free))
instance : PureK Z4z := inferInstanceAs (PureK (Z0z (Z8 (Z0 .i64) Z6) (fun (x : cover_purse) => (x.left, x.free))))
def Zep : Lens Z4z (Z0 .i64) := Lens.iso (k := (Z8 (Z0 .i64) Z6)) (Lens.fst _ _) cover_purse.left (fun x y => { x with left := y }) (fun _ => rfl) (fun _ _ => rfl)
def Zjp : Lens Z4z Z6 := Lens.iso (k := (Z8 (Z0 .i64) Z6)) (Lens.snd _ _) cover_purse.free (fun x y => { x with free := y }) (fun _ => rfl) (fun _ _ => rfl)
def Zno : cover_purse := ⟨0, false⟩
theorem Ztq : KZ Z4z Zno [(Value.int IntKind.i64 0), (Value.bool false)] := Z31 (Z0u Z1v Zeq)
structure cover_look where
 purse : cover_purse
 deriving DecidableEq, Inhabited
def Z15 : Kd cover_look := Z0z Z4z (fun x => x.purse)
instance : PureK Z15 := inferInstanceAs (PureK (Z0z Z4z (fun (x : cover_look) => x.purse)))
def Zm4 : Lens Z15 Z4z := Lens.iso (k := Z4z) (Lens.id _) cover_look.purse (fun x y => { x with purse := y }) (fun _ => rfl) (fun _ _ => rfl)
def Zqm : cover_look := ⟨Zno⟩
theorem Y0b : KZ Z15 Zqm [(Value.int IntKind.i64 0), (Value.bool false)] := Z31 Ztq
structure Flat where
 Rules : (List Rule)
 Groups : (List Group)
 deriving DecidableEq, Inhabited
def Z5c : Kd Flat := Z0z (Z8 (Z2 Zv) (Z2 Z02)) (fun x => (x.Rules, x.Groups))
def Z95 : Lens Z5c (Z2 Zv) := Lens.iso (k := (Z8 (Z2 Zv) (Z2 Z02))) (Lens.fst _ _) Flat.Rules (fun x y => { x with Rules := y }) (fun _ => rfl) (fun _ _ => rfl)
def Zhv : Lens Z5c (Z2 Z02) := Lens.iso (k := (Z8 (Z2 Zv) (Z2 Z02))) (Lens.snd _ _) Flat.Groups (fun x y => { x with Groups := y }) (fun _ => rfl) (fun _ _ => rfl)
def Zms : Flat := ⟨[], []⟩
theorem Y4j : KZ Z5c Zms [(Value.slice none 0 0), (Value.slice none 0 0)] := Z31 (Z0u (Z51 _) (Z51 _))
structure Env where
 Turn : Int
 Down : (List Int)
 deriving DecidableEq, Inhabited
structure Y96 where
 Env : Env
 Group : Group
 deriving DecidableEq, Inhabited
structure Out where
 Port : Int
 Max : Int
 Header : (Vector Wide 24)
 deriving DecidableEq, Inhabited
def Y2b : Kd Out := Z0z (Z8 (Z0 .i64) (Z8 (Z0 .i64) (Z3 24 Zn))) (fun x => (x.Port, (x.Max, x.Header)))
instance : PureK Y2b := inferInstanceAs (PureK (Z0z (Z8 (Z0 .i64) (Z8 (Z0 .i64) (Z3 24 Zn))) (fun (x : Out) => (x.Port, (x.Max, x.Header)))))
structure Y94 where
 Env : Env
 groups : (List Group)
 out : (List Out)
 header : (Vector Wide 24)
 depth : Int
 deriving DecidableEq, Inhabited
structure Y93 where
 Env : Env
 groups : (List Group)
 out : Value
 header : (Vector Wide 24)
 depth : Int
structure Zjn where
 Table : Int
 Flow : Int
 deriving DecidableEq, Inhabited
def Zy3 : Kd Zjn := Z0z (Z8 (Z0 .i64) (Z0 .i64)) (fun x => (x.Table, x.Flow))
instance : PureK Zy3 := inferInstanceAs (PureK (Z0z (Z8 (Z0 .i64) (Z0 .i64)) (fun (x : Zjn) => (x.Table, x.Flow))))
structure Y97 where
 Switch : Switch
 env : Env
 header : (Vector Wide 24)
 set : (List Action)
 out : (List Out)
 path : (List Zjn)
 deriving DecidableEq, Inhabited
structure Y95 where
 Switch : Switch
 env : Env
 header : (Vector Wide 24)
 set : (List Action)
 out : Value
 path : Value
theorem Z1j : Zr Tryz.prog 87 (Z3 24 Z4) (Vector.replicate 24 Z0h) := ⟨_, (Z5j 24 Z8h), by kernel_rfl⟩
theorem Z01 : Ty Tryz.prog 87 (Z3 24 Z4) := ⟨by kernel_rfl, by kernel_rfl⟩
theorem Z5p : Zr Tryz.prog 101 (Z3 24 Z4) (Vector.replicate 24 Z0h) := ⟨_, (Z5j 24 Z8h), by kernel_rfl⟩
theorem Z0d : Ty Tryz.prog 101 (Z3 24 Z4) := ⟨by kernel_rfl, by kernel_rfl⟩
theorem Z54 : Ty Tryz.prog 22 (Z2 Z0o) := ⟨by kernel_rfl, by kernel_rfl⟩
theorem Z47 : Sl Tryz.prog 22 61 Z0o := ⟨by kernel_rfl, by kernel_rfl⟩
theorem Zj3 : Fl Tryz.prog 61 1 Z9r := ⟨by kernel_rfl, rfl⟩
theorem Zu : Ty Tryz.prog 3 (Z0 .i64) := ⟨by kernel_rfl, by kernel_rfl⟩
theorem Z14 : Sl Tryz.prog 37 3 (Z0 .i64) := ⟨by kernel_rfl, by kernel_rfl⟩
theorem us3 : (Tryz.prog.underlying 3).isSome = true := by kernel_rfl
theorem Z96 : Tryz.prog.underlying 360 = some (.int .u64) := by kernel_rfl
theorem Z8j : (Tryz.prog.underlying 360).isSome = true := by kernel_rfl
theorem un3 : Tryz.prog.underlying 3 = some (.int .i64) := by kernel_rfl
theorem Zju : El Tryz.prog 37 3 (Z0 .i64) := ⟨by kernel_rfl, by kernel_rfl, by kernel_rfl, by kernel_rfl, by kernel_rfl⟩
theorem zr3 : Zr Tryz.prog 3 (Z0 .i64) 0 := ⟨_, Z1v, by kernel_rfl⟩
theorem Zrk : Zr Tryz.prog 369 (Z3 24 Z0y) (Vector.replicate 24 Zfu) := ⟨_, (Z5j 24 Zqt), by kernel_rfl⟩
theorem Z1s : Zr Tryz.prog 364 Z0y Zfu := ⟨_, Zqt, by kernel_rfl⟩
theorem Zo3 : Ty Tryz.prog 369 (Z3 24 Z0y) := ⟨by kernel_rfl, by kernel_rfl⟩
theorem Zfh : Ty Tryz.prog 364 Z0y := ⟨by kernel_rfl, by kernel_rfl⟩
theorem Y5d : Ar Tryz.prog 369 364 24 Z0y := ⟨by kernel_rfl, by kernel_rfl⟩
theorem Zxc : Zj7 Tryz.prog 364 2 = some 3 := by kernel_rfl
theorem Zxl : Fl Tryz.prog 364 2 Z1r := ⟨by kernel_rfl, rfl⟩
theorem Z2u : Zr Tryz.prog 42 Zn Zy := ⟨_, Z88, by kernel_rfl⟩
theorem Z00 : Ty Tryz.prog 42 Zn := ⟨by kernel_rfl, by kernel_rfl⟩
theorem Z1k : Zr Tryz.prog 85 Z4 Z0h := ⟨_, Z8h, by kernel_rfl⟩
theorem Zcq : Fl Tryz.prog 119 0 Z9j := ⟨by kernel_rfl, rfl⟩
theorem Zz : Ty Tryz.prog 85 Z4 := ⟨by kernel_rfl, by kernel_rfl⟩
theorem Zw7 : Fl Tryz.prog 119 1 Zux := ⟨by kernel_rfl, rfl⟩
theorem ty4 : Ty Tryz.prog 4 Z6 := ⟨by kernel_rfl, by kernel_rfl⟩
theorem Zog : Fl Tryz.prog 119 2 Zmd := ⟨by kernel_rfl, rfl⟩
theorem Y7j : Fl Tryz.prog 119 3 Zp5 := ⟨by kernel_rfl, rfl⟩
theorem Zmv : Sl Tryz.prog 58 119 Z1f := ⟨by kernel_rfl, by kernel_rfl⟩
theorem Zf7 : Ty Tryz.prog 119 Z1f := ⟨by kernel_rfl, by kernel_rfl⟩
theorem Zvh : Zr Tryz.prog 119 Z1f Z4r := ⟨_, Zum, by kernel_rfl⟩
theorem Z2j : Ar Tryz.prog 87 85 24 Z4 := ⟨by kernel_rfl, by kernel_rfl⟩
theorem Z6m : Fl Tryz.prog 42 0 Z36 := ⟨by kernel_rfl, rfl⟩
theorem Z1z : Ty Tryz.prog 40 Z0b := ⟨by kernel_rfl, by kernel_rfl⟩
theorem Z6l : Fl Tryz.prog 42 1 Z34 := ⟨by kernel_rfl, rfl⟩
theorem Z38 : Fl Tryz.prog 85 0 Z1p := ⟨by kernel_rfl, rfl⟩
theorem Z2h : Fl Tryz.prog 85 1 Z1g := ⟨by kernel_rfl, rfl⟩
theorem Znx : Fl Tryz.prog 61 5 Zml := ⟨by kernel_rfl, rfl⟩
theorem Zqh : Ty Tryz.prog 58 (Z2 Z1f) := ⟨by kernel_rfl, by kernel_rfl⟩
theorem Z7h : Ar Tryz.prog 101 85 24 Z4 := ⟨by kernel_rfl, by kernel_rfl⟩
theorem Zc6 : Zr Tryz.prog 135 Z0c Z6c := ⟨_, Y0h, by kernel_rfl⟩
theorem Zf3 : Fl Tryz.prog 135 1 Zay := ⟨by kernel_rfl, rfl⟩
theorem Zbm : Ty Tryz.prog 61 Z0o := ⟨by kernel_rfl, by kernel_rfl⟩
theorem Z23 : Ty Tryz.prog 135 Z0c := ⟨by kernel_rfl, by kernel_rfl⟩
theorem Zlj : Fl Tryz.prog 135 0 Zev := ⟨by kernel_rfl, rfl⟩
theorem Y8g : Fl Tryz.prog 124 0 Zgv := ⟨by kernel_rfl, rfl⟩
theorem Zbv : Sl Tryz.prog 59 124 Z0s := ⟨by kernel_rfl, by kernel_rfl⟩
theorem Z4l : Ty Tryz.prog 124 Z0s := ⟨by kernel_rfl, by kernel_rfl⟩
theorem Z0n : Sl Tryz.prog 122 121 Z5 := ⟨by kernel_rfl, by kernel_rfl⟩
theorem Zss : El Tryz.prog 122 121 Z5 := ⟨by kernel_rfl, by kernel_rfl, by kernel_rfl, by kernel_rfl, by kernel_rfl⟩
theorem Z72 : Zr Tryz.prog 121 Z5 Zjl := ⟨_, Zvw, by kernel_rfl⟩
theorem Z4s : Zr Tryz.prog 124 Z0s Ztc := ⟨_, Y8i, by kernel_rfl⟩
theorem Zge : Fl Tryz.prog 124 4 Z9i := ⟨by kernel_rfl, rfl⟩
theorem Z49 : Ty Tryz.prog 122 (Z2 Z5) := ⟨by kernel_rfl, by kernel_rfl⟩
theorem Y3f : Zr Tryz.prog 367 (Z3 2 Z0b) (Vector.replicate 2 0) := ⟨_, (Z5j 2 Zjg), by kernel_rfl⟩
theorem Zma : Ar Tryz.prog 367 40 2 Z0b := ⟨by kernel_rfl, by kernel_rfl⟩
theorem Z8z : Fl Tryz.prog 121 0 Z6a := ⟨by kernel_rfl, rfl⟩
theorem Znf : Fl Tryz.prog 121 5 Zi3 := ⟨by kernel_rfl, rfl⟩
theorem Zhz : Fl Tryz.prog 346 0 Zcd := ⟨by kernel_rfl, rfl⟩
theorem Zdb : Zr Tryz.prog 126 Z0a Zok := ⟨_, Y2q, by kernel_rfl⟩
theorem Z69 : Ty Tryz.prog 126 Z0a := ⟨by kernel_rfl, by kernel_rfl⟩
theorem Zot : Fl Tryz.prog 121 1 Zgj := ⟨by kernel_rfl, rfl⟩
theorem Zol : Fl Tryz.prog 126 2 Zky := ⟨by kernel_rfl, rfl⟩
theorem Y1i : Fl Tryz.prog 121 2 Zsn := ⟨by kernel_rfl, rfl⟩
theorem Zx4 : Fl Tryz.prog 126 3 Zu0 := ⟨by kernel_rfl, rfl⟩
theorem Y4l : Fl Tryz.prog 121 3 Zs3 := ⟨by kernel_rfl, rfl⟩
theorem Y8p : Fl Tryz.prog 126 1 Zuu := ⟨by kernel_rfl, rfl⟩
theorem Z0l : Ty Tryz.prog 121 Z5 := ⟨by kernel_rfl, by kernel_rfl⟩
theorem Zlw : Fl Tryz.prog 346 1 Zdk := ⟨by kernel_rfl, rfl⟩
theorem Zlq : Ty Tryz.prog 88 kraw := ⟨by kernel_rfl, by kernel_rfl⟩
theorem Z4y : Sl Tryz.prog 88 126 Z0a := ⟨by kernel_rfl, by kernel_rfl⟩
theorem Zkt : El Tryz.prog 88 126 Z0a := ⟨by kernel_rfl, by kernel_rfl, by kernel_rfl, by kernel_rfl, by kernel_rfl⟩
theorem Zv9 : Zr Tryz.prog 346 Z33 Zoc := ⟨_, Y85, by kernel_rfl⟩
theorem Zfn : Fl Tryz.prog 135 2 Zby := ⟨by kernel_rfl, rfl⟩
theorem Z63 : Ty Tryz.prog 88 (Z2 Z0a) := ⟨by kernel_rfl, by kernel_rfl⟩
theorem Zfe : Zr Tryz.prog 275 Z57 Zj8 := ⟨_, Zwn, by kernel_rfl⟩
theorem Zca : Ty Tryz.prog 275 Z57 := ⟨by kernel_rfl, by kernel_rfl⟩
theorem eqk3 : EqK Tryz.prog 1 3 (Z0 .i64) := Y0o (by kernel_rfl)
theorem Y69 : EqK Tryz.prog 2 275 Z57 := Zd3 (fun x y e => by cases x; cases y; simp only [Prod.mk.injEq] at e; simp [e]) (l := _) (by kernel_rfl) (by kernel_rfl) (Z46 eqk3 Zu (Zcv eqk3 Zu))
theorem Y3c : Tryz.prog.eqGuardType Tryz.prog.depth 275 = false := by kernel_rfl
theorem Zv0 : Fl Tryz.prog 275 0 Zea := ⟨by kernel_rfl, rfl⟩
theorem Zgw : Fl Tryz.prog 275 1 Zc5 := ⟨by kernel_rfl, rfl⟩
theorem zr4 : Zr Tryz.prog 4 Z6 false := ⟨_, Zeq, by kernel_rfl⟩
theorem Zgp : Fl Tryz.prog 135 3 Zdv := ⟨by kernel_rfl, rfl⟩
theorem Y86 : Fl Tryz.prog 124 2 Zsi := ⟨by kernel_rfl, rfl⟩
theorem Y7w : Fl Tryz.prog 124 3 Zpc := ⟨by kernel_rfl, rfl⟩
theorem Zmx : Fl Tryz.prog 124 1 Zdq := ⟨by kernel_rfl, rfl⟩
theorem Z6q : Zr Tryz.prog 90 Zv Zuy := ⟨_, Zwq, by kernel_rfl⟩
theorem Z3u : Ty Tryz.prog 90 Zv := ⟨by kernel_rfl, by kernel_rfl⟩
theorem Zr4 : Fl Tryz.prog 131 0 (Lens.fst Z0v kraw) := ⟨by kernel_rfl, rfl⟩
theorem Zu5 (A : Z7) : Fl Tryz.prog 131 0 (Zk4 Z0v A) := ⟨Zr4.1, Zr4.2⟩
theorem Zbu : Fl Tryz.prog 26 0 Zak := ⟨by kernel_rfl, rfl⟩
theorem Zd6 : Ar Tryz.prog 23 22 4 (Z2 Z0o) := ⟨by kernel_rfl, by kernel_rfl⟩
theorem Zqp : Fl Tryz.prog 131 1 (Lens.snd Z0v kraw) := ⟨by kernel_rfl, rfl⟩
theorem Zs1 (A : Z7) : Fl Tryz.prog 131 1 (Zmu Z0v A) := ⟨Zqp.1, Zqp.2⟩
theorem tyr92 : Ty Tryz.prog 92 kraw := ⟨by kernel_rfl, by kernel_rfl⟩
theorem Ztr (A : Z7) : Ty Tryz.prog 92 (kas A) := ⟨tyr92.sz, tyr92.ag⟩
theorem Zd1 : Zr Tryz.prog 61 Z0o Zqa := ⟨_, Y3d, by kernel_rfl⟩
theorem Zrw : Fl Tryz.prog 61 6 Zdo := ⟨by kernel_rfl, rfl⟩
theorem Zp9 : Ty Tryz.prog 59 (Z2 Z0s) := ⟨by kernel_rfl, by kernel_rfl⟩
theorem Z48 : Ty Tryz.prog 26 Z0v := ⟨by kernel_rfl, by kernel_rfl⟩
theorem Y1y : Zr Tryz.prog 131 (Z8 Z0v kraw) (Zn2, .nilFunc) := ⟨_, Z0u Zso (Ztj rfl), by kernel_rfl⟩
theorem Z2f : Sl Tryz.prog 32 90 Zv := ⟨by kernel_rfl, by kernel_rfl⟩
theorem Zmp : El Tryz.prog 32 90 Zv := ⟨by kernel_rfl, by kernel_rfl, by kernel_rfl, by kernel_rfl, by kernel_rfl⟩
theorem Zjo : Ty Tryz.prog 32 kraw := ⟨by kernel_rfl, by kernel_rfl⟩
theorem Zse : Ty Tryz.prog 23 (Z3 4 (Z2 Z0o)) := ⟨by kernel_rfl, by kernel_rfl⟩
theorem Znu : Zr Tryz.prog 26 Z0v Zn2 := ⟨_, Zso, by kernel_rfl⟩
theorem Zeo : Fl Tryz.prog 90 1 Z9s := ⟨by kernel_rfl, rfl⟩
theorem Zfm : Fl Tryz.prog 90 0 Z98 := ⟨by kernel_rfl, rfl⟩
theorem Zp2 : EqK Tryz.prog 1 40 Z0b := Y09 (by kernel_rfl)
theorem Zhg : EqK Tryz.prog 2 42 Zn := Zd3 (fun x y e => by cases x; cases y; simp only [Prod.mk.injEq] at e; simp [e]) (l := _) (by kernel_rfl) (by kernel_rfl) (Z46 Zp2 Z1z (Zcv Zp2 Z1z))
theorem Zqk : EqK Tryz.prog 3 85 Z4 := Zd3 (fun x y e => by cases x; cases y; simp only [Prod.mk.injEq] at e; simp [e]) (l := _) (by kernel_rfl) (by kernel_rfl) (Z46 Zhg Z00 (Zcv Zhg Z00))
theorem Zzn : EqK Tryz.prog 4 87 (Z3 24 Z4) := Zsl Zqk Zz Z2j
theorem Zx5 : Tryz.prog.eqGuardType Tryz.prog.depth 87 = false := by kernel_rfl
theorem Z4d : Sl Tryz.prog 162 226 Z0f := ⟨by kernel_rfl, by kernel_rfl⟩
theorem Z9e : Ty Tryz.prog 226 Z0f := ⟨by kernel_rfl, by kernel_rfl⟩
theorem Zdu : Fl Tryz.prog 226 3 Zb1 := ⟨by kernel_rfl, rfl⟩
theorem Zek : Fl Tryz.prog 164 2 Zcb := ⟨by kernel_rfl, rfl⟩
theorem Zel : Ty Tryz.prog 162 (Z2 Z0f) := ⟨by kernel_rfl, by kernel_rfl⟩
theorem Z2n : Sl Tryz.prog 24 164 Z02 := ⟨by kernel_rfl, by kernel_rfl⟩
theorem Z3e : Ty Tryz.prog 164 Z02 := ⟨by kernel_rfl, by kernel_rfl⟩
theorem Zsw : Fl Tryz.prog 26 1 Zke := ⟨by kernel_rfl, rfl⟩
theorem Zhi : Ty Tryz.prog 24 (Z2 Z02) := ⟨by kernel_rfl, by kernel_rfl⟩
theorem Zhr : Fl Tryz.prog 126 0 Zc0 := ⟨by kernel_rfl, rfl⟩
theorem Y24 : EqK Tryz.prog 4 101 (Z3 24 Z4) := Zsl Zqk Zz Z7h
theorem Z3s : Sl Tryz.prog 229 87 (Z3 24 Z4) := ⟨by kernel_rfl, by kernel_rfl⟩
theorem Zlr : El Tryz.prog 229 87 (Z3 24 Z4) := ⟨by kernel_rfl, by kernel_rfl, by kernel_rfl, by kernel_rfl, by kernel_rfl⟩
theorem Zx7 : Fl Tryz.prog 288 1 Zjp := ⟨by kernel_rfl, rfl⟩
theorem Zlu : Fl Tryz.prog 288 0 Zep := ⟨by kernel_rfl, rfl⟩
theorem Z6u : Zr Tryz.prog 44 (Z3 24 Zn) (Vector.replicate 24 Zy) := ⟨_, (Z5j 24 Z88), by kernel_rfl⟩
theorem Z24 : Ty Tryz.prog 44 (Z3 24 Zn) := ⟨by kernel_rfl, by kernel_rfl⟩
theorem Zwt : Zj7 Tryz.prog 85 0 = some 42 := by kernel_rfl
theorem Y11 : Ar Tryz.prog 44 42 24 Zn := ⟨by kernel_rfl, by kernel_rfl⟩
theorem Zwy : (Tryz.prog.underlying 40).isSome = true := by kernel_rfl
theorem tyr286 : Ty Tryz.prog 286 kraw := ⟨by kernel_rfl, by kernel_rfl⟩
theorem Zqo (A : Z7) : Ty Tryz.prog 286 (kas A) := ⟨tyr286.sz, tyr286.ag⟩
theorem Y0w : Fl Tryz.prog 290 0 Zm4 := ⟨by kernel_rfl, rfl⟩
theorem Zll : Ty Tryz.prog 229 (Z2 (Z3 24 Z4)) := ⟨by kernel_rfl, by kernel_rfl⟩
theorem Y5m : Zr Tryz.prog 288 Z4z Zno := ⟨_, Ztq, by kernel_rfl⟩
theorem Zxa : Zr Tryz.prog 290 Z15 Zqm := ⟨_, Y0b, by kernel_rfl⟩
theorem Zh9 : Fl Tryz.prog 164 0 Zds := ⟨by kernel_rfl, rfl⟩
theorem Zoe : El Tryz.prog 24 164 Z02 := ⟨by kernel_rfl, by kernel_rfl, by kernel_rfl, by kernel_rfl, by kernel_rfl⟩
theorem Z89 : Zr Tryz.prog 164 Z02 Zjs := ⟨_, Zwj, by kernel_rfl⟩
theorem Zyr : El Tryz.prog 162 226 Z0f := ⟨by kernel_rfl, by kernel_rfl, by kernel_rfl, by kernel_rfl, by kernel_rfl⟩
theorem Zn8 : Zr Tryz.prog 226 Z0f Zq0 := ⟨_, Y3w, by kernel_rfl⟩
theorem Za5 : Zr Tryz.prog 73 Z5c Zms := ⟨_, Y4j, by kernel_rfl⟩
theorem Z6f : Ty Tryz.prog 73 Z5c := ⟨by kernel_rfl, by kernel_rfl⟩
theorem eqk4 : EqK Tryz.prog 1 4 Z6 := Zxp (by kernel_rfl)
theorem Zyt : EqK Tryz.prog 5 126 Z0a := Zd3 (fun x y e => by cases x; cases y; simp only [Prod.mk.injEq] at e; simp [e]) (l := _) (by kernel_rfl) (by kernel_rfl) (Z46 Y24 Z0d (Z46 (eqk4.le (by decide)) ty4 (Z46 (eqk3.le (by decide)) Zu (Zcv (eqk3.le (by decide)) Zu))))
theorem Y4b : Tryz.prog.eqGuardType Tryz.prog.depth 126 = false := by kernel_rfl
theorem Y0r : EqK Tryz.prog 3 119 Z1f := Zd3 (fun x y e => by cases x; cases y; simp only [Prod.mk.injEq] at e; simp [e]) (l := _) (by kernel_rfl) (by kernel_rfl) (Z46 (eqk3.le (by decide)) Zu (Z46 (eqk4.le (by decide)) ty4 (Z46 Zhg Z00 (Zcv Zhg Z00))))
theorem Y1e : EqK Tryz.prog 4 121 Z5 := Zd3 (fun x y e => by cases x; cases y; simp only [Prod.mk.injEq] at e; simp [e]) (l := _) (by kernel_rfl) (by kernel_rfl) (Z46 (eqk3.le (by decide)) Zu (Z46 (eqk3.le (by decide)) Zu (Z46 (eqk3.le (by decide)) Zu (Z46 (eqk3.le (by decide)) Zu (Z46 (eqk3.le (by decide)) Zu (Zcv Y0r Zf7))))))
theorem Y1t : Tryz.prog.eqGuardType Tryz.prog.depth 121 = false := by kernel_rfl
theorem Zun : Fl Tryz.prog 226 0 Zjv := ⟨by kernel_rfl, rfl⟩
theorem Zud : Fl Tryz.prog 226 1 Znm := ⟨by kernel_rfl, rfl⟩
theorem Ztx : Fl Tryz.prog 226 2 Zk2 := ⟨by kernel_rfl, rfl⟩
theorem Ztn : Fl Tryz.prog 164 1 Zl7 := ⟨by kernel_rfl, rfl⟩
theorem Zc3 : Fl Tryz.prog 73 0 Z95 := ⟨by kernel_rfl, rfl⟩
theorem Zbd : Ty Tryz.prog 32 (Z2 Zv) := ⟨by kernel_rfl, by kernel_rfl⟩
theorem Zp6 : Fl Tryz.prog 73 1 Zhv := ⟨by kernel_rfl, rfl⟩
theorem Y2o : (Tryz.prog.underlying 98).isSome = true := by kernel_rfl
theorem Z05 : Tryz.prog.follows .mixedOrders = true := by kernel_rfl
end Go.Proofs.YtknpgojdkobgjaaGreat.W
set_option maxRecDepth 4000
namespace Go.Proofs.YtknpgojdkobgjaaGreat.W
open Go Go.Wb
theorem Zkb : Ent Tryz.prog 341 := Ent.mk Tryz.func341 rfl rfl
theorem Zhx : Ent Tryz.prog 302 := Ent.mk Tryz.func302 rfl rfl
theorem Zz0 : Ent Tryz.prog 333 := Ent.mk Tryz.func333 rfl rfl
theorem Znw : Ent Tryz.prog 301 := Ent.mk Tryz.func301 rfl rfl
theorem Zwx : Ent Tryz.prog 258 := Ent.mk Tryz.func258 rfl rfl
def Zc9 : Option (Vector Tern 24) :=
 some (Vector.replicate 24 Z0h)
theorem Zow (r : (Vector Tern 24)) (h : Zc9 = some r) : PCon Tryz.prog 73 [] (rd (Z3 24 Z4) r) := by
 refine PCon.of (Con.intro0 Tryz.func73 rfl Tryz.ntmps73 rfl fun w H => ?_)
 unfold Zc9 at h
 refine SR <| Ct rfl (Zo 1 rfl rfl Z1j) ?_
 rintro _ ⟨g1, rfl⟩
 refine Nl <| SR <| Ac (Z03 (ps := []) (x := (Vector.replicate 24 Z0h)) rfl rfl rfl (by kernel_rfl) Z1j rfl) rfl <| Zh Z01 1 rfl <| Nl <| AW.ret ?_
 obtain rfl := si h
 exact Zg Tryz.results73 rfl (Z04 rfl (i := 1) rfl Z01)
def Zbc : Option (Vector Tern 24) :=
 some (Vector.replicate 24 Z0h)
theorem Zuh (r : (Vector Tern 24)) (h : Zbc = some r) : PCon Tryz.prog 77 [] (rd (Z3 24 Z4) r) := by
 refine PCon.of (Con.intro0 Tryz.func77 rfl Tryz.ntmps77 rfl fun w H => ?_)
 unfold Zbc at h
 refine SR <| Ct rfl (Zo 1 rfl rfl Z5p) ?_
 rintro _ ⟨g1, rfl⟩
 refine Nl <| SR <| Ac (Z03 (ps := []) (x := (Vector.replicate 24 Z0h)) rfl rfl rfl (by kernel_rfl) Z5p rfl) rfl <| Zh Z0d 1 rfl <| Nl <| AW.ret ?_
 obtain rfl := si h
 exact Zg Tryz.results77 rfl (Z04 rfl (i := 1) rfl Z0d)
def Zb7 (i1 : Int) (j2 : Int) (cp3 : (List Flow)) : Option Int :=
 (lget cp3 i1).bind fun e4 => (lget cp3 j2).bind fun e5 => (bif (decide (e4.Priority > e5.Priority)) then some (-1) else (lget cp3 i1).bind fun e6 => (lget cp3 j2).bind fun e7 => (bif (decide (e6.Priority < e7.Priority)) then some 1 else some 0))
theorem Y55 (i1 : Int) (j2 : Int) (cp3 : (List Flow)) (r : Int) (h : Zb7 i1 j2 cp3 = some r) : PCon Tryz.prog 201 [rd (Z0 .i64) i1, rd (Z0 .i64) j2, rp (Z2 Z0o) cp3] (rd (Z0 .i64) r) := by
 refine PCon.of (Con.intro0 Tryz.func201 rfl Tryz.ntmps201 rfl fun w H => ?_)
 unfold Zb7 at h
 refine SR <| Ak rfl <| Nl <| AW.seq <| AW.block <| AW.seq ?_
 obtain ⟨e4, he4, h⟩ := Z1 h
 obtain ⟨e5, he5, h⟩ := Z1 h
 refine AW.regionAny [⟨[2], [7], [], []⟩, ⟨[0], [8], [], []⟩, ⟨[7, 8], [9], [], []⟩, ⟨[9], [10], [], []⟩, ⟨[10], [11], [], []⟩, ⟨[2], [12], [], []⟩, ⟨[1], [13], [], []⟩, ⟨[12, 13], [14], [], []⟩, ⟨[14], [15], [], []⟩, ⟨[15], [16], [], []⟩, ⟨[11, 16], [17], [], []⟩, ⟨[17], [6], [], []⟩] Z05 (by kernel_rfl) <| SLp Z54 rfl <| SMd rfl <| Sc (lo [7, 8] [] rfl fun S hs hr => Z10 rfl rfl Z47 (vh hs 7 rfl rfl) (vh hs 8 rfl rfl) he4) rfl <| SFp Z9r Zj3 rfl <| SLp Zu rfl <| SLp Z54 rfl <| SMd rfl <| Sc (lo [12, 13] [] rfl fun S hs hr => Z10 rfl rfl Z47 (vh hs 12 rfl rfl) (vh hs 13 rfl rfl) he5) rfl <| SFp Z9r Zj3 rfl <| SLp Zu rfl <| Sc (lo [11, 16] [] rfl fun S hs hr => Z4f rfl rfl (vh hs 11 rfl rfl) (vh hs 16 rfl rfl)) rfl <| SAs rfl <| Cn rfl (fun hc => ?_) (fun hc => ?_)
 ·have h := Zj hc h
  refine SR <| Ak rfl <| Nl <| AW.ret ?_
  obtain rfl := si h
  exact Zg Tryz.results201 rfl (Zf rfl)
 ·have h := Zk hc h
  refine AW.seq ?_
  obtain ⟨e6, he6, h⟩ := Z1 h
  obtain ⟨e7, he7, h⟩ := Z1 h
  refine AW.regionAny [⟨[2], [19], [], []⟩, ⟨[0], [20], [], []⟩, ⟨[19, 20], [21], [], []⟩, ⟨[21], [22], [], []⟩, ⟨[22], [23], [], []⟩, ⟨[2], [24], [], []⟩, ⟨[1], [25], [], []⟩, ⟨[24, 25], [26], [], []⟩, ⟨[26], [27], [], []⟩, ⟨[27], [28], [], []⟩, ⟨[23, 28], [29], [], []⟩, ⟨[29], [18], [], []⟩] Z05 (by kernel_rfl) <| SLp Z54 rfl <| SMd rfl <| Sc (lo [19, 20] [] rfl fun S hs hr => Z10 rfl rfl Z47 (vh hs 19 rfl rfl) (vh hs 20 rfl rfl) he6) rfl <| SFp Z9r Zj3 rfl <| SLp Zu rfl <| SLp Z54 rfl <| SMd rfl <| Sc (lo [24, 25] [] rfl fun S hs hr => Z10 rfl rfl Z47 (vh hs 24 rfl rfl) (vh hs 25 rfl rfl) he7) rfl <| SFp Z9r Zj3 rfl <| SLp Zu rfl <| Sc (lo [23, 28] [] rfl fun S hs hr => Zi rfl rfl (vh hs 23 rfl rfl) (vh hs 28 rfl rfl)) rfl <| SAs rfl <| Cn rfl (fun hc => ?_) (fun hc => ?_)
  ·have h := Zj hc h
   refine SR <| Ak rfl <| Nl <| AW.ret ?_
   obtain rfl := si h
   exact Zg Tryz.results201 rfl (Zf rfl)
  ·have h := Zk hc h
   refine AW.skip <| SR <| Ak rfl <| Nl <| AW.ret ?_
   obtain rfl := si h
   exact Zg Tryz.results201 rfl (Zf rfl)
def Z78 (a3 : Int) (cmp5 : (Int → Int → Option Int)) (go1 : (List Int) → Int → Option (List Int)) (i9 : Int) : Nat → (List Int) → Int → Option (List Int)
 | 0, _, _ => none
 | m15 + 1, l13, j14 => (opt (decide (j14 > a3)) (lget l13 j14)).bind fun e16 => (opt (decide (j14 > a3)) (lget l13 (IntKind.i64.wrap (j14 - 1)))).bind fun e17 => (opt (decide (j14 > a3)) (cmp5 e16 e17)).bind fun x18 => (bif ((decide (j14 > a3)) && (decide (x18 < 0))) then (lget l13 (IntKind.i64.wrap (j14 - 1))).bind fun e19 => (lget l13 j14).bind fun e20 => (lget l13 j14).bind fun e21 => (lget (List.set l13 j14.toNat e19) (IntKind.i64.wrap (j14 - 1))).bind fun e22 => (Z78 a3 cmp5 go1 i9 m15) (List.set (List.set l13 j14.toNat e19) (IntKind.i64.wrap (j14 - 1)).toNat e20) (IntKind.i64.wrap (j14 - 1)) else go1 l13 (IntKind.i64.wrap (i9 + 1)))
def Z6g (b4 : Int) (a3 : Int) (cmp5 : (Int → Int → Option Int)) : Nat → (List Int) → Int → Option (List Int)
 | 0, _, _ => none
 | m10 + 1, l8, i9 => (bif (decide (i9 < b4)) then Z78 a3 cmp5 (Z6g b4 a3 cmp5 m10) i9 Z18 l8 i9 else some l8)
def Zcp (data1 : (List Int)) (a3 : Int) (b4 : Int) (cmp5 : (Int → Int → Option Int)) : Option (List Int) :=
 Z6g b4 a3 cmp5 (((b4 : Int) - (IntKind.i64.wrap (a3 + 1))).toNat + 1) data1 (IntKind.i64.wrap (a3 + 1))
theorem Zqv (v2 : Value) (data1 : (List Int)) (a3 : Int) (b4 : Int) (cmp5 : (Int → Int → Option Int)) (r : (List Int)) (h : Zcp data1 a3 b4 cmp5 = some r) : Con Tryz.prog 301 [Za v2, rd (Z0 .i64) a3, rd (Z0 .i64) b4, Zl Tryz.prog (Z0 .i64) (Z0 .i64) (Z0 .i64) cmp5] (Z9 v2 3 (Z0 .i64) data1) (fun _ : Unit => top) (fun _ => Z9 v2 3 (Z0 .i64) r) := by
 refine Con.intro Tryz.func301 rfl Tryz.ntmps301 rfl fun w H X => ?_
 unfold Zcp at h
 refine SR <| Md rfl <| Ac (Z0e rfl rfl (vt rfl) (vk rfl)) rfl <| As rfl <| Nl <| AW.block <| AW.loopG (d := []) (ν := Nat × (List Int) × Int) (fun n => True ∧ Z6g b4 a3 cmp5 n.1 n.2.1 n.2.2 = some r) (fun n => n.1) (fun n => [(0, Za v2), (1, rd (Z0 .i64) a3), (2, rd (Z0 .i64) b4), (3, Zl Tryz.prog (Z0 .i64) (Z0 .i64) (Z0 .i64) cmp5), (8, rd (Z0 .i64) n.2.2)]) (fun n => [(0, Z9 v2 3 (Z0 .i64) n.2.1)]) ((((b4 : Int) - (IntKind.i64.wrap (a3 + 1))).toNat + 1), data1, (IntKind.i64.wrap (a3 + 1))) ⟨trivial, h⟩ ⟨rfl, ⟨rfl, rfl, rfl, rfl, rfl, trivial⟩, ⟨rfl, trivial⟩⟩ ?_
 rintro ⟨m10, l8, i9⟩ ⟨hsf1, h⟩
 change True at hsf1
 change Z6g b4 a3 cmp5 m10 l8 i9 = some r at h
 change AW _ _ _ ⟨Zw [(0, Za v2), (1, rd (Z0 .i64) a3), (2, rd (Z0 .i64) b4), (3, Zl Tryz.prog (Z0 .i64) (Z0 .i64) (Z0 .i64) cmp5), (8, rd (Z0 .i64) i9)], Zx [(0, Z9 v2 3 (Z0 .i64) l8)], _⟩
 cases m10 with
 | zero => cases h
 | succ m10 =>
  unfold Z6g at h
  generalize hgo1 : Z6g b4 a3 cmp5 m10 = go1 at h
  refine AW.seq <| SR <| Md rfl <| Md rfl <| Ac (Zi rfl rfl (vt rfl) (vt rfl)) rfl <| Nl <| Cn rfl (fun hc => ?_) (fun hc => ?_)
  ·have h := Zj hc h
   refine AW.skip <| AW.seq <| AW.block <| SR <| Md rfl <| As rfl <| Nl <| AW.block <| AW.loopG (d := []) (ν := Nat × (List Int) × Int) (fun n => True ∧ Z78 a3 cmp5 go1 i9 n.1 n.2.1 n.2.2 = some r) (fun n => n.1) (fun n => [(0, Za v2), (1, rd (Z0 .i64) a3), (2, rd (Z0 .i64) b4), (3, Zl Tryz.prog (Z0 .i64) (Z0 .i64) (Z0 .i64) cmp5), (8, rd (Z0 .i64) i9), (9, rd (Z0 .i64) n.2.2)]) (fun n => [(0, Z9 v2 3 (Z0 .i64) n.2.1)]) (Z18, l8, i9) ⟨trivial, h⟩ ⟨rfl, ⟨rfl, rfl, rfl, rfl, rfl, rfl, trivial⟩, ⟨rfl, trivial⟩⟩ ?_
   rintro ⟨m15, l13, j14⟩ ⟨hsf2, h⟩
   change True at hsf2
   change Z78 a3 cmp5 go1 i9 m15 l13 j14 = some r at h
   change AW _ _ _ ⟨Zw [(0, Za v2), (1, rd (Z0 .i64) a3), (2, rd (Z0 .i64) b4), (3, Zl Tryz.prog (Z0 .i64) (Z0 .i64) (Z0 .i64) cmp5), (8, rd (Z0 .i64) i9), (9, rd (Z0 .i64) j14)], Zx [(0, Z9 v2 3 (Z0 .i64) l13)], _⟩
   cases m15 with
   | zero => cases h
   | succ m15 =>
    unfold Z78 at h
    generalize hgo2 : Z78 a3 cmp5 go1 i9 m15 = go2 at h
    refine AW.seq <| AW.seq ?_
    obtain ⟨e16, he16, h⟩ := Z1 h
    obtain ⟨e17, he17, h⟩ := Z1 h
    obtain ⟨x18, hx18, h⟩ := Z1 h
    refine AW.regionAny [⟨[9], [18], [], []⟩, ⟨[1], [19], [], []⟩, ⟨[18, 19], [20], [], []⟩, ⟨[20], [21], [], []⟩, ⟨[3, 21], [22], [], []⟩, ⟨[0, 21], [23], [], []⟩, ⟨[9, 21], [24], [], []⟩, ⟨[23, 24, 21], [25], [0], []⟩, ⟨[25, 21], [26], [0], []⟩, ⟨[0, 21], [27], [], []⟩, ⟨[9, 21], [28], [], []⟩, ⟨[28, 21], [29], [], []⟩, ⟨[27, 29, 21], [30], [0], []⟩, ⟨[30, 21], [31], [0], []⟩, ⟨[22, 26, 31, 21], [32], [], []⟩, ⟨[32, 21], [33], [], []⟩, ⟨[33, 21], [34], [], []⟩] Z05 (by kernel_rfl) <| SMd rfl <| SMd rfl <| Sc (lo [18, 19] [] rfl fun S hs hr => Z4f rfl rfl (vh hs 18 rfl rfl) (vh hs 19 rfl rfl)) rfl <| SMd rfl <| Sc (lg [3, 21] [] rfl fun hq S hs hr => Zq (A := Zl Tryz.prog (Z0 .i64) (Z0 .i64) (Z0 .i64) cmp5) rfl rfl (vh hs 3 rfl rfl)) rfl <| Sc (lg [0, 21] [] rfl fun hq S hs hr => Zq (A := Za v2) rfl rfl (vh hs 0 rfl rfl)) rfl <| Sc (lg [9, 21] [] rfl fun hq S hs hr => Zq (A := rd (Z0 .i64) j14) rfl rfl (vh hs 9 rfl rfl)) rfl <| Sc (lg [23, 24, 21] [0] rfl fun hq S hs hr => Z1q 0 rfl rfl Z14 (Zm ((hs 23 rfl).trans rfl) hq) ((hr 0 rfl).trans rfl) (Zm ((hs 24 rfl).trans rfl) hq) (Z1m he16 hq)) rfl <| Sc (lg [25, 21] [0] rfl fun hq S hs hr => Z13 0 rfl rfl Zu (Zm ((hs 25 rfl).trans rfl) hq) ((hr 0 rfl).trans rfl) (Z06 (Z1m he16 hq)).2) rfl <| Sc (lg [0, 21] [] rfl fun hq S hs hr => Zq (A := Za v2) rfl rfl (vh hs 0 rfl rfl)) rfl <| Sc (lg [9, 21] [] rfl fun hq S hs hr => Zq (A := rd (Z0 .i64) j14) rfl rfl (vh hs 9 rfl rfl)) rfl <| Sc (lg [28, 21] [] rfl fun hq S hs hr => Z0m rfl rfl (Zm ((hs 28 rfl).trans rfl) hq) (vk rfl)) rfl <| Sc (lg [27, 29, 21] [0] rfl fun hq S hs hr => Z1q 0 rfl rfl Z14 (Zm ((hs 27 rfl).trans rfl) hq) ((hr 0 rfl).trans rfl) (Zm ((hs 29 rfl).trans rfl) hq) (Z1m he17 hq)) rfl <| Sc (lg [30, 21] [0] rfl fun hq S hs hr => Z13 0 rfl rfl Zu (Zm ((hs 30 rfl).trans rfl) hq) ((hr 0 rfl).trans rfl) (Z06 (Z1m he17 hq)).2) rfl <| Sc (lg [22, 26, 31, 21] [] rfl fun hq S hs hr => Z4i (Z1m hx18 hq) rfl rfl (Zm ((hs 22 rfl).trans rfl) hq) (Zm ((hs 26 rfl).trans rfl) hq) (Zm ((hs 31 rfl).trans rfl) hq)) rfl <| Sc (lg [32, 21] [] rfl fun hq S hs hr => Zi rfl rfl (Zm ((hs 32 rfl).trans rfl) hq) (vk rfl)) rfl <| Sc (lo [33, 21] [] rfl fun S hs hr => Z16 rfl rfl (vh hs 21 rfl rfl) (vh hs 33 rfl rfl)) rfl <| Cn rfl (fun hc => ?_) (fun hc => ?_)
    ·have h := Zj hc h
     refine AW.skip <| AW.seq <| AW.block <| AW.vlen 0 rfl fun hvl0_273 => ?_
     obtain ⟨e19, he19, h⟩ := Z1 h
     obtain ⟨e20, he20, h⟩ := Z1 h
     obtain ⟨e21, he21, h⟩ := Z1 h
     obtain ⟨e22, he22, h⟩ := Z1 h
     refine AW.regionAny [⟨[0], [37], [], []⟩, ⟨[9], [38], [], []⟩, ⟨[0], [39], [], []⟩, ⟨[9], [40], [], []⟩, ⟨[40], [41], [], []⟩, ⟨[0], [42], [], []⟩, ⟨[9], [43], [], []⟩, ⟨[43], [44], [], []⟩, ⟨[42, 44], [45], [], []⟩, ⟨[45], [46], [0], []⟩, ⟨[0], [47], [], []⟩, ⟨[9], [48], [], []⟩, ⟨[47, 48], [49], [], []⟩, ⟨[49], [50], [0], []⟩, ⟨[37, 38], [51], [], []⟩, ⟨[51, 46], [], [0], [0]⟩, ⟨[39, 41], [52], [], []⟩, ⟨[52, 50], [], [0], [0]⟩] Z05 (by kernel_rfl) <| SMw rfl <| SMd rfl <| SMw rfl <| SMd rfl <| Sc (lo [40] [] rfl fun S hs hr => Z0m rfl rfl (vh hs 40 rfl rfl) (vk rfl)) rfl <| SMw rfl <| SMd rfl <| Sc (lo [43] [] rfl fun S hs hr => Z0m rfl rfl (vh hs 43 rfl rfl) (vk rfl)) rfl <| Sc (lo [42, 44] [] rfl fun S hs hr => Z1b (l := l13) hvl0_273 rfl rfl rfl Z14 (vh hs 42 rfl rfl) (vh hs 44 rfl rfl) he19) rfl <| Sc (lo [45] [0] rfl fun S hs hr => Z13 0 rfl rfl Zu (vh hs 45 rfl rfl) ((hr 0 rfl).trans rfl) (Z06 he19).2) rfl <| SMw rfl <| SMd rfl <| Sc (lo [47, 48] [] rfl fun S hs hr => Z1b (l := l13) hvl0_273 rfl rfl rfl Z14 (vh hs 47 rfl rfl) (vh hs 48 rfl rfl) he20) rfl <| Sc (lo [49] [0] rfl fun S hs hr => Z13 0 rfl rfl Zu (vh hs 49 rfl rfl) ((hr 0 rfl).trans rfl) (Z06 he20).2) rfl <| Sc (lo [37, 38] [] rfl fun S hs hr => Z1b (l := l13) hvl0_273 rfl rfl rfl Z14 (vh hs 37 rfl rfl) (vh hs 38 rfl rfl) he21) rfl <| Sc (Z30 [51, 46] [0] rfl fun S hs hr => Z2d 0 rfl rfl Zu (vh hs 51 rfl rfl) ((hr 0 rfl).trans rfl) (Z06 he21).2 (vh hs 46 rfl rfl)) rfl <| Sc (lo [39, 41] [] rfl fun S hs hr => Z1b (l := (List.set l13 j14.toNat e19)) hvl0_273 (by simp) rfl rfl Z14 (vh hs 39 rfl rfl) (vh hs 41 rfl rfl) he22) rfl <| Sc (Z30 [52, 50] [0] rfl fun S hs hr => Z2d 0 rfl rfl Zu (vh hs 52 rfl rfl) ((hr 0 rfl).trans rfl) (Z06 he22).2 (vh hs 50 rfl rfl)) rfl <| Rg <| Md rfl <| Ac (Z0m rfl rfl (vt rfl) (vk rfl)) rfl <| As rfl <| Nl ?_
     subst hgo2
     exact ⟨(m15, (List.set (List.set l13 j14.toNat e19) (IntKind.i64.wrap (j14 - 1)).toNat e20), (IntKind.i64.wrap (j14 - 1))), Nat.lt_succ_self _, ⟨trivial, h⟩, ⟨rfl, ⟨rfl, rfl, rfl, rfl, rfl, rfl, trivial⟩, ⟨rfl, trivial⟩⟩⟩
    ·have h := Zk hc h
     refine AW.exit <| Rg <| Md rfl <| Ac (Z0e rfl rfl (vt rfl) (vk rfl)) rfl <| As rfl <| Nl ?_
     subst hgo1
     exact ⟨(m10, l13, (IntKind.i64.wrap (i9 + 1))), Nat.lt_succ_self _, ⟨trivial, h⟩, ⟨rfl, ⟨rfl, rfl, rfl, rfl, rfl, trivial⟩, ⟨rfl, trivial⟩⟩⟩
  ·have h := Zk hc h
   refine AW.exit ?_
   obtain rfl := si h
   exact Z1t (i := 0) Tryz.results301 rfl rfl
def Zbz (n5 : Int) (b4 : Int) (a3 : Int) : Nat → (List Int) → Int → Option (List Int)
 | 0, _, _ => none
 | m11 + 1, l9, i10 => (bif (decide (i10 < n5)) then (lget l9 (IntKind.i64.wrap (b4 + i10))).bind fun e12 => (lget l9 (IntKind.i64.wrap (a3 + i10))).bind fun e13 => (lget l9 (IntKind.i64.wrap (a3 + i10))).bind fun e14 => (lget (List.set l9 (IntKind.i64.wrap (a3 + i10)).toNat e12) (IntKind.i64.wrap (b4 + i10))).bind fun e15 => (Zbz n5 b4 a3 m11) (List.set (List.set l9 (IntKind.i64.wrap (a3 + i10)).toNat e12) (IntKind.i64.wrap (b4 + i10)).toNat e13) (IntKind.i64.wrap (i10 + 1)) else some l9)
def Zg1 (data1 : (List Int)) (a3 : Int) (b4 : Int) (n5 : Int) (cmp6 : (Int → Int → Option Int)) : Option (List Int) :=
 Zbz n5 b4 a3 (((n5 : Int) - 0).toNat + 1) data1 0
theorem Zkw (v2 : Value) (data1 : (List Int)) (a3 : Int) (b4 : Int) (n5 : Int) (cmp6 : (Int → Int → Option Int)) (r : (List Int)) (h : Zg1 data1 a3 b4 n5 cmp6 = some r) : Con Tryz.prog 341 [Za v2, rd (Z0 .i64) a3, rd (Z0 .i64) b4, rd (Z0 .i64) n5, Zl Tryz.prog (Z0 .i64) (Z0 .i64) (Z0 .i64) cmp6] (Z9 v2 3 (Z0 .i64) data1) (fun _ : Unit => top) (fun _ => Z9 v2 3 (Z0 .i64) r) := by
 refine Con.intro Tryz.func341 rfl Tryz.ntmps341 rfl fun w H X => ?_
 unfold Zg1 at h
 refine SR <| Ak rfl <| Nl <| AW.block <| AW.loopG (d := []) (ν := Nat × (List Int) × Int) (fun n => True ∧ Zbz n5 b4 a3 n.1 n.2.1 n.2.2 = some r) (fun n => n.1) (fun n => [(0, Za v2), (1, rd (Z0 .i64) a3), (2, rd (Z0 .i64) b4), (3, rd (Z0 .i64) n5), (10, rd (Z0 .i64) n.2.2)]) (fun n => [(0, Z9 v2 3 (Z0 .i64) n.2.1)]) ((((n5 : Int) - 0).toNat + 1), data1, 0) ⟨trivial, h⟩ ⟨rfl, ⟨rfl, rfl, rfl, rfl, rfl, trivial⟩, ⟨rfl, trivial⟩⟩ ?_
 rintro ⟨m11, l9, i10⟩ ⟨hsf1, h⟩
 change True at hsf1
 change Zbz n5 b4 a3 m11 l9 i10 = some r at h
 change AW _ _ _ ⟨Zw [(0, Za v2), (1, rd (Z0 .i64) a3), (2, rd (Z0 .i64) b4), (3, rd (Z0 .i64) n5), (10, rd (Z0 .i64) i10)], Zx [(0, Z9 v2 3 (Z0 .i64) l9)], _⟩
 cases m11 with
 | zero => cases h
 | succ m11 =>
  unfold Zbz at h
  generalize hgo1 : Zbz n5 b4 a3 m11 = go1 at h
  refine AW.seq <| SR <| Md rfl <| Md rfl <| Ac (Zi rfl rfl (vt rfl) (vt rfl)) rfl <| Nl <| Cn rfl (fun hc => ?_) (fun hc => ?_)
  ·have h := Zj hc h
   refine AW.skip <| AW.seq <| AW.block <| AW.vlen 0 rfl fun hvl0_127 => ?_
   obtain ⟨e12, he12, h⟩ := Z1 h
   obtain ⟨e13, he13, h⟩ := Z1 h
   obtain ⟨e14, he14, h⟩ := Z1 h
   obtain ⟨e15, he15, h⟩ := Z1 h
   refine AW.regionAny [⟨[0], [16], [], []⟩, ⟨[1], [17], [], []⟩, ⟨[10], [18], [], []⟩, ⟨[17, 18], [19], [], []⟩, ⟨[0], [20], [], []⟩, ⟨[2], [21], [], []⟩, ⟨[10], [22], [], []⟩, ⟨[21, 22], [23], [], []⟩, ⟨[0], [24], [], []⟩, ⟨[2], [25], [], []⟩, ⟨[10], [26], [], []⟩, ⟨[25, 26], [27], [], []⟩, ⟨[24, 27], [28], [], []⟩, ⟨[28], [29], [0], []⟩, ⟨[0], [30], [], []⟩, ⟨[1], [31], [], []⟩, ⟨[10], [32], [], []⟩, ⟨[31, 32], [33], [], []⟩, ⟨[30, 33], [34], [], []⟩, ⟨[34], [35], [0], []⟩, ⟨[16, 19], [36], [], []⟩, ⟨[36, 29], [], [0], [0]⟩, ⟨[20, 23], [37], [], []⟩, ⟨[37, 35], [], [0], [0]⟩] Z05 (by kernel_rfl) <| SMw rfl <| SMd rfl <| SMd rfl <| Sc (lo [17, 18] [] rfl fun S hs hr => Z0e rfl rfl (vh hs 17 rfl rfl) (vh hs 18 rfl rfl)) rfl <| SMw rfl <| SMd rfl <| SMd rfl <| Sc (lo [21, 22] [] rfl fun S hs hr => Z0e rfl rfl (vh hs 21 rfl rfl) (vh hs 22 rfl rfl)) rfl <| SMw rfl <| SMd rfl <| SMd rfl <| Sc (lo [25, 26] [] rfl fun S hs hr => Z0e rfl rfl (vh hs 25 rfl rfl) (vh hs 26 rfl rfl)) rfl <| Sc (lo [24, 27] [] rfl fun S hs hr => Z1b (l := l9) hvl0_127 rfl rfl rfl Z14 (vh hs 24 rfl rfl) (vh hs 27 rfl rfl) he12) rfl <| Sc (lo [28] [0] rfl fun S hs hr => Z13 0 rfl rfl Zu (vh hs 28 rfl rfl) ((hr 0 rfl).trans rfl) (Z06 he12).2) rfl <| SMw rfl <| SMd rfl <| SMd rfl <| Sc (lo [31, 32] [] rfl fun S hs hr => Z0e rfl rfl (vh hs 31 rfl rfl) (vh hs 32 rfl rfl)) rfl <| Sc (lo [30, 33] [] rfl fun S hs hr => Z1b (l := l9) hvl0_127 rfl rfl rfl Z14 (vh hs 30 rfl rfl) (vh hs 33 rfl rfl) he13) rfl <| Sc (lo [34] [0] rfl fun S hs hr => Z13 0 rfl rfl Zu (vh hs 34 rfl rfl) ((hr 0 rfl).trans rfl) (Z06 he13).2) rfl <| Sc (lo [16, 19] [] rfl fun S hs hr => Z1b (l := l9) hvl0_127 rfl rfl rfl Z14 (vh hs 16 rfl rfl) (vh hs 19 rfl rfl) he14) rfl <| Sc (Z30 [36, 29] [0] rfl fun S hs hr => Z2d 0 rfl rfl Zu (vh hs 36 rfl rfl) ((hr 0 rfl).trans rfl) (Z06 he14).2 (vh hs 29 rfl rfl)) rfl <| Sc (lo [20, 23] [] rfl fun S hs hr => Z1b (l := (List.set l9 (IntKind.i64.wrap (a3 + i10)).toNat e12)) hvl0_127 (by simp) rfl rfl Z14 (vh hs 20 rfl rfl) (vh hs 23 rfl rfl) he15) rfl <| Sc (Z30 [37, 35] [0] rfl fun S hs hr => Z2d 0 rfl rfl Zu (vh hs 37 rfl rfl) ((hr 0 rfl).trans rfl) (Z06 he15).2 (vh hs 35 rfl rfl)) rfl <| Rg <| Md rfl <| Ac (Z0e rfl rfl (vt rfl) (vk rfl)) rfl <| As rfl <| Nl ?_
   subst hgo1
   exact ⟨(m11, (List.set (List.set l9 (IntKind.i64.wrap (a3 + i10)).toNat e12) (IntKind.i64.wrap (b4 + i10)).toNat e13), (IntKind.i64.wrap (i10 + 1))), Nat.lt_succ_self _, ⟨trivial, h⟩, ⟨rfl, ⟨rfl, rfl, rfl, rfl, rfl, trivial⟩, ⟨rfl, trivial⟩⟩⟩
  ·have h := Zk hc h
   refine AW.exit ?_
   obtain rfl := si h
   exact Z1t (i := 0) Tryz.results341 rfl rfl
def Za8 (m4 : Int) (cmp6 : (Int → Int → Option Int)) : Nat → (List Int) → Int → Int → Option (List Int)
 | 0, _, _, _ => none
 | m13 + 1, l10, i11, j12 => (bif (decide (i11 ≠ j12)) then (bif (decide (i11 > j12)) then (Zg1 l10 (IntKind.i64.wrap (m4 - i11)) m4 j12 cmp6).bind fun l14 => (Za8 m4 cmp6 m13) l14 (IntKind.i64.wrap (i11 - j12)) j12 else (Zg1 l10 (IntKind.i64.wrap (m4 - i11)) (IntKind.i64.wrap ((IntKind.i64.wrap (m4 + j12)) - i11)) i11 cmp6).bind fun l15 => (Za8 m4 cmp6 m13) l15 i11 (IntKind.i64.wrap (j12 - i11))) else (Zg1 l10 (IntKind.i64.wrap (m4 - i11)) m4 i11 cmp6).bind fun l16 => some l16)
def Zkq (data1 : (List Int)) (a3 : Int) (m4 : Int) (b5 : Int) (cmp6 : (Int → Int → Option Int)) : Option (List Int) :=
 Za8 m4 cmp6 Z18 data1 (IntKind.i64.wrap (m4 - a3)) (IntKind.i64.wrap (b5 - m4))
theorem Zyg (v2 : Value) (data1 : (List Int)) (a3 : Int) (m4 : Int) (b5 : Int) (cmp6 : (Int → Int → Option Int)) (r : (List Int)) (h : Zkq data1 a3 m4 b5 cmp6 = some r) : Con Tryz.prog 333 [Za v2, rd (Z0 .i64) a3, rd (Z0 .i64) m4, rd (Z0 .i64) b5, Zl Tryz.prog (Z0 .i64) (Z0 .i64) (Z0 .i64) cmp6] (Z9 v2 3 (Z0 .i64) data1) (fun _ : Unit => top) (fun _ => Z9 v2 3 (Z0 .i64) r) := by
 refine Con.intro Tryz.func333 rfl Tryz.ntmps333 rfl fun w H X => ?_
 unfold Zkq at h
 refine SR <| Md rfl <| Md rfl <| Ac (Z0m rfl rfl (vt rfl) (vt rfl)) rfl <| As rfl <| Nl <| SR <| Md rfl <| Md rfl <| Ac (Z0m rfl rfl (vt rfl) (vt rfl)) rfl <| As rfl <| Nl <| AW.seq <| AW.block <| AW.loopG (d := []) (ν := Nat × (List Int) × Int × Int) (fun n => True ∧ Za8 m4 cmp6 n.1 n.2.1 n.2.2.1 n.2.2.2 = some r) (fun n => n.1) (fun n => [(0, Za v2), (2, rd (Z0 .i64) m4), (4, Zl Tryz.prog (Z0 .i64) (Z0 .i64) (Z0 .i64) cmp6), (10, rd (Z0 .i64) n.2.2.1), (11, rd (Z0 .i64) n.2.2.2)]) (fun n => [(0, Z9 v2 3 (Z0 .i64) n.2.1)]) (Z18, data1, (IntKind.i64.wrap (m4 - a3)), (IntKind.i64.wrap (b5 - m4))) ⟨trivial, h⟩ ⟨rfl, ⟨rfl, rfl, rfl, rfl, rfl, trivial⟩, ⟨rfl, trivial⟩⟩ ?_
 rintro ⟨m13, l10, i11, j12⟩ ⟨hsf1, h⟩
 change True at hsf1
 change Za8 m4 cmp6 m13 l10 i11 j12 = some r at h
 change AW _ _ _ ⟨Zw [(0, Za v2), (2, rd (Z0 .i64) m4), (4, Zl Tryz.prog (Z0 .i64) (Z0 .i64) (Z0 .i64) cmp6), (10, rd (Z0 .i64) i11), (11, rd (Z0 .i64) j12)], Zx [(0, Z9 v2 3 (Z0 .i64) l10)], _⟩
 cases m13 with
 | zero => cases h
 | succ m13 =>
  unfold Za8 at h
  generalize hgo1 : Za8 m4 cmp6 m13 = go1 at h
  refine AW.seq <| SR <| Md rfl <| Md rfl <| Ac (Z74 rfl rfl (vt rfl) (vt rfl)) rfl <| Nl <| Cn rfl (fun hc => ?_) (fun hc => ?_)
  ·have h := Zj hc h
   refine AW.skip <| AW.block <| SR <| Md rfl <| Md rfl <| Ac (Z4f rfl rfl (vt rfl) (vt rfl)) rfl <| Nl <| Cn rfl (fun hc => ?_) (fun hc => ?_)
   ·have h := Zj hc h
    refine AW.seq ?_
    obtain ⟨l14, hl14, h⟩ := Z1 h
    refine Rg <| Mw rfl <| Md rfl <| Md rfl <| Ac (Z0m rfl rfl (vt rfl) (vt rfl)) rfl <| Md rfl <| Md rfl <| Ac (Zq (A := Zl Tryz.prog (Z0 .i64) (Z0 .i64) (Z0 .i64) cmp6) rfl rfl (vt rfl)) rfl <| Ct rfl (Z12 0 (xs := [.tmp 24, .tmp 27, .tmp 28, .tmp 29, .tmp 30]) (Zkw _ _ _ _ _ _ _ hl14) Zkb rfl rfl ⟨vt rfl, vt rfl, vt rfl, vt rfl, vt rfl, trivial⟩ rfl) ?_
    rintro _ ⟨_u, rfl⟩
    refine Nl <| Rg <| Md rfl <| Md rfl <| Ac (Z0m rfl rfl (vt rfl) (vt rfl)) rfl <| As rfl <| Nl ?_
    subst hgo1
    exact ⟨(m13, l14, (IntKind.i64.wrap (i11 - j12)), j12), Nat.lt_succ_self _, ⟨trivial, h⟩, ⟨rfl, ⟨rfl, rfl, rfl, rfl, rfl, trivial⟩, ⟨rfl, trivial⟩⟩⟩
   ·have h := Zk hc h
    refine AW.seq ?_
    obtain ⟨l15, hl15, h⟩ := Z1 h
    refine Rg <| Mw rfl <| Md rfl <| Md rfl <| Ac (Z0m rfl rfl (vt rfl) (vt rfl)) rfl <| Md rfl <| Md rfl <| Ac (Z0e rfl rfl (vt rfl) (vt rfl)) rfl <| Md rfl <| Ac (Z0m rfl rfl (vt rfl) (vt rfl)) rfl <| Md rfl <| Ac (Zq (A := Zl Tryz.prog (Z0 .i64) (Z0 .i64) (Z0 .i64) cmp6) rfl rfl (vt rfl)) rfl <| Ct rfl (Z12 0 (xs := [.tmp 35, .tmp 38, .tmp 43, .tmp 44, .tmp 45]) (Zkw _ _ _ _ _ _ _ hl15) Zkb rfl rfl ⟨vt rfl, vt rfl, vt rfl, vt rfl, vt rfl, trivial⟩ rfl) ?_
    rintro _ ⟨_u, rfl⟩
    refine Nl <| Rg <| Md rfl <| Md rfl <| Ac (Z0m rfl rfl (vt rfl) (vt rfl)) rfl <| As rfl <| Nl ?_
    subst hgo1
    exact ⟨(m13, l15, i11, (IntKind.i64.wrap (j12 - i11))), Nat.lt_succ_self _, ⟨trivial, h⟩, ⟨rfl, ⟨rfl, rfl, rfl, rfl, rfl, trivial⟩, ⟨rfl, trivial⟩⟩⟩
  ·have h := Zk hc h
   refine AW.exit ?_
   obtain ⟨l16, hl16, h⟩ := Z1 h
   refine Rg <| Mw rfl <| Md rfl <| Md rfl <| Ac (Z0m rfl rfl (vt rfl) (vt rfl)) rfl <| Md rfl <| Md rfl <| Ac (Zq (A := Zl Tryz.prog (Z0 .i64) (Z0 .i64) (Z0 .i64) cmp6) rfl rfl (vt rfl)) rfl <| Ct rfl (Z12 0 (xs := [.tmp 50, .tmp 53, .tmp 54, .tmp 55, .tmp 56]) (Zkw _ _ _ _ _ _ _ hl16) Zkb rfl rfl ⟨vt rfl, vt rfl, vt rfl, vt rfl, vt rfl, trivial⟩ rfl) ?_
   rintro _ ⟨_u, rfl⟩
   refine Nl ?_
   obtain rfl := si h
   exact Z1t (i := 0) Tryz.results333 rfl rfl
def Zdf (i9 : Int) : Nat → (List Int) → Int → Option (List Int)
 | 0, _, _ => none
 | m20 + 1, l18, k19 => (bif (decide (k19 < (IntKind.i64.wrap (i9 - 1)))) then (lget l18 (IntKind.i64.wrap (k19 + 1))).bind fun e21 => (lget l18 k19).bind fun e22 => (lget l18 k19).bind fun e23 => (lget (List.set l18 k19.toNat e21) (IntKind.i64.wrap (k19 + 1))).bind fun e24 => (Zdf i9 m20) (List.set (List.set l18 k19.toNat e21) (IntKind.i64.wrap (k19 + 1)).toNat e22) (IntKind.i64.wrap (k19 + 1)) else some l18)
def Zab (data1 : (List Int)) (a3 : Int) (cmp6 : (Int → Int → Option Int)) : Nat → Int → Int → Option (List Int)
 | 0, _, _ => none
 | m11 + 1, i9, j10 => (bif (decide (i9 < j10)) then (Z2c (BitVec.ofInt 64 (IntKind.i64.wrap (i9 + j10))) ((1 : BitVec 64).toNat : Int)).bind fun q12 => (lget data1 (IntKind.i64.wrap (q12.toNat : Int))).bind fun e13 => (lget data1 a3).bind fun e14 => (cmp6 e13 e14).bind fun x15 => (bif (decide (x15 < 0)) then (Zab data1 a3 cmp6 m11) (IntKind.i64.wrap ((IntKind.i64.wrap (q12.toNat : Int)) + 1)) j10 else (Zab data1 a3 cmp6 m11) i9 (IntKind.i64.wrap (q12.toNat : Int))) else Zdf i9 ((((IntKind.i64.wrap (i9 - 1)) : Int) - a3).toNat + 1) data1 a3)
def Zbq (i27 : Int) : Nat → (List Int) → Int → Option (List Int)
 | 0, _, _ => none
 | m38 + 1, l36, k37 => (bif (decide (k37 > i27)) then (lget l36 (IntKind.i64.wrap (k37 - 1))).bind fun e39 => (lget l36 k37).bind fun e40 => (lget l36 k37).bind fun e41 => (lget (List.set l36 k37.toNat e39) (IntKind.i64.wrap (k37 - 1))).bind fun e42 => (Zbq i27 m38) (List.set (List.set l36 k37.toNat e39) (IntKind.i64.wrap (k37 - 1)).toNat e40) (IntKind.i64.wrap (k37 - 1)) else some l36)
def Z9y (data1 : (List Int)) (m4 : Int) (cmp6 : (Int → Int → Option Int)) : Nat → Int → Int → Option (List Int)
 | 0, _, _ => none
 | m29 + 1, i27, j28 => (bif (decide (i27 < j28)) then (Z2c (BitVec.ofInt 64 (IntKind.i64.wrap (i27 + j28))) ((1 : BitVec 64).toNat : Int)).bind fun q30 => (lget data1 m4).bind fun e31 => (lget data1 (IntKind.i64.wrap (q30.toNat : Int))).bind fun e32 => (cmp6 e31 e32).bind fun x33 => (bif (!(decide (x33 < 0))) then (Z9y data1 m4 cmp6 m29) (IntKind.i64.wrap ((IntKind.i64.wrap (q30.toNat : Int)) + 1)) j28 else (Z9y data1 m4 cmp6 m29) i27 (IntKind.i64.wrap (q30.toNat : Int))) else Zbq i27 (((m4 : Int) - i27).toNat + 1) data1 m4)
def Zin (q43 : (BitVec 64)) (m4 : Int) (start48 : Int) (b5 : Int) (R_slices_symMergeCmpFunc_int : ((List Int) → Int → Int → Int → (Int → Int → Option Int) → Option (List Int))) (cmp6 : (Int → Int → Option Int)) (l56 : (List Int)) : Option (List Int) :=
 (bif ((decide ((IntKind.i64.wrap (q43.toNat : Int)) < (IntKind.i64.wrap ((IntKind.i64.wrap ((IntKind.i64.wrap (q43.toNat : Int)) + m4)) - start48)))) && (decide ((IntKind.i64.wrap ((IntKind.i64.wrap ((IntKind.i64.wrap (q43.toNat : Int)) + m4)) - start48)) < b5))) then (R_slices_symMergeCmpFunc_int l56 (IntKind.i64.wrap (q43.toNat : Int)) (IntKind.i64.wrap ((IntKind.i64.wrap ((IntKind.i64.wrap (q43.toNat : Int)) + m4)) - start48)) b5 cmp6).bind fun l57 => some l57 else some l56)
def Zhw (a3 : Int) (start48 : Int) (q43 : (BitVec 64)) (R_slices_symMergeCmpFunc_int : ((List Int) → Int → Int → Int → (Int → Int → Option Int) → Option (List Int))) (cmp6 : (Int → Int → Option Int)) (m4 : Int) (b5 : Int) (l55 : (List Int)) : Option (List Int) :=
 (bif ((decide (a3 < start48)) && (decide (start48 < (IntKind.i64.wrap (q43.toNat : Int))))) then (R_slices_symMergeCmpFunc_int l55 a3 start48 (IntKind.i64.wrap (q43.toNat : Int)) cmp6).bind fun l58 => Zin q43 m4 start48 b5 R_slices_symMergeCmpFunc_int cmp6 l58 else Zin q43 m4 start48 b5 R_slices_symMergeCmpFunc_int cmp6 l55)
def Z99 (data1 : (List Int)) (q43 : (BitVec 64)) (m4 : Int) (cmp6 : (Int → Int → Option Int)) (a3 : Int) (R_slices_symMergeCmpFunc_int : ((List Int) → Int → Int → Int → (Int → Int → Option Int) → Option (List Int))) (b5 : Int) : Nat → Int → Int → Option (List Int)
 | 0, _, _ => none
 | m50 + 1, start48, r49 => (bif (decide (start48 < r49)) then (Z2c (BitVec.ofInt 64 (IntKind.i64.wrap (start48 + r49))) ((1 : BitVec 64).toNat : Int)).bind fun q51 => (lget data1 (IntKind.i64.wrap ((IntKind.i64.wrap ((IntKind.i64.wrap ((IntKind.i64.wrap (q43.toNat : Int)) + m4)) - 1)) - (IntKind.i64.wrap (q51.toNat : Int))))).bind fun e52 => (lget data1 (IntKind.i64.wrap (q51.toNat : Int))).bind fun e53 => (cmp6 e52 e53).bind fun x54 => (bif (!(decide (x54 < 0))) then (Z99 data1 q43 m4 cmp6 a3 R_slices_symMergeCmpFunc_int b5 m50) (IntKind.i64.wrap ((IntKind.i64.wrap (q51.toNat : Int)) + 1)) r49 else (Z99 data1 q43 m4 cmp6 a3 R_slices_symMergeCmpFunc_int b5 m50) start48 (IntKind.i64.wrap (q51.toNat : Int))) else (bif ((decide (start48 < m4)) && (decide (m4 < (IntKind.i64.wrap ((IntKind.i64.wrap ((IntKind.i64.wrap (q43.toNat : Int)) + m4)) - start48))))) then (Zkq data1 start48 m4 (IntKind.i64.wrap ((IntKind.i64.wrap ((IntKind.i64.wrap (q43.toNat : Int)) + m4)) - start48)) cmp6).bind fun l59 => Zhw a3 start48 q43 R_slices_symMergeCmpFunc_int cmp6 m4 b5 l59 else Zhw a3 start48 q43 R_slices_symMergeCmpFunc_int cmp6 m4 b5 data1))
def Zh8 (data1 : (List Int)) (q43 : (BitVec 64)) (m4 : Int) (cmp6 : (Int → Int → Option Int)) (a3 : Int) (R_slices_symMergeCmpFunc_int : ((List Int) → Int → Int → Int → (Int → Int → Option Int) → Option (List Int))) (b5 : Int) (start44 : Int) (r45 : Int) : Option (List Int) :=
 Z99 data1 q43 m4 cmp6 a3 R_slices_symMergeCmpFunc_int b5 (((r45 : Int) - start44).toNat + 1) start44 r45
def Zlo (R_slices_symMergeCmpFunc_int : ((List Int) → Int → Int → Int → (Int → Int → Option Int) → Option (List Int))) (data1 : (List Int)) (a3 : Int) (m4 : Int) (b5 : Int) (cmp6 : (Int → Int → Option Int)) : Option (List Int) :=
 (bif (decide ((IntKind.i64.wrap (m4 - a3)) = 1)) then Zab data1 a3 cmp6 (((b5 : Int) - m4).toNat + 1) m4 b5 else (bif (decide ((IntKind.i64.wrap (b5 - m4)) = 1)) then Z9y data1 m4 cmp6 (((m4 : Int) - a3).toNat + 1) a3 m4 else (Z2c (BitVec.ofInt 64 (IntKind.i64.wrap (a3 + b5))) ((1 : BitVec 64).toNat : Int)).bind fun q43 => (bif (decide (m4 > (IntKind.i64.wrap (q43.toNat : Int)))) then Zh8 data1 q43 m4 cmp6 a3 R_slices_symMergeCmpFunc_int b5 (IntKind.i64.wrap ((IntKind.i64.wrap ((IntKind.i64.wrap (q43.toNat : Int)) + m4)) - b5)) (IntKind.i64.wrap (q43.toNat : Int)) else Zh8 data1 q43 m4 cmp6 a3 R_slices_symMergeCmpFunc_int b5 a3 m4)))
theorem Y8h (R_slices_symMergeCmpFunc_int : ((List Int) → Int → Int → Int → (Int → Int → Option Int) → Option (List Int))) (hR_slices_symMergeCmpFunc_int : ∀ (v2 : Value) (data1 : (List Int)) (a3 : Int) (m4 : Int) (b5 : Int) (cmp6 : (Int → Int → Option Int)) (r : (List Int)), R_slices_symMergeCmpFunc_int data1 a3 m4 b5 cmp6 = some r → Con Tryz.prog 302 [Za v2, rd (Z0 .i64) a3, rd (Z0 .i64) m4, rd (Z0 .i64) b5, Zl Tryz.prog (Z0 .i64) (Z0 .i64) (Z0 .i64) cmp6] (Z9 v2 3 (Z0 .i64) data1) (fun _ : Unit => top) (fun _ => Z9 v2 3 (Z0 .i64) r)) (v2 : Value) (data1 : (List Int)) (a3 : Int) (m4 : Int) (b5 : Int) (cmp6 : (Int → Int → Option Int)) (r : (List Int)) (h : Zlo R_slices_symMergeCmpFunc_int data1 a3 m4 b5 cmp6 = some r) : Con Tryz.prog 302 [Za v2, rd (Z0 .i64) a3, rd (Z0 .i64) m4, rd (Z0 .i64) b5, Zl Tryz.prog (Z0 .i64) (Z0 .i64) (Z0 .i64) cmp6] (Z9 v2 3 (Z0 .i64) data1) (fun _ : Unit => top) (fun _ => Z9 v2 3 (Z0 .i64) r) := by
 refine Con.intro Tryz.func302 rfl Tryz.ntmps302 rfl fun w H X => ?_
 unfold Zlo at h
 refine AW.seq <| SR <| Md rfl <| Md rfl <| Ac (Z0m rfl rfl (vt rfl) (vt rfl)) rfl <| Ac (Z1l rfl rfl (vt rfl) (vk rfl)) rfl <| Nl <| Cn rfl (fun hc => ?_) (fun hc => ?_)
 ·have h := Zj hc h
  refine SR <| Md rfl <| As rfl <| Nl <| SR <| Md rfl <| As rfl <| Nl <| AW.seq <| AW.block <| AW.loopG (d := []) (ν := Nat × Int × Int) (fun n => True ∧ Zab data1 a3 cmp6 n.1 n.2.1 n.2.2 = some r) (fun n => n.1) (fun n => [(0, Za v2), (1, rd (Z0 .i64) a3), (4, Zl Tryz.prog (Z0 .i64) (Z0 .i64) (Z0 .i64) cmp6), (10, rd (Z0 .i64) n.2.1), (11, rd (Z0 .i64) n.2.2)]) (fun n => [(0, Z9 v2 3 (Z0 .i64) data1)]) ((((b5 : Int) - m4).toNat + 1), m4, b5) ⟨trivial, h⟩ ⟨rfl, ⟨rfl, rfl, rfl, rfl, rfl, trivial⟩, ⟨rfl, trivial⟩⟩ ?_
  rintro ⟨m11, i9, j10⟩ ⟨hsf1, h⟩
  change True at hsf1
  change Zab data1 a3 cmp6 m11 i9 j10 = some r at h
  change AW _ _ _ ⟨Zw [(0, Za v2), (1, rd (Z0 .i64) a3), (4, Zl Tryz.prog (Z0 .i64) (Z0 .i64) (Z0 .i64) cmp6), (10, rd (Z0 .i64) i9), (11, rd (Z0 .i64) j10)], Zx [(0, Z9 v2 3 (Z0 .i64) data1)], _⟩
  cases m11 with
  | zero => cases h
  | succ m11 =>
   unfold Zab at h
   generalize hgo1 : Zab data1 a3 cmp6 m11 = go1 at h
   refine AW.seq <| SR <| Md rfl <| Md rfl <| Ac (Zi rfl rfl (vt rfl) (vt rfl)) rfl <| Nl <| Cn rfl (fun hc => ?_) (fun hc => ?_)
   ·have h := Zj hc h
    refine AW.skip <| AW.block <| AW.seq ?_
    obtain ⟨q12, hq12, h⟩ := Z1 h
    refine Rg <| Md rfl <| Md rfl <| Ac (Z0e rfl rfl (vt rfl) (vt rfl)) rfl <| Ac (Z91 rfl rfl us3 Z96 (vt rfl)) rfl <| Ac (Z40 rfl rfl (vt rfl) (Z41 (vku (1 : BitVec 64) rfl)) hq12) rfl <| Ac (Z7y rfl rfl Z8j un3 (vt rfl)) rfl <| As rfl <| Nl <| AW.seq ?_
    obtain ⟨e13, he13, h⟩ := Z1 h
    obtain ⟨e14, he14, h⟩ := Z1 h
    obtain ⟨x15, hx15, h⟩ := Z1 h
    refine AW.regionAny [⟨[4], [40], [], []⟩, ⟨[0], [41], [], []⟩, ⟨[12], [42], [], []⟩, ⟨[41, 42], [43], [0], []⟩, ⟨[43], [44], [0], []⟩, ⟨[0], [45], [], []⟩, ⟨[1], [46], [], []⟩, ⟨[45, 46], [47], [0], []⟩, ⟨[47], [48], [0], []⟩, ⟨[40, 44, 48], [49], [], []⟩, ⟨[49], [50], [], []⟩] Z05 (by kernel_rfl) <| Sc (lo [4] [] rfl fun S hs hr => Zq (A := Zl Tryz.prog (Z0 .i64) (Z0 .i64) (Z0 .i64) cmp6) rfl rfl (vh hs 4 rfl rfl)) rfl <| SMw rfl <| SMd rfl <| Sc (lo [41, 42] [0] rfl fun S hs hr => Z1q 0 rfl rfl Z14 (vh hs 41 rfl rfl) ((hr 0 rfl).trans rfl) (vh hs 42 rfl rfl) he13) rfl <| Sc (lo [43] [0] rfl fun S hs hr => Z13 0 rfl rfl Zu (vh hs 43 rfl rfl) ((hr 0 rfl).trans rfl) (Z06 he13).2) rfl <| SMw rfl <| SMd rfl <| Sc (lo [45, 46] [0] rfl fun S hs hr => Z1q 0 rfl rfl Z14 (vh hs 45 rfl rfl) ((hr 0 rfl).trans rfl) (vh hs 46 rfl rfl) he14) rfl <| Sc (lo [47] [0] rfl fun S hs hr => Z13 0 rfl rfl Zu (vh hs 47 rfl rfl) ((hr 0 rfl).trans rfl) (Z06 he14).2) rfl <| Sc (lo [40, 44, 48] [] rfl fun S hs hr => Z4i hx15 rfl rfl (vh hs 40 rfl rfl) (vh hs 44 rfl rfl) (vh hs 48 rfl rfl)) rfl <| Sc (lo [49] [] rfl fun S hs hr => Zi rfl rfl (vh hs 49 rfl rfl) (vk rfl)) rfl <| Cn rfl (fun hc => ?_) (fun hc => ?_)
    ·have h := Zj hc h
     refine Rg <| Md rfl <| Ac (Z0e rfl rfl (vt rfl) (vk rfl)) rfl <| As rfl <| Nl ?_
     subst hgo1
     exact ⟨(m11, (IntKind.i64.wrap ((IntKind.i64.wrap (q12.toNat : Int)) + 1)), j10), Nat.lt_succ_self _, ⟨trivial, h⟩, ⟨rfl, ⟨rfl, rfl, rfl, rfl, rfl, trivial⟩, ⟨rfl, trivial⟩⟩⟩
    ·have h := Zk hc h
     refine Rg <| Md rfl <| As rfl <| Nl ?_
     subst hgo1
     exact ⟨(m11, i9, (IntKind.i64.wrap (q12.toNat : Int))), Nat.lt_succ_self _, ⟨trivial, h⟩, ⟨rfl, ⟨rfl, rfl, rfl, rfl, rfl, trivial⟩, ⟨rfl, trivial⟩⟩⟩
   ·have h := Zk hc h
    refine AW.exit <| AW.seq <| SR <| Md rfl <| As rfl <| Nl <| AW.block <| AW.loopG (d := []) (ν := Nat × (List Int) × Int) (fun n => True ∧ Zdf i9 n.1 n.2.1 n.2.2 = some r) (fun n => n.1) (fun n => [(0, Za v2), (10, rd (Z0 .i64) i9), (13, rd (Z0 .i64) n.2.2)]) (fun n => [(0, Z9 v2 3 (Z0 .i64) n.2.1)]) (((((IntKind.i64.wrap (i9 - 1)) : Int) - a3).toNat + 1), data1, a3) ⟨trivial, h⟩ ⟨rfl, ⟨rfl, rfl, rfl, trivial⟩, ⟨rfl, trivial⟩⟩ ?_
    rintro ⟨m20, l18, k19⟩ ⟨hsf2, h⟩
    change True at hsf2
    change Zdf i9 m20 l18 k19 = some r at h
    change AW _ _ _ ⟨Zw [(0, Za v2), (10, rd (Z0 .i64) i9), (13, rd (Z0 .i64) k19)], Zx [(0, Z9 v2 3 (Z0 .i64) l18)], _⟩
    cases m20 with
    | zero => cases h
    | succ m20 =>
     unfold Zdf at h
     generalize hgo2 : Zdf i9 m20 = go2 at h
     refine AW.seq <| SR <| Md rfl <| Md rfl <| Ac (Z0m rfl rfl (vt rfl) (vk rfl)) rfl <| Ac (Zi rfl rfl (vt rfl) (vt rfl)) rfl <| Nl <| Cn rfl (fun hc => ?_) (fun hc => ?_)
     ·have h := Zj hc h
      refine AW.skip <| AW.seq <| AW.block <| AW.vlen 0 rfl fun hvl0_218 => ?_
      obtain ⟨e21, he21, h⟩ := Z1 h
      obtain ⟨e22, he22, h⟩ := Z1 h
      obtain ⟨e23, he23, h⟩ := Z1 h
      obtain ⟨e24, he24, h⟩ := Z1 h
      refine AW.regionAny [⟨[0], [61], [], []⟩, ⟨[13], [62], [], []⟩, ⟨[0], [63], [], []⟩, ⟨[13], [64], [], []⟩, ⟨[64], [65], [], []⟩, ⟨[0], [66], [], []⟩, ⟨[13], [67], [], []⟩, ⟨[67], [68], [], []⟩, ⟨[66, 68], [69], [], []⟩, ⟨[69], [70], [0], []⟩, ⟨[0], [71], [], []⟩, ⟨[13], [72], [], []⟩, ⟨[71, 72], [73], [], []⟩, ⟨[73], [74], [0], []⟩, ⟨[61, 62], [75], [], []⟩, ⟨[75, 70], [], [0], [0]⟩, ⟨[63, 65], [76], [], []⟩, ⟨[76, 74], [], [0], [0]⟩] Z05 (by kernel_rfl) <| SMw rfl <| SMd rfl <| SMw rfl <| SMd rfl <| Sc (lo [64] [] rfl fun S hs hr => Z0e rfl rfl (vh hs 64 rfl rfl) (vk rfl)) rfl <| SMw rfl <| SMd rfl <| Sc (lo [67] [] rfl fun S hs hr => Z0e rfl rfl (vh hs 67 rfl rfl) (vk rfl)) rfl <| Sc (lo [66, 68] [] rfl fun S hs hr => Z1b (l := l18) hvl0_218 rfl rfl rfl Z14 (vh hs 66 rfl rfl) (vh hs 68 rfl rfl) he21) rfl <| Sc (lo [69] [0] rfl fun S hs hr => Z13 0 rfl rfl Zu (vh hs 69 rfl rfl) ((hr 0 rfl).trans rfl) (Z06 he21).2) rfl <| SMw rfl <| SMd rfl <| Sc (lo [71, 72] [] rfl fun S hs hr => Z1b (l := l18) hvl0_218 rfl rfl rfl Z14 (vh hs 71 rfl rfl) (vh hs 72 rfl rfl) he22) rfl <| Sc (lo [73] [0] rfl fun S hs hr => Z13 0 rfl rfl Zu (vh hs 73 rfl rfl) ((hr 0 rfl).trans rfl) (Z06 he22).2) rfl <| Sc (lo [61, 62] [] rfl fun S hs hr => Z1b (l := l18) hvl0_218 rfl rfl rfl Z14 (vh hs 61 rfl rfl) (vh hs 62 rfl rfl) he23) rfl <| Sc (Z30 [75, 70] [0] rfl fun S hs hr => Z2d 0 rfl rfl Zu (vh hs 75 rfl rfl) ((hr 0 rfl).trans rfl) (Z06 he23).2 (vh hs 70 rfl rfl)) rfl <| Sc (lo [63, 65] [] rfl fun S hs hr => Z1b (l := (List.set l18 k19.toNat e21)) hvl0_218 (by simp) rfl rfl Z14 (vh hs 63 rfl rfl) (vh hs 65 rfl rfl) he24) rfl <| Sc (Z30 [76, 74] [0] rfl fun S hs hr => Z2d 0 rfl rfl Zu (vh hs 76 rfl rfl) ((hr 0 rfl).trans rfl) (Z06 he24).2 (vh hs 74 rfl rfl)) rfl <| Rg <| Md rfl <| Ac (Z0e rfl rfl (vt rfl) (vk rfl)) rfl <| As rfl <| Nl ?_
      subst hgo2
      exact ⟨(m20, (List.set (List.set l18 k19.toNat e21) (IntKind.i64.wrap (k19 + 1)).toNat e22), (IntKind.i64.wrap (k19 + 1))), Nat.lt_succ_self _, ⟨trivial, h⟩, ⟨rfl, ⟨rfl, rfl, rfl, trivial⟩, ⟨rfl, trivial⟩⟩⟩
     ·have h := Zk hc h
      refine AW.exit <| AW.ret ?_
      obtain rfl := si h
      exact Z1t (i := 0) Tryz.results302 rfl rfl
 ·have h := Zk hc h
  refine AW.skip <| AW.seq <| SR <| Md rfl <| Md rfl <| Ac (Z0m rfl rfl (vt rfl) (vt rfl)) rfl <| Ac (Z1l rfl rfl (vt rfl) (vk rfl)) rfl <| Nl <| Cn rfl (fun hc => ?_) (fun hc => ?_)
  ·have h := Zj hc h
   refine SR <| Md rfl <| As rfl <| Nl <| SR <| Md rfl <| As rfl <| Nl <| AW.seq <| AW.block <| AW.loopG (d := []) (ν := Nat × Int × Int) (fun n => True ∧ Z9y data1 m4 cmp6 n.1 n.2.1 n.2.2 = some r) (fun n => n.1) (fun n => [(0, Za v2), (2, rd (Z0 .i64) m4), (4, Zl Tryz.prog (Z0 .i64) (Z0 .i64) (Z0 .i64) cmp6), (14, rd (Z0 .i64) n.2.1), (15, rd (Z0 .i64) n.2.2)]) (fun n => [(0, Z9 v2 3 (Z0 .i64) data1)]) ((((m4 : Int) - a3).toNat + 1), a3, m4) ⟨trivial, h⟩ ⟨rfl, ⟨rfl, rfl, rfl, rfl, rfl, trivial⟩, ⟨rfl, trivial⟩⟩ ?_
   rintro ⟨m29, i27, j28⟩ ⟨hsf3, h⟩
   change True at hsf3
   change Z9y data1 m4 cmp6 m29 i27 j28 = some r at h
   change AW _ _ _ ⟨Zw [(0, Za v2), (2, rd (Z0 .i64) m4), (4, Zl Tryz.prog (Z0 .i64) (Z0 .i64) (Z0 .i64) cmp6), (14, rd (Z0 .i64) i27), (15, rd (Z0 .i64) j28)], Zx [(0, Z9 v2 3 (Z0 .i64) data1)], _⟩
   cases m29 with
   | zero => cases h
   | succ m29 =>
    unfold Z9y at h
    generalize hgo3 : Z9y data1 m4 cmp6 m29 = go3 at h
    refine AW.seq <| SR <| Md rfl <| Md rfl <| Ac (Zi rfl rfl (vt rfl) (vt rfl)) rfl <| Nl <| Cn rfl (fun hc => ?_) (fun hc => ?_)
    ·have h := Zj hc h
     refine AW.skip <| AW.block <| AW.seq ?_
     obtain ⟨q30, hq30, h⟩ := Z1 h
     refine Rg <| Md rfl <| Md rfl <| Ac (Z0e rfl rfl (vt rfl) (vt rfl)) rfl <| Ac (Z91 rfl rfl us3 Z96 (vt rfl)) rfl <| Ac (Z40 rfl rfl (vt rfl) (Z41 (vku (1 : BitVec 64) rfl)) hq30) rfl <| Ac (Z7y rfl rfl Z8j un3 (vt rfl)) rfl <| As rfl <| Nl <| AW.seq ?_
     obtain ⟨e31, he31, h⟩ := Z1 h
     obtain ⟨e32, he32, h⟩ := Z1 h
     obtain ⟨x33, hx33, h⟩ := Z1 h
     refine AW.regionAny [⟨[4], [92], [], []⟩, ⟨[0], [93], [], []⟩, ⟨[2], [94], [], []⟩, ⟨[93, 94], [95], [0], []⟩, ⟨[95], [96], [0], []⟩, ⟨[0], [97], [], []⟩, ⟨[16], [98], [], []⟩, ⟨[97, 98], [99], [0], []⟩, ⟨[99], [100], [0], []⟩, ⟨[92, 96, 100], [101], [], []⟩, ⟨[101], [102], [], []⟩, ⟨[102], [103], [], []⟩] Z05 (by kernel_rfl) <| Sc (lo [4] [] rfl fun S hs hr => Zq (A := Zl Tryz.prog (Z0 .i64) (Z0 .i64) (Z0 .i64) cmp6) rfl rfl (vh hs 4 rfl rfl)) rfl <| SMw rfl <| SMd rfl <| Sc (lo [93, 94] [0] rfl fun S hs hr => Z1q 0 rfl rfl Z14 (vh hs 93 rfl rfl) ((hr 0 rfl).trans rfl) (vh hs 94 rfl rfl) he31) rfl <| Sc (lo [95] [0] rfl fun S hs hr => Z13 0 rfl rfl Zu (vh hs 95 rfl rfl) ((hr 0 rfl).trans rfl) (Z06 he31).2) rfl <| SMw rfl <| SMd rfl <| Sc (lo [97, 98] [0] rfl fun S hs hr => Z1q 0 rfl rfl Z14 (vh hs 97 rfl rfl) ((hr 0 rfl).trans rfl) (vh hs 98 rfl rfl) he32) rfl <| Sc (lo [99] [0] rfl fun S hs hr => Z13 0 rfl rfl Zu (vh hs 99 rfl rfl) ((hr 0 rfl).trans rfl) (Z06 he32).2) rfl <| Sc (lo [92, 96, 100] [] rfl fun S hs hr => Z4i hx33 rfl rfl (vh hs 92 rfl rfl) (vh hs 96 rfl rfl) (vh hs 100 rfl rfl)) rfl <| Sc (lo [101] [] rfl fun S hs hr => Zi rfl rfl (vh hs 101 rfl rfl) (vk rfl)) rfl <| Sc (lo [102] [] rfl fun S hs hr => Z0x rfl rfl (vh hs 102 rfl rfl)) rfl <| Cn rfl (fun hc => ?_) (fun hc => ?_)
     ·have h := Zj hc h
      refine Rg <| Md rfl <| Ac (Z0e rfl rfl (vt rfl) (vk rfl)) rfl <| As rfl <| Nl ?_
      subst hgo3
      exact ⟨(m29, (IntKind.i64.wrap ((IntKind.i64.wrap (q30.toNat : Int)) + 1)), j28), Nat.lt_succ_self _, ⟨trivial, h⟩, ⟨rfl, ⟨rfl, rfl, rfl, rfl, rfl, trivial⟩, ⟨rfl, trivial⟩⟩⟩
     ·have h := Zk hc h
      refine Rg <| Md rfl <| As rfl <| Nl ?_
      subst hgo3
      exact ⟨(m29, i27, (IntKind.i64.wrap (q30.toNat : Int))), Nat.lt_succ_self _, ⟨trivial, h⟩, ⟨rfl, ⟨rfl, rfl, rfl, rfl, rfl, trivial⟩, ⟨rfl, trivial⟩⟩⟩
    ·have h := Zk hc h
     refine AW.exit <| AW.seq <| SR <| Md rfl <| As rfl <| Nl <| AW.block <| AW.loopG (d := []) (ν := Nat × (List Int) × Int) (fun n => True ∧ Zbq i27 n.1 n.2.1 n.2.2 = some r) (fun n => n.1) (fun n => [(0, Za v2), (14, rd (Z0 .i64) i27), (17, rd (Z0 .i64) n.2.2)]) (fun n => [(0, Z9 v2 3 (Z0 .i64) n.2.1)]) ((((m4 : Int) - i27).toNat + 1), data1, m4) ⟨trivial, h⟩ ⟨rfl, ⟨rfl, rfl, rfl, trivial⟩, ⟨rfl, trivial⟩⟩ ?_
     rintro ⟨m38, l36, k37⟩ ⟨hsf4, h⟩
     change True at hsf4
     change Zbq i27 m38 l36 k37 = some r at h
     change AW _ _ _ ⟨Zw [(0, Za v2), (14, rd (Z0 .i64) i27), (17, rd (Z0 .i64) k37)], Zx [(0, Z9 v2 3 (Z0 .i64) l36)], _⟩
     cases m38 with
     | zero => cases h
     | succ m38 =>
      unfold Zbq at h
      generalize hgo4 : Zbq i27 m38 = go4 at h
      refine AW.seq <| SR <| Md rfl <| Md rfl <| Ac (Z4f rfl rfl (vt rfl) (vt rfl)) rfl <| Nl <| Cn rfl (fun hc => ?_) (fun hc => ?_)
      ·have h := Zj hc h
       refine AW.skip <| AW.seq <| AW.block <| AW.vlen 0 rfl fun hvl0_474 => ?_
       obtain ⟨e39, he39, h⟩ := Z1 h
       obtain ⟨e40, he40, h⟩ := Z1 h
       obtain ⟨e41, he41, h⟩ := Z1 h
       obtain ⟨e42, he42, h⟩ := Z1 h
       refine AW.regionAny [⟨[0], [113], [], []⟩, ⟨[17], [114], [], []⟩, ⟨[0], [115], [], []⟩, ⟨[17], [116], [], []⟩, ⟨[116], [117], [], []⟩, ⟨[0], [118], [], []⟩, ⟨[17], [119], [], []⟩, ⟨[119], [120], [], []⟩, ⟨[118, 120], [121], [], []⟩, ⟨[121], [122], [0], []⟩, ⟨[0], [123], [], []⟩, ⟨[17], [124], [], []⟩, ⟨[123, 124], [125], [], []⟩, ⟨[125], [126], [0], []⟩, ⟨[113, 114], [127], [], []⟩, ⟨[127, 122], [], [0], [0]⟩, ⟨[115, 117], [128], [], []⟩, ⟨[128, 126], [], [0], [0]⟩] Z05 (by kernel_rfl) <| SMw rfl <| SMd rfl <| SMw rfl <| SMd rfl <| Sc (lo [116] [] rfl fun S hs hr => Z0m rfl rfl (vh hs 116 rfl rfl) (vk rfl)) rfl <| SMw rfl <| SMd rfl <| Sc (lo [119] [] rfl fun S hs hr => Z0m rfl rfl (vh hs 119 rfl rfl) (vk rfl)) rfl <| Sc (lo [118, 120] [] rfl fun S hs hr => Z1b (l := l36) hvl0_474 rfl rfl rfl Z14 (vh hs 118 rfl rfl) (vh hs 120 rfl rfl) he39) rfl <| Sc (lo [121] [0] rfl fun S hs hr => Z13 0 rfl rfl Zu (vh hs 121 rfl rfl) ((hr 0 rfl).trans rfl) (Z06 he39).2) rfl <| SMw rfl <| SMd rfl <| Sc (lo [123, 124] [] rfl fun S hs hr => Z1b (l := l36) hvl0_474 rfl rfl rfl Z14 (vh hs 123 rfl rfl) (vh hs 124 rfl rfl) he40) rfl <| Sc (lo [125] [0] rfl fun S hs hr => Z13 0 rfl rfl Zu (vh hs 125 rfl rfl) ((hr 0 rfl).trans rfl) (Z06 he40).2) rfl <| Sc (lo [113, 114] [] rfl fun S hs hr => Z1b (l := l36) hvl0_474 rfl rfl rfl Z14 (vh hs 113 rfl rfl) (vh hs 114 rfl rfl) he41) rfl <| Sc (Z30 [127, 122] [0] rfl fun S hs hr => Z2d 0 rfl rfl Zu (vh hs 127 rfl rfl) ((hr 0 rfl).trans rfl) (Z06 he41).2 (vh hs 122 rfl rfl)) rfl <| Sc (lo [115, 117] [] rfl fun S hs hr => Z1b (l := (List.set l36 k37.toNat e39)) hvl0_474 (by simp) rfl rfl Z14 (vh hs 115 rfl rfl) (vh hs 117 rfl rfl) he42) rfl <| Sc (Z30 [128, 126] [0] rfl fun S hs hr => Z2d 0 rfl rfl Zu (vh hs 128 rfl rfl) ((hr 0 rfl).trans rfl) (Z06 he42).2 (vh hs 126 rfl rfl)) rfl <| Rg <| Md rfl <| Ac (Z0m rfl rfl (vt rfl) (vk rfl)) rfl <| As rfl <| Nl ?_
       subst hgo4
       exact ⟨(m38, (List.set (List.set l36 k37.toNat e39) (IntKind.i64.wrap (k37 - 1)).toNat e40), (IntKind.i64.wrap (k37 - 1))), Nat.lt_succ_self _, ⟨trivial, h⟩, ⟨rfl, ⟨rfl, rfl, rfl, trivial⟩, ⟨rfl, trivial⟩⟩⟩
      ·have h := Zk hc h
       refine AW.exit <| AW.ret ?_
       obtain rfl := si h
       exact Z1t (i := 0) Tryz.results302 rfl rfl
  ·have h := Zk hc h
   refine AW.skip <| AW.seq ?_
   obtain ⟨q43, hq43, h⟩ := Z1 h
   refine Rg <| Md rfl <| Md rfl <| Ac (Z0e rfl rfl (vt rfl) (vt rfl)) rfl <| Ac (Z91 rfl rfl us3 Z96 (vt rfl)) rfl <| Ac (Z40 rfl rfl (vt rfl) (Z41 (vku (1 : BitVec 64) rfl)) hq43) rfl <| Ac (Z7y rfl rfl Z8j un3 (vt rfl)) rfl <| As rfl <| Nl <| SR <| Md rfl <| Md rfl <| Ac (Z0e rfl rfl (vt rfl) (vt rfl)) rfl <| As rfl <| Nl <| SR <| Ak rfl <| Ak rfl <| Nl ?_
   refine AW.join (d := []) (ν := Int × Int) (fun n => Zh8 data1 q43 m4 cmp6 a3 R_slices_symMergeCmpFunc_int b5 n.1 n.2 = some r) (fun n => [(0, Za v2), (1, rd (Z0 .i64) a3), (2, rd (Z0 .i64) m4), (3, rd (Z0 .i64) b5), (4, Zl Tryz.prog (Z0 .i64) (Z0 .i64) (Z0 .i64) cmp6), (18, rd (Z0 .i64) (IntKind.i64.wrap (q43.toNat : Int))), (19, rd (Z0 .i64) (IntKind.i64.wrap ((IntKind.i64.wrap (q43.toNat : Int)) + m4))), (20, rd (Z0 .i64) n.1), (21, rd (Z0 .i64) n.2)]) (fun n => [(0, Z9 v2 3 (Z0 .i64) data1)]) ?hx5 ?hy5
   case hy5 =>
    rintro ⟨start44, r45⟩ h
    unfold Zh8 at h
    change AW _ _ _ ⟨Zw [(0, Za v2), (1, rd (Z0 .i64) a3), (2, rd (Z0 .i64) m4), (3, rd (Z0 .i64) b5), (4, Zl Tryz.prog (Z0 .i64) (Z0 .i64) (Z0 .i64) cmp6), (18, rd (Z0 .i64) (IntKind.i64.wrap (q43.toNat : Int))), (19, rd (Z0 .i64) (IntKind.i64.wrap ((IntKind.i64.wrap (q43.toNat : Int)) + m4))), (20, rd (Z0 .i64) start44), (21, rd (Z0 .i64) r45)], Zx [(0, Z9 v2 3 (Z0 .i64) data1)], _⟩
    refine SR <| Md rfl <| Ac (Z0m rfl rfl (vt rfl) (vk rfl)) rfl <| As rfl <| Nl <| AW.seq <| AW.block <| AW.loopG (d := []) (ν := Nat × Int × Int) (fun n => True ∧ Z99 data1 q43 m4 cmp6 a3 R_slices_symMergeCmpFunc_int b5 n.1 n.2.1 n.2.2 = some r) (fun n => n.1) (fun n => [(0, Za v2), (1, rd (Z0 .i64) a3), (2, rd (Z0 .i64) m4), (3, rd (Z0 .i64) b5), (4, Zl Tryz.prog (Z0 .i64) (Z0 .i64) (Z0 .i64) cmp6), (18, rd (Z0 .i64) (IntKind.i64.wrap (q43.toNat : Int))), (19, rd (Z0 .i64) (IntKind.i64.wrap ((IntKind.i64.wrap (q43.toNat : Int)) + m4))), (20, rd (Z0 .i64) n.2.1), (21, rd (Z0 .i64) n.2.2), (22, rd (Z0 .i64) (IntKind.i64.wrap ((IntKind.i64.wrap ((IntKind.i64.wrap (q43.toNat : Int)) + m4)) - 1)))]) (fun n => [(0, Z9 v2 3 (Z0 .i64) data1)]) ((((r45 : Int) - start44).toNat + 1), start44, r45) ⟨trivial, h⟩ ⟨rfl, ⟨rfl, rfl, rfl, rfl, rfl, rfl, rfl, rfl, rfl, rfl, trivial⟩, ⟨rfl, trivial⟩⟩ ?_
    rintro ⟨m50, start48, r49⟩ ⟨hsf6, h⟩
    change True at hsf6
    change Z99 data1 q43 m4 cmp6 a3 R_slices_symMergeCmpFunc_int b5 m50 start48 r49 = some r at h
    change AW _ _ _ ⟨Zw [(0, Za v2), (1, rd (Z0 .i64) a3), (2, rd (Z0 .i64) m4), (3, rd (Z0 .i64) b5), (4, Zl Tryz.prog (Z0 .i64) (Z0 .i64) (Z0 .i64) cmp6), (18, rd (Z0 .i64) (IntKind.i64.wrap (q43.toNat : Int))), (19, rd (Z0 .i64) (IntKind.i64.wrap ((IntKind.i64.wrap (q43.toNat : Int)) + m4))), (20, rd (Z0 .i64) start48), (21, rd (Z0 .i64) r49), (22, rd (Z0 .i64) (IntKind.i64.wrap ((IntKind.i64.wrap ((IntKind.i64.wrap (q43.toNat : Int)) + m4)) - 1)))], Zx [(0, Z9 v2 3 (Z0 .i64) data1)], _⟩
    cases m50 with
    | zero => cases h
    | succ m50 =>
     unfold Z99 at h
     generalize hgo6 : Z99 data1 q43 m4 cmp6 a3 R_slices_symMergeCmpFunc_int b5 m50 = go6 at h
     refine AW.seq <| SR <| Md rfl <| Md rfl <| Ac (Zi rfl rfl (vt rfl) (vt rfl)) rfl <| Nl <| Cn rfl (fun hc => ?_) (fun hc => ?_)
     ·have h := Zj hc h
      refine AW.skip <| AW.block <| AW.seq ?_
      obtain ⟨q51, hq51, h⟩ := Z1 h
      refine Rg <| Md rfl <| Md rfl <| Ac (Z0e rfl rfl (vt rfl) (vt rfl)) rfl <| Ac (Z91 rfl rfl us3 Z96 (vt rfl)) rfl <| Ac (Z40 rfl rfl (vt rfl) (Z41 (vku (1 : BitVec 64) rfl)) hq51) rfl <| Ac (Z7y rfl rfl Z8j un3 (vt rfl)) rfl <| As rfl <| Nl <| AW.seq ?_
      obtain ⟨e52, he52, h⟩ := Z1 h
      obtain ⟨e53, he53, h⟩ := Z1 h
      obtain ⟨x54, hx54, h⟩ := Z1 h
      refine AW.regionAny [⟨[4], [158], [], []⟩, ⟨[0], [159], [], []⟩, ⟨[22], [160], [], []⟩, ⟨[23], [161], [], []⟩, ⟨[160, 161], [162], [], []⟩, ⟨[159, 162], [163], [0], []⟩, ⟨[163], [164], [0], []⟩, ⟨[0], [165], [], []⟩, ⟨[23], [166], [], []⟩, ⟨[165, 166], [167], [0], []⟩, ⟨[167], [168], [0], []⟩, ⟨[158, 164, 168], [169], [], []⟩, ⟨[169], [170], [], []⟩, ⟨[170], [171], [], []⟩] Z05 (by kernel_rfl) <| Sc (lo [4] [] rfl fun S hs hr => Zq (A := Zl Tryz.prog (Z0 .i64) (Z0 .i64) (Z0 .i64) cmp6) rfl rfl (vh hs 4 rfl rfl)) rfl <| SMw rfl <| SMd rfl <| SMd rfl <| Sc (lo [160, 161] [] rfl fun S hs hr => Z0m rfl rfl (vh hs 160 rfl rfl) (vh hs 161 rfl rfl)) rfl <| Sc (lo [159, 162] [0] rfl fun S hs hr => Z1q 0 rfl rfl Z14 (vh hs 159 rfl rfl) ((hr 0 rfl).trans rfl) (vh hs 162 rfl rfl) he52) rfl <| Sc (lo [163] [0] rfl fun S hs hr => Z13 0 rfl rfl Zu (vh hs 163 rfl rfl) ((hr 0 rfl).trans rfl) (Z06 he52).2) rfl <| SMw rfl <| SMd rfl <| Sc (lo [165, 166] [0] rfl fun S hs hr => Z1q 0 rfl rfl Z14 (vh hs 165 rfl rfl) ((hr 0 rfl).trans rfl) (vh hs 166 rfl rfl) he53) rfl <| Sc (lo [167] [0] rfl fun S hs hr => Z13 0 rfl rfl Zu (vh hs 167 rfl rfl) ((hr 0 rfl).trans rfl) (Z06 he53).2) rfl <| Sc (lo [158, 164, 168] [] rfl fun S hs hr => Z4i hx54 rfl rfl (vh hs 158 rfl rfl) (vh hs 164 rfl rfl) (vh hs 168 rfl rfl)) rfl <| Sc (lo [169] [] rfl fun S hs hr => Zi rfl rfl (vh hs 169 rfl rfl) (vk rfl)) rfl <| Sc (lo [170] [] rfl fun S hs hr => Z0x rfl rfl (vh hs 170 rfl rfl)) rfl <| Cn rfl (fun hc => ?_) (fun hc => ?_)
      ·have h := Zj hc h
       refine Rg <| Md rfl <| Ac (Z0e rfl rfl (vt rfl) (vk rfl)) rfl <| As rfl <| Nl ?_
       subst hgo6
       exact ⟨(m50, (IntKind.i64.wrap ((IntKind.i64.wrap (q51.toNat : Int)) + 1)), r49), Nat.lt_succ_self _, ⟨trivial, h⟩, ⟨rfl, ⟨rfl, rfl, rfl, rfl, rfl, rfl, rfl, rfl, rfl, rfl, trivial⟩, ⟨rfl, trivial⟩⟩⟩
      ·have h := Zk hc h
       refine Rg <| Md rfl <| As rfl <| Nl ?_
       subst hgo6
       exact ⟨(m50, start48, (IntKind.i64.wrap (q51.toNat : Int))), Nat.lt_succ_self _, ⟨trivial, h⟩, ⟨rfl, ⟨rfl, rfl, rfl, rfl, rfl, rfl, rfl, rfl, rfl, rfl, trivial⟩, ⟨rfl, trivial⟩⟩⟩
     ·have h := Zk hc h
      refine AW.exit <| SR <| Md rfl <| Md rfl <| Ac (Z0m rfl rfl (vt rfl) (vt rfl)) rfl <| As rfl <| Nl ?_
      refine AW.join (d := []) (ν := (List Int)) (fun n => Zhw a3 start48 q43 R_slices_symMergeCmpFunc_int cmp6 m4 b5 n = some r) (fun n => [(0, Za v2), (1, rd (Z0 .i64) a3), (3, rd (Z0 .i64) b5), (4, Zl Tryz.prog (Z0 .i64) (Z0 .i64) (Z0 .i64) cmp6), (18, rd (Z0 .i64) (IntKind.i64.wrap (q43.toNat : Int))), (20, rd (Z0 .i64) start48), (24, rd (Z0 .i64) (IntKind.i64.wrap ((IntKind.i64.wrap ((IntKind.i64.wrap (q43.toNat : Int)) + m4)) - start48)))]) (fun n => [(0, Z9 v2 3 (Z0 .i64) n)]) ?hx7 ?hy7
      case hy7 =>
       intro l55 h
       unfold Zhw at h
       change AW _ _ _ ⟨Zw [(0, Za v2), (1, rd (Z0 .i64) a3), (3, rd (Z0 .i64) b5), (4, Zl Tryz.prog (Z0 .i64) (Z0 .i64) (Z0 .i64) cmp6), (18, rd (Z0 .i64) (IntKind.i64.wrap (q43.toNat : Int))), (20, rd (Z0 .i64) start48), (24, rd (Z0 .i64) (IntKind.i64.wrap ((IntKind.i64.wrap ((IntKind.i64.wrap (q43.toNat : Int)) + m4)) - start48)))], Zx [(0, Z9 v2 3 (Z0 .i64) l55)], _⟩
       refine AW.join (d := []) (ν := (List Int)) (fun n => Zin q43 m4 start48 b5 R_slices_symMergeCmpFunc_int cmp6 n = some r) (fun n => [(0, Za v2), (3, rd (Z0 .i64) b5), (4, Zl Tryz.prog (Z0 .i64) (Z0 .i64) (Z0 .i64) cmp6), (18, rd (Z0 .i64) (IntKind.i64.wrap (q43.toNat : Int))), (24, rd (Z0 .i64) (IntKind.i64.wrap ((IntKind.i64.wrap ((IntKind.i64.wrap (q43.toNat : Int)) + m4)) - start48)))]) (fun n => [(0, Z9 v2 3 (Z0 .i64) n)]) ?hx8 ?hy8
       case hy8 =>
        intro l56 h
        unfold Zin at h
        change AW _ _ _ ⟨Zw [(0, Za v2), (3, rd (Z0 .i64) b5), (4, Zl Tryz.prog (Z0 .i64) (Z0 .i64) (Z0 .i64) cmp6), (18, rd (Z0 .i64) (IntKind.i64.wrap (q43.toNat : Int))), (24, rd (Z0 .i64) (IntKind.i64.wrap ((IntKind.i64.wrap ((IntKind.i64.wrap (q43.toNat : Int)) + m4)) - start48)))], Zx [(0, Z9 v2 3 (Z0 .i64) l56)], _⟩
        refine SR <| Md rfl <| Md rfl <| Ac (Zi rfl rfl (vt rfl) (vt rfl)) rfl <| Md rfl <| Gd rfl (fun hq => Zq (A := rd (Z0 .i64) (IntKind.i64.wrap ((IntKind.i64.wrap ((IntKind.i64.wrap (q43.toNat : Int)) + m4)) - start48))) rfl rfl (vt rfl)) <| Gd rfl (fun hq => Zq (A := rd (Z0 .i64) b5) rfl rfl (vt rfl)) <| Gd rfl (fun hq => Zi rfl rfl (Zm rfl hq) (Zm rfl hq)) <| Ac (Z16 rfl rfl (vt rfl) (vt rfl)) rfl <| Nl <| Cn rfl (fun hc => ?_) (fun hc => ?_)
        ·have h := Zj hc h
         obtain ⟨l57, hl57, h⟩ := Z1 h
         refine Rg <| Mw rfl <| Md rfl <| Md rfl <| Md rfl <| Ac (Zq (A := Zl Tryz.prog (Z0 .i64) (Z0 .i64) (Z0 .i64) cmp6) rfl rfl (vt rfl)) rfl <| Ct rfl (Z12 0 (xs := [.tmp 214, .tmp 215, .tmp 216, .tmp 217, .tmp 218]) (hR_slices_symMergeCmpFunc_int _ _ _ _ _ _ _ hl57) Zhx rfl rfl ⟨vt rfl, vt rfl, vt rfl, vt rfl, vt rfl, trivial⟩ rfl) ?_
         rintro _ ⟨_u, rfl⟩
         refine Nl ?_
         obtain rfl := si h
         exact Z1t (i := 0) Tryz.results302 rfl rfl
        ·have h := Zk hc h
         refine AW.skip ?_
         obtain rfl := si h
         exact Z1t (i := 0) Tryz.results302 rfl rfl
       case hx8 =>
        refine SR <| Md rfl <| Md rfl <| Ac (Zi rfl rfl (vt rfl) (vt rfl)) rfl <| Md rfl <| Gd rfl (fun hq => Zq (A := rd (Z0 .i64) start48) rfl rfl (vt rfl)) <| Gd rfl (fun hq => Zq (A := rd (Z0 .i64) (IntKind.i64.wrap (q43.toNat : Int))) rfl rfl (vt rfl)) <| Gd rfl (fun hq => Zi rfl rfl (Zm rfl hq) (Zm rfl hq)) <| Ac (Z16 rfl rfl (vt rfl) (vt rfl)) rfl <| Nl <| Cn rfl (fun hc => ?_) (fun hc => ?_)
        ·have h := Zj hc h
         obtain ⟨l58, hl58, h⟩ := Z1 h
         refine Rg <| Mw rfl <| Md rfl <| Md rfl <| Md rfl <| Ac (Zq (A := Zl Tryz.prog (Z0 .i64) (Z0 .i64) (Z0 .i64) cmp6) rfl rfl (vt rfl)) rfl <| Ct rfl (Z12 0 (xs := [.tmp 200, .tmp 201, .tmp 202, .tmp 203, .tmp 204]) (hR_slices_symMergeCmpFunc_int _ _ _ _ _ _ _ hl58) Zhx rfl rfl ⟨vt rfl, vt rfl, vt rfl, vt rfl, vt rfl, trivial⟩ rfl) ?_
         rintro _ ⟨_u, rfl⟩
         refine Nl ?_
         exact ⟨l58, h, ⟨rfl, ⟨rfl, rfl, rfl, rfl, rfl, trivial⟩, ⟨rfl, trivial⟩⟩⟩
        ·have h := Zk hc h
         refine AW.skip ?_
         exact ⟨l55, h, ⟨rfl, ⟨rfl, rfl, rfl, rfl, rfl, trivial⟩, ⟨rfl, trivial⟩⟩⟩
      case hx7 =>
       refine SR <| Md rfl <| Md rfl <| Ac (Zi rfl rfl (vt rfl) (vt rfl)) rfl <| Md rfl <| Gd rfl (fun hq => Zq (A := rd (Z0 .i64) m4) rfl rfl (vt rfl)) <| Gd rfl (fun hq => Zq (A := rd (Z0 .i64) (IntKind.i64.wrap ((IntKind.i64.wrap ((IntKind.i64.wrap (q43.toNat : Int)) + m4)) - start48))) rfl rfl (vt rfl)) <| Gd rfl (fun hq => Zi rfl rfl (Zm rfl hq) (Zm rfl hq)) <| Ac (Z16 rfl rfl (vt rfl) (vt rfl)) rfl <| Nl <| Cn rfl (fun hc => ?_) (fun hc => ?_)
       ·have h := Zj hc h
        obtain ⟨l59, hl59, h⟩ := Z1 h
        refine Rg <| Mw rfl <| Md rfl <| Md rfl <| Md rfl <| Ac (Zq (A := Zl Tryz.prog (Z0 .i64) (Z0 .i64) (Z0 .i64) cmp6) rfl rfl (vt rfl)) rfl <| Ct rfl (Z12 0 (xs := [.tmp 186, .tmp 187, .tmp 188, .tmp 189, .tmp 190]) (Zyg _ _ _ _ _ _ _ hl59) Zz0 rfl rfl ⟨vt rfl, vt rfl, vt rfl, vt rfl, vt rfl, trivial⟩ rfl) ?_
        rintro _ ⟨_u, rfl⟩
        refine Nl ?_
        exact ⟨l59, h, ⟨rfl, ⟨rfl, rfl, rfl, rfl, rfl, rfl, rfl, trivial⟩, ⟨rfl, trivial⟩⟩⟩
       ·have h := Zk hc h
        refine AW.skip ?_
        exact ⟨data1, h, ⟨rfl, ⟨rfl, rfl, rfl, rfl, rfl, rfl, rfl, trivial⟩, ⟨rfl, trivial⟩⟩⟩
   case hx5 =>
    refine SR <| Md rfl <| Md rfl <| Ac (Z4f rfl rfl (vt rfl) (vt rfl)) rfl <| Nl <| Cn rfl (fun hc => ?_) (fun hc => ?_)
    ·have h := Zj hc h
     refine SR <| Md rfl <| Md rfl <| Ac (Z0m rfl rfl (vt rfl) (vt rfl)) rfl <| As rfl <| Nl <| Rg <| Md rfl <| As rfl <| Nl ?_
     exact ⟨((IntKind.i64.wrap ((IntKind.i64.wrap ((IntKind.i64.wrap (q43.toNat : Int)) + m4)) - b5)), (IntKind.i64.wrap (q43.toNat : Int))), h, ⟨rfl, ⟨rfl, rfl, rfl, rfl, rfl, rfl, rfl, rfl, rfl, trivial⟩, ⟨rfl, trivial⟩⟩⟩
    ·have h := Zk hc h
     refine SR <| Md rfl <| As rfl <| Nl <| Rg <| Md rfl <| As rfl <| Nl ?_
     exact ⟨(a3, m4), h, ⟨rfl, ⟨rfl, rfl, rfl, rfl, rfl, rfl, rfl, rfl, rfl, trivial⟩, ⟨rfl, trivial⟩⟩⟩
def Zio : Nat → ((List Int) → Int → Int → Int → (Int → Int → Option Int) → Option (List Int))
 | 0 => (fun _ _ _ _ _ => none)
 | n + 1 => (Zlo (Zio n))
theorem Ztp : ∀ n : Nat, (∀ (v2 : Value) (data1 : (List Int)) (a3 : Int) (m4 : Int) (b5 : Int) (cmp6 : (Int → Int → Option Int)) (r : (List Int)), (Zio n) data1 a3 m4 b5 cmp6 = some r → Con Tryz.prog 302 [Za v2, rd (Z0 .i64) a3, rd (Z0 .i64) m4, rd (Z0 .i64) b5, Zl Tryz.prog (Z0 .i64) (Z0 .i64) (Z0 .i64) cmp6] (Z9 v2 3 (Z0 .i64) data1) (fun _ : Unit => top) (fun _ => Z9 v2 3 (Z0 .i64) r))
 | 0 => (by intros; rename_i h; cases h)
 | n + 1 => by
  have ih := Ztp n
  exact (Y8h (Zio n) ih)
def Znd (data1 : (List Int)) (a3 : Int) (m4 : Int) (b5 : Int) (cmp6 : (Int → Int → Option Int)) : Option (List Int) := (Zio Z18) data1 a3 m4 b5 cmp6
theorem Zod : ∀ (v2 : Value) (data1 : (List Int)) (a3 : Int) (m4 : Int) (b5 : Int) (cmp6 : (Int → Int → Option Int)) (r : (List Int)), Znd data1 a3 m4 b5 cmp6 = some r → Con Tryz.prog 302 [Za v2, rd (Z0 .i64) a3, rd (Z0 .i64) m4, rd (Z0 .i64) b5, Zl Tryz.prog (Z0 .i64) (Z0 .i64) (Z0 .i64) cmp6] (Z9 v2 3 (Z0 .i64) data1) (fun _ : Unit => top) (fun _ => Z9 v2 3 (Z0 .i64) r) := Ztp Z18
def Zbw (n3 : Int) (blockSize17 : Int) (cmp4 : (Int → Int → Option Int)) (go2 : (List Int) → Int → Option (List Int)) : Nat → (List Int) → Int → Int → Option (List Int)
 | 0, _, _, _ => none
 | m25 + 1, l22, a23, b24 => (bif (decide (b24 ≤ n3)) then (Znd l22 a23 (IntKind.i64.wrap (a23 + blockSize17)) b24 cmp4).bind fun l26 => (Zbw n3 blockSize17 cmp4 go2 m25) l26 b24 (IntKind.i64.wrap (b24 + (IntKind.i64.wrap (2 * blockSize17)))) else (bif (decide ((IntKind.i64.wrap (a23 + blockSize17)) < n3)) then (Znd l22 a23 (IntKind.i64.wrap (a23 + blockSize17)) n3 cmp4).bind fun l27 => go2 l27 (IntKind.i64.wrap (blockSize17 * 2)) else go2 l22 (IntKind.i64.wrap (blockSize17 * 2))))
def Z9o (n3 : Int) (cmp4 : (Int → Int → Option Int)) : Nat → (List Int) → Int → Option (List Int)
 | 0, _, _ => none
 | m18 + 1, l16, blockSize17 => (bif (decide (blockSize17 < n3)) then Zbw n3 blockSize17 cmp4 (Z9o n3 cmp4 m18) (((n3 : Int) - (IntKind.i64.wrap (2 * blockSize17))).toNat + 2) l16 0 (IntKind.i64.wrap (2 * blockSize17)) else some l16)
def Zat (n3 : Int) (cmp4 : (Int → Int → Option Int)) : Nat → (List Int) → Int → Int → Option (List Int)
 | 0, _, _, _ => none
 | m11 + 1, l8, a9, b10 => (bif (decide (b10 ≤ n3)) then (Zcp l8 a9 b10 cmp4).bind fun l12 => (Zat n3 cmp4 m11) l12 b10 (IntKind.i64.wrap (b10 + 20)) else (Zcp l8 a9 n3 cmp4).bind fun l13 => Z9o n3 cmp4 (((n3 : Int) - 20).toNat + 1) l13 20)
def Zje (data1 : (List Int)) (n3 : Int) (cmp4 : (Int → Int → Option Int)) : Option (List Int) :=
 Zat n3 cmp4 (((n3 : Int) - 20).toNat + 2) data1 0 20
theorem Y7a (v2 : Value) (data1 : (List Int)) (n3 : Int) (cmp4 : (Int → Int → Option Int)) (r : (List Int)) (h : Zje data1 n3 cmp4 = some r) : Con Tryz.prog 258 [Za v2, rd (Z0 .i64) n3, Zl Tryz.prog (Z0 .i64) (Z0 .i64) (Z0 .i64) cmp4] (Z9 v2 3 (Z0 .i64) data1) (fun _ : Unit => top) (fun _ => Z9 v2 3 (Z0 .i64) r) := by
 refine Con.intro Tryz.func258 rfl Tryz.ntmps258 rfl fun w H X => ?_
 unfold Zje at h
 refine SR <| Ak rfl <| Nl <| SR <| Md rfl <| Ak rfl <| As rfl <| Nl <| AW.seq <| AW.block <| AW.loopG (d := []) (ν := Nat × (List Int) × Int × Int) (fun n => True ∧ Zat n3 cmp4 n.1 n.2.1 n.2.2.1 n.2.2.2 = some r) (fun n => n.1) (fun n => [(0, Za v2), (1, rd (Z0 .i64) n3), (2, Zl Tryz.prog (Z0 .i64) (Z0 .i64) (Z0 .i64) cmp4), (6, rd (Z0 .i64) 20), (7, rd (Z0 .i64) n.2.2.1), (8, rd (Z0 .i64) n.2.2.2)]) (fun n => [(0, Z9 v2 3 (Z0 .i64) n.2.1)]) ((((n3 : Int) - 20).toNat + 2), data1, 0, 20) ⟨trivial, h⟩ ⟨rfl, ⟨rfl, rfl, rfl, rfl, rfl, rfl, trivial⟩, ⟨rfl, trivial⟩⟩ ?_
 rintro ⟨m11, l8, a9, b10⟩ ⟨hsf1, h⟩
 change True at hsf1
 change Zat n3 cmp4 m11 l8 a9 b10 = some r at h
 change AW _ _ _ ⟨Zw [(0, Za v2), (1, rd (Z0 .i64) n3), (2, Zl Tryz.prog (Z0 .i64) (Z0 .i64) (Z0 .i64) cmp4), (6, rd (Z0 .i64) 20), (7, rd (Z0 .i64) a9), (8, rd (Z0 .i64) b10)], Zx [(0, Z9 v2 3 (Z0 .i64) l8)], _⟩
 cases m11 with
 | zero => cases h
 | succ m11 =>
  unfold Zat at h
  generalize hgo1 : Zat n3 cmp4 m11 = go1 at h
  refine AW.seq <| SR <| Md rfl <| Md rfl <| Ac (Z5y rfl rfl (vt rfl) (vt rfl)) rfl <| Nl <| Cn rfl (fun hc => ?_) (fun hc => ?_)
  ·have h := Zj hc h
   refine AW.skip <| AW.block <| AW.seq ?_
   obtain ⟨l12, hl12, h⟩ := Z1 h
   refine Rg <| Mw rfl <| Md rfl <| Md rfl <| Ac (Zq (A := Zl Tryz.prog (Z0 .i64) (Z0 .i64) (Z0 .i64) cmp4) rfl rfl (vt rfl)) rfl <| Ct rfl (Z12 0 (xs := [.tmp 14, .tmp 15, .tmp 16, .tmp 17]) (Zqv _ _ _ _ _ _ hl12) Znw rfl rfl ⟨vt rfl, vt rfl, vt rfl, vt rfl, trivial⟩ rfl) ?_
   rintro _ ⟨_u, rfl⟩
   refine Nl <| SR <| Md rfl <| As rfl <| Nl <| Rg <| Md rfl <| Md rfl <| Ac (Z0e rfl rfl (vt rfl) (vt rfl)) rfl <| As rfl <| Nl ?_
   subst hgo1
   exact ⟨(m11, l12, b10, (IntKind.i64.wrap (b10 + 20))), Nat.lt_succ_self _, ⟨trivial, h⟩, ⟨rfl, ⟨rfl, rfl, rfl, rfl, rfl, rfl, trivial⟩, ⟨rfl, trivial⟩⟩⟩
  ·have h := Zk hc h
   refine AW.exit <| AW.seq ?_
   obtain ⟨l13, hl13, h⟩ := Z1 h
   refine Rg <| Mw rfl <| Md rfl <| Md rfl <| Ac (Zq (A := Zl Tryz.prog (Z0 .i64) (Z0 .i64) (Z0 .i64) cmp4) rfl rfl (vt rfl)) rfl <| Ct rfl (Z12 0 (xs := [.tmp 23, .tmp 24, .tmp 25, .tmp 26]) (Zqv _ _ _ _ _ _ hl13) Znw rfl rfl ⟨vt rfl, vt rfl, vt rfl, vt rfl, trivial⟩ rfl) ?_
   rintro _ ⟨_u, rfl⟩
   refine Nl <| AW.block <| AW.loopG (d := []) (ν := Nat × (List Int) × Int) (fun n => True ∧ Z9o n3 cmp4 n.1 n.2.1 n.2.2 = some r) (fun n => n.1) (fun n => [(0, Za v2), (1, rd (Z0 .i64) n3), (2, Zl Tryz.prog (Z0 .i64) (Z0 .i64) (Z0 .i64) cmp4), (6, rd (Z0 .i64) n.2.2)]) (fun n => [(0, Z9 v2 3 (Z0 .i64) n.2.1)]) ((((n3 : Int) - 20).toNat + 1), l13, 20) ⟨trivial, h⟩ ⟨rfl, ⟨rfl, rfl, rfl, rfl, trivial⟩, ⟨rfl, trivial⟩⟩ ?_
   rintro ⟨m18, l16, blockSize17⟩ ⟨hsf2, h⟩
   change True at hsf2
   change Z9o n3 cmp4 m18 l16 blockSize17 = some r at h
   change AW _ _ _ ⟨Zw [(0, Za v2), (1, rd (Z0 .i64) n3), (2, Zl Tryz.prog (Z0 .i64) (Z0 .i64) (Z0 .i64) cmp4), (6, rd (Z0 .i64) blockSize17)], Zx [(0, Z9 v2 3 (Z0 .i64) l16)], _⟩
   cases m18 with
   | zero => cases h
   | succ m18 =>
    unfold Z9o at h
    generalize hgo2 : Z9o n3 cmp4 m18 = go2 at h
    refine AW.seq <| SR <| Md rfl <| Md rfl <| Ac (Zi rfl rfl (vt rfl) (vt rfl)) rfl <| Nl <| Cn rfl (fun hc => ?_) (fun hc => ?_)
    ·have h := Zj hc h
     refine AW.skip <| AW.block <| SR <| Md rfl <| Ac (Z6d rfl rfl (vk rfl) (vt rfl)) rfl <| Ak rfl <| As rfl <| Nl <| AW.seq <| AW.block <| AW.loopG (d := []) (ν := Nat × (List Int) × Int × Int) (fun n => True ∧ Zbw n3 blockSize17 cmp4 go2 n.1 n.2.1 n.2.2.1 n.2.2.2 = some r) (fun n => n.1) (fun n => [(0, Za v2), (1, rd (Z0 .i64) n3), (2, Zl Tryz.prog (Z0 .i64) (Z0 .i64) (Z0 .i64) cmp4), (6, rd (Z0 .i64) blockSize17), (7, rd (Z0 .i64) n.2.2.1), (8, rd (Z0 .i64) n.2.2.2)]) (fun n => [(0, Z9 v2 3 (Z0 .i64) n.2.1)]) ((((n3 : Int) - (IntKind.i64.wrap (2 * blockSize17))).toNat + 2), l16, 0, (IntKind.i64.wrap (2 * blockSize17))) ⟨trivial, h⟩ ⟨rfl, ⟨rfl, rfl, rfl, rfl, rfl, rfl, trivial⟩, ⟨rfl, trivial⟩⟩ ?_
     rintro ⟨m25, l22, a23, b24⟩ ⟨hsf3, h⟩
     change True at hsf3
     change Zbw n3 blockSize17 cmp4 go2 m25 l22 a23 b24 = some r at h
     change AW _ _ _ ⟨Zw [(0, Za v2), (1, rd (Z0 .i64) n3), (2, Zl Tryz.prog (Z0 .i64) (Z0 .i64) (Z0 .i64) cmp4), (6, rd (Z0 .i64) blockSize17), (7, rd (Z0 .i64) a23), (8, rd (Z0 .i64) b24)], Zx [(0, Z9 v2 3 (Z0 .i64) l22)], _⟩
     cases m25 with
     | zero => cases h
     | succ m25 =>
      unfold Zbw at h
      generalize hgo3 : Zbw n3 blockSize17 cmp4 go2 m25 = go3 at h
      refine AW.seq <| SR <| Md rfl <| Md rfl <| Ac (Z5y rfl rfl (vt rfl) (vt rfl)) rfl <| Nl <| Cn rfl (fun hc => ?_) (fun hc => ?_)
      ·have h := Zj hc h
       refine AW.skip <| AW.block <| AW.seq ?_
       obtain ⟨l26, hl26, h⟩ := Z1 h
       refine Rg <| Mw rfl <| Md rfl <| Md rfl <| Md rfl <| Ac (Z0e rfl rfl (vt rfl) (vt rfl)) rfl <| Md rfl <| Ac (Zq (A := Zl Tryz.prog (Z0 .i64) (Z0 .i64) (Z0 .i64) cmp4) rfl rfl (vt rfl)) rfl <| Ct rfl (Z12 0 (xs := [.tmp 36, .tmp 37, .tmp 40, .tmp 41, .tmp 42]) (Zod _ _ _ _ _ _ _ hl26) Zhx rfl rfl ⟨vt rfl, vt rfl, vt rfl, vt rfl, vt rfl, trivial⟩ rfl) ?_
       rintro _ ⟨_u, rfl⟩
       refine Nl <| SR <| Md rfl <| As rfl <| Nl <| Rg <| Md rfl <| Md rfl <| Ac (Z6d rfl rfl (vk rfl) (vt rfl)) rfl <| Ac (Z0e rfl rfl (vt rfl) (vt rfl)) rfl <| As rfl <| Nl ?_
       subst hgo3
       exact ⟨(m25, l26, b24, (IntKind.i64.wrap (b24 + (IntKind.i64.wrap (2 * blockSize17))))), Nat.lt_succ_self _, ⟨trivial, h⟩, ⟨rfl, ⟨rfl, rfl, rfl, rfl, rfl, rfl, trivial⟩, ⟨rfl, trivial⟩⟩⟩
      ·have h := Zk hc h
       refine AW.exit <| AW.seq <| SR <| Md rfl <| Md rfl <| Ac (Z0e rfl rfl (vt rfl) (vt rfl)) rfl <| As rfl <| Nl <| SR <| Md rfl <| Md rfl <| Ac (Zi rfl rfl (vt rfl) (vt rfl)) rfl <| Nl <| Cn rfl (fun hc => ?_) (fun hc => ?_)
       ·have h := Zj hc h
        obtain ⟨l27, hl27, h⟩ := Z1 h
        refine Rg <| Mw rfl <| Md rfl <| Md rfl <| Md rfl <| Ac (Zq (A := Zl Tryz.prog (Z0 .i64) (Z0 .i64) (Z0 .i64) cmp4) rfl rfl (vt rfl)) rfl <| Ct rfl (Z12 0 (xs := [.tmp 55, .tmp 56, .tmp 57, .tmp 58, .tmp 59]) (Zod _ _ _ _ _ _ _ hl27) Zhx rfl rfl ⟨vt rfl, vt rfl, vt rfl, vt rfl, vt rfl, trivial⟩ rfl) ?_
        rintro _ ⟨_u, rfl⟩
        refine Nl <| Rg <| Md rfl <| Ac (Z6d rfl rfl (vt rfl) (vk rfl)) rfl <| As rfl <| Nl ?_
        subst hgo2
        exact ⟨(m18, l27, (IntKind.i64.wrap (blockSize17 * 2))), Nat.lt_succ_self _, ⟨trivial, h⟩, ⟨rfl, ⟨rfl, rfl, rfl, rfl, trivial⟩, ⟨rfl, trivial⟩⟩⟩
       ·have h := Zk hc h
        refine AW.skip <| Rg <| Md rfl <| Ac (Z6d rfl rfl (vt rfl) (vk rfl)) rfl <| As rfl <| Nl ?_
        subst hgo2
        exact ⟨(m18, l22, (IntKind.i64.wrap (blockSize17 * 2))), Nat.lt_succ_self _, ⟨trivial, h⟩, ⟨rfl, ⟨rfl, rfl, rfl, rfl, trivial⟩, ⟨rfl, trivial⟩⟩⟩
    ·have h := Zk hc h
     refine AW.exit ?_
     obtain rfl := si h
     exact Z1t (i := 0) Tryz.results258 rfl rfl
def Ze0 (x1 : (List Int)) (cmp3 : (Int → Int → Option Int)) : Option (List Int) :=
 (Zje x1 (x1.length : Int) cmp3).bind fun l4 => some l4
theorem Y7y (v2 : Value) (x1 : (List Int)) (cmp3 : (Int → Int → Option Int)) (r : (List Int)) (h : Ze0 x1 cmp3 = some r) : Con Tryz.prog 200 [Za v2, Zl Tryz.prog (Z0 .i64) (Z0 .i64) (Z0 .i64) cmp3] (Z9 v2 3 (Z0 .i64) x1) (fun _ : Unit => top) (fun _ => Z9 v2 3 (Z0 .i64) r) := by
 refine Con.intro Tryz.func200 rfl Tryz.ntmps200 rfl fun w H X => ?_
 unfold Ze0 at h
 obtain ⟨l4, hl4, h⟩ := Z1 h
 refine Rg <| Mw rfl <| Mw rfl <| Ac (Zae 0 rfl rfl Z14 (vt rfl) rfl) rfl <| Ac (Zq (A := Zl Tryz.prog (Z0 .i64) (Z0 .i64) (Z0 .i64) cmp3) rfl rfl (vt rfl)) rfl <| Ct rfl (Z12 0 (xs := [.tmp 4, .tmp 6, .tmp 7]) (Y7a _ _ _ _ _ hl4) Zwx rfl rfl ⟨vt rfl, vt rfl, vt rfl, trivial⟩ rfl) ?_
 rintro _ ⟨_u, rfl⟩
 refine Nl ?_
 obtain rfl := si h
 exact Z1t (i := 0) Tryz.results200 rfl rfl
end Go.Proofs.YtknpgojdkobgjaaGreat.W
set_option maxRecDepth 4000
namespace Go.Proofs.YtknpgojdkobgjaaGreat.W
open Go Go.Wb
theorem Zwm : Ent Tryz.prog 201 := Ent.mk Tryz.func201 rfl rfl
theorem Y8a : Ent Tryz.prog 200 := Ent.mk Tryz.func200 rfl rfl
theorem Ziq : Ent Tryz.prog 269 := Ent.mk Tryz.func269 rfl rfl
theorem Zzv : Ent Tryz.prog 344 := Ent.mk Tryz.func344 rfl rfl
theorem Zzj : Ent Tryz.prog 336 := Ent.mk Tryz.func336 rfl rfl
theorem Zr5 : Ent Tryz.prog 299 := Ent.mk Tryz.func299 rfl rfl
theorem Y8j : Ent Tryz.prog 312 := Ent.mk Tryz.func312 rfl rfl
theorem Zlt : Ent Tryz.prog 254 := Ent.mk Tryz.func254 rfl rfl
theorem e73 : Ent Tryz.prog 73 := Ent.mk Tryz.func73 rfl rfl
theorem Zt4 : Ent Tryz.prog 275 := Ent.mk Tryz.func275 rfl rfl
def Z6j (t1 : (List Flow)) : Nat → Nat → (List Int) → Option (List Int)
 | 0, i9, l7 => (Ze0 l7 (fun x z => Zb7 x z t1)).bind fun l11 => some l11
 | m10 + 1, i9, l7 => (Z1o l7 [(i9 : Int)]).bind fun l12 => (Z6j t1 m10) (i9 + 1) l12
def Zew (t1 : (List Flow)) : Option (List Int) :=
 (omk (t1.length : Int)).bind fun u3 => Z6j t1 ((t1.length : Int) : Int).toNat 0 []
theorem Y2t (t1 : (List Flow)) (r : (List Int)) (h : Zew t1 = some r) : PCon Tryz.prog 135 [rd (Z2 Z0o) t1] (rd (Z2 (Z0 .i64)) r) := by
 refine PCon.of (Con.intro0 Tryz.func135 rfl Tryz.ntmps135 rfl fun w H => ?_)
 unfold Zew at h
 refine SR <| Ct rfl (Zs 2 rfl rfl (vt rfl)) ?_
 rintro _ ⟨g2, rfl⟩
 refine Ac (Z0j (A := rd (Z2 (Z0 .i64)) []) rfl rfl Z3h) rfl <| Nl <| AW.seq ?_
 obtain ⟨u3, hu3, h⟩ := Z1 h
 refine Rg <| Ld Z54 2 rfl <| Ac (Z0k rfl rfl Z47 (vt rfl)) rfl <| Ct rfl (Y6g 1001 hu3 rfl rfl Zju zr3 (vt rfl)) ?_
 rintro _ ⟨v4, rfl⟩
 refine Aw rfl <| Nl <| AW.seq <| SR <| Ld Z54 2 rfl <| Ac (Z0k rfl rfl Z47 (vt rfl)) rfl <| Mk rfl <| Nl <| AW.block <| AW.loopG (d := []) (ν := Nat × Nat × (List Int) × Value) (fun n => Cnt (t1.length : Int) n.2.1 n.1 ∧ Z6j t1 n.1 n.2.1 n.2.2.1 = some r) (fun n => n.1) (fun n => [(1, Zb g2 (Lens.id (Z2 Z0o))), (3, Za n.2.2.2), (9, rd (Z0 .i64) (t1.length : Int)), (10, rd (Z0 .i64) (n.2.1 : Int))]) (fun n => [(2, Zd g2 22 (Z2 Z0o) t1), (1001, Z9 n.2.2.2 3 (Z0 .i64) n.2.2.1)]) (((t1.length : Int) : Int).toNat, 0, [], v4) ⟨Cnt.start _, h⟩ ⟨rfl, ⟨rfl, rfl, rfl, rfl, trivial⟩, ⟨rfl, rfl, trivial⟩⟩ ?_
 rintro ⟨m10, i9, l7, v8⟩ ⟨hsf1, h⟩
 change Cnt (t1.length : Int) i9 m10 at hsf1
 change Z6j t1 m10 i9 l7 = some r at h
 change AW _ _ _ ⟨Zw [(1, Zb g2 (Lens.id (Z2 Z0o))), (3, Za v8), (9, rd (Z0 .i64) (t1.length : Int)), (10, rd (Z0 .i64) (i9 : Int))], Zx [(2, Zd g2 22 (Z2 Z0o) t1), (1001, Z9 v8 3 (Z0 .i64) l7)], _⟩
 cases m10 with
 | zero =>
  unfold Z6j at h
  refine SR <| Ac (Zi rfl rfl (vt rfl) (vt rfl)) rfl <| Nl <| AW.seq <| Cn rfl (fun hc => absurd (of_decide_eq_true hc) hsf1.zero) (fun hc => ?_)
  refine AW.exit <| AW.seq <| AW.freezeB 1 2 rfl rfl rfl ?_
  obtain ⟨l11, hl11, h⟩ := Z1 h
  refine Rg <| Mw rfl <| Ac (Y4q (cs := [.tmp 1]) (CAs := [rp (Z2 Z0o) t1]) (fun x z => Zb7 x z t1) rfl rfl Zwm ⟨vt rfl, trivial⟩ (fun x z y h => Y55 _ _ _ y h)) rfl <| Ct rfl (Z12 1001 (xs := [.tmp 18, .tmp 19]) (Y7y _ _ _ _ hl11) Y8a rfl rfl ⟨vt rfl, vt rfl, trivial⟩ rfl) ?_
  rintro _ ⟨_u, rfl⟩
  refine Nl <| SR <| Mw rfl <| Aw rfl <| Nl <| AW.freezes [2, 3, 18, 21] 1001 rfl ⟨rfl, rfl, rfl, rfl, trivial⟩ rfl <| AW.ret ?_
  obtain rfl := si h
  exact Zg Tryz.results135 rfl (Zf rfl)
 | succ m10 =>
  unfold Z6j at h
  generalize hgo1 : Z6j t1 m10 = go1 at h
  refine SR <| Ac (Zi rfl rfl (vt rfl) (vt rfl)) rfl <| Nl <| AW.seq <| Cn rfl (fun hc => ?_) (fun hc => absurd hsf1.succ (of_decide_eq_false hc))
  have hlti9 := of_decide_eq_true hc
  refine AW.skip <| AW.seq <| AW.block <| SR <| Md rfl <| As rfl <| Nl ?_
  obtain ⟨l12, hl12, h⟩ := Z1 h
  refine Rg <| Mw rfl <| Md rfl <| Ac (Z3k (ps := [(0, .tmp 14)]) (l := [(i9 : Int)]) rfl rfl Z14 zr3 rfl rfl ⟨_, _, Lens.idx 1 (Z0 .i64) 0 (by decide), _, rfl, (vt rfl), rfl⟩ rfl) rfl <| Ct rfl (Z5t 1001 hl12 rfl rfl Zju (vt rfl) rfl (vt rfl)) ?_
  rintro _ ⟨v13, rfl⟩
  refine Aw rfl <| Nl <| Rg <| Ac (Z17 (t := 9) rfl rfl (vt rfl) (vk rfl) (vt rfl) hlti9) rfl <| Md rfl <| Nl ?_
  subst hgo1
  exact ⟨(m10, i9 + 1, l12, v13), Nat.lt_succ_self _, ⟨hsf1.next, h⟩, ⟨rfl, ⟨rfl, rfl, rfl, rfl, trivial⟩, ⟨rfl, rfl, trivial⟩⟩⟩
def Z6k (f1 : Int) : Option Bool :=
 some ((decide (f1 ≥ 0)) && (decide (f1 < 24)))
theorem Zgs (f1 : Int) (r : Bool) (h : Z6k f1 = some r) : PCon Tryz.prog 269 [rd (Z0 .i64) f1] (rd Z6 r) := by
 refine PCon.of (Con.intro0 Tryz.func269 rfl Tryz.ntmps269 rfl fun w H => ?_)
 unfold Z6k at h
 refine SR <| Ab rfl <| Nl <| SR <| Md rfl <| Ac (Z4n rfl rfl (vt rfl) (vk rfl)) rfl <| Md rfl <| Gd rfl (fun hq => Zq (A := rd (Z0 .i64) f1) rfl rfl (vt rfl)) <| Gd rfl (fun hq => Zi rfl rfl (Zm rfl hq) (vk rfl)) <| Ac (Z16 rfl rfl (vt rfl) (vt rfl)) rfl <| As rfl <| Nl <| AW.ret ?_
 obtain rfl := si h
 exact Zg Tryz.results269 rfl (Zf rfl)
def Zg0 : Option (Vector field_row 24) :=
 some (Vector.set (Vector.set (Vector.set (Vector.set (Vector.set (Vector.set (Vector.set (Vector.set (Vector.set (Vector.set (Vector.set (Vector.set (Vector.set (Vector.set (Vector.set (Vector.set (Vector.set (Vector.set (Vector.set (Vector.set (Vector.set (Vector.set (Vector.set (Vector.set (Vector.replicate 24 Zfu) 0 (⟨{ data := #[105, 110, 95, 112, 111, 114, 116] }, 0, 32, false⟩ : field_row) (by decide)) 1 (⟨{ data := #[109, 101, 116, 97, 100, 97, 116, 97] }, 2, 64, true⟩ : field_row) (by decide)) 2 (⟨{ data := #[101, 116, 104, 95, 100, 115, 116] }, 3, 48, true⟩ : field_row) (by decide)) 3 (⟨{ data := #[101, 116, 104, 95, 115, 114, 99] }, 4, 48, true⟩ : field_row) (by decide)) 4 (⟨{ data := #[101, 116, 104, 95, 116, 121, 112, 101] }, 5, 16, false⟩ : field_row) (by decide)) 5 (⟨{ data := #[118, 108, 97, 110, 95, 118, 105, 100] }, 6, 13, true⟩ : field_row) (by decide)) 6 (⟨{ data := #[118, 108, 97, 110, 95, 112, 99, 112] }, 7, 3, false⟩ : field_row) (by decide)) 7 (⟨{ data := #[105, 112, 95, 100, 115, 99, 112] }, 8, 6, false⟩ : field_row) (by decide)) 8 (⟨{ data := #[105, 112, 95, 101, 99, 110] }, 9, 2, false⟩ : field_row) (by decide)) 9 (⟨{ data := #[105, 112, 95, 112, 114, 111, 116, 111] }, 10, 8, false⟩ : field_row) (by decide)) 10 (⟨{ data := #[105, 112, 118, 52, 95, 115, 114, 99] }, 11, 32, true⟩ : field_row) (by decide)) 11 (⟨{ data := #[105, 112, 118, 52, 95, 100, 115, 116] }, 12, 32, true⟩ : field_row) (by decide)) 12 (⟨{ data := #[116, 99, 112, 95, 115, 114, 99] }, 13, 16, false⟩ : field_row) (by decide)) 13 (⟨{ data := #[116, 99, 112, 95, 100, 115, 116] }, 14, 16, false⟩ : field_row) (by decide)) 14 (⟨{ data := #[117, 100, 112, 95, 115, 114, 99] }, 15, 16, false⟩ : field_row) (by decide)) 15 (⟨{ data := #[117, 100, 112, 95, 100, 115, 116] }, 16, 16, false⟩ : field_row) (by decide)) 16 (⟨{ data := #[105, 99, 109, 112, 118, 52, 95, 116, 121, 112, 101] }, 19, 8, false⟩ : field_row) (by decide)) 17 (⟨{ data := #[105, 99, 109, 112, 118, 52, 95, 99, 111, 100, 101] }, 20, 8, false⟩ : field_row) (by decide)) 18 (⟨{ data := #[97, 114, 112, 95, 111, 112] }, 21, 16, false⟩ : field_row) (by decide)) 19 (⟨{ data := #[97, 114, 112, 95, 115, 112, 97] }, 22, 32, true⟩ : field_row) (by decide)) 20 (⟨{ data := #[97, 114, 112, 95, 116, 112, 97] }, 23, 32, true⟩ : field_row) (by decide)) 21 (⟨{ data := #[105, 112, 118, 54, 95, 115, 114, 99] }, 26, 128, true⟩ : field_row) (by decide)) 22 (⟨{ data := #[105, 112, 118, 54, 95, 100, 115, 116] }, 27, 128, true⟩ : field_row) (by decide)) 23 (⟨{ data := #[109, 112, 108, 115, 95, 108, 97, 98, 101, 108] }, 34, 20, false⟩ : field_row) (by decide))
theorem Y6u (r : (Vector field_row 24)) (h : Zg0 = some r) : PCon Tryz.prog 344 [] (rd (Z3 24 Z0y) r) := by
 refine PCon.of (Con.intro0 Tryz.func344 rfl Tryz.ntmps344 rfl fun w H => ?_)
 unfold Zg0 at h
 refine SR <| Ct rfl (Zo 1 rfl rfl Zrk) ?_
 rintro _ ⟨g1, rfl⟩
 refine Nl <| SR <| Ac (Z03 (ps := [(0, .const (Value.string { data := #[105, 110, 95, 112, 111, 114, 116] })), (1, .const (Value.int IntKind.i64 0)), (2, .const (Value.int IntKind.i64 32)), (3, .const (Value.bool false))]) (x := (⟨{ data := #[105, 110, 95, 112, 111, 114, 116] }, 0, 32, false⟩ : field_row)) rfl rfl rfl (by kernel_rfl) Z1s ⟨_, _, Z20, _, by kernel_rfl, (vs (by decide)), _, _, Z1u, _, by kernel_rfl, (vk rfl), _, _, Z1r, _, by kernel_rfl, (vk rfl), _, _, Z21, _, by kernel_rfl, vb, rfl⟩) rfl <| Ac (Z03 (ps := [(0, .const (Value.string { data := #[109, 101, 116, 97, 100, 97, 116, 97] })), (1, .const (Value.int IntKind.i64 2)), (2, .const (Value.int IntKind.i64 64)), (3, .const (Value.bool true))]) (x := (⟨{ data := #[109, 101, 116, 97, 100, 97, 116, 97] }, 2, 64, true⟩ : field_row)) rfl rfl rfl (by kernel_rfl) Z1s ⟨_, _, Z20, _, by kernel_rfl, (vs (by decide)), _, _, Z1u, _, by kernel_rfl, (vk rfl), _, _, Z1r, _, by kernel_rfl, (vk rfl), _, _, Z21, _, by kernel_rfl, vb, rfl⟩) rfl <| Ac (Z03 (ps := [(0, .const (Value.string { data := #[101, 116, 104, 95, 100, 115, 116] })), (1, .const (Value.int IntKind.i64 3)), (2, .const (Value.int IntKind.i64 48)), (3, .const (Value.bool true))]) (x := (⟨{ data := #[101, 116, 104, 95, 100, 115, 116] }, 3, 48, true⟩ : field_row)) rfl rfl rfl (by kernel_rfl) Z1s ⟨_, _, Z20, _, by kernel_rfl, (vs (by decide)), _, _, Z1u, _, by kernel_rfl, (vk rfl), _, _, Z1r, _, by kernel_rfl, (vk rfl), _, _, Z21, _, by kernel_rfl, vb, rfl⟩) rfl <| Ac (Z03 (ps := [(0, .const (Value.string { data := #[101, 116, 104, 95, 115, 114, 99] })), (1, .const (Value.int IntKind.i64 4)), (2, .const (Value.int IntKind.i64 48)), (3, .const (Value.bool true))]) (x := (⟨{ data := #[101, 116, 104, 95, 115, 114, 99] }, 4, 48, true⟩ : field_row)) rfl rfl rfl (by kernel_rfl) Z1s ⟨_, _, Z20, _, by kernel_rfl, (vs (by decide)), _, _, Z1u, _, by kernel_rfl, (vk rfl), _, _, Z1r, _, by kernel_rfl, (vk rfl), _, _, Z21, _, by kernel_rfl, vb, rfl⟩) rfl <| Ac (Z03 (ps := [(0, .const (Value.string { data := #[101, 116, 104, 95, 116, 121, 112, 101] })), (1, .const (Value.int IntKind.i64 5)), (2, .const (Value.int IntKind.i64 16)), (3, .const (Value.bool false))]) (x := (⟨{ data := #[101, 116, 104, 95, 116, 121, 112, 101] }, 5, 16, false⟩ : field_row)) rfl rfl rfl (by kernel_rfl) Z1s ⟨_, _, Z20, _, by kernel_rfl, (vs (by decide)), _, _, Z1u, _, by kernel_rfl, (vk rfl), _, _, Z1r, _, by kernel_rfl, (vk rfl), _, _, Z21, _, by kernel_rfl, vb, rfl⟩) rfl <| Ac (Z03 (ps := [(0, .const (Value.string { data := #[118, 108, 97, 110, 95, 118, 105, 100] })), (1, .const (Value.int IntKind.i64 6)), (2, .const (Value.int IntKind.i64 13)), (3, .const (Value.bool true))]) (x := (⟨{ data := #[118, 108, 97, 110, 95, 118, 105, 100] }, 6, 13, true⟩ : field_row)) rfl rfl rfl (by kernel_rfl) Z1s ⟨_, _, Z20, _, by kernel_rfl, (vs (by decide)), _, _, Z1u, _, by kernel_rfl, (vk rfl), _, _, Z1r, _, by kernel_rfl, (vk rfl), _, _, Z21, _, by kernel_rfl, vb, rfl⟩) rfl ?_
 refine Ac (Z03 (ps := [(0, .const (Value.string { data := #[118, 108, 97, 110, 95, 112, 99, 112] })), (1, .const (Value.int IntKind.i64 7)), (2, .const (Value.int IntKind.i64 3)), (3, .const (Value.bool false))]) (x := (⟨{ data := #[118, 108, 97, 110, 95, 112, 99, 112] }, 7, 3, false⟩ : field_row)) rfl rfl rfl (by kernel_rfl) Z1s ⟨_, _, Z20, _, by kernel_rfl, (vs (by decide)), _, _, Z1u, _, by kernel_rfl, (vk rfl), _, _, Z1r, _, by kernel_rfl, (vk rfl), _, _, Z21, _, by kernel_rfl, vb, rfl⟩) rfl <| Ac (Z03 (ps := [(0, .const (Value.string { data := #[105, 112, 95, 100, 115, 99, 112] })), (1, .const (Value.int IntKind.i64 8)), (2, .const (Value.int IntKind.i64 6)), (3, .const (Value.bool false))]) (x := (⟨{ data := #[105, 112, 95, 100, 115, 99, 112] }, 8, 6, false⟩ : field_row)) rfl rfl rfl (by kernel_rfl) Z1s ⟨_, _, Z20, _, by kernel_rfl, (vs (by decide)), _, _, Z1u, _, by kernel_rfl, (vk rfl), _, _, Z1r, _, by kernel_rfl, (vk rfl), _, _, Z21, _, by kernel_rfl, vb, rfl⟩) rfl <| Ac (Z03 (ps := [(0, .const (Value.string { data := #[105, 112, 95, 101, 99, 110] })), (1, .const (Value.int IntKind.i64 9)), (2, .const (Value.int IntKind.i64 2)), (3, .const (Value.bool false))]) (x := (⟨{ data := #[105, 112, 95, 101, 99, 110] }, 9, 2, false⟩ : field_row)) rfl rfl rfl (by kernel_rfl) Z1s ⟨_, _, Z20, _, by kernel_rfl, (vs (by decide)), _, _, Z1u, _, by kernel_rfl, (vk rfl), _, _, Z1r, _, by kernel_rfl, (vk rfl), _, _, Z21, _, by kernel_rfl, vb, rfl⟩) rfl <| Ac (Z03 (ps := [(0, .const (Value.string { data := #[105, 112, 95, 112, 114, 111, 116, 111] })), (1, .const (Value.int IntKind.i64 10)), (2, .const (Value.int IntKind.i64 8)), (3, .const (Value.bool false))]) (x := (⟨{ data := #[105, 112, 95, 112, 114, 111, 116, 111] }, 10, 8, false⟩ : field_row)) rfl rfl rfl (by kernel_rfl) Z1s ⟨_, _, Z20, _, by kernel_rfl, (vs (by decide)), _, _, Z1u, _, by kernel_rfl, (vk rfl), _, _, Z1r, _, by kernel_rfl, (vk rfl), _, _, Z21, _, by kernel_rfl, vb, rfl⟩) rfl <| Ac (Z03 (ps := [(0, .const (Value.string { data := #[105, 112, 118, 52, 95, 115, 114, 99] })), (1, .const (Value.int IntKind.i64 11)), (2, .const (Value.int IntKind.i64 32)), (3, .const (Value.bool true))]) (x := (⟨{ data := #[105, 112, 118, 52, 95, 115, 114, 99] }, 11, 32, true⟩ : field_row)) rfl rfl rfl (by kernel_rfl) Z1s ⟨_, _, Z20, _, by kernel_rfl, (vs (by decide)), _, _, Z1u, _, by kernel_rfl, (vk rfl), _, _, Z1r, _, by kernel_rfl, (vk rfl), _, _, Z21, _, by kernel_rfl, vb, rfl⟩) rfl <| Ac (Z03 (ps := [(0, .const (Value.string { data := #[105, 112, 118, 52, 95, 100, 115, 116] })), (1, .const (Value.int IntKind.i64 12)), (2, .const (Value.int IntKind.i64 32)), (3, .const (Value.bool true))]) (x := (⟨{ data := #[105, 112, 118, 52, 95, 100, 115, 116] }, 12, 32, true⟩ : field_row)) rfl rfl rfl (by kernel_rfl) Z1s ⟨_, _, Z20, _, by kernel_rfl, (vs (by decide)), _, _, Z1u, _, by kernel_rfl, (vk rfl), _, _, Z1r, _, by kernel_rfl, (vk rfl), _, _, Z21, _, by kernel_rfl, vb, rfl⟩) rfl ?_
 refine Ac (Z03 (ps := [(0, .const (Value.string { data := #[116, 99, 112, 95, 115, 114, 99] })), (1, .const (Value.int IntKind.i64 13)), (2, .const (Value.int IntKind.i64 16)), (3, .const (Value.bool false))]) (x := (⟨{ data := #[116, 99, 112, 95, 115, 114, 99] }, 13, 16, false⟩ : field_row)) rfl rfl rfl (by kernel_rfl) Z1s ⟨_, _, Z20, _, by kernel_rfl, (vs (by decide)), _, _, Z1u, _, by kernel_rfl, (vk rfl), _, _, Z1r, _, by kernel_rfl, (vk rfl), _, _, Z21, _, by kernel_rfl, vb, rfl⟩) rfl <| Ac (Z03 (ps := [(0, .const (Value.string { data := #[116, 99, 112, 95, 100, 115, 116] })), (1, .const (Value.int IntKind.i64 14)), (2, .const (Value.int IntKind.i64 16)), (3, .const (Value.bool false))]) (x := (⟨{ data := #[116, 99, 112, 95, 100, 115, 116] }, 14, 16, false⟩ : field_row)) rfl rfl rfl (by kernel_rfl) Z1s ⟨_, _, Z20, _, by kernel_rfl, (vs (by decide)), _, _, Z1u, _, by kernel_rfl, (vk rfl), _, _, Z1r, _, by kernel_rfl, (vk rfl), _, _, Z21, _, by kernel_rfl, vb, rfl⟩) rfl <| Ac (Z03 (ps := [(0, .const (Value.string { data := #[117, 100, 112, 95, 115, 114, 99] })), (1, .const (Value.int IntKind.i64 15)), (2, .const (Value.int IntKind.i64 16)), (3, .const (Value.bool false))]) (x := (⟨{ data := #[117, 100, 112, 95, 115, 114, 99] }, 15, 16, false⟩ : field_row)) rfl rfl rfl (by kernel_rfl) Z1s ⟨_, _, Z20, _, by kernel_rfl, (vs (by decide)), _, _, Z1u, _, by kernel_rfl, (vk rfl), _, _, Z1r, _, by kernel_rfl, (vk rfl), _, _, Z21, _, by kernel_rfl, vb, rfl⟩) rfl <| Ac (Z03 (ps := [(0, .const (Value.string { data := #[117, 100, 112, 95, 100, 115, 116] })), (1, .const (Value.int IntKind.i64 16)), (2, .const (Value.int IntKind.i64 16)), (3, .const (Value.bool false))]) (x := (⟨{ data := #[117, 100, 112, 95, 100, 115, 116] }, 16, 16, false⟩ : field_row)) rfl rfl rfl (by kernel_rfl) Z1s ⟨_, _, Z20, _, by kernel_rfl, (vs (by decide)), _, _, Z1u, _, by kernel_rfl, (vk rfl), _, _, Z1r, _, by kernel_rfl, (vk rfl), _, _, Z21, _, by kernel_rfl, vb, rfl⟩) rfl <| Ac (Z03 (ps := [(0, .const (Value.string { data := #[105, 99, 109, 112, 118, 52, 95, 116, 121, 112, 101] })), (1, .const (Value.int IntKind.i64 19)), (2, .const (Value.int IntKind.i64 8)), (3, .const (Value.bool false))]) (x := (⟨{ data := #[105, 99, 109, 112, 118, 52, 95, 116, 121, 112, 101] }, 19, 8, false⟩ : field_row)) rfl rfl rfl (by kernel_rfl) Z1s ⟨_, _, Z20, _, by kernel_rfl, (vs (by decide)), _, _, Z1u, _, by kernel_rfl, (vk rfl), _, _, Z1r, _, by kernel_rfl, (vk rfl), _, _, Z21, _, by kernel_rfl, vb, rfl⟩) rfl <| Ac (Z03 (ps := [(0, .const (Value.string { data := #[105, 99, 109, 112, 118, 52, 95, 99, 111, 100, 101] })), (1, .const (Value.int IntKind.i64 20)), (2, .const (Value.int IntKind.i64 8)), (3, .const (Value.bool false))]) (x := (⟨{ data := #[105, 99, 109, 112, 118, 52, 95, 99, 111, 100, 101] }, 20, 8, false⟩ : field_row)) rfl rfl rfl (by kernel_rfl) Z1s ⟨_, _, Z20, _, by kernel_rfl, (vs (by decide)), _, _, Z1u, _, by kernel_rfl, (vk rfl), _, _, Z1r, _, by kernel_rfl, (vk rfl), _, _, Z21, _, by kernel_rfl, vb, rfl⟩) rfl ?_
 refine Ac (Z03 (ps := [(0, .const (Value.string { data := #[97, 114, 112, 95, 111, 112] })), (1, .const (Value.int IntKind.i64 21)), (2, .const (Value.int IntKind.i64 16)), (3, .const (Value.bool false))]) (x := (⟨{ data := #[97, 114, 112, 95, 111, 112] }, 21, 16, false⟩ : field_row)) rfl rfl rfl (by kernel_rfl) Z1s ⟨_, _, Z20, _, by kernel_rfl, (vs (by decide)), _, _, Z1u, _, by kernel_rfl, (vk rfl), _, _, Z1r, _, by kernel_rfl, (vk rfl), _, _, Z21, _, by kernel_rfl, vb, rfl⟩) rfl <| Ac (Z03 (ps := [(0, .const (Value.string { data := #[97, 114, 112, 95, 115, 112, 97] })), (1, .const (Value.int IntKind.i64 22)), (2, .const (Value.int IntKind.i64 32)), (3, .const (Value.bool true))]) (x := (⟨{ data := #[97, 114, 112, 95, 115, 112, 97] }, 22, 32, true⟩ : field_row)) rfl rfl rfl (by kernel_rfl) Z1s ⟨_, _, Z20, _, by kernel_rfl, (vs (by decide)), _, _, Z1u, _, by kernel_rfl, (vk rfl), _, _, Z1r, _, by kernel_rfl, (vk rfl), _, _, Z21, _, by kernel_rfl, vb, rfl⟩) rfl <| Ac (Z03 (ps := [(0, .const (Value.string { data := #[97, 114, 112, 95, 116, 112, 97] })), (1, .const (Value.int IntKind.i64 23)), (2, .const (Value.int IntKind.i64 32)), (3, .const (Value.bool true))]) (x := (⟨{ data := #[97, 114, 112, 95, 116, 112, 97] }, 23, 32, true⟩ : field_row)) rfl rfl rfl (by kernel_rfl) Z1s ⟨_, _, Z20, _, by kernel_rfl, (vs (by decide)), _, _, Z1u, _, by kernel_rfl, (vk rfl), _, _, Z1r, _, by kernel_rfl, (vk rfl), _, _, Z21, _, by kernel_rfl, vb, rfl⟩) rfl <| Ac (Z03 (ps := [(0, .const (Value.string { data := #[105, 112, 118, 54, 95, 115, 114, 99] })), (1, .const (Value.int IntKind.i64 26)), (2, .const (Value.int IntKind.i64 128)), (3, .const (Value.bool true))]) (x := (⟨{ data := #[105, 112, 118, 54, 95, 115, 114, 99] }, 26, 128, true⟩ : field_row)) rfl rfl rfl (by kernel_rfl) Z1s ⟨_, _, Z20, _, by kernel_rfl, (vs (by decide)), _, _, Z1u, _, by kernel_rfl, (vk rfl), _, _, Z1r, _, by kernel_rfl, (vk rfl), _, _, Z21, _, by kernel_rfl, vb, rfl⟩) rfl <| Ac (Z03 (ps := [(0, .const (Value.string { data := #[105, 112, 118, 54, 95, 100, 115, 116] })), (1, .const (Value.int IntKind.i64 27)), (2, .const (Value.int IntKind.i64 128)), (3, .const (Value.bool true))]) (x := (⟨{ data := #[105, 112, 118, 54, 95, 100, 115, 116] }, 27, 128, true⟩ : field_row)) rfl rfl rfl (by kernel_rfl) Z1s ⟨_, _, Z20, _, by kernel_rfl, (vs (by decide)), _, _, Z1u, _, by kernel_rfl, (vk rfl), _, _, Z1r, _, by kernel_rfl, (vk rfl), _, _, Z21, _, by kernel_rfl, vb, rfl⟩) rfl <| Ac (Z03 (ps := [(0, .const (Value.string { data := #[109, 112, 108, 115, 95, 108, 97, 98, 101, 108] })), (1, .const (Value.int IntKind.i64 34)), (2, .const (Value.int IntKind.i64 20)), (3, .const (Value.bool false))]) (x := (⟨{ data := #[109, 112, 108, 115, 95, 108, 97, 98, 101, 108] }, 34, 20, false⟩ : field_row)) rfl rfl rfl (by kernel_rfl) Z1s ⟨_, _, Z20, _, by kernel_rfl, (vs (by decide)), _, _, Z1u, _, by kernel_rfl, (vk rfl), _, _, Z1r, _, by kernel_rfl, (vk rfl), _, _, Z21, _, by kernel_rfl, vb, rfl⟩) rfl ?_
 refine Ac (Z03 (ps := [(0, .tmp 1), (1, .tmp 2), (2, .tmp 3), (3, .tmp 4), (4, .tmp 5), (5, .tmp 6), (6, .tmp 7), (7, .tmp 8), (8, .tmp 9), (9, .tmp 10), (10, .tmp 11), (11, .tmp 12), (12, .tmp 13), (13, .tmp 14), (14, .tmp 15), (15, .tmp 16), (16, .tmp 17), (17, .tmp 18), (18, .tmp 19), (19, .tmp 20), (20, .tmp 21), (21, .tmp 22), (22, .tmp 23), (23, .tmp 24)]) (x := (Vector.set (Vector.set (Vector.set (Vector.set (Vector.set (Vector.set (Vector.set (Vector.set (Vector.set (Vector.set (Vector.set (Vector.set (Vector.set (Vector.set (Vector.set (Vector.set (Vector.set (Vector.set (Vector.set (Vector.set (Vector.set (Vector.set (Vector.set (Vector.set (Vector.replicate 24 Zfu) 0 (⟨{ data := #[105, 110, 95, 112, 111, 114, 116] }, 0, 32, false⟩ : field_row) (by decide)) 1 (⟨{ data := #[109, 101, 116, 97, 100, 97, 116, 97] }, 2, 64, true⟩ : field_row) (by decide)) 2 (⟨{ data := #[101, 116, 104, 95, 100, 115, 116] }, 3, 48, true⟩ : field_row) (by decide)) 3 (⟨{ data := #[101, 116, 104, 95, 115, 114, 99] }, 4, 48, true⟩ : field_row) (by decide)) 4 (⟨{ data := #[101, 116, 104, 95, 116, 121, 112, 101] }, 5, 16, false⟩ : field_row) (by decide)) 5 (⟨{ data := #[118, 108, 97, 110, 95, 118, 105, 100] }, 6, 13, true⟩ : field_row) (by decide)) 6 (⟨{ data := #[118, 108, 97, 110, 95, 112, 99, 112] }, 7, 3, false⟩ : field_row) (by decide)) 7 (⟨{ data := #[105, 112, 95, 100, 115, 99, 112] }, 8, 6, false⟩ : field_row) (by decide)) 8 (⟨{ data := #[105, 112, 95, 101, 99, 110] }, 9, 2, false⟩ : field_row) (by decide)) 9 (⟨{ data := #[105, 112, 95, 112, 114, 111, 116, 111] }, 10, 8, false⟩ : field_row) (by decide)) 10 (⟨{ data := #[105, 112, 118, 52, 95, 115, 114, 99] }, 11, 32, true⟩ : field_row) (by decide)) 11 (⟨{ data := #[105, 112, 118, 52, 95, 100, 115, 116] }, 12, 32, true⟩ : field_row) (by decide)) 12 (⟨{ data := #[116, 99, 112, 95, 115, 114, 99] }, 13, 16, false⟩ : field_row) (by decide)) 13 (⟨{ data := #[116, 99, 112, 95, 100, 115, 116] }, 14, 16, false⟩ : field_row) (by decide)) 14 (⟨{ data := #[117, 100, 112, 95, 115, 114, 99] }, 15, 16, false⟩ : field_row) (by decide)) 15 (⟨{ data := #[117, 100, 112, 95, 100, 115, 116] }, 16, 16, false⟩ : field_row) (by decide)) 16 (⟨{ data := #[105, 99, 109, 112, 118, 52, 95, 116, 121, 112, 101] }, 19, 8, false⟩ : field_row) (by decide)) 17 (⟨{ data := #[105, 99, 109, 112, 118, 52, 95, 99, 111, 100, 101] }, 20, 8, false⟩ : field_row) (by decide)) 18 (⟨{ data := #[97, 114, 112, 95, 111, 112] }, 21, 16, false⟩ : field_row) (by decide)) 19 (⟨{ data := #[97, 114, 112, 95, 115, 112, 97] }, 22, 32, true⟩ : field_row) (by decide)) 20 (⟨{ data := #[97, 114, 112, 95, 116, 112, 97] }, 23, 32, true⟩ : field_row) (by decide)) 21 (⟨{ data := #[105, 112, 118, 54, 95, 115, 114, 99] }, 26, 128, true⟩ : field_row) (by decide)) 22 (⟨{ data := #[105, 112, 118, 54, 95, 100, 115, 116] }, 27, 128, true⟩ : field_row) (by decide)) 23 (⟨{ data := #[109, 112, 108, 115, 95, 108, 97, 98, 101, 108] }, 34, 20, false⟩ : field_row) (by decide))) rfl rfl rfl (by kernel_rfl) Zrk ⟨_, _, Lens.idx 24 Z0y 0 (by decide), _, by kernel_rfl, (vt rfl), _, _, Lens.idx 24 Z0y 1 (by decide), _, by kernel_rfl, (vt rfl), _, _, Lens.idx 24 Z0y 2 (by decide), _, by kernel_rfl, (vt rfl), _, _, Lens.idx 24 Z0y 3 (by decide), _, by kernel_rfl, (vt rfl), _, _, Lens.idx 24 Z0y 4 (by decide), _, by kernel_rfl, (vt rfl), _, _, Lens.idx 24 Z0y 5 (by decide), _, by kernel_rfl, (vt rfl), _, _, Lens.idx 24 Z0y 6 (by decide), _, by kernel_rfl, (vt rfl), _, _, Lens.idx 24 Z0y 7 (by decide), _, by kernel_rfl, (vt rfl), _, _, Lens.idx 24 Z0y 8 (by decide), _, by kernel_rfl, (vt rfl), _, _, Lens.idx 24 Z0y 9 (by decide), _, by kernel_rfl, (vt rfl), _, _, Lens.idx 24 Z0y 10 (by decide), _, by kernel_rfl, (vt rfl), _, _, Lens.idx 24 Z0y 11 (by decide), _, by kernel_rfl, (vt rfl), _, _, Lens.idx 24 Z0y 12 (by decide), _, by kernel_rfl, (vt rfl), _, _, Lens.idx 24 Z0y 13 (by decide), _, by kernel_rfl, (vt rfl), _, _, Lens.idx 24 Z0y 14 (by decide), _, by kernel_rfl, (vt rfl), _, _, Lens.idx 24 Z0y 15 (by decide), _, by kernel_rfl, (vt rfl), _, _, Lens.idx 24 Z0y 16 (by decide), _, by kernel_rfl, (vt rfl), _, _, Lens.idx 24 Z0y 17 (by decide), _, by kernel_rfl, (vt rfl), _, _, Lens.idx 24 Z0y 18 (by decide), _, by kernel_rfl, (vt rfl), _, _, Lens.idx 24 Z0y 19 (by decide), _, by kernel_rfl, (vt rfl), _, _, Lens.idx 24 Z0y 20 (by decide), _, by kernel_rfl, (vt rfl), _, _, Lens.idx 24 Z0y 21 (by decide), _, by kernel_rfl, (vt rfl), _, _, Lens.idx 24 Z0y 22 (by decide), _, by kernel_rfl, (vt rfl), _, _, Lens.idx 24 Z0y 23 (by decide), _, by kernel_rfl, (vt rfl), rfl⟩) rfl ?_
 refine Zh Zo3 1 rfl <| Nl <| AW.ret ?_
 obtain rfl := si h
 exact Zg Tryz.results344 rfl (Z04 rfl (i := 1) rfl Zo3)
def Zh0 (f1 : Int) : Option field_row :=
 (Z6k f1).bind fun x3 => (bif (!x3) then some (⟨(⟨#[]⟩ : ByteArray), (-1), 0, false⟩ : field_row) else (Zg0).bind fun x4 => (lget (Vector.toList x4) f1).bind fun e5 => some e5)
theorem Zwa (f1 : Int) (r : field_row) (h : Zh0 f1 = some r) : PCon Tryz.prog 336 [rd (Z0 .i64) f1] (rd Z0y r) := by
 refine PCon.of (Con.intro0 Tryz.func336 rfl Tryz.ntmps336 rfl fun w H => ?_)
 unfold Zh0 at h
 refine SR <| Ct rfl (Zo 3 rfl rfl Z1s) ?_
 rintro _ ⟨g2, rfl⟩
 refine Nl <| AW.seq <| AW.seq ?_
 obtain ⟨x3, hx3, h⟩ := Z1 h
 refine Rg <| Md rfl <| Cl [3] (Zgs _ _ hx3) Ziq rfl <| Ac (Z0x rfl rfl (vt rfl)) rfl <| Nl <| Cn rfl (fun hc => ?_) (fun hc => ?_)
 ·have h := Zj hc h
  refine SR <| Ac (Z03 (ps := [(1, .const (Value.int IntKind.i64 (-1)))]) (x := (⟨(⟨#[]⟩ : ByteArray), (-1), 0, false⟩ : field_row)) rfl rfl rfl (by kernel_rfl) Z1s ⟨_, _, Z1u, _, by kernel_rfl, (vk rfl), rfl⟩) rfl <| Zh Zfh 3 rfl <| Nl <| AW.ret ?_
  obtain rfl := si h
  exact Zg Tryz.results336 rfl (Z04 rfl (i := 3) rfl Zfh)
 ·have h := Zk hc h
  refine AW.skip <| AW.seq ?_
  obtain ⟨x4, hx4, h⟩ := Z1 h
  obtain ⟨e5, he5, h⟩ := Z1 h
  refine Rg <| Cl [] (Y6u _ hx4) Zzv rfl <| Md rfl <| Ac (Z8i rfl rfl Y5d Zfh (vt rfl) (vt rfl) he5) rfl <| Zh Zfh 3 rfl <| Nl <| AW.ret ?_
  obtain rfl := si h
  exact Zg Tryz.results336 rfl (Z04 rfl (i := 3) rfl Zfh)
def Z9v (f1 : Int) : Option Int :=
 (Zh0 f1).bind fun x2 => some x2.bits
theorem Y32 (f1 : Int) (r : Int) (h : Z9v f1 = some r) : PCon Tryz.prog 312 [rd (Z0 .i64) f1] (rd (Z0 .i64) r) := by
 refine PCon.of (Con.intro0 Tryz.func312 rfl Tryz.ntmps312 rfl fun w H => ?_)
 unfold Z9v at h
 refine SR <| Ak rfl <| Nl <| AW.seq ?_
 obtain ⟨x2, hx2, h⟩ := Z1 h
 refine Rg <| Md rfl <| Cl [3] (Zwa _ _ hx2) Zzj rfl <| Ac (Ztf Z1r rfl rfl Zxl Zxc Zu rfl (vt rfl)) rfl <| As rfl <| Nl <| AW.ret ?_
 obtain rfl := si h
 exact Zg Tryz.results312 rfl (Zf rfl)
def Zct (n1 : Int) : Option (BitVec 64) :=
 (bif (decide (n1 ≥ 64)) then some (18446744073709551615 : BitVec 64) else (Z9c (1 : BitVec 64) (Z19 n1 0)).bind fun q2 => some (q2 - (1 : BitVec 64)))
theorem Ztz (n1 : Int) (r : (BitVec 64)) (h : Zct n1 = some r) : PCon Tryz.prog 299 [rd (Z0 .i64) n1] (rd Z0b r) := by
 refine PCon.of (Con.intro0 Tryz.func299 rfl Tryz.ntmps299 rfl fun w H => ?_)
 unfold Zct at h
 refine SR <| Ac (Z0j (A := rd Z0b (0 : BitVec 64)) rfl rfl (vku (0 : BitVec 64) rfl)) rfl <| Nl <| AW.seq <| SR <| Md rfl <| Ac (Z4n rfl rfl (vt rfl) (vk rfl)) rfl <| Nl <| Cn rfl (fun hc => ?_) (fun hc => ?_)
 ·have h := Zj hc h
  refine SR <| Ac (Z0j (A := rd Z0b (18446744073709551615 : BitVec 64)) rfl rfl (vku (18446744073709551615 : BitVec 64) rfl)) rfl <| Nl <| AW.ret ?_
  obtain rfl := si h
  exact Zg Tryz.results299 rfl (Zf rfl)
 ·have h := Zk hc h
  refine AW.skip <| AW.seq ?_
  obtain ⟨q2, hq2, h⟩ := Z1 h
  refine Rg <| Md rfl <| Ac (Ze7 rfl rfl (vt rfl) (vk rfl)) rfl <| Ac (Zug rfl rfl (vku (1 : BitVec 64) rfl) (vt rfl) hq2) rfl <| Ac (Zvp rfl rfl (vt rfl) (vku (1 : BitVec 64) rfl)) rfl <| As rfl <| Nl <| AW.ret ?_
  obtain rfl := si h
  exact Zg Tryz.results299 rfl (Zf rfl)
def Z7o (n1 : Int) : Option Wide :=
 (Zct (IntKind.i64.wrap ((Z32 (Z19 n1 0) 128) - 64))).bind fun x3 => (Zct (Z32 (Z19 n1 0) 128)).bind fun x4 => some (⟨x3, x4⟩ : Wide)
theorem Zkj (n1 : Int) (r : Wide) (h : Z7o n1 = some r) : PCon Tryz.prog 254 [rd (Z0 .i64) n1] (rd Zn r) := by
 refine PCon.of (Con.intro0 Tryz.func254 rfl Tryz.ntmps254 rfl fun w H => ?_)
 unfold Z7o at h
 refine SR <| Ct rfl (Zo 3 rfl rfl Z2u) ?_
 rintro _ ⟨g2, rfl⟩
 refine Nl <| SR <| Md rfl <| Ac (Ze7 rfl rfl (vt rfl) (vk rfl)) rfl <| Ac (Zj2 rfl rfl (vt rfl) (vk rfl)) rfl <| As rfl <| Nl <| AW.seq ?_
 obtain ⟨x3, hx3, h⟩ := Z1 h
 obtain ⟨x4, hx4, h⟩ := Z1 h
 refine Rg <| Md rfl <| Ac (Z0m rfl rfl (vt rfl) (vk rfl)) rfl <| Cl [7] (Ztz _ _ hx3) Zr5 rfl <| Md rfl <| Cl [9] (Ztz _ _ hx4) Zr5 rfl <| Ac (Z03 (ps := [(0, .tmp 8), (1, .tmp 10)]) (x := (⟨x3, x4⟩ : Wide)) rfl rfl rfl (by kernel_rfl) Z2u ⟨_, _, Z36, _, by kernel_rfl, (vt rfl), _, _, Z34, _, by kernel_rfl, (vt rfl), rfl⟩) rfl <| Zh Z00 3 rfl <| Nl <| AW.ret ?_
 obtain rfl := si h
 exact Zg Tryz.results254 rfl (Z04 rfl (i := 3) rfl Z00)
def Zc1 (o1 : Oxm) : Option Tern :=
 (Z6k o1.Field).bind fun x4 => (bif (!x4) then some (⟨Zy, Zy⟩ : Tern) else (bif o1.Masked then some (⟨o1.Value, o1.Mask⟩ : Tern) else (Z9v o1.Field).bind fun x5 => (Z7o x5).bind fun x6 => some (⟨o1.Value, x6⟩ : Tern)))
theorem Zns (o1 : Oxm) (r : Tern) (h : Zc1 o1 = some r) : PCon Tryz.prog 275 [rd Z1f o1] (rd Z4 r) := by
 refine PCon.of (Con.intro0 Tryz.func275 rfl Tryz.ntmps275 rfl fun w H => ?_)
 unfold Zc1 at h
 refine SR <| Ct rfl (Zs 2 rfl rfl (vt rfl)) ?_
 rintro _ ⟨g2, rfl⟩
 refine Ct rfl (Zo 3 rfl rfl Z1k) ?_
 rintro _ ⟨g3, rfl⟩
 refine Nl <| AW.seq <| AW.block <| AW.seq ?_
 obtain ⟨x4, hx4, h⟩ := Z1 h
 refine Rg <| Zt Z9j Zcq rfl <| Ld Zu 2 rfl <| Cl [5] (Zgs _ _ hx4) Ziq rfl <| Ac (Z0x rfl rfl (vt rfl)) rfl <| As rfl <| Nl <| Cn rfl (fun hc => ?_) (fun hc => ?_)
 ·have h := Zj hc h
  refine SR <| Ac (Z03 (ps := []) (x := (⟨Zy, Zy⟩ : Tern)) rfl rfl rfl (by kernel_rfl) Z1k rfl) rfl <| Zh Zz 3 rfl <| Nl <| AW.ret ?_
  obtain rfl := si h
  exact Zg Tryz.results275 rfl (Z04 rfl (i := 3) rfl Zz)
 ·have h := Zk hc h
  refine SR <| Zt Zux Zw7 rfl <| Ld ty4 2 rfl <| As rfl <| Nl <| Cn rfl (fun hc => ?_) (fun hc => ?_)
  ·have h := Zj hc h
   refine SR <| Zt Zmd Zog rfl <| Ld Z00 2 rfl <| Zt Zp5 Y7j rfl <| Ld Z00 2 rfl <| Ac (Z03 (ps := [(0, .tmp 13), (1, .tmp 15)]) (x := (⟨o1.Value, o1.Mask⟩ : Tern)) rfl rfl rfl (by kernel_rfl) Z1k ⟨_, _, Z1p, _, by kernel_rfl, (vt rfl), _, _, Z1g, _, by kernel_rfl, (vt rfl), rfl⟩) rfl <| Zh Zz 3 rfl <| Nl <| AW.ret ?_
   obtain rfl := si h
   exact Zg Tryz.results275 rfl (Z04 rfl (i := 3) rfl Zz)
  ·have h := Zk hc h
   refine AW.skip <| AW.seq ?_
   obtain ⟨x5, hx5, h⟩ := Z1 h
   obtain ⟨x6, hx6, h⟩ := Z1 h
   refine AW.regionAny [⟨[1], [17], [], []⟩, ⟨[17], [18], [2], []⟩, ⟨[1], [19], [], []⟩, ⟨[19], [20], [2], []⟩, ⟨[20], [21], [], []⟩, ⟨[21], [22], [], []⟩, ⟨[18, 22], [23], [], []⟩, ⟨[2, 23], [], [3], [3]⟩] Z05 (by kernel_rfl) <| SFd Zmd Zog rfl <| SLd Z00 2 rfl <| SFd Z9j Zcq rfl <| SLd Zu 2 rfl <| SCl [20] (Y32 _ _ hx5) Y8j rfl <| SCl [21] (Zkj _ _ hx6) Zlt rfl <| Sc (lo [18, 22] [] rfl fun S hs hr => Z03 (ps := [(0, .tmp 18), (1, .tmp 22)]) (x := (⟨o1.Value, x6⟩ : Tern)) rfl rfl rfl (by kernel_rfl) Z1k ⟨_, _, Z1p, _, by kernel_rfl, (vh hs 18 rfl rfl), _, _, Z1g, _, by kernel_rfl, (vh hs 22 rfl rfl), rfl⟩) rfl <| SSt Zz 3 rfl <| AW.ret ?_
   obtain rfl := si h
   exact Zg Tryz.results275 rfl (Z04 rfl (i := 3) rfl Zz)
def Z71 : (List Oxm) → Nat → (Vector Tern 24) → Option (Vector Tern 24)
 | [], i7, b6 => some b6
 | x9 :: l8, i7, b6 => (Z6k x9.Field).bind fun x11 => (bif x11 then (Zc1 x9).bind fun x12 => (chk 24 x9.Field).bind fun j13 => (Z71 l8) (i7 + 1) (Vector.set b6 j13.1 x12 j13.2) else (Z71 l8) (i7 + 1) b6)
def Zix (l1 : (List Oxm)) : Option (Vector Tern 24) :=
 (Zc9).bind fun x3 => Z71 l1 0 x3
theorem Y0k (l1 : (List Oxm)) (r : (Vector Tern 24)) (h : Zix l1 = some r) : PCon Tryz.prog 229 [rd (Z2 Z1f) l1] (rd (Z3 24 Z4) r) := by
 refine PCon.of (Con.intro0 Tryz.func229 rfl Tryz.ntmps229 rfl fun w H => ?_)
 unfold Zix at h
 refine SR <| Ct rfl (Zo 3 rfl rfl Z1j) ?_
 rintro _ ⟨g2, rfl⟩
 refine Nl <| AW.seq ?_
 obtain ⟨x3, hx3, h⟩ := Z1 h
 refine Rg <| Cl [] (Zow _ hx3) e73 rfl <| Ct rfl (Zo 4 rfl rfl Z1j) ?_
 rintro _ ⟨g4, rfl⟩
 refine Zh Z01 4 rfl <| Nl <| AW.seq <| SR <| Md rfl <| Ac (Z0k rfl rfl Zmv (vt rfl)) rfl <| Mk rfl <| Nl <| AW.block <| AW.loopG (d := []) (ν := (List Oxm) × Nat × (Vector Tern 24)) (fun n => Sfx l1 n.2.1 n.1 ∧ Z71 n.1 n.2.1 n.2.2 = some r) (fun n => n.1.length) (fun n => [(2, Zb g2 (Lens.id (Z3 24 Z4))), (3, Zb g4 (Lens.id (Z3 24 Z4))), (7, rd (Z2 Z1f) l1), (8, rd (Z0 .i64) (l1.length : Int)), (9, rd (Z0 .i64) (n.2.1 : Int))]) (fun n => [(3, Zd g2 87 (Z3 24 Z4) (Vector.replicate 24 Z0h)), (4, Zd g4 87 (Z3 24 Z4) n.2.2)]) (l1, 0, x3) ⟨Sfx.start _, h⟩ ⟨rfl, ⟨rfl, rfl, rfl, rfl, rfl, trivial⟩, ⟨rfl, rfl, trivial⟩⟩ ?_
 rintro ⟨l8, i7, b6⟩ ⟨hsf1, h⟩
 change Sfx l1 i7 l8 at hsf1
 change Z71 l8 i7 b6 = some r at h
 change AW _ _ _ ⟨Zw [(2, Zb g2 (Lens.id (Z3 24 Z4))), (3, Zb g4 (Lens.id (Z3 24 Z4))), (7, rd (Z2 Z1f) l1), (8, rd (Z0 .i64) (l1.length : Int)), (9, rd (Z0 .i64) (i7 : Int))], Zx [(3, Zd g2 87 (Z3 24 Z4) (Vector.replicate 24 Z0h)), (4, Zd g4 87 (Z3 24 Z4) b6)], _⟩
 cases l8 with
 | nil =>
  unfold Z71 at h
  refine SR <| Ac (Zi rfl rfl (vt rfl) (vt rfl)) rfl <| Nl <| AW.seq <| Cn rfl (fun hc => absurd (of_decide_eq_true hc) hsf1.nil) (fun hc => ?_)
  refine AW.exit <| SR <| Ld Z01 4 rfl <| Zh Z01 3 rfl <| Nl <| AW.ret ?_
  obtain rfl := si h
  exact Zg Tryz.results229 rfl (Z04 rfl (i := 3) rfl Z01)
 | cons x9 l8 =>
  unfold Z71 at h
  generalize hgo1 : Z71 l8 = go1 at h
  refine SR <| Ac (Zi rfl rfl (vt rfl) (vt rfl)) rfl <| Nl <| AW.seq <| Cn rfl (fun hc => ?_) (fun hc => absurd hsf1.cons (of_decide_eq_false hc))
  have hlti7 := of_decide_eq_true hc
  refine AW.skip <| AW.seq <| AW.block <| SR <| Ac (Z10 rfl rfl Zmv (vt rfl) (vt rfl) hsf1.lget) rfl <| Lp1 Zf7 rfl <| Ct rfl (Zo 6 rfl rfl Zvh) ?_
  rintro _ ⟨g10, rfl⟩
  refine Zh Zf7 6 rfl <| Nl <| AW.seq ?_
  obtain ⟨x11, hx11, h⟩ := Z1 h
  refine Rg <| Zt Z9j Zcq rfl <| Ld Zu 6 rfl <| Cl [14] (Zgs _ _ hx11) Ziq rfl <| Nl <| Cn rfl (fun hc => ?_) (fun hc => ?_)
  ·have h := Zj hc h
   obtain ⟨x12, hx12, h⟩ := Z1 h
   obtain ⟨j13, hj13, h⟩ := Z1 h
   refine AW.regionAny [⟨[5], [16], [], []⟩, ⟨[16], [17], [6], []⟩, ⟨[5], [18], [6], []⟩, ⟨[18], [19], [], []⟩, ⟨[3, 17], [20], [], []⟩, ⟨[20, 19], [], [4], [4]⟩] Z05 (by kernel_rfl) <| SFd Z9j Zcq rfl <| SLd Zu 6 rfl <| SLd Zf7 6 rfl <| SCl [18] (Zns _ _ hx12) Zt4 rfl <| Sc (lo [3, 17] [] rfl fun S hs hr => Z2o rfl rfl Z2j (vh hs 3 rfl rfl) (vh hs 17 rfl rfl) hj13) rfl <| SSt Zz 4 rfl <| Rg <| Ac (Z17 (t := 8) rfl rfl (vt rfl) (vk rfl) (vt rfl) hlti7) rfl <| Md rfl <| Nl ?_
   subst hgo1
   exact ⟨(l8, i7 + 1, (Vector.set b6 j13.1 x12 j13.2)), Nat.lt_succ_self _, ⟨hsf1.next, h⟩, ⟨rfl, ⟨rfl, rfl, rfl, rfl, rfl, trivial⟩, ⟨rfl, rfl, trivial⟩⟩⟩
  ·have h := Zk hc h
   refine AW.skip <| Rg <| Ac (Z17 (t := 8) rfl rfl (vt rfl) (vk rfl) (vt rfl) hlti7) rfl <| Md rfl <| Nl ?_
   subst hgo1
   exact ⟨(l8, i7 + 1, b6), Nat.lt_succ_self _, ⟨hsf1.next, h⟩, ⟨rfl, ⟨rfl, rfl, rfl, rfl, rfl, trivial⟩, ⟨rfl, rfl, trivial⟩⟩⟩
end Go.Proofs.YtknpgojdkobgjaaGreat.W
set_option maxRecDepth 4000
namespace Go.Proofs.YtknpgojdkobgjaaGreat.W
open Go Go.Wb
theorem Zip : Ent Tryz.prog 177 := Ent.mk Tryz.func177 rfl rfl
theorem Z7l : Ent Tryz.prog 127 := Ent.mk Tryz.func127 rfl rfl
theorem Y2j : Ent Tryz.prog 197 := Ent.mk Tryz.func197 rfl rfl
theorem Zql : Ent Tryz.prog 196 := Ent.mk Tryz.func196 rfl rfl
theorem Y8d : Ent Tryz.prog 229 := Ent.mk Tryz.func229 rfl rfl
theorem Zhj : Ent Tryz.prog 126 := Ent.mk Tryz.func126 rfl rfl
theorem Zzw : Ent Tryz.prog 237 := Ent.mk Tryz.func237 rfl rfl
def Za9 (a1 : Wide) (b2 : Wide) : Option Wide :=
 some (⟨(a1.Hi &&& b2.Hi), (a1.Lo &&& b2.Lo)⟩ : Wide)
theorem Zh3 (a1 : Wide) (b2 : Wide) (r : Wide) (h : Za9 a1 b2 = some r) : PCon Tryz.prog 177 [rd Zn a1, rd Zn b2] (rd Zn r) := by
 refine PCon.of (Con.intro0 Tryz.func177 rfl Tryz.ntmps177 rfl fun w H => ?_)
 unfold Za9 at h
 refine SR <| Ct rfl (Zs 3 rfl rfl (vt rfl)) ?_
 rintro _ ⟨g3, rfl⟩
 refine Ct rfl (Zs 4 rfl rfl (vt rfl)) ?_
 rintro _ ⟨g4, rfl⟩
 refine Ct rfl (Zo 5 rfl rfl Z2u) ?_
 rintro _ ⟨g5, rfl⟩
 refine Nl <| SR <| Zt Z36 Z6m rfl <| Ld Z1z 3 rfl <| Zt Z36 Z6m rfl <| Ld Z1z 4 rfl <| Ac (Z9p rfl rfl (vt rfl) (vt rfl)) rfl <| Zt Z34 Z6l rfl <| Ld Z1z 3 rfl <| Zt Z34 Z6l rfl <| Ld Z1z 4 rfl <| Ac (Z9p rfl rfl (vt rfl) (vt rfl)) rfl <| Ac (Z03 (ps := [(0, .tmp 9), (1, .tmp 14)]) (x := (⟨(a1.Hi &&& b2.Hi), (a1.Lo &&& b2.Lo)⟩ : Wide)) rfl rfl rfl (by kernel_rfl) Z2u ⟨_, _, Z36, _, by kernel_rfl, (vt rfl), _, _, Z34, _, by kernel_rfl, (vt rfl), rfl⟩) rfl <| Zh Z00 5 rfl <| Nl <| AW.ret ?_
 obtain rfl := si h
 exact Zg Tryz.results177 rfl (Z04 rfl (i := 5) rfl Z00)
def Z4x (t1 : Tern) : Option Tern :=
 (Za9 t1.Value t1.Mask).bind fun x4 => some (⟨x4, t1.Mask⟩ : Tern)
theorem Z7w (t1 : Tern) (r : Tern) (h : Z4x t1 = some r) : PCon Tryz.prog 127 [rd Z4 t1] (rd Z4 r) := by
 refine PCon.of (Con.intro0 Tryz.func127 rfl Tryz.ntmps127 rfl fun w H => ?_)
 unfold Z4x at h
 refine SR <| Ct rfl (Zs 2 rfl rfl (vt rfl)) ?_
 rintro _ ⟨g2, rfl⟩
 refine Ct rfl (Zo 3 rfl rfl Z1k) ?_
 rintro _ ⟨g3, rfl⟩
 refine Nl <| AW.seq ?_
 obtain ⟨x4, hx4, h⟩ := Z1 h
 refine AW.regionAny [⟨[1], [3], [], []⟩, ⟨[3], [4], [2], []⟩, ⟨[1], [5], [], []⟩, ⟨[5], [6], [2], []⟩, ⟨[4, 6], [7], [], []⟩, ⟨[1], [8], [], []⟩, ⟨[8], [9], [2], []⟩, ⟨[7, 9], [10], [], []⟩, ⟨[2, 10], [], [3], [3]⟩] Z05 (by kernel_rfl) <| SFd Z1p Z38 rfl <| SLd Z00 2 rfl <| SFd Z1g Z2h rfl <| SLd Z00 2 rfl <| SCl [4, 6] (Zh3 _ _ _ hx4) Zip rfl <| SFd Z1g Z2h rfl <| SLd Z00 2 rfl <| Sc (lo [7, 9] [] rfl fun S hs hr => Z03 (ps := [(0, .tmp 7), (1, .tmp 9)]) (x := (⟨x4, t1.Mask⟩ : Tern)) rfl rfl rfl (by kernel_rfl) Z1k ⟨_, _, Z1p, _, by kernel_rfl, (vh hs 7 rfl rfl), _, _, Z1g, _, by kernel_rfl, (vh hs 9 rfl rfl), rfl⟩) rfl <| SSt Zz 3 rfl <| AW.ret ?_
 obtain rfl := si h
 exact Zg Tryz.results127 rfl (Z04 rfl (i := 3) rfl Zz)
def Zco (i1 : Int) (cp2 : (Vector Tern 24)) : Option (Tern × Bool) :=
 (chk 24 i1).bind fun j4 => (Z4x (Vector.get cp2 j4)).bind fun x5 => some (x5, true)
theorem Zvx (i1 : Int) (cp2 : (Vector Tern 24)) (r : (Tern × Bool)) (h : Zco i1 cp2 = some r) : PCon Tryz.prog 197 [rd (Z0 .i64) i1, rp (Z3 24 Z4) cp2] (Z1d (rd Z4 r.1) (rd Z6 r.2)) := by
 refine PCon.of (Con.intro0 Tryz.func197 rfl Tryz.ntmps197 rfl fun w H => ?_)
 unfold Zco at h
 refine SR <| Ct rfl (Zo 4 rfl rfl Z1k) ?_
 rintro _ ⟨g3, rfl⟩
 refine Ab rfl <| Nl <| AW.seq ?_
 obtain ⟨j4, hj4, h⟩ := Z1 h
 obtain ⟨x5, hx5, h⟩ := Z1 h
 refine Rg <| Md rfl <| Ac (Z5x rfl rfl Z2j (vt rfl) (vt rfl) hj4) rfl <| Lp1 Zz rfl <| Cl [7] (Z7w _ _ hx5) Z7l rfl <| Zh Zz 4 rfl <| Ab rfl <| Nl <| AW.ret ?_
 obtain rfl := si h
 exact Z2b Tryz.results197 rfl (Z04 rfl (i := 4) rfl Zz) (Zf rfl)
def Z43 (f1 : (Int → Option (Tern × Bool))) : Nat → Nat → (Vector Tern 24) → Option ((Vector Tern 24) × Bool)
 | 0, i6, b5 => some (b5, true)
 | m7 + 1, i6, b5 => (f1 (i6 : Int)).bind fun x8 => (bif (!x8.2) then some ((Vector.replicate 24 Z0h), false) else (chk 24 (i6 : Int)).bind fun j10 => (Z43 f1 m7) (i6 + 1) (Vector.set b5 j10.1 x8.1 j10.2))
def Za7 (f1 : (Int → Option (Tern × Bool))) : Option ((Vector Tern 24) × Bool) :=
 Z43 f1 (24 : Int).toNat 0 (Vector.replicate 24 Z0h)
theorem Zrd (f1 : (Int → Option (Tern × Bool))) (r : ((Vector Tern 24) × Bool)) (h : Za7 f1 = some r) : PCon Tryz.prog 196 [fa1 Tryz.prog (Z0 .i64) (fun (y : (Tern × Bool)) => Z1d (rd Z4 y.1) (rd Z6 y.2)) f1] (Z1d (rd (Z3 24 Z4) r.1) (rd Z6 r.2)) := by
 refine PCon.of (Con.intro0 Tryz.func196 rfl Tryz.ntmps196 rfl fun w H => ?_)
 unfold Za7 at h
 refine SR <| Ct rfl (Zo 3 rfl rfl Z1j) ?_
 rintro _ ⟨g2, rfl⟩
 refine Ab rfl <| Nl <| SR <| Ct rfl (Zo 5 rfl rfl Z1j) ?_
 rintro _ ⟨g3, rfl⟩
 refine Nl <| AW.seq <| SR <| Mk rfl <| Nl <| AW.block <| AW.loopG (d := []) (ν := Nat × Nat × (Vector Tern 24)) (fun n => Cnt 24 n.2.1 n.1 ∧ Z43 f1 n.1 n.2.1 n.2.2 = some r) (fun n => n.1) (fun n => [(0, fa1 Tryz.prog (Z0 .i64) (fun (y : (Tern × Bool)) => Z1d (rd Z4 y.1) (rd Z6 y.2)) f1), (2, Zb g2 (Lens.id (Z3 24 Z4))), (4, Zb g3 (Lens.id (Z3 24 Z4))), (8, rd (Z0 .i64) (n.2.1 : Int))]) (fun n => [(3, Zd g2 87 (Z3 24 Z4) (Vector.replicate 24 Z0h)), (5, Zd g3 87 (Z3 24 Z4) n.2.2)]) ((24 : Int).toNat, 0, (Vector.replicate 24 Z0h)) ⟨Cnt.start _, h⟩ ⟨rfl, ⟨rfl, rfl, rfl, rfl, trivial⟩, ⟨rfl, rfl, trivial⟩⟩ ?_
 rintro ⟨m7, i6, b5⟩ ⟨hsf1, h⟩
 change Cnt 24 i6 m7 at hsf1
 change Z43 f1 m7 i6 b5 = some r at h
 change AW _ _ _ ⟨Zw [(0, fa1 Tryz.prog (Z0 .i64) (fun (y : (Tern × Bool)) => Z1d (rd Z4 y.1) (rd Z6 y.2)) f1), (2, Zb g2 (Lens.id (Z3 24 Z4))), (4, Zb g3 (Lens.id (Z3 24 Z4))), (8, rd (Z0 .i64) (i6 : Int))], Zx [(3, Zd g2 87 (Z3 24 Z4) (Vector.replicate 24 Z0h)), (5, Zd g3 87 (Z3 24 Z4) b5)], _⟩
 cases m7 with
 | zero =>
  unfold Z43 at h
  refine SR <| Ac (Zi rfl rfl (vt rfl) (vk rfl)) rfl <| Nl <| AW.seq <| Cn rfl (fun hc => absurd (of_decide_eq_true hc) hsf1.zero) (fun hc => ?_)
  refine AW.exit <| SR <| Ld Z01 5 rfl <| Zh Z01 3 rfl <| Ab rfl <| Nl <| AW.ret ?_
  obtain rfl := si h
  exact Z2b Tryz.results196 rfl (Z04 rfl (i := 3) rfl Z01) (Zf rfl)
 | succ m7 =>
  unfold Z43 at h
  generalize hgo1 : Z43 f1 m7 = go1 at h
  refine SR <| Ac (Zi rfl rfl (vt rfl) (vk rfl)) rfl <| Nl <| AW.seq <| Cn rfl (fun hc => ?_) (fun hc => absurd hsf1.succ (of_decide_eq_false hc))
  have hlti6 := of_decide_eq_true hc
  refine AW.skip <| AW.seq <| AW.block <| SR <| Md rfl <| As rfl <| Nl <| AW.seq ?_
  obtain ⟨x8, hx8, h⟩ := Z1 h
  refine Rg <| Ac (Zq (A := fa1 Tryz.prog (Z0 .i64) (fun (y : (Tern × Bool)) => Z1d (rd Z4 y.1) (rd Z6 y.2)) f1) rfl rfl (vt rfl)) rfl <| Md rfl <| Ac (Y31 (B := (fun (y : (Tern × Bool)) => Z1d (rd Z4 y.1) (rd Z6 y.2))) hx8 rfl rfl (vt rfl) (vt rfl)) rfl <| Mt2 rfl <| Ac (Z28 rfl rfl (vt rfl)) rfl <| Ac (Z25 rfl rfl (vt rfl)) rfl <| Ct rfl (Zo 7 rfl rfl Z1k) ?_
  rintro _ ⟨g9, rfl⟩
  refine Zh Zz 7 rfl <| As rfl <| Nl <| AW.seq <| SR <| Md rfl <| Ac (Z0x rfl rfl (vt rfl)) rfl <| Nl <| Cn rfl (fun hc => ?_) (fun hc => ?_)
  ·have h := Zj hc h
   refine SR <| Ac (Z03 (ps := []) (x := (Vector.replicate 24 Z0h)) rfl rfl rfl (by kernel_rfl) Z1j rfl) rfl <| Zh Z01 3 rfl <| Ab rfl <| Nl <| AW.ret ?_
   obtain rfl := si h
   exact Z2b Tryz.results196 rfl (Z04 rfl (i := 3) rfl Z01) (Zf rfl)
  ·have h := Zk hc h
   refine AW.skip ?_
   obtain ⟨j10, hj10, h⟩ := Z1 h
   refine Rg <| Md rfl <| Ld Zz 7 rfl <| Ac (Z2o rfl rfl Z2j (vt rfl) (vt rfl) hj10) rfl <| Zh Zz 5 rfl <| Nl <| Rg <| Ac (Z5q rfl rfl (vt rfl) (vk rfl) rfl hlti6) rfl <| Md rfl <| Nl ?_
   subst hgo1
   exact ⟨(m7, i6 + 1, (Vector.set b5 j10.1 x8.1 j10.2)), Nat.lt_succ_self _, ⟨hsf1.next, h⟩, ⟨rfl, ⟨rfl, rfl, rfl, rfl, trivial⟩, ⟨rfl, rfl, trivial⟩⟩⟩
def Z92 (cu1 : (Vector Tern 24)) : Option (Vector Tern 24) :=
 (Za7 (fun x => Zco x cu1)).bind fun x4 => some x4.1
theorem Zh2 (cu1 : (Vector Tern 24)) (r : (Vector Tern 24)) (h : Z92 cu1 = some r) : PCon Tryz.prog 126 [rd (Z3 24 Z4) cu1] (rd (Z3 24 Z4) r) := by
 refine PCon.of (Con.intro0 Tryz.func126 rfl Tryz.ntmps126 rfl fun w H => ?_)
 unfold Z92 at h
 refine SR <| Ct rfl (Zs 2 rfl rfl (vt rfl)) ?_
 rintro _ ⟨g2, rfl⟩
 refine Ct rfl (Zo 3 rfl rfl Z1j) ?_
 rintro _ ⟨g3, rfl⟩
 refine Nl <| AW.seq <| AW.freezeB 1 2 rfl rfl rfl ?_
 obtain ⟨x4, hx4, h⟩ := Z1 h
 refine Rg <| Ac (Zoj (fs := []) (FAs := []) (cs := [.tmp 1]) (CAs := [rp (Z3 24 Z4) cu1]) (kx := (Z0 .i64)) (B := (fun (y : (Tern × Bool)) => Z1d (rd Z4 y.1) (rd Z6 y.2))) (fun x => Zco x cu1) rfl rfl Y2j trivial ⟨vt rfl, trivial⟩ (fun x y h => Zvx _ _ y h)) rfl <| Cl [6] (Zrd _ _ hx4) Zql rfl <| Mt2 rfl <| Ac (Z28 rfl rfl (vt rfl)) rfl <| Ac (Z25 rfl rfl (vt rfl)) rfl <| Ct rfl (Zo 4 rfl rfl Z1j) ?_
 rintro _ ⟨g5, rfl⟩
 refine Zh Z01 4 rfl <| As rfl <| Nl <| SR <| Ld Z01 4 rfl <| Zh Z01 3 rfl <| Nl <| AW.ret ?_
 obtain rfl := si h
 exact Zg Tryz.results126 rfl (Z04 rfl (i := 3) rfl Z01)
def Zdp (f1 : Flow) : Option (Vector Tern 24) :=
 (Zix f1.Match).bind fun x4 => (Z92 x4).bind fun x5 => some x5
theorem Y0y (f1 : Flow) (r : (Vector Tern 24)) (h : Zdp f1 = some r) : PCon Tryz.prog 157 [rd Z0o f1] (rd (Z3 24 Z4) r) := by
 refine PCon.of (Con.intro0 Tryz.func157 rfl Tryz.ntmps157 rfl fun w H => ?_)
 unfold Zdp at h
 refine SR <| Ct rfl (Zs 2 rfl rfl (vt rfl)) ?_
 rintro _ ⟨g2, rfl⟩
 refine Ct rfl (Zo 3 rfl rfl Z1j) ?_
 rintro _ ⟨g3, rfl⟩
 refine Nl <| AW.seq ?_
 obtain ⟨x4, hx4, h⟩ := Z1 h
 obtain ⟨x5, hx5, h⟩ := Z1 h
 refine Rg <| Zt Zml Znx rfl <| Ld Zqh 2 rfl <| Cl [4] (Y0k _ _ hx4) Y8d rfl <| Cl [5] (Zh2 _ _ hx5) Zhj rfl <| Zh Z01 3 rfl <| Nl <| AW.ret ?_
 obtain rfl := si h
 exact Zg Tryz.results157 rfl (Z04 rfl (i := 3) rfl Z01)
def Zn1 (a1 : Wide) (b2 : Wide) : Option Wide :=
 some (⟨(a1.Hi ^^^ b2.Hi), (a1.Lo ^^^ b2.Lo)⟩ : Wide)
theorem Y5u (a1 : Wide) (b2 : Wide) (r : Wide) (h : Zn1 a1 b2 = some r) : PCon Tryz.prog 237 [rd Zn a1, rd Zn b2] (rd Zn r) := by
 refine PCon.of (Con.intro0 Tryz.func237 rfl Tryz.ntmps237 rfl fun w H => ?_)
 unfold Zn1 at h
 refine SR <| Ct rfl (Zs 3 rfl rfl (vt rfl)) ?_
 rintro _ ⟨g3, rfl⟩
 refine Ct rfl (Zs 4 rfl rfl (vt rfl)) ?_
 rintro _ ⟨g4, rfl⟩
 refine Ct rfl (Zo 5 rfl rfl Z2u) ?_
 rintro _ ⟨g5, rfl⟩
 refine Nl <| SR <| Zt Z36 Z6m rfl <| Ld Z1z 3 rfl <| Zt Z36 Z6m rfl <| Ld Z1z 4 rfl <| Ac (Zoa rfl rfl (vt rfl) (vt rfl)) rfl <| Zt Z34 Z6l rfl <| Ld Z1z 3 rfl <| Zt Z34 Z6l rfl <| Ld Z1z 4 rfl <| Ac (Zoa rfl rfl (vt rfl) (vt rfl)) rfl <| Ac (Z03 (ps := [(0, .tmp 9), (1, .tmp 14)]) (x := (⟨(a1.Hi ^^^ b2.Hi), (a1.Lo ^^^ b2.Lo)⟩ : Wide)) rfl rfl rfl (by kernel_rfl) Z2u ⟨_, _, Z36, _, by kernel_rfl, (vt rfl), _, _, Z34, _, by kernel_rfl, (vt rfl), rfl⟩) rfl <| Zh Z00 5 rfl <| Nl <| AW.ret ?_
 obtain rfl := si h
 exact Zg Tryz.results237 rfl (Z04 rfl (i := 5) rfl Z00)
def Zks (a1 : Wide) (b2 : Wide) (mask3 : Wide) : Option Wide :=
 (Zn1 a1 b2).bind fun x8 => (Za9 x8 mask3).bind fun x9 => some x9
theorem Zvq (a1 : Wide) (b2 : Wide) (mask3 : Wide) (r : Wide) (h : Zks a1 b2 mask3 = some r) : PCon Tryz.prog 174 [rd Zn a1, rd Zn b2, rd Zn mask3] (rd Zn r) := by
 refine PCon.of (Con.intro0 Tryz.func174 rfl Tryz.ntmps174 rfl fun w H => ?_)
 unfold Zks at h
 refine SR <| Ct rfl (Zs 4 rfl rfl (vt rfl)) ?_
 rintro _ ⟨g4, rfl⟩
 refine Ct rfl (Zs 5 rfl rfl (vt rfl)) ?_
 rintro _ ⟨g5, rfl⟩
 refine Ct rfl (Zs 6 rfl rfl (vt rfl)) ?_
 rintro _ ⟨g6, rfl⟩
 refine Ct rfl (Zo 7 rfl rfl Z2u) ?_
 rintro _ ⟨g7, rfl⟩
 refine Nl <| AW.seq ?_
 obtain ⟨x8, hx8, h⟩ := Z1 h
 obtain ⟨x9, hx9, h⟩ := Z1 h
 refine AW.regionAny [⟨[3], [7], [4], []⟩, ⟨[4], [8], [5], []⟩, ⟨[7, 8], [9], [], []⟩, ⟨[5], [10], [6], []⟩, ⟨[9, 10], [11], [], []⟩, ⟨[6, 11], [], [7], [7]⟩] Z05 (by kernel_rfl) <| SLd Z00 4 rfl <| SLd Z00 5 rfl <| SCl [7, 8] (Y5u _ _ _ hx8) Zzw rfl <| SLd Z00 6 rfl <| SCl [9, 10] (Zh3 _ _ _ hx9) Zip rfl <| SSt Z00 7 rfl <| AW.ret ?_
 obtain rfl := si h
 exact Zg Tryz.results174 rfl (Z04 rfl (i := 7) rfl Z00)
def Zcr (a1 : Wide) : Option Bool :=
 some (decide ((a1.Hi ||| a1.Lo) = (0 : BitVec 64)))
theorem Zmb (a1 : Wide) (r : Bool) (h : Zcr a1 = some r) : PCon Tryz.prog 173 [rd Zn a1] (rd Z6 r) := by
 refine PCon.of (Con.intro0 Tryz.func173 rfl Tryz.ntmps173 rfl fun w H => ?_)
 unfold Zcr at h
 refine SR <| Ct rfl (Zs 2 rfl rfl (vt rfl)) ?_
 rintro _ ⟨g2, rfl⟩
 refine Ab rfl <| Nl <| SR <| Zt Z36 Z6m rfl <| Ld Z1z 2 rfl <| Zt Z34 Z6l rfl <| Ld Z1z 2 rfl <| Ac (Zme rfl rfl (vt rfl) (vt rfl)) rfl <| Ac (Y7k rfl rfl (vt rfl) (vku (0 : BitVec 64) rfl)) rfl <| As rfl <| Nl <| AW.ret ?_
 obtain rfl := si h
 exact Zg Tryz.results173 rfl (Zf rfl)
end Go.Proofs.YtknpgojdkobgjaaGreat.W
set_option maxRecDepth 4000
namespace Go.Proofs.YtknpgojdkobgjaaGreat.W
open Go Go.Wb
theorem Y0s : Ent Tryz.prog 174 := Ent.mk Tryz.func174 rfl rfl
theorem Zjy : Ent Tryz.prog 173 := Ent.mk Tryz.func173 rfl rfl
theorem Zsg : Ent Tryz.prog 106 := Ent.mk Tryz.func106 rfl rfl
theorem Zdd : Ent Tryz.prog 175 := Ent.mk Tryz.func175 rfl rfl
theorem Zgd : Ent Tryz.prog 176 := Ent.mk Tryz.func176 rfl rfl
theorem Zwu : Ent Tryz.prog 261 := Ent.mk Tryz.func261 rfl rfl
theorem Y51 : Ent Tryz.prog 260 := Ent.mk Tryz.func260 rfl rfl
theorem Zro : Ent Tryz.prog 259 := Ent.mk Tryz.func259 rfl rfl
theorem Zzm : Ent Tryz.prog 262 := Ent.mk Tryz.func262 rfl rfl
def Zet (t1 : Tern) (v2 : Wide) : Option Bool :=
 (Zks t1.Value v2 t1.Mask).bind fun x5 => (Zcr x5).bind fun x6 => some x6
theorem Zq9 (t1 : Tern) (v2 : Wide) (r : Bool) (h : Zet t1 v2 = some r) : PCon Tryz.prog 106 [rd Z4 t1, rd Zn v2] (rd Z6 r) := by
 refine PCon.of (Con.intro0 Tryz.func106 rfl Tryz.ntmps106 rfl fun w H => ?_)
 unfold Zet at h
 refine SR <| Ct rfl (Zs 3 rfl rfl (vt rfl)) ?_
 rintro _ ⟨g3, rfl⟩
 refine Ct rfl (Zs 4 rfl rfl (vt rfl)) ?_
 rintro _ ⟨g4, rfl⟩
 refine Ab rfl <| Nl <| AW.seq ?_
 obtain ⟨x5, hx5, h⟩ := Z1 h
 obtain ⟨x6, hx6, h⟩ := Z1 h
 refine Rg <| Zt Z1p Z38 rfl <| Ld Z00 3 rfl <| Ld Z00 4 rfl <| Zt Z1g Z2h rfl <| Ld Z00 3 rfl <| Cl [6, 7, 9] (Zvq _ _ _ _ hx5) Y0s rfl <| Cl [10] (Zmb _ _ hx6) Zjy rfl <| As rfl <| Nl <| AW.ret ?_
 obtain rfl := si h
 exact Zg Tryz.results106 rfl (Zf rfl)
def Z80 (a1 : Wide) (b2 : Wide) : Option Wide :=
 some (⟨(a1.Hi ||| b2.Hi), (a1.Lo ||| b2.Lo)⟩ : Wide)
theorem Zb0 (a1 : Wide) (b2 : Wide) (r : Wide) (h : Z80 a1 b2 = some r) : PCon Tryz.prog 175 [rd Zn a1, rd Zn b2] (rd Zn r) := by
 refine PCon.of (Con.intro0 Tryz.func175 rfl Tryz.ntmps175 rfl fun w H => ?_)
 unfold Z80 at h
 refine SR <| Ct rfl (Zs 3 rfl rfl (vt rfl)) ?_
 rintro _ ⟨g3, rfl⟩
 refine Ct rfl (Zs 4 rfl rfl (vt rfl)) ?_
 rintro _ ⟨g4, rfl⟩
 refine Ct rfl (Zo 5 rfl rfl Z2u) ?_
 rintro _ ⟨g5, rfl⟩
 refine Nl <| SR <| Zt Z36 Z6m rfl <| Ld Z1z 3 rfl <| Zt Z36 Z6m rfl <| Ld Z1z 4 rfl <| Ac (Zme rfl rfl (vt rfl) (vt rfl)) rfl <| Zt Z34 Z6l rfl <| Ld Z1z 3 rfl <| Zt Z34 Z6l rfl <| Ld Z1z 4 rfl <| Ac (Zme rfl rfl (vt rfl) (vt rfl)) rfl <| Ac (Z03 (ps := [(0, .tmp 9), (1, .tmp 14)]) (x := (⟨(a1.Hi ||| b2.Hi), (a1.Lo ||| b2.Lo)⟩ : Wide)) rfl rfl rfl (by kernel_rfl) Z2u ⟨_, _, Z36, _, by kernel_rfl, (vt rfl), _, _, Z34, _, by kernel_rfl, (vt rfl), rfl⟩) rfl <| Zh Z00 5 rfl <| Nl <| AW.ret ?_
 obtain rfl := si h
 exact Zg Tryz.results175 rfl (Z04 rfl (i := 5) rfl Z00)
def Zbe (a1 : Tern) (b2 : Tern) : Option (Tern × Bool) :=
 (Za9 a1.Mask b2.Mask).bind fun x6 => (Zet (⟨a1.Value, x6⟩ : Tern) b2.Value).bind fun x7 => (bif (!x7) then some ((⟨Zy, Zy⟩ : Tern), false) else (Z4x a1).bind fun x8 => (Z4x b2).bind fun x9 => (Z80 x8.Value x9.Value).bind fun x10 => (Z80 x8.Mask x9.Mask).bind fun x11 => some ((⟨x10, x11⟩ : Tern), true))
theorem Zqg (a1 : Tern) (b2 : Tern) (r : (Tern × Bool)) (h : Zbe a1 b2 = some r) : PCon Tryz.prog 259 [rd Z4 a1, rd Z4 b2] (Z1d (rd Z4 r.1) (rd Z6 r.2)) := by
 refine PCon.of (Con.intro0 Tryz.func259 rfl Tryz.ntmps259 rfl fun w H => ?_)
 unfold Zbe at h
 refine SR <| Ct rfl (Zs 3 rfl rfl (vt rfl)) ?_
 rintro _ ⟨g3, rfl⟩
 refine Ct rfl (Zs 4 rfl rfl (vt rfl)) ?_
 rintro _ ⟨g4, rfl⟩
 refine Ct rfl (Zo 5 rfl rfl Z1k) ?_
 rintro _ ⟨g5, rfl⟩
 refine Ab rfl <| Nl <| AW.seq <| AW.seq ?_
 obtain ⟨x6, hx6, h⟩ := Z1 h
 obtain ⟨x7, hx7, h⟩ := Z1 h
 refine AW.regionAny [⟨[2], [6], [], []⟩, ⟨[6], [7], [3], []⟩, ⟨[2], [8], [], []⟩, ⟨[8], [9], [3], []⟩, ⟨[3], [10], [], []⟩, ⟨[10], [11], [4], []⟩, ⟨[9, 11], [12], [], []⟩, ⟨[7, 12], [13], [], []⟩, ⟨[3], [14], [], []⟩, ⟨[14], [15], [4], []⟩, ⟨[13, 15], [16], [], []⟩, ⟨[16], [17], [], []⟩] Z05 (by kernel_rfl) <| SFd Z1p Z38 rfl <| SLd Z00 3 rfl <| SFd Z1g Z2h rfl <| SLd Z00 3 rfl <| SFd Z1g Z2h rfl <| SLd Z00 4 rfl <| SCl [9, 11] (Zh3 _ _ _ hx6) Zip rfl <| Sc (lo [7, 12] [] rfl fun S hs hr => Z03 (ps := [(0, .tmp 7), (1, .tmp 12)]) (x := (⟨a1.Value, x6⟩ : Tern)) rfl rfl rfl (by kernel_rfl) Z1k ⟨_, _, Z1p, _, by kernel_rfl, (vh hs 7 rfl rfl), _, _, Z1g, _, by kernel_rfl, (vh hs 12 rfl rfl), rfl⟩) rfl <| SFd Z1p Z38 rfl <| SLd Z00 4 rfl <| SCl [13, 15] (Zq9 _ _ _ hx7) Zsg rfl <| Sc (lo [16] [] rfl fun S hs hr => Z0x rfl rfl (vh hs 16 rfl rfl)) rfl <| Cn rfl (fun hc => ?_) (fun hc => ?_)
 ·have h := Zj hc h
  refine SR <| Ac (Z03 (ps := []) (x := (⟨Zy, Zy⟩ : Tern)) rfl rfl rfl (by kernel_rfl) Z1k rfl) rfl <| Zh Zz 5 rfl <| Ab rfl <| Nl <| AW.ret ?_
  obtain rfl := si h
  exact Z2b Tryz.results259 rfl (Z04 rfl (i := 5) rfl Zz) (Zf rfl)
 ·have h := Zk hc h
  refine AW.skip <| AW.seq ?_
  obtain ⟨x8, hx8, h⟩ := Z1 h
  obtain ⟨x9, hx9, h⟩ := Z1 h
  refine AW.regionAny [⟨[2], [19], [3], []⟩, ⟨[19], [20], [], []⟩, ⟨[3], [21], [4], []⟩, ⟨[21], [22], [], []⟩, ⟨[2, 20], [], [3], [3]⟩, ⟨[3, 22], [], [4], [4]⟩] Z05 (by kernel_rfl) <| SLd Zz 3 rfl <| SCl [19] (Z7w _ _ hx8) Z7l rfl <| SLd Zz 4 rfl <| SCl [21] (Z7w _ _ hx9) Z7l rfl <| SSt Zz 3 rfl <| SSt Zz 4 rfl <| AW.seq ?_
  obtain ⟨x10, hx10, h⟩ := Z1 h
  obtain ⟨x11, hx11, h⟩ := Z1 h
  refine AW.regionAny [⟨[2], [23], [], []⟩, ⟨[23], [24], [3], []⟩, ⟨[3], [25], [], []⟩, ⟨[25], [26], [4], []⟩, ⟨[24, 26], [27], [], []⟩, ⟨[2], [28], [], []⟩, ⟨[28], [29], [3], []⟩, ⟨[3], [30], [], []⟩, ⟨[30], [31], [4], []⟩, ⟨[29, 31], [32], [], []⟩, ⟨[27, 32], [33], [], []⟩, ⟨[4, 33], [], [5], [5]⟩, ⟨[], [5], [], []⟩] Z05 (by kernel_rfl) <| SFd Z1p Z38 rfl <| SLd Z00 3 rfl <| SFd Z1p Z38 rfl <| SLd Z00 4 rfl <| SCl [24, 26] (Zb0 _ _ _ hx10) Zdd rfl <| SFd Z1g Z2h rfl <| SLd Z00 3 rfl <| SFd Z1g Z2h rfl <| SLd Z00 4 rfl <| SCl [29, 31] (Zb0 _ _ _ hx11) Zdd rfl <| Sc (lo [27, 32] [] rfl fun S hs hr => Z03 (ps := [(0, .tmp 27), (1, .tmp 32)]) (x := (⟨x10, x11⟩ : Tern)) rfl rfl rfl (by kernel_rfl) Z1k ⟨_, _, Z1p, _, by kernel_rfl, (vh hs 27 rfl rfl), _, _, Z1g, _, by kernel_rfl, (vh hs 32 rfl rfl), rfl⟩) rfl <| SSt Zz 5 rfl <| Sc (lo [] [] rfl fun S hs hr => Z0j (A := rd Z6 true) rfl rfl vb) rfl <| AW.ret ?_
  obtain rfl := si h
  exact Z2b Tryz.results259 rfl (Z04 rfl (i := 5) rfl Zz) (Zf rfl)
def Z8b (a1 : Wide) (b2 : Wide) : Option Wide :=
 some (⟨(a1.Hi &&& ~~~b2.Hi), (a1.Lo &&& ~~~b2.Lo)⟩ : Wide)
theorem Ze6 (a1 : Wide) (b2 : Wide) (r : Wide) (h : Z8b a1 b2 = some r) : PCon Tryz.prog 176 [rd Zn a1, rd Zn b2] (rd Zn r) := by
 refine PCon.of (Con.intro0 Tryz.func176 rfl Tryz.ntmps176 rfl fun w H => ?_)
 unfold Z8b at h
 refine SR <| Ct rfl (Zs 3 rfl rfl (vt rfl)) ?_
 rintro _ ⟨g3, rfl⟩
 refine Ct rfl (Zs 4 rfl rfl (vt rfl)) ?_
 rintro _ ⟨g4, rfl⟩
 refine Ct rfl (Zo 5 rfl rfl Z2u) ?_
 rintro _ ⟨g5, rfl⟩
 refine Nl <| SR <| Zt Z36 Z6m rfl <| Ld Z1z 3 rfl <| Zt Z36 Z6m rfl <| Ld Z1z 4 rfl <| Ac (Zs9 rfl rfl (vt rfl) (vt rfl)) rfl <| Zt Z34 Z6l rfl <| Ld Z1z 3 rfl <| Zt Z34 Z6l rfl <| Ld Z1z 4 rfl <| Ac (Zs9 rfl rfl (vt rfl) (vt rfl)) rfl <| Ac (Z03 (ps := [(0, .tmp 9), (1, .tmp 14)]) (x := (⟨(a1.Hi &&& ~~~b2.Hi), (a1.Lo &&& ~~~b2.Lo)⟩ : Wide)) rfl rfl rfl (by kernel_rfl) Z2u ⟨_, _, Z36, _, by kernel_rfl, (vt rfl), _, _, Z34, _, by kernel_rfl, (vt rfl), rfl⟩) rfl <| Zh Z00 5 rfl <| Nl <| AW.ret ?_
 obtain rfl := si h
 exact Zg Tryz.results176 rfl (Z04 rfl (i := 5) rfl Z00)
def Zei (i1 : Int) (cp2 : (Vector Tern 24)) (cp3 : (Vector Tern 24)) : Option Tern :=
 (chk 24 i1).bind fun j5 => (chk 24 i1).bind fun j6 => (chk 24 i1).bind fun j7 => (Z8b ((Vector.get cp2 j6).Mask) ((Vector.get cp3 j7).Mask)).bind fun x8 => (Z4x (⟨(Vector.get cp2 j5).Value, x8⟩ : Tern)).bind fun x9 => some x9
theorem Zv3 (i1 : Int) (cp2 : (Vector Tern 24)) (cp3 : (Vector Tern 24)) (r : Tern) (h : Zei i1 cp2 cp3 = some r) : PCon Tryz.prog 261 [rd (Z0 .i64) i1, rp (Z3 24 Z4) cp2, rp (Z3 24 Z4) cp3] (rd Z4 r) := by
 refine PCon.of (Con.intro0 Tryz.func261 rfl Tryz.ntmps261 rfl fun w H => ?_)
 unfold Zei at h
 refine SR <| Ct rfl (Zo 5 rfl rfl Z1k) ?_
 rintro _ ⟨g4, rfl⟩
 refine Nl <| AW.seq ?_
 obtain ⟨j5, hj5, h⟩ := Z1 h
 obtain ⟨j6, hj6, h⟩ := Z1 h
 obtain ⟨j7, hj7, h⟩ := Z1 h
 obtain ⟨x8, hx8, h⟩ := Z1 h
 obtain ⟨x9, hx9, h⟩ := Z1 h
 refine AW.regionAny [⟨[0], [5], [], []⟩, ⟨[1, 5], [6], [], []⟩, ⟨[6], [7], [], []⟩, ⟨[7], [8], [], []⟩, ⟨[0], [9], [], []⟩, ⟨[1, 9], [10], [], []⟩, ⟨[10], [11], [], []⟩, ⟨[11], [12], [], []⟩, ⟨[0], [13], [], []⟩, ⟨[2, 13], [14], [], []⟩, ⟨[14], [15], [], []⟩, ⟨[15], [16], [], []⟩, ⟨[12, 16], [17], [], []⟩, ⟨[8, 17], [18], [], []⟩, ⟨[18], [19], [], []⟩, ⟨[4, 19], [], [5], [5]⟩] Z05 (by kernel_rfl) <| SMd rfl <| Sc (lo [1, 5] [] rfl fun S hs hr => Z5x rfl rfl Z2j (vh hs 1 rfl rfl) (vh hs 5 rfl rfl) hj5) rfl <| SFp Z1p Z38 rfl <| SLp Z00 rfl <| SMd rfl <| Sc (lo [1, 9] [] rfl fun S hs hr => Z5x rfl rfl Z2j (vh hs 1 rfl rfl) (vh hs 9 rfl rfl) hj6) rfl <| SFp Z1g Z2h rfl <| SLp Z00 rfl <| SMd rfl <| Sc (lo [2, 13] [] rfl fun S hs hr => Z5x rfl rfl Z7h (vh hs 2 rfl rfl) (vh hs 13 rfl rfl) hj7) rfl <| SFp Z1g Z2h rfl <| SLp Z00 rfl <| SCl [12, 16] (Ze6 _ _ _ hx8) Zgd rfl <| Sc (lo [8, 17] [] rfl fun S hs hr => Z03 (ps := [(0, .tmp 8), (1, .tmp 17)]) (x := (⟨(Vector.get cp2 j5).Value, x8⟩ : Tern)) rfl rfl rfl (by kernel_rfl) Z1k ⟨_, _, Z1p, _, by kernel_rfl, (vh hs 8 rfl rfl), _, _, Z1g, _, by kernel_rfl, (vh hs 17 rfl rfl), rfl⟩) rfl <| SCl [18] (Z7w _ _ hx9) Z7l rfl <| SSt Zz 5 rfl <| AW.ret ?_
 obtain rfl := si h
 exact Zg Tryz.results261 rfl (Z04 rfl (i := 5) rfl Zz)
def Z5i (f1 : (Int → Option Tern)) : Nat → Nat → (Vector Tern 24) → Option (Vector Tern 24)
 | 0, i6, b5 => some b5
 | m7 + 1, i6, b5 => (f1 (i6 : Int)).bind fun x8 => (chk 24 (i6 : Int)).bind fun j9 => (Z5i f1 m7) (i6 + 1) (Vector.set b5 j9.1 x8 j9.2)
def Zg5 (f1 : (Int → Option Tern)) : Option (Vector Tern 24) :=
 Z5i f1 (24 : Int).toNat 0 (Vector.replicate 24 Z0h)
theorem Zys (f1 : (Int → Option Tern)) (r : (Vector Tern 24)) (h : Zg5 f1 = some r) : PCon Tryz.prog 260 [fn1 Tryz.prog (Z0 .i64) Z4 f1] (rd (Z3 24 Z4) r) := by
 refine PCon.of (Con.intro0 Tryz.func260 rfl Tryz.ntmps260 rfl fun w H => ?_)
 unfold Zg5 at h
 refine SR <| Ct rfl (Zo 3 rfl rfl Z1j) ?_
 rintro _ ⟨g2, rfl⟩
 refine Nl <| SR <| Ct rfl (Zo 4 rfl rfl Z1j) ?_
 rintro _ ⟨g3, rfl⟩
 refine Nl <| AW.seq <| SR <| Mk rfl <| Nl <| AW.block <| AW.loopG (d := []) (ν := Nat × Nat × (Vector Tern 24)) (fun n => Cnt 24 n.2.1 n.1 ∧ Z5i f1 n.1 n.2.1 n.2.2 = some r) (fun n => n.1) (fun n => [(0, fn1 Tryz.prog (Z0 .i64) Z4 f1), (2, Zb g2 (Lens.id (Z3 24 Z4))), (3, Zb g3 (Lens.id (Z3 24 Z4))), (5, rd (Z0 .i64) (n.2.1 : Int))]) (fun n => [(3, Zd g2 87 (Z3 24 Z4) (Vector.replicate 24 Z0h)), (4, Zd g3 87 (Z3 24 Z4) n.2.2)]) ((24 : Int).toNat, 0, (Vector.replicate 24 Z0h)) ⟨Cnt.start _, h⟩ ⟨rfl, ⟨rfl, rfl, rfl, rfl, trivial⟩, ⟨rfl, rfl, trivial⟩⟩ ?_
 rintro ⟨m7, i6, b5⟩ ⟨hsf1, h⟩
 change Cnt 24 i6 m7 at hsf1
 change Z5i f1 m7 i6 b5 = some r at h
 change AW _ _ _ ⟨Zw [(0, fn1 Tryz.prog (Z0 .i64) Z4 f1), (2, Zb g2 (Lens.id (Z3 24 Z4))), (3, Zb g3 (Lens.id (Z3 24 Z4))), (5, rd (Z0 .i64) (i6 : Int))], Zx [(3, Zd g2 87 (Z3 24 Z4) (Vector.replicate 24 Z0h)), (4, Zd g3 87 (Z3 24 Z4) b5)], _⟩
 cases m7 with
 | zero =>
  unfold Z5i at h
  refine SR <| Ac (Zi rfl rfl (vt rfl) (vk rfl)) rfl <| Nl <| AW.seq <| Cn rfl (fun hc => absurd (of_decide_eq_true hc) hsf1.zero) (fun hc => ?_)
  refine AW.exit <| SR <| Ld Z01 4 rfl <| Zh Z01 3 rfl <| Nl <| AW.ret ?_
  obtain rfl := si h
  exact Zg Tryz.results260 rfl (Z04 rfl (i := 3) rfl Z01)
 | succ m7 =>
  unfold Z5i at h
  generalize hgo1 : Z5i f1 m7 = go1 at h
  refine SR <| Ac (Zi rfl rfl (vt rfl) (vk rfl)) rfl <| Nl <| AW.seq <| Cn rfl (fun hc => ?_) (fun hc => absurd hsf1.succ (of_decide_eq_false hc))
  have hlti6 := of_decide_eq_true hc
  refine AW.skip <| AW.seq <| AW.block <| SR <| Md rfl <| As rfl <| Nl ?_
  obtain ⟨x8, hx8, h⟩ := Z1 h
  obtain ⟨j9, hj9, h⟩ := Z1 h
  refine Rg <| Md rfl <| Ac (Zq (A := fn1 Tryz.prog (Z0 .i64) Z4 f1) rfl rfl (vt rfl)) rfl <| Md rfl <| Ac (Z8s hx8 rfl rfl (vt rfl) (vt rfl)) rfl <| Ac (Z2o rfl rfl Z2j (vt rfl) (vt rfl) hj9) rfl <| Zh Zz 4 rfl <| Nl <| Rg <| Ac (Z5q rfl rfl (vt rfl) (vk rfl) rfl hlti6) rfl <| Md rfl <| Nl ?_
  subst hgo1
  exact ⟨(m7, i6 + 1, (Vector.set b5 j9.1 x8 j9.2)), Nat.lt_succ_self _, ⟨hsf1.next, h⟩, ⟨rfl, ⟨rfl, rfl, rfl, rfl, trivial⟩, ⟨rfl, rfl, trivial⟩⟩⟩
def Z6z (cu2 : (Vector Tern 24)) (r1 : (Vector Tern 24)) : (List Tern) → Nat → Option ((Vector Tern 24) × Bool)
 | [], i6 => (Zg5 (fun x => Zei x cu2 r1)).bind fun x8 => some (x8, true)
 | x9 :: l7, i6 => (chk 24 (i6 : Int)).bind fun j11 => (Zbe x9 (Vector.get cu2 j11)).bind fun x12 => (bif (!x12.2) then some ((Vector.replicate 24 Z0h), false) else (Z6z cu2 r1 l7) (i6 + 1))
def Zex (r1 : (Vector Tern 24)) (cu2 : (Vector Tern 24)) : Option ((Vector Tern 24) × Bool) :=
 Z6z cu2 r1 (Vector.toList r1) 0
theorem Zvz (r1 : (Vector Tern 24)) (cu2 : (Vector Tern 24)) (r : ((Vector Tern 24) × Bool)) (h : Zex r1 cu2 = some r) : PCon Tryz.prog 202 [rd (Z3 24 Z4) r1, rd (Z3 24 Z4) cu2] (Z1d (rd (Z3 24 Z4) r.1) (rd Z6 r.2)) := by
 refine PCon.of (Con.intro0 Tryz.func202 rfl Tryz.ntmps202 rfl fun w H => ?_)
 unfold Zex at h
 refine SR <| Ct rfl (Zs 3 rfl rfl (vt rfl)) ?_
 rintro _ ⟨g3, rfl⟩
 refine Ct rfl (Zs 4 rfl rfl (vt rfl)) ?_
 rintro _ ⟨g4, rfl⟩
 refine Ct rfl (Zo 5 rfl rfl Z1j) ?_
 rintro _ ⟨g5, rfl⟩
 refine Ab rfl <| Nl <| AW.seq <| SR <| Ld Z0d 3 rfl <| Mk rfl <| Nl <| AW.block <| AW.loopG (d := []) (ν := (List Tern) × Nat) (fun n => Sfx (Vector.toList r1) n.2 n.1 ∧ Z6z cu2 r1 n.1 n.2 = some r) (fun n => n.1.length) (fun n => [(2, Zb g3 (Lens.id (Z3 24 Z4))), (3, Zb g4 (Lens.id (Z3 24 Z4))), (4, Zb g5 (Lens.id (Z3 24 Z4))), (10, rd (Z3 24 Z4) r1), (11, rd (Z0 .i64) (n.2 : Int))]) (fun n => [(3, Zd g3 101 (Z3 24 Z4) r1), (4, Zd g4 87 (Z3 24 Z4) cu2), (5, Zd g5 87 (Z3 24 Z4) (Vector.replicate 24 Z0h))]) ((Vector.toList r1), 0) ⟨Sfx.start _, h⟩ ⟨rfl, ⟨rfl, rfl, rfl, rfl, rfl, trivial⟩, ⟨rfl, rfl, rfl, trivial⟩⟩ ?_
 rintro ⟨l7, i6⟩ ⟨hsf1, h⟩
 change Sfx (Vector.toList r1) i6 l7 at hsf1
 change Z6z cu2 r1 l7 i6 = some r at h
 change AW _ _ _ ⟨Zw [(2, Zb g3 (Lens.id (Z3 24 Z4))), (3, Zb g4 (Lens.id (Z3 24 Z4))), (4, Zb g5 (Lens.id (Z3 24 Z4))), (10, rd (Z3 24 Z4) r1), (11, rd (Z0 .i64) (i6 : Int))], Zx [(3, Zd g3 101 (Z3 24 Z4) r1), (4, Zd g4 87 (Z3 24 Z4) cu2), (5, Zd g5 87 (Z3 24 Z4) (Vector.replicate 24 Z0h))], _⟩
 cases l7 with
 | nil =>
  unfold Z6z at h
  refine SR <| Ac (Zi rfl rfl (vt rfl) (vk rfl)) rfl <| Nl <| AW.seq <| Cn rfl (fun hc => absurd (of_decide_eq_true hc) (hsf1.niln (by simp))) (fun hc => ?_)
  refine AW.exit <| AW.seq <| AW.freezeB 3 4 rfl rfl rfl <| AW.freezeB 2 3 rfl rfl rfl ?_
  obtain ⟨x8, hx8, h⟩ := Z1 h
  refine Rg <| Ac (Z8w (cs := [.tmp 3, .tmp 2]) (CAs := [rp (Z3 24 Z4) cu2, rp (Z3 24 Z4) r1]) (fun x => Zei x cu2 r1) rfl rfl Zwu ⟨vt rfl, vt rfl, trivial⟩ (fun x y h => Zv3 _ _ _ y h)) rfl <| Cl [27] (Zys _ _ hx8) Y51 rfl <| Zh Z01 5 rfl <| Ab rfl <| Nl <| AW.ret ?_
  obtain rfl := si h
  exact Z2b Tryz.results202 rfl (Z04 rfl (i := 5) rfl Z01) (Zf rfl)
 | cons x9 l7 =>
  unfold Z6z at h
  generalize hgo1 : Z6z cu2 r1 l7 = go1 at h
  refine SR <| Ac (Zi rfl rfl (vt rfl) (vk rfl)) rfl <| Nl <| AW.seq <| Cn rfl (fun hc => ?_) (fun hc => absurd (hsf1.consn (by simp)) (of_decide_eq_false hc))
  have hlti6 := of_decide_eq_true hc
  refine AW.skip <| AW.seq <| AW.block <| SR <| Md rfl <| Ac (Z8i rfl rfl Z7h Zz (vt rfl) (vt rfl) hsf1.lget) rfl <| Ct rfl (Zo 8 rfl rfl Z1k) ?_
  rintro _ ⟨g10, rfl⟩
  refine As rfl <| Zh Zz 8 rfl <| Nl <| AW.seq ?_
  obtain ⟨j11, hj11, h⟩ := Z1 h
  obtain ⟨x12, hx12, h⟩ := Z1 h
  refine AW.regionAny [⟨[7], [16], [8], []⟩, ⟨[6], [17], [], []⟩, ⟨[3, 17], [18], [], []⟩, ⟨[18], [19], [4], []⟩, ⟨[16, 19], [20], [], []⟩, ⟨[20], [15], [], []⟩, ⟨[15], [21], [], []⟩, ⟨[15], [22], [], []⟩, ⟨[], [8], [], []⟩, ⟨[8, 21], [8], [], []⟩, ⟨[22], [9], [], []⟩] Z05 (by kernel_rfl) <| SLd Zz 8 rfl <| SMd rfl <| Sc (lo [3, 17] [] rfl fun S hs hr => Z2o rfl rfl Z2j (vh hs 3 rfl rfl) (vh hs 17 rfl rfl) hj11) rfl <| SLd Zz 4 rfl <| SCl [16, 19] (Zqg _ _ _ hx12) Zro rfl <| Sc (lo [20] [] rfl fun S hs hr => Zq (A := Z1d (rd Z4 x12.1) (rd Z6 x12.2)) rfl rfl (vh hs 20 rfl rfl)) rfl <| Sc (lo [15] [] rfl fun S hs hr => Z28 rfl rfl (vh hs 15 rfl rfl)) rfl <| Sc (lo [15] [] rfl fun S hs hr => Z25 rfl rfl (vh hs 15 rfl rfl)) rfl <| Sc (Z2e (us := [(8, Z37 85 Z4 Z0h)]) (ur := []) [] [] rfl fun S hs hr => Zcg rfl rfl rfl Z1k) rfl <| Sc (Z2e (us := [(8, Z37 85 Z4 x12.1)]) (ur := []) [8, 21] [] rfl fun S hs hr => Zb5 rfl rfl Zz ((hs 8 rfl).trans rfl) (vh hs 21 rfl rfl)) rfl <| SAs rfl <| AW.unpackP 8 9 rfl rfl fun g13 => SR <| Md rfl <| Ac (Z0x rfl rfl (vt rfl)) rfl <| Nl <| Cn rfl (fun hc => ?_) (fun hc => ?_)
  ·have h := Zj hc h
   refine SR <| Ac (Z03 (ps := []) (x := (Vector.replicate 24 Z0h)) rfl rfl rfl (by kernel_rfl) Z1j rfl) rfl <| Zh Z01 5 rfl <| Ab rfl <| Nl <| AW.ret ?_
   obtain rfl := si h
   exact Z2b Tryz.results202 rfl (Z04 rfl (i := 5) rfl Z01) (Zf rfl)
  ·have h := Zk hc h
   refine AW.skip <| Rg <| Ac (Z5q rfl rfl (vt rfl) (vk rfl) rfl hlti6) rfl <| Md rfl <| Nl ?_
   subst hgo1
   exact ⟨(l7, i6 + 1), Nat.lt_succ_self _, ⟨hsf1.next, h⟩, ⟨rfl, ⟨rfl, rfl, rfl, rfl, rfl, trivial⟩, ⟨rfl, rfl, rfl, trivial⟩⟩⟩
def Zfl (i1 : Int) (cp2 : (Vector Tern 24)) (cp3 : (Vector Tern 24)) : Option (Tern × Bool) :=
 (chk 24 i1).bind fun j5 => (chk 24 i1).bind fun j6 => (Zbe (Vector.get cp2 j5) (Vector.get cp3 j6)).bind fun x7 => some (x7.1, x7.2)
theorem Zx0 (i1 : Int) (cp2 : (Vector Tern 24)) (cp3 : (Vector Tern 24)) (r : (Tern × Bool)) (h : Zfl i1 cp2 cp3 = some r) : PCon Tryz.prog 262 [rd (Z0 .i64) i1, rp (Z3 24 Z4) cp2, rp (Z3 24 Z4) cp3] (Z1d (rd Z4 r.1) (rd Z6 r.2)) := by
 refine PCon.of (Con.intro0 Tryz.func262 rfl Tryz.ntmps262 rfl fun w H => ?_)
 unfold Zfl at h
 refine SR <| Ct rfl (Zo 5 rfl rfl Z1k) ?_
 rintro _ ⟨g4, rfl⟩
 refine Ab rfl <| Nl <| AW.seq ?_
 obtain ⟨j5, hj5, h⟩ := Z1 h
 obtain ⟨j6, hj6, h⟩ := Z1 h
 obtain ⟨x7, hx7, h⟩ := Z1 h
 refine AW.regionAny [⟨[0], [6], [], []⟩, ⟨[1, 6], [7], [], []⟩, ⟨[7], [8], [], []⟩, ⟨[0], [9], [], []⟩, ⟨[2, 9], [10], [], []⟩, ⟨[10], [11], [], []⟩, ⟨[8, 11], [12], [], []⟩, ⟨[12], [13], [], []⟩, ⟨[12], [14], [], []⟩, ⟨[4, 13], [], [5], [5]⟩, ⟨[14], [5], [], []⟩] Z05 (by kernel_rfl) <| SMd rfl <| Sc (lo [1, 6] [] rfl fun S hs hr => Z5x rfl rfl Z2j (vh hs 1 rfl rfl) (vh hs 6 rfl rfl) hj5) rfl <| SLp Zz rfl <| SMd rfl <| Sc (lo [2, 9] [] rfl fun S hs hr => Z5x rfl rfl Z2j (vh hs 2 rfl rfl) (vh hs 9 rfl rfl) hj6) rfl <| SLp Zz rfl <| SCl [8, 11] (Zqg _ _ _ hx7) Zro rfl <| Sc (lo [12] [] rfl fun S hs hr => Z28 rfl rfl (vh hs 12 rfl rfl)) rfl <| Sc (lo [12] [] rfl fun S hs hr => Z25 rfl rfl (vh hs 12 rfl rfl)) rfl <| SSt Zz 5 rfl <| SAs rfl <| AW.ret ?_
 obtain rfl := si h
 exact Z2b Tryz.results262 rfl (Z04 rfl (i := 5) rfl Zz) (Zf rfl)
def Z7b (a1 : (Vector Tern 24)) (b2 : (Vector Tern 24)) : Option ((Vector Tern 24) × Bool) :=
 (Za7 (fun x => Zfl x a1 b2)).bind fun x6 => some (x6.1, x6.2)
theorem Zii (a1 : (Vector Tern 24)) (b2 : (Vector Tern 24)) (r : ((Vector Tern 24) × Bool)) (h : Z7b a1 b2 = some r) : PCon Tryz.prog 203 [rd (Z3 24 Z4) a1, rd (Z3 24 Z4) b2] (Z1d (rd (Z3 24 Z4) r.1) (rd Z6 r.2)) := by
 refine PCon.of (Con.intro0 Tryz.func203 rfl Tryz.ntmps203 rfl fun w H => ?_)
 unfold Z7b at h
 refine SR <| Ct rfl (Zs 3 rfl rfl (vt rfl)) ?_
 rintro _ ⟨g3, rfl⟩
 refine Ct rfl (Zs 4 rfl rfl (vt rfl)) ?_
 rintro _ ⟨g4, rfl⟩
 refine Ct rfl (Zo 5 rfl rfl Z1j) ?_
 rintro _ ⟨g5, rfl⟩
 refine Ab rfl <| Nl <| AW.seq <| AW.freezeB 2 3 rfl rfl rfl <| AW.freezeB 3 4 rfl rfl rfl ?_
 obtain ⟨x6, hx6, h⟩ := Z1 h
 refine Rg <| Ac (Zoj (fs := []) (FAs := []) (cs := [.tmp 2, .tmp 3]) (CAs := [rp (Z3 24 Z4) a1, rp (Z3 24 Z4) b2]) (kx := (Z0 .i64)) (B := (fun (y : (Tern × Bool)) => Z1d (rd Z4 y.1) (rd Z6 y.2))) (fun x => Zfl x a1 b2) rfl rfl Zzm trivial ⟨vt rfl, vt rfl, trivial⟩ (fun x y h => Zx0 _ _ _ y h)) rfl <| Cl [6] (Zrd _ _ hx6) Zql rfl <| Ac (Z28 rfl rfl (vt rfl)) rfl <| Ac (Z25 rfl rfl (vt rfl)) rfl <| Zh Z01 5 rfl <| As rfl <| Nl <| AW.ret ?_
 obtain rfl := si h
 exact Z2b Tryz.results203 rfl (Z04 rfl (i := 5) rfl Z01) (Zf rfl)
end Go.Proofs.YtknpgojdkobgjaaGreat.W
set_option maxRecDepth 4000
namespace Go.Proofs.YtknpgojdkobgjaaGreat.W
open Go Go.Wb
theorem Y71 : Ent Tryz.prog 157 := Ent.mk Tryz.func157 rfl rfl
theorem Y57 : Ent Tryz.prog 202 := Ent.mk Tryz.func202 rfl rfl
theorem Zja : Ent Tryz.prog 203 := Ent.mk Tryz.func203 rfl rfl
theorem Y3a : Ent Tryz.prog 264 := Ent.mk Tryz.func264 rfl rfl
theorem Zsq : Ent Tryz.prog 263 := Ent.mk Tryz.func263 rfl rfl
theorem Zjd : Ent Tryz.prog 216 := Ent.mk Tryz.func216 rfl rfl
theorem Y0p : Ent Tryz.prog 306 := Ent.mk Tryz.func306 rfl rfl
theorem Zt1 : Ent Tryz.prog 305 := Ent.mk Tryz.func305 rfl rfl
def Zfb (w1 : walk_way) (f2 : Flow) : Option (walk_way × Bool) :=
 (Zdp f2).bind fun x6 => (Zex w1.got x6).bind fun x7 => (bif (!x7.2) then some ((⟨(Vector.replicate 24 Z0h), (Vector.replicate 24 Z0h), [], []⟩ : walk_way), false) else (Z7b x7.1 w1.cube).bind fun x9 => some ({ w1 with cube := x9.1 }, x9.2))
theorem Y5p (w1 : walk_way) (f2 : Flow) (r : (walk_way × Bool)) (h : Zfb w1 f2 = some r) : PCon Tryz.prog 136 [rd Z0c w1, rd Z0o f2] (Z1d (rd Z0c r.1) (rd Z6 r.2)) := by
 refine PCon.of (Con.intro0 Tryz.func136 rfl Tryz.ntmps136 rfl fun w H => ?_)
 unfold Zfb at h
 refine SR <| Ct rfl (Zs 3 rfl rfl (vt rfl)) ?_
 rintro _ ⟨g3, rfl⟩
 refine Ct rfl (Zs 4 rfl rfl (vt rfl)) ?_
 rintro _ ⟨g4, rfl⟩
 refine Ct rfl (Zo 5 rfl rfl Zc6) ?_
 rintro _ ⟨g5, rfl⟩
 refine Ab rfl <| Nl <| AW.seq ?_
 obtain ⟨x6, hx6, h⟩ := Z1 h
 obtain ⟨x7, hx7, h⟩ := Z1 h
 refine AW.regionAny [⟨[2], [9], [], []⟩, ⟨[9], [10], [3], []⟩, ⟨[3], [11], [4], []⟩, ⟨[11], [12], [], []⟩, ⟨[10, 12], [13], [], []⟩, ⟨[13], [8], [], []⟩, ⟨[8], [14], [], []⟩, ⟨[8], [15], [], []⟩, ⟨[], [6], [], []⟩, ⟨[6, 14], [6], [], []⟩, ⟨[15], [7], [], []⟩] Z05 (by kernel_rfl) <| SFd Zay Zf3 rfl <| SLd Z0d 3 rfl <| SLd Zbm 4 rfl <| SCl [11] (Y0y _ _ hx6) Y71 rfl <| SCl [10, 12] (Zvz _ _ _ hx7) Y57 rfl <| Sc (lo [13] [] rfl fun S hs hr => Zq (A := Z1d (rd (Z3 24 Z4) x7.1) (rd Z6 x7.2)) rfl rfl (vh hs 13 rfl rfl)) rfl <| Sc (lo [8] [] rfl fun S hs hr => Z28 rfl rfl (vh hs 8 rfl rfl)) rfl <| Sc (lo [8] [] rfl fun S hs hr => Z25 rfl rfl (vh hs 8 rfl rfl)) rfl <| Sc (Z2e (us := [(6, Z37 87 (Z3 24 Z4) (Vector.replicate 24 Z0h))]) (ur := []) [] [] rfl fun S hs hr => Zcg rfl rfl rfl Z1j) rfl <| Sc (Z2e (us := [(6, Z37 87 (Z3 24 Z4) x7.1)]) (ur := []) [6, 14] [] rfl fun S hs hr => Zb5 rfl rfl Z01 ((hs 6 rfl).trans rfl) (vh hs 14 rfl rfl)) rfl <| SAs rfl <| AW.unpackP 6 7 rfl rfl fun g8 => AW.seq <| SR <| Md rfl <| Ac (Z0x rfl rfl (vt rfl)) rfl <| Nl <| Cn rfl (fun hc => ?_) (fun hc => ?_)
 ·have h := Zj hc h
  refine SR <| Ac (Z03 (ps := []) (x := (⟨(Vector.replicate 24 Z0h), (Vector.replicate 24 Z0h), [], []⟩ : walk_way)) rfl rfl rfl (by kernel_rfl) Zc6 rfl) rfl <| Zh Z23 5 rfl <| Ab rfl <| Nl <| AW.ret ?_
  obtain rfl := si h
  exact Z2b Tryz.results136 rfl (Z04 rfl (i := 5) rfl Z23) (Zf rfl)
 ·have h := Zk hc h
  refine AW.skip <| AW.seq ?_
  obtain ⟨x9, hx9, h⟩ := Z1 h
  refine Rg <| Ld Z01 7 rfl <| Zt Zev Zlj rfl <| Ld Z01 3 rfl <| Cl [20, 22] (Zii _ _ _ hx9) Zja rfl <| Mt2 rfl <| Ac (Z28 rfl rfl (vt rfl)) rfl <| Ac (Z25 rfl rfl (vt rfl)) rfl <| Zt Zev Zlj rfl <| Zh Z01 3 rfl <| As rfl <| Nl <| SR <| Ld Z23 3 rfl <| Md rfl <| Zh Z23 5 rfl <| As rfl <| Nl <| AW.ret ?_
  obtain rfl := si h
  exact Z2b Tryz.results136 rfl (Z04 rfl (i := 5) rfl Z23) (Zf rfl)
def Zdt (i1 : Inst) (cp2 : Int) : Option Bool :=
 some (decide (i1.Kind = cp2))
theorem Y35 (i1 : Inst) (cp2 : Int) (r : Bool) (h : Zdt i1 cp2 = some r) : PCon Tryz.prog 264 [rd Z0s i1, rp (Z0 .i64) cp2] (rd Z6 r) := by
 refine PCon.of (Con.intro0 Tryz.func264 rfl Tryz.ntmps264 rfl fun w H => ?_)
 unfold Zdt at h
 refine SR <| Ct rfl (Zs 3 rfl rfl (vt rfl)) ?_
 rintro _ ⟨g3, rfl⟩
 refine Ab rfl <| Nl <| SR <| Zt Zgv Y8g rfl <| Ld Zu 3 rfl <| Lp1 Zu rfl <| Ac (Z1l rfl rfl (vt rfl) (vt rfl)) rfl <| As rfl <| Nl <| AW.ret ?_
 obtain rfl := si h
 exact Zg Tryz.results264 rfl (Zf rfl)
def Z7v (s1 : (List Inst)) (f2 : (Inst → Option Bool)) : Nat → Nat → Option Int
 | 0, i3 => some (-1)
 | m4 + 1, i3 => (lget s1 (i3 : Int)).bind fun e5 => (f2 e5).bind fun x6 => (bif x6 then some (i3 : Int) else (Z7v s1 f2 m4) (i3 + 1))
def Zbx (s1 : (List Inst)) (f2 : (Inst → Option Bool)) : Option Int :=
 Z7v s1 f2 ((s1.length : Int) : Int).toNat 0
theorem Zv1 (s1 : (List Inst)) (f2 : (Inst → Option Bool)) (r : Int) (h : Zbx s1 f2 = some r) : PCon Tryz.prog 263 [rd (Z2 Z0s) s1, fn1 Tryz.prog Z0s Z6 f2] (rd (Z0 .i64) r) := by
 refine PCon.of (Con.intro0 Tryz.func263 rfl Tryz.ntmps263 rfl fun w H => ?_)
 unfold Zbx at h
 refine SR <| Ak rfl <| Nl <| AW.seq <| SR <| Md rfl <| Ac (Z0k rfl rfl Zbv (vt rfl)) rfl <| Mk rfl <| Nl <| AW.block <| AW.loopG (d := []) (ν := Nat × Nat) (fun n => Cnt (s1.length : Int) n.2 n.1 ∧ Z7v s1 f2 n.1 n.2 = some r) (fun n => n.1) (fun n => [(0, rd (Z2 Z0s) s1), (1, fn1 Tryz.prog Z0s Z6 f2), (7, rd (Z0 .i64) (s1.length : Int)), (8, rd (Z0 .i64) (n.2 : Int))]) (fun n => []) (((s1.length : Int) : Int).toNat, 0) ⟨Cnt.start _, h⟩ ⟨rfl, ⟨rfl, rfl, rfl, rfl, trivial⟩, trivial⟩ ?_
 rintro ⟨m4, i3⟩ ⟨hsf1, h⟩
 change Cnt (s1.length : Int) i3 m4 at hsf1
 change Z7v s1 f2 m4 i3 = some r at h
 change AW _ _ _ ⟨Zw [(0, rd (Z2 Z0s) s1), (1, fn1 Tryz.prog Z0s Z6 f2), (7, rd (Z0 .i64) (s1.length : Int)), (8, rd (Z0 .i64) (i3 : Int))], Zx [], _⟩
 cases m4 with
 | zero =>
  unfold Z7v at h
  refine SR <| Ac (Zi rfl rfl (vt rfl) (vt rfl)) rfl <| Nl <| AW.seq <| Cn rfl (fun hc => absurd (of_decide_eq_true hc) hsf1.zero) (fun hc => ?_)
  refine AW.exit <| SR <| Ak rfl <| Nl <| AW.ret ?_
  obtain rfl := si h
  exact Zg Tryz.results263 rfl (Zf rfl)
 | succ m4 =>
  unfold Z7v at h
  generalize hgo1 : Z7v s1 f2 m4 = go1 at h
  refine SR <| Ac (Zi rfl rfl (vt rfl) (vt rfl)) rfl <| Nl <| AW.seq <| Cn rfl (fun hc => ?_) (fun hc => absurd hsf1.succ (of_decide_eq_false hc))
  have hlti3 := of_decide_eq_true hc
  refine AW.skip <| AW.seq <| AW.block <| SR <| Md rfl <| As rfl <| Nl <| AW.seq ?_
  obtain ⟨e5, he5, h⟩ := Z1 h
  obtain ⟨x6, hx6, h⟩ := Z1 h
  refine Rg <| Ac (Zq (A := fn1 Tryz.prog Z0s Z6 f2) rfl rfl (vt rfl)) rfl <| Md rfl <| Md rfl <| Ac (Z10 rfl rfl Zbv (vt rfl) (vt rfl) he5) rfl <| Lp1 Z4l rfl <| Ac (Z8s hx6 rfl rfl (vt rfl) (vt rfl)) rfl <| Nl <| Cn rfl (fun hc => ?_) (fun hc => ?_)
  ·have h := Zj hc h
   refine SR <| Md rfl <| As rfl <| Nl <| AW.ret ?_
   obtain rfl := si h
   exact Zg Tryz.results263 rfl (Zf rfl)
  ·have h := Zk hc h
   refine AW.skip <| Rg <| Ac (Z17 (t := 7) rfl rfl (vt rfl) (vk rfl) (vt rfl) hlti3) rfl <| Md rfl <| Nl ?_
   subst hgo1
   exact ⟨(m4, i3 + 1), Nat.lt_succ_self _, ⟨hsf1.next, h⟩, ⟨rfl, ⟨rfl, rfl, rfl, rfl, trivial⟩, trivial⟩⟩
def Z5v (s : List Action) : Option (List Action) := Z1o [] s
theorem Zjr (s : List Action) (r : List Action) (h : Z5v s = some r) : Con Tryz.prog 216 [rd (Z2 Z5) s] emp (fun v => Za v) (fun v => Z9 v 121 Z5 r) := by
 refine Con.intro0 Tryz.func216 rfl Tryz.ntmps216 rfl fun w H => ?_
 unfold Z5v at h
 refine AW.newnil 1001 121 Z5 <| SR <| Ac (Z0j (A := Za (.slice none 0 0)) rfl rfl vc) rfl <| Nl <| AW.seq <| SR <| Md rfl <| Ct rfl (Zdx rfl rfl Z0n (vt rfl)) ?_
 rintro _ ⟨b, hb, rfl⟩
 refine Nl <| Cn rfl (fun hc => ?_) (fun hc => ?_)
 ·obtain rfl := hb hc
  refine SR <| Ac (Z0j (A := Za (.slice none 0 0)) rfl rfl vc) rfl <| Nl <| AW.ret ?_
  obtain rfl := (Z8f h).2
  exact Z4g (i := 1001) Tryz.results216 rfl rfl rfl
 ·refine AW.skip <| SR <| Ct rfl (Zf1 1002 (ps := []) (l := []) rfl rfl Z0n Z72 rfl rfl rfl rfl) ?_
  rintro _ ⟨v1, rfl⟩
  refine Md rfl <| Ct rfl (Z5t 1002 h rfl rfl Zss (vt rfl) rfl (vt rfl)) ?_
  rintro _ ⟨v2, rfl⟩
  refine Aw rfl <| Nl <| AW.ret ?_
  exact Z4g (i := 1002) Tryz.results216 rfl rfl rfl
theorem Zr9 (s : List Action) (r : List Action) (h : Z5v s = some r) : PCon Tryz.prog 216 [rd (Z2 Z5) s] (rd (Z2 Z5) r) := PCon.of_row (Zjr s r h)
def Z7n (l1 : (List Inst)) (kind2 : Int) : Option (Inst × Bool) :=
 (Zbx l1 (fun x => Zdt x kind2)).bind fun x5 => (bif (decide (x5 < 0)) then some ((⟨0, 0, Zy, Zy, []⟩ : Inst), false) else (lget l1 x5).bind fun e6 => (Z5v e6.Acts).bind fun x8 => some ({ e6 with Acts := x8 }, true))
theorem Ze5 (l1 : (List Inst)) (kind2 : Int) (r : (Inst × Bool)) (h : Z7n l1 kind2 = some r) : PCon Tryz.prog 204 [rd (Z2 Z0s) l1, rd (Z0 .i64) kind2] (Z1d (rd Z0s r.1) (rd Z6 r.2)) := by
 refine PCon.of (Con.intro0 Tryz.func204 rfl Tryz.ntmps204 rfl fun w H => ?_)
 unfold Z7n at h
 refine SR <| Ct rfl (Zs 4 rfl rfl (vt rfl)) ?_
 rintro _ ⟨g3, rfl⟩
 refine Ct rfl (Zo 5 rfl rfl Z4s) ?_
 rintro _ ⟨g4, rfl⟩
 refine Ab rfl <| Nl <| AW.seq <| AW.freezeB 3 4 rfl rfl rfl ?_
 obtain ⟨x5, hx5, h⟩ := Z1 h
 refine Rg <| Md rfl <| Ac (Z8w (cs := [.tmp 3]) (CAs := [rp (Z0 .i64) kind2]) (fun x => Zdt x kind2) rfl rfl Y3a ⟨vt rfl, trivial⟩ (fun x y h => Y35 _ _ y h)) rfl <| Cl [8, 9] (Zv1 _ _ _ hx5) Zsq rfl <| As rfl <| Nl <| AW.seq <| SR <| Md rfl <| Ac (Zi rfl rfl (vt rfl) (vk rfl)) rfl <| Nl <| Cn rfl (fun hc => ?_) (fun hc => ?_)
 ·have h := Zj hc h
  refine SR <| Ac (Z03 (ps := []) (x := (⟨0, 0, Zy, Zy, []⟩ : Inst)) rfl rfl rfl (by kernel_rfl) Z4s rfl) rfl <| Zh Z4l 5 rfl <| Ab rfl <| Nl <| AW.ret ?_
  obtain rfl := si h
  exact Z2b Tryz.results204 rfl (Z04 rfl (i := 5) rfl Z4l) (Zf rfl)
 ·have h := Zk hc h
  refine AW.skip <| AW.seq ?_
  obtain ⟨e6, he6, h⟩ := Z1 h
  refine Rg <| Md rfl <| Md rfl <| Ac (Z10 rfl rfl Zbv (vt rfl) (vt rfl) he6) rfl <| Lp1 Z4l rfl <| Ct rfl (Zo 8 rfl rfl Z4s) ?_
  rintro _ ⟨g7, rfl⟩
  refine Zh Z4l 8 rfl <| Nl <| AW.seq ?_
  obtain ⟨x8, hx8, h⟩ := Z1 h
  refine Rg <| Zt Z9i Zge rfl <| Ld Z49 8 rfl <| Cl [19] (Zr9 _ _ hx8) Zjd rfl <| Zt Z9i Zge rfl <| Zh Z49 8 rfl <| Nl <| SR <| Ld Z4l 8 rfl <| Zh Z4l 5 rfl <| Ab rfl <| Nl <| AW.ret ?_
  obtain rfl := si h
  exact Z2b Tryz.results204 rfl (Z04 rfl (i := 5) rfl Z4l) (Zf rfl)
def Zd2 (i1 : Int) (cp2 : (Vector Tern 24)) : Option Tern :=
 (chk 24 i1).bind fun j4 => (Z4x (Vector.get cp2 j4)).bind fun x5 => some x5
theorem Zze (i1 : Int) (cp2 : (Vector Tern 24)) (r : Tern) (h : Zd2 i1 cp2 = some r) : PCon Tryz.prog 306 [rd (Z0 .i64) i1, rp (Z3 24 Z4) cp2] (rd Z4 r) := by
 refine PCon.of (Con.intro0 Tryz.func306 rfl Tryz.ntmps306 rfl fun w H => ?_)
 unfold Zd2 at h
 refine SR <| Ct rfl (Zo 4 rfl rfl Z1k) ?_
 rintro _ ⟨g3, rfl⟩
 refine Nl <| AW.seq ?_
 obtain ⟨j4, hj4, h⟩ := Z1 h
 obtain ⟨x5, hx5, h⟩ := Z1 h
 refine Rg <| Md rfl <| Ac (Z5x rfl rfl Z7h (vt rfl) (vt rfl) hj4) rfl <| Lp1 Zz rfl <| Cl [6] (Z7w _ _ hx5) Z7l rfl <| Zh Zz 4 rfl <| Nl <| AW.ret ?_
 obtain rfl := si h
 exact Zg Tryz.results306 rfl (Z04 rfl (i := 4) rfl Zz)
def Z5d (f1 : (Int → Option Tern)) : Nat → Nat → (Vector Tern 24) → Option (Vector Tern 24)
 | 0, i6, b5 => some b5
 | m7 + 1, i6, b5 => (f1 (i6 : Int)).bind fun x8 => (chk 24 (i6 : Int)).bind fun j9 => (Z5d f1 m7) (i6 + 1) (Vector.set b5 j9.1 x8 j9.2)
def Zd8 (f1 : (Int → Option Tern)) : Option (Vector Tern 24) :=
 Z5d f1 (24 : Int).toNat 0 (Vector.replicate 24 Z0h)
theorem Zt8 (f1 : (Int → Option Tern)) (r : (Vector Tern 24)) (h : Zd8 f1 = some r) : PCon Tryz.prog 305 [fn1 Tryz.prog (Z0 .i64) Z4 f1] (rd (Z3 24 Z4) r) := by
 refine PCon.of (Con.intro0 Tryz.func305 rfl Tryz.ntmps305 rfl fun w H => ?_)
 unfold Zd8 at h
 refine SR <| Ct rfl (Zo 3 rfl rfl Z5p) ?_
 rintro _ ⟨g2, rfl⟩
 refine Nl <| SR <| Ct rfl (Zo 4 rfl rfl Z5p) ?_
 rintro _ ⟨g3, rfl⟩
 refine Nl <| AW.seq <| SR <| Mk rfl <| Nl <| AW.block <| AW.loopG (d := []) (ν := Nat × Nat × (Vector Tern 24)) (fun n => Cnt 24 n.2.1 n.1 ∧ Z5d f1 n.1 n.2.1 n.2.2 = some r) (fun n => n.1) (fun n => [(0, fn1 Tryz.prog (Z0 .i64) Z4 f1), (2, Zb g2 (Lens.id (Z3 24 Z4))), (3, Zb g3 (Lens.id (Z3 24 Z4))), (5, rd (Z0 .i64) (n.2.1 : Int))]) (fun n => [(3, Zd g2 101 (Z3 24 Z4) (Vector.replicate 24 Z0h)), (4, Zd g3 101 (Z3 24 Z4) n.2.2)]) ((24 : Int).toNat, 0, (Vector.replicate 24 Z0h)) ⟨Cnt.start _, h⟩ ⟨rfl, ⟨rfl, rfl, rfl, rfl, trivial⟩, ⟨rfl, rfl, trivial⟩⟩ ?_
 rintro ⟨m7, i6, b5⟩ ⟨hsf1, h⟩
 change Cnt 24 i6 m7 at hsf1
 change Z5d f1 m7 i6 b5 = some r at h
 change AW _ _ _ ⟨Zw [(0, fn1 Tryz.prog (Z0 .i64) Z4 f1), (2, Zb g2 (Lens.id (Z3 24 Z4))), (3, Zb g3 (Lens.id (Z3 24 Z4))), (5, rd (Z0 .i64) (i6 : Int))], Zx [(3, Zd g2 101 (Z3 24 Z4) (Vector.replicate 24 Z0h)), (4, Zd g3 101 (Z3 24 Z4) b5)], _⟩
 cases m7 with
 | zero =>
  unfold Z5d at h
  refine SR <| Ac (Zi rfl rfl (vt rfl) (vk rfl)) rfl <| Nl <| AW.seq <| Cn rfl (fun hc => absurd (of_decide_eq_true hc) hsf1.zero) (fun hc => ?_)
  refine AW.exit <| SR <| Ld Z0d 4 rfl <| Zh Z0d 3 rfl <| Nl <| AW.ret ?_
  obtain rfl := si h
  exact Zg Tryz.results305 rfl (Z04 rfl (i := 3) rfl Z0d)
 | succ m7 =>
  unfold Z5d at h
  generalize hgo1 : Z5d f1 m7 = go1 at h
  refine SR <| Ac (Zi rfl rfl (vt rfl) (vk rfl)) rfl <| Nl <| AW.seq <| Cn rfl (fun hc => ?_) (fun hc => absurd hsf1.succ (of_decide_eq_false hc))
  have hlti6 := of_decide_eq_true hc
  refine AW.skip <| AW.seq <| AW.block <| SR <| Md rfl <| As rfl <| Nl ?_
  obtain ⟨x8, hx8, h⟩ := Z1 h
  obtain ⟨j9, hj9, h⟩ := Z1 h
  refine Rg <| Md rfl <| Ac (Zq (A := fn1 Tryz.prog (Z0 .i64) Z4 f1) rfl rfl (vt rfl)) rfl <| Md rfl <| Ac (Z8s hx8 rfl rfl (vt rfl) (vt rfl)) rfl <| Ac (Z2o rfl rfl Z7h (vt rfl) (vt rfl) hj9) rfl <| Zh Zz 4 rfl <| Nl <| Rg <| Ac (Z5q rfl rfl (vt rfl) (vk rfl) rfl hlti6) rfl <| Md rfl <| Nl ?_
  subst hgo1
  exact ⟨(m7, i6 + 1, (Vector.set b5 j9.1 x8 j9.2)), Nat.lt_succ_self _, ⟨hsf1.next, h⟩, ⟨rfl, ⟨rfl, rfl, rfl, rfl, trivial⟩, ⟨rfl, rfl, trivial⟩⟩⟩
def Z8o (r1 : (Vector Tern 24)) : Option (Vector Tern 24) :=
 (Zd8 (fun x => Zd2 x r1)).bind fun x4 => some x4
theorem Zh6 (r1 : (Vector Tern 24)) (r : (Vector Tern 24)) (h : Z8o r1 = some r) : PCon Tryz.prog 268 [rd (Z3 24 Z4) r1] (rd (Z3 24 Z4) r) := by
 refine PCon.of (Con.intro0 Tryz.func268 rfl Tryz.ntmps268 rfl fun w H => ?_)
 unfold Z8o at h
 refine SR <| Ct rfl (Zs 2 rfl rfl (vt rfl)) ?_
 rintro _ ⟨g2, rfl⟩
 refine Ct rfl (Zo 3 rfl rfl Z5p) ?_
 rintro _ ⟨g3, rfl⟩
 refine Nl <| AW.seq <| AW.freezeB 1 2 rfl rfl rfl ?_
 obtain ⟨x4, hx4, h⟩ := Z1 h
 refine Rg <| Ac (Z8w (cs := [.tmp 1]) (CAs := [rp (Z3 24 Z4) r1]) (fun x => Zd2 x r1) rfl rfl Y0p ⟨vt rfl, trivial⟩ (fun x y h => Zze _ _ y h)) rfl <| Cl [3] (Zt8 _ _ hx4) Zt1 rfl <| Zh Z0d 3 rfl <| Nl <| AW.ret ?_
 obtain rfl := si h
 exact Zg Tryz.results268 rfl (Z04 rfl (i := 3) rfl Z0d)
def Zfz (a1 : Tern) (b2 : Tern) : Option Tern :=
 (Z4x a1).bind fun x6 => (Z4x b2).bind fun x7 => (Z8b x6.Value x7.Mask).bind fun x8 => (Z80 x8 x7.Value).bind fun x9 => (Z80 x6.Mask x7.Mask).bind fun x10 => some (⟨x9, x10⟩ : Tern)
theorem Zrl (a1 : Tern) (b2 : Tern) (r : Tern) (h : Zfz a1 b2 = some r) : PCon Tryz.prog 270 [rd Z4 a1, rd Z4 b2] (rd Z4 r) := by
 refine PCon.of (Con.intro0 Tryz.func270 rfl Tryz.ntmps270 rfl fun w H => ?_)
 unfold Zfz at h
 refine SR <| Ct rfl (Zs 3 rfl rfl (vt rfl)) ?_
 rintro _ ⟨g3, rfl⟩
 refine Ct rfl (Zs 4 rfl rfl (vt rfl)) ?_
 rintro _ ⟨g4, rfl⟩
 refine Ct rfl (Zo 5 rfl rfl Z1k) ?_
 rintro _ ⟨g5, rfl⟩
 refine Nl <| AW.seq ?_
 obtain ⟨x6, hx6, h⟩ := Z1 h
 obtain ⟨x7, hx7, h⟩ := Z1 h
 refine AW.regionAny [⟨[2], [5], [3], []⟩, ⟨[5], [6], [], []⟩, ⟨[3], [7], [4], []⟩, ⟨[7], [8], [], []⟩, ⟨[2, 6], [], [3], [3]⟩, ⟨[3, 8], [], [4], [4]⟩] Z05 (by kernel_rfl) <| SLd Zz 3 rfl <| SCl [5] (Z7w _ _ hx6) Z7l rfl <| SLd Zz 4 rfl <| SCl [7] (Z7w _ _ hx7) Z7l rfl <| SSt Zz 3 rfl <| SSt Zz 4 rfl <| AW.seq ?_
 obtain ⟨x8, hx8, h⟩ := Z1 h
 obtain ⟨x9, hx9, h⟩ := Z1 h
 obtain ⟨x10, hx10, h⟩ := Z1 h
 refine AW.regionAny [⟨[2], [9], [], []⟩, ⟨[9], [10], [3], []⟩, ⟨[3], [11], [], []⟩, ⟨[11], [12], [4], []⟩, ⟨[10, 12], [13], [], []⟩, ⟨[3], [14], [], []⟩, ⟨[14], [15], [4], []⟩, ⟨[13, 15], [16], [], []⟩, ⟨[2], [17], [], []⟩, ⟨[17], [18], [3], []⟩, ⟨[3], [19], [], []⟩, ⟨[19], [20], [4], []⟩, ⟨[18, 20], [21], [], []⟩, ⟨[16, 21], [22], [], []⟩, ⟨[4, 22], [], [5], [5]⟩] Z05 (by kernel_rfl) <| SFd Z1p Z38 rfl <| SLd Z00 3 rfl <| SFd Z1g Z2h rfl <| SLd Z00 4 rfl <| SCl [10, 12] (Ze6 _ _ _ hx8) Zgd rfl <| SFd Z1p Z38 rfl <| SLd Z00 4 rfl <| SCl [13, 15] (Zb0 _ _ _ hx9) Zdd rfl <| SFd Z1g Z2h rfl <| SLd Z00 3 rfl <| SFd Z1g Z2h rfl <| SLd Z00 4 rfl <| SCl [18, 20] (Zb0 _ _ _ hx10) Zdd rfl <| Sc (lo [16, 21] [] rfl fun S hs hr => Z03 (ps := [(0, .tmp 16), (1, .tmp 21)]) (x := (⟨x9, x10⟩ : Tern)) rfl rfl rfl (by kernel_rfl) Z1k ⟨_, _, Z1p, _, by kernel_rfl, (vh hs 16 rfl rfl), _, _, Z1g, _, by kernel_rfl, (vh hs 21 rfl rfl), rfl⟩) rfl <| SSt Zz 5 rfl <| AW.ret ?_
 obtain rfl := si h
 exact Zg Tryz.results270 rfl (Z04 rfl (i := 5) rfl Zz)
end Go.Proofs.YtknpgojdkobgjaaGreat.W
