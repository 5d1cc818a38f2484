/- A part of the proof. -/
import Derived.Test.YtknpgojdkobgjaaGreatL1
import Derived.Test.YtknpgojdkobgjaaGreatProg
import Derived.KernelRfl
set_option linter.unusedVariables false
set_option maxRecDepth 4000
set_option linter.unusedSimpArgs false
namespace Go.Proofs.YtknpgojdkobgjaaGreat.W
open Go Go.Wb
structure Wide where
 Hi : (BitVec 64)
 Lo : (BitVec 64)
 deriving DecidableEq, Inhabited
def Zn : Kd Wide := Z1l (Zd Z0o Z0o) (fun x => (x.Hi, x.Lo))
instance : PureK Zn := inferInstanceAs (PureK (Z1l (Zd Z0o Z0o) (fun (x : Wide) => (x.Hi, x.Lo))))
def Z22 : Lens Zn Z0o := Lens.iso (k := (Zd Z0o Z0o)) (Lens.fst _ _) Wide.Hi (fun x y => { x with Hi := y }) (fun _ => rfl) (fun _ _ => rfl)
def Z21 : Lens Zn Z0o := Lens.iso (k := (Zd Z0o Z0o)) (Lens.snd _ _) Wide.Lo (fun x y => { x with Lo := y }) (fun _ => rfl) (fun _ _ => rfl)
def Z05 : Wide := ⟨0, 0⟩
theorem Z9l : KZ Zn Z05 [(Value.int IntKind.u64 0), (Value.int IntKind.u64 0)] := Z3j (Z1c Zn5 Zn5)
structure Tern where
 Value : Wide
 Mask : Wide
 deriving DecidableEq, Inhabited
def Z3 : Kd Tern := Z1l (Zd Zn Zn) (fun x => (x.Value, x.Mask))
instance : PureK Z3 := inferInstanceAs (PureK (Z1l (Zd Zn Zn) (fun (x : Tern) => (x.Value, x.Mask))))
def Z1a : Lens Z3 Zn := Lens.iso (k := (Zd Zn Zn)) (Lens.fst _ _) Tern.Value (fun x y => { x with Value := y }) (fun _ => rfl) (fun _ _ => rfl)
def Z0z : Lens Z3 Zn := Lens.iso (k := (Zd Zn Zn)) (Lens.snd _ _) Tern.Mask (fun x y => { x with Mask := y }) (fun _ => rfl) (fun _ _ => rfl)
def zTern : Tern := ⟨Z05, Z05⟩
theorem Za3 : KZ Z3 zTern [(Value.int IntKind.u64 0), (Value.int IntKind.u64 0), (Value.int IntKind.u64 0), (Value.int IntKind.u64 0)] := Z3j (Z1c Z9l Z9l)
structure Oxm where
 Field : Int
 Masked : Bool
 Value : Wide
 Mask : Wide
 deriving DecidableEq, Inhabited
def Z1v : Kd Oxm := Z1l (Zd (Z0 .i64) (Zd Z8 (Zd Zn Zn))) (fun x => (x.Field, (x.Masked, (x.Value, x.Mask))))
instance : PureK Z1v := inferInstanceAs (PureK (Z1l (Zd (Z0 .i64) (Zd Z8 (Zd Zn Zn))) (fun (x : Oxm) => (x.Field, (x.Masked, (x.Value, x.Mask))))))
def Z46 : Lens Z1v (Z0 .i64) := Lens.iso (k := (Zd (Z0 .i64) (Zd Z8 (Zd Zn Zn)))) (Lens.fst _ _) Oxm.Field (fun x y => { x with Field := y }) (fun _ => rfl) (fun _ _ => rfl)
def Zq4 : Lens Z1v Z8 := Lens.iso (k := (Zd (Z0 .i64) (Zd Z8 (Zd Zn Zn)))) (Lens.comp (Lens.snd _ _) (Lens.fst _ _)) Oxm.Masked (fun x y => { x with Masked := y }) (fun _ => rfl) (fun _ _ => rfl)
def Zif : Lens Z1v Zn := Lens.iso (k := (Zd (Z0 .i64) (Zd Z8 (Zd Zn Zn)))) (Lens.comp (Lens.comp (Lens.snd _ _) (Lens.snd _ _)) (Lens.fst _ _)) Oxm.Value (fun x y => { x with Value := y }) (fun _ => rfl) (fun _ _ => rfl)
def Zr3 : Lens Z1v Zn := Lens.iso (k := (Zd (Z0 .i64) (Zd Z8 (Zd Zn Zn)))) (Lens.comp (Lens.comp (Lens.snd _ _) (Lens.snd _ _)) (Lens.snd _ _)) Oxm.Mask (fun x y => { x with Mask := y }) (fun _ => rfl) (fun _ _ => rfl)
def Z36 : Oxm := ⟨0, false, Z05, Z05⟩
theorem Zw8 : KZ Z1v Z36 [(Value.int IntKind.i64 0), (Value.bool false), (Value.int IntKind.u64 0), (Value.int IntKind.u64 0), (Value.int IntKind.u64 0), (Value.int IntKind.u64 0)] := Z3j (Z1c Z2m (Z1c Zhv (Z1c Z9l Z9l)))
structure Action where
 Kind : Int
 Port : Int
 Max : Int
 Group : Int
 Ether : Int
 Oxm : Oxm
 deriving DecidableEq, Inhabited
def Z5 : Kd Action := Z1l (Zd (Z0 .i64) (Zd (Z0 .i64) (Zd (Z0 .i64) (Zd (Z0 .i64) (Zd (Z0 .i64) Z1v))))) (fun x => (x.Kind, (x.Port, (x.Max, (x.Group, (x.Ether, x.Oxm))))))
instance : PureK Z5 := inferInstanceAs (PureK (Z1l (Zd (Z0 .i64) (Zd (Z0 .i64) (Zd (Z0 .i64) (Zd (Z0 .i64) (Zd (Z0 .i64) Z1v))))) (fun (x : Action) => (x.Kind, (x.Port, (x.Max, (x.Group, (x.Ether, x.Oxm))))))))
def Z45 : Lens Z5 (Z0 .i64) := Lens.iso (k := (Zd (Z0 .i64) (Zd (Z0 .i64) (Zd (Z0 .i64) (Zd (Z0 .i64) (Zd (Z0 .i64) Z1v)))))) (Lens.fst _ _) Action.Kind (fun x y => { x with Kind := y }) (fun _ => rfl) (fun _ _ => rfl)
def Zgk : Lens Z5 (Z0 .i64) := Lens.iso (k := (Zd (Z0 .i64) (Zd (Z0 .i64) (Zd (Z0 .i64) (Zd (Z0 .i64) (Zd (Z0 .i64) Z1v)))))) (Lens.comp (Lens.snd _ _) (Lens.fst _ _)) Action.Port (fun x y => { x with Port := y }) (fun _ => rfl) (fun _ _ => rfl)
def Zo4 : Lens Z5 (Z0 .i64) := Lens.iso (k := (Zd (Z0 .i64) (Zd (Z0 .i64) (Zd (Z0 .i64) (Zd (Z0 .i64) (Zd (Z0 .i64) Z1v)))))) (Lens.comp (Lens.comp (Lens.snd _ _) (Lens.snd _ _)) (Lens.fst _ _)) Action.Max (fun x y => { x with Max := y }) (fun _ => rfl) (fun _ _ => rfl)
def Zqh : Lens Z5 (Z0 .i64) := Lens.iso (k := (Zd (Z0 .i64) (Zd (Z0 .i64) (Zd (Z0 .i64) (Zd (Z0 .i64) (Zd (Z0 .i64) Z1v)))))) (Lens.comp (Lens.comp (Lens.comp (Lens.snd _ _) (Lens.snd _ _)) (Lens.snd _ _)) (Lens.fst _ _)) Action.Group (fun x y => { x with Group := y }) (fun _ => rfl) (fun _ _ => rfl)
def Z7e : Lens Z5 Z1v := Lens.iso (k := (Zd (Z0 .i64) (Zd (Z0 .i64) (Zd (Z0 .i64) (Zd (Z0 .i64) (Zd (Z0 .i64) Z1v)))))) (Lens.comp (Lens.comp (Lens.comp (Lens.comp (Lens.snd _ _) (Lens.snd _ _)) (Lens.snd _ _)) (Lens.snd _ _)) (Lens.snd _ _)) Action.Oxm (fun x y => { x with Oxm := y }) (fun _ => rfl) (fun _ _ => rfl)
def Zli : Action := ⟨0, 0, 0, 0, 0, Z36⟩
theorem Ydy : KZ Z5 Zli [(Value.int IntKind.i64 0), (Value.int IntKind.i64 0), (Value.int IntKind.i64 0), (Value.int IntKind.i64 0), (Value.int IntKind.i64 0), (Value.int IntKind.i64 0), (Value.bool false), (Value.int IntKind.u64 0), (Value.int IntKind.u64 0), (Value.int IntKind.u64 0), (Value.int IntKind.u64 0)] := Z3j (Z1c Z2m (Z1c Z2m (Z1c Z2m (Z1c Z2m (Z1c Z2m Zw8)))))
structure Inst where
 Kind : Int
 Table : Int
 Value : Wide
 Mask : Wide
 Acts : (List Action)
 deriving DecidableEq, Inhabited
def Z0u : Kd Inst := Z1l (Zd (Z0 .i64) (Zd (Z0 .i64) (Zd Zn (Zd Zn (Z4 Z5))))) (fun x => (x.Kind, (x.Table, (x.Value, (x.Mask, x.Acts)))))
def Zhb : Lens Z0u (Z0 .i64) := Lens.iso (k := (Zd (Z0 .i64) (Zd (Z0 .i64) (Zd Zn (Zd Zn (Z4 Z5)))))) (Lens.fst _ _) Inst.Kind (fun x y => { x with Kind := y }) (fun _ => rfl) (fun _ _ => rfl)
def Zak : Lens Z0u (Z0 .i64) := Lens.iso (k := (Zd (Z0 .i64) (Zd (Z0 .i64) (Zd Zn (Zd Zn (Z4 Z5)))))) (Lens.comp (Lens.snd _ _) (Lens.fst _ _)) Inst.Table (fun x y => { x with Table := y }) (fun _ => rfl) (fun _ _ => rfl)
def Zqp : Lens Z0u Zn := Lens.iso (k := (Zd (Z0 .i64) (Zd (Z0 .i64) (Zd Zn (Zd Zn (Z4 Z5)))))) (Lens.comp (Lens.comp (Lens.snd _ _) (Lens.snd _ _)) (Lens.fst _ _)) Inst.Value (fun x y => { x with Value := y }) (fun _ => rfl) (fun _ _ => rfl)
def Znu : Lens Z0u Zn := Lens.iso (k := (Zd (Z0 .i64) (Zd (Z0 .i64) (Zd Zn (Zd Zn (Z4 Z5)))))) (Lens.comp (Lens.comp (Lens.comp (Lens.snd _ _) (Lens.snd _ _)) (Lens.snd _ _)) (Lens.fst _ _)) Inst.Mask (fun x y => { x with Mask := y }) (fun _ => rfl) (fun _ _ => rfl)
def Z8l : Lens Z0u (Z4 Z5) := Lens.iso (k := (Zd (Z0 .i64) (Zd (Z0 .i64) (Zd Zn (Zd Zn (Z4 Z5)))))) (Lens.comp (Lens.comp (Lens.comp (Lens.snd _ _) (Lens.snd _ _)) (Lens.snd _ _)) (Lens.snd _ _)) Inst.Acts (fun x y => { x with Acts := y }) (fun _ => rfl) (fun _ _ => rfl)
def Zm9 : Inst := ⟨0, 0, Z05, Z05, []⟩
theorem Ycf : KZ Z0u Zm9 [(Value.int IntKind.i64 0), (Value.int IntKind.i64 0), (Value.int IntKind.u64 0), (Value.int IntKind.u64 0), (Value.int IntKind.u64 0), (Value.int IntKind.u64 0), (Value.slice none 0 0)] := Z3j (Z1c Z2m (Z1c Z2m (Z1c Z9l (Z1c Z9l (Z5p _)))))
structure Flow where
 Cookie : (BitVec 64)
 Priority : Int
 Idle : Int
 Hard : Int
 Flags : Int
 Match : (List Oxm)
 Insts : (List Inst)
 deriving DecidableEq, Inhabited
def Z0d : Kd Flow := Z1l (Zd Z0o (Zd (Z0 .i64) (Zd (Z0 .i64) (Zd (Z0 .i64) (Zd (Z0 .i64) (Zd (Z4 Z1v) (Z4 Z0u))))))) (fun x => (x.Cookie, (x.Priority, (x.Idle, (x.Hard, (x.Flags, (x.Match, x.Insts)))))))
def Z8w : Lens Z0d (Z0 .i64) := Lens.iso (k := (Zd Z0o (Zd (Z0 .i64) (Zd (Z0 .i64) (Zd (Z0 .i64) (Zd (Z0 .i64) (Zd (Z4 Z1v) (Z4 Z0u)))))))) (Lens.comp (Lens.snd _ _) (Lens.fst _ _)) Flow.Priority (fun x y => { x with Priority := y }) (fun _ => rfl) (fun _ _ => rfl)
def Zm4 : Lens Z0d (Z4 Z1v) := Lens.iso (k := (Zd Z0o (Zd (Z0 .i64) (Zd (Z0 .i64) (Zd (Z0 .i64) (Zd (Z0 .i64) (Zd (Z4 Z1v) (Z4 Z0u)))))))) (Lens.comp (Lens.comp (Lens.comp (Lens.comp (Lens.comp (Lens.snd _ _) (Lens.snd _ _)) (Lens.snd _ _)) (Lens.snd _ _)) (Lens.snd _ _)) (Lens.fst _ _)) Flow.Match (fun x y => { x with Match := y }) (fun _ => rfl) (fun _ _ => rfl)
def Z6p : Lens Z0d (Z4 Z0u) := Lens.iso (k := (Zd Z0o (Zd (Z0 .i64) (Zd (Z0 .i64) (Zd (Z0 .i64) (Zd (Z0 .i64) (Zd (Z4 Z1v) (Z4 Z0u)))))))) (Lens.comp (Lens.comp (Lens.comp (Lens.comp (Lens.comp (Lens.snd _ _) (Lens.snd _ _)) (Lens.snd _ _)) (Lens.snd _ _)) (Lens.snd _ _)) (Lens.snd _ _)) Flow.Insts (fun x y => { x with Insts := y }) (fun _ => rfl) (fun _ _ => rfl)
def Zr8 : Flow := ⟨0, 0, 0, 0, 0, [], []⟩
theorem Y4b : KZ Z0d Zr8 [(Value.int IntKind.u64 0), (Value.int IntKind.i64 0), (Value.int IntKind.i64 0), (Value.int IntKind.i64 0), (Value.int IntKind.i64 0), (Value.slice none 0 0), (Value.slice none 0 0)] := Z3j (Z1c Zn5 (Z1c Z2m (Z1c Z2m (Z1c Z2m (Z1c Z2m (Z1c (Z5p _) (Z5p _)))))))
structure field_row where
 name : ByteArray
 id : Int
 bits : Int
 masks : Bool
 deriving DecidableEq, Inhabited
def Z1j : Kd field_row := Z1l (Zd Z1f (Zd (Z0 .i64) (Zd (Z0 .i64) Z8))) (fun x => (x.name, (x.id, (x.bits, x.masks))))
instance : PureK Z1j := inferInstanceAs (PureK (Z1l (Zd Z1f (Zd (Z0 .i64) (Zd (Z0 .i64) Z8))) (fun (x : field_row) => (x.name, (x.id, (x.bits, x.masks))))))
def Z2p : Lens Z1j Z1f := Lens.iso (k := (Zd Z1f (Zd (Z0 .i64) (Zd (Z0 .i64) Z8)))) (Lens.fst _ _) field_row.name (fun x y => { x with name := y }) (fun _ => rfl) (fun _ _ => rfl)
def Z2j : Lens Z1j (Z0 .i64) := Lens.iso (k := (Zd Z1f (Zd (Z0 .i64) (Zd (Z0 .i64) Z8)))) (Lens.comp (Lens.snd _ _) (Lens.fst _ _)) field_row.id (fun x y => { x with id := y }) (fun _ => rfl) (fun _ _ => rfl)
def Z2b : Lens Z1j (Z0 .i64) := Lens.iso (k := (Zd Z1f (Zd (Z0 .i64) (Zd (Z0 .i64) Z8)))) (Lens.comp (Lens.comp (Lens.snd _ _) (Lens.snd _ _)) (Lens.fst _ _)) field_row.bits (fun x y => { x with bits := y }) (fun _ => rfl) (fun _ _ => rfl)
def Z2r : Lens Z1j Z8 := Lens.iso (k := (Zd Z1f (Zd (Z0 .i64) (Zd (Z0 .i64) Z8)))) (Lens.comp (Lens.comp (Lens.snd _ _) (Lens.snd _ _)) (Lens.snd _ _)) field_row.masks (fun x y => { x with masks := y }) (fun _ => rfl) (fun _ _ => rfl)
def Zhi : field_row := ⟨(⟨#[]⟩ : ByteArray), 0, 0, false⟩
theorem Zwz : KZ Z1j Zhi [(Value.string { data := #[] }), (Value.int IntKind.i64 0), (Value.int IntKind.i64 0), (Value.bool false)] := Z3j (Z1c Y6g (Z1c Z2m (Z1c Z2m Zhv)))
structure Atom where
 Rewrite : (Vector Tern 24)
 Group : Bool
 Port : Int
 Max : Int
 deriving DecidableEq, Inhabited
def Z03 : Kd Atom := Z1l (Zd (Z2 24 Z3) (Zd Z8 (Zd (Z0 .i64) (Z0 .i64)))) (fun x => (x.Rewrite, (x.Group, (x.Port, x.Max))))
instance : PureK Z03 := inferInstanceAs (PureK (Z1l (Zd (Z2 24 Z3) (Zd Z8 (Zd (Z0 .i64) (Z0 .i64)))) (fun (x : Atom) => (x.Rewrite, (x.Group, (x.Port, x.Max))))))
def Za9 : Lens Z03 (Z2 24 Z3) := Lens.iso (k := (Zd (Z2 24 Z3) (Zd Z8 (Zd (Z0 .i64) (Z0 .i64))))) (Lens.fst _ _) Atom.Rewrite (fun x y => { x with Rewrite := y }) (fun _ => rfl) (fun _ _ => rfl)
def Zr9 : Lens Z03 Z8 := Lens.iso (k := (Zd (Z2 24 Z3) (Zd Z8 (Zd (Z0 .i64) (Z0 .i64))))) (Lens.comp (Lens.snd _ _) (Lens.fst _ _)) Atom.Group (fun x y => { x with Group := y }) (fun _ => rfl) (fun _ _ => rfl)
def Zdw : Lens Z03 (Z0 .i64) := Lens.iso (k := (Zd (Z2 24 Z3) (Zd Z8 (Zd (Z0 .i64) (Z0 .i64))))) (Lens.comp (Lens.comp (Lens.snd _ _) (Lens.snd _ _)) (Lens.fst _ _)) Atom.Port (fun x y => { x with Port := y }) (fun _ => rfl) (fun _ _ => rfl)
def Zr7 : Lens Z03 (Z0 .i64) := Lens.iso (k := (Zd (Z2 24 Z3) (Zd Z8 (Zd (Z0 .i64) (Z0 .i64))))) (Lens.comp (Lens.comp (Lens.snd _ _) (Lens.snd _ _)) (Lens.snd _ _)) Atom.Max (fun x y => { x with Max := y }) (fun _ => rfl) (fun _ _ => rfl)
def Zq7 : Atom := ⟨(Vector.replicate 24 zTern), false, 0, 0⟩
theorem Yeo : KZ Z03 Zq7 [(Value.int IntKind.u64 0), (Value.int IntKind.u64 0), (Value.int IntKind.u64 0), (Value.int IntKind.u64 0), (Value.int IntKind.u64 0), (Value.int IntKind.u64 0), (Value.int IntKind.u64 0), (Value.int IntKind.u64 0), (Value.int IntKind.u64 0), (Value.int IntKind.u64 0), (Value.int IntKind.u64 0), (Value.int IntKind.u64 0), (Value.int IntKind.u64 0), (Value.int IntKind.u64 0), (Value.int IntKind.u64 0), (Value.int IntKind.u64 0), (Value.int IntKind.u64 0), (Value.int IntKind.u64 0), (Value.int IntKind.u64 0), (Value.int IntKind.u64 0), (Value.int IntKind.u64 0), (Value.int IntKind.u64 0), (Value.int IntKind.u64 0), (Value.int IntKind.u64 0), (Value.int IntKind.u64 0), (Value.int IntKind.u64 0), (Value.int IntKind.u64 0), (Value.int IntKind.u64 0), (Value.int IntKind.u64 0), (Value.int IntKind.u64 0), (Value.int IntKind.u64 0), (Value.int IntKind.u64 0), (Value.int IntKind.u64 0), (Value.int IntKind.u64 0), (Value.int IntKind.u64 0), (Value.int IntKind.u64 0), (Value.int IntKind.u64 0), (Value.int IntKind.u64 0), (Value.int IntKind.u64 0), (Value.int IntKind.u64 0), (Value.int IntKind.u64 0), (Value.int IntKind.u64 0), (Value.int IntKind.u64 0), (Value.int IntKind.u64 0), (Value.int IntKind.u64 0), (Value.int IntKind.u64 0), (Value.int IntKind.u64 0), (Value.int IntKind.u64 0), (Value.int IntKind.u64 0), (Value.int IntKind.u64 0), (Value.int IntKind.u64 0), (Value.int IntKind.u64 0), (Value.int IntKind.u64 0), (Value.int IntKind.u64 0), (Value.int IntKind.u64 0), (Value.int IntKind.u64 0), (Value.int IntKind.u64 0), (Value.int IntKind.u64 0), (Value.int IntKind.u64 0), (Value.int IntKind.u64 0), (Value.int IntKind.u64 0), (Value.int IntKind.u64 0), (Value.int IntKind.u64 0), (Value.int IntKind.u64 0), (Value.int IntKind.u64 0), (Value.int IntKind.u64 0), (Value.int IntKind.u64 0), (Value.int IntKind.u64 0), (Value.int IntKind.u64 0), (Value.int IntKind.u64 0), (Value.int IntKind.u64 0), (Value.int IntKind.u64 0), (Value.int IntKind.u64 0), (Value.int IntKind.u64 0), (Value.int IntKind.u64 0), (Value.int IntKind.u64 0), (Value.int IntKind.u64 0), (Value.int IntKind.u64 0), (Value.int IntKind.u64 0), (Value.int IntKind.u64 0), (Value.int IntKind.u64 0), (Value.int IntKind.u64 0), (Value.int IntKind.u64 0), (Value.int IntKind.u64 0), (Value.int IntKind.u64 0), (Value.int IntKind.u64 0), (Value.int IntKind.u64 0), (Value.int IntKind.u64 0), (Value.int IntKind.u64 0), (Value.int IntKind.u64 0), (Value.int IntKind.u64 0), (Value.int IntKind.u64 0), (Value.int IntKind.u64 0), (Value.int IntKind.u64 0), (Value.int IntKind.u64 0), (Value.int IntKind.u64 0), (Value.bool false), (Value.int IntKind.i64 0), (Value.int IntKind.i64 0)] := Z3j (Z1c (Z6d 24 Za3) (Z1c Zhv (Z1c Z2m Z2m)))
structure walk_way where
 cube : (Vector Tern 24)
 got : (Vector Tern 24)
 atoms : (List Atom)
 set : (List Action)
 deriving DecidableEq, Inhabited
def Z0p : Kd walk_way := Z1l (Zd (Z2 24 Z3) (Zd (Z2 24 Z3) (Zd (Z4 Z03) (Z4 Z5)))) (fun x => (x.cube, (x.got, (x.atoms, x.set))))
def Zjx : Lens Z0p (Z2 24 Z3) := Lens.iso (k := (Zd (Z2 24 Z3) (Zd (Z2 24 Z3) (Zd (Z4 Z03) (Z4 Z5))))) (Lens.fst _ _) walk_way.cube (fun x y => { x with cube := y }) (fun _ => rfl) (fun _ _ => rfl)
def Zbv : Lens Z0p (Z2 24 Z3) := Lens.iso (k := (Zd (Z2 24 Z3) (Zd (Z2 24 Z3) (Zd (Z4 Z03) (Z4 Z5))))) (Lens.comp (Lens.snd _ _) (Lens.fst _ _)) walk_way.got (fun x y => { x with got := y }) (fun _ => rfl) (fun _ _ => rfl)
def Zf8 : Lens Z0p (Z4 Z03) := Lens.iso (k := (Zd (Z2 24 Z3) (Zd (Z2 24 Z3) (Zd (Z4 Z03) (Z4 Z5))))) (Lens.comp (Lens.comp (Lens.snd _ _) (Lens.snd _ _)) (Lens.fst _ _)) walk_way.atoms (fun x y => { x with atoms := y }) (fun _ => rfl) (fun _ _ => rfl)
def Zgv : Lens Z0p (Z4 Z5) := Lens.iso (k := (Zd (Z2 24 Z3) (Zd (Z2 24 Z3) (Zd (Z4 Z03) (Z4 Z5))))) (Lens.comp (Lens.comp (Lens.snd _ _) (Lens.snd _ _)) (Lens.snd _ _)) walk_way.set (fun x y => { x with set := y }) (fun _ => rfl) (fun _ _ => rfl)
def Z77 : walk_way := ⟨(Vector.replicate 24 zTern), (Vector.replicate 24 zTern), [], []⟩
theorem Y1f : KZ Z0p Z77 [(Value.int IntKind.u64 0), (Value.int IntKind.u64 0), (Value.int IntKind.u64 0), (Value.int IntKind.u64 0), (Value.int IntKind.u64 0), (Value.int IntKind.u64 0), (Value.int IntKind.u64 0), (Value.int IntKind.u64 0), (Value.int IntKind.u64 0), (Value.int IntKind.u64 0), (Value.int IntKind.u64 0), (Value.int IntKind.u64 0), (Value.int IntKind.u64 0), (Value.int IntKind.u64 0), (Value.int IntKind.u64 0), (Value.int IntKind.u64 0), (Value.int IntKind.u64 0), (Value.int IntKind.u64 0), (Value.int IntKind.u64 0), (Value.int IntKind.u64 0), (Value.int IntKind.u64 0), (Value.int IntKind.u64 0), (Value.int IntKind.u64 0), (Value.int IntKind.u64 0), (Value.int IntKind.u64 0), (Value.int IntKind.u64 0), (Value.int IntKind.u64 0), (Value.int IntKind.u64 0), (Value.int IntKind.u64 0), (Value.int IntKind.u64 0), (Value.int IntKind.u64 0), (Value.int IntKind.u64 0), (Value.int IntKind.u64 0), (Value.int IntKind.u64 0), (Value.int IntKind.u64 0), (Value.int IntKind.u64 0), (Value.int IntKind.u64 0), (Value.int IntKind.u64 0), (Value.int IntKind.u64 0), (Value.int IntKind.u64 0), (Value.int IntKind.u64 0), (Value.int IntKind.u64 0), (Value.int IntKind.u64 0), (Value.int IntKind.u64 0), (Value.int IntKind.u64 0), (Value.int IntKind.u64 0), (Value.int IntKind.u64 0), (Value.int IntKind.u64 0), (Value.int IntKind.u64 0), (Value.int IntKind.u64 0), (Value.int IntKind.u64 0), (Value.int IntKind.u64 0), (Value.int IntKind.u64 0), (Value.int IntKind.u64 0), (Value.int IntKind.u64 0), (Value.int IntKind.u64 0), (Value.int IntKind.u64 0), (Value.int IntKind.u64 0), (Value.int IntKind.u64 0), (Value.int IntKind.u64 0), (Value.int IntKind.u64 0), (Value.int IntKind.u64 0), (Value.int IntKind.u64 0), (Value.int IntKind.u64 0), (Value.int IntKind.u64 0), (Value.int IntKind.u64 0), (Value.int IntKind.u64 0), (Value.int IntKind.u64 0), (Value.int IntKind.u64 0), (Value.int IntKind.u64 0), (Value.int IntKind.u64 0), (Value.int IntKind.u64 0), (Value.int IntKind.u64 0), (Value.int IntKind.u64 0), (Value.int IntKind.u64 0), (Value.int IntKind.u64 0), (Value.int IntKind.u64 0), (Value.int IntKind.u64 0), (Value.int IntKind.u64 0), (Value.int IntKind.u64 0), (Value.int IntKind.u64 0), (Value.int IntKind.u64 0), (Value.int IntKind.u64 0), (Value.int IntKind.u64 0), (Value.int IntKind.u64 0), (Value.int IntKind.u64 0), (Value.int IntKind.u64 0), (Value.int IntKind.u64 0), (Value.int IntKind.u64 0), (Value.int IntKind.u64 0), (Value.int IntKind.u64 0), (Value.int IntKind.u64 0), (Value.int IntKind.u64 0), (Value.int IntKind.u64 0), (Value.int IntKind.u64 0), (Value.int IntKind.u64 0), (Value.int IntKind.u64 0), (Value.int IntKind.u64 0), (Value.int IntKind.u64 0), (Value.int IntKind.u64 0), (Value.int IntKind.u64 0), (Value.int IntKind.u64 0), (Value.int IntKind.u64 0), (Value.int IntKind.u64 0), (Value.int IntKind.u64 0), (Value.int IntKind.u64 0), (Value.int IntKind.u64 0), (Value.int IntKind.u64 0), (Value.int IntKind.u64 0), (Value.int IntKind.u64 0), (Value.int IntKind.u64 0), (Value.int IntKind.u64 0), (Value.int IntKind.u64 0), (Value.int IntKind.u64 0), (Value.int IntKind.u64 0), (Value.int IntKind.u64 0), (Value.int IntKind.u64 0), (Value.int IntKind.u64 0), (Value.int IntKind.u64 0), (Value.int IntKind.u64 0), (Value.int IntKind.u64 0), (Value.int IntKind.u64 0), (Value.int IntKind.u64 0), (Value.int IntKind.u64 0), (Value.int IntKind.u64 0), (Value.int IntKind.u64 0), (Value.int IntKind.u64 0), (Value.int IntKind.u64 0), (Value.int IntKind.u64 0), (Value.int IntKind.u64 0), (Value.int IntKind.u64 0), (Value.int IntKind.u64 0), (Value.int IntKind.u64 0), (Value.int IntKind.u64 0), (Value.int IntKind.u64 0), (Value.int IntKind.u64 0), (Value.int IntKind.u64 0), (Value.int IntKind.u64 0), (Value.int IntKind.u64 0), (Value.int IntKind.u64 0), (Value.int IntKind.u64 0), (Value.int IntKind.u64 0), (Value.int IntKind.u64 0), (Value.int IntKind.u64 0), (Value.int IntKind.u64 0), (Value.int IntKind.u64 0), (Value.int IntKind.u64 0), (Value.int IntKind.u64 0), (Value.int IntKind.u64 0), (Value.int IntKind.u64 0), (Value.int IntKind.u64 0), (Value.int IntKind.u64 0), (Value.int IntKind.u64 0), (Value.int IntKind.u64 0), (Value.int IntKind.u64 0), (Value.int IntKind.u64 0), (Value.int IntKind.u64 0), (Value.int IntKind.u64 0), (Value.int IntKind.u64 0), (Value.int IntKind.u64 0), (Value.int IntKind.u64 0), (Value.int IntKind.u64 0), (Value.int IntKind.u64 0), (Value.int IntKind.u64 0), (Value.int IntKind.u64 0), (Value.int IntKind.u64 0), (Value.int IntKind.u64 0), (Value.int IntKind.u64 0), (Value.int IntKind.u64 0), (Value.int IntKind.u64 0), (Value.int IntKind.u64 0), (Value.int IntKind.u64 0), (Value.int IntKind.u64 0), (Value.int IntKind.u64 0), (Value.int IntKind.u64 0), (Value.int IntKind.u64 0), (Value.int IntKind.u64 0), (Value.int IntKind.u64 0), (Value.int IntKind.u64 0), (Value.int IntKind.u64 0), (Value.int IntKind.u64 0), (Value.int IntKind.u64 0), (Value.int IntKind.u64 0), (Value.int IntKind.u64 0), (Value.int IntKind.u64 0), (Value.int IntKind.u64 0), (Value.int IntKind.u64 0), (Value.int IntKind.u64 0), (Value.int IntKind.u64 0), (Value.int IntKind.u64 0), (Value.int IntKind.u64 0), (Value.int IntKind.u64 0), (Value.slice none 0 0), (Value.slice none 0 0)] := Z3j (Z1c (Z6d 24 Za3) (Z1c (Z6d 24 Za3) (Z1c (Z5p _) (Z5p _))))
structure Z4t where
 got : (Vector Tern 24)
 atoms : (List Atom)
 deriving DecidableEq, Inhabited
structure atom_trace_o1 where
 got : (Vector Tern 24)
 atoms : Value
def Z3z : Kd atom_trace_o1 := Z1l (Zd (Z2 24 Z3) kraw) (fun x => (x.got, x.atoms))
def Zeb : Lens Z3z (Z2 24 Z3) := Lens.iso (k := (Zd (Z2 24 Z3) kraw)) (Lens.fst _ _) atom_trace_o1.got (fun x y => { x with got := y }) (fun _ => rfl) (fun _ _ => rfl)
def Zhx : Lens Z3z kraw := Lens.iso (k := (Zd (Z2 24 Z3) kraw)) (Lens.snd _ _) atom_trace_o1.atoms (fun x y => { x with atoms := y }) (fun _ => rfl) (fun _ _ => rfl)
def Zve : atom_trace_o1 := ⟨(Vector.replicate 24 zTern), (.slice none 0 0)⟩
theorem Y1r : KZ Z3z Zve [(Value.int IntKind.u64 0), (Value.int IntKind.u64 0), (Value.int IntKind.u64 0), (Value.int IntKind.u64 0), (Value.int IntKind.u64 0), (Value.int IntKind.u64 0), (Value.int IntKind.u64 0), (Value.int IntKind.u64 0), (Value.int IntKind.u64 0), (Value.int IntKind.u64 0), (Value.int IntKind.u64 0), (Value.int IntKind.u64 0), (Value.int IntKind.u64 0), (Value.int IntKind.u64 0), (Value.int IntKind.u64 0), (Value.int IntKind.u64 0), (Value.int IntKind.u64 0), (Value.int IntKind.u64 0), (Value.int IntKind.u64 0), (Value.int IntKind.u64 0), (Value.int IntKind.u64 0), (Value.int IntKind.u64 0), (Value.int IntKind.u64 0), (Value.int IntKind.u64 0), (Value.int IntKind.u64 0), (Value.int IntKind.u64 0), (Value.int IntKind.u64 0), (Value.int IntKind.u64 0), (Value.int IntKind.u64 0), (Value.int IntKind.u64 0), (Value.int IntKind.u64 0), (Value.int IntKind.u64 0), (Value.int IntKind.u64 0), (Value.int IntKind.u64 0), (Value.int IntKind.u64 0), (Value.int IntKind.u64 0), (Value.int IntKind.u64 0), (Value.int IntKind.u64 0), (Value.int IntKind.u64 0), (Value.int IntKind.u64 0), (Value.int IntKind.u64 0), (Value.int IntKind.u64 0), (Value.int IntKind.u64 0), (Value.int IntKind.u64 0), (Value.int IntKind.u64 0), (Value.int IntKind.u64 0), (Value.int IntKind.u64 0), (Value.int IntKind.u64 0), (Value.int IntKind.u64 0), (Value.int IntKind.u64 0), (Value.int IntKind.u64 0), (Value.int IntKind.u64 0), (Value.int IntKind.u64 0), (Value.int IntKind.u64 0), (Value.int IntKind.u64 0), (Value.int IntKind.u64 0), (Value.int IntKind.u64 0), (Value.int IntKind.u64 0), (Value.int IntKind.u64 0), (Value.int IntKind.u64 0), (Value.int IntKind.u64 0), (Value.int IntKind.u64 0), (Value.int IntKind.u64 0), (Value.int IntKind.u64 0), (Value.int IntKind.u64 0), (Value.int IntKind.u64 0), (Value.int IntKind.u64 0), (Value.int IntKind.u64 0), (Value.int IntKind.u64 0), (Value.int IntKind.u64 0), (Value.int IntKind.u64 0), (Value.int IntKind.u64 0), (Value.int IntKind.u64 0), (Value.int IntKind.u64 0), (Value.int IntKind.u64 0), (Value.int IntKind.u64 0), (Value.int IntKind.u64 0), (Value.int IntKind.u64 0), (Value.int IntKind.u64 0), (Value.int IntKind.u64 0), (Value.int IntKind.u64 0), (Value.int IntKind.u64 0), (Value.int IntKind.u64 0), (Value.int IntKind.u64 0), (Value.int IntKind.u64 0), (Value.int IntKind.u64 0), (Value.int IntKind.u64 0), (Value.int IntKind.u64 0), (Value.int IntKind.u64 0), (Value.int IntKind.u64 0), (Value.int IntKind.u64 0), (Value.int IntKind.u64 0), (Value.int IntKind.u64 0), (Value.int IntKind.u64 0), (Value.int IntKind.u64 0), (Value.int IntKind.u64 0), (Value.slice none 0 0)] := Z3j (Z1c (Z6d 24 Za3) (Zty rfl))
structure aset_spot where
 kind : Int
 field : Int
 deriving DecidableEq, Inhabited
def Z5s : Kd aset_spot := Z1l (Zd (Z0 .i64) (Z0 .i64)) (fun x => (x.kind, x.field))
instance : PureK Z5s := inferInstanceAs (PureK (Z1l (Zd (Z0 .i64) (Z0 .i64)) (fun (x : aset_spot) => (x.kind, x.field))))
def Zjt : Lens Z5s (Z0 .i64) := Lens.iso (k := (Zd (Z0 .i64) (Z0 .i64))) (Lens.fst _ _) aset_spot.kind (fun x y => { x with kind := y }) (fun _ => rfl) (fun _ _ => rfl)
def Zdf : Lens Z5s (Z0 .i64) := Lens.iso (k := (Zd (Z0 .i64) (Z0 .i64))) (Lens.snd _ _) aset_spot.field (fun x y => { x with field := y }) (fun _ => rfl) (fun _ _ => rfl)
def Zl5 : aset_spot := ⟨0, 0⟩
theorem Y07 : KZ Z5s Zl5 [(Value.int IntKind.i64 0), (Value.int IntKind.i64 0)] := Z3j (Z1c Z2m Z2m)
structure Rule where
 Cube : (Vector Tern 24)
 Atoms : (List Atom)
 deriving DecidableEq, Inhabited
def Zy : Kd Rule := Z1l (Zd (Z2 24 Z3) (Z4 Z03)) (fun x => (x.Cube, x.Atoms))
def Z65 : Lens Zy (Z2 24 Z3) := Lens.iso (k := (Zd (Z2 24 Z3) (Z4 Z03))) (Lens.fst _ _) Rule.Cube (fun x y => { x with Cube := y }) (fun _ => rfl) (fun _ _ => rfl)
def Z7q : Lens Zy (Z4 Z03) := Lens.iso (k := (Zd (Z2 24 Z3) (Z4 Z03))) (Lens.snd _ _) Rule.Atoms (fun x y => { x with Atoms := y }) (fun _ => rfl) (fun _ _ => rfl)
def Zu6 : Rule := ⟨(Vector.replicate 24 zTern), []⟩
theorem Y0k : KZ Zy Zu6 [(Value.int IntKind.u64 0), (Value.int IntKind.u64 0), (Value.int IntKind.u64 0), (Value.int IntKind.u64 0), (Value.int IntKind.u64 0), (Value.int IntKind.u64 0), (Value.int IntKind.u64 0), (Value.int IntKind.u64 0), (Value.int IntKind.u64 0), (Value.int IntKind.u64 0), (Value.int IntKind.u64 0), (Value.int IntKind.u64 0), (Value.int IntKind.u64 0), (Value.int IntKind.u64 0), (Value.int IntKind.u64 0), (Value.int IntKind.u64 0), (Value.int IntKind.u64 0), (Value.int IntKind.u64 0), (Value.int IntKind.u64 0), (Value.int IntKind.u64 0), (Value.int IntKind.u64 0), (Value.int IntKind.u64 0), (Value.int IntKind.u64 0), (Value.int IntKind.u64 0), (Value.int IntKind.u64 0), (Value.int IntKind.u64 0), (Value.int IntKind.u64 0), (Value.int IntKind.u64 0), (Value.int IntKind.u64 0), (Value.int IntKind.u64 0), (Value.int IntKind.u64 0), (Value.int IntKind.u64 0), (Value.int IntKind.u64 0), (Value.int IntKind.u64 0), (Value.int IntKind.u64 0), (Value.int IntKind.u64 0), (Value.int IntKind.u64 0), (Value.int IntKind.u64 0), (Value.int IntKind.u64 0), (Value.int IntKind.u64 0), (Value.int IntKind.u64 0), (Value.int IntKind.u64 0), (Value.int IntKind.u64 0), (Value.int IntKind.u64 0), (Value.int IntKind.u64 0), (Value.int IntKind.u64 0), (Value.int IntKind.u64 0), (Value.int IntKind.u64 0), (Value.int IntKind.u64 0), (Value.int IntKind.u64 0), (Value.int IntKind.u64 0), (Value.int IntKind.u64 0), (Value.int IntKind.u64 0), (Value.int IntKind.u64 0), (Value.int IntKind.u64 0), (Value.int IntKind.u64 0), (Value.int IntKind.u64 0), (Value.int IntKind.u64 0), (Value.int IntKind.u64 0), (Value.int IntKind.u64 0), (Value.int IntKind.u64 0), (Value.int IntKind.u64 0), (Value.int IntKind.u64 0), (Value.int IntKind.u64 0), (Value.int IntKind.u64 0), (Value.int IntKind.u64 0), (Value.int IntKind.u64 0), (Value.int IntKind.u64 0), (Value.int IntKind.u64 0), (Value.int IntKind.u64 0), (Value.int IntKind.u64 0), (Value.int IntKind.u64 0), (Value.int IntKind.u64 0), (Value.int IntKind.u64 0), (Value.int IntKind.u64 0), (Value.int IntKind.u64 0), (Value.int IntKind.u64 0), (Value.int IntKind.u64 0), (Value.int IntKind.u64 0), (Value.int IntKind.u64 0), (Value.int IntKind.u64 0), (Value.int IntKind.u64 0), (Value.int IntKind.u64 0), (Value.int IntKind.u64 0), (Value.int IntKind.u64 0), (Value.int IntKind.u64 0), (Value.int IntKind.u64 0), (Value.int IntKind.u64 0), (Value.int IntKind.u64 0), (Value.int IntKind.u64 0), (Value.int IntKind.u64 0), (Value.int IntKind.u64 0), (Value.int IntKind.u64 0), (Value.int IntKind.u64 0), (Value.int IntKind.u64 0), (Value.int IntKind.u64 0), (Value.slice none 0 0)] := Z3j (Z1c (Z6d 24 Za3) (Z5p _))
structure Bucket where
 Weight : Int
 Watch : Int
 WatchGroup : Int
 Acts : (List Action)
 deriving DecidableEq, Inhabited
def Z0t : Kd Bucket := Z1l (Zd (Z0 .i64) (Zd (Z0 .i64) (Zd (Z0 .i64) (Z4 Z5)))) (fun x => (x.Weight, (x.Watch, (x.WatchGroup, x.Acts))))
def Znd : Lens Z0t (Z0 .i64) := Lens.iso (k := (Zd (Z0 .i64) (Zd (Z0 .i64) (Zd (Z0 .i64) (Z4 Z5))))) (Lens.fst _ _) Bucket.Weight (fun x y => { x with Weight := y }) (fun _ => rfl) (fun _ _ => rfl)
def Zqk : Lens Z0t (Z0 .i64) := Lens.iso (k := (Zd (Z0 .i64) (Zd (Z0 .i64) (Zd (Z0 .i64) (Z4 Z5))))) (Lens.comp (Lens.snd _ _) (Lens.fst _ _)) Bucket.Watch (fun x y => { x with Watch := y }) (fun _ => rfl) (fun _ _ => rfl)
def Zp7 : Lens Z0t (Z0 .i64) := Lens.iso (k := (Zd (Z0 .i64) (Zd (Z0 .i64) (Zd (Z0 .i64) (Z4 Z5))))) (Lens.comp (Lens.comp (Lens.snd _ _) (Lens.snd _ _)) (Lens.fst _ _)) Bucket.WatchGroup (fun x y => { x with WatchGroup := y }) (fun _ => rfl) (fun _ _ => rfl)
def Zew : Lens Z0t (Z4 Z5) := Lens.iso (k := (Zd (Z0 .i64) (Zd (Z0 .i64) (Zd (Z0 .i64) (Z4 Z5))))) (Lens.comp (Lens.comp (Lens.snd _ _) (Lens.snd _ _)) (Lens.snd _ _)) Bucket.Acts (fun x y => { x with Acts := y }) (fun _ => rfl) (fun _ _ => rfl)
def Zsb : Bucket := ⟨0, 0, 0, []⟩
theorem Y6o : KZ Z0t Zsb [(Value.int IntKind.i64 0), (Value.int IntKind.i64 0), (Value.int IntKind.i64 0), (Value.slice none 0 0)] := Z3j (Z1c Z2m (Z1c Z2m (Z1c Z2m (Z5p _))))
structure Group where
 ID : Int
 Kind : Int
 Buckets : (List Bucket)
 deriving DecidableEq, Inhabited
def Z0e : Kd Group := Z1l (Zd (Z0 .i64) (Zd (Z0 .i64) (Z4 Z0t))) (fun x => (x.ID, (x.Kind, x.Buckets)))
def Zft : Lens Z0e (Z0 .i64) := Lens.iso (k := (Zd (Z0 .i64) (Zd (Z0 .i64) (Z4 Z0t)))) (Lens.fst _ _) Group.ID (fun x y => { x with ID := y }) (fun _ => rfl) (fun _ _ => rfl)
def Zr6 : Lens Z0e (Z0 .i64) := Lens.iso (k := (Zd (Z0 .i64) (Zd (Z0 .i64) (Z4 Z0t)))) (Lens.comp (Lens.snd _ _) (Lens.fst _ _)) Group.Kind (fun x y => { x with Kind := y }) (fun _ => rfl) (fun _ _ => rfl)
def Zcw : Lens Z0e (Z4 Z0t) := Lens.iso (k := (Zd (Z0 .i64) (Zd (Z0 .i64) (Z4 Z0t)))) (Lens.comp (Lens.snd _ _) (Lens.snd _ _)) Group.Buckets (fun x y => { x with Buckets := y }) (fun _ => rfl) (fun _ _ => rfl)
def Zpm : Group := ⟨0, 0, []⟩
theorem Y8o : KZ Z0e Zpm [(Value.int IntKind.i64 0), (Value.int IntKind.i64 0), (Value.slice none 0 0)] := Z3j (Z1c Z2m (Z1c Z2m (Z5p _)))
structure Switch where
 Tables : (Vector (List Flow) 4)
 Groups : (List Group)
 deriving DecidableEq, Inhabited
def Z0h : Kd Switch := Z1l (Zd (Z2 4 (Z4 Z0d)) (Z4 Z0e)) (fun x => (x.Tables, x.Groups))
def Za6 : Lens Z0h (Z2 4 (Z4 Z0d)) := Lens.iso (k := (Zd (Z2 4 (Z4 Z0d)) (Z4 Z0e))) (Lens.fst _ _) Switch.Tables (fun x y => { x with Tables := y }) (fun _ => rfl) (fun _ _ => rfl)
def Zr1 : Lens Z0h (Z4 Z0e) := Lens.iso (k := (Zd (Z2 4 (Z4 Z0d)) (Z4 Z0e))) (Lens.snd _ _) Switch.Groups (fun x y => { x with Groups := y }) (fun _ => rfl) (fun _ _ => rfl)
def Zo0 : Switch := ⟨(Vector.replicate 4 []), []⟩
theorem Zrm : KZ Z0h Zo0 [(Value.slice none 0 0), (Value.slice none 0 0), (Value.slice none 0 0), (Value.slice none 0 0), (Value.slice none 0 0)] := Z3j (Z1c (Z6d 4 (Z5p _)) (Z5p _))
structure cover_purse where
 left : Int
 free : Bool
 deriving DecidableEq, Inhabited
def Z5a : Kd cover_purse := Z1l (Zd (Z0 .i64) Z8) (fun x => (x.left, x.free))
instance : PureK Z5a := inferInstanceAs (PureK (Z1l (Zd (Z0 .i64) Z8) (fun (x : cover_purse) => (x.left, x.free))))
def Zj7 : Lens Z5a (Z0 .i64) := Lens.iso (k := (Zd (Z0 .i64) Z8)) (Lens.fst _ _) cover_purse.left (fun x y => { x with left := y }) (fun _ => rfl) (fun _ _ => rfl)
def Zqu : Lens Z5a Z8 := Lens.iso (k := (Zd (Z0 .i64) Z8)) (Lens.snd _ _) cover_purse.free (fun x y => { x with free := y }) (fun _ => rfl) (fun _ _ => rfl)
def Zrk : cover_purse := ⟨0, false⟩
theorem Zuh : KZ Z5a Zrk [(Value.int IntKind.i64 0), (Value.bool false)] := Z3j (Z1c Z2m Zhv)
structure cover_look where
 purse : cover_purse
 deriving DecidableEq, Inhabited
def Z1r : Kd cover_look := Z1l Z5a (fun x => x.purse)
instance : PureK Z1r := inferInstanceAs (PureK (Z1l Z5a (fun (x : cover_look) => x.purse)))
def Zpc : Lens Z1r Z5a := Lens.iso (k := Z5a) (Lens.id _) cover_look.purse (fun x y => { x with purse := y }) (fun _ => rfl) (fun _ _ => rfl)
def Zw2 : cover_look := ⟨Zrk⟩
theorem Y7e : KZ Z1r Zw2 [(Value.int IntKind.i64 0), (Value.bool false)] := Z3j Zuh
structure Flat where
 Rules : (List Rule)
 Groups : (List Group)
 deriving DecidableEq, Inhabited
def Zaw : Kd Flat := Z1l (Zd (Z4 Zy) (Z4 Z0e)) (fun x => (x.Rules, x.Groups))
def Zce : Lens Zaw (Z4 Zy) := Lens.iso (k := (Zd (Z4 Zy) (Z4 Z0e))) (Lens.fst _ _) Flat.Rules (fun x y => { x with Rules := y }) (fun _ => rfl) (fun _ _ => rfl)
def Zix : Lens Zaw (Z4 Z0e) := Lens.iso (k := (Zd (Z4 Zy) (Z4 Z0e))) (Lens.snd _ _) Flat.Groups (fun x y => { x with Groups := y }) (fun _ => rfl) (fun _ _ => rfl)
def Zy8 : Flat := ⟨[], []⟩
theorem Y7z : KZ Zaw Zy8 [(Value.slice none 0 0), (Value.slice none 0 0)] := Z3j (Z1c (Z5p _) (Z5p _))
structure Env where
 Turn : Int
 Down : (List Int)
 deriving DecidableEq, Inhabited
structure Yfm where
 Env : Env
 Group : Group
 deriving DecidableEq, Inhabited
structure Out where
 Port : Int
 Max : Int
 Header : (Vector Wide 24)
 deriving DecidableEq, Inhabited
def Y4i : Kd Out := Z1l (Zd (Z0 .i64) (Zd (Z0 .i64) (Z2 24 Zn))) (fun x => (x.Port, (x.Max, x.Header)))
instance : PureK Y4i := inferInstanceAs (PureK (Z1l (Zd (Z0 .i64) (Zd (Z0 .i64) (Z2 24 Zn))) (fun (x : Out) => (x.Port, (x.Max, x.Header)))))
structure Yfk where
 Env : Env
 groups : (List Group)
 out : (List Out)
 header : (Vector Wide 24)
 depth : Int
 deriving DecidableEq, Inhabited
structure Yfo where
 Env : Env
 groups : (List Group)
 out : Value
 header : (Vector Wide 24)
 depth : Int
structure Zqa where
 Table : Int
 Flow : Int
 deriving DecidableEq, Inhabited
def Yaw : Kd Zqa := Z1l (Zd (Z0 .i64) (Z0 .i64)) (fun x => (x.Table, x.Flow))
instance : PureK Yaw := inferInstanceAs (PureK (Z1l (Zd (Z0 .i64) (Z0 .i64)) (fun (x : Zqa) => (x.Table, x.Flow))))
structure Yfn where
 Switch : Switch
 env : Env
 header : (Vector Wide 24)
 set : (List Action)
 out : (List Out)
 path : (List Zqa)
 deriving DecidableEq, Inhabited
structure Yfl where
 Switch : Switch
 env : Env
 header : (Vector Wide 24)
 set : (List Action)
 out : Value
 path : Value
theorem Z0v : Zr Tryz.prog 87 (Z2 24 Z3) (Vector.replicate 24 zTern) := ⟨_, (Z6d 24 Za3), by kernel_rfl⟩
theorem Zz : Ty Tryz.prog 87 (Z2 24 Z3) := ⟨by kernel_rfl, by kernel_rfl⟩
theorem Z2u : Zr Tryz.prog 101 (Z2 24 Z3) (Vector.replicate 24 zTern) := ⟨_, (Z6d 24 Za3), by kernel_rfl⟩
theorem Z02 : Ty Tryz.prog 101 (Z2 24 Z3) := ⟨by kernel_rfl, by kernel_rfl⟩
theorem Z59 : Ty Tryz.prog 22 (Z4 Z0d) := ⟨by kernel_rfl, by kernel_rfl⟩
theorem Z44 : Sl Tryz.prog 22 61 Z0d := ⟨by kernel_rfl, by kernel_rfl⟩
theorem Zd5 : Fl Tryz.prog 61 1 Z8w := ⟨by kernel_rfl, rfl⟩
theorem Zv : Ty Tryz.prog 3 (Z0 .i64) := ⟨by kernel_rfl, by kernel_rfl⟩
theorem Z10 : Sl Tryz.prog 37 3 (Z0 .i64) := ⟨by kernel_rfl, by kernel_rfl⟩
theorem us3 : (Tryz.prog.underlying 3).isSome = true := by kernel_rfl
theorem Z6j : Tryz.prog.underlying 360 = some (.int .u64) := by kernel_rfl
theorem Z9t : (Tryz.prog.underlying 360).isSome = true := by kernel_rfl
theorem un3 : Tryz.prog.underlying 3 = some (.int .i64) := by kernel_rfl
theorem Zm7 : El Tryz.prog 37 3 (Z0 .i64) := ⟨by kernel_rfl, by kernel_rfl, by kernel_rfl, by kernel_rfl, by kernel_rfl⟩
theorem zr3 : Zr Tryz.prog 3 (Z0 .i64) 0 := ⟨_, Z2m, by kernel_rfl⟩
theorem Zza : Zr Tryz.prog 369 (Z2 24 Z1j) (Vector.replicate 24 Zhi) := ⟨_, (Z6d 24 Zwz), by kernel_rfl⟩
theorem Z2e : Zr Tryz.prog 364 Z1j Zhi := ⟨_, Zwz, by kernel_rfl⟩
theorem Zzp : Ty Tryz.prog 369 (Z2 24 Z1j) := ⟨by kernel_rfl, by kernel_rfl⟩
theorem Zju : Ty Tryz.prog 364 Z1j := ⟨by kernel_rfl, by kernel_rfl⟩
theorem Zzx : Ar Tryz.prog 369 364 24 Z1j := ⟨by kernel_rfl, by kernel_rfl⟩
theorem Y3p : Zk3 Tryz.prog 364 2 = some 3 := by kernel_rfl
theorem Y7k : Fl Tryz.prog 364 2 Z2b := ⟨by kernel_rfl, rfl⟩
theorem Z1n : Zr Tryz.prog 42 Zn Z05 := ⟨_, Z9l, by kernel_rfl⟩
theorem Zt : Ty Tryz.prog 42 Zn := ⟨by kernel_rfl, by kernel_rfl⟩
theorem Z16 : Zr Tryz.prog 85 Z3 zTern := ⟨_, Za3, by kernel_rfl⟩
theorem Z4m : Fl Tryz.prog 119 0 Z46 := ⟨by kernel_rfl, rfl⟩
theorem Z00 : Ty Tryz.prog 85 Z3 := ⟨by kernel_rfl, by kernel_rfl⟩
theorem Ztk : Fl Tryz.prog 119 1 Zq4 := ⟨by kernel_rfl, rfl⟩
theorem ty4 : Ty Tryz.prog 4 Z8 := ⟨by kernel_rfl, by kernel_rfl⟩
theorem Zkm : Fl Tryz.prog 119 2 Zif := ⟨by kernel_rfl, rfl⟩
theorem Zvr : Fl Tryz.prog 119 3 Zr3 := ⟨by kernel_rfl, rfl⟩
theorem Zc1 : Sl Tryz.prog 58 119 Z1v := ⟨by kernel_rfl, by kernel_rfl⟩
theorem Zcn : Ty Tryz.prog 119 Z1v := ⟨by kernel_rfl, by kernel_rfl⟩
theorem Y0e : Zr Tryz.prog 119 Z1v Z36 := ⟨_, Zw8, by kernel_rfl⟩
theorem Z20 : Ar Tryz.prog 87 85 24 Z3 := ⟨by kernel_rfl, by kernel_rfl⟩
theorem Z3h : Fl Tryz.prog 42 0 Z22 := ⟨by kernel_rfl, rfl⟩
theorem Z18 : Ty Tryz.prog 40 Z0o := ⟨by kernel_rfl, by kernel_rfl⟩
theorem Z3i : Fl Tryz.prog 42 1 Z21 := ⟨by kernel_rfl, rfl⟩
theorem Z2f : Fl Tryz.prog 85 0 Z1a := ⟨by kernel_rfl, rfl⟩
theorem Z1y : Fl Tryz.prog 85 1 Z0z := ⟨by kernel_rfl, rfl⟩
theorem Zp5 : Fl Tryz.prog 61 5 Zm4 := ⟨by kernel_rfl, rfl⟩
theorem Zod : Ty Tryz.prog 58 (Z4 Z1v) := ⟨by kernel_rfl, by kernel_rfl⟩
theorem Z3c : Ar Tryz.prog 101 85 24 Z3 := ⟨by kernel_rfl, by kernel_rfl⟩
theorem Ze1 : Zr Tryz.prog 135 Z0p Z77 := ⟨_, Y1f, by kernel_rfl⟩
theorem Zh3 : Fl Tryz.prog 135 1 Zbv := ⟨by kernel_rfl, rfl⟩
theorem Z6w : Ty Tryz.prog 61 Z0d := ⟨by kernel_rfl, by kernel_rfl⟩
theorem Z2z : Ty Tryz.prog 135 Z0p := ⟨by kernel_rfl, by kernel_rfl⟩
theorem Znf : Fl Tryz.prog 135 0 Zjx := ⟨by kernel_rfl, rfl⟩
theorem Zyq : Fl Tryz.prog 124 0 Zhb := ⟨by kernel_rfl, rfl⟩
theorem Z7w : Sl Tryz.prog 59 124 Z0u := ⟨by kernel_rfl, by kernel_rfl⟩
theorem Z2y : Ty Tryz.prog 124 Z0u := ⟨by kernel_rfl, by kernel_rfl⟩
theorem Z0b : Sl Tryz.prog 122 121 Z5 := ⟨by kernel_rfl, by kernel_rfl⟩
theorem Z6t : El Tryz.prog 122 121 Z5 := ⟨by kernel_rfl, by kernel_rfl, by kernel_rfl, by kernel_rfl, by kernel_rfl⟩
theorem Z3v : Zr Tryz.prog 121 Z5 Zli := ⟨_, Ydy, by kernel_rfl⟩
theorem Z3e : Zr Tryz.prog 124 Z0u Zm9 := ⟨_, Ycf, by kernel_rfl⟩
theorem Zbu : Fl Tryz.prog 124 4 Z8l := ⟨by kernel_rfl, rfl⟩
theorem Z4b : Ty Tryz.prog 122 (Z4 Z5) := ⟨by kernel_rfl, by kernel_rfl⟩
theorem Y5t : Zr Tryz.prog 367 (Z2 2 Z0o) (Vector.replicate 2 0) := ⟨_, (Z6d 2 Zn5), by kernel_rfl⟩
theorem Zpe : Ar Tryz.prog 367 40 2 Z0o := ⟨by kernel_rfl, by kernel_rfl⟩
theorem Z4r : Fl Tryz.prog 121 0 Z45 := ⟨by kernel_rfl, rfl⟩
theorem Z9g : Fl Tryz.prog 121 5 Z7e := ⟨by kernel_rfl, rfl⟩
theorem Zkc : Fl Tryz.prog 346 0 Zeb := ⟨by kernel_rfl, rfl⟩
theorem Z4o : Zr Tryz.prog 126 Z03 Zq7 := ⟨_, Yeo, by kernel_rfl⟩
theorem Z5t : Ty Tryz.prog 126 Z03 := ⟨by kernel_rfl, by kernel_rfl⟩
theorem Zns : Fl Tryz.prog 121 1 Zgk := ⟨by kernel_rfl, rfl⟩
theorem Zoh : Fl Tryz.prog 126 2 Zdw := ⟨by kernel_rfl, rfl⟩
theorem Zxd : Fl Tryz.prog 121 2 Zo4 := ⟨by kernel_rfl, rfl⟩
theorem Zx2 : Fl Tryz.prog 126 3 Zr7 := ⟨by kernel_rfl, rfl⟩
theorem Zw7 : Fl Tryz.prog 121 3 Zqh := ⟨by kernel_rfl, rfl⟩
theorem Yaq : Fl Tryz.prog 126 1 Zr9 := ⟨by kernel_rfl, rfl⟩
theorem Z0m : Ty Tryz.prog 121 Z5 := ⟨by kernel_rfl, by kernel_rfl⟩
theorem Zo1 : Fl Tryz.prog 346 1 Zhx := ⟨by kernel_rfl, rfl⟩
theorem Zra : Ty Tryz.prog 88 kraw := ⟨by kernel_rfl, by kernel_rfl⟩
theorem Z3t : Sl Tryz.prog 88 126 Z03 := ⟨by kernel_rfl, by kernel_rfl⟩
theorem Z8g : El Tryz.prog 88 126 Z03 := ⟨by kernel_rfl, by kernel_rfl, by kernel_rfl, by kernel_rfl, by kernel_rfl⟩
theorem Y3j : Zr Tryz.prog 346 Z3z Zve := ⟨_, Y1r, by kernel_rfl⟩
theorem Zj3 : Fl Tryz.prog 135 2 Zf8 := ⟨by kernel_rfl, rfl⟩
theorem Z79 : Ty Tryz.prog 88 (Z4 Z03) := ⟨by kernel_rfl, by kernel_rfl⟩
theorem Ziz : Zr Tryz.prog 275 Z5s Zl5 := ⟨_, Y07, by kernel_rfl⟩
theorem Zdx : Ty Tryz.prog 275 Z5s := ⟨by kernel_rfl, by kernel_rfl⟩
theorem eqk3 : EqK Tryz.prog 1 3 (Z0 .i64) := Y2f (by kernel_rfl)
theorem Y10 : EqK Tryz.prog 2 275 Z5s := Zdu (fun x y e => by cases x; cases y; simp only [Prod.mk.injEq] at e; simp [e]) (l := _) (by kernel_rfl) (by kernel_rfl) (Z4u eqk3 Zv (Zeu eqk3 Zv))
theorem Y6v : Tryz.prog.eqGuardType Tryz.prog.depth 275 = false := by kernel_rfl
theorem Zyp : Fl Tryz.prog 275 0 Zjt := ⟨by kernel_rfl, rfl⟩
theorem Zm2 : Fl Tryz.prog 275 1 Zdf := ⟨by kernel_rfl, rfl⟩
theorem zr4 : Zr Tryz.prog 4 Z8 false := ⟨_, Zhv, by kernel_rfl⟩
theorem Zn2 : Fl Tryz.prog 135 3 Zgv := ⟨by kernel_rfl, rfl⟩
theorem Zzq : Fl Tryz.prog 124 2 Zqp := ⟨by kernel_rfl, rfl⟩
theorem Zrv : Fl Tryz.prog 124 3 Znu := ⟨by kernel_rfl, rfl⟩
theorem Zem : Fl Tryz.prog 124 1 Zak := ⟨by kernel_rfl, rfl⟩
theorem Z4i : Zr Tryz.prog 90 Zy Zu6 := ⟨_, Y0k, by kernel_rfl⟩
theorem Z4g : Ty Tryz.prog 90 Zy := ⟨by kernel_rfl, by kernel_rfl⟩
theorem Zxt : Fl Tryz.prog 131 0 (Lens.fst Z0h kraw) := ⟨by kernel_rfl, rfl⟩
theorem Zyf (A : Zb) : Fl Tryz.prog 131 0 (Zp1 Z0h A) := ⟨Zxt.1, Zxt.2⟩
theorem Zbo : Fl Tryz.prog 26 0 Za6 := ⟨by kernel_rfl, rfl⟩
theorem Zb0 : Ar Tryz.prog 23 22 4 (Z4 Z0d) := ⟨by kernel_rfl, by kernel_rfl⟩
theorem Zt7 : Fl Tryz.prog 131 1 (Lens.snd Z0h kraw) := ⟨by kernel_rfl, rfl⟩
theorem Zva (A : Zb) : Fl Tryz.prog 131 1 (Zrd Z0h A) := ⟨Zt7.1, Zt7.2⟩
theorem tyr92 : Ty Tryz.prog 92 kraw := ⟨by kernel_rfl, by kernel_rfl⟩
theorem Ztt (A : Zb) : Ty Tryz.prog 92 (kas A) := ⟨tyr92.sz, tyr92.ag⟩
theorem Zca : Zr Tryz.prog 61 Z0d Zr8 := ⟨_, Y4b, by kernel_rfl⟩
theorem Zcf : Fl Tryz.prog 61 6 Z6p := ⟨by kernel_rfl, rfl⟩
theorem Zcr : Ty Tryz.prog 59 (Z4 Z0u) := ⟨by kernel_rfl, by kernel_rfl⟩
theorem Z3m : Ty Tryz.prog 26 Z0h := ⟨by kernel_rfl, by kernel_rfl⟩
theorem Y68 : Zr Tryz.prog 131 (Zd Z0h kraw) (Zo0, .nilFunc) := ⟨_, Z1c Zrm (Zty rfl), by kernel_rfl⟩
theorem Z26 : Sl Tryz.prog 32 90 Zy := ⟨by kernel_rfl, by kernel_rfl⟩
theorem Zii : El Tryz.prog 32 90 Zy := ⟨by kernel_rfl, by kernel_rfl, by kernel_rfl, by kernel_rfl, by kernel_rfl⟩
theorem Zoa : Ty Tryz.prog 32 kraw := ⟨by kernel_rfl, by kernel_rfl⟩
theorem Y8u : Ty Tryz.prog 23 (Z2 4 (Z4 Z0d)) := ⟨by kernel_rfl, by kernel_rfl⟩
theorem Zsw : Zr Tryz.prog 26 Z0h Zo0 := ⟨_, Zrm, by kernel_rfl⟩
theorem Zg3 : Fl Tryz.prog 90 1 Z7q := ⟨by kernel_rfl, rfl⟩
theorem Zbj : Fl Tryz.prog 90 0 Z65 := ⟨by kernel_rfl, rfl⟩
theorem Zw6 : EqK Tryz.prog 1 40 Z0o := Y0s (by kernel_rfl)
theorem Znb : EqK Tryz.prog 2 42 Zn := Zdu (fun x y e => by cases x; cases y; simp only [Prod.mk.injEq] at e; simp [e]) (l := _) (by kernel_rfl) (by kernel_rfl) (Z4u Zw6 Z18 (Zeu Zw6 Z18))
theorem Zui : EqK Tryz.prog 3 85 Z3 := Zdu (fun x y e => by cases x; cases y; simp only [Prod.mk.injEq] at e; simp [e]) (l := _) (by kernel_rfl) (by kernel_rfl) (Z4u Znb Zt (Zeu Znb Zt))
theorem Y47 : EqK Tryz.prog 4 87 (Z2 24 Z3) := Zue Zui Z00 Z20
theorem Ycx : Tryz.prog.eqGuardType Tryz.prog.depth 87 = false := by kernel_rfl
theorem Z53 : Sl Tryz.prog 162 226 Z0t := ⟨by kernel_rfl, by kernel_rfl⟩
theorem Zc0 : Ty Tryz.prog 226 Z0t := ⟨by kernel_rfl, by kernel_rfl⟩
theorem Zid : Fl Tryz.prog 226 3 Zew := ⟨by kernel_rfl, rfl⟩
theorem Zgt : Fl Tryz.prog 164 2 Zcw := ⟨by kernel_rfl, rfl⟩
theorem Zgg : Ty Tryz.prog 162 (Z4 Z0t) := ⟨by kernel_rfl, by kernel_rfl⟩
theorem Z3a : Sl Tryz.prog 24 164 Z0e := ⟨by kernel_rfl, by kernel_rfl⟩
theorem Z40 : Ty Tryz.prog 164 Z0e := ⟨by kernel_rfl, by kernel_rfl⟩
theorem Ztc : Fl Tryz.prog 26 1 Zr1 := ⟨by kernel_rfl, rfl⟩
theorem Zh2 : Ty Tryz.prog 24 (Z4 Z0e) := ⟨by kernel_rfl, by kernel_rfl⟩
theorem Zla : Fl Tryz.prog 126 0 Za9 := ⟨by kernel_rfl, rfl⟩
theorem Zzv : EqK Tryz.prog 4 101 (Z2 24 Z3) := Zue Zui Z00 Z3c
theorem Z2h : Sl Tryz.prog 229 87 (Z2 24 Z3) := ⟨by kernel_rfl, by kernel_rfl⟩
theorem Zfx : El Tryz.prog 229 87 (Z2 24 Z3) := ⟨by kernel_rfl, by kernel_rfl, by kernel_rfl, by kernel_rfl, by kernel_rfl⟩
theorem Y1s : Fl Tryz.prog 288 1 Zqu := ⟨by kernel_rfl, rfl⟩
theorem Zpi : Fl Tryz.prog 288 0 Zj7 := ⟨by kernel_rfl, rfl⟩
theorem Z6u : Zr Tryz.prog 44 (Z2 24 Zn) (Vector.replicate 24 Z05) := ⟨_, (Z6d 24 Z9l), by kernel_rfl⟩
theorem Z2w : Ty Tryz.prog 44 (Z2 24 Zn) := ⟨by kernel_rfl, by kernel_rfl⟩
theorem Y02 : Zk3 Tryz.prog 85 0 = some 42 := by kernel_rfl
theorem Y65 : Ar Tryz.prog 44 42 24 Zn := ⟨by kernel_rfl, by kernel_rfl⟩
theorem Y8s : (Tryz.prog.underlying 40).isSome = true := by kernel_rfl
theorem tyr286 : Ty Tryz.prog 286 kraw := ⟨by kernel_rfl, by kernel_rfl⟩
theorem Zvu (A : Zb) : Ty Tryz.prog 286 (kas A) := ⟨tyr286.sz, tyr286.ag⟩
theorem Y57 : Fl Tryz.prog 290 0 Zpc := ⟨by kernel_rfl, rfl⟩
theorem Znm : Ty Tryz.prog 229 (Z4 (Z2 24 Z3)) := ⟨by kernel_rfl, by kernel_rfl⟩
theorem Y3e : Zr Tryz.prog 288 Z5a Zrk := ⟨_, Zuh, by kernel_rfl⟩
theorem Ycn : Zr Tryz.prog 290 Z1r Zw2 := ⟨_, Y7e, by kernel_rfl⟩
theorem Zmo : Fl Tryz.prog 164 0 Zft := ⟨by kernel_rfl, rfl⟩
theorem Zt1 : El Tryz.prog 24 164 Z0e := ⟨by kernel_rfl, by kernel_rfl, by kernel_rfl, by kernel_rfl, by kernel_rfl⟩
theorem Za1 : Zr Tryz.prog 164 Z0e Zpm := ⟨_, Y8o, by kernel_rfl⟩
theorem Y7l : El Tryz.prog 162 226 Z0t := ⟨by kernel_rfl, by kernel_rfl, by kernel_rfl, by kernel_rfl, by kernel_rfl⟩
theorem Zpy : Zr Tryz.prog 226 Z0t Zsb := ⟨_, Y6o, by kernel_rfl⟩
theorem Zae : Zr Tryz.prog 73 Zaw Zy8 := ⟨_, Y7z, by kernel_rfl⟩
theorem Z54 : Ty Tryz.prog 73 Zaw := ⟨by kernel_rfl, by kernel_rfl⟩
theorem eqk4 : EqK Tryz.prog 1 4 Z8 := Ybi (by kernel_rfl)
theorem Y7c : EqK Tryz.prog 5 126 Z03 := Zdu (fun x y e => by cases x; cases y; simp only [Prod.mk.injEq] at e; simp [e]) (l := _) (by kernel_rfl) (by kernel_rfl) (Z4u Zzv Z02 (Z4u (eqk4.le (by decide)) ty4 (Z4u (eqk3.le (by decide)) Zv (Zeu (eqk3.le (by decide)) Zv))))
theorem Y2c : Tryz.prog.eqGuardType Tryz.prog.depth 126 = false := by kernel_rfl
theorem Y0t : EqK Tryz.prog 3 119 Z1v := Zdu (fun x y e => by cases x; cases y; simp only [Prod.mk.injEq] at e; simp [e]) (l := _) (by kernel_rfl) (by kernel_rfl) (Z4u (eqk3.le (by decide)) Zv (Z4u (eqk4.le (by decide)) ty4 (Z4u Znb Zt (Zeu Znb Zt))))
theorem Y4j : EqK Tryz.prog 4 121 Z5 := Zdu (fun x y e => by cases x; cases y; simp only [Prod.mk.injEq] at e; simp [e]) (l := _) (by kernel_rfl) (by kernel_rfl) (Z4u (eqk3.le (by decide)) Zv (Z4u (eqk3.le (by decide)) Zv (Z4u (eqk3.le (by decide)) Zv (Z4u (eqk3.le (by decide)) Zv (Z4u (eqk3.le (by decide)) Zv (Zeu Y0t Zcn))))))
theorem Zzz : Tryz.prog.eqGuardType Tryz.prog.depth 121 = false := by kernel_rfl
theorem Zwh : Fl Tryz.prog 226 0 Znd := ⟨by kernel_rfl, rfl⟩
theorem Zy2 : Fl Tryz.prog 226 1 Zqk := ⟨by kernel_rfl, rfl⟩
theorem Zys : Fl Tryz.prog 226 2 Zp7 := ⟨by kernel_rfl, rfl⟩
theorem Zxh : Fl Tryz.prog 164 1 Zr6 := ⟨by kernel_rfl, rfl⟩
theorem Zgn : Fl Tryz.prog 73 0 Zce := ⟨by kernel_rfl, rfl⟩
theorem Zjv : Ty Tryz.prog 32 (Z4 Zy) := ⟨by kernel_rfl, by kernel_rfl⟩
theorem Zoi : Fl Tryz.prog 73 1 Zix := ⟨by kernel_rfl, rfl⟩
theorem Zj9 : (Tryz.prog.underlying 98).isSome = true := by kernel_rfl
theorem Z06 : Tryz.prog.follows .mixedOrders = true := by kernel_rfl
end Go.Proofs.YtknpgojdkobgjaaGreat.W
set_option maxRecDepth 4000
namespace Go.Proofs.YtknpgojdkobgjaaGreat.W
open Go Go.Wb
theorem Zou : Ent Tryz.prog 341 := Ent.mk Tryz.func341 rfl rfl
theorem Zls : Ent Tryz.prog 302 := Ent.mk Tryz.func302 rfl rfl
theorem Y0x : Ent Tryz.prog 333 := Ent.mk Tryz.func333 rfl rfl
theorem Zvi : Ent Tryz.prog 301 := Ent.mk Tryz.func301 rfl rfl
theorem Yeq : Ent Tryz.prog 258 := Ent.mk Tryz.func258 rfl rfl
def Zea : Option (Vector Tern 24) :=
 some (Vector.replicate 24 zTern)
theorem Zrw (r : (Vector Tern 24)) (h : Zea = some r) : PCon Tryz.prog 73 [] (rd (Z2 24 Z3) r) := by
 refine PCon.of (Con.intro0 Tryz.func73 rfl Tryz.ntmps73 rfl fun w H => ?_)
 unfold Zea at h
 refine SR <| Ct rfl (Zm 1 rfl rfl Z0v) ?_
 rintro _ ⟨g1, rfl⟩
 refine Nl <| SR <| Ac (Z01 (ps := []) (x := (Vector.replicate 24 zTern)) rfl rfl rfl (by kernel_rfl) Z0v rfl) rfl <| Zh Zz 1 rfl <| Nl <| AW.ret ?_
 obtain rfl := si h
 exact Zg Tryz.results73 rfl (Z04 rfl (i := 1) rfl Zz)
def Zf5 : Option (Vector Tern 24) :=
 some (Vector.replicate 24 zTern)
theorem Zxy (r : (Vector Tern 24)) (h : Zf5 = some r) : PCon Tryz.prog 77 [] (rd (Z2 24 Z3) r) := by
 refine PCon.of (Con.intro0 Tryz.func77 rfl Tryz.ntmps77 rfl fun w H => ?_)
 unfold Zf5 at h
 refine SR <| Ct rfl (Zm 1 rfl rfl Z2u) ?_
 rintro _ ⟨g1, rfl⟩
 refine Nl <| SR <| Ac (Z01 (ps := []) (x := (Vector.replicate 24 zTern)) rfl rfl rfl (by kernel_rfl) Z2u rfl) rfl <| Zh Z02 1 rfl <| Nl <| AW.ret ?_
 obtain rfl := si h
 exact Zg Tryz.results77 rfl (Z04 rfl (i := 1) rfl Z02)
def Zds (i1 : Int) (j2 : Int) (cp3 : (List Flow)) : Option Int :=
 (lget cp3 i1).bind fun e4 => (lget cp3 j2).bind fun e5 => (bif (decide (e4.Priority > e5.Priority)) then some (-1) else (lget cp3 i1).bind fun e6 => (lget cp3 j2).bind fun e7 => (bif (decide (e6.Priority < e7.Priority)) then some 1 else some 0))
theorem Ycs (i1 : Int) (j2 : Int) (cp3 : (List Flow)) (r : Int) (h : Zds i1 j2 cp3 = some r) : PCon Tryz.prog 201 [rd (Z0 .i64) i1, rd (Z0 .i64) j2, rp (Z4 Z0d) cp3] (rd (Z0 .i64) r) := by
 refine PCon.of (Con.intro0 Tryz.func201 rfl Tryz.ntmps201 rfl fun w H => ?_)
 unfold Zds at h
 refine SR <| Ak rfl <| Nl <| AW.seq <| AW.block <| AW.seq ?_
 obtain ⟨e4, he4, h⟩ := Z1 h
 obtain ⟨e5, he5, h⟩ := Z1 h
 refine AW.regionAny [⟨[2], [7], [], []⟩, ⟨[0], [8], [], []⟩, ⟨[7, 8], [9], [], []⟩, ⟨[9], [10], [], []⟩, ⟨[10], [11], [], []⟩, ⟨[2], [12], [], []⟩, ⟨[1], [13], [], []⟩, ⟨[12, 13], [14], [], []⟩, ⟨[14], [15], [], []⟩, ⟨[15], [16], [], []⟩, ⟨[11, 16], [17], [], []⟩, ⟨[17], [6], [], []⟩] Z06 (by kernel_rfl) <| SLp Z59 rfl <| Zu rfl <| Sc (lo [7, 8] [] rfl fun S hs hr => Z0l rfl rfl Z44 (vh hs 7 rfl rfl) (vh hs 8 rfl rfl) he4) rfl <| SFp Z8w Zd5 rfl <| SLp Zv rfl <| SLp Z59 rfl <| Zu rfl <| Sc (lo [12, 13] [] rfl fun S hs hr => Z0l rfl rfl Z44 (vh hs 12 rfl rfl) (vh hs 13 rfl rfl) he5) rfl <| SFp Z8w Zd5 rfl <| SLp Zv rfl <| Sc (lo [11, 16] [] rfl fun S hs hr => Z3b rfl rfl (vh hs 11 rfl rfl) (vh hs 16 rfl rfl)) rfl <| SAs rfl <| Cn rfl (fun hc => ?_) (fun hc => ?_)
 ·have h := Ze hc h
  refine SR <| Ak rfl <| Nl <| AW.ret ?_
  obtain rfl := si h
  exact Zg Tryz.results201 rfl (Z6 rfl)
 ·have h := Zf hc h
  refine AW.seq ?_
  obtain ⟨e6, he6, h⟩ := Z1 h
  obtain ⟨e7, he7, h⟩ := Z1 h
  refine AW.regionAny [⟨[2], [19], [], []⟩, ⟨[0], [20], [], []⟩, ⟨[19, 20], [21], [], []⟩, ⟨[21], [22], [], []⟩, ⟨[22], [23], [], []⟩, ⟨[2], [24], [], []⟩, ⟨[1], [25], [], []⟩, ⟨[24, 25], [26], [], []⟩, ⟨[26], [27], [], []⟩, ⟨[27], [28], [], []⟩, ⟨[23, 28], [29], [], []⟩, ⟨[29], [18], [], []⟩] Z06 (by kernel_rfl) <| SLp Z59 rfl <| Zu rfl <| Sc (lo [19, 20] [] rfl fun S hs hr => Z0l rfl rfl Z44 (vh hs 19 rfl rfl) (vh hs 20 rfl rfl) he6) rfl <| SFp Z8w Zd5 rfl <| SLp Zv rfl <| SLp Z59 rfl <| Zu rfl <| Sc (lo [24, 25] [] rfl fun S hs hr => Z0l rfl rfl Z44 (vh hs 24 rfl rfl) (vh hs 25 rfl rfl) he7) rfl <| SFp Z8w Zd5 rfl <| SLp Zv rfl <| Sc (lo [23, 28] [] rfl fun S hs hr => Zl rfl rfl (vh hs 23 rfl rfl) (vh hs 28 rfl rfl)) rfl <| SAs rfl <| Cn rfl (fun hc => ?_) (fun hc => ?_)
  ·have h := Ze hc h
   refine SR <| Ak rfl <| Nl <| AW.ret ?_
   obtain rfl := si h
   exact Zg Tryz.results201 rfl (Z6 rfl)
  ·have h := Zf hc h
   refine AW.skip <| SR <| Ak rfl <| Nl <| AW.ret ?_
   obtain rfl := si h
   exact Zg Tryz.results201 rfl (Z6 rfl)
def Z85 (a3 : Int) (cmp5 : (Int → Int → Option Int)) (go1 : (List Int) → Int → Option (List Int)) (i9 : Int) : Nat → (List Int) → Int → Option (List Int)
 | 0, _, _ => none
 | m15 + 1, l13, j14 => (opt (decide (j14 > a3)) (lget l13 j14)).bind fun e16 => (opt (decide (j14 > a3)) (lget l13 (IntKind.i64.wrap (j14 - 1)))).bind fun e17 => (opt (decide (j14 > a3)) (cmp5 e16 e17)).bind fun x18 => (bif ((decide (j14 > a3)) && (decide (x18 < 0))) then (lget l13 (IntKind.i64.wrap (j14 - 1))).bind fun e19 => (lget l13 j14).bind fun e20 => (lget l13 j14).bind fun e21 => (lget (List.set l13 j14.toNat e19) (IntKind.i64.wrap (j14 - 1))).bind fun e22 => (Z85 a3 cmp5 go1 i9 m15) (List.set (List.set l13 j14.toNat e19) (IntKind.i64.wrap (j14 - 1)).toNat e20) (IntKind.i64.wrap (j14 - 1)) else go1 l13 (IntKind.i64.wrap (i9 + 1)))
def Z6l (b4 : Int) (a3 : Int) (cmp5 : (Int → Int → Option Int)) : Nat → (List Int) → Int → Option (List Int)
 | 0, _, _ => none
 | m10 + 1, l8, i9 => (bif (decide (i9 < b4)) then Z85 a3 cmp5 (Z6l b4 a3 cmp5 m10) i9 Z0x l8 i9 else some l8)
def Zel (data1 : (List Int)) (a3 : Int) (b4 : Int) (cmp5 : (Int → Int → Option Int)) : Option (List Int) :=
 Z6l b4 a3 cmp5 (((b4 : Int) - (IntKind.i64.wrap (a3 + 1))).toNat + 1) data1 (IntKind.i64.wrap (a3 + 1))
theorem Zs6 (v2 : Value) (data1 : (List Int)) (a3 : Int) (b4 : Int) (cmp5 : (Int → Int → Option Int)) (r : (List Int)) (h : Zel data1 a3 b4 cmp5 = some r) : Con Tryz.prog 301 [Zc v2, rd (Z0 .i64) a3, rd (Z0 .i64) b4, fn2 Tryz.prog (Z0 .i64) (Z0 .i64) (Z0 .i64) cmp5] (Za v2 3 (Z0 .i64) data1) (fun _ : Unit => top) (fun _ => Za v2 3 (Z0 .i64) r) := by
 refine Con.intro Tryz.func301 rfl Tryz.ntmps301 rfl fun w H X => ?_
 unfold Zel at h
 refine SR <| Md rfl <| Ac (Z08 rfl rfl (vt rfl) (vk rfl)) rfl <| As rfl <| Nl <| AW.block <| AW.loopG (d := []) (ν := Nat × (List Int) × Int) (fun n => True ∧ Z6l b4 a3 cmp5 n.1 n.2.1 n.2.2 = some r) (fun n => n.1) (fun n => [(0, Zc v2), (1, rd (Z0 .i64) a3), (2, rd (Z0 .i64) b4), (3, fn2 Tryz.prog (Z0 .i64) (Z0 .i64) (Z0 .i64) cmp5), (8, rd (Z0 .i64) n.2.2)]) (fun n => [(0, Za v2 3 (Z0 .i64) n.2.1)]) ((((b4 : Int) - (IntKind.i64.wrap (a3 + 1))).toNat + 1), data1, (IntKind.i64.wrap (a3 + 1))) ⟨trivial, h⟩ ⟨rfl, ⟨rfl, rfl, rfl, rfl, rfl, trivial⟩, ⟨rfl, trivial⟩⟩ ?_
 rintro ⟨m10, l8, i9⟩ ⟨hsf1, h⟩
 change True at hsf1
 change Z6l b4 a3 cmp5 m10 l8 i9 = some r at h
 change AW _ _ _ ⟨Zw [(0, Zc v2), (1, rd (Z0 .i64) a3), (2, rd (Z0 .i64) b4), (3, fn2 Tryz.prog (Z0 .i64) (Z0 .i64) (Z0 .i64) cmp5), (8, rd (Z0 .i64) i9)], Zx [(0, Za v2 3 (Z0 .i64) l8)], _⟩
 cases m10 with
 | zero => cases h
 | succ m10 =>
  unfold Z6l at h
  generalize hgo1 : Z6l b4 a3 cmp5 m10 = go1 at h
  refine AW.seq <| SR <| Md rfl <| Md rfl <| Ac (Zl rfl rfl (vt rfl) (vt rfl)) rfl <| Nl <| Cn rfl (fun hc => ?_) (fun hc => ?_)
  ·have h := Ze hc h
   refine AW.skip <| AW.seq <| AW.block <| SR <| Md rfl <| As rfl <| Nl <| AW.block <| AW.loopG (d := []) (ν := Nat × (List Int) × Int) (fun n => True ∧ Z85 a3 cmp5 go1 i9 n.1 n.2.1 n.2.2 = some r) (fun n => n.1) (fun n => [(0, Zc v2), (1, rd (Z0 .i64) a3), (2, rd (Z0 .i64) b4), (3, fn2 Tryz.prog (Z0 .i64) (Z0 .i64) (Z0 .i64) cmp5), (8, rd (Z0 .i64) i9), (9, rd (Z0 .i64) n.2.2)]) (fun n => [(0, Za v2 3 (Z0 .i64) n.2.1)]) (Z0x, l8, i9) ⟨trivial, h⟩ ⟨rfl, ⟨rfl, rfl, rfl, rfl, rfl, rfl, trivial⟩, ⟨rfl, trivial⟩⟩ ?_
   rintro ⟨m15, l13, j14⟩ ⟨hsf2, h⟩
   change True at hsf2
   change Z85 a3 cmp5 go1 i9 m15 l13 j14 = some r at h
   change AW _ _ _ ⟨Zw [(0, Zc v2), (1, rd (Z0 .i64) a3), (2, rd (Z0 .i64) b4), (3, fn2 Tryz.prog (Z0 .i64) (Z0 .i64) (Z0 .i64) cmp5), (8, rd (Z0 .i64) i9), (9, rd (Z0 .i64) j14)], Zx [(0, Za v2 3 (Z0 .i64) l13)], _⟩
   cases m15 with
   | zero => cases h
   | succ m15 =>
    unfold Z85 at h
    generalize hgo2 : Z85 a3 cmp5 go1 i9 m15 = go2 at h
    refine AW.seq <| AW.seq ?_
    obtain ⟨e16, he16, h⟩ := Z1 h
    obtain ⟨e17, he17, h⟩ := Z1 h
    obtain ⟨x18, hx18, h⟩ := Z1 h
    refine AW.regionAny [⟨[9], [18], [], []⟩, ⟨[1], [19], [], []⟩, ⟨[18, 19], [20], [], []⟩, ⟨[20], [21], [], []⟩, ⟨[3, 21], [22], [], []⟩, ⟨[0, 21], [23], [], []⟩, ⟨[9, 21], [24], [], []⟩, ⟨[23, 24, 21], [25], [0], []⟩, ⟨[25, 21], [26], [0], []⟩, ⟨[0, 21], [27], [], []⟩, ⟨[9, 21], [28], [], []⟩, ⟨[28, 21], [29], [], []⟩, ⟨[27, 29, 21], [30], [0], []⟩, ⟨[30, 21], [31], [0], []⟩, ⟨[22, 26, 31, 21], [32], [], []⟩, ⟨[32, 21], [33], [], []⟩, ⟨[33, 21], [34], [], []⟩] Z06 (by kernel_rfl) <| Zu rfl <| Zu rfl <| Sc (lo [18, 19] [] rfl fun S hs hr => Z3b rfl rfl (vh hs 18 rfl rfl) (vh hs 19 rfl rfl)) rfl <| Zu rfl <| Sc (lg [3, 21] [] rfl fun hq S hs hr => Zs (A := fn2 Tryz.prog (Z0 .i64) (Z0 .i64) (Z0 .i64) cmp5) rfl rfl (vh hs 3 rfl rfl)) rfl <| Sc (lg [0, 21] [] rfl fun hq S hs hr => Zs (A := Zc v2) rfl rfl (vh hs 0 rfl rfl)) rfl <| Sc (lg [9, 21] [] rfl fun hq S hs hr => Zs (A := rd (Z0 .i64) j14) rfl rfl (vh hs 9 rfl rfl)) rfl <| Sc (lg [23, 24, 21] [0] rfl fun hq S hs hr => Z1o 0 rfl rfl Z10 (Zj ((hs 23 rfl).trans rfl) hq) ((hr 0 rfl).trans rfl) (Zj ((hs 24 rfl).trans rfl) hq) (Z1g he16 hq)) rfl <| Sc (lg [25, 21] [0] rfl fun hq S hs hr => Z1d 0 rfl rfl Zv (Zj ((hs 25 rfl).trans rfl) hq) ((hr 0 rfl).trans rfl) (Z0g (Z1g he16 hq)).2) rfl <| Sc (lg [0, 21] [] rfl fun hq S hs hr => Zs (A := Zc v2) rfl rfl (vh hs 0 rfl rfl)) rfl <| Sc (lg [9, 21] [] rfl fun hq S hs hr => Zs (A := rd (Z0 .i64) j14) rfl rfl (vh hs 9 rfl rfl)) rfl <| Sc (lg [28, 21] [] rfl fun hq S hs hr => Z0n rfl rfl (Zj ((hs 28 rfl).trans rfl) hq) (vk rfl)) rfl <| Sc (lg [27, 29, 21] [0] rfl fun hq S hs hr => Z1o 0 rfl rfl Z10 (Zj ((hs 27 rfl).trans rfl) hq) ((hr 0 rfl).trans rfl) (Zj ((hs 29 rfl).trans rfl) hq) (Z1g he17 hq)) rfl <| Sc (lg [30, 21] [0] rfl fun hq S hs hr => Z1d 0 rfl rfl Zv (Zj ((hs 30 rfl).trans rfl) hq) ((hr 0 rfl).trans rfl) (Z0g (Z1g he17 hq)).2) rfl <| Sc (lg [22, 26, 31, 21] [] rfl fun hq S hs hr => Z57 (Z1g hx18 hq) rfl rfl (Zj ((hs 22 rfl).trans rfl) hq) (Zj ((hs 26 rfl).trans rfl) hq) (Zj ((hs 31 rfl).trans rfl) hq)) rfl <| Sc (lg [32, 21] [] rfl fun hq S hs hr => Zl rfl rfl (Zj ((hs 32 rfl).trans rfl) hq) (vk rfl)) rfl <| Sc (lo [33, 21] [] rfl fun S hs hr => Z11 rfl rfl (vh hs 21 rfl rfl) (vh hs 33 rfl rfl)) rfl <| Cn rfl (fun hc => ?_) (fun hc => ?_)
    ·have h := Ze hc h
     refine AW.skip <| AW.seq <| AW.block <| AW.vlen 0 rfl fun hvl0_273 => ?_
     obtain ⟨e19, he19, h⟩ := Z1 h
     obtain ⟨e20, he20, h⟩ := Z1 h
     obtain ⟨e21, he21, h⟩ := Z1 h
     obtain ⟨e22, he22, h⟩ := Z1 h
     refine AW.regionAny [⟨[0], [37], [], []⟩, ⟨[9], [38], [], []⟩, ⟨[0], [39], [], []⟩, ⟨[9], [40], [], []⟩, ⟨[40], [41], [], []⟩, ⟨[0], [42], [], []⟩, ⟨[9], [43], [], []⟩, ⟨[43], [44], [], []⟩, ⟨[42, 44], [45], [], []⟩, ⟨[45], [46], [0], []⟩, ⟨[0], [47], [], []⟩, ⟨[9], [48], [], []⟩, ⟨[47, 48], [49], [], []⟩, ⟨[49], [50], [0], []⟩, ⟨[37, 38], [51], [], []⟩, ⟨[51, 46], [], [0], [0]⟩, ⟨[39, 41], [52], [], []⟩, ⟨[52, 50], [], [0], [0]⟩] Z06 (by kernel_rfl) <| SMw rfl <| Zu rfl <| SMw rfl <| Zu rfl <| Sc (lo [40] [] rfl fun S hs hr => Z0n rfl rfl (vh hs 40 rfl rfl) (vk rfl)) rfl <| SMw rfl <| Zu rfl <| Sc (lo [43] [] rfl fun S hs hr => Z0n rfl rfl (vh hs 43 rfl rfl) (vk rfl)) rfl <| Sc (lo [42, 44] [] rfl fun S hs hr => Z1z (l := l13) hvl0_273 rfl rfl rfl Z10 (vh hs 42 rfl rfl) (vh hs 44 rfl rfl) he19) rfl <| Sc (lo [45] [0] rfl fun S hs hr => Z1d 0 rfl rfl Zv (vh hs 45 rfl rfl) ((hr 0 rfl).trans rfl) (Z0g he19).2) rfl <| SMw rfl <| Zu rfl <| Sc (lo [47, 48] [] rfl fun S hs hr => Z1z (l := l13) hvl0_273 rfl rfl rfl Z10 (vh hs 47 rfl rfl) (vh hs 48 rfl rfl) he20) rfl <| Sc (lo [49] [0] rfl fun S hs hr => Z1d 0 rfl rfl Zv (vh hs 49 rfl rfl) ((hr 0 rfl).trans rfl) (Z0g he20).2) rfl <| Sc (lo [37, 38] [] rfl fun S hs hr => Z1z (l := l13) hvl0_273 rfl rfl rfl Z10 (vh hs 37 rfl rfl) (vh hs 38 rfl rfl) he21) rfl <| Sc (Z3l [51, 46] [0] rfl fun S hs hr => Z28 0 rfl rfl Zv (vh hs 51 rfl rfl) ((hr 0 rfl).trans rfl) (Z0g he21).2 (vh hs 46 rfl rfl)) rfl <| Sc (lo [39, 41] [] rfl fun S hs hr => Z1z (l := (List.set l13 j14.toNat e19)) hvl0_273 (by simp) rfl rfl Z10 (vh hs 39 rfl rfl) (vh hs 41 rfl rfl) he22) rfl <| Sc (Z3l [52, 50] [0] rfl fun S hs hr => Z28 0 rfl rfl Zv (vh hs 52 rfl rfl) ((hr 0 rfl).trans rfl) (Z0g he22).2 (vh hs 50 rfl rfl)) rfl <| Rg <| Md rfl <| Ac (Z0n rfl rfl (vt rfl) (vk rfl)) rfl <| As rfl <| Nl ?_
     subst hgo2
     exact ⟨(m15, (List.set (List.set l13 j14.toNat e19) (IntKind.i64.wrap (j14 - 1)).toNat e20), (IntKind.i64.wrap (j14 - 1))), Nat.lt_succ_self _, ⟨trivial, h⟩, ⟨rfl, ⟨rfl, rfl, rfl, rfl, rfl, rfl, trivial⟩, ⟨rfl, trivial⟩⟩⟩
    ·have h := Zf hc h
     refine AW.exit <| Rg <| Md rfl <| Ac (Z08 rfl rfl (vt rfl) (vk rfl)) rfl <| As rfl <| Nl ?_
     subst hgo1
     exact ⟨(m10, l13, (IntKind.i64.wrap (i9 + 1))), Nat.lt_succ_self _, ⟨trivial, h⟩, ⟨rfl, ⟨rfl, rfl, rfl, rfl, rfl, trivial⟩, ⟨rfl, trivial⟩⟩⟩
  ·have h := Zf hc h
   refine AW.exit ?_
   obtain rfl := si h
   exact Z2n (i := 0) Tryz.results301 rfl rfl
def Zeg (n5 : Int) (b4 : Int) (a3 : Int) : Nat → (List Int) → Int → Option (List Int)
 | 0, _, _ => none
 | m11 + 1, l9, i10 => (bif (decide (i10 < n5)) then (lget l9 (IntKind.i64.wrap (b4 + i10))).bind fun e12 => (lget l9 (IntKind.i64.wrap (a3 + i10))).bind fun e13 => (lget l9 (IntKind.i64.wrap (a3 + i10))).bind fun e14 => (lget (List.set l9 (IntKind.i64.wrap (a3 + i10)).toNat e12) (IntKind.i64.wrap (b4 + i10))).bind fun e15 => (Zeg n5 b4 a3 m11) (List.set (List.set l9 (IntKind.i64.wrap (a3 + i10)).toNat e12) (IntKind.i64.wrap (b4 + i10)).toNat e13) (IntKind.i64.wrap (i10 + 1)) else some l9)
def Zfq (data1 : (List Int)) (a3 : Int) (b4 : Int) (n5 : Int) (cmp6 : (Int → Int → Option Int)) : Option (List Int) :=
 Zeg n5 b4 a3 (((n5 : Int) - 0).toNat + 1) data1 0
theorem Zov (v2 : Value) (data1 : (List Int)) (a3 : Int) (b4 : Int) (n5 : Int) (cmp6 : (Int → Int → Option Int)) (r : (List Int)) (h : Zfq data1 a3 b4 n5 cmp6 = some r) : Con Tryz.prog 341 [Zc v2, rd (Z0 .i64) a3, rd (Z0 .i64) b4, rd (Z0 .i64) n5, fn2 Tryz.prog (Z0 .i64) (Z0 .i64) (Z0 .i64) cmp6] (Za v2 3 (Z0 .i64) data1) (fun _ : Unit => top) (fun _ => Za v2 3 (Z0 .i64) r) := by
 refine Con.intro Tryz.func341 rfl Tryz.ntmps341 rfl fun w H X => ?_
 unfold Zfq at h
 refine SR <| Ak rfl <| Nl <| AW.block <| AW.loopG (d := []) (ν := Nat × (List Int) × Int) (fun n => True ∧ Zeg n5 b4 a3 n.1 n.2.1 n.2.2 = some r) (fun n => n.1) (fun n => [(0, Zc v2), (1, rd (Z0 .i64) a3), (2, rd (Z0 .i64) b4), (3, rd (Z0 .i64) n5), (10, rd (Z0 .i64) n.2.2)]) (fun n => [(0, Za v2 3 (Z0 .i64) n.2.1)]) ((((n5 : Int) - 0).toNat + 1), data1, 0) ⟨trivial, h⟩ ⟨rfl, ⟨rfl, rfl, rfl, rfl, rfl, trivial⟩, ⟨rfl, trivial⟩⟩ ?_
 rintro ⟨m11, l9, i10⟩ ⟨hsf1, h⟩
 change True at hsf1
 change Zeg n5 b4 a3 m11 l9 i10 = some r at h
 change AW _ _ _ ⟨Zw [(0, Zc v2), (1, rd (Z0 .i64) a3), (2, rd (Z0 .i64) b4), (3, rd (Z0 .i64) n5), (10, rd (Z0 .i64) i10)], Zx [(0, Za v2 3 (Z0 .i64) l9)], _⟩
 cases m11 with
 | zero => cases h
 | succ m11 =>
  unfold Zeg at h
  generalize hgo1 : Zeg n5 b4 a3 m11 = go1 at h
  refine AW.seq <| SR <| Md rfl <| Md rfl <| Ac (Zl rfl rfl (vt rfl) (vt rfl)) rfl <| Nl <| Cn rfl (fun hc => ?_) (fun hc => ?_)
  ·have h := Ze hc h
   refine AW.skip <| AW.seq <| AW.block <| AW.vlen 0 rfl fun hvl0_127 => ?_
   obtain ⟨e12, he12, h⟩ := Z1 h
   obtain ⟨e13, he13, h⟩ := Z1 h
   obtain ⟨e14, he14, h⟩ := Z1 h
   obtain ⟨e15, he15, h⟩ := Z1 h
   refine AW.regionAny [⟨[0], [16], [], []⟩, ⟨[1], [17], [], []⟩, ⟨[10], [18], [], []⟩, ⟨[17, 18], [19], [], []⟩, ⟨[0], [20], [], []⟩, ⟨[2], [21], [], []⟩, ⟨[10], [22], [], []⟩, ⟨[21, 22], [23], [], []⟩, ⟨[0], [24], [], []⟩, ⟨[2], [25], [], []⟩, ⟨[10], [26], [], []⟩, ⟨[25, 26], [27], [], []⟩, ⟨[24, 27], [28], [], []⟩, ⟨[28], [29], [0], []⟩, ⟨[0], [30], [], []⟩, ⟨[1], [31], [], []⟩, ⟨[10], [32], [], []⟩, ⟨[31, 32], [33], [], []⟩, ⟨[30, 33], [34], [], []⟩, ⟨[34], [35], [0], []⟩, ⟨[16, 19], [36], [], []⟩, ⟨[36, 29], [], [0], [0]⟩, ⟨[20, 23], [37], [], []⟩, ⟨[37, 35], [], [0], [0]⟩] Z06 (by kernel_rfl) <| SMw rfl <| Zu rfl <| Zu rfl <| Sc (lo [17, 18] [] rfl fun S hs hr => Z08 rfl rfl (vh hs 17 rfl rfl) (vh hs 18 rfl rfl)) rfl <| SMw rfl <| Zu rfl <| Zu rfl <| Sc (lo [21, 22] [] rfl fun S hs hr => Z08 rfl rfl (vh hs 21 rfl rfl) (vh hs 22 rfl rfl)) rfl <| SMw rfl <| Zu rfl <| Zu rfl <| Sc (lo [25, 26] [] rfl fun S hs hr => Z08 rfl rfl (vh hs 25 rfl rfl) (vh hs 26 rfl rfl)) rfl <| Sc (lo [24, 27] [] rfl fun S hs hr => Z1z (l := l9) hvl0_127 rfl rfl rfl Z10 (vh hs 24 rfl rfl) (vh hs 27 rfl rfl) he12) rfl <| Sc (lo [28] [0] rfl fun S hs hr => Z1d 0 rfl rfl Zv (vh hs 28 rfl rfl) ((hr 0 rfl).trans rfl) (Z0g he12).2) rfl <| SMw rfl <| Zu rfl <| Zu rfl <| Sc (lo [31, 32] [] rfl fun S hs hr => Z08 rfl rfl (vh hs 31 rfl rfl) (vh hs 32 rfl rfl)) rfl <| Sc (lo [30, 33] [] rfl fun S hs hr => Z1z (l := l9) hvl0_127 rfl rfl rfl Z10 (vh hs 30 rfl rfl) (vh hs 33 rfl rfl) he13) rfl <| Sc (lo [34] [0] rfl fun S hs hr => Z1d 0 rfl rfl Zv (vh hs 34 rfl rfl) ((hr 0 rfl).trans rfl) (Z0g he13).2) rfl <| Sc (lo [16, 19] [] rfl fun S hs hr => Z1z (l := l9) hvl0_127 rfl rfl rfl Z10 (vh hs 16 rfl rfl) (vh hs 19 rfl rfl) he14) rfl <| Sc (Z3l [36, 29] [0] rfl fun S hs hr => Z28 0 rfl rfl Zv (vh hs 36 rfl rfl) ((hr 0 rfl).trans rfl) (Z0g he14).2 (vh hs 29 rfl rfl)) rfl <| Sc (lo [20, 23] [] rfl fun S hs hr => Z1z (l := (List.set l9 (IntKind.i64.wrap (a3 + i10)).toNat e12)) hvl0_127 (by simp) rfl rfl Z10 (vh hs 20 rfl rfl) (vh hs 23 rfl rfl) he15) rfl <| Sc (Z3l [37, 35] [0] rfl fun S hs hr => Z28 0 rfl rfl Zv (vh hs 37 rfl rfl) ((hr 0 rfl).trans rfl) (Z0g he15).2 (vh hs 35 rfl rfl)) rfl <| Rg <| Md rfl <| Ac (Z08 rfl rfl (vt rfl) (vk rfl)) rfl <| As rfl <| Nl ?_
   subst hgo1
   exact ⟨(m11, (List.set (List.set l9 (IntKind.i64.wrap (a3 + i10)).toNat e12) (IntKind.i64.wrap (b4 + i10)).toNat e13), (IntKind.i64.wrap (i10 + 1))), Nat.lt_succ_self _, ⟨trivial, h⟩, ⟨rfl, ⟨rfl, rfl, rfl, rfl, rfl, trivial⟩, ⟨rfl, trivial⟩⟩⟩
  ·have h := Zf hc h
   refine AW.exit ?_
   obtain rfl := si h
   exact Z2n (i := 0) Tryz.results341 rfl rfl
def Zcb (m4 : Int) (cmp6 : (Int → Int → Option Int)) : Nat → (List Int) → Int → Int → Option (List Int)
 | 0, _, _, _ => none
 | m13 + 1, l10, i11, j12 => (bif (decide (i11 ≠ j12)) then (bif (decide (i11 > j12)) then (Zfq l10 (IntKind.i64.wrap (m4 - i11)) m4 j12 cmp6).bind fun l14 => (Zcb m4 cmp6 m13) l14 (IntKind.i64.wrap (i11 - j12)) j12 else (Zfq l10 (IntKind.i64.wrap (m4 - i11)) (IntKind.i64.wrap ((IntKind.i64.wrap (m4 + j12)) - i11)) i11 cmp6).bind fun l15 => (Zcb m4 cmp6 m13) l15 i11 (IntKind.i64.wrap (j12 - i11))) else (Zfq l10 (IntKind.i64.wrap (m4 - i11)) m4 i11 cmp6).bind fun l16 => some l16)
def Zqm (data1 : (List Int)) (a3 : Int) (m4 : Int) (b5 : Int) (cmp6 : (Int → Int → Option Int)) : Option (List Int) :=
 Zcb m4 cmp6 Z0x data1 (IntKind.i64.wrap (m4 - a3)) (IntKind.i64.wrap (b5 - m4))
theorem Y72 (v2 : Value) (data1 : (List Int)) (a3 : Int) (m4 : Int) (b5 : Int) (cmp6 : (Int → Int → Option Int)) (r : (List Int)) (h : Zqm data1 a3 m4 b5 cmp6 = some r) : Con Tryz.prog 333 [Zc v2, rd (Z0 .i64) a3, rd (Z0 .i64) m4, rd (Z0 .i64) b5, fn2 Tryz.prog (Z0 .i64) (Z0 .i64) (Z0 .i64) cmp6] (Za v2 3 (Z0 .i64) data1) (fun _ : Unit => top) (fun _ => Za v2 3 (Z0 .i64) r) := by
 refine Con.intro Tryz.func333 rfl Tryz.ntmps333 rfl fun w H X => ?_
 unfold Zqm at h
 refine SR <| Md rfl <| Md rfl <| Ac (Z0n rfl rfl (vt rfl) (vt rfl)) rfl <| As rfl <| Nl <| SR <| Md rfl <| Md rfl <| Ac (Z0n rfl rfl (vt rfl) (vt rfl)) rfl <| As rfl <| Nl <| AW.seq <| AW.block <| AW.loopG (d := []) (ν := Nat × (List Int) × Int × Int) (fun n => True ∧ Zcb m4 cmp6 n.1 n.2.1 n.2.2.1 n.2.2.2 = some r) (fun n => n.1) (fun n => [(0, Zc v2), (2, rd (Z0 .i64) m4), (4, fn2 Tryz.prog (Z0 .i64) (Z0 .i64) (Z0 .i64) cmp6), (10, rd (Z0 .i64) n.2.2.1), (11, rd (Z0 .i64) n.2.2.2)]) (fun n => [(0, Za v2 3 (Z0 .i64) n.2.1)]) (Z0x, data1, (IntKind.i64.wrap (m4 - a3)), (IntKind.i64.wrap (b5 - m4))) ⟨trivial, h⟩ ⟨rfl, ⟨rfl, rfl, rfl, rfl, rfl, trivial⟩, ⟨rfl, trivial⟩⟩ ?_
 rintro ⟨m13, l10, i11, j12⟩ ⟨hsf1, h⟩
 change True at hsf1
 change Zcb m4 cmp6 m13 l10 i11 j12 = some r at h
 change AW _ _ _ ⟨Zw [(0, Zc v2), (2, rd (Z0 .i64) m4), (4, fn2 Tryz.prog (Z0 .i64) (Z0 .i64) (Z0 .i64) cmp6), (10, rd (Z0 .i64) i11), (11, rd (Z0 .i64) j12)], Zx [(0, Za v2 3 (Z0 .i64) l10)], _⟩
 cases m13 with
 | zero => cases h
 | succ m13 =>
  unfold Zcb at h
  generalize hgo1 : Zcb m4 cmp6 m13 = go1 at h
  refine AW.seq <| SR <| Md rfl <| Md rfl <| Ac (Z5l rfl rfl (vt rfl) (vt rfl)) rfl <| Nl <| Cn rfl (fun hc => ?_) (fun hc => ?_)
  ·have h := Ze hc h
   refine AW.skip <| AW.block <| SR <| Md rfl <| Md rfl <| Ac (Z3b rfl rfl (vt rfl) (vt rfl)) rfl <| Nl <| Cn rfl (fun hc => ?_) (fun hc => ?_)
   ·have h := Ze hc h
    refine AW.seq ?_
    obtain ⟨l14, hl14, h⟩ := Z1 h
    refine Rg <| Mw rfl <| Md rfl <| Md rfl <| Ac (Z0n rfl rfl (vt rfl) (vt rfl)) rfl <| Md rfl <| Md rfl <| Ac (Zs (A := fn2 Tryz.prog (Z0 .i64) (Z0 .i64) (Z0 .i64) cmp6) rfl rfl (vt rfl)) rfl <| Ct rfl (Z1k 0 (xs := [.tmp 24, .tmp 27, .tmp 28, .tmp 29, .tmp 30]) (Zov _ _ _ _ _ _ _ hl14) Zou rfl rfl ⟨vt rfl, vt rfl, vt rfl, vt rfl, vt rfl, trivial⟩ rfl) ?_
    rintro _ ⟨_u, rfl⟩
    refine Nl <| Rg <| Md rfl <| Md rfl <| Ac (Z0n rfl rfl (vt rfl) (vt rfl)) rfl <| As rfl <| Nl ?_
    subst hgo1
    exact ⟨(m13, l14, (IntKind.i64.wrap (i11 - j12)), j12), Nat.lt_succ_self _, ⟨trivial, h⟩, ⟨rfl, ⟨rfl, rfl, rfl, rfl, rfl, trivial⟩, ⟨rfl, trivial⟩⟩⟩
   ·have h := Zf hc h
    refine AW.seq ?_
    obtain ⟨l15, hl15, h⟩ := Z1 h
    refine Rg <| Mw rfl <| Md rfl <| Md rfl <| Ac (Z0n rfl rfl (vt rfl) (vt rfl)) rfl <| Md rfl <| Md rfl <| Ac (Z08 rfl rfl (vt rfl) (vt rfl)) rfl <| Md rfl <| Ac (Z0n rfl rfl (vt rfl) (vt rfl)) rfl <| Md rfl <| Ac (Zs (A := fn2 Tryz.prog (Z0 .i64) (Z0 .i64) (Z0 .i64) cmp6) rfl rfl (vt rfl)) rfl <| Ct rfl (Z1k 0 (xs := [.tmp 35, .tmp 38, .tmp 43, .tmp 44, .tmp 45]) (Zov _ _ _ _ _ _ _ hl15) Zou rfl rfl ⟨vt rfl, vt rfl, vt rfl, vt rfl, vt rfl, trivial⟩ rfl) ?_
    rintro _ ⟨_u, rfl⟩
    refine Nl <| Rg <| Md rfl <| Md rfl <| Ac (Z0n rfl rfl (vt rfl) (vt rfl)) rfl <| As rfl <| Nl ?_
    subst hgo1
    exact ⟨(m13, l15, i11, (IntKind.i64.wrap (j12 - i11))), Nat.lt_succ_self _, ⟨trivial, h⟩, ⟨rfl, ⟨rfl, rfl, rfl, rfl, rfl, trivial⟩, ⟨rfl, trivial⟩⟩⟩
  ·have h := Zf hc h
   refine AW.exit ?_
   obtain ⟨l16, hl16, h⟩ := Z1 h
   refine Rg <| Mw rfl <| Md rfl <| Md rfl <| Ac (Z0n rfl rfl (vt rfl) (vt rfl)) rfl <| Md rfl <| Md rfl <| Ac (Zs (A := fn2 Tryz.prog (Z0 .i64) (Z0 .i64) (Z0 .i64) cmp6) rfl rfl (vt rfl)) rfl <| Ct rfl (Z1k 0 (xs := [.tmp 50, .tmp 53, .tmp 54, .tmp 55, .tmp 56]) (Zov _ _ _ _ _ _ _ hl16) Zou rfl rfl ⟨vt rfl, vt rfl, vt rfl, vt rfl, vt rfl, trivial⟩ rfl) ?_
   rintro _ ⟨_u, rfl⟩
   refine Nl ?_
   obtain rfl := si h
   exact Z2n (i := 0) Tryz.results333 rfl rfl
def Zf2 (i9 : Int) : Nat → (List Int) → Int → Option (List Int)
 | 0, _, _ => none
 | m20 + 1, l18, k19 => (bif (decide (k19 < (IntKind.i64.wrap (i9 - 1)))) then (lget l18 (IntKind.i64.wrap (k19 + 1))).bind fun e21 => (lget l18 k19).bind fun e22 => (lget l18 k19).bind fun e23 => (lget (List.set l18 k19.toNat e21) (IntKind.i64.wrap (k19 + 1))).bind fun e24 => (Zf2 i9 m20) (List.set (List.set l18 k19.toNat e21) (IntKind.i64.wrap (k19 + 1)).toNat e22) (IntKind.i64.wrap (k19 + 1)) else some l18)
def Zci (data1 : (List Int)) (a3 : Int) (cmp6 : (Int → Int → Option Int)) : Nat → Int → Int → Option (List Int)
 | 0, _, _ => none
 | m11 + 1, i9, j10 => (bif (decide (i9 < j10)) then (Z33 (BitVec.ofInt 64 (IntKind.i64.wrap (i9 + j10))) ((1 : BitVec 64).toNat : Int)).bind fun q12 => (lget data1 (IntKind.i64.wrap (q12.toNat : Int))).bind fun e13 => (lget data1 a3).bind fun e14 => (cmp6 e13 e14).bind fun x15 => (bif (decide (x15 < 0)) then (Zci data1 a3 cmp6 m11) (IntKind.i64.wrap ((IntKind.i64.wrap (q12.toNat : Int)) + 1)) j10 else (Zci data1 a3 cmp6 m11) i9 (IntKind.i64.wrap (q12.toNat : Int))) else Zf2 i9 ((((IntKind.i64.wrap (i9 - 1)) : Int) - a3).toNat + 1) data1 a3)
def Ze3 (i27 : Int) : Nat → (List Int) → Int → Option (List Int)
 | 0, _, _ => none
 | m38 + 1, l36, k37 => (bif (decide (k37 > i27)) then (lget l36 (IntKind.i64.wrap (k37 - 1))).bind fun e39 => (lget l36 k37).bind fun e40 => (lget l36 k37).bind fun e41 => (lget (List.set l36 k37.toNat e39) (IntKind.i64.wrap (k37 - 1))).bind fun e42 => (Ze3 i27 m38) (List.set (List.set l36 k37.toNat e39) (IntKind.i64.wrap (k37 - 1)).toNat e40) (IntKind.i64.wrap (k37 - 1)) else some l36)
def Zby (data1 : (List Int)) (m4 : Int) (cmp6 : (Int → Int → Option Int)) : Nat → Int → Int → Option (List Int)
 | 0, _, _ => none
 | m29 + 1, i27, j28 => (bif (decide (i27 < j28)) then (Z33 (BitVec.ofInt 64 (IntKind.i64.wrap (i27 + j28))) ((1 : BitVec 64).toNat : Int)).bind fun q30 => (lget data1 m4).bind fun e31 => (lget data1 (IntKind.i64.wrap (q30.toNat : Int))).bind fun e32 => (cmp6 e31 e32).bind fun x33 => (bif (!(decide (x33 < 0))) then (Zby data1 m4 cmp6 m29) (IntKind.i64.wrap ((IntKind.i64.wrap (q30.toNat : Int)) + 1)) j28 else (Zby data1 m4 cmp6 m29) i27 (IntKind.i64.wrap (q30.toNat : Int))) else Ze3 i27 (((m4 : Int) - i27).toNat + 1) data1 m4)
def Zlu (q43 : (BitVec 64)) (m4 : Int) (start48 : Int) (b5 : Int) (R_slices_symMergeCmpFunc_int : ((List Int) → Int → Int → Int → (Int → Int → Option Int) → Option (List Int))) (cmp6 : (Int → Int → Option Int)) (l56 : (List Int)) : Option (List Int) :=
 (bif ((decide ((IntKind.i64.wrap (q43.toNat : Int)) < (IntKind.i64.wrap ((IntKind.i64.wrap ((IntKind.i64.wrap (q43.toNat : Int)) + m4)) - start48)))) && (decide ((IntKind.i64.wrap ((IntKind.i64.wrap ((IntKind.i64.wrap (q43.toNat : Int)) + m4)) - start48)) < b5))) then (R_slices_symMergeCmpFunc_int l56 (IntKind.i64.wrap (q43.toNat : Int)) (IntKind.i64.wrap ((IntKind.i64.wrap ((IntKind.i64.wrap (q43.toNat : Int)) + m4)) - start48)) b5 cmp6).bind fun l57 => some l57 else some l56)
def Zlg (a3 : Int) (start48 : Int) (q43 : (BitVec 64)) (R_slices_symMergeCmpFunc_int : ((List Int) → Int → Int → Int → (Int → Int → Option Int) → Option (List Int))) (cmp6 : (Int → Int → Option Int)) (m4 : Int) (b5 : Int) (l55 : (List Int)) : Option (List Int) :=
 (bif ((decide (a3 < start48)) && (decide (start48 < (IntKind.i64.wrap (q43.toNat : Int))))) then (R_slices_symMergeCmpFunc_int l55 a3 start48 (IntKind.i64.wrap (q43.toNat : Int)) cmp6).bind fun l58 => Zlu q43 m4 start48 b5 R_slices_symMergeCmpFunc_int cmp6 l58 else Zlu q43 m4 start48 b5 R_slices_symMergeCmpFunc_int cmp6 l55)
def Zbs (data1 : (List Int)) (q43 : (BitVec 64)) (m4 : Int) (cmp6 : (Int → Int → Option Int)) (a3 : Int) (R_slices_symMergeCmpFunc_int : ((List Int) → Int → Int → Int → (Int → Int → Option Int) → Option (List Int))) (b5 : Int) : Nat → Int → Int → Option (List Int)
 | 0, _, _ => none
 | m50 + 1, start48, r49 => (bif (decide (start48 < r49)) then (Z33 (BitVec.ofInt 64 (IntKind.i64.wrap (start48 + r49))) ((1 : BitVec 64).toNat : Int)).bind fun q51 => (lget data1 (IntKind.i64.wrap ((IntKind.i64.wrap ((IntKind.i64.wrap ((IntKind.i64.wrap (q43.toNat : Int)) + m4)) - 1)) - (IntKind.i64.wrap (q51.toNat : Int))))).bind fun e52 => (lget data1 (IntKind.i64.wrap (q51.toNat : Int))).bind fun e53 => (cmp6 e52 e53).bind fun x54 => (bif (!(decide (x54 < 0))) then (Zbs data1 q43 m4 cmp6 a3 R_slices_symMergeCmpFunc_int b5 m50) (IntKind.i64.wrap ((IntKind.i64.wrap (q51.toNat : Int)) + 1)) r49 else (Zbs data1 q43 m4 cmp6 a3 R_slices_symMergeCmpFunc_int b5 m50) start48 (IntKind.i64.wrap (q51.toNat : Int))) else (bif ((decide (start48 < m4)) && (decide (m4 < (IntKind.i64.wrap ((IntKind.i64.wrap ((IntKind.i64.wrap (q43.toNat : Int)) + m4)) - start48))))) then (Zqm data1 start48 m4 (IntKind.i64.wrap ((IntKind.i64.wrap ((IntKind.i64.wrap (q43.toNat : Int)) + m4)) - start48)) cmp6).bind fun l59 => Zlg a3 start48 q43 R_slices_symMergeCmpFunc_int cmp6 m4 b5 l59 else Zlg a3 start48 q43 R_slices_symMergeCmpFunc_int cmp6 m4 b5 data1))
def Zlr (data1 : (List Int)) (q43 : (BitVec 64)) (m4 : Int) (cmp6 : (Int → Int → Option Int)) (a3 : Int) (R_slices_symMergeCmpFunc_int : ((List Int) → Int → Int → Int → (Int → Int → Option Int) → Option (List Int))) (b5 : Int) (start44 : Int) (r45 : Int) : Option (List Int) :=
 Zbs data1 q43 m4 cmp6 a3 R_slices_symMergeCmpFunc_int b5 (((r45 : Int) - start44).toNat + 1) start44 r45
def Zoe (R_slices_symMergeCmpFunc_int : ((List Int) → Int → Int → Int → (Int → Int → Option Int) → Option (List Int))) (data1 : (List Int)) (a3 : Int) (m4 : Int) (b5 : Int) (cmp6 : (Int → Int → Option Int)) : Option (List Int) :=
 (bif (decide ((IntKind.i64.wrap (m4 - a3)) = 1)) then Zci data1 a3 cmp6 (((b5 : Int) - m4).toNat + 1) m4 b5 else (bif (decide ((IntKind.i64.wrap (b5 - m4)) = 1)) then Zby data1 m4 cmp6 (((m4 : Int) - a3).toNat + 1) a3 m4 else (Z33 (BitVec.ofInt 64 (IntKind.i64.wrap (a3 + b5))) ((1 : BitVec 64).toNat : Int)).bind fun q43 => (bif (decide (m4 > (IntKind.i64.wrap (q43.toNat : Int)))) then Zlr data1 q43 m4 cmp6 a3 R_slices_symMergeCmpFunc_int b5 (IntKind.i64.wrap ((IntKind.i64.wrap ((IntKind.i64.wrap (q43.toNat : Int)) + m4)) - b5)) (IntKind.i64.wrap (q43.toNat : Int)) else Zlr data1 q43 m4 cmp6 a3 R_slices_symMergeCmpFunc_int b5 a3 m4)))
theorem Y7r (R_slices_symMergeCmpFunc_int : ((List Int) → Int → Int → Int → (Int → Int → Option Int) → Option (List Int))) (hR_slices_symMergeCmpFunc_int : ∀ (v2 : Value) (data1 : (List Int)) (a3 : Int) (m4 : Int) (b5 : Int) (cmp6 : (Int → Int → Option Int)) (r : (List Int)), R_slices_symMergeCmpFunc_int data1 a3 m4 b5 cmp6 = some r → Con Tryz.prog 302 [Zc v2, rd (Z0 .i64) a3, rd (Z0 .i64) m4, rd (Z0 .i64) b5, fn2 Tryz.prog (Z0 .i64) (Z0 .i64) (Z0 .i64) cmp6] (Za v2 3 (Z0 .i64) data1) (fun _ : Unit => top) (fun _ => Za v2 3 (Z0 .i64) r)) (v2 : Value) (data1 : (List Int)) (a3 : Int) (m4 : Int) (b5 : Int) (cmp6 : (Int → Int → Option Int)) (r : (List Int)) (h : Zoe R_slices_symMergeCmpFunc_int data1 a3 m4 b5 cmp6 = some r) : Con Tryz.prog 302 [Zc v2, rd (Z0 .i64) a3, rd (Z0 .i64) m4, rd (Z0 .i64) b5, fn2 Tryz.prog (Z0 .i64) (Z0 .i64) (Z0 .i64) cmp6] (Za v2 3 (Z0 .i64) data1) (fun _ : Unit => top) (fun _ => Za v2 3 (Z0 .i64) r) := by
 refine Con.intro Tryz.func302 rfl Tryz.ntmps302 rfl fun w H X => ?_
 unfold Zoe at h
 refine AW.seq <| SR <| Md rfl <| Md rfl <| Ac (Z0n rfl rfl (vt rfl) (vt rfl)) rfl <| Ac (Z0i rfl rfl (vt rfl) (vk rfl)) rfl <| Nl <| Cn rfl (fun hc => ?_) (fun hc => ?_)
 ·have h := Ze hc h
  refine SR <| Md rfl <| As rfl <| Nl <| SR <| Md rfl <| As rfl <| Nl <| AW.seq <| AW.block <| AW.loopG (d := []) (ν := Nat × Int × Int) (fun n => True ∧ Zci data1 a3 cmp6 n.1 n.2.1 n.2.2 = some r) (fun n => n.1) (fun n => [(0, Zc v2), (1, rd (Z0 .i64) a3), (4, fn2 Tryz.prog (Z0 .i64) (Z0 .i64) (Z0 .i64) cmp6), (10, rd (Z0 .i64) n.2.1), (11, rd (Z0 .i64) n.2.2)]) (fun n => [(0, Za v2 3 (Z0 .i64) data1)]) ((((b5 : Int) - m4).toNat + 1), m4, b5) ⟨trivial, h⟩ ⟨rfl, ⟨rfl, rfl, rfl, rfl, rfl, trivial⟩, ⟨rfl, trivial⟩⟩ ?_
  rintro ⟨m11, i9, j10⟩ ⟨hsf1, h⟩
  change True at hsf1
  change Zci data1 a3 cmp6 m11 i9 j10 = some r at h
  change AW _ _ _ ⟨Zw [(0, Zc v2), (1, rd (Z0 .i64) a3), (4, fn2 Tryz.prog (Z0 .i64) (Z0 .i64) (Z0 .i64) cmp6), (10, rd (Z0 .i64) i9), (11, rd (Z0 .i64) j10)], Zx [(0, Za v2 3 (Z0 .i64) data1)], _⟩
  cases m11 with
  | zero => cases h
  | succ m11 =>
   unfold Zci at h
   generalize hgo1 : Zci data1 a3 cmp6 m11 = go1 at h
   refine AW.seq <| SR <| Md rfl <| Md rfl <| Ac (Zl rfl rfl (vt rfl) (vt rfl)) rfl <| Nl <| Cn rfl (fun hc => ?_) (fun hc => ?_)
   ·have h := Ze hc h
    refine AW.skip <| AW.block <| AW.seq ?_
    obtain ⟨q12, hq12, h⟩ := Z1 h
    refine Rg <| Md rfl <| Md rfl <| Ac (Z08 rfl rfl (vt rfl) (vt rfl)) rfl <| Ac (Z7l rfl rfl us3 Z6j (vt rfl)) rfl <| Ac (Z4n rfl rfl (vt rfl) (Z49 (vku (1 : BitVec 64) rfl)) hq12) rfl <| Ac (Z92 rfl rfl Z9t un3 (vt rfl)) rfl <| As rfl <| Nl <| AW.seq ?_
    obtain ⟨e13, he13, h⟩ := Z1 h
    obtain ⟨e14, he14, h⟩ := Z1 h
    obtain ⟨x15, hx15, h⟩ := Z1 h
    refine AW.regionAny [⟨[4], [40], [], []⟩, ⟨[0], [41], [], []⟩, ⟨[12], [42], [], []⟩, ⟨[41, 42], [43], [0], []⟩, ⟨[43], [44], [0], []⟩, ⟨[0], [45], [], []⟩, ⟨[1], [46], [], []⟩, ⟨[45, 46], [47], [0], []⟩, ⟨[47], [48], [0], []⟩, ⟨[40, 44, 48], [49], [], []⟩, ⟨[49], [50], [], []⟩] Z06 (by kernel_rfl) <| Sc (lo [4] [] rfl fun S hs hr => Zs (A := fn2 Tryz.prog (Z0 .i64) (Z0 .i64) (Z0 .i64) cmp6) rfl rfl (vh hs 4 rfl rfl)) rfl <| SMw rfl <| Zu rfl <| Sc (lo [41, 42] [0] rfl fun S hs hr => Z1o 0 rfl rfl Z10 (vh hs 41 rfl rfl) ((hr 0 rfl).trans rfl) (vh hs 42 rfl rfl) he13) rfl <| Sc (lo [43] [0] rfl fun S hs hr => Z1d 0 rfl rfl Zv (vh hs 43 rfl rfl) ((hr 0 rfl).trans rfl) (Z0g he13).2) rfl <| SMw rfl <| Zu rfl <| Sc (lo [45, 46] [0] rfl fun S hs hr => Z1o 0 rfl rfl Z10 (vh hs 45 rfl rfl) ((hr 0 rfl).trans rfl) (vh hs 46 rfl rfl) he14) rfl <| Sc (lo [47] [0] rfl fun S hs hr => Z1d 0 rfl rfl Zv (vh hs 47 rfl rfl) ((hr 0 rfl).trans rfl) (Z0g he14).2) rfl <| Sc (lo [40, 44, 48] [] rfl fun S hs hr => Z57 hx15 rfl rfl (vh hs 40 rfl rfl) (vh hs 44 rfl rfl) (vh hs 48 rfl rfl)) rfl <| Sc (lo [49] [] rfl fun S hs hr => Zl rfl rfl (vh hs 49 rfl rfl) (vk rfl)) rfl <| Cn rfl (fun hc => ?_) (fun hc => ?_)
    ·have h := Ze hc h
     refine Rg <| Md rfl <| Ac (Z08 rfl rfl (vt rfl) (vk rfl)) rfl <| As rfl <| Nl ?_
     subst hgo1
     exact ⟨(m11, (IntKind.i64.wrap ((IntKind.i64.wrap (q12.toNat : Int)) + 1)), j10), Nat.lt_succ_self _, ⟨trivial, h⟩, ⟨rfl, ⟨rfl, rfl, rfl, rfl, rfl, trivial⟩, ⟨rfl, trivial⟩⟩⟩
    ·have h := Zf hc h
     refine Rg <| Md rfl <| As rfl <| Nl ?_
     subst hgo1
     exact ⟨(m11, i9, (IntKind.i64.wrap (q12.toNat : Int))), Nat.lt_succ_self _, ⟨trivial, h⟩, ⟨rfl, ⟨rfl, rfl, rfl, rfl, rfl, trivial⟩, ⟨rfl, trivial⟩⟩⟩
   ·have h := Zf hc h
    refine AW.exit <| AW.seq <| SR <| Md rfl <| As rfl <| Nl <| AW.block <| AW.loopG (d := []) (ν := Nat × (List Int) × Int) (fun n => True ∧ Zf2 i9 n.1 n.2.1 n.2.2 = some r) (fun n => n.1) (fun n => [(0, Zc v2), (10, rd (Z0 .i64) i9), (13, rd (Z0 .i64) n.2.2)]) (fun n => [(0, Za v2 3 (Z0 .i64) n.2.1)]) (((((IntKind.i64.wrap (i9 - 1)) : Int) - a3).toNat + 1), data1, a3) ⟨trivial, h⟩ ⟨rfl, ⟨rfl, rfl, rfl, trivial⟩, ⟨rfl, trivial⟩⟩ ?_
    rintro ⟨m20, l18, k19⟩ ⟨hsf2, h⟩
    change True at hsf2
    change Zf2 i9 m20 l18 k19 = some r at h
    change AW _ _ _ ⟨Zw [(0, Zc v2), (10, rd (Z0 .i64) i9), (13, rd (Z0 .i64) k19)], Zx [(0, Za v2 3 (Z0 .i64) l18)], _⟩
    cases m20 with
    | zero => cases h
    | succ m20 =>
     unfold Zf2 at h
     generalize hgo2 : Zf2 i9 m20 = go2 at h
     refine AW.seq <| SR <| Md rfl <| Md rfl <| Ac (Z0n rfl rfl (vt rfl) (vk rfl)) rfl <| Ac (Zl rfl rfl (vt rfl) (vt rfl)) rfl <| Nl <| Cn rfl (fun hc => ?_) (fun hc => ?_)
     ·have h := Ze hc h
      refine AW.skip <| AW.seq <| AW.block <| AW.vlen 0 rfl fun hvl0_218 => ?_
      obtain ⟨e21, he21, h⟩ := Z1 h
      obtain ⟨e22, he22, h⟩ := Z1 h
      obtain ⟨e23, he23, h⟩ := Z1 h
      obtain ⟨e24, he24, h⟩ := Z1 h
      refine AW.regionAny [⟨[0], [61], [], []⟩, ⟨[13], [62], [], []⟩, ⟨[0], [63], [], []⟩, ⟨[13], [64], [], []⟩, ⟨[64], [65], [], []⟩, ⟨[0], [66], [], []⟩, ⟨[13], [67], [], []⟩, ⟨[67], [68], [], []⟩, ⟨[66, 68], [69], [], []⟩, ⟨[69], [70], [0], []⟩, ⟨[0], [71], [], []⟩, ⟨[13], [72], [], []⟩, ⟨[71, 72], [73], [], []⟩, ⟨[73], [74], [0], []⟩, ⟨[61, 62], [75], [], []⟩, ⟨[75, 70], [], [0], [0]⟩, ⟨[63, 65], [76], [], []⟩, ⟨[76, 74], [], [0], [0]⟩] Z06 (by kernel_rfl) <| SMw rfl <| Zu rfl <| SMw rfl <| Zu rfl <| Sc (lo [64] [] rfl fun S hs hr => Z08 rfl rfl (vh hs 64 rfl rfl) (vk rfl)) rfl <| SMw rfl <| Zu rfl <| Sc (lo [67] [] rfl fun S hs hr => Z08 rfl rfl (vh hs 67 rfl rfl) (vk rfl)) rfl <| Sc (lo [66, 68] [] rfl fun S hs hr => Z1z (l := l18) hvl0_218 rfl rfl rfl Z10 (vh hs 66 rfl rfl) (vh hs 68 rfl rfl) he21) rfl <| Sc (lo [69] [0] rfl fun S hs hr => Z1d 0 rfl rfl Zv (vh hs 69 rfl rfl) ((hr 0 rfl).trans rfl) (Z0g he21).2) rfl <| SMw rfl <| Zu rfl <| Sc (lo [71, 72] [] rfl fun S hs hr => Z1z (l := l18) hvl0_218 rfl rfl rfl Z10 (vh hs 71 rfl rfl) (vh hs 72 rfl rfl) he22) rfl <| Sc (lo [73] [0] rfl fun S hs hr => Z1d 0 rfl rfl Zv (vh hs 73 rfl rfl) ((hr 0 rfl).trans rfl) (Z0g he22).2) rfl <| Sc (lo [61, 62] [] rfl fun S hs hr => Z1z (l := l18) hvl0_218 rfl rfl rfl Z10 (vh hs 61 rfl rfl) (vh hs 62 rfl rfl) he23) rfl <| Sc (Z3l [75, 70] [0] rfl fun S hs hr => Z28 0 rfl rfl Zv (vh hs 75 rfl rfl) ((hr 0 rfl).trans rfl) (Z0g he23).2 (vh hs 70 rfl rfl)) rfl <| Sc (lo [63, 65] [] rfl fun S hs hr => Z1z (l := (List.set l18 k19.toNat e21)) hvl0_218 (by simp) rfl rfl Z10 (vh hs 63 rfl rfl) (vh hs 65 rfl rfl) he24) rfl <| Sc (Z3l [76, 74] [0] rfl fun S hs hr => Z28 0 rfl rfl Zv (vh hs 76 rfl rfl) ((hr 0 rfl).trans rfl) (Z0g he24).2 (vh hs 74 rfl rfl)) rfl <| Rg <| Md rfl <| Ac (Z08 rfl rfl (vt rfl) (vk rfl)) rfl <| As rfl <| Nl ?_
      subst hgo2
      exact ⟨(m20, (List.set (List.set l18 k19.toNat e21) (IntKind.i64.wrap (k19 + 1)).toNat e22), (IntKind.i64.wrap (k19 + 1))), Nat.lt_succ_self _, ⟨trivial, h⟩, ⟨rfl, ⟨rfl, rfl, rfl, trivial⟩, ⟨rfl, trivial⟩⟩⟩
     ·have h := Zf hc h
      refine AW.exit <| AW.ret ?_
      obtain rfl := si h
      exact Z2n (i := 0) Tryz.results302 rfl rfl
 ·have h := Zf hc h
  refine AW.skip <| AW.seq <| SR <| Md rfl <| Md rfl <| Ac (Z0n rfl rfl (vt rfl) (vt rfl)) rfl <| Ac (Z0i rfl rfl (vt rfl) (vk rfl)) rfl <| Nl <| Cn rfl (fun hc => ?_) (fun hc => ?_)
  ·have h := Ze hc h
   refine SR <| Md rfl <| As rfl <| Nl <| SR <| Md rfl <| As rfl <| Nl <| AW.seq <| AW.block <| AW.loopG (d := []) (ν := Nat × Int × Int) (fun n => True ∧ Zby data1 m4 cmp6 n.1 n.2.1 n.2.2 = some r) (fun n => n.1) (fun n => [(0, Zc v2), (2, rd (Z0 .i64) m4), (4, fn2 Tryz.prog (Z0 .i64) (Z0 .i64) (Z0 .i64) cmp6), (14, rd (Z0 .i64) n.2.1), (15, rd (Z0 .i64) n.2.2)]) (fun n => [(0, Za v2 3 (Z0 .i64) data1)]) ((((m4 : Int) - a3).toNat + 1), a3, m4) ⟨trivial, h⟩ ⟨rfl, ⟨rfl, rfl, rfl, rfl, rfl, trivial⟩, ⟨rfl, trivial⟩⟩ ?_
   rintro ⟨m29, i27, j28⟩ ⟨hsf3, h⟩
   change True at hsf3
   change Zby data1 m4 cmp6 m29 i27 j28 = some r at h
   change AW _ _ _ ⟨Zw [(0, Zc v2), (2, rd (Z0 .i64) m4), (4, fn2 Tryz.prog (Z0 .i64) (Z0 .i64) (Z0 .i64) cmp6), (14, rd (Z0 .i64) i27), (15, rd (Z0 .i64) j28)], Zx [(0, Za v2 3 (Z0 .i64) data1)], _⟩
   cases m29 with
   | zero => cases h
   | succ m29 =>
    unfold Zby at h
    generalize hgo3 : Zby data1 m4 cmp6 m29 = go3 at h
    refine AW.seq <| SR <| Md rfl <| Md rfl <| Ac (Zl rfl rfl (vt rfl) (vt rfl)) rfl <| Nl <| Cn rfl (fun hc => ?_) (fun hc => ?_)
    ·have h := Ze hc h
     refine AW.skip <| AW.block <| AW.seq ?_
     obtain ⟨q30, hq30, h⟩ := Z1 h
     refine Rg <| Md rfl <| Md rfl <| Ac (Z08 rfl rfl (vt rfl) (vt rfl)) rfl <| Ac (Z7l rfl rfl us3 Z6j (vt rfl)) rfl <| Ac (Z4n rfl rfl (vt rfl) (Z49 (vku (1 : BitVec 64) rfl)) hq30) rfl <| Ac (Z92 rfl rfl Z9t un3 (vt rfl)) rfl <| As rfl <| Nl <| AW.seq ?_
     obtain ⟨e31, he31, h⟩ := Z1 h
     obtain ⟨e32, he32, h⟩ := Z1 h
     obtain ⟨x33, hx33, h⟩ := Z1 h
     refine AW.regionAny [⟨[4], [92], [], []⟩, ⟨[0], [93], [], []⟩, ⟨[2], [94], [], []⟩, ⟨[93, 94], [95], [0], []⟩, ⟨[95], [96], [0], []⟩, ⟨[0], [97], [], []⟩, ⟨[16], [98], [], []⟩, ⟨[97, 98], [99], [0], []⟩, ⟨[99], [100], [0], []⟩, ⟨[92, 96, 100], [101], [], []⟩, ⟨[101], [102], [], []⟩, ⟨[102], [103], [], []⟩] Z06 (by kernel_rfl) <| Sc (lo [4] [] rfl fun S hs hr => Zs (A := fn2 Tryz.prog (Z0 .i64) (Z0 .i64) (Z0 .i64) cmp6) rfl rfl (vh hs 4 rfl rfl)) rfl <| SMw rfl <| Zu rfl <| Sc (lo [93, 94] [0] rfl fun S hs hr => Z1o 0 rfl rfl Z10 (vh hs 93 rfl rfl) ((hr 0 rfl).trans rfl) (vh hs 94 rfl rfl) he31) rfl <| Sc (lo [95] [0] rfl fun S hs hr => Z1d 0 rfl rfl Zv (vh hs 95 rfl rfl) ((hr 0 rfl).trans rfl) (Z0g he31).2) rfl <| SMw rfl <| Zu rfl <| Sc (lo [97, 98] [0] rfl fun S hs hr => Z1o 0 rfl rfl Z10 (vh hs 97 rfl rfl) ((hr 0 rfl).trans rfl) (vh hs 98 rfl rfl) he32) rfl <| Sc (lo [99] [0] rfl fun S hs hr => Z1d 0 rfl rfl Zv (vh hs 99 rfl rfl) ((hr 0 rfl).trans rfl) (Z0g he32).2) rfl <| Sc (lo [92, 96, 100] [] rfl fun S hs hr => Z57 hx33 rfl rfl (vh hs 92 rfl rfl) (vh hs 96 rfl rfl) (vh hs 100 rfl rfl)) rfl <| Sc (lo [101] [] rfl fun S hs hr => Zl rfl rfl (vh hs 101 rfl rfl) (vk rfl)) rfl <| Sc (lo [102] [] rfl fun S hs hr => Z13 rfl rfl (vh hs 102 rfl rfl)) rfl <| Cn rfl (fun hc => ?_) (fun hc => ?_)
     ·have h := Ze hc h
      refine Rg <| Md rfl <| Ac (Z08 rfl rfl (vt rfl) (vk rfl)) rfl <| As rfl <| Nl ?_
      subst hgo3
      exact ⟨(m29, (IntKind.i64.wrap ((IntKind.i64.wrap (q30.toNat : Int)) + 1)), j28), Nat.lt_succ_self _, ⟨trivial, h⟩, ⟨rfl, ⟨rfl, rfl, rfl, rfl, rfl, trivial⟩, ⟨rfl, trivial⟩⟩⟩
     ·have h := Zf hc h
      refine Rg <| Md rfl <| As rfl <| Nl ?_
      subst hgo3
      exact ⟨(m29, i27, (IntKind.i64.wrap (q30.toNat : Int))), Nat.lt_succ_self _, ⟨trivial, h⟩, ⟨rfl, ⟨rfl, rfl, rfl, rfl, rfl, trivial⟩, ⟨rfl, trivial⟩⟩⟩
    ·have h := Zf hc h
     refine AW.exit <| AW.seq <| SR <| Md rfl <| As rfl <| Nl <| AW.block <| AW.loopG (d := []) (ν := Nat × (List Int) × Int) (fun n => True ∧ Ze3 i27 n.1 n.2.1 n.2.2 = some r) (fun n => n.1) (fun n => [(0, Zc v2), (14, rd (Z0 .i64) i27), (17, rd (Z0 .i64) n.2.2)]) (fun n => [(0, Za v2 3 (Z0 .i64) n.2.1)]) ((((m4 : Int) - i27).toNat + 1), data1, m4) ⟨trivial, h⟩ ⟨rfl, ⟨rfl, rfl, rfl, trivial⟩, ⟨rfl, trivial⟩⟩ ?_
     rintro ⟨m38, l36, k37⟩ ⟨hsf4, h⟩
     change True at hsf4
     change Ze3 i27 m38 l36 k37 = some r at h
     change AW _ _ _ ⟨Zw [(0, Zc v2), (14, rd (Z0 .i64) i27), (17, rd (Z0 .i64) k37)], Zx [(0, Za v2 3 (Z0 .i64) l36)], _⟩
     cases m38 with
     | zero => cases h
     | succ m38 =>
      unfold Ze3 at h
      generalize hgo4 : Ze3 i27 m38 = go4 at h
      refine AW.seq <| SR <| Md rfl <| Md rfl <| Ac (Z3b rfl rfl (vt rfl) (vt rfl)) rfl <| Nl <| Cn rfl (fun hc => ?_) (fun hc => ?_)
      ·have h := Ze hc h
       refine AW.skip <| AW.seq <| AW.block <| AW.vlen 0 rfl fun hvl0_474 => ?_
       obtain ⟨e39, he39, h⟩ := Z1 h
       obtain ⟨e40, he40, h⟩ := Z1 h
       obtain ⟨e41, he41, h⟩ := Z1 h
       obtain ⟨e42, he42, h⟩ := Z1 h
       refine AW.regionAny [⟨[0], [113], [], []⟩, ⟨[17], [114], [], []⟩, ⟨[0], [115], [], []⟩, ⟨[17], [116], [], []⟩, ⟨[116], [117], [], []⟩, ⟨[0], [118], [], []⟩, ⟨[17], [119], [], []⟩, ⟨[119], [120], [], []⟩, ⟨[118, 120], [121], [], []⟩, ⟨[121], [122], [0], []⟩, ⟨[0], [123], [], []⟩, ⟨[17], [124], [], []⟩, ⟨[123, 124], [125], [], []⟩, ⟨[125], [126], [0], []⟩, ⟨[113, 114], [127], [], []⟩, ⟨[127, 122], [], [0], [0]⟩, ⟨[115, 117], [128], [], []⟩, ⟨[128, 126], [], [0], [0]⟩] Z06 (by kernel_rfl) <| SMw rfl <| Zu rfl <| SMw rfl <| Zu rfl <| Sc (lo [116] [] rfl fun S hs hr => Z0n rfl rfl (vh hs 116 rfl rfl) (vk rfl)) rfl <| SMw rfl <| Zu rfl <| Sc (lo [119] [] rfl fun S hs hr => Z0n rfl rfl (vh hs 119 rfl rfl) (vk rfl)) rfl <| Sc (lo [118, 120] [] rfl fun S hs hr => Z1z (l := l36) hvl0_474 rfl rfl rfl Z10 (vh hs 118 rfl rfl) (vh hs 120 rfl rfl) he39) rfl <| Sc (lo [121] [0] rfl fun S hs hr => Z1d 0 rfl rfl Zv (vh hs 121 rfl rfl) ((hr 0 rfl).trans rfl) (Z0g he39).2) rfl <| SMw rfl <| Zu rfl <| Sc (lo [123, 124] [] rfl fun S hs hr => Z1z (l := l36) hvl0_474 rfl rfl rfl Z10 (vh hs 123 rfl rfl) (vh hs 124 rfl rfl) he40) rfl <| Sc (lo [125] [0] rfl fun S hs hr => Z1d 0 rfl rfl Zv (vh hs 125 rfl rfl) ((hr 0 rfl).trans rfl) (Z0g he40).2) rfl <| Sc (lo [113, 114] [] rfl fun S hs hr => Z1z (l := l36) hvl0_474 rfl rfl rfl Z10 (vh hs 113 rfl rfl) (vh hs 114 rfl rfl) he41) rfl <| Sc (Z3l [127, 122] [0] rfl fun S hs hr => Z28 0 rfl rfl Zv (vh hs 127 rfl rfl) ((hr 0 rfl).trans rfl) (Z0g he41).2 (vh hs 122 rfl rfl)) rfl <| Sc (lo [115, 117] [] rfl fun S hs hr => Z1z (l := (List.set l36 k37.toNat e39)) hvl0_474 (by simp) rfl rfl Z10 (vh hs 115 rfl rfl) (vh hs 117 rfl rfl) he42) rfl <| Sc (Z3l [128, 126] [0] rfl fun S hs hr => Z28 0 rfl rfl Zv (vh hs 128 rfl rfl) ((hr 0 rfl).trans rfl) (Z0g he42).2 (vh hs 126 rfl rfl)) rfl <| Rg <| Md rfl <| Ac (Z0n rfl rfl (vt rfl) (vk rfl)) rfl <| As rfl <| Nl ?_
       subst hgo4
       exact ⟨(m38, (List.set (List.set l36 k37.toNat e39) (IntKind.i64.wrap (k37 - 1)).toNat e40), (IntKind.i64.wrap (k37 - 1))), Nat.lt_succ_self _, ⟨trivial, h⟩, ⟨rfl, ⟨rfl, rfl, rfl, trivial⟩, ⟨rfl, trivial⟩⟩⟩
      ·have h := Zf hc h
       refine AW.exit <| AW.ret ?_
       obtain rfl := si h
       exact Z2n (i := 0) Tryz.results302 rfl rfl
  ·have h := Zf hc h
   refine AW.skip <| AW.seq ?_
   obtain ⟨q43, hq43, h⟩ := Z1 h
   refine Rg <| Md rfl <| Md rfl <| Ac (Z08 rfl rfl (vt rfl) (vt rfl)) rfl <| Ac (Z7l rfl rfl us3 Z6j (vt rfl)) rfl <| Ac (Z4n rfl rfl (vt rfl) (Z49 (vku (1 : BitVec 64) rfl)) hq43) rfl <| Ac (Z92 rfl rfl Z9t un3 (vt rfl)) rfl <| As rfl <| Nl <| SR <| Md rfl <| Md rfl <| Ac (Z08 rfl rfl (vt rfl) (vt rfl)) rfl <| As rfl <| Nl <| SR <| Ak rfl <| Ak rfl <| Nl ?_
   refine AW.join (d := []) (ν := Int × Int) (fun n => Zlr data1 q43 m4 cmp6 a3 R_slices_symMergeCmpFunc_int b5 n.1 n.2 = some r) (fun n => [(0, Zc v2), (1, rd (Z0 .i64) a3), (2, rd (Z0 .i64) m4), (3, rd (Z0 .i64) b5), (4, fn2 Tryz.prog (Z0 .i64) (Z0 .i64) (Z0 .i64) cmp6), (18, rd (Z0 .i64) (IntKind.i64.wrap (q43.toNat : Int))), (19, rd (Z0 .i64) (IntKind.i64.wrap ((IntKind.i64.wrap (q43.toNat : Int)) + m4))), (20, rd (Z0 .i64) n.1), (21, rd (Z0 .i64) n.2)]) (fun n => [(0, Za v2 3 (Z0 .i64) data1)]) ?hx5 ?hy5
   case hy5 =>
    rintro ⟨start44, r45⟩ h
    unfold Zlr at h
    change AW _ _ _ ⟨Zw [(0, Zc v2), (1, rd (Z0 .i64) a3), (2, rd (Z0 .i64) m4), (3, rd (Z0 .i64) b5), (4, fn2 Tryz.prog (Z0 .i64) (Z0 .i64) (Z0 .i64) cmp6), (18, rd (Z0 .i64) (IntKind.i64.wrap (q43.toNat : Int))), (19, rd (Z0 .i64) (IntKind.i64.wrap ((IntKind.i64.wrap (q43.toNat : Int)) + m4))), (20, rd (Z0 .i64) start44), (21, rd (Z0 .i64) r45)], Zx [(0, Za v2 3 (Z0 .i64) data1)], _⟩
    refine SR <| Md rfl <| Ac (Z0n rfl rfl (vt rfl) (vk rfl)) rfl <| As rfl <| Nl <| AW.seq <| AW.block <| AW.loopG (d := []) (ν := Nat × Int × Int) (fun n => True ∧ Zbs data1 q43 m4 cmp6 a3 R_slices_symMergeCmpFunc_int b5 n.1 n.2.1 n.2.2 = some r) (fun n => n.1) (fun n => [(0, Zc v2), (1, rd (Z0 .i64) a3), (2, rd (Z0 .i64) m4), (3, rd (Z0 .i64) b5), (4, fn2 Tryz.prog (Z0 .i64) (Z0 .i64) (Z0 .i64) cmp6), (18, rd (Z0 .i64) (IntKind.i64.wrap (q43.toNat : Int))), (19, rd (Z0 .i64) (IntKind.i64.wrap ((IntKind.i64.wrap (q43.toNat : Int)) + m4))), (20, rd (Z0 .i64) n.2.1), (21, rd (Z0 .i64) n.2.2), (22, rd (Z0 .i64) (IntKind.i64.wrap ((IntKind.i64.wrap ((IntKind.i64.wrap (q43.toNat : Int)) + m4)) - 1)))]) (fun n => [(0, Za v2 3 (Z0 .i64) data1)]) ((((r45 : Int) - start44).toNat + 1), start44, r45) ⟨trivial, h⟩ ⟨rfl, ⟨rfl, rfl, rfl, rfl, rfl, rfl, rfl, rfl, rfl, rfl, trivial⟩, ⟨rfl, trivial⟩⟩ ?_
    rintro ⟨m50, start48, r49⟩ ⟨hsf6, h⟩
    change True at hsf6
    change Zbs data1 q43 m4 cmp6 a3 R_slices_symMergeCmpFunc_int b5 m50 start48 r49 = some r at h
    change AW _ _ _ ⟨Zw [(0, Zc v2), (1, rd (Z0 .i64) a3), (2, rd (Z0 .i64) m4), (3, rd (Z0 .i64) b5), (4, fn2 Tryz.prog (Z0 .i64) (Z0 .i64) (Z0 .i64) cmp6), (18, rd (Z0 .i64) (IntKind.i64.wrap (q43.toNat : Int))), (19, rd (Z0 .i64) (IntKind.i64.wrap ((IntKind.i64.wrap (q43.toNat : Int)) + m4))), (20, rd (Z0 .i64) start48), (21, rd (Z0 .i64) r49), (22, rd (Z0 .i64) (IntKind.i64.wrap ((IntKind.i64.wrap ((IntKind.i64.wrap (q43.toNat : Int)) + m4)) - 1)))], Zx [(0, Za v2 3 (Z0 .i64) data1)], _⟩
    cases m50 with
    | zero => cases h
    | succ m50 =>
     unfold Zbs at h
     generalize hgo6 : Zbs data1 q43 m4 cmp6 a3 R_slices_symMergeCmpFunc_int b5 m50 = go6 at h
     refine AW.seq <| SR <| Md rfl <| Md rfl <| Ac (Zl rfl rfl (vt rfl) (vt rfl)) rfl <| Nl <| Cn rfl (fun hc => ?_) (fun hc => ?_)
     ·have h := Ze hc h
      refine AW.skip <| AW.block <| AW.seq ?_
      obtain ⟨q51, hq51, h⟩ := Z1 h
      refine Rg <| Md rfl <| Md rfl <| Ac (Z08 rfl rfl (vt rfl) (vt rfl)) rfl <| Ac (Z7l rfl rfl us3 Z6j (vt rfl)) rfl <| Ac (Z4n rfl rfl (vt rfl) (Z49 (vku (1 : BitVec 64) rfl)) hq51) rfl <| Ac (Z92 rfl rfl Z9t un3 (vt rfl)) rfl <| As rfl <| Nl <| AW.seq ?_
      obtain ⟨e52, he52, h⟩ := Z1 h
      obtain ⟨e53, he53, h⟩ := Z1 h
      obtain ⟨x54, hx54, h⟩ := Z1 h
      refine AW.regionAny [⟨[4], [158], [], []⟩, ⟨[0], [159], [], []⟩, ⟨[22], [160], [], []⟩, ⟨[23], [161], [], []⟩, ⟨[160, 161], [162], [], []⟩, ⟨[159, 162], [163], [0], []⟩, ⟨[163], [164], [0], []⟩, ⟨[0], [165], [], []⟩, ⟨[23], [166], [], []⟩, ⟨[165, 166], [167], [0], []⟩, ⟨[167], [168], [0], []⟩, ⟨[158, 164, 168], [169], [], []⟩, ⟨[169], [170], [], []⟩, ⟨[170], [171], [], []⟩] Z06 (by kernel_rfl) <| Sc (lo [4] [] rfl fun S hs hr => Zs (A := fn2 Tryz.prog (Z0 .i64) (Z0 .i64) (Z0 .i64) cmp6) rfl rfl (vh hs 4 rfl rfl)) rfl <| SMw rfl <| Zu rfl <| Zu rfl <| Sc (lo [160, 161] [] rfl fun S hs hr => Z0n rfl rfl (vh hs 160 rfl rfl) (vh hs 161 rfl rfl)) rfl <| Sc (lo [159, 162] [0] rfl fun S hs hr => Z1o 0 rfl rfl Z10 (vh hs 159 rfl rfl) ((hr 0 rfl).trans rfl) (vh hs 162 rfl rfl) he52) rfl <| Sc (lo [163] [0] rfl fun S hs hr => Z1d 0 rfl rfl Zv (vh hs 163 rfl rfl) ((hr 0 rfl).trans rfl) (Z0g he52).2) rfl <| SMw rfl <| Zu rfl <| Sc (lo [165, 166] [0] rfl fun S hs hr => Z1o 0 rfl rfl Z10 (vh hs 165 rfl rfl) ((hr 0 rfl).trans rfl) (vh hs 166 rfl rfl) he53) rfl <| Sc (lo [167] [0] rfl fun S hs hr => Z1d 0 rfl rfl Zv (vh hs 167 rfl rfl) ((hr 0 rfl).trans rfl) (Z0g he53).2) rfl <| Sc (lo [158, 164, 168] [] rfl fun S hs hr => Z57 hx54 rfl rfl (vh hs 158 rfl rfl) (vh hs 164 rfl rfl) (vh hs 168 rfl rfl)) rfl <| Sc (lo [169] [] rfl fun S hs hr => Zl rfl rfl (vh hs 169 rfl rfl) (vk rfl)) rfl <| Sc (lo [170] [] rfl fun S hs hr => Z13 rfl rfl (vh hs 170 rfl rfl)) rfl <| Cn rfl (fun hc => ?_) (fun hc => ?_)
      ·have h := Ze hc h
       refine Rg <| Md rfl <| Ac (Z08 rfl rfl (vt rfl) (vk rfl)) rfl <| As rfl <| Nl ?_
       subst hgo6
       exact ⟨(m50, (IntKind.i64.wrap ((IntKind.i64.wrap (q51.toNat : Int)) + 1)), r49), Nat.lt_succ_self _, ⟨trivial, h⟩, ⟨rfl, ⟨rfl, rfl, rfl, rfl, rfl, rfl, rfl, rfl, rfl, rfl, trivial⟩, ⟨rfl, trivial⟩⟩⟩
      ·have h := Zf hc h
       refine Rg <| Md rfl <| As rfl <| Nl ?_
       subst hgo6
       exact ⟨(m50, start48, (IntKind.i64.wrap (q51.toNat : Int))), Nat.lt_succ_self _, ⟨trivial, h⟩, ⟨rfl, ⟨rfl, rfl, rfl, rfl, rfl, rfl, rfl, rfl, rfl, rfl, trivial⟩, ⟨rfl, trivial⟩⟩⟩
     ·have h := Zf hc h
      refine AW.exit <| SR <| Md rfl <| Md rfl <| Ac (Z0n rfl rfl (vt rfl) (vt rfl)) rfl <| As rfl <| Nl ?_
      refine AW.join (d := []) (ν := (List Int)) (fun n => Zlg a3 start48 q43 R_slices_symMergeCmpFunc_int cmp6 m4 b5 n = some r) (fun n => [(0, Zc v2), (1, rd (Z0 .i64) a3), (3, rd (Z0 .i64) b5), (4, fn2 Tryz.prog (Z0 .i64) (Z0 .i64) (Z0 .i64) cmp6), (18, rd (Z0 .i64) (IntKind.i64.wrap (q43.toNat : Int))), (20, rd (Z0 .i64) start48), (24, rd (Z0 .i64) (IntKind.i64.wrap ((IntKind.i64.wrap ((IntKind.i64.wrap (q43.toNat : Int)) + m4)) - start48)))]) (fun n => [(0, Za v2 3 (Z0 .i64) n)]) ?hx7 ?hy7
      case hy7 =>
       intro l55 h
       unfold Zlg at h
       change AW _ _ _ ⟨Zw [(0, Zc v2), (1, rd (Z0 .i64) a3), (3, rd (Z0 .i64) b5), (4, fn2 Tryz.prog (Z0 .i64) (Z0 .i64) (Z0 .i64) cmp6), (18, rd (Z0 .i64) (IntKind.i64.wrap (q43.toNat : Int))), (20, rd (Z0 .i64) start48), (24, rd (Z0 .i64) (IntKind.i64.wrap ((IntKind.i64.wrap ((IntKind.i64.wrap (q43.toNat : Int)) + m4)) - start48)))], Zx [(0, Za v2 3 (Z0 .i64) l55)], _⟩
       refine AW.join (d := []) (ν := (List Int)) (fun n => Zlu q43 m4 start48 b5 R_slices_symMergeCmpFunc_int cmp6 n = some r) (fun n => [(0, Zc v2), (3, rd (Z0 .i64) b5), (4, fn2 Tryz.prog (Z0 .i64) (Z0 .i64) (Z0 .i64) cmp6), (18, rd (Z0 .i64) (IntKind.i64.wrap (q43.toNat : Int))), (24, rd (Z0 .i64) (IntKind.i64.wrap ((IntKind.i64.wrap ((IntKind.i64.wrap (q43.toNat : Int)) + m4)) - start48)))]) (fun n => [(0, Za v2 3 (Z0 .i64) n)]) ?hx8 ?hy8
       case hy8 =>
        intro l56 h
        unfold Zlu at h
        change AW _ _ _ ⟨Zw [(0, Zc v2), (3, rd (Z0 .i64) b5), (4, fn2 Tryz.prog (Z0 .i64) (Z0 .i64) (Z0 .i64) cmp6), (18, rd (Z0 .i64) (IntKind.i64.wrap (q43.toNat : Int))), (24, rd (Z0 .i64) (IntKind.i64.wrap ((IntKind.i64.wrap ((IntKind.i64.wrap (q43.toNat : Int)) + m4)) - start48)))], Zx [(0, Za v2 3 (Z0 .i64) l56)], _⟩
        refine SR <| Md rfl <| Md rfl <| Ac (Zl rfl rfl (vt rfl) (vt rfl)) rfl <| Md rfl <| Gd rfl (fun hq => Zs (A := rd (Z0 .i64) (IntKind.i64.wrap ((IntKind.i64.wrap ((IntKind.i64.wrap (q43.toNat : Int)) + m4)) - start48))) rfl rfl (vt rfl)) <| Gd rfl (fun hq => Zs (A := rd (Z0 .i64) b5) rfl rfl (vt rfl)) <| Gd rfl (fun hq => Zl rfl rfl (Zj rfl hq) (Zj rfl hq)) <| Ac (Z11 rfl rfl (vt rfl) (vt rfl)) rfl <| Nl <| Cn rfl (fun hc => ?_) (fun hc => ?_)
        ·have h := Ze hc h
         obtain ⟨l57, hl57, h⟩ := Z1 h
         refine Rg <| Mw rfl <| Md rfl <| Md rfl <| Md rfl <| Ac (Zs (A := fn2 Tryz.prog (Z0 .i64) (Z0 .i64) (Z0 .i64) cmp6) rfl rfl (vt rfl)) rfl <| Ct rfl (Z1k 0 (xs := [.tmp 214, .tmp 215, .tmp 216, .tmp 217, .tmp 218]) (hR_slices_symMergeCmpFunc_int _ _ _ _ _ _ _ hl57) Zls rfl rfl ⟨vt rfl, vt rfl, vt rfl, vt rfl, vt rfl, trivial⟩ rfl) ?_
         rintro _ ⟨_u, rfl⟩
         refine Nl ?_
         obtain rfl := si h
         exact Z2n (i := 0) Tryz.results302 rfl rfl
        ·have h := Zf hc h
         refine AW.skip ?_
         obtain rfl := si h
         exact Z2n (i := 0) Tryz.results302 rfl rfl
       case hx8 =>
        refine SR <| Md rfl <| Md rfl <| Ac (Zl rfl rfl (vt rfl) (vt rfl)) rfl <| Md rfl <| Gd rfl (fun hq => Zs (A := rd (Z0 .i64) start48) rfl rfl (vt rfl)) <| Gd rfl (fun hq => Zs (A := rd (Z0 .i64) (IntKind.i64.wrap (q43.toNat : Int))) rfl rfl (vt rfl)) <| Gd rfl (fun hq => Zl rfl rfl (Zj rfl hq) (Zj rfl hq)) <| Ac (Z11 rfl rfl (vt rfl) (vt rfl)) rfl <| Nl <| Cn rfl (fun hc => ?_) (fun hc => ?_)
        ·have h := Ze hc h
         obtain ⟨l58, hl58, h⟩ := Z1 h
         refine Rg <| Mw rfl <| Md rfl <| Md rfl <| Md rfl <| Ac (Zs (A := fn2 Tryz.prog (Z0 .i64) (Z0 .i64) (Z0 .i64) cmp6) rfl rfl (vt rfl)) rfl <| Ct rfl (Z1k 0 (xs := [.tmp 200, .tmp 201, .tmp 202, .tmp 203, .tmp 204]) (hR_slices_symMergeCmpFunc_int _ _ _ _ _ _ _ hl58) Zls rfl rfl ⟨vt rfl, vt rfl, vt rfl, vt rfl, vt rfl, trivial⟩ rfl) ?_
         rintro _ ⟨_u, rfl⟩
         refine Nl ?_
         exact ⟨l58, h, ⟨rfl, ⟨rfl, rfl, rfl, rfl, rfl, trivial⟩, ⟨rfl, trivial⟩⟩⟩
        ·have h := Zf hc h
         refine AW.skip ?_
         exact ⟨l55, h, ⟨rfl, ⟨rfl, rfl, rfl, rfl, rfl, trivial⟩, ⟨rfl, trivial⟩⟩⟩
      case hx7 =>
       refine SR <| Md rfl <| Md rfl <| Ac (Zl rfl rfl (vt rfl) (vt rfl)) rfl <| Md rfl <| Gd rfl (fun hq => Zs (A := rd (Z0 .i64) m4) rfl rfl (vt rfl)) <| Gd rfl (fun hq => Zs (A := rd (Z0 .i64) (IntKind.i64.wrap ((IntKind.i64.wrap ((IntKind.i64.wrap (q43.toNat : Int)) + m4)) - start48))) rfl rfl (vt rfl)) <| Gd rfl (fun hq => Zl rfl rfl (Zj rfl hq) (Zj rfl hq)) <| Ac (Z11 rfl rfl (vt rfl) (vt rfl)) rfl <| Nl <| Cn rfl (fun hc => ?_) (fun hc => ?_)
       ·have h := Ze hc h
        obtain ⟨l59, hl59, h⟩ := Z1 h
        refine Rg <| Mw rfl <| Md rfl <| Md rfl <| Md rfl <| Ac (Zs (A := fn2 Tryz.prog (Z0 .i64) (Z0 .i64) (Z0 .i64) cmp6) rfl rfl (vt rfl)) rfl <| Ct rfl (Z1k 0 (xs := [.tmp 186, .tmp 187, .tmp 188, .tmp 189, .tmp 190]) (Y72 _ _ _ _ _ _ _ hl59) Y0x rfl rfl ⟨vt rfl, vt rfl, vt rfl, vt rfl, vt rfl, trivial⟩ rfl) ?_
        rintro _ ⟨_u, rfl⟩
        refine Nl ?_
        exact ⟨l59, h, ⟨rfl, ⟨rfl, rfl, rfl, rfl, rfl, rfl, rfl, trivial⟩, ⟨rfl, trivial⟩⟩⟩
       ·have h := Zf hc h
        refine AW.skip ?_
        exact ⟨data1, h, ⟨rfl, ⟨rfl, rfl, rfl, rfl, rfl, rfl, rfl, trivial⟩, ⟨rfl, trivial⟩⟩⟩
   case hx5 =>
    refine SR <| Md rfl <| Md rfl <| Ac (Z3b rfl rfl (vt rfl) (vt rfl)) rfl <| Nl <| Cn rfl (fun hc => ?_) (fun hc => ?_)
    ·have h := Ze hc h
     refine SR <| Md rfl <| Md rfl <| Ac (Z0n rfl rfl (vt rfl) (vt rfl)) rfl <| As rfl <| Nl <| Rg <| Md rfl <| As rfl <| Nl ?_
     exact ⟨((IntKind.i64.wrap ((IntKind.i64.wrap ((IntKind.i64.wrap (q43.toNat : Int)) + m4)) - b5)), (IntKind.i64.wrap (q43.toNat : Int))), h, ⟨rfl, ⟨rfl, rfl, rfl, rfl, rfl, rfl, rfl, rfl, rfl, trivial⟩, ⟨rfl, trivial⟩⟩⟩
    ·have h := Zf hc h
     refine SR <| Md rfl <| As rfl <| Nl <| Rg <| Md rfl <| As rfl <| Nl ?_
     exact ⟨(a3, m4), h, ⟨rfl, ⟨rfl, rfl, rfl, rfl, rfl, rfl, rfl, rfl, rfl, trivial⟩, ⟨rfl, trivial⟩⟩⟩
def Zmx : Nat → ((List Int) → Int → Int → Int → (Int → Int → Option Int) → Option (List Int))
 | 0 => (fun _ _ _ _ _ => none)
 | n + 1 => (Zoe (Zmx n))
theorem Zt5 : ∀ n : Nat, (∀ (v2 : Value) (data1 : (List Int)) (a3 : Int) (m4 : Int) (b5 : Int) (cmp6 : (Int → Int → Option Int)) (r : (List Int)), (Zmx n) data1 a3 m4 b5 cmp6 = some r → Con Tryz.prog 302 [Zc v2, rd (Z0 .i64) a3, rd (Z0 .i64) m4, rd (Z0 .i64) b5, fn2 Tryz.prog (Z0 .i64) (Z0 .i64) (Z0 .i64) cmp6] (Za v2 3 (Z0 .i64) data1) (fun _ : Unit => top) (fun _ => Za v2 3 (Z0 .i64) r))
 | 0 => (by intros; rename_i h; cases h)
 | n + 1 => by
  have ih := Zt5 n
  exact (Y7r (Zmx n) ih)
def Zr4 (data1 : (List Int)) (a3 : Int) (m4 : Int) (b5 : Int) (cmp6 : (Int → Int → Option Int)) : Option (List Int) := (Zmx Z0x) data1 a3 m4 b5 cmp6
theorem Zu5 : ∀ (v2 : Value) (data1 : (List Int)) (a3 : Int) (m4 : Int) (b5 : Int) (cmp6 : (Int → Int → Option Int)) (r : (List Int)), Zr4 data1 a3 m4 b5 cmp6 = some r → Con Tryz.prog 302 [Zc v2, rd (Z0 .i64) a3, rd (Z0 .i64) m4, rd (Z0 .i64) b5, fn2 Tryz.prog (Z0 .i64) (Z0 .i64) (Z0 .i64) cmp6] (Za v2 3 (Z0 .i64) data1) (fun _ : Unit => top) (fun _ => Za v2 3 (Z0 .i64) r) := Zt5 Z0x
def Zdo (n3 : Int) (blockSize17 : Int) (cmp4 : (Int → Int → Option Int)) (go2 : (List Int) → Int → Option (List Int)) : Nat → (List Int) → Int → Int → Option (List Int)
 | 0, _, _, _ => none
 | m25 + 1, l22, a23, b24 => (bif (decide (b24 ≤ n3)) then (Zr4 l22 a23 (IntKind.i64.wrap (a23 + blockSize17)) b24 cmp4).bind fun l26 => (Zdo n3 blockSize17 cmp4 go2 m25) l26 b24 (IntKind.i64.wrap (b24 + (IntKind.i64.wrap (2 * blockSize17)))) else (bif (decide ((IntKind.i64.wrap (a23 + blockSize17)) < n3)) then (Zr4 l22 a23 (IntKind.i64.wrap (a23 + blockSize17)) n3 cmp4).bind fun l27 => go2 l27 (IntKind.i64.wrap (blockSize17 * 2)) else go2 l22 (IntKind.i64.wrap (blockSize17 * 2))))
def Zba (n3 : Int) (cmp4 : (Int → Int → Option Int)) : Nat → (List Int) → Int → Option (List Int)
 | 0, _, _ => none
 | m18 + 1, l16, blockSize17 => (bif (decide (blockSize17 < n3)) then Zdo n3 blockSize17 cmp4 (Zba n3 cmp4 m18) (((n3 : Int) - (IntKind.i64.wrap (2 * blockSize17))).toNat + 2) l16 0 (IntKind.i64.wrap (2 * blockSize17)) else some l16)
def Zcc (n3 : Int) (cmp4 : (Int → Int → Option Int)) : Nat → (List Int) → Int → Int → Option (List Int)
 | 0, _, _, _ => none
 | m11 + 1, l8, a9, b10 => (bif (decide (b10 ≤ n3)) then (Zel l8 a9 b10 cmp4).bind fun l12 => (Zcc n3 cmp4 m11) l12 b10 (IntKind.i64.wrap (b10 + 20)) else (Zel l8 a9 n3 cmp4).bind fun l13 => Zba n3 cmp4 (((n3 : Int) - 20).toNat + 1) l13 20)
def Zln (data1 : (List Int)) (n3 : Int) (cmp4 : (Int → Int → Option Int)) : Option (List Int) :=
 Zcc n3 cmp4 (((n3 : Int) - 20).toNat + 2) data1 0 20
theorem Y75 (v2 : Value) (data1 : (List Int)) (n3 : Int) (cmp4 : (Int → Int → Option Int)) (r : (List Int)) (h : Zln data1 n3 cmp4 = some r) : Con Tryz.prog 258 [Zc v2, rd (Z0 .i64) n3, fn2 Tryz.prog (Z0 .i64) (Z0 .i64) (Z0 .i64) cmp4] (Za v2 3 (Z0 .i64) data1) (fun _ : Unit => top) (fun _ => Za v2 3 (Z0 .i64) r) := by
 refine Con.intro Tryz.func258 rfl Tryz.ntmps258 rfl fun w H X => ?_
 unfold Zln at h
 refine SR <| Ak rfl <| Nl <| SR <| Md rfl <| Ak rfl <| As rfl <| Nl <| AW.seq <| AW.block <| AW.loopG (d := []) (ν := Nat × (List Int) × Int × Int) (fun n => True ∧ Zcc n3 cmp4 n.1 n.2.1 n.2.2.1 n.2.2.2 = some r) (fun n => n.1) (fun n => [(0, Zc v2), (1, rd (Z0 .i64) n3), (2, fn2 Tryz.prog (Z0 .i64) (Z0 .i64) (Z0 .i64) cmp4), (6, rd (Z0 .i64) 20), (7, rd (Z0 .i64) n.2.2.1), (8, rd (Z0 .i64) n.2.2.2)]) (fun n => [(0, Za v2 3 (Z0 .i64) n.2.1)]) ((((n3 : Int) - 20).toNat + 2), data1, 0, 20) ⟨trivial, h⟩ ⟨rfl, ⟨rfl, rfl, rfl, rfl, rfl, rfl, trivial⟩, ⟨rfl, trivial⟩⟩ ?_
 rintro ⟨m11, l8, a9, b10⟩ ⟨hsf1, h⟩
 change True at hsf1
 change Zcc n3 cmp4 m11 l8 a9 b10 = some r at h
 change AW _ _ _ ⟨Zw [(0, Zc v2), (1, rd (Z0 .i64) n3), (2, fn2 Tryz.prog (Z0 .i64) (Z0 .i64) (Z0 .i64) cmp4), (6, rd (Z0 .i64) 20), (7, rd (Z0 .i64) a9), (8, rd (Z0 .i64) b10)], Zx [(0, Za v2 3 (Z0 .i64) l8)], _⟩
 cases m11 with
 | zero => cases h
 | succ m11 =>
  unfold Zcc at h
  generalize hgo1 : Zcc n3 cmp4 m11 = go1 at h
  refine AW.seq <| SR <| Md rfl <| Md rfl <| Ac (Z5e rfl rfl (vt rfl) (vt rfl)) rfl <| Nl <| Cn rfl (fun hc => ?_) (fun hc => ?_)
  ·have h := Ze hc h
   refine AW.skip <| AW.block <| AW.seq ?_
   obtain ⟨l12, hl12, h⟩ := Z1 h
   refine Rg <| Mw rfl <| Md rfl <| Md rfl <| Ac (Zs (A := fn2 Tryz.prog (Z0 .i64) (Z0 .i64) (Z0 .i64) cmp4) rfl rfl (vt rfl)) rfl <| Ct rfl (Z1k 0 (xs := [.tmp 14, .tmp 15, .tmp 16, .tmp 17]) (Zs6 _ _ _ _ _ _ hl12) Zvi rfl rfl ⟨vt rfl, vt rfl, vt rfl, vt rfl, trivial⟩ rfl) ?_
   rintro _ ⟨_u, rfl⟩
   refine Nl <| SR <| Md rfl <| As rfl <| Nl <| Rg <| Md rfl <| Md rfl <| Ac (Z08 rfl rfl (vt rfl) (vt rfl)) rfl <| As rfl <| Nl ?_
   subst hgo1
   exact ⟨(m11, l12, b10, (IntKind.i64.wrap (b10 + 20))), Nat.lt_succ_self _, ⟨trivial, h⟩, ⟨rfl, ⟨rfl, rfl, rfl, rfl, rfl, rfl, trivial⟩, ⟨rfl, trivial⟩⟩⟩
  ·have h := Zf hc h
   refine AW.exit <| AW.seq ?_
   obtain ⟨l13, hl13, h⟩ := Z1 h
   refine Rg <| Mw rfl <| Md rfl <| Md rfl <| Ac (Zs (A := fn2 Tryz.prog (Z0 .i64) (Z0 .i64) (Z0 .i64) cmp4) rfl rfl (vt rfl)) rfl <| Ct rfl (Z1k 0 (xs := [.tmp 23, .tmp 24, .tmp 25, .tmp 26]) (Zs6 _ _ _ _ _ _ hl13) Zvi rfl rfl ⟨vt rfl, vt rfl, vt rfl, vt rfl, trivial⟩ rfl) ?_
   rintro _ ⟨_u, rfl⟩
   refine Nl <| AW.block <| AW.loopG (d := []) (ν := Nat × (List Int) × Int) (fun n => True ∧ Zba n3 cmp4 n.1 n.2.1 n.2.2 = some r) (fun n => n.1) (fun n => [(0, Zc v2), (1, rd (Z0 .i64) n3), (2, fn2 Tryz.prog (Z0 .i64) (Z0 .i64) (Z0 .i64) cmp4), (6, rd (Z0 .i64) n.2.2)]) (fun n => [(0, Za v2 3 (Z0 .i64) n.2.1)]) ((((n3 : Int) - 20).toNat + 1), l13, 20) ⟨trivial, h⟩ ⟨rfl, ⟨rfl, rfl, rfl, rfl, trivial⟩, ⟨rfl, trivial⟩⟩ ?_
   rintro ⟨m18, l16, blockSize17⟩ ⟨hsf2, h⟩
   change True at hsf2
   change Zba n3 cmp4 m18 l16 blockSize17 = some r at h
   change AW _ _ _ ⟨Zw [(0, Zc v2), (1, rd (Z0 .i64) n3), (2, fn2 Tryz.prog (Z0 .i64) (Z0 .i64) (Z0 .i64) cmp4), (6, rd (Z0 .i64) blockSize17)], Zx [(0, Za v2 3 (Z0 .i64) l16)], _⟩
   cases m18 with
   | zero => cases h
   | succ m18 =>
    unfold Zba at h
    generalize hgo2 : Zba n3 cmp4 m18 = go2 at h
    refine AW.seq <| SR <| Md rfl <| Md rfl <| Ac (Zl rfl rfl (vt rfl) (vt rfl)) rfl <| Nl <| Cn rfl (fun hc => ?_) (fun hc => ?_)
    ·have h := Ze hc h
     refine AW.skip <| AW.block <| SR <| Md rfl <| Ac (Z7h rfl rfl (vk rfl) (vt rfl)) rfl <| Ak rfl <| As rfl <| Nl <| AW.seq <| AW.block <| AW.loopG (d := []) (ν := Nat × (List Int) × Int × Int) (fun n => True ∧ Zdo n3 blockSize17 cmp4 go2 n.1 n.2.1 n.2.2.1 n.2.2.2 = some r) (fun n => n.1) (fun n => [(0, Zc v2), (1, rd (Z0 .i64) n3), (2, fn2 Tryz.prog (Z0 .i64) (Z0 .i64) (Z0 .i64) cmp4), (6, rd (Z0 .i64) blockSize17), (7, rd (Z0 .i64) n.2.2.1), (8, rd (Z0 .i64) n.2.2.2)]) (fun n => [(0, Za v2 3 (Z0 .i64) n.2.1)]) ((((n3 : Int) - (IntKind.i64.wrap (2 * blockSize17))).toNat + 2), l16, 0, (IntKind.i64.wrap (2 * blockSize17))) ⟨trivial, h⟩ ⟨rfl, ⟨rfl, rfl, rfl, rfl, rfl, rfl, trivial⟩, ⟨rfl, trivial⟩⟩ ?_
     rintro ⟨m25, l22, a23, b24⟩ ⟨hsf3, h⟩
     change True at hsf3
     change Zdo n3 blockSize17 cmp4 go2 m25 l22 a23 b24 = some r at h
     change AW _ _ _ ⟨Zw [(0, Zc v2), (1, rd (Z0 .i64) n3), (2, fn2 Tryz.prog (Z0 .i64) (Z0 .i64) (Z0 .i64) cmp4), (6, rd (Z0 .i64) blockSize17), (7, rd (Z0 .i64) a23), (8, rd (Z0 .i64) b24)], Zx [(0, Za v2 3 (Z0 .i64) l22)], _⟩
     cases m25 with
     | zero => cases h
     | succ m25 =>
      unfold Zdo at h
      generalize hgo3 : Zdo n3 blockSize17 cmp4 go2 m25 = go3 at h
      refine AW.seq <| SR <| Md rfl <| Md rfl <| Ac (Z5e rfl rfl (vt rfl) (vt rfl)) rfl <| Nl <| Cn rfl (fun hc => ?_) (fun hc => ?_)
      ·have h := Ze hc h
       refine AW.skip <| AW.block <| AW.seq ?_
       obtain ⟨l26, hl26, h⟩ := Z1 h
       refine Rg <| Mw rfl <| Md rfl <| Md rfl <| Md rfl <| Ac (Z08 rfl rfl (vt rfl) (vt rfl)) rfl <| Md rfl <| Ac (Zs (A := fn2 Tryz.prog (Z0 .i64) (Z0 .i64) (Z0 .i64) cmp4) rfl rfl (vt rfl)) rfl <| Ct rfl (Z1k 0 (xs := [.tmp 36, .tmp 37, .tmp 40, .tmp 41, .tmp 42]) (Zu5 _ _ _ _ _ _ _ hl26) Zls rfl rfl ⟨vt rfl, vt rfl, vt rfl, vt rfl, vt rfl, trivial⟩ rfl) ?_
       rintro _ ⟨_u, rfl⟩
       refine Nl <| SR <| Md rfl <| As rfl <| Nl <| Rg <| Md rfl <| Md rfl <| Ac (Z7h rfl rfl (vk rfl) (vt rfl)) rfl <| Ac (Z08 rfl rfl (vt rfl) (vt rfl)) rfl <| As rfl <| Nl ?_
       subst hgo3
       exact ⟨(m25, l26, b24, (IntKind.i64.wrap (b24 + (IntKind.i64.wrap (2 * blockSize17))))), Nat.lt_succ_self _, ⟨trivial, h⟩, ⟨rfl, ⟨rfl, rfl, rfl, rfl, rfl, rfl, trivial⟩, ⟨rfl, trivial⟩⟩⟩
      ·have h := Zf hc h
       refine AW.exit <| AW.seq <| SR <| Md rfl <| Md rfl <| Ac (Z08 rfl rfl (vt rfl) (vt rfl)) rfl <| As rfl <| Nl <| SR <| Md rfl <| Md rfl <| Ac (Zl rfl rfl (vt rfl) (vt rfl)) rfl <| Nl <| Cn rfl (fun hc => ?_) (fun hc => ?_)
       ·have h := Ze hc h
        obtain ⟨l27, hl27, h⟩ := Z1 h
        refine Rg <| Mw rfl <| Md rfl <| Md rfl <| Md rfl <| Ac (Zs (A := fn2 Tryz.prog (Z0 .i64) (Z0 .i64) (Z0 .i64) cmp4) rfl rfl (vt rfl)) rfl <| Ct rfl (Z1k 0 (xs := [.tmp 55, .tmp 56, .tmp 57, .tmp 58, .tmp 59]) (Zu5 _ _ _ _ _ _ _ hl27) Zls rfl rfl ⟨vt rfl, vt rfl, vt rfl, vt rfl, vt rfl, trivial⟩ rfl) ?_
        rintro _ ⟨_u, rfl⟩
        refine Nl <| Rg <| Md rfl <| Ac (Z7h rfl rfl (vt rfl) (vk rfl)) rfl <| As rfl <| Nl ?_
        subst hgo2
        exact ⟨(m18, l27, (IntKind.i64.wrap (blockSize17 * 2))), Nat.lt_succ_self _, ⟨trivial, h⟩, ⟨rfl, ⟨rfl, rfl, rfl, rfl, trivial⟩, ⟨rfl, trivial⟩⟩⟩
       ·have h := Zf hc h
        refine AW.skip <| Rg <| Md rfl <| Ac (Z7h rfl rfl (vt rfl) (vk rfl)) rfl <| As rfl <| Nl ?_
        subst hgo2
        exact ⟨(m18, l22, (IntKind.i64.wrap (blockSize17 * 2))), Nat.lt_succ_self _, ⟨trivial, h⟩, ⟨rfl, ⟨rfl, rfl, rfl, rfl, trivial⟩, ⟨rfl, trivial⟩⟩⟩
    ·have h := Zf hc h
     refine AW.exit ?_
     obtain rfl := si h
     exact Z2n (i := 0) Tryz.results258 rfl rfl
def Zfy (x1 : (List Int)) (cmp3 : (Int → Int → Option Int)) : Option (List Int) :=
 (Zln x1 (x1.length : Int) cmp3).bind fun l4 => some l4
theorem Ydi (v2 : Value) (x1 : (List Int)) (cmp3 : (Int → Int → Option Int)) (r : (List Int)) (h : Zfy x1 cmp3 = some r) : Con Tryz.prog 200 [Zc v2, fn2 Tryz.prog (Z0 .i64) (Z0 .i64) (Z0 .i64) cmp3] (Za v2 3 (Z0 .i64) x1) (fun _ : Unit => top) (fun _ => Za v2 3 (Z0 .i64) r) := by
 refine Con.intro Tryz.func200 rfl Tryz.ntmps200 rfl fun w H X => ?_
 unfold Zfy at h
 obtain ⟨l4, hl4, h⟩ := Z1 h
 refine Rg <| Mw rfl <| Mw rfl <| Ac (Z5h 0 rfl rfl Z10 (vt rfl) rfl) rfl <| Ac (Zs (A := fn2 Tryz.prog (Z0 .i64) (Z0 .i64) (Z0 .i64) cmp3) rfl rfl (vt rfl)) rfl <| Ct rfl (Z1k 0 (xs := [.tmp 4, .tmp 6, .tmp 7]) (Y75 _ _ _ _ _ hl4) Yeq rfl rfl ⟨vt rfl, vt rfl, vt rfl, trivial⟩ rfl) ?_
 rintro _ ⟨_u, rfl⟩
 refine Nl ?_
 obtain rfl := si h
 exact Z2n (i := 0) Tryz.results200 rfl rfl
end Go.Proofs.YtknpgojdkobgjaaGreat.W
set_option maxRecDepth 4000
namespace Go.Proofs.YtknpgojdkobgjaaGreat.W
open Go Go.Wb
theorem Zzu : Ent Tryz.prog 201 := Ent.mk Tryz.func201 rfl rfl
theorem Ycj : Ent Tryz.prog 200 := Ent.mk Tryz.func200 rfl rfl
theorem Zmz : Ent Tryz.prog 269 := Ent.mk Tryz.func269 rfl rfl
theorem Ya7 : Ent Tryz.prog 344 := Ent.mk Tryz.func344 rfl rfl
theorem Y2x : Ent Tryz.prog 336 := Ent.mk Tryz.func336 rfl rfl
theorem Zv8 : Ent Tryz.prog 299 := Ent.mk Tryz.func299 rfl rfl
theorem Y0l : Ent Tryz.prog 312 := Ent.mk Tryz.func312 rfl rfl
theorem Zq2 : Ent Tryz.prog 254 := Ent.mk Tryz.func254 rfl rfl
theorem e73 : Ent Tryz.prog 73 := Ent.mk Tryz.func73 rfl rfl
theorem Zyz : Ent Tryz.prog 275 := Ent.mk Tryz.func275 rfl rfl
def Z6q (t1 : (List Flow)) : Nat → Nat → (List Int) → Option (List Int)
 | 0, i9, l7 => (Zfy l7 (fun x z => Zds x z t1)).bind fun l11 => some l11
 | m10 + 1, i9, l7 => (Z0w l7 [(i9 : Int)]).bind fun l12 => (Z6q t1 m10) (i9 + 1) l12
def Zhu (t1 : (List Flow)) : Option (List Int) :=
 (omk (t1.length : Int)).bind fun u3 => Z6q t1 ((t1.length : Int) : Int).toNat 0 []
theorem Yat (t1 : (List Flow)) (r : (List Int)) (h : Zhu t1 = some r) : PCon Tryz.prog 135 [rd (Z4 Z0d) t1] (rd (Z4 (Z0 .i64)) r) := by
 refine PCon.of (Con.intro0 Tryz.func135 rfl Tryz.ntmps135 rfl fun w H => ?_)
 unfold Zhu at h
 refine SR <| Ct rfl (Zo 2 rfl rfl (vt rfl)) ?_
 rintro _ ⟨g2, rfl⟩
 refine Ac (Z07 (A := rd (Z4 (Z0 .i64)) []) rfl rfl Z27) rfl <| Nl <| AW.seq ?_
 obtain ⟨u3, hu3, h⟩ := Z1 h
 refine Rg <| Ld Z59 2 rfl <| Ac (Z0j rfl rfl Z44 (vt rfl)) rfl <| Ct rfl (Yen 1001 hu3 rfl rfl Zm7 zr3 (vt rfl)) ?_
 rintro _ ⟨v4, rfl⟩
 refine Aw rfl <| Nl <| AW.seq <| SR <| Ld Z59 2 rfl <| Ac (Z0j rfl rfl Z44 (vt rfl)) rfl <| Mk rfl <| Nl <| AW.block <| AW.loopG (d := []) (ν := Nat × Nat × (List Int) × Value) (fun n => Cnt (t1.length : Int) n.2.1 n.1 ∧ Z6q t1 n.1 n.2.1 n.2.2.1 = some r) (fun n => n.1) (fun n => [(1, Z7 g2 (Lens.id (Z4 Z0d))), (3, Zc n.2.2.2), (9, rd (Z0 .i64) (t1.length : Int)), (10, rd (Z0 .i64) (n.2.1 : Int))]) (fun n => [(2, Z9 g2 22 (Z4 Z0d) t1), (1001, Za n.2.2.2 3 (Z0 .i64) n.2.2.1)]) (((t1.length : Int) : Int).toNat, 0, [], v4) ⟨Cnt.start _, h⟩ ⟨rfl, ⟨rfl, rfl, rfl, rfl, trivial⟩, ⟨rfl, rfl, trivial⟩⟩ ?_
 rintro ⟨m10, i9, l7, v8⟩ ⟨hsf1, h⟩
 change Cnt (t1.length : Int) i9 m10 at hsf1
 change Z6q t1 m10 i9 l7 = some r at h
 change AW _ _ _ ⟨Zw [(1, Z7 g2 (Lens.id (Z4 Z0d))), (3, Zc v8), (9, rd (Z0 .i64) (t1.length : Int)), (10, rd (Z0 .i64) (i9 : Int))], Zx [(2, Z9 g2 22 (Z4 Z0d) t1), (1001, Za v8 3 (Z0 .i64) l7)], _⟩
 cases m10 with
 | zero =>
  unfold Z6q at h
  refine SR <| Ac (Zl rfl rfl (vt rfl) (vt rfl)) rfl <| Nl <| AW.seq <| Cn rfl (fun hc => absurd (of_decide_eq_true hc) hsf1.zero) (fun hc => ?_)
  refine AW.exit <| AW.seq <| AW.freezeB 1 2 rfl rfl rfl ?_
  obtain ⟨l11, hl11, h⟩ := Z1 h
  refine Rg <| Mw rfl <| Ac (Yf5 (cs := [.tmp 1]) (CAs := [rp (Z4 Z0d) t1]) (fun x z => Zds x z t1) rfl rfl Zzu ⟨vt rfl, trivial⟩ (fun x z y h => Ycs _ _ _ y h)) rfl <| Ct rfl (Z1k 1001 (xs := [.tmp 18, .tmp 19]) (Ydi _ _ _ _ hl11) Ycj rfl rfl ⟨vt rfl, vt rfl, trivial⟩ rfl) ?_
  rintro _ ⟨_u, rfl⟩
  refine Nl <| SR <| Mw rfl <| Aw rfl <| Nl <| AW.freezes [2, 3, 18, 21] 1001 rfl ⟨rfl, rfl, rfl, rfl, trivial⟩ rfl <| AW.ret ?_
  obtain rfl := si h
  exact Zg Tryz.results135 rfl (Z6 rfl)
 | succ m10 =>
  unfold Z6q at h
  generalize hgo1 : Z6q t1 m10 = go1 at h
  refine SR <| Ac (Zl rfl rfl (vt rfl) (vt rfl)) rfl <| Nl <| AW.seq <| Cn rfl (fun hc => ?_) (fun hc => absurd hsf1.succ (of_decide_eq_false hc))
  have hlti9 := of_decide_eq_true hc
  refine AW.skip <| AW.seq <| AW.block <| SR <| Md rfl <| As rfl <| Nl ?_
  obtain ⟨l12, hl12, h⟩ := Z1 h
  refine Rg <| Mw rfl <| Md rfl <| Ac (Z2o (ps := [(0, .tmp 14)]) (l := [(i9 : Int)]) rfl rfl Z10 zr3 rfl rfl ⟨_, _, Lens.idx 1 (Z0 .i64) 0 (by decide), _, rfl, (vt rfl), rfl⟩ rfl) rfl <| Ct rfl (Z2l 1001 hl12 rfl rfl Zm7 (vt rfl) rfl (vt rfl)) ?_
  rintro _ ⟨v13, rfl⟩
  refine Aw rfl <| Nl <| Rg <| Ac (Z1t (t := 9) rfl rfl (vt rfl) (vk rfl) (vt rfl) hlti9) rfl <| Md rfl <| Nl ?_
  subst hgo1
  exact ⟨(m10, i9 + 1, l12, v13), Nat.lt_succ_self _, ⟨hsf1.next, h⟩, ⟨rfl, ⟨rfl, rfl, rfl, rfl, trivial⟩, ⟨rfl, rfl, trivial⟩⟩⟩
def Z7k (f1 : Int) : Option Bool :=
 some ((decide (f1 ≥ 0)) && (decide (f1 < 24)))
theorem Zll (f1 : Int) (r : Bool) (h : Z7k f1 = some r) : PCon Tryz.prog 269 [rd (Z0 .i64) f1] (rd Z8 r) := by
 refine PCon.of (Con.intro0 Tryz.func269 rfl Tryz.ntmps269 rfl fun w H => ?_)
 unfold Z7k at h
 refine SR <| Ab rfl <| Nl <| SR <| Md rfl <| Ac (Z5q rfl rfl (vt rfl) (vk rfl)) rfl <| Md rfl <| Gd rfl (fun hq => Zs (A := rd (Z0 .i64) f1) rfl rfl (vt rfl)) <| Gd rfl (fun hq => Zl rfl rfl (Zj rfl hq) (vk rfl)) <| Ac (Z11 rfl rfl (vt rfl) (vt rfl)) rfl <| As rfl <| Nl <| AW.ret ?_
 obtain rfl := si h
 exact Zg Tryz.results269 rfl (Z6 rfl)
def Zjd : Option (Vector field_row 24) :=
 some (Vector.set (Vector.set (Vector.set (Vector.set (Vector.set (Vector.set (Vector.set (Vector.set (Vector.set (Vector.set (Vector.set (Vector.set (Vector.set (Vector.set (Vector.set (Vector.set (Vector.set (Vector.set (Vector.set (Vector.set (Vector.set (Vector.set (Vector.set (Vector.set (Vector.replicate 24 Zhi) 0 (⟨{ data := #[105, 110, 95, 112, 111, 114, 116] }, 0, 32, false⟩ : field_row) (by decide)) 1 (⟨{ data := #[109, 101, 116, 97, 100, 97, 116, 97] }, 2, 64, true⟩ : field_row) (by decide)) 2 (⟨{ data := #[101, 116, 104, 95, 100, 115, 116] }, 3, 48, true⟩ : field_row) (by decide)) 3 (⟨{ data := #[101, 116, 104, 95, 115, 114, 99] }, 4, 48, true⟩ : field_row) (by decide)) 4 (⟨{ data := #[101, 116, 104, 95, 116, 121, 112, 101] }, 5, 16, false⟩ : field_row) (by decide)) 5 (⟨{ data := #[118, 108, 97, 110, 95, 118, 105, 100] }, 6, 13, true⟩ : field_row) (by decide)) 6 (⟨{ data := #[118, 108, 97, 110, 95, 112, 99, 112] }, 7, 3, false⟩ : field_row) (by decide)) 7 (⟨{ data := #[105, 112, 95, 100, 115, 99, 112] }, 8, 6, false⟩ : field_row) (by decide)) 8 (⟨{ data := #[105, 112, 95, 101, 99, 110] }, 9, 2, false⟩ : field_row) (by decide)) 9 (⟨{ data := #[105, 112, 95, 112, 114, 111, 116, 111] }, 10, 8, false⟩ : field_row) (by decide)) 10 (⟨{ data := #[105, 112, 118, 52, 95, 115, 114, 99] }, 11, 32, true⟩ : field_row) (by decide)) 11 (⟨{ data := #[105, 112, 118, 52, 95, 100, 115, 116] }, 12, 32, true⟩ : field_row) (by decide)) 12 (⟨{ data := #[116, 99, 112, 95, 115, 114, 99] }, 13, 16, false⟩ : field_row) (by decide)) 13 (⟨{ data := #[116, 99, 112, 95, 100, 115, 116] }, 14, 16, false⟩ : field_row) (by decide)) 14 (⟨{ data := #[117, 100, 112, 95, 115, 114, 99] }, 15, 16, false⟩ : field_row) (by decide)) 15 (⟨{ data := #[117, 100, 112, 95, 100, 115, 116] }, 16, 16, false⟩ : field_row) (by decide)) 16 (⟨{ data := #[105, 99, 109, 112, 118, 52, 95, 116, 121, 112, 101] }, 19, 8, false⟩ : field_row) (by decide)) 17 (⟨{ data := #[105, 99, 109, 112, 118, 52, 95, 99, 111, 100, 101] }, 20, 8, false⟩ : field_row) (by decide)) 18 (⟨{ data := #[97, 114, 112, 95, 111, 112] }, 21, 16, false⟩ : field_row) (by decide)) 19 (⟨{ data := #[97, 114, 112, 95, 115, 112, 97] }, 22, 32, true⟩ : field_row) (by decide)) 20 (⟨{ data := #[97, 114, 112, 95, 116, 112, 97] }, 23, 32, true⟩ : field_row) (by decide)) 21 (⟨{ data := #[105, 112, 118, 54, 95, 115, 114, 99] }, 26, 128, true⟩ : field_row) (by decide)) 22 (⟨{ data := #[105, 112, 118, 54, 95, 100, 115, 116] }, 27, 128, true⟩ : field_row) (by decide)) 23 (⟨{ data := #[109, 112, 108, 115, 95, 108, 97, 98, 101, 108] }, 34, 20, false⟩ : field_row) (by decide))
theorem Yb7 (r : (Vector field_row 24)) (h : Zjd = some r) : PCon Tryz.prog 344 [] (rd (Z2 24 Z1j) r) := by
 refine PCon.of (Con.intro0 Tryz.func344 rfl Tryz.ntmps344 rfl fun w H => ?_)
 unfold Zjd at h
 refine SR <| Ct rfl (Zm 1 rfl rfl Zza) ?_
 rintro _ ⟨g1, rfl⟩
 refine Nl <| SR <| Ac (Z01 (ps := [(0, .const (Value.string { data := #[105, 110, 95, 112, 111, 114, 116] })), (1, .const (Value.int IntKind.i64 0)), (2, .const (Value.int IntKind.i64 32)), (3, .const (Value.bool false))]) (x := (⟨{ data := #[105, 110, 95, 112, 111, 114, 116] }, 0, 32, false⟩ : field_row)) rfl rfl rfl (by kernel_rfl) Z2e ⟨_, _, Z2p, _, by kernel_rfl, (vs (by decide)), _, _, Z2j, _, by kernel_rfl, (vk rfl), _, _, Z2b, _, by kernel_rfl, (vk rfl), _, _, Z2r, _, by kernel_rfl, vb, rfl⟩) rfl <| Ac (Z01 (ps := [(0, .const (Value.string { data := #[109, 101, 116, 97, 100, 97, 116, 97] })), (1, .const (Value.int IntKind.i64 2)), (2, .const (Value.int IntKind.i64 64)), (3, .const (Value.bool true))]) (x := (⟨{ data := #[109, 101, 116, 97, 100, 97, 116, 97] }, 2, 64, true⟩ : field_row)) rfl rfl rfl (by kernel_rfl) Z2e ⟨_, _, Z2p, _, by kernel_rfl, (vs (by decide)), _, _, Z2j, _, by kernel_rfl, (vk rfl), _, _, Z2b, _, by kernel_rfl, (vk rfl), _, _, Z2r, _, by kernel_rfl, vb, rfl⟩) rfl <| Ac (Z01 (ps := [(0, .const (Value.string { data := #[101, 116, 104, 95, 100, 115, 116] })), (1, .const (Value.int IntKind.i64 3)), (2, .const (Value.int IntKind.i64 48)), (3, .const (Value.bool true))]) (x := (⟨{ data := #[101, 116, 104, 95, 100, 115, 116] }, 3, 48, true⟩ : field_row)) rfl rfl rfl (by kernel_rfl) Z2e ⟨_, _, Z2p, _, by kernel_rfl, (vs (by decide)), _, _, Z2j, _, by kernel_rfl, (vk rfl), _, _, Z2b, _, by kernel_rfl, (vk rfl), _, _, Z2r, _, by kernel_rfl, vb, rfl⟩) rfl <| Ac (Z01 (ps := [(0, .const (Value.string { data := #[101, 116, 104, 95, 115, 114, 99] })), (1, .const (Value.int IntKind.i64 4)), (2, .const (Value.int IntKind.i64 48)), (3, .const (Value.bool true))]) (x := (⟨{ data := #[101, 116, 104, 95, 115, 114, 99] }, 4, 48, true⟩ : field_row)) rfl rfl rfl (by kernel_rfl) Z2e ⟨_, _, Z2p, _, by kernel_rfl, (vs (by decide)), _, _, Z2j, _, by kernel_rfl, (vk rfl), _, _, Z2b, _, by kernel_rfl, (vk rfl), _, _, Z2r, _, by kernel_rfl, vb, rfl⟩) rfl <| Ac (Z01 (ps := [(0, .const (Value.string { data := #[101, 116, 104, 95, 116, 121, 112, 101] })), (1, .const (Value.int IntKind.i64 5)), (2, .const (Value.int IntKind.i64 16)), (3, .const (Value.bool false))]) (x := (⟨{ data := #[101, 116, 104, 95, 116, 121, 112, 101] }, 5, 16, false⟩ : field_row)) rfl rfl rfl (by kernel_rfl) Z2e ⟨_, _, Z2p, _, by kernel_rfl, (vs (by decide)), _, _, Z2j, _, by kernel_rfl, (vk rfl), _, _, Z2b, _, by kernel_rfl, (vk rfl), _, _, Z2r, _, by kernel_rfl, vb, rfl⟩) rfl <| Ac (Z01 (ps := [(0, .const (Value.string { data := #[118, 108, 97, 110, 95, 118, 105, 100] })), (1, .const (Value.int IntKind.i64 6)), (2, .const (Value.int IntKind.i64 13)), (3, .const (Value.bool true))]) (x := (⟨{ data := #[118, 108, 97, 110, 95, 118, 105, 100] }, 6, 13, true⟩ : field_row)) rfl rfl rfl (by kernel_rfl) Z2e ⟨_, _, Z2p, _, by kernel_rfl, (vs (by decide)), _, _, Z2j, _, by kernel_rfl, (vk rfl), _, _, Z2b, _, by kernel_rfl, (vk rfl), _, _, Z2r, _, by kernel_rfl, vb, rfl⟩) rfl ?_
 refine Ac (Z01 (ps := [(0, .const (Value.string { data := #[118, 108, 97, 110, 95, 112, 99, 112] })), (1, .const (Value.int IntKind.i64 7)), (2, .const (Value.int IntKind.i64 3)), (3, .const (Value.bool false))]) (x := (⟨{ data := #[118, 108, 97, 110, 95, 112, 99, 112] }, 7, 3, false⟩ : field_row)) rfl rfl rfl (by kernel_rfl) Z2e ⟨_, _, Z2p, _, by kernel_rfl, (vs (by decide)), _, _, Z2j, _, by kernel_rfl, (vk rfl), _, _, Z2b, _, by kernel_rfl, (vk rfl), _, _, Z2r, _, by kernel_rfl, vb, rfl⟩) rfl <| Ac (Z01 (ps := [(0, .const (Value.string { data := #[105, 112, 95, 100, 115, 99, 112] })), (1, .const (Value.int IntKind.i64 8)), (2, .const (Value.int IntKind.i64 6)), (3, .const (Value.bool false))]) (x := (⟨{ data := #[105, 112, 95, 100, 115, 99, 112] }, 8, 6, false⟩ : field_row)) rfl rfl rfl (by kernel_rfl) Z2e ⟨_, _, Z2p, _, by kernel_rfl, (vs (by decide)), _, _, Z2j, _, by kernel_rfl, (vk rfl), _, _, Z2b, _, by kernel_rfl, (vk rfl), _, _, Z2r, _, by kernel_rfl, vb, rfl⟩) rfl <| Ac (Z01 (ps := [(0, .const (Value.string { data := #[105, 112, 95, 101, 99, 110] })), (1, .const (Value.int IntKind.i64 9)), (2, .const (Value.int IntKind.i64 2)), (3, .const (Value.bool false))]) (x := (⟨{ data := #[105, 112, 95, 101, 99, 110] }, 9, 2, false⟩ : field_row)) rfl rfl rfl (by kernel_rfl) Z2e ⟨_, _, Z2p, _, by kernel_rfl, (vs (by decide)), _, _, Z2j, _, by kernel_rfl, (vk rfl), _, _, Z2b, _, by kernel_rfl, (vk rfl), _, _, Z2r, _, by kernel_rfl, vb, rfl⟩) rfl <| Ac (Z01 (ps := [(0, .const (Value.string { data := #[105, 112, 95, 112, 114, 111, 116, 111] })), (1, .const (Value.int IntKind.i64 10)), (2, .const (Value.int IntKind.i64 8)), (3, .const (Value.bool false))]) (x := (⟨{ data := #[105, 112, 95, 112, 114, 111, 116, 111] }, 10, 8, false⟩ : field_row)) rfl rfl rfl (by kernel_rfl) Z2e ⟨_, _, Z2p, _, by kernel_rfl, (vs (by decide)), _, _, Z2j, _, by kernel_rfl, (vk rfl), _, _, Z2b, _, by kernel_rfl, (vk rfl), _, _, Z2r, _, by kernel_rfl, vb, rfl⟩) rfl <| Ac (Z01 (ps := [(0, .const (Value.string { data := #[105, 112, 118, 52, 95, 115, 114, 99] })), (1, .const (Value.int IntKind.i64 11)), (2, .const (Value.int IntKind.i64 32)), (3, .const (Value.bool true))]) (x := (⟨{ data := #[105, 112, 118, 52, 95, 115, 114, 99] }, 11, 32, true⟩ : field_row)) rfl rfl rfl (by kernel_rfl) Z2e ⟨_, _, Z2p, _, by kernel_rfl, (vs (by decide)), _, _, Z2j, _, by kernel_rfl, (vk rfl), _, _, Z2b, _, by kernel_rfl, (vk rfl), _, _, Z2r, _, by kernel_rfl, vb, rfl⟩) rfl <| Ac (Z01 (ps := [(0, .const (Value.string { data := #[105, 112, 118, 52, 95, 100, 115, 116] })), (1, .const (Value.int IntKind.i64 12)), (2, .const (Value.int IntKind.i64 32)), (3, .const (Value.bool true))]) (x := (⟨{ data := #[105, 112, 118, 52, 95, 100, 115, 116] }, 12, 32, true⟩ : field_row)) rfl rfl rfl (by kernel_rfl) Z2e ⟨_, _, Z2p, _, by kernel_rfl, (vs (by decide)), _, _, Z2j, _, by kernel_rfl, (vk rfl), _, _, Z2b, _, by kernel_rfl, (vk rfl), _, _, Z2r, _, by kernel_rfl, vb, rfl⟩) rfl ?_
 refine Ac (Z01 (ps := [(0, .const (Value.string { data := #[116, 99, 112, 95, 115, 114, 99] })), (1, .const (Value.int IntKind.i64 13)), (2, .const (Value.int IntKind.i64 16)), (3, .const (Value.bool false))]) (x := (⟨{ data := #[116, 99, 112, 95, 115, 114, 99] }, 13, 16, false⟩ : field_row)) rfl rfl rfl (by kernel_rfl) Z2e ⟨_, _, Z2p, _, by kernel_rfl, (vs (by decide)), _, _, Z2j, _, by kernel_rfl, (vk rfl), _, _, Z2b, _, by kernel_rfl, (vk rfl), _, _, Z2r, _, by kernel_rfl, vb, rfl⟩) rfl <| Ac (Z01 (ps := [(0, .const (Value.string { data := #[116, 99, 112, 95, 100, 115, 116] })), (1, .const (Value.int IntKind.i64 14)), (2, .const (Value.int IntKind.i64 16)), (3, .const (Value.bool false))]) (x := (⟨{ data := #[116, 99, 112, 95, 100, 115, 116] }, 14, 16, false⟩ : field_row)) rfl rfl rfl (by kernel_rfl) Z2e ⟨_, _, Z2p, _, by kernel_rfl, (vs (by decide)), _, _, Z2j, _, by kernel_rfl, (vk rfl), _, _, Z2b, _, by kernel_rfl, (vk rfl), _, _, Z2r, _, by kernel_rfl, vb, rfl⟩) rfl <| Ac (Z01 (ps := [(0, .const (Value.string { data := #[117, 100, 112, 95, 115, 114, 99] })), (1, .const (Value.int IntKind.i64 15)), (2, .const (Value.int IntKind.i64 16)), (3, .const (Value.bool false))]) (x := (⟨{ data := #[117, 100, 112, 95, 115, 114, 99] }, 15, 16, false⟩ : field_row)) rfl rfl rfl (by kernel_rfl) Z2e ⟨_, _, Z2p, _, by kernel_rfl, (vs (by decide)), _, _, Z2j, _, by kernel_rfl, (vk rfl), _, _, Z2b, _, by kernel_rfl, (vk rfl), _, _, Z2r, _, by kernel_rfl, vb, rfl⟩) rfl <| Ac (Z01 (ps := [(0, .const (Value.string { data := #[117, 100, 112, 95, 100, 115, 116] })), (1, .const (Value.int IntKind.i64 16)), (2, .const (Value.int IntKind.i64 16)), (3, .const (Value.bool false))]) (x := (⟨{ data := #[117, 100, 112, 95, 100, 115, 116] }, 16, 16, false⟩ : field_row)) rfl rfl rfl (by kernel_rfl) Z2e ⟨_, _, Z2p, _, by kernel_rfl, (vs (by decide)), _, _, Z2j, _, by kernel_rfl, (vk rfl), _, _, Z2b, _, by kernel_rfl, (vk rfl), _, _, Z2r, _, by kernel_rfl, vb, rfl⟩) rfl <| Ac (Z01 (ps := [(0, .const (Value.string { data := #[105, 99, 109, 112, 118, 52, 95, 116, 121, 112, 101] })), (1, .const (Value.int IntKind.i64 19)), (2, .const (Value.int IntKind.i64 8)), (3, .const (Value.bool false))]) (x := (⟨{ data := #[105, 99, 109, 112, 118, 52, 95, 116, 121, 112, 101] }, 19, 8, false⟩ : field_row)) rfl rfl rfl (by kernel_rfl) Z2e ⟨_, _, Z2p, _, by kernel_rfl, (vs (by decide)), _, _, Z2j, _, by kernel_rfl, (vk rfl), _, _, Z2b, _, by kernel_rfl, (vk rfl), _, _, Z2r, _, by kernel_rfl, vb, rfl⟩) rfl <| Ac (Z01 (ps := [(0, .const (Value.string { data := #[105, 99, 109, 112, 118, 52, 95, 99, 111, 100, 101] })), (1, .const (Value.int IntKind.i64 20)), (2, .const (Value.int IntKind.i64 8)), (3, .const (Value.bool false))]) (x := (⟨{ data := #[105, 99, 109, 112, 118, 52, 95, 99, 111, 100, 101] }, 20, 8, false⟩ : field_row)) rfl rfl rfl (by kernel_rfl) Z2e ⟨_, _, Z2p, _, by kernel_rfl, (vs (by decide)), _, _, Z2j, _, by kernel_rfl, (vk rfl), _, _, Z2b, _, by kernel_rfl, (vk rfl), _, _, Z2r, _, by kernel_rfl, vb, rfl⟩) rfl ?_
 refine Ac (Z01 (ps := [(0, .const (Value.string { data := #[97, 114, 112, 95, 111, 112] })), (1, .const (Value.int IntKind.i64 21)), (2, .const (Value.int IntKind.i64 16)), (3, .const (Value.bool false))]) (x := (⟨{ data := #[97, 114, 112, 95, 111, 112] }, 21, 16, false⟩ : field_row)) rfl rfl rfl (by kernel_rfl) Z2e ⟨_, _, Z2p, _, by kernel_rfl, (vs (by decide)), _, _, Z2j, _, by kernel_rfl, (vk rfl), _, _, Z2b, _, by kernel_rfl, (vk rfl), _, _, Z2r, _, by kernel_rfl, vb, rfl⟩) rfl <| Ac (Z01 (ps := [(0, .const (Value.string { data := #[97, 114, 112, 95, 115, 112, 97] })), (1, .const (Value.int IntKind.i64 22)), (2, .const (Value.int IntKind.i64 32)), (3, .const (Value.bool true))]) (x := (⟨{ data := #[97, 114, 112, 95, 115, 112, 97] }, 22, 32, true⟩ : field_row)) rfl rfl rfl (by kernel_rfl) Z2e ⟨_, _, Z2p, _, by kernel_rfl, (vs (by decide)), _, _, Z2j, _, by kernel_rfl, (vk rfl), _, _, Z2b, _, by kernel_rfl, (vk rfl), _, _, Z2r, _, by kernel_rfl, vb, rfl⟩) rfl <| Ac (Z01 (ps := [(0, .const (Value.string { data := #[97, 114, 112, 95, 116, 112, 97] })), (1, .const (Value.int IntKind.i64 23)), (2, .const (Value.int IntKind.i64 32)), (3, .const (Value.bool true))]) (x := (⟨{ data := #[97, 114, 112, 95, 116, 112, 97] }, 23, 32, true⟩ : field_row)) rfl rfl rfl (by kernel_rfl) Z2e ⟨_, _, Z2p, _, by kernel_rfl, (vs (by decide)), _, _, Z2j, _, by kernel_rfl, (vk rfl), _, _, Z2b, _, by kernel_rfl, (vk rfl), _, _, Z2r, _, by kernel_rfl, vb, rfl⟩) rfl <| Ac (Z01 (ps := [(0, .const (Value.string { data := #[105, 112, 118, 54, 95, 115, 114, 99] })), (1, .const (Value.int IntKind.i64 26)), (2, .const (Value.int IntKind.i64 128)), (3, .const (Value.bool true))]) (x := (⟨{ data := #[105, 112, 118, 54, 95, 115, 114, 99] }, 26, 128, true⟩ : field_row)) rfl rfl rfl (by kernel_rfl) Z2e ⟨_, _, Z2p, _, by kernel_rfl, (vs (by decide)), _, _, Z2j, _, by kernel_rfl, (vk rfl), _, _, Z2b, _, by kernel_rfl, (vk rfl), _, _, Z2r, _, by kernel_rfl, vb, rfl⟩) rfl <| Ac (Z01 (ps := [(0, .const (Value.string { data := #[105, 112, 118, 54, 95, 100, 115, 116] })), (1, .const (Value.int IntKind.i64 27)), (2, .const (Value.int IntKind.i64 128)), (3, .const (Value.bool true))]) (x := (⟨{ data := #[105, 112, 118, 54, 95, 100, 115, 116] }, 27, 128, true⟩ : field_row)) rfl rfl rfl (by kernel_rfl) Z2e ⟨_, _, Z2p, _, by kernel_rfl, (vs (by decide)), _, _, Z2j, _, by kernel_rfl, (vk rfl), _, _, Z2b, _, by kernel_rfl, (vk rfl), _, _, Z2r, _, by kernel_rfl, vb, rfl⟩) rfl <| Ac (Z01 (ps := [(0, .const (Value.string { data := #[109, 112, 108, 115, 95, 108, 97, 98, 101, 108] })), (1, .const (Value.int IntKind.i64 34)), (2, .const (Value.int IntKind.i64 20)), (3, .const (Value.bool false))]) (x := (⟨{ data := #[109, 112, 108, 115, 95, 108, 97, 98, 101, 108] }, 34, 20, false⟩ : field_row)) rfl rfl rfl (by kernel_rfl) Z2e ⟨_, _, Z2p, _, by kernel_rfl, (vs (by decide)), _, _, Z2j, _, by kernel_rfl, (vk rfl), _, _, Z2b, _, by kernel_rfl, (vk rfl), _, _, Z2r, _, by kernel_rfl, vb, rfl⟩) rfl ?_
 refine Ac (Z01 (ps := [(0, .tmp 1), (1, .tmp 2), (2, .tmp 3), (3, .tmp 4), (4, .tmp 5), (5, .tmp 6), (6, .tmp 7), (7, .tmp 8), (8, .tmp 9), (9, .tmp 10), (10, .tmp 11), (11, .tmp 12), (12, .tmp 13), (13, .tmp 14), (14, .tmp 15), (15, .tmp 16), (16, .tmp 17), (17, .tmp 18), (18, .tmp 19), (19, .tmp 20), (20, .tmp 21), (21, .tmp 22), (22, .tmp 23), (23, .tmp 24)]) (x := (Vector.set (Vector.set (Vector.set (Vector.set (Vector.set (Vector.set (Vector.set (Vector.set (Vector.set (Vector.set (Vector.set (Vector.set (Vector.set (Vector.set (Vector.set (Vector.set (Vector.set (Vector.set (Vector.set (Vector.set (Vector.set (Vector.set (Vector.set (Vector.set (Vector.replicate 24 Zhi) 0 (⟨{ data := #[105, 110, 95, 112, 111, 114, 116] }, 0, 32, false⟩ : field_row) (by decide)) 1 (⟨{ data := #[109, 101, 116, 97, 100, 97, 116, 97] }, 2, 64, true⟩ : field_row) (by decide)) 2 (⟨{ data := #[101, 116, 104, 95, 100, 115, 116] }, 3, 48, true⟩ : field_row) (by decide)) 3 (⟨{ data := #[101, 116, 104, 95, 115, 114, 99] }, 4, 48, true⟩ : field_row) (by decide)) 4 (⟨{ data := #[101, 116, 104, 95, 116, 121, 112, 101] }, 5, 16, false⟩ : field_row) (by decide)) 5 (⟨{ data := #[118, 108, 97, 110, 95, 118, 105, 100] }, 6, 13, true⟩ : field_row) (by decide)) 6 (⟨{ data := #[118, 108, 97, 110, 95, 112, 99, 112] }, 7, 3, false⟩ : field_row) (by decide)) 7 (⟨{ data := #[105, 112, 95, 100, 115, 99, 112] }, 8, 6, false⟩ : field_row) (by decide)) 8 (⟨{ data := #[105, 112, 95, 101, 99, 110] }, 9, 2, false⟩ : field_row) (by decide)) 9 (⟨{ data := #[105, 112, 95, 112, 114, 111, 116, 111] }, 10, 8, false⟩ : field_row) (by decide)) 10 (⟨{ data := #[105, 112, 118, 52, 95, 115, 114, 99] }, 11, 32, true⟩ : field_row) (by decide)) 11 (⟨{ data := #[105, 112, 118, 52, 95, 100, 115, 116] }, 12, 32, true⟩ : field_row) (by decide)) 12 (⟨{ data := #[116, 99, 112, 95, 115, 114, 99] }, 13, 16, false⟩ : field_row) (by decide)) 13 (⟨{ data := #[116, 99, 112, 95, 100, 115, 116] }, 14, 16, false⟩ : field_row) (by decide)) 14 (⟨{ data := #[117, 100, 112, 95, 115, 114, 99] }, 15, 16, false⟩ : field_row) (by decide)) 15 (⟨{ data := #[117, 100, 112, 95, 100, 115, 116] }, 16, 16, false⟩ : field_row) (by decide)) 16 (⟨{ data := #[105, 99, 109, 112, 118, 52, 95, 116, 121, 112, 101] }, 19, 8, false⟩ : field_row) (by decide)) 17 (⟨{ data := #[105, 99, 109, 112, 118, 52, 95, 99, 111, 100, 101] }, 20, 8, false⟩ : field_row) (by decide)) 18 (⟨{ data := #[97, 114, 112, 95, 111, 112] }, 21, 16, false⟩ : field_row) (by decide)) 19 (⟨{ data := #[97, 114, 112, 95, 115, 112, 97] }, 22, 32, true⟩ : field_row) (by decide)) 20 (⟨{ data := #[97, 114, 112, 95, 116, 112, 97] }, 23, 32, true⟩ : field_row) (by decide)) 21 (⟨{ data := #[105, 112, 118, 54, 95, 115, 114, 99] }, 26, 128, true⟩ : field_row) (by decide)) 22 (⟨{ data := #[105, 112, 118, 54, 95, 100, 115, 116] }, 27, 128, true⟩ : field_row) (by decide)) 23 (⟨{ data := #[109, 112, 108, 115, 95, 108, 97, 98, 101, 108] }, 34, 20, false⟩ : field_row) (by decide))) rfl rfl rfl (by kernel_rfl) Zza ⟨_, _, Lens.idx 24 Z1j 0 (by decide), _, by kernel_rfl, (vt rfl), _, _, Lens.idx 24 Z1j 1 (by decide), _, by kernel_rfl, (vt rfl), _, _, Lens.idx 24 Z1j 2 (by decide), _, by kernel_rfl, (vt rfl), _, _, Lens.idx 24 Z1j 3 (by decide), _, by kernel_rfl, (vt rfl), _, _, Lens.idx 24 Z1j 4 (by decide), _, by kernel_rfl, (vt rfl), _, _, Lens.idx 24 Z1j 5 (by decide), _, by kernel_rfl, (vt rfl), _, _, Lens.idx 24 Z1j 6 (by decide), _, by kernel_rfl, (vt rfl), _, _, Lens.idx 24 Z1j 7 (by decide), _, by kernel_rfl, (vt rfl), _, _, Lens.idx 24 Z1j 8 (by decide), _, by kernel_rfl, (vt rfl), _, _, Lens.idx 24 Z1j 9 (by decide), _, by kernel_rfl, (vt rfl), _, _, Lens.idx 24 Z1j 10 (by decide), _, by kernel_rfl, (vt rfl), _, _, Lens.idx 24 Z1j 11 (by decide), _, by kernel_rfl, (vt rfl), _, _, Lens.idx 24 Z1j 12 (by decide), _, by kernel_rfl, (vt rfl), _, _, Lens.idx 24 Z1j 13 (by decide), _, by kernel_rfl, (vt rfl), _, _, Lens.idx 24 Z1j 14 (by decide), _, by kernel_rfl, (vt rfl), _, _, Lens.idx 24 Z1j 15 (by decide), _, by kernel_rfl, (vt rfl), _, _, Lens.idx 24 Z1j 16 (by decide), _, by kernel_rfl, (vt rfl), _, _, Lens.idx 24 Z1j 17 (by decide), _, by kernel_rfl, (vt rfl), _, _, Lens.idx 24 Z1j 18 (by decide), _, by kernel_rfl, (vt rfl), _, _, Lens.idx 24 Z1j 19 (by decide), _, by kernel_rfl, (vt rfl), _, _, Lens.idx 24 Z1j 20 (by decide), _, by kernel_rfl, (vt rfl), _, _, Lens.idx 24 Z1j 21 (by decide), _, by kernel_rfl, (vt rfl), _, _, Lens.idx 24 Z1j 22 (by decide), _, by kernel_rfl, (vt rfl), _, _, Lens.idx 24 Z1j 23 (by decide), _, by kernel_rfl, (vt rfl), rfl⟩) rfl ?_
 refine Zh Zzp 1 rfl <| Nl <| AW.ret ?_
 obtain rfl := si h
 exact Zg Tryz.results344 rfl (Z04 rfl (i := 1) rfl Zzp)
def Zmh (f1 : Int) : Option field_row :=
 (Z7k f1).bind fun x3 => (bif (!x3) then some (⟨(⟨#[]⟩ : ByteArray), (-1), 0, false⟩ : field_row) else (Zjd).bind fun x4 => (lget (Vector.toList x4) f1).bind fun e5 => some e5)
theorem Yf0 (f1 : Int) (r : field_row) (h : Zmh f1 = some r) : PCon Tryz.prog 336 [rd (Z0 .i64) f1] (rd Z1j r) := by
 refine PCon.of (Con.intro0 Tryz.func336 rfl Tryz.ntmps336 rfl fun w H => ?_)
 unfold Zmh at h
 refine SR <| Ct rfl (Zm 3 rfl rfl Z2e) ?_
 rintro _ ⟨g2, rfl⟩
 refine Nl <| AW.seq <| AW.seq ?_
 obtain ⟨x3, hx3, h⟩ := Z1 h
 refine Rg <| Md rfl <| Cl [3] (Zll _ _ hx3) Zmz rfl <| Ac (Z13 rfl rfl (vt rfl)) rfl <| Nl <| Cn rfl (fun hc => ?_) (fun hc => ?_)
 ·have h := Ze hc h
  refine SR <| Ac (Z01 (ps := [(1, .const (Value.int IntKind.i64 (-1)))]) (x := (⟨(⟨#[]⟩ : ByteArray), (-1), 0, false⟩ : field_row)) rfl rfl rfl (by kernel_rfl) Z2e ⟨_, _, Z2j, _, by kernel_rfl, (vk rfl), rfl⟩) rfl <| Zh Zju 3 rfl <| Nl <| AW.ret ?_
  obtain rfl := si h
  exact Zg Tryz.results336 rfl (Z04 rfl (i := 3) rfl Zju)
 ·have h := Zf hc h
  refine AW.skip <| AW.seq ?_
  obtain ⟨x4, hx4, h⟩ := Z1 h
  obtain ⟨e5, he5, h⟩ := Z1 h
  refine Rg <| Cl [] (Yb7 _ hx4) Ya7 rfl <| Md rfl <| Ac (Zcj rfl rfl Zzx Zju (vt rfl) (vt rfl) he5) rfl <| Zh Zju 3 rfl <| Nl <| AW.ret ?_
  obtain rfl := si h
  exact Zg Tryz.results336 rfl (Z04 rfl (i := 3) rfl Zju)
def Zcl (f1 : Int) : Option Int :=
 (Zmh f1).bind fun x2 => some x2.bits
theorem Yb5 (f1 : Int) (r : Int) (h : Zcl f1 = some r) : PCon Tryz.prog 312 [rd (Z0 .i64) f1] (rd (Z0 .i64) r) := by
 refine PCon.of (Con.intro0 Tryz.func312 rfl Tryz.ntmps312 rfl fun w H => ?_)
 unfold Zcl at h
 refine SR <| Ak rfl <| Nl <| AW.seq ?_
 obtain ⟨x2, hx2, h⟩ := Z1 h
 refine Rg <| Md rfl <| Cl [3] (Yf0 _ _ hx2) Y2x rfl <| Ac (Zuz Z2b rfl rfl Y7k Y3p Zv rfl (vt rfl)) rfl <| As rfl <| Nl <| AW.ret ?_
 obtain rfl := si h
 exact Zg Tryz.results312 rfl (Z6 rfl)
def Zen (n1 : Int) : Option (BitVec 64) :=
 (bif (decide (n1 ≥ 64)) then some (18446744073709551615 : BitVec 64) else (Z9h (1 : BitVec 64) (Z1i n1 0)).bind fun q2 => some (q2 - (1 : BitVec 64)))
theorem Zwo (n1 : Int) (r : (BitVec 64)) (h : Zen n1 = some r) : PCon Tryz.prog 299 [rd (Z0 .i64) n1] (rd Z0o r) := by
 refine PCon.of (Con.intro0 Tryz.func299 rfl Tryz.ntmps299 rfl fun w H => ?_)
 unfold Zen at h
 refine SR <| Ac (Z07 (A := rd Z0o (0 : BitVec 64)) rfl rfl (vku (0 : BitVec 64) rfl)) rfl <| Nl <| AW.seq <| SR <| Md rfl <| Ac (Z5q rfl rfl (vt rfl) (vk rfl)) rfl <| Nl <| Cn rfl (fun hc => ?_) (fun hc => ?_)
 ·have h := Ze hc h
  refine SR <| Ac (Z07 (A := rd Z0o (18446744073709551615 : BitVec 64)) rfl rfl (vku (18446744073709551615 : BitVec 64) rfl)) rfl <| Nl <| AW.ret ?_
  obtain rfl := si h
  exact Zg Tryz.results299 rfl (Z6 rfl)
 ·have h := Zf hc h
  refine AW.skip <| AW.seq ?_
  obtain ⟨q2, hq2, h⟩ := Z1 h
  refine Rg <| Md rfl <| Ac (Zbg rfl rfl (vt rfl) (vk rfl)) rfl <| Ac (Znc rfl rfl (vku (1 : BitVec 64) rfl) (vt rfl) hq2) rfl <| Ac (Yca rfl rfl (vt rfl) (vku (1 : BitVec 64) rfl)) rfl <| As rfl <| Nl <| AW.ret ?_
  obtain rfl := si h
  exact Zg Tryz.results299 rfl (Z6 rfl)
def Z7t (n1 : Int) : Option Wide :=
 (Zen (IntKind.i64.wrap ((Z39 (Z1i n1 0) 128) - 64))).bind fun x3 => (Zen (Z39 (Z1i n1 0) 128)).bind fun x4 => some (⟨x3, x4⟩ : Wide)
theorem Zpq (n1 : Int) (r : Wide) (h : Z7t n1 = some r) : PCon Tryz.prog 254 [rd (Z0 .i64) n1] (rd Zn r) := by
 refine PCon.of (Con.intro0 Tryz.func254 rfl Tryz.ntmps254 rfl fun w H => ?_)
 unfold Z7t at h
 refine SR <| Ct rfl (Zm 3 rfl rfl Z1n) ?_
 rintro _ ⟨g2, rfl⟩
 refine Nl <| SR <| Md rfl <| Ac (Zbg rfl rfl (vt rfl) (vk rfl)) rfl <| Ac (Zhw rfl rfl (vt rfl) (vk rfl)) rfl <| As rfl <| Nl <| AW.seq ?_
 obtain ⟨x3, hx3, h⟩ := Z1 h
 obtain ⟨x4, hx4, h⟩ := Z1 h
 refine Rg <| Md rfl <| Ac (Z0n rfl rfl (vt rfl) (vk rfl)) rfl <| Cl [7] (Zwo _ _ hx3) Zv8 rfl <| Md rfl <| Cl [9] (Zwo _ _ hx4) Zv8 rfl <| Ac (Z01 (ps := [(0, .tmp 8), (1, .tmp 10)]) (x := (⟨x3, x4⟩ : Wide)) rfl rfl rfl (by kernel_rfl) Z1n ⟨_, _, Z22, _, by kernel_rfl, (vt rfl), _, _, Z21, _, by kernel_rfl, (vt rfl), rfl⟩) rfl <| Zh Zt 3 rfl <| Nl <| AW.ret ?_
 obtain rfl := si h
 exact Zg Tryz.results254 rfl (Z04 rfl (i := 3) rfl Zt)
def Zf1 (o1 : Oxm) : Option Tern :=
 (Z7k o1.Field).bind fun x4 => (bif (!x4) then some (⟨Z05, Z05⟩ : Tern) else (bif o1.Masked then some (⟨o1.Value, o1.Mask⟩ : Tern) else (Zcl o1.Field).bind fun x5 => (Z7t x5).bind fun x6 => some (⟨o1.Value, x6⟩ : Tern)))
theorem Zt6 (o1 : Oxm) (r : Tern) (h : Zf1 o1 = some r) : PCon Tryz.prog 275 [rd Z1v o1] (rd Z3 r) := by
 refine PCon.of (Con.intro0 Tryz.func275 rfl Tryz.ntmps275 rfl fun w H => ?_)
 unfold Zf1 at h
 refine SR <| Ct rfl (Zo 2 rfl rfl (vt rfl)) ?_
 rintro _ ⟨g2, rfl⟩
 refine Ct rfl (Zm 3 rfl rfl Z16) ?_
 rintro _ ⟨g3, rfl⟩
 refine Nl <| AW.seq <| AW.block <| AW.seq ?_
 obtain ⟨x4, hx4, h⟩ := Z1 h
 refine Rg <| Zp Z46 Z4m rfl <| Ld Zv 2 rfl <| Cl [5] (Zll _ _ hx4) Zmz rfl <| Ac (Z13 rfl rfl (vt rfl)) rfl <| As rfl <| Nl <| Cn rfl (fun hc => ?_) (fun hc => ?_)
 ·have h := Ze hc h
  refine SR <| Ac (Z01 (ps := []) (x := (⟨Z05, Z05⟩ : Tern)) rfl rfl rfl (by kernel_rfl) Z16 rfl) rfl <| Zh Z00 3 rfl <| Nl <| AW.ret ?_
  obtain rfl := si h
  exact Zg Tryz.results275 rfl (Z04 rfl (i := 3) rfl Z00)
 ·have h := Zf hc h
  refine SR <| Zp Zq4 Ztk rfl <| Ld ty4 2 rfl <| As rfl <| Nl <| Cn rfl (fun hc => ?_) (fun hc => ?_)
  ·have h := Ze hc h
   refine SR <| Zp Zif Zkm rfl <| Ld Zt 2 rfl <| Zp Zr3 Zvr rfl <| Ld Zt 2 rfl <| Ac (Z01 (ps := [(0, .tmp 13), (1, .tmp 15)]) (x := (⟨o1.Value, o1.Mask⟩ : Tern)) rfl rfl rfl (by kernel_rfl) Z16 ⟨_, _, Z1a, _, by kernel_rfl, (vt rfl), _, _, Z0z, _, by kernel_rfl, (vt rfl), rfl⟩) rfl <| Zh Z00 3 rfl <| Nl <| AW.ret ?_
   obtain rfl := si h
   exact Zg Tryz.results275 rfl (Z04 rfl (i := 3) rfl Z00)
  ·have h := Zf hc h
   refine AW.skip <| AW.seq ?_
   obtain ⟨x5, hx5, h⟩ := Z1 h
   obtain ⟨x6, hx6, h⟩ := Z1 h
   refine AW.regionAny [⟨[1], [17], [], []⟩, ⟨[17], [18], [2], []⟩, ⟨[1], [19], [], []⟩, ⟨[19], [20], [2], []⟩, ⟨[20], [21], [], []⟩, ⟨[21], [22], [], []⟩, ⟨[18, 22], [23], [], []⟩, ⟨[2, 23], [], [3], [3]⟩] Z06 (by kernel_rfl) <| SFd Zif Zkm rfl <| Zq Zt 2 rfl <| SFd Z46 Z4m rfl <| Zq Zv 2 rfl <| SCl [20] (Yb5 _ _ hx5) Y0l rfl <| SCl [21] (Zpq _ _ hx6) Zq2 rfl <| Sc (lo [18, 22] [] rfl fun S hs hr => Z01 (ps := [(0, .tmp 18), (1, .tmp 22)]) (x := (⟨o1.Value, x6⟩ : Tern)) rfl rfl rfl (by kernel_rfl) Z16 ⟨_, _, Z1a, _, by kernel_rfl, (vh hs 18 rfl rfl), _, _, Z0z, _, by kernel_rfl, (vh hs 22 rfl rfl), rfl⟩) rfl <| SSt Z00 3 rfl <| AW.ret ?_
   obtain rfl := si h
   exact Zg Tryz.results275 rfl (Z04 rfl (i := 3) rfl Z00)
def Z6i : (List Oxm) → Nat → (Vector Tern 24) → Option (Vector Tern 24)
 | [], i7, b6 => some b6
 | x9 :: l8, i7, b6 => (Z7k x9.Field).bind fun x11 => (bif x11 then (Zf1 x9).bind fun x12 => (chk 24 x9.Field).bind fun j13 => (Z6i l8) (i7 + 1) (Vector.set b6 j13.1 x12 j13.2) else (Z6i l8) (i7 + 1) b6)
def Zlb (l1 : (List Oxm)) : Option (Vector Tern 24) :=
 (Zea).bind fun x3 => Z6i l1 0 x3
theorem Y0y (l1 : (List Oxm)) (r : (Vector Tern 24)) (h : Zlb l1 = some r) : PCon Tryz.prog 229 [rd (Z4 Z1v) l1] (rd (Z2 24 Z3) r) := by
 refine PCon.of (Con.intro0 Tryz.func229 rfl Tryz.ntmps229 rfl fun w H => ?_)
 unfold Zlb at h
 refine SR <| Ct rfl (Zm 3 rfl rfl Z0v) ?_
 rintro _ ⟨g2, rfl⟩
 refine Nl <| AW.seq ?_
 obtain ⟨x3, hx3, h⟩ := Z1 h
 refine Rg <| Cl [] (Zrw _ hx3) e73 rfl <| Ct rfl (Zm 4 rfl rfl Z0v) ?_
 rintro _ ⟨g4, rfl⟩
 refine Zh Zz 4 rfl <| Nl <| AW.seq <| SR <| Md rfl <| Ac (Z0j rfl rfl Zc1 (vt rfl)) rfl <| Mk rfl <| Nl <| AW.block <| AW.loopG (d := []) (ν := (List Oxm) × Nat × (Vector Tern 24)) (fun n => Sfx l1 n.2.1 n.1 ∧ Z6i n.1 n.2.1 n.2.2 = some r) (fun n => n.1.length) (fun n => [(2, Z7 g2 (Lens.id (Z2 24 Z3))), (3, Z7 g4 (Lens.id (Z2 24 Z3))), (7, rd (Z4 Z1v) l1), (8, rd (Z0 .i64) (l1.length : Int)), (9, rd (Z0 .i64) (n.2.1 : Int))]) (fun n => [(3, Z9 g2 87 (Z2 24 Z3) (Vector.replicate 24 zTern)), (4, Z9 g4 87 (Z2 24 Z3) n.2.2)]) (l1, 0, x3) ⟨Sfx.start _, h⟩ ⟨rfl, ⟨rfl, rfl, rfl, rfl, rfl, trivial⟩, ⟨rfl, rfl, trivial⟩⟩ ?_
 rintro ⟨l8, i7, b6⟩ ⟨hsf1, h⟩
 change Sfx l1 i7 l8 at hsf1
 change Z6i l8 i7 b6 = some r at h
 change AW _ _ _ ⟨Zw [(2, Z7 g2 (Lens.id (Z2 24 Z3))), (3, Z7 g4 (Lens.id (Z2 24 Z3))), (7, rd (Z4 Z1v) l1), (8, rd (Z0 .i64) (l1.length : Int)), (9, rd (Z0 .i64) (i7 : Int))], Zx [(3, Z9 g2 87 (Z2 24 Z3) (Vector.replicate 24 zTern)), (4, Z9 g4 87 (Z2 24 Z3) b6)], _⟩
 cases l8 with
 | nil =>
  unfold Z6i at h
  refine SR <| Ac (Zl rfl rfl (vt rfl) (vt rfl)) rfl <| Nl <| AW.seq <| Cn rfl (fun hc => absurd (of_decide_eq_true hc) hsf1.nil) (fun hc => ?_)
  refine AW.exit <| SR <| Ld Zz 4 rfl <| Zh Zz 3 rfl <| Nl <| AW.ret ?_
  obtain rfl := si h
  exact Zg Tryz.results229 rfl (Z04 rfl (i := 3) rfl Zz)
 | cons x9 l8 =>
  unfold Z6i at h
  generalize hgo1 : Z6i l8 = go1 at h
  refine SR <| Ac (Zl rfl rfl (vt rfl) (vt rfl)) rfl <| Nl <| AW.seq <| Cn rfl (fun hc => ?_) (fun hc => absurd hsf1.cons (of_decide_eq_false hc))
  have hlti7 := of_decide_eq_true hc
  refine AW.skip <| AW.seq <| AW.block <| SR <| Ac (Z0l rfl rfl Zc1 (vt rfl) (vt rfl) hsf1.lget) rfl <| Lp1 Zcn rfl <| Ct rfl (Zm 6 rfl rfl Y0e) ?_
  rintro _ ⟨g10, rfl⟩
  refine Zh Zcn 6 rfl <| Nl <| AW.seq ?_
  obtain ⟨x11, hx11, h⟩ := Z1 h
  refine Rg <| Zp Z46 Z4m rfl <| Ld Zv 6 rfl <| Cl [14] (Zll _ _ hx11) Zmz rfl <| Nl <| Cn rfl (fun hc => ?_) (fun hc => ?_)
  ·have h := Ze hc h
   obtain ⟨x12, hx12, h⟩ := Z1 h
   obtain ⟨j13, hj13, h⟩ := Z1 h
   refine AW.regionAny [⟨[5], [16], [], []⟩, ⟨[16], [17], [6], []⟩, ⟨[5], [18], [6], []⟩, ⟨[18], [19], [], []⟩, ⟨[3, 17], [20], [], []⟩, ⟨[20, 19], [], [4], [4]⟩] Z06 (by kernel_rfl) <| SFd Z46 Z4m rfl <| Zq Zv 6 rfl <| Zq Zcn 6 rfl <| SCl [18] (Zt6 _ _ hx12) Zyz rfl <| Sc (lo [3, 17] [] rfl fun S hs hr => Z15 rfl rfl Z20 (vh hs 3 rfl rfl) (vh hs 17 rfl rfl) hj13) rfl <| SSt Z00 4 rfl <| Rg <| Ac (Z1t (t := 8) rfl rfl (vt rfl) (vk rfl) (vt rfl) hlti7) rfl <| Md rfl <| Nl ?_
   subst hgo1
   exact ⟨(l8, i7 + 1, (Vector.set b6 j13.1 x12 j13.2)), Nat.lt_succ_self _, ⟨hsf1.next, h⟩, ⟨rfl, ⟨rfl, rfl, rfl, rfl, rfl, trivial⟩, ⟨rfl, rfl, trivial⟩⟩⟩
  ·have h := Zf hc h
   refine AW.skip <| Rg <| Ac (Z1t (t := 8) rfl rfl (vt rfl) (vk rfl) (vt rfl) hlti7) rfl <| Md rfl <| Nl ?_
   subst hgo1
   exact ⟨(l8, i7 + 1, b6), Nat.lt_succ_self _, ⟨hsf1.next, h⟩, ⟨rfl, ⟨rfl, rfl, rfl, rfl, rfl, trivial⟩, ⟨rfl, rfl, trivial⟩⟩⟩
end Go.Proofs.YtknpgojdkobgjaaGreat.W
set_option maxRecDepth 4000
namespace Go.Proofs.YtknpgojdkobgjaaGreat.W
open Go Go.Wb
theorem Zk9 : Ent Tryz.prog 177 := Ent.mk Tryz.func177 rfl rfl
theorem Z84 : Ent Tryz.prog 127 := Ent.mk Tryz.func127 rfl rfl
theorem Y5c : Ent Tryz.prog 197 := Ent.mk Tryz.func197 rfl rfl
theorem Zy7 : Ent Tryz.prog 196 := Ent.mk Tryz.func196 rfl rfl
theorem Y9j : Ent Tryz.prog 229 := Ent.mk Tryz.func229 rfl rfl
theorem Zn8 : Ent Tryz.prog 126 := Ent.mk Tryz.func126 rfl rfl
theorem Ybb : Ent Tryz.prog 237 := Ent.mk Tryz.func237 rfl rfl
def Zb5 (a1 : Wide) (b2 : Wide) : Option Wide :=
 some (⟨(a1.Hi &&& b2.Hi), (a1.Lo &&& b2.Lo)⟩ : Wide)
theorem Zl1 (a1 : Wide) (b2 : Wide) (r : Wide) (h : Zb5 a1 b2 = some r) : PCon Tryz.prog 177 [rd Zn a1, rd Zn b2] (rd Zn r) := by
 refine PCon.of (Con.intro0 Tryz.func177 rfl Tryz.ntmps177 rfl fun w H => ?_)
 unfold Zb5 at h
 refine SR <| Ct rfl (Zo 3 rfl rfl (vt rfl)) ?_
 rintro _ ⟨g3, rfl⟩
 refine Ct rfl (Zo 4 rfl rfl (vt rfl)) ?_
 rintro _ ⟨g4, rfl⟩
 refine Ct rfl (Zm 5 rfl rfl Z1n) ?_
 rintro _ ⟨g5, rfl⟩
 refine Nl <| SR <| Zp Z22 Z3h rfl <| Ld Z18 3 rfl <| Zp Z22 Z3h rfl <| Ld Z18 4 rfl <| Ac (Z91 rfl rfl (vt rfl) (vt rfl)) rfl <| Zp Z21 Z3i rfl <| Ld Z18 3 rfl <| Zp Z21 Z3i rfl <| Ld Z18 4 rfl <| Ac (Z91 rfl rfl (vt rfl) (vt rfl)) rfl <| Ac (Z01 (ps := [(0, .tmp 9), (1, .tmp 14)]) (x := (⟨(a1.Hi &&& b2.Hi), (a1.Lo &&& b2.Lo)⟩ : Wide)) rfl rfl rfl (by kernel_rfl) Z1n ⟨_, _, Z22, _, by kernel_rfl, (vt rfl), _, _, Z21, _, by kernel_rfl, (vt rfl), rfl⟩) rfl <| Zh Zt 5 rfl <| Nl <| AW.ret ?_
 obtain rfl := si h
 exact Zg Tryz.results177 rfl (Z04 rfl (i := 5) rfl Zt)
def Z5f (t1 : Tern) : Option Tern :=
 (Zb5 t1.Value t1.Mask).bind fun x4 => some (⟨x4, t1.Mask⟩ : Tern)
theorem Z93 (t1 : Tern) (r : Tern) (h : Z5f t1 = some r) : PCon Tryz.prog 127 [rd Z3 t1] (rd Z3 r) := by
 refine PCon.of (Con.intro0 Tryz.func127 rfl Tryz.ntmps127 rfl fun w H => ?_)
 unfold Z5f at h
 refine SR <| Ct rfl (Zo 2 rfl rfl (vt rfl)) ?_
 rintro _ ⟨g2, rfl⟩
 refine Ct rfl (Zm 3 rfl rfl Z16) ?_
 rintro _ ⟨g3, rfl⟩
 refine Nl <| AW.seq ?_
 obtain ⟨x4, hx4, h⟩ := Z1 h
 refine AW.regionAny [⟨[1], [3], [], []⟩, ⟨[3], [4], [2], []⟩, ⟨[1], [5], [], []⟩, ⟨[5], [6], [2], []⟩, ⟨[4, 6], [7], [], []⟩, ⟨[1], [8], [], []⟩, ⟨[8], [9], [2], []⟩, ⟨[7, 9], [10], [], []⟩, ⟨[2, 10], [], [3], [3]⟩] Z06 (by kernel_rfl) <| SFd Z1a Z2f rfl <| Zq Zt 2 rfl <| SFd Z0z Z1y rfl <| Zq Zt 2 rfl <| SCl [4, 6] (Zl1 _ _ _ hx4) Zk9 rfl <| SFd Z0z Z1y rfl <| Zq Zt 2 rfl <| Sc (lo [7, 9] [] rfl fun S hs hr => Z01 (ps := [(0, .tmp 7), (1, .tmp 9)]) (x := (⟨x4, t1.Mask⟩ : Tern)) rfl rfl rfl (by kernel_rfl) Z16 ⟨_, _, Z1a, _, by kernel_rfl, (vh hs 7 rfl rfl), _, _, Z0z, _, by kernel_rfl, (vh hs 9 rfl rfl), rfl⟩) rfl <| SSt Z00 3 rfl <| AW.ret ?_
 obtain rfl := si h
 exact Zg Tryz.results127 rfl (Z04 rfl (i := 3) rfl Z00)
def Zeo (i1 : Int) (cp2 : (Vector Tern 24)) : Option (Tern × Bool) :=
 (chk 24 i1).bind fun j4 => (Z5f (Vector.get cp2 j4)).bind fun x5 => some (x5, true)
theorem Yew (i1 : Int) (cp2 : (Vector Tern 24)) (r : (Tern × Bool)) (h : Zeo i1 cp2 = some r) : PCon Tryz.prog 197 [rd (Z0 .i64) i1, rp (Z2 24 Z3) cp2] (Z1e (rd Z3 r.1) (rd Z8 r.2)) := by
 refine PCon.of (Con.intro0 Tryz.func197 rfl Tryz.ntmps197 rfl fun w H => ?_)
 unfold Zeo at h
 refine SR <| Ct rfl (Zm 4 rfl rfl Z16) ?_
 rintro _ ⟨g3, rfl⟩
 refine Ab rfl <| Nl <| AW.seq ?_
 obtain ⟨j4, hj4, h⟩ := Z1 h
 obtain ⟨x5, hx5, h⟩ := Z1 h
 refine Rg <| Md rfl <| Ac (Z5w rfl rfl Z20 (vt rfl) (vt rfl) hj4) rfl <| Lp1 Z00 rfl <| Cl [7] (Z93 _ _ hx5) Z84 rfl <| Zh Z00 4 rfl <| Ab rfl <| Nl <| AW.ret ?_
 obtain rfl := si h
 exact Z23 Tryz.results197 rfl (Z04 rfl (i := 4) rfl Z00) (Z6 rfl)
def Z4z (f1 : (Int → Option (Tern × Bool))) : Nat → Nat → (Vector Tern 24) → Option ((Vector Tern 24) × Bool)
 | 0, i6, b5 => some (b5, true)
 | m7 + 1, i6, b5 => (f1 (i6 : Int)).bind fun x8 => (bif (!x8.2) then some ((Vector.replicate 24 zTern), false) else (chk 24 (i6 : Int)).bind fun j10 => (Z4z f1 m7) (i6 + 1) (Vector.set b5 j10.1 x8.1 j10.2))
def Zbf (f1 : (Int → Option (Tern × Bool))) : Option ((Vector Tern 24) × Bool) :=
 Z4z f1 (24 : Int).toNat 0 (Vector.replicate 24 zTern)
theorem Zul (f1 : (Int → Option (Tern × Bool))) (r : ((Vector Tern 24) × Bool)) (h : Zbf f1 = some r) : PCon Tryz.prog 196 [fa1 Tryz.prog (Z0 .i64) (fun (y : (Tern × Bool)) => Z1e (rd Z3 y.1) (rd Z8 y.2)) f1] (Z1e (rd (Z2 24 Z3) r.1) (rd Z8 r.2)) := by
 refine PCon.of (Con.intro0 Tryz.func196 rfl Tryz.ntmps196 rfl fun w H => ?_)
 unfold Zbf at h
 refine SR <| Ct rfl (Zm 3 rfl rfl Z0v) ?_
 rintro _ ⟨g2, rfl⟩
 refine Ab rfl <| Nl <| SR <| Ct rfl (Zm 5 rfl rfl Z0v) ?_
 rintro _ ⟨g3, rfl⟩
 refine Nl <| AW.seq <| SR <| Mk rfl <| Nl <| AW.block <| AW.loopG (d := []) (ν := Nat × Nat × (Vector Tern 24)) (fun n => Cnt 24 n.2.1 n.1 ∧ Z4z f1 n.1 n.2.1 n.2.2 = some r) (fun n => n.1) (fun n => [(0, fa1 Tryz.prog (Z0 .i64) (fun (y : (Tern × Bool)) => Z1e (rd Z3 y.1) (rd Z8 y.2)) f1), (2, Z7 g2 (Lens.id (Z2 24 Z3))), (4, Z7 g3 (Lens.id (Z2 24 Z3))), (8, rd (Z0 .i64) (n.2.1 : Int))]) (fun n => [(3, Z9 g2 87 (Z2 24 Z3) (Vector.replicate 24 zTern)), (5, Z9 g3 87 (Z2 24 Z3) n.2.2)]) ((24 : Int).toNat, 0, (Vector.replicate 24 zTern)) ⟨Cnt.start _, h⟩ ⟨rfl, ⟨rfl, rfl, rfl, rfl, trivial⟩, ⟨rfl, rfl, trivial⟩⟩ ?_
 rintro ⟨m7, i6, b5⟩ ⟨hsf1, h⟩
 change Cnt 24 i6 m7 at hsf1
 change Z4z f1 m7 i6 b5 = some r at h
 change AW _ _ _ ⟨Zw [(0, fa1 Tryz.prog (Z0 .i64) (fun (y : (Tern × Bool)) => Z1e (rd Z3 y.1) (rd Z8 y.2)) f1), (2, Z7 g2 (Lens.id (Z2 24 Z3))), (4, Z7 g3 (Lens.id (Z2 24 Z3))), (8, rd (Z0 .i64) (i6 : Int))], Zx [(3, Z9 g2 87 (Z2 24 Z3) (Vector.replicate 24 zTern)), (5, Z9 g3 87 (Z2 24 Z3) b5)], _⟩
 cases m7 with
 | zero =>
  unfold Z4z at h
  refine SR <| Ac (Zl rfl rfl (vt rfl) (vk rfl)) rfl <| Nl <| AW.seq <| Cn rfl (fun hc => absurd (of_decide_eq_true hc) hsf1.zero) (fun hc => ?_)
  refine AW.exit <| SR <| Ld Zz 5 rfl <| Zh Zz 3 rfl <| Ab rfl <| Nl <| AW.ret ?_
  obtain rfl := si h
  exact Z23 Tryz.results196 rfl (Z04 rfl (i := 3) rfl Zz) (Z6 rfl)
 | succ m7 =>
  unfold Z4z at h
  generalize hgo1 : Z4z f1 m7 = go1 at h
  refine SR <| Ac (Zl rfl rfl (vt rfl) (vk rfl)) rfl <| Nl <| AW.seq <| Cn rfl (fun hc => ?_) (fun hc => absurd hsf1.succ (of_decide_eq_false hc))
  have hlti6 := of_decide_eq_true hc
  refine AW.skip <| AW.seq <| AW.block <| SR <| Md rfl <| As rfl <| Nl <| AW.seq ?_
  obtain ⟨x8, hx8, h⟩ := Z1 h
  refine Rg <| Ac (Zs (A := fa1 Tryz.prog (Z0 .i64) (fun (y : (Tern × Bool)) => Z1e (rd Z3 y.1) (rd Z8 y.2)) f1) rfl rfl (vt rfl)) rfl <| Md rfl <| Ac (Yey (B := (fun (y : (Tern × Bool)) => Z1e (rd Z3 y.1) (rd Z8 y.2))) hx8 rfl rfl (vt rfl) (vt rfl)) rfl <| Mt2 rfl <| Ac (Z1p rfl rfl (vt rfl)) rfl <| Ac (Z1q rfl rfl (vt rfl)) rfl <| Ct rfl (Zm 7 rfl rfl Z16) ?_
  rintro _ ⟨g9, rfl⟩
  refine Zh Z00 7 rfl <| As rfl <| Nl <| AW.seq <| SR <| Md rfl <| Ac (Z13 rfl rfl (vt rfl)) rfl <| Nl <| Cn rfl (fun hc => ?_) (fun hc => ?_)
  ·have h := Ze hc h
   refine SR <| Ac (Z01 (ps := []) (x := (Vector.replicate 24 zTern)) rfl rfl rfl (by kernel_rfl) Z0v rfl) rfl <| Zh Zz 3 rfl <| Ab rfl <| Nl <| AW.ret ?_
   obtain rfl := si h
   exact Z23 Tryz.results196 rfl (Z04 rfl (i := 3) rfl Zz) (Z6 rfl)
  ·have h := Zf hc h
   refine AW.skip ?_
   obtain ⟨j10, hj10, h⟩ := Z1 h
   refine Rg <| Md rfl <| Ld Z00 7 rfl <| Ac (Z15 rfl rfl Z20 (vt rfl) (vt rfl) hj10) rfl <| Zh Z00 5 rfl <| Nl <| Rg <| Ac (Z7g rfl rfl (vt rfl) (vk rfl) rfl hlti6) rfl <| Md rfl <| Nl ?_
   subst hgo1
   exact ⟨(m7, i6 + 1, (Vector.set b5 j10.1 x8.1 j10.2)), Nat.lt_succ_self _, ⟨hsf1.next, h⟩, ⟨rfl, ⟨rfl, rfl, rfl, rfl, trivial⟩, ⟨rfl, rfl, trivial⟩⟩⟩
def Z9y (cu1 : (Vector Tern 24)) : Option (Vector Tern 24) :=
 (Zbf (fun x => Zeo x cu1)).bind fun x4 => some x4.1
theorem Zl7 (cu1 : (Vector Tern 24)) (r : (Vector Tern 24)) (h : Z9y cu1 = some r) : PCon Tryz.prog 126 [rd (Z2 24 Z3) cu1] (rd (Z2 24 Z3) r) := by
 refine PCon.of (Con.intro0 Tryz.func126 rfl Tryz.ntmps126 rfl fun w H => ?_)
 unfold Z9y at h
 refine SR <| Ct rfl (Zo 2 rfl rfl (vt rfl)) ?_
 rintro _ ⟨g2, rfl⟩
 refine Ct rfl (Zm 3 rfl rfl Z0v) ?_
 rintro _ ⟨g3, rfl⟩
 refine Nl <| AW.seq <| AW.freezeB 1 2 rfl rfl rfl ?_
 obtain ⟨x4, hx4, h⟩ := Z1 h
 refine Rg <| Ac (Zyh (fs := []) (FAs := []) (cs := [.tmp 1]) (CAs := [rp (Z2 24 Z3) cu1]) (kx := (Z0 .i64)) (B := (fun (y : (Tern × Bool)) => Z1e (rd Z3 y.1) (rd Z8 y.2))) (fun x => Zeo x cu1) rfl rfl Y5c trivial ⟨vt rfl, trivial⟩ (fun x y h => Yew _ _ y h)) rfl <| Cl [6] (Zul _ _ hx4) Zy7 rfl <| Mt2 rfl <| Ac (Z1p rfl rfl (vt rfl)) rfl <| Ac (Z1q rfl rfl (vt rfl)) rfl <| Ct rfl (Zm 4 rfl rfl Z0v) ?_
 rintro _ ⟨g5, rfl⟩
 refine Zh Zz 4 rfl <| As rfl <| Nl <| SR <| Ld Zz 4 rfl <| Zh Zz 3 rfl <| Nl <| AW.ret ?_
 obtain rfl := si h
 exact Zg Tryz.results126 rfl (Z04 rfl (i := 3) rfl Zz)
def Zis (f1 : Flow) : Option (Vector Tern 24) :=
 (Zlb f1.Match).bind fun x4 => (Z9y x4).bind fun x5 => some x5
theorem Yco (f1 : Flow) (r : (Vector Tern 24)) (h : Zis f1 = some r) : PCon Tryz.prog 157 [rd Z0d f1] (rd (Z2 24 Z3) r) := by
 refine PCon.of (Con.intro0 Tryz.func157 rfl Tryz.ntmps157 rfl fun w H => ?_)
 unfold Zis at h
 refine SR <| Ct rfl (Zo 2 rfl rfl (vt rfl)) ?_
 rintro _ ⟨g2, rfl⟩
 refine Ct rfl (Zm 3 rfl rfl Z0v) ?_
 rintro _ ⟨g3, rfl⟩
 refine Nl <| AW.seq ?_
 obtain ⟨x4, hx4, h⟩ := Z1 h
 obtain ⟨x5, hx5, h⟩ := Z1 h
 refine Rg <| Zp Zm4 Zp5 rfl <| Ld Zod 2 rfl <| Cl [4] (Y0y _ _ hx4) Y9j rfl <| Cl [5] (Zl7 _ _ hx5) Zn8 rfl <| Zh Zz 3 rfl <| Nl <| AW.ret ?_
 obtain rfl := si h
 exact Zg Tryz.results157 rfl (Z04 rfl (i := 3) rfl Zz)
def Zoy (a1 : Wide) (b2 : Wide) : Option Wide :=
 some (⟨(a1.Hi ^^^ b2.Hi), (a1.Lo ^^^ b2.Lo)⟩ : Wide)
theorem Y2o (a1 : Wide) (b2 : Wide) (r : Wide) (h : Zoy a1 b2 = some r) : PCon Tryz.prog 237 [rd Zn a1, rd Zn b2] (rd Zn r) := by
 refine PCon.of (Con.intro0 Tryz.func237 rfl Tryz.ntmps237 rfl fun w H => ?_)
 unfold Zoy at h
 refine SR <| Ct rfl (Zo 3 rfl rfl (vt rfl)) ?_
 rintro _ ⟨g3, rfl⟩
 refine Ct rfl (Zo 4 rfl rfl (vt rfl)) ?_
 rintro _ ⟨g4, rfl⟩
 refine Ct rfl (Zm 5 rfl rfl Z1n) ?_
 rintro _ ⟨g5, rfl⟩
 refine Nl <| SR <| Zp Z22 Z3h rfl <| Ld Z18 3 rfl <| Zp Z22 Z3h rfl <| Ld Z18 4 rfl <| Ac (Zm6 rfl rfl (vt rfl) (vt rfl)) rfl <| Zp Z21 Z3i rfl <| Ld Z18 3 rfl <| Zp Z21 Z3i rfl <| Ld Z18 4 rfl <| Ac (Zm6 rfl rfl (vt rfl) (vt rfl)) rfl <| Ac (Z01 (ps := [(0, .tmp 9), (1, .tmp 14)]) (x := (⟨(a1.Hi ^^^ b2.Hi), (a1.Lo ^^^ b2.Lo)⟩ : Wide)) rfl rfl rfl (by kernel_rfl) Z1n ⟨_, _, Z22, _, by kernel_rfl, (vt rfl), _, _, Z21, _, by kernel_rfl, (vt rfl), rfl⟩) rfl <| Zh Zt 5 rfl <| Nl <| AW.ret ?_
 obtain rfl := si h
 exact Zg Tryz.results237 rfl (Z04 rfl (i := 5) rfl Zt)
def Zpr (a1 : Wide) (b2 : Wide) (mask3 : Wide) : Option Wide :=
 (Zoy a1 b2).bind fun x8 => (Zb5 x8 mask3).bind fun x9 => some x9
theorem Y26 (a1 : Wide) (b2 : Wide) (mask3 : Wide) (r : Wide) (h : Zpr a1 b2 mask3 = some r) : PCon Tryz.prog 174 [rd Zn a1, rd Zn b2, rd Zn mask3] (rd Zn r) := by
 refine PCon.of (Con.intro0 Tryz.func174 rfl Tryz.ntmps174 rfl fun w H => ?_)
 unfold Zpr at h
 refine SR <| Ct rfl (Zo 4 rfl rfl (vt rfl)) ?_
 rintro _ ⟨g4, rfl⟩
 refine Ct rfl (Zo 5 rfl rfl (vt rfl)) ?_
 rintro _ ⟨g5, rfl⟩
 refine Ct rfl (Zo 6 rfl rfl (vt rfl)) ?_
 rintro _ ⟨g6, rfl⟩
 refine Ct rfl (Zm 7 rfl rfl Z1n) ?_
 rintro _ ⟨g7, rfl⟩
 refine Nl <| AW.seq ?_
 obtain ⟨x8, hx8, h⟩ := Z1 h
 obtain ⟨x9, hx9, h⟩ := Z1 h
 refine AW.regionAny [⟨[3], [7], [4], []⟩, ⟨[4], [8], [5], []⟩, ⟨[7, 8], [9], [], []⟩, ⟨[5], [10], [6], []⟩, ⟨[9, 10], [11], [], []⟩, ⟨[6, 11], [], [7], [7]⟩] Z06 (by kernel_rfl) <| Zq Zt 4 rfl <| Zq Zt 5 rfl <| SCl [7, 8] (Y2o _ _ _ hx8) Ybb rfl <| Zq Zt 6 rfl <| SCl [9, 10] (Zl1 _ _ _ hx9) Zk9 rfl <| SSt Zt 7 rfl <| AW.ret ?_
 obtain rfl := si h
 exact Zg Tryz.results174 rfl (Z04 rfl (i := 7) rfl Zt)
def Zep (a1 : Wide) : Option Bool :=
 some (decide ((a1.Hi ||| a1.Lo) = (0 : BitVec 64)))
theorem Znn (a1 : Wide) (r : Bool) (h : Zep a1 = some r) : PCon Tryz.prog 173 [rd Zn a1] (rd Z8 r) := by
 refine PCon.of (Con.intro0 Tryz.func173 rfl Tryz.ntmps173 rfl fun w H => ?_)
 unfold Zep at h
 refine SR <| Ct rfl (Zo 2 rfl rfl (vt rfl)) ?_
 rintro _ ⟨g2, rfl⟩
 refine Ab rfl <| Nl <| SR <| Zp Z22 Z3h rfl <| Ld Z18 2 rfl <| Zp Z21 Z3i rfl <| Ld Z18 2 rfl <| Ac (Zjz rfl rfl (vt rfl) (vt rfl)) rfl <| Ac (Zpf rfl rfl (vt rfl) (vku (0 : BitVec 64) rfl)) rfl <| As rfl <| Nl <| AW.ret ?_
 obtain rfl := si h
 exact Zg Tryz.results173 rfl (Z6 rfl)
end Go.Proofs.YtknpgojdkobgjaaGreat.W
set_option maxRecDepth 4000
namespace Go.Proofs.YtknpgojdkobgjaaGreat.W
open Go Go.Wb
theorem Ya2 : Ent Tryz.prog 174 := Ent.mk Tryz.func174 rfl rfl
theorem Zre : Ent Tryz.prog 173 := Ent.mk Tryz.func173 rfl rfl
theorem Zu9 : Ent Tryz.prog 106 := Ent.mk Tryz.func106 rfl rfl
theorem Zes : Ent Tryz.prog 175 := Ent.mk Tryz.func175 rfl rfl
theorem Zi7 : Ent Tryz.prog 176 := Ent.mk Tryz.func176 rfl rfl
theorem Y77 : Ent Tryz.prog 261 := Ent.mk Tryz.func261 rfl rfl
theorem Y5i : Ent Tryz.prog 260 := Ent.mk Tryz.func260 rfl rfl
theorem Zy1 : Ent Tryz.prog 259 := Ent.mk Tryz.func259 rfl rfl
theorem Y43 : Ent Tryz.prog 262 := Ent.mk Tryz.func262 rfl rfl
def Zik (t1 : Tern) (v2 : Wide) : Option Bool :=
 (Zpr t1.Value v2 t1.Mask).bind fun x5 => (Zep x5).bind fun x6 => some x6
theorem Ztj (t1 : Tern) (v2 : Wide) (r : Bool) (h : Zik t1 v2 = some r) : PCon Tryz.prog 106 [rd Z3 t1, rd Zn v2] (rd Z8 r) := by
 refine PCon.of (Con.intro0 Tryz.func106 rfl Tryz.ntmps106 rfl fun w H => ?_)
 unfold Zik at h
 refine SR <| Ct rfl (Zo 3 rfl rfl (vt rfl)) ?_
 rintro _ ⟨g3, rfl⟩
 refine Ct rfl (Zo 4 rfl rfl (vt rfl)) ?_
 rintro _ ⟨g4, rfl⟩
 refine Ab rfl <| Nl <| AW.seq ?_
 obtain ⟨x5, hx5, h⟩ := Z1 h
 obtain ⟨x6, hx6, h⟩ := Z1 h
 refine Rg <| Zp Z1a Z2f rfl <| Ld Zt 3 rfl <| Ld Zt 4 rfl <| Zp Z0z Z1y rfl <| Ld Zt 3 rfl <| Cl [6, 7, 9] (Y26 _ _ _ _ hx5) Ya2 rfl <| Cl [10] (Znn _ _ hx6) Zre rfl <| As rfl <| Nl <| AW.ret ?_
 obtain rfl := si h
 exact Zg Tryz.results106 rfl (Z6 rfl)
def Z7s (a1 : Wide) (b2 : Wide) : Option Wide :=
 some (⟨(a1.Hi ||| b2.Hi), (a1.Lo ||| b2.Lo)⟩ : Wide)
theorem Zdn (a1 : Wide) (b2 : Wide) (r : Wide) (h : Z7s a1 b2 = some r) : PCon Tryz.prog 175 [rd Zn a1, rd Zn b2] (rd Zn r) := by
 refine PCon.of (Con.intro0 Tryz.func175 rfl Tryz.ntmps175 rfl fun w H => ?_)
 unfold Z7s at h
 refine SR <| Ct rfl (Zo 3 rfl rfl (vt rfl)) ?_
 rintro _ ⟨g3, rfl⟩
 refine Ct rfl (Zo 4 rfl rfl (vt rfl)) ?_
 rintro _ ⟨g4, rfl⟩
 refine Ct rfl (Zm 5 rfl rfl Z1n) ?_
 rintro _ ⟨g5, rfl⟩
 refine Nl <| SR <| Zp Z22 Z3h rfl <| Ld Z18 3 rfl <| Zp Z22 Z3h rfl <| Ld Z18 4 rfl <| Ac (Zjz rfl rfl (vt rfl) (vt rfl)) rfl <| Zp Z21 Z3i rfl <| Ld Z18 3 rfl <| Zp Z21 Z3i rfl <| Ld Z18 4 rfl <| Ac (Zjz rfl rfl (vt rfl) (vt rfl)) rfl <| Ac (Z01 (ps := [(0, .tmp 9), (1, .tmp 14)]) (x := (⟨(a1.Hi ||| b2.Hi), (a1.Lo ||| b2.Lo)⟩ : Wide)) rfl rfl rfl (by kernel_rfl) Z1n ⟨_, _, Z22, _, by kernel_rfl, (vt rfl), _, _, Z21, _, by kernel_rfl, (vt rfl), rfl⟩) rfl <| Zh Zt 5 rfl <| Nl <| AW.ret ?_
 obtain rfl := si h
 exact Zg Tryz.results175 rfl (Z04 rfl (i := 5) rfl Zt)
def Zd3 (a1 : Tern) (b2 : Tern) : Option (Tern × Bool) :=
 (Zb5 a1.Mask b2.Mask).bind fun x6 => (Zik (⟨a1.Value, x6⟩ : Tern) b2.Value).bind fun x7 => (bif (!x7) then some ((⟨Z05, Z05⟩ : Tern), false) else (Z5f a1).bind fun x8 => (Z5f b2).bind fun x9 => (Z7s x8.Value x9.Value).bind fun x10 => (Z7s x8.Mask x9.Mask).bind fun x11 => some ((⟨x10, x11⟩ : Tern), true))
theorem Zvd (a1 : Tern) (b2 : Tern) (r : (Tern × Bool)) (h : Zd3 a1 b2 = some r) : PCon Tryz.prog 259 [rd Z3 a1, rd Z3 b2] (Z1e (rd Z3 r.1) (rd Z8 r.2)) := by
 refine PCon.of (Con.intro0 Tryz.func259 rfl Tryz.ntmps259 rfl fun w H => ?_)
 unfold Zd3 at h
 refine SR <| Ct rfl (Zo 3 rfl rfl (vt rfl)) ?_
 rintro _ ⟨g3, rfl⟩
 refine Ct rfl (Zo 4 rfl rfl (vt rfl)) ?_
 rintro _ ⟨g4, rfl⟩
 refine Ct rfl (Zm 5 rfl rfl Z16) ?_
 rintro _ ⟨g5, rfl⟩
 refine Ab rfl <| Nl <| AW.seq <| AW.seq ?_
 obtain ⟨x6, hx6, h⟩ := Z1 h
 obtain ⟨x7, hx7, h⟩ := Z1 h
 refine AW.regionAny [⟨[2], [6], [], []⟩, ⟨[6], [7], [3], []⟩, ⟨[2], [8], [], []⟩, ⟨[8], [9], [3], []⟩, ⟨[3], [10], [], []⟩, ⟨[10], [11], [4], []⟩, ⟨[9, 11], [12], [], []⟩, ⟨[7, 12], [13], [], []⟩, ⟨[3], [14], [], []⟩, ⟨[14], [15], [4], []⟩, ⟨[13, 15], [16], [], []⟩, ⟨[16], [17], [], []⟩] Z06 (by kernel_rfl) <| SFd Z1a Z2f rfl <| Zq Zt 3 rfl <| SFd Z0z Z1y rfl <| Zq Zt 3 rfl <| SFd Z0z Z1y rfl <| Zq Zt 4 rfl <| SCl [9, 11] (Zl1 _ _ _ hx6) Zk9 rfl <| Sc (lo [7, 12] [] rfl fun S hs hr => Z01 (ps := [(0, .tmp 7), (1, .tmp 12)]) (x := (⟨a1.Value, x6⟩ : Tern)) rfl rfl rfl (by kernel_rfl) Z16 ⟨_, _, Z1a, _, by kernel_rfl, (vh hs 7 rfl rfl), _, _, Z0z, _, by kernel_rfl, (vh hs 12 rfl rfl), rfl⟩) rfl <| SFd Z1a Z2f rfl <| Zq Zt 4 rfl <| SCl [13, 15] (Ztj _ _ _ hx7) Zu9 rfl <| Sc (lo [16] [] rfl fun S hs hr => Z13 rfl rfl (vh hs 16 rfl rfl)) rfl <| Cn rfl (fun hc => ?_) (fun hc => ?_)
 ·have h := Ze hc h
  refine SR <| Ac (Z01 (ps := []) (x := (⟨Z05, Z05⟩ : Tern)) rfl rfl rfl (by kernel_rfl) Z16 rfl) rfl <| Zh Z00 5 rfl <| Ab rfl <| Nl <| AW.ret ?_
  obtain rfl := si h
  exact Z23 Tryz.results259 rfl (Z04 rfl (i := 5) rfl Z00) (Z6 rfl)
 ·have h := Zf hc h
  refine AW.skip <| AW.seq ?_
  obtain ⟨x8, hx8, h⟩ := Z1 h
  obtain ⟨x9, hx9, h⟩ := Z1 h
  refine AW.regionAny [⟨[2], [19], [3], []⟩, ⟨[19], [20], [], []⟩, ⟨[3], [21], [4], []⟩, ⟨[21], [22], [], []⟩, ⟨[2, 20], [], [3], [3]⟩, ⟨[3, 22], [], [4], [4]⟩] Z06 (by kernel_rfl) <| Zq Z00 3 rfl <| SCl [19] (Z93 _ _ hx8) Z84 rfl <| Zq Z00 4 rfl <| SCl [21] (Z93 _ _ hx9) Z84 rfl <| SSt Z00 3 rfl <| SSt Z00 4 rfl <| AW.seq ?_
  obtain ⟨x10, hx10, h⟩ := Z1 h
  obtain ⟨x11, hx11, h⟩ := Z1 h
  refine AW.regionAny [⟨[2], [23], [], []⟩, ⟨[23], [24], [3], []⟩, ⟨[3], [25], [], []⟩, ⟨[25], [26], [4], []⟩, ⟨[24, 26], [27], [], []⟩, ⟨[2], [28], [], []⟩, ⟨[28], [29], [3], []⟩, ⟨[3], [30], [], []⟩, ⟨[30], [31], [4], []⟩, ⟨[29, 31], [32], [], []⟩, ⟨[27, 32], [33], [], []⟩, ⟨[4, 33], [], [5], [5]⟩, ⟨[], [5], [], []⟩] Z06 (by kernel_rfl) <| SFd Z1a Z2f rfl <| Zq Zt 3 rfl <| SFd Z1a Z2f rfl <| Zq Zt 4 rfl <| SCl [24, 26] (Zdn _ _ _ hx10) Zes rfl <| SFd Z0z Z1y rfl <| Zq Zt 3 rfl <| SFd Z0z Z1y rfl <| Zq Zt 4 rfl <| SCl [29, 31] (Zdn _ _ _ hx11) Zes rfl <| Sc (lo [27, 32] [] rfl fun S hs hr => Z01 (ps := [(0, .tmp 27), (1, .tmp 32)]) (x := (⟨x10, x11⟩ : Tern)) rfl rfl rfl (by kernel_rfl) Z16 ⟨_, _, Z1a, _, by kernel_rfl, (vh hs 27 rfl rfl), _, _, Z0z, _, by kernel_rfl, (vh hs 32 rfl rfl), rfl⟩) rfl <| SSt Z00 5 rfl <| Sc (lo [] [] rfl fun S hs hr => Z07 (A := rd Z8 true) rfl rfl vb) rfl <| AW.ret ?_
  obtain rfl := si h
  exact Z23 Tryz.results259 rfl (Z04 rfl (i := 5) rfl Z00) (Z6 rfl)
def Za5 (a1 : Wide) (b2 : Wide) : Option Wide :=
 some (⟨(a1.Hi &&& ~~~b2.Hi), (a1.Lo &&& ~~~b2.Lo)⟩ : Wide)
theorem Zji (a1 : Wide) (b2 : Wide) (r : Wide) (h : Za5 a1 b2 = some r) : PCon Tryz.prog 176 [rd Zn a1, rd Zn b2] (rd Zn r) := by
 refine PCon.of (Con.intro0 Tryz.func176 rfl Tryz.ntmps176 rfl fun w H => ?_)
 unfold Za5 at h
 refine SR <| Ct rfl (Zo 3 rfl rfl (vt rfl)) ?_
 rintro _ ⟨g3, rfl⟩
 refine Ct rfl (Zo 4 rfl rfl (vt rfl)) ?_
 rintro _ ⟨g4, rfl⟩
 refine Ct rfl (Zm 5 rfl rfl Z1n) ?_
 rintro _ ⟨g5, rfl⟩
 refine Nl <| SR <| Zp Z22 Z3h rfl <| Ld Z18 3 rfl <| Zp Z22 Z3h rfl <| Ld Z18 4 rfl <| Ac (Zma rfl rfl (vt rfl) (vt rfl)) rfl <| Zp Z21 Z3i rfl <| Ld Z18 3 rfl <| Zp Z21 Z3i rfl <| Ld Z18 4 rfl <| Ac (Zma rfl rfl (vt rfl) (vt rfl)) rfl <| Ac (Z01 (ps := [(0, .tmp 9), (1, .tmp 14)]) (x := (⟨(a1.Hi &&& ~~~b2.Hi), (a1.Lo &&& ~~~b2.Lo)⟩ : Wide)) rfl rfl rfl (by kernel_rfl) Z1n ⟨_, _, Z22, _, by kernel_rfl, (vt rfl), _, _, Z21, _, by kernel_rfl, (vt rfl), rfl⟩) rfl <| Zh Zt 5 rfl <| Nl <| AW.ret ?_
 obtain rfl := si h
 exact Zg Tryz.results176 rfl (Z04 rfl (i := 5) rfl Zt)
def Zh6 (i1 : Int) (cp2 : (Vector Tern 24)) (cp3 : (Vector Tern 24)) : Option Tern :=
 (chk 24 i1).bind fun j5 => (chk 24 i1).bind fun j6 => (chk 24 i1).bind fun j7 => (Za5 ((Vector.get cp2 j6).Mask) ((Vector.get cp3 j7).Mask)).bind fun x8 => (Z5f (⟨(Vector.get cp2 j5).Value, x8⟩ : Tern)).bind fun x9 => some x9
theorem Y8l (i1 : Int) (cp2 : (Vector Tern 24)) (cp3 : (Vector Tern 24)) (r : Tern) (h : Zh6 i1 cp2 cp3 = some r) : PCon Tryz.prog 261 [rd (Z0 .i64) i1, rp (Z2 24 Z3) cp2, rp (Z2 24 Z3) cp3] (rd Z3 r) := by
 refine PCon.of (Con.intro0 Tryz.func261 rfl Tryz.ntmps261 rfl fun w H => ?_)
 unfold Zh6 at h
 refine SR <| Ct rfl (Zm 5 rfl rfl Z16) ?_
 rintro _ ⟨g4, rfl⟩
 refine Nl <| AW.seq ?_
 obtain ⟨j5, hj5, h⟩ := Z1 h
 obtain ⟨j6, hj6, h⟩ := Z1 h
 obtain ⟨j7, hj7, h⟩ := Z1 h
 obtain ⟨x8, hx8, h⟩ := Z1 h
 obtain ⟨x9, hx9, h⟩ := Z1 h
 refine AW.regionAny [⟨[0], [5], [], []⟩, ⟨[1, 5], [6], [], []⟩, ⟨[6], [7], [], []⟩, ⟨[7], [8], [], []⟩, ⟨[0], [9], [], []⟩, ⟨[1, 9], [10], [], []⟩, ⟨[10], [11], [], []⟩, ⟨[11], [12], [], []⟩, ⟨[0], [13], [], []⟩, ⟨[2, 13], [14], [], []⟩, ⟨[14], [15], [], []⟩, ⟨[15], [16], [], []⟩, ⟨[12, 16], [17], [], []⟩, ⟨[8, 17], [18], [], []⟩, ⟨[18], [19], [], []⟩, ⟨[4, 19], [], [5], [5]⟩] Z06 (by kernel_rfl) <| Zu rfl <| Sc (lo [1, 5] [] rfl fun S hs hr => Z5w rfl rfl Z20 (vh hs 1 rfl rfl) (vh hs 5 rfl rfl) hj5) rfl <| SFp Z1a Z2f rfl <| SLp Zt rfl <| Zu rfl <| Sc (lo [1, 9] [] rfl fun S hs hr => Z5w rfl rfl Z20 (vh hs 1 rfl rfl) (vh hs 9 rfl rfl) hj6) rfl <| SFp Z0z Z1y rfl <| SLp Zt rfl <| Zu rfl <| Sc (lo [2, 13] [] rfl fun S hs hr => Z5w rfl rfl Z3c (vh hs 2 rfl rfl) (vh hs 13 rfl rfl) hj7) rfl <| SFp Z0z Z1y rfl <| SLp Zt rfl <| SCl [12, 16] (Zji _ _ _ hx8) Zi7 rfl <| Sc (lo [8, 17] [] rfl fun S hs hr => Z01 (ps := [(0, .tmp 8), (1, .tmp 17)]) (x := (⟨(Vector.get cp2 j5).Value, x8⟩ : Tern)) rfl rfl rfl (by kernel_rfl) Z16 ⟨_, _, Z1a, _, by kernel_rfl, (vh hs 8 rfl rfl), _, _, Z0z, _, by kernel_rfl, (vh hs 17 rfl rfl), rfl⟩) rfl <| SCl [18] (Z93 _ _ hx9) Z84 rfl <| SSt Z00 5 rfl <| AW.ret ?_
 obtain rfl := si h
 exact Zg Tryz.results261 rfl (Z04 rfl (i := 5) rfl Z00)
def Z5v (f1 : (Int → Option Tern)) : Nat → Nat → (Vector Tern 24) → Option (Vector Tern 24)
 | 0, i6, b5 => some b5
 | m7 + 1, i6, b5 => (f1 (i6 : Int)).bind fun x8 => (chk 24 (i6 : Int)).bind fun j9 => (Z5v f1 m7) (i6 + 1) (Vector.set b5 j9.1 x8 j9.2)
def Zh7 (f1 : (Int → Option Tern)) : Option (Vector Tern 24) :=
 Z5v f1 (24 : Int).toNat 0 (Vector.replicate 24 zTern)
theorem Y5q (f1 : (Int → Option Tern)) (r : (Vector Tern 24)) (h : Zh7 f1 = some r) : PCon Tryz.prog 260 [fn1 Tryz.prog (Z0 .i64) Z3 f1] (rd (Z2 24 Z3) r) := by
 refine PCon.of (Con.intro0 Tryz.func260 rfl Tryz.ntmps260 rfl fun w H => ?_)
 unfold Zh7 at h
 refine SR <| Ct rfl (Zm 3 rfl rfl Z0v) ?_
 rintro _ ⟨g2, rfl⟩
 refine Nl <| SR <| Ct rfl (Zm 4 rfl rfl Z0v) ?_
 rintro _ ⟨g3, rfl⟩
 refine Nl <| AW.seq <| SR <| Mk rfl <| Nl <| AW.block <| AW.loopG (d := []) (ν := Nat × Nat × (Vector Tern 24)) (fun n => Cnt 24 n.2.1 n.1 ∧ Z5v f1 n.1 n.2.1 n.2.2 = some r) (fun n => n.1) (fun n => [(0, fn1 Tryz.prog (Z0 .i64) Z3 f1), (2, Z7 g2 (Lens.id (Z2 24 Z3))), (3, Z7 g3 (Lens.id (Z2 24 Z3))), (5, rd (Z0 .i64) (n.2.1 : Int))]) (fun n => [(3, Z9 g2 87 (Z2 24 Z3) (Vector.replicate 24 zTern)), (4, Z9 g3 87 (Z2 24 Z3) n.2.2)]) ((24 : Int).toNat, 0, (Vector.replicate 24 zTern)) ⟨Cnt.start _, h⟩ ⟨rfl, ⟨rfl, rfl, rfl, rfl, trivial⟩, ⟨rfl, rfl, trivial⟩⟩ ?_
 rintro ⟨m7, i6, b5⟩ ⟨hsf1, h⟩
 change Cnt 24 i6 m7 at hsf1
 change Z5v f1 m7 i6 b5 = some r at h
 change AW _ _ _ ⟨Zw [(0, fn1 Tryz.prog (Z0 .i64) Z3 f1), (2, Z7 g2 (Lens.id (Z2 24 Z3))), (3, Z7 g3 (Lens.id (Z2 24 Z3))), (5, rd (Z0 .i64) (i6 : Int))], Zx [(3, Z9 g2 87 (Z2 24 Z3) (Vector.replicate 24 zTern)), (4, Z9 g3 87 (Z2 24 Z3) b5)], _⟩
 cases m7 with
 | zero =>
  unfold Z5v at h
  refine SR <| Ac (Zl rfl rfl (vt rfl) (vk rfl)) rfl <| Nl <| AW.seq <| Cn rfl (fun hc => absurd (of_decide_eq_true hc) hsf1.zero) (fun hc => ?_)
  refine AW.exit <| SR <| Ld Zz 4 rfl <| Zh Zz 3 rfl <| Nl <| AW.ret ?_
  obtain rfl := si h
  exact Zg Tryz.results260 rfl (Z04 rfl (i := 3) rfl Zz)
 | succ m7 =>
  unfold Z5v at h
  generalize hgo1 : Z5v f1 m7 = go1 at h
  refine SR <| Ac (Zl rfl rfl (vt rfl) (vk rfl)) rfl <| Nl <| AW.seq <| Cn rfl (fun hc => ?_) (fun hc => absurd hsf1.succ (of_decide_eq_false hc))
  have hlti6 := of_decide_eq_true hc
  refine AW.skip <| AW.seq <| AW.block <| SR <| Md rfl <| As rfl <| Nl ?_
  obtain ⟨x8, hx8, h⟩ := Z1 h
  obtain ⟨j9, hj9, h⟩ := Z1 h
  refine Rg <| Md rfl <| Ac (Zs (A := fn1 Tryz.prog (Z0 .i64) Z3 f1) rfl rfl (vt rfl)) rfl <| Md rfl <| Ac (Za2 hx8 rfl rfl (vt rfl) (vt rfl)) rfl <| Ac (Z15 rfl rfl Z20 (vt rfl) (vt rfl) hj9) rfl <| Zh Z00 4 rfl <| Nl <| Rg <| Ac (Z7g rfl rfl (vt rfl) (vk rfl) rfl hlti6) rfl <| Md rfl <| Nl ?_
  subst hgo1
  exact ⟨(m7, i6 + 1, (Vector.set b5 j9.1 x8 j9.2)), Nat.lt_succ_self _, ⟨hsf1.next, h⟩, ⟨rfl, ⟨rfl, rfl, rfl, rfl, trivial⟩, ⟨rfl, rfl, trivial⟩⟩⟩
def Z7i (cu2 : (Vector Tern 24)) (r1 : (Vector Tern 24)) : (List Tern) → Nat → Option ((Vector Tern 24) × Bool)
 | [], i6 => (Zh7 (fun x => Zh6 x cu2 r1)).bind fun x8 => some (x8, true)
 | x9 :: l7, i6 => (chk 24 (i6 : Int)).bind fun j11 => (Zd3 x9 (Vector.get cu2 j11)).bind fun x12 => (bif (!x12.2) then some ((Vector.replicate 24 zTern), false) else (Z7i cu2 r1 l7) (i6 + 1))
def Zil (r1 : (Vector Tern 24)) (cu2 : (Vector Tern 24)) : Option ((Vector Tern 24) × Bool) :=
 Z7i cu2 r1 (Vector.toList r1) 0
theorem Ye2 (r1 : (Vector Tern 24)) (cu2 : (Vector Tern 24)) (r : ((Vector Tern 24) × Bool)) (h : Zil r1 cu2 = some r) : PCon Tryz.prog 202 [rd (Z2 24 Z3) r1, rd (Z2 24 Z3) cu2] (Z1e (rd (Z2 24 Z3) r.1) (rd Z8 r.2)) := by
 refine PCon.of (Con.intro0 Tryz.func202 rfl Tryz.ntmps202 rfl fun w H => ?_)
 unfold Zil at h
 refine SR <| Ct rfl (Zo 3 rfl rfl (vt rfl)) ?_
 rintro _ ⟨g3, rfl⟩
 refine Ct rfl (Zo 4 rfl rfl (vt rfl)) ?_
 rintro _ ⟨g4, rfl⟩
 refine Ct rfl (Zm 5 rfl rfl Z0v) ?_
 rintro _ ⟨g5, rfl⟩
 refine Ab rfl <| Nl <| AW.seq <| SR <| Ld Z02 3 rfl <| Mk rfl <| Nl <| AW.block <| AW.loopG (d := []) (ν := (List Tern) × Nat) (fun n => Sfx (Vector.toList r1) n.2 n.1 ∧ Z7i cu2 r1 n.1 n.2 = some r) (fun n => n.1.length) (fun n => [(2, Z7 g3 (Lens.id (Z2 24 Z3))), (3, Z7 g4 (Lens.id (Z2 24 Z3))), (4, Z7 g5 (Lens.id (Z2 24 Z3))), (10, rd (Z2 24 Z3) r1), (11, rd (Z0 .i64) (n.2 : Int))]) (fun n => [(3, Z9 g3 101 (Z2 24 Z3) r1), (4, Z9 g4 87 (Z2 24 Z3) cu2), (5, Z9 g5 87 (Z2 24 Z3) (Vector.replicate 24 zTern))]) ((Vector.toList r1), 0) ⟨Sfx.start _, h⟩ ⟨rfl, ⟨rfl, rfl, rfl, rfl, rfl, trivial⟩, ⟨rfl, rfl, rfl, trivial⟩⟩ ?_
 rintro ⟨l7, i6⟩ ⟨hsf1, h⟩
 change Sfx (Vector.toList r1) i6 l7 at hsf1
 change Z7i cu2 r1 l7 i6 = some r at h
 change AW _ _ _ ⟨Zw [(2, Z7 g3 (Lens.id (Z2 24 Z3))), (3, Z7 g4 (Lens.id (Z2 24 Z3))), (4, Z7 g5 (Lens.id (Z2 24 Z3))), (10, rd (Z2 24 Z3) r1), (11, rd (Z0 .i64) (i6 : Int))], Zx [(3, Z9 g3 101 (Z2 24 Z3) r1), (4, Z9 g4 87 (Z2 24 Z3) cu2), (5, Z9 g5 87 (Z2 24 Z3) (Vector.replicate 24 zTern))], _⟩
 cases l7 with
 | nil =>
  unfold Z7i at h
  refine SR <| Ac (Zl rfl rfl (vt rfl) (vk rfl)) rfl <| Nl <| AW.seq <| Cn rfl (fun hc => absurd (of_decide_eq_true hc) (hsf1.niln (by simp))) (fun hc => ?_)
  refine AW.exit <| AW.seq <| AW.freezeB 3 4 rfl rfl rfl <| AW.freezeB 2 3 rfl rfl rfl ?_
  obtain ⟨x8, hx8, h⟩ := Z1 h
  refine Rg <| Ac (Z9w (cs := [.tmp 3, .tmp 2]) (CAs := [rp (Z2 24 Z3) cu2, rp (Z2 24 Z3) r1]) (fun x => Zh6 x cu2 r1) rfl rfl Y77 ⟨vt rfl, vt rfl, trivial⟩ (fun x y h => Y8l _ _ _ y h)) rfl <| Cl [27] (Y5q _ _ hx8) Y5i rfl <| Zh Zz 5 rfl <| Ab rfl <| Nl <| AW.ret ?_
  obtain rfl := si h
  exact Z23 Tryz.results202 rfl (Z04 rfl (i := 5) rfl Zz) (Z6 rfl)
 | cons x9 l7 =>
  unfold Z7i at h
  generalize hgo1 : Z7i cu2 r1 l7 = go1 at h
  refine SR <| Ac (Zl rfl rfl (vt rfl) (vk rfl)) rfl <| Nl <| AW.seq <| Cn rfl (fun hc => ?_) (fun hc => absurd (hsf1.consn (by simp)) (of_decide_eq_false hc))
  have hlti6 := of_decide_eq_true hc
  refine AW.skip <| AW.seq <| AW.block <| SR <| Md rfl <| Ac (Zcj rfl rfl Z3c Z00 (vt rfl) (vt rfl) hsf1.lget) rfl <| Ct rfl (Zm 8 rfl rfl Z16) ?_
  rintro _ ⟨g10, rfl⟩
  refine As rfl <| Zh Z00 8 rfl <| Nl <| AW.seq ?_
  obtain ⟨j11, hj11, h⟩ := Z1 h
  obtain ⟨x12, hx12, h⟩ := Z1 h
  refine AW.regionAny [⟨[7], [16], [8], []⟩, ⟨[6], [17], [], []⟩, ⟨[3, 17], [18], [], []⟩, ⟨[18], [19], [4], []⟩, ⟨[16, 19], [20], [], []⟩, ⟨[20], [15], [], []⟩, ⟨[15], [21], [], []⟩, ⟨[15], [22], [], []⟩, ⟨[], [8], [], []⟩, ⟨[8, 21], [8], [], []⟩, ⟨[22], [9], [], []⟩] Z06 (by kernel_rfl) <| Zq Z00 8 rfl <| Zu rfl <| Sc (lo [3, 17] [] rfl fun S hs hr => Z15 rfl rfl Z20 (vh hs 3 rfl rfl) (vh hs 17 rfl rfl) hj11) rfl <| Zq Z00 4 rfl <| SCl [16, 19] (Zvd _ _ _ hx12) Zy1 rfl <| Sc (lo [20] [] rfl fun S hs hr => Zs (A := Z1e (rd Z3 x12.1) (rd Z8 x12.2)) rfl rfl (vh hs 20 rfl rfl)) rfl <| Sc (lo [15] [] rfl fun S hs hr => Z1p rfl rfl (vh hs 15 rfl rfl)) rfl <| Sc (lo [15] [] rfl fun S hs hr => Z1q rfl rfl (vh hs 15 rfl rfl)) rfl <| Sc (Z1b (us := [(8, Z25 85 Z3 zTern)]) (ur := []) [] [] rfl fun S hs hr => Z5r rfl rfl rfl Z16) rfl <| Sc (Z1b (us := [(8, Z25 85 Z3 x12.1)]) (ur := []) [8, 21] [] rfl fun S hs hr => Z5n rfl rfl Z00 ((hs 8 rfl).trans rfl) (vh hs 21 rfl rfl)) rfl <| SAs rfl <| AW.unpackP 8 9 rfl rfl fun g13 => SR <| Md rfl <| Ac (Z13 rfl rfl (vt rfl)) rfl <| Nl <| Cn rfl (fun hc => ?_) (fun hc => ?_)
  ·have h := Ze hc h
   refine SR <| Ac (Z01 (ps := []) (x := (Vector.replicate 24 zTern)) rfl rfl rfl (by kernel_rfl) Z0v rfl) rfl <| Zh Zz 5 rfl <| Ab rfl <| Nl <| AW.ret ?_
   obtain rfl := si h
   exact Z23 Tryz.results202 rfl (Z04 rfl (i := 5) rfl Zz) (Z6 rfl)
  ·have h := Zf hc h
   refine AW.skip <| Rg <| Ac (Z7g rfl rfl (vt rfl) (vk rfl) rfl hlti6) rfl <| Md rfl <| Nl ?_
   subst hgo1
   exact ⟨(l7, i6 + 1), Nat.lt_succ_self _, ⟨hsf1.next, h⟩, ⟨rfl, ⟨rfl, rfl, rfl, rfl, rfl, trivial⟩, ⟨rfl, rfl, rfl, trivial⟩⟩⟩
def Zj2 (i1 : Int) (cp2 : (Vector Tern 24)) (cp3 : (Vector Tern 24)) : Option (Tern × Bool) :=
 (chk 24 i1).bind fun j5 => (chk 24 i1).bind fun j6 => (Zd3 (Vector.get cp2 j5) (Vector.get cp3 j6)).bind fun x7 => some (x7.1, x7.2)
theorem Y7i (i1 : Int) (cp2 : (Vector Tern 24)) (cp3 : (Vector Tern 24)) (r : (Tern × Bool)) (h : Zj2 i1 cp2 cp3 = some r) : PCon Tryz.prog 262 [rd (Z0 .i64) i1, rp (Z2 24 Z3) cp2, rp (Z2 24 Z3) cp3] (Z1e (rd Z3 r.1) (rd Z8 r.2)) := by
 refine PCon.of (Con.intro0 Tryz.func262 rfl Tryz.ntmps262 rfl fun w H => ?_)
 unfold Zj2 at h
 refine SR <| Ct rfl (Zm 5 rfl rfl Z16) ?_
 rintro _ ⟨g4, rfl⟩
 refine Ab rfl <| Nl <| AW.seq ?_
 obtain ⟨j5, hj5, h⟩ := Z1 h
 obtain ⟨j6, hj6, h⟩ := Z1 h
 obtain ⟨x7, hx7, h⟩ := Z1 h
 refine AW.regionAny [⟨[0], [6], [], []⟩, ⟨[1, 6], [7], [], []⟩, ⟨[7], [8], [], []⟩, ⟨[0], [9], [], []⟩, ⟨[2, 9], [10], [], []⟩, ⟨[10], [11], [], []⟩, ⟨[8, 11], [12], [], []⟩, ⟨[12], [13], [], []⟩, ⟨[12], [14], [], []⟩, ⟨[4, 13], [], [5], [5]⟩, ⟨[14], [5], [], []⟩] Z06 (by kernel_rfl) <| Zu rfl <| Sc (lo [1, 6] [] rfl fun S hs hr => Z5w rfl rfl Z20 (vh hs 1 rfl rfl) (vh hs 6 rfl rfl) hj5) rfl <| SLp Z00 rfl <| Zu rfl <| Sc (lo [2, 9] [] rfl fun S hs hr => Z5w rfl rfl Z20 (vh hs 2 rfl rfl) (vh hs 9 rfl rfl) hj6) rfl <| SLp Z00 rfl <| SCl [8, 11] (Zvd _ _ _ hx7) Zy1 rfl <| Sc (lo [12] [] rfl fun S hs hr => Z1p rfl rfl (vh hs 12 rfl rfl)) rfl <| Sc (lo [12] [] rfl fun S hs hr => Z1q rfl rfl (vh hs 12 rfl rfl)) rfl <| SSt Z00 5 rfl <| SAs rfl <| AW.ret ?_
 obtain rfl := si h
 exact Z23 Tryz.results262 rfl (Z04 rfl (i := 5) rfl Z00) (Z6 rfl)
def Z8i (a1 : (Vector Tern 24)) (b2 : (Vector Tern 24)) : Option ((Vector Tern 24) × Bool) :=
 (Zbf (fun x => Zj2 x a1 b2)).bind fun x6 => some (x6.1, x6.2)
theorem Zkf (a1 : (Vector Tern 24)) (b2 : (Vector Tern 24)) (r : ((Vector Tern 24) × Bool)) (h : Z8i a1 b2 = some r) : PCon Tryz.prog 203 [rd (Z2 24 Z3) a1, rd (Z2 24 Z3) b2] (Z1e (rd (Z2 24 Z3) r.1) (rd Z8 r.2)) := by
 refine PCon.of (Con.intro0 Tryz.func203 rfl Tryz.ntmps203 rfl fun w H => ?_)
 unfold Z8i at h
 refine SR <| Ct rfl (Zo 3 rfl rfl (vt rfl)) ?_
 rintro _ ⟨g3, rfl⟩
 refine Ct rfl (Zo 4 rfl rfl (vt rfl)) ?_
 rintro _ ⟨g4, rfl⟩
 refine Ct rfl (Zm 5 rfl rfl Z0v) ?_
 rintro _ ⟨g5, rfl⟩
 refine Ab rfl <| Nl <| AW.seq <| AW.freezeB 2 3 rfl rfl rfl <| AW.freezeB 3 4 rfl rfl rfl ?_
 obtain ⟨x6, hx6, h⟩ := Z1 h
 refine Rg <| Ac (Zyh (fs := []) (FAs := []) (cs := [.tmp 2, .tmp 3]) (CAs := [rp (Z2 24 Z3) a1, rp (Z2 24 Z3) b2]) (kx := (Z0 .i64)) (B := (fun (y : (Tern × Bool)) => Z1e (rd Z3 y.1) (rd Z8 y.2))) (fun x => Zj2 x a1 b2) rfl rfl Y43 trivial ⟨vt rfl, vt rfl, trivial⟩ (fun x y h => Y7i _ _ _ y h)) rfl <| Cl [6] (Zul _ _ hx6) Zy7 rfl <| Ac (Z1p rfl rfl (vt rfl)) rfl <| Ac (Z1q rfl rfl (vt rfl)) rfl <| Zh Zz 5 rfl <| As rfl <| Nl <| AW.ret ?_
 obtain rfl := si h
 exact Z23 Tryz.results203 rfl (Z04 rfl (i := 5) rfl Zz) (Z6 rfl)
end Go.Proofs.YtknpgojdkobgjaaGreat.W
set_option maxRecDepth 4000
namespace Go.Proofs.YtknpgojdkobgjaaGreat.W
open Go Go.Wb
theorem Y3w : Ent Tryz.prog 157 := Ent.mk Tryz.func157 rfl rfl
theorem Y64 : Ent Tryz.prog 202 := Ent.mk Tryz.func202 rfl rfl
theorem Zk4 : Ent Tryz.prog 203 := Ent.mk Tryz.func203 rfl rfl
theorem Yaj : Ent Tryz.prog 264 := Ent.mk Tryz.func264 rfl rfl
theorem Zz9 : Ent Tryz.prog 263 := Ent.mk Tryz.func263 rfl rfl
theorem Zmq : Ent Tryz.prog 216 := Ent.mk Tryz.func216 rfl rfl
theorem Yah : Ent Tryz.prog 306 := Ent.mk Tryz.func306 rfl rfl
theorem Zy4 : Ent Tryz.prog 305 := Ent.mk Tryz.func305 rfl rfl
def Zgy (w1 : walk_way) (f2 : Flow) : Option (walk_way × Bool) :=
 (Zis f2).bind fun x6 => (Zil w1.got x6).bind fun x7 => (bif (!x7.2) then some ((⟨(Vector.replicate 24 zTern), (Vector.replicate 24 zTern), [], []⟩ : walk_way), false) else (Z8i x7.1 w1.cube).bind fun x9 => some ({ w1 with cube := x9.1 }, x9.2))
theorem Y3y (w1 : walk_way) (f2 : Flow) (r : (walk_way × Bool)) (h : Zgy w1 f2 = some r) : PCon Tryz.prog 136 [rd Z0p w1, rd Z0d f2] (Z1e (rd Z0p r.1) (rd Z8 r.2)) := by
 refine PCon.of (Con.intro0 Tryz.func136 rfl Tryz.ntmps136 rfl fun w H => ?_)
 unfold Zgy at h
 refine SR <| Ct rfl (Zo 3 rfl rfl (vt rfl)) ?_
 rintro _ ⟨g3, rfl⟩
 refine Ct rfl (Zo 4 rfl rfl (vt rfl)) ?_
 rintro _ ⟨g4, rfl⟩
 refine Ct rfl (Zm 5 rfl rfl Ze1) ?_
 rintro _ ⟨g5, rfl⟩
 refine Ab rfl <| Nl <| AW.seq ?_
 obtain ⟨x6, hx6, h⟩ := Z1 h
 obtain ⟨x7, hx7, h⟩ := Z1 h
 refine AW.regionAny [⟨[2], [9], [], []⟩, ⟨[9], [10], [3], []⟩, ⟨[3], [11], [4], []⟩, ⟨[11], [12], [], []⟩, ⟨[10, 12], [13], [], []⟩, ⟨[13], [8], [], []⟩, ⟨[8], [14], [], []⟩, ⟨[8], [15], [], []⟩, ⟨[], [6], [], []⟩, ⟨[6, 14], [6], [], []⟩, ⟨[15], [7], [], []⟩] Z06 (by kernel_rfl) <| SFd Zbv Zh3 rfl <| Zq Z02 3 rfl <| Zq Z6w 4 rfl <| SCl [11] (Yco _ _ hx6) Y3w rfl <| SCl [10, 12] (Ye2 _ _ _ hx7) Y64 rfl <| Sc (lo [13] [] rfl fun S hs hr => Zs (A := Z1e (rd (Z2 24 Z3) x7.1) (rd Z8 x7.2)) rfl rfl (vh hs 13 rfl rfl)) rfl <| Sc (lo [8] [] rfl fun S hs hr => Z1p rfl rfl (vh hs 8 rfl rfl)) rfl <| Sc (lo [8] [] rfl fun S hs hr => Z1q rfl rfl (vh hs 8 rfl rfl)) rfl <| Sc (Z1b (us := [(6, Z25 87 (Z2 24 Z3) (Vector.replicate 24 zTern))]) (ur := []) [] [] rfl fun S hs hr => Z5r rfl rfl rfl Z0v) rfl <| Sc (Z1b (us := [(6, Z25 87 (Z2 24 Z3) x7.1)]) (ur := []) [6, 14] [] rfl fun S hs hr => Z5n rfl rfl Zz ((hs 6 rfl).trans rfl) (vh hs 14 rfl rfl)) rfl <| SAs rfl <| AW.unpackP 6 7 rfl rfl fun g8 => AW.seq <| SR <| Md rfl <| Ac (Z13 rfl rfl (vt rfl)) rfl <| Nl <| Cn rfl (fun hc => ?_) (fun hc => ?_)
 ·have h := Ze hc h
  refine SR <| Ac (Z01 (ps := []) (x := (⟨(Vector.replicate 24 zTern), (Vector.replicate 24 zTern), [], []⟩ : walk_way)) rfl rfl rfl (by kernel_rfl) Ze1 rfl) rfl <| Zh Z2z 5 rfl <| Ab rfl <| Nl <| AW.ret ?_
  obtain rfl := si h
  exact Z23 Tryz.results136 rfl (Z04 rfl (i := 5) rfl Z2z) (Z6 rfl)
 ·have h := Zf hc h
  refine AW.skip <| AW.seq ?_
  obtain ⟨x9, hx9, h⟩ := Z1 h
  refine Rg <| Ld Zz 7 rfl <| Zp Zjx Znf rfl <| Ld Zz 3 rfl <| Cl [20, 22] (Zkf _ _ _ hx9) Zk4 rfl <| Mt2 rfl <| Ac (Z1p rfl rfl (vt rfl)) rfl <| Ac (Z1q rfl rfl (vt rfl)) rfl <| Zp Zjx Znf rfl <| Zh Zz 3 rfl <| As rfl <| Nl <| SR <| Ld Z2z 3 rfl <| Md rfl <| Zh Z2z 5 rfl <| As rfl <| Nl <| AW.ret ?_
  obtain rfl := si h
  exact Z23 Tryz.results136 rfl (Z04 rfl (i := 5) rfl Z2z) (Z6 rfl)
def Zio (i1 : Inst) (cp2 : Int) : Option Bool :=
 some (decide (i1.Kind = cp2))
theorem Y9y (i1 : Inst) (cp2 : Int) (r : Bool) (h : Zio i1 cp2 = some r) : PCon Tryz.prog 264 [rd Z0u i1, rp (Z0 .i64) cp2] (rd Z8 r) := by
 refine PCon.of (Con.intro0 Tryz.func264 rfl Tryz.ntmps264 rfl fun w H => ?_)
 unfold Zio at h
 refine SR <| Ct rfl (Zo 3 rfl rfl (vt rfl)) ?_
 rintro _ ⟨g3, rfl⟩
 refine Ab rfl <| Nl <| SR <| Zp Zhb Zyq rfl <| Ld Zv 3 rfl <| Lp1 Zv rfl <| Ac (Z0i rfl rfl (vt rfl) (vt rfl)) rfl <| As rfl <| Nl <| AW.ret ?_
 obtain rfl := si h
 exact Zg Tryz.results264 rfl (Z6 rfl)
def Z9e (s1 : (List Inst)) (f2 : (Inst → Option Bool)) : Nat → Nat → Option Int
 | 0, i3 => some (-1)
 | m4 + 1, i3 => (lget s1 (i3 : Int)).bind fun e5 => (f2 e5).bind fun x6 => (bif x6 then some (i3 : Int) else (Z9e s1 f2 m4) (i3 + 1))
def Zd1 (s1 : (List Inst)) (f2 : (Inst → Option Bool)) : Option Int :=
 Z9e s1 f2 ((s1.length : Int) : Int).toNat 0
theorem Zv9 (s1 : (List Inst)) (f2 : (Inst → Option Bool)) (r : Int) (h : Zd1 s1 f2 = some r) : PCon Tryz.prog 263 [rd (Z4 Z0u) s1, fn1 Tryz.prog Z0u Z8 f2] (rd (Z0 .i64) r) := by
 refine PCon.of (Con.intro0 Tryz.func263 rfl Tryz.ntmps263 rfl fun w H => ?_)
 unfold Zd1 at h
 refine SR <| Ak rfl <| Nl <| AW.seq <| SR <| Md rfl <| Ac (Z0j rfl rfl Z7w (vt rfl)) rfl <| Mk rfl <| Nl <| AW.block <| AW.loopG (d := []) (ν := Nat × Nat) (fun n => Cnt (s1.length : Int) n.2 n.1 ∧ Z9e s1 f2 n.1 n.2 = some r) (fun n => n.1) (fun n => [(0, rd (Z4 Z0u) s1), (1, fn1 Tryz.prog Z0u Z8 f2), (7, rd (Z0 .i64) (s1.length : Int)), (8, rd (Z0 .i64) (n.2 : Int))]) (fun n => []) (((s1.length : Int) : Int).toNat, 0) ⟨Cnt.start _, h⟩ ⟨rfl, ⟨rfl, rfl, rfl, rfl, trivial⟩, trivial⟩ ?_
 rintro ⟨m4, i3⟩ ⟨hsf1, h⟩
 change Cnt (s1.length : Int) i3 m4 at hsf1
 change Z9e s1 f2 m4 i3 = some r at h
 change AW _ _ _ ⟨Zw [(0, rd (Z4 Z0u) s1), (1, fn1 Tryz.prog Z0u Z8 f2), (7, rd (Z0 .i64) (s1.length : Int)), (8, rd (Z0 .i64) (i3 : Int))], Zx [], _⟩
 cases m4 with
 | zero =>
  unfold Z9e at h
  refine SR <| Ac (Zl rfl rfl (vt rfl) (vt rfl)) rfl <| Nl <| AW.seq <| Cn rfl (fun hc => absurd (of_decide_eq_true hc) hsf1.zero) (fun hc => ?_)
  refine AW.exit <| SR <| Ak rfl <| Nl <| AW.ret ?_
  obtain rfl := si h
  exact Zg Tryz.results263 rfl (Z6 rfl)
 | succ m4 =>
  unfold Z9e at h
  generalize hgo1 : Z9e s1 f2 m4 = go1 at h
  refine SR <| Ac (Zl rfl rfl (vt rfl) (vt rfl)) rfl <| Nl <| AW.seq <| Cn rfl (fun hc => ?_) (fun hc => absurd hsf1.succ (of_decide_eq_false hc))
  have hlti3 := of_decide_eq_true hc
  refine AW.skip <| AW.seq <| AW.block <| SR <| Md rfl <| As rfl <| Nl <| AW.seq ?_
  obtain ⟨e5, he5, h⟩ := Z1 h
  obtain ⟨x6, hx6, h⟩ := Z1 h
  refine Rg <| Ac (Zs (A := fn1 Tryz.prog Z0u Z8 f2) rfl rfl (vt rfl)) rfl <| Md rfl <| Md rfl <| Ac (Z0l rfl rfl Z7w (vt rfl) (vt rfl) he5) rfl <| Lp1 Z2y rfl <| Ac (Za2 hx6 rfl rfl (vt rfl) (vt rfl)) rfl <| Nl <| Cn rfl (fun hc => ?_) (fun hc => ?_)
  ·have h := Ze hc h
   refine SR <| Md rfl <| As rfl <| Nl <| AW.ret ?_
   obtain rfl := si h
   exact Zg Tryz.results263 rfl (Z6 rfl)
  ·have h := Zf hc h
   refine AW.skip <| Rg <| Ac (Z1t (t := 7) rfl rfl (vt rfl) (vk rfl) (vt rfl) hlti3) rfl <| Md rfl <| Nl ?_
   subst hgo1
   exact ⟨(m4, i3 + 1), Nat.lt_succ_self _, ⟨hsf1.next, h⟩, ⟨rfl, ⟨rfl, rfl, rfl, rfl, trivial⟩, trivial⟩⟩
def Z63 (s : List Action) : Option (List Action) := Z0w [] s
theorem Znz (s : List Action) (r : List Action) (h : Z63 s = some r) : Con Tryz.prog 216 [rd (Z4 Z5) s] emp (fun v => Zc v) (fun v => Za v 121 Z5 r) := by
 refine Con.intro0 Tryz.func216 rfl Tryz.ntmps216 rfl fun w H => ?_
 unfold Z63 at h
 refine AW.newnil 1001 121 Z5 <| SR <| Ac (Z07 (A := Zc (.slice none 0 0)) rfl rfl vc) rfl <| Nl <| AW.seq <| SR <| Md rfl <| Ct rfl (Zjg rfl rfl Z0b (vt rfl)) ?_
 rintro _ ⟨b, hb, rfl⟩
 refine Nl <| Cn rfl (fun hc => ?_) (fun hc => ?_)
 ·obtain rfl := hb hc
  refine SR <| Ac (Z07 (A := Zc (.slice none 0 0)) rfl rfl vc) rfl <| Nl <| AW.ret ?_
  obtain rfl := (Zar h).2
  exact Z4k (i := 1001) Tryz.results216 rfl rfl rfl
 ·refine AW.skip <| SR <| Ct rfl (Z4c 1002 (ps := []) (l := []) rfl rfl Z0b Z3v rfl rfl rfl rfl) ?_
  rintro _ ⟨v1, rfl⟩
  refine Md rfl <| Ct rfl (Z2l 1002 h rfl rfl Z6t (vt rfl) rfl (vt rfl)) ?_
  rintro _ ⟨v2, rfl⟩
  refine Aw rfl <| Nl <| AW.ret ?_
  exact Z4k (i := 1002) Tryz.results216 rfl rfl rfl
theorem Zu2 (s : List Action) (r : List Action) (h : Z63 s = some r) : PCon Tryz.prog 216 [rd (Z4 Z5) s] (rd (Z4 Z5) r) := PCon.of_row (Znz s r h)
def Z8z (l1 : (List Inst)) (kind2 : Int) : Option (Inst × Bool) :=
 (Zd1 l1 (fun x => Zio x kind2)).bind fun x5 => (bif (decide (x5 < 0)) then some ((⟨0, 0, Z05, Z05, []⟩ : Inst), false) else (lget l1 x5).bind fun e6 => (Z63 e6.Acts).bind fun x8 => some ({ e6 with Acts := x8 }, true))
theorem Zjf (l1 : (List Inst)) (kind2 : Int) (r : (Inst × Bool)) (h : Z8z l1 kind2 = some r) : PCon Tryz.prog 204 [rd (Z4 Z0u) l1, rd (Z0 .i64) kind2] (Z1e (rd Z0u r.1) (rd Z8 r.2)) := by
 refine PCon.of (Con.intro0 Tryz.func204 rfl Tryz.ntmps204 rfl fun w H => ?_)
 unfold Z8z at h
 refine SR <| Ct rfl (Zo 4 rfl rfl (vt rfl)) ?_
 rintro _ ⟨g3, rfl⟩
 refine Ct rfl (Zm 5 rfl rfl Z3e) ?_
 rintro _ ⟨g4, rfl⟩
 refine Ab rfl <| Nl <| AW.seq <| AW.freezeB 3 4 rfl rfl rfl ?_
 obtain ⟨x5, hx5, h⟩ := Z1 h
 refine Rg <| Md rfl <| Ac (Z9w (cs := [.tmp 3]) (CAs := [rp (Z0 .i64) kind2]) (fun x => Zio x kind2) rfl rfl Yaj ⟨vt rfl, trivial⟩ (fun x y h => Y9y _ _ y h)) rfl <| Cl [8, 9] (Zv9 _ _ _ hx5) Zz9 rfl <| As rfl <| Nl <| AW.seq <| SR <| Md rfl <| Ac (Zl rfl rfl (vt rfl) (vk rfl)) rfl <| Nl <| Cn rfl (fun hc => ?_) (fun hc => ?_)
 ·have h := Ze hc h
  refine SR <| Ac (Z01 (ps := []) (x := (⟨0, 0, Z05, Z05, []⟩ : Inst)) rfl rfl rfl (by kernel_rfl) Z3e rfl) rfl <| Zh Z2y 5 rfl <| Ab rfl <| Nl <| AW.ret ?_
  obtain rfl := si h
  exact Z23 Tryz.results204 rfl (Z04 rfl (i := 5) rfl Z2y) (Z6 rfl)
 ·have h := Zf hc h
  refine AW.skip <| AW.seq ?_
  obtain ⟨e6, he6, h⟩ := Z1 h
  refine Rg <| Md rfl <| Md rfl <| Ac (Z0l rfl rfl Z7w (vt rfl) (vt rfl) he6) rfl <| Lp1 Z2y rfl <| Ct rfl (Zm 8 rfl rfl Z3e) ?_
  rintro _ ⟨g7, rfl⟩
  refine Zh Z2y 8 rfl <| Nl <| AW.seq ?_
  obtain ⟨x8, hx8, h⟩ := Z1 h
  refine Rg <| Zp Z8l Zbu rfl <| Ld Z4b 8 rfl <| Cl [19] (Zu2 _ _ hx8) Zmq rfl <| Zp Z8l Zbu rfl <| Zh Z4b 8 rfl <| Nl <| SR <| Ld Z2y 8 rfl <| Zh Z2y 5 rfl <| Ab rfl <| Nl <| AW.ret ?_
  obtain rfl := si h
  exact Z23 Tryz.results204 rfl (Z04 rfl (i := 5) rfl Z2y) (Z6 rfl)
def Zej (i1 : Int) (cp2 : (Vector Tern 24)) : Option Tern :=
 (chk 24 i1).bind fun j4 => (Z5f (Vector.get cp2 j4)).bind fun x5 => some x5
theorem Y59 (i1 : Int) (cp2 : (Vector Tern 24)) (r : Tern) (h : Zej i1 cp2 = some r) : PCon Tryz.prog 306 [rd (Z0 .i64) i1, rp (Z2 24 Z3) cp2] (rd Z3 r) := by
 refine PCon.of (Con.intro0 Tryz.func306 rfl Tryz.ntmps306 rfl fun w H => ?_)
 unfold Zej at h
 refine SR <| Ct rfl (Zm 4 rfl rfl Z16) ?_
 rintro _ ⟨g3, rfl⟩
 refine Nl <| AW.seq ?_
 obtain ⟨j4, hj4, h⟩ := Z1 h
 obtain ⟨x5, hx5, h⟩ := Z1 h
 refine Rg <| Md rfl <| Ac (Z5w rfl rfl Z3c (vt rfl) (vt rfl) hj4) rfl <| Lp1 Z00 rfl <| Cl [6] (Z93 _ _ hx5) Z84 rfl <| Zh Z00 4 rfl <| Nl <| AW.ret ?_
 obtain rfl := si h
 exact Zg Tryz.results306 rfl (Z04 rfl (i := 4) rfl Z00)
def Z67 (f1 : (Int → Option Tern)) : Nat → Nat → (Vector Tern 24) → Option (Vector Tern 24)
 | 0, i6, b5 => some b5
 | m7 + 1, i6, b5 => (f1 (i6 : Int)).bind fun x8 => (chk 24 (i6 : Int)).bind fun j9 => (Z67 f1 m7) (i6 + 1) (Vector.set b5 j9.1 x8 j9.2)
def Zed (f1 : (Int → Option Tern)) : Option (Vector Tern 24) :=
 Z67 f1 (24 : Int).toNat 0 (Vector.replicate 24 zTern)
theorem Zx5 (f1 : (Int → Option Tern)) (r : (Vector Tern 24)) (h : Zed f1 = some r) : PCon Tryz.prog 305 [fn1 Tryz.prog (Z0 .i64) Z3 f1] (rd (Z2 24 Z3) r) := by
 refine PCon.of (Con.intro0 Tryz.func305 rfl Tryz.ntmps305 rfl fun w H => ?_)
 unfold Zed at h
 refine SR <| Ct rfl (Zm 3 rfl rfl Z2u) ?_
 rintro _ ⟨g2, rfl⟩
 refine Nl <| SR <| Ct rfl (Zm 4 rfl rfl Z2u) ?_
 rintro _ ⟨g3, rfl⟩
 refine Nl <| AW.seq <| SR <| Mk rfl <| Nl <| AW.block <| AW.loopG (d := []) (ν := Nat × Nat × (Vector Tern 24)) (fun n => Cnt 24 n.2.1 n.1 ∧ Z67 f1 n.1 n.2.1 n.2.2 = some r) (fun n => n.1) (fun n => [(0, fn1 Tryz.prog (Z0 .i64) Z3 f1), (2, Z7 g2 (Lens.id (Z2 24 Z3))), (3, Z7 g3 (Lens.id (Z2 24 Z3))), (5, rd (Z0 .i64) (n.2.1 : Int))]) (fun n => [(3, Z9 g2 101 (Z2 24 Z3) (Vector.replicate 24 zTern)), (4, Z9 g3 101 (Z2 24 Z3) n.2.2)]) ((24 : Int).toNat, 0, (Vector.replicate 24 zTern)) ⟨Cnt.start _, h⟩ ⟨rfl, ⟨rfl, rfl, rfl, rfl, trivial⟩, ⟨rfl, rfl, trivial⟩⟩ ?_
 rintro ⟨m7, i6, b5⟩ ⟨hsf1, h⟩
 change Cnt 24 i6 m7 at hsf1
 change Z67 f1 m7 i6 b5 = some r at h
 change AW _ _ _ ⟨Zw [(0, fn1 Tryz.prog (Z0 .i64) Z3 f1), (2, Z7 g2 (Lens.id (Z2 24 Z3))), (3, Z7 g3 (Lens.id (Z2 24 Z3))), (5, rd (Z0 .i64) (i6 : Int))], Zx [(3, Z9 g2 101 (Z2 24 Z3) (Vector.replicate 24 zTern)), (4, Z9 g3 101 (Z2 24 Z3) b5)], _⟩
 cases m7 with
 | zero =>
  unfold Z67 at h
  refine SR <| Ac (Zl rfl rfl (vt rfl) (vk rfl)) rfl <| Nl <| AW.seq <| Cn rfl (fun hc => absurd (of_decide_eq_true hc) hsf1.zero) (fun hc => ?_)
  refine AW.exit <| SR <| Ld Z02 4 rfl <| Zh Z02 3 rfl <| Nl <| AW.ret ?_
  obtain rfl := si h
  exact Zg Tryz.results305 rfl (Z04 rfl (i := 3) rfl Z02)
 | succ m7 =>
  unfold Z67 at h
  generalize hgo1 : Z67 f1 m7 = go1 at h
  refine SR <| Ac (Zl rfl rfl (vt rfl) (vk rfl)) rfl <| Nl <| AW.seq <| Cn rfl (fun hc => ?_) (fun hc => absurd hsf1.succ (of_decide_eq_false hc))
  have hlti6 := of_decide_eq_true hc
  refine AW.skip <| AW.seq <| AW.block <| SR <| Md rfl <| As rfl <| Nl ?_
  obtain ⟨x8, hx8, h⟩ := Z1 h
  obtain ⟨j9, hj9, h⟩ := Z1 h
  refine Rg <| Md rfl <| Ac (Zs (A := fn1 Tryz.prog (Z0 .i64) Z3 f1) rfl rfl (vt rfl)) rfl <| Md rfl <| Ac (Za2 hx8 rfl rfl (vt rfl) (vt rfl)) rfl <| Ac (Z15 rfl rfl Z3c (vt rfl) (vt rfl) hj9) rfl <| Zh Z00 4 rfl <| Nl <| Rg <| Ac (Z7g rfl rfl (vt rfl) (vk rfl) rfl hlti6) rfl <| Md rfl <| Nl ?_
  subst hgo1
  exact ⟨(m7, i6 + 1, (Vector.set b5 j9.1 x8 j9.2)), Nat.lt_succ_self _, ⟨hsf1.next, h⟩, ⟨rfl, ⟨rfl, rfl, rfl, rfl, trivial⟩, ⟨rfl, rfl, trivial⟩⟩⟩
def Zau (r1 : (Vector Tern 24)) : Option (Vector Tern 24) :=
 (Zed (fun x => Zej x r1)).bind fun x4 => some x4
theorem Zkh (r1 : (Vector Tern 24)) (r : (Vector Tern 24)) (h : Zau r1 = some r) : PCon Tryz.prog 268 [rd (Z2 24 Z3) r1] (rd (Z2 24 Z3) r) := by
 refine PCon.of (Con.intro0 Tryz.func268 rfl Tryz.ntmps268 rfl fun w H => ?_)
 unfold Zau at h
 refine SR <| Ct rfl (Zo 2 rfl rfl (vt rfl)) ?_
 rintro _ ⟨g2, rfl⟩
 refine Ct rfl (Zm 3 rfl rfl Z2u) ?_
 rintro _ ⟨g3, rfl⟩
 refine Nl <| AW.seq <| AW.freezeB 1 2 rfl rfl rfl ?_
 obtain ⟨x4, hx4, h⟩ := Z1 h
 refine Rg <| Ac (Z9w (cs := [.tmp 1]) (CAs := [rp (Z2 24 Z3) r1]) (fun x => Zej x r1) rfl rfl Yah ⟨vt rfl, trivial⟩ (fun x y h => Y59 _ _ y h)) rfl <| Cl [3] (Zx5 _ _ hx4) Zy4 rfl <| Zh Z02 3 rfl <| Nl <| AW.ret ?_
 obtain rfl := si h
 exact Zg Tryz.results268 rfl (Z04 rfl (i := 3) rfl Z02)
def Zi5 (a1 : Tern) (b2 : Tern) : Option Tern :=
 (Z5f a1).bind fun x6 => (Z5f b2).bind fun x7 => (Za5 x6.Value x7.Mask).bind fun x8 => (Z7s x8 x7.Value).bind fun x9 => (Z7s x6.Mask x7.Mask).bind fun x10 => some (⟨x9, x10⟩ : Tern)
theorem Zzj (a1 : Tern) (b2 : Tern) (r : Tern) (h : Zi5 a1 b2 = some r) : PCon Tryz.prog 270 [rd Z3 a1, rd Z3 b2] (rd Z3 r) := by
 refine PCon.of (Con.intro0 Tryz.func270 rfl Tryz.ntmps270 rfl fun w H => ?_)
 unfold Zi5 at h
 refine SR <| Ct rfl (Zo 3 rfl rfl (vt rfl)) ?_
 rintro _ ⟨g3, rfl⟩
 refine Ct rfl (Zo 4 rfl rfl (vt rfl)) ?_
 rintro _ ⟨g4, rfl⟩
 refine Ct rfl (Zm 5 rfl rfl Z16) ?_
 rintro _ ⟨g5, rfl⟩
 refine Nl <| AW.seq ?_
 obtain ⟨x6, hx6, h⟩ := Z1 h
 obtain ⟨x7, hx7, h⟩ := Z1 h
 refine AW.regionAny [⟨[2], [5], [3], []⟩, ⟨[5], [6], [], []⟩, ⟨[3], [7], [4], []⟩, ⟨[7], [8], [], []⟩, ⟨[2, 6], [], [3], [3]⟩, ⟨[3, 8], [], [4], [4]⟩] Z06 (by kernel_rfl) <| Zq Z00 3 rfl <| SCl [5] (Z93 _ _ hx6) Z84 rfl <| Zq Z00 4 rfl <| SCl [7] (Z93 _ _ hx7) Z84 rfl <| SSt Z00 3 rfl <| SSt Z00 4 rfl <| AW.seq ?_
 obtain ⟨x8, hx8, h⟩ := Z1 h
 obtain ⟨x9, hx9, h⟩ := Z1 h
 obtain ⟨x10, hx10, h⟩ := Z1 h
 refine AW.regionAny [⟨[2], [9], [], []⟩, ⟨[9], [10], [3], []⟩, ⟨[3], [11], [], []⟩, ⟨[11], [12], [4], []⟩, ⟨[10, 12], [13], [], []⟩, ⟨[3], [14], [], []⟩, ⟨[14], [15], [4], []⟩, ⟨[13, 15], [16], [], []⟩, ⟨[2], [17], [], []⟩, ⟨[17], [18], [3], []⟩, ⟨[3], [19], [], []⟩, ⟨[19], [20], [4], []⟩, ⟨[18, 20], [21], [], []⟩, ⟨[16, 21], [22], [], []⟩, ⟨[4, 22], [], [5], [5]⟩] Z06 (by kernel_rfl) <| SFd Z1a Z2f rfl <| Zq Zt 3 rfl <| SFd Z0z Z1y rfl <| Zq Zt 4 rfl <| SCl [10, 12] (Zji _ _ _ hx8) Zi7 rfl <| SFd Z1a Z2f rfl <| Zq Zt 4 rfl <| SCl [13, 15] (Zdn _ _ _ hx9) Zes rfl <| SFd Z0z Z1y rfl <| Zq Zt 3 rfl <| SFd Z0z Z1y rfl <| Zq Zt 4 rfl <| SCl [18, 20] (Zdn _ _ _ hx10) Zes rfl <| Sc (lo [16, 21] [] rfl fun S hs hr => Z01 (ps := [(0, .tmp 16), (1, .tmp 21)]) (x := (⟨x9, x10⟩ : Tern)) rfl rfl rfl (by kernel_rfl) Z16 ⟨_, _, Z1a, _, by kernel_rfl, (vh hs 16 rfl rfl), _, _, Z0z, _, by kernel_rfl, (vh hs 21 rfl rfl), rfl⟩) rfl <| SSt Z00 5 rfl <| AW.ret ?_
 obtain rfl := si h
 exact Zg Tryz.results270 rfl (Z04 rfl (i := 5) rfl Z00)
end Go.Proofs.YtknpgojdkobgjaaGreat.W
