/- A part of the proof. -/
import Derived.Test.YtknpgojdkobgjaaGreatL1
import Derived.Test.YtknpgojdkobgjaaGreatProg
import Derived.KernelRfl
set_option linter.unusedVariables false
set_option maxRecDepth 4000
set_option linter.unusedSimpArgs false
namespace Go.Proofs.YtknpgojdkobgjaaGreat.W
open Go Go.Wb
structure Wide where
 Hi : (BitVec 64)
 Lo : (BitVec 64)
 deriving DecidableEq, Inhabited
def Zh : Kd Wide := Z1i (Za Z0q Z0q) (fun x => (x.Hi, x.Lo))
instance : PureK Zh := inferInstanceAs (PureK (Z1i (Za Z0q Z0q) (fun (x : Wide) => (x.Hi, x.Lo))))
def Z28 : Lens Zh Z0q := Lens.iso (k := (Za Z0q Z0q)) (Lens.fst _ _) Wide.Hi (fun x y => { x with Hi := y }) (fun _ => rfl) (fun _ _ => rfl)
def Z1y : Lens Zh Z0q := Lens.iso (k := (Za Z0q Z0q)) (Lens.snd _ _) Wide.Lo (fun x y => { x with Lo := y }) (fun _ => rfl) (fun _ _ => rfl)
def Z0a : Wide := ⟨0, 0⟩
def Z85 : List Value := ([.int .u64 0] ++ [.int .u64 0])
theorem Z77 : KZ Zh Z0a Z85 := Z3a (Z13 Znj Znj)
structure Tern where
 Value : Wide
 Mask : Wide
 deriving DecidableEq, Inhabited
def Z3 : Kd Tern := Z1i (Za Zh Zh) (fun x => (x.Value, x.Mask))
instance : PureK Z3 := inferInstanceAs (PureK (Z1i (Za Zh Zh) (fun (x : Tern) => (x.Value, x.Mask))))
def Z1c : Lens Z3 Zh := Lens.iso (k := (Za Zh Zh)) (Lens.fst _ _) Tern.Value (fun x y => { x with Value := y }) (fun _ => rfl) (fun _ _ => rfl)
def Z0v : Lens Z3 Zh := Lens.iso (k := (Za Zh Zh)) (Lens.snd _ _) Tern.Mask (fun x y => { x with Mask := y }) (fun _ => rfl) (fun _ _ => rfl)
def zTern : Tern := ⟨Z0a, Z0a⟩
def Zfc : List Value := (Z85 ++ Z85)
theorem Zas : KZ Z3 zTern Zfc := Z3a (Z13 Z77 Z77)
abbrev Z5 := Vector Tern 24
structure Oxm where
 Field : Int
 Masked : Bool
 Value : Wide
 Mask : Wide
 deriving DecidableEq, Inhabited
def Z23 : Kd Oxm := Z1i (Za (Z0 .i64) (Za Zc (Za Zh Zh))) (fun x => (x.Field, (x.Masked, (x.Value, x.Mask))))
instance : PureK Z23 := inferInstanceAs (PureK (Z1i (Za (Z0 .i64) (Za Zc (Za Zh Zh))) (fun (x : Oxm) => (x.Field, (x.Masked, (x.Value, x.Mask))))))
def Z46 : Lens Z23 (Z0 .i64) := Lens.iso (k := (Za (Z0 .i64) (Za Zc (Za Zh Zh)))) (Lens.fst _ _) Oxm.Field (fun x y => { x with Field := y }) (fun _ => rfl) (fun _ _ => rfl)
def Zsb : Lens Z23 Zc := Lens.iso (k := (Za (Z0 .i64) (Za Zc (Za Zh Zh)))) (Lens.comp (Lens.snd _ _) (Lens.fst _ _)) Oxm.Masked (fun x y => { x with Masked := y }) (fun _ => rfl) (fun _ _ => rfl)
def Zjs : Lens Z23 Zh := Lens.iso (k := (Za (Z0 .i64) (Za Zc (Za Zh Zh)))) (Lens.comp (Lens.comp (Lens.snd _ _) (Lens.snd _ _)) (Lens.fst _ _)) Oxm.Value (fun x y => { x with Value := y }) (fun _ => rfl) (fun _ _ => rfl)
def Zs1 : Lens Z23 Zh := Lens.iso (k := (Za (Z0 .i64) (Za Zc (Za Zh Zh)))) (Lens.comp (Lens.comp (Lens.snd _ _) (Lens.snd _ _)) (Lens.snd _ _)) Oxm.Mask (fun x y => { x with Mask := y }) (fun _ => rfl) (fun _ _ => rfl)
def Z5p : Oxm := ⟨0, false, Z0a, Z0a⟩
def Zw0 : List Value := ([.int .i64 0] ++ ([.bool false] ++ (Z85 ++ Z85)))
theorem Ztl : KZ Z23 Z5p Zw0 := Z3a (Z13 Z2d (Z13 Zhf (Z13 Z77 Z77)))
structure Action where
 Kind : Int
 Port : Int
 Max : Int
 Group : Int
 Ether : Int
 Oxm : Oxm
 deriving DecidableEq, Inhabited
def Z6 : Kd Action := Z1i (Za (Z0 .i64) (Za (Z0 .i64) (Za (Z0 .i64) (Za (Z0 .i64) (Za (Z0 .i64) Z23))))) (fun x => (x.Kind, (x.Port, (x.Max, (x.Group, (x.Ether, x.Oxm))))))
instance : PureK Z6 := inferInstanceAs (PureK (Z1i (Za (Z0 .i64) (Za (Z0 .i64) (Za (Z0 .i64) (Za (Z0 .i64) (Za (Z0 .i64) Z23))))) (fun (x : Action) => (x.Kind, (x.Port, (x.Max, (x.Group, (x.Ether, x.Oxm))))))))
def Z4d : Lens Z6 (Z0 .i64) := Lens.iso (k := (Za (Z0 .i64) (Za (Z0 .i64) (Za (Z0 .i64) (Za (Z0 .i64) (Za (Z0 .i64) Z23)))))) (Lens.fst _ _) Action.Kind (fun x y => { x with Kind := y }) (fun _ => rfl) (fun _ _ => rfl)
def Zf2 : Lens Z6 (Z0 .i64) := Lens.iso (k := (Za (Z0 .i64) (Za (Z0 .i64) (Za (Z0 .i64) (Za (Z0 .i64) (Za (Z0 .i64) Z23)))))) (Lens.comp (Lens.snd _ _) (Lens.fst _ _)) Action.Port (fun x y => { x with Port := y }) (fun _ => rfl) (fun _ _ => rfl)
def Zma : Lens Z6 (Z0 .i64) := Lens.iso (k := (Za (Z0 .i64) (Za (Z0 .i64) (Za (Z0 .i64) (Za (Z0 .i64) (Za (Z0 .i64) Z23)))))) (Lens.comp (Lens.comp (Lens.snd _ _) (Lens.snd _ _)) (Lens.fst _ _)) Action.Max (fun x y => { x with Max := y }) (fun _ => rfl) (fun _ _ => rfl)
def Zm3 : Lens Z6 (Z0 .i64) := Lens.iso (k := (Za (Z0 .i64) (Za (Z0 .i64) (Za (Z0 .i64) (Za (Z0 .i64) (Za (Z0 .i64) Z23)))))) (Lens.comp (Lens.comp (Lens.comp (Lens.snd _ _) (Lens.snd _ _)) (Lens.snd _ _)) (Lens.fst _ _)) Action.Group (fun x y => { x with Group := y }) (fun _ => rfl) (fun _ _ => rfl)
def Z7l : Lens Z6 Z23 := Lens.iso (k := (Za (Z0 .i64) (Za (Z0 .i64) (Za (Z0 .i64) (Za (Z0 .i64) (Za (Z0 .i64) Z23)))))) (Lens.comp (Lens.comp (Lens.comp (Lens.comp (Lens.snd _ _) (Lens.snd _ _)) (Lens.snd _ _)) (Lens.snd _ _)) (Lens.snd _ _)) Action.Oxm (fun x y => { x with Oxm := y }) (fun _ => rfl) (fun _ _ => rfl)
def Zlp : Action := ⟨0, 0, 0, 0, 0, Z5p⟩
def Y27 : List Value := ([.int .i64 0] ++ ([.int .i64 0] ++ ([.int .i64 0] ++ ([.int .i64 0] ++ ([.int .i64 0] ++ Zw0)))))
theorem Yd3 : KZ Z6 Zlp Y27 := Z3a (Z13 Z2d (Z13 Z2d (Z13 Z2d (Z13 Z2d (Z13 Z2d Ztl)))))
structure Inst where
 Kind : Int
 Table : Int
 Value : Wide
 Mask : Wide
 Acts : (List Action)
 deriving DecidableEq, Inhabited
def Z10 : Kd Inst := Z1i (Za (Z0 .i64) (Za (Z0 .i64) (Za Zh (Za Zh (Z4 Z6))))) (fun x => (x.Kind, (x.Table, (x.Value, (x.Mask, x.Acts)))))
def Zoc : Lens Z10 (Z0 .i64) := Lens.iso (k := (Za (Z0 .i64) (Za (Z0 .i64) (Za Zh (Za Zh (Z4 Z6)))))) (Lens.fst _ _) Inst.Kind (fun x y => { x with Kind := y }) (fun _ => rfl) (fun _ _ => rfl)
def Zbz : Lens Z10 (Z0 .i64) := Lens.iso (k := (Za (Z0 .i64) (Za (Z0 .i64) (Za Zh (Za Zh (Z4 Z6)))))) (Lens.comp (Lens.snd _ _) (Lens.fst _ _)) Inst.Table (fun x y => { x with Table := y }) (fun _ => rfl) (fun _ _ => rfl)
def Zot : Lens Z10 Zh := Lens.iso (k := (Za (Z0 .i64) (Za (Z0 .i64) (Za Zh (Za Zh (Z4 Z6)))))) (Lens.comp (Lens.comp (Lens.snd _ _) (Lens.snd _ _)) (Lens.fst _ _)) Inst.Value (fun x y => { x with Value := y }) (fun _ => rfl) (fun _ _ => rfl)
def Zqa : Lens Z10 Zh := Lens.iso (k := (Za (Z0 .i64) (Za (Z0 .i64) (Za Zh (Za Zh (Z4 Z6)))))) (Lens.comp (Lens.comp (Lens.comp (Lens.snd _ _) (Lens.snd _ _)) (Lens.snd _ _)) (Lens.fst _ _)) Inst.Mask (fun x y => { x with Mask := y }) (fun _ => rfl) (fun _ _ => rfl)
def Zak : Lens Z10 (Z4 Z6) := Lens.iso (k := (Za (Z0 .i64) (Za (Z0 .i64) (Za Zh (Za Zh (Z4 Z6)))))) (Lens.comp (Lens.comp (Lens.comp (Lens.snd _ _) (Lens.snd _ _)) (Lens.snd _ _)) (Lens.snd _ _)) Inst.Acts (fun x y => { x with Acts := y }) (fun _ => rfl) (fun _ _ => rfl)
def Zl6 : Inst := ⟨0, 0, Z0a, Z0a, []⟩
def Y50 : List Value := ([.int .i64 0] ++ ([.int .i64 0] ++ (Z85 ++ (Z85 ++ [.slice none 0 0]))))
theorem Yh9 : KZ Z10 Zl6 Y50 := Z3a (Z13 Z2d (Z13 Z2d (Z13 Z77 (Z13 Z77 (Z4t _)))))
structure Flow where
 Cookie : (BitVec 64)
 Priority : Int
 Idle : Int
 Hard : Int
 Flags : Int
 Match : (List Oxm)
 Insts : (List Inst)
 deriving DecidableEq, Inhabited
def Z0f : Kd Flow := Z1i (Za Z0q (Za (Z0 .i64) (Za (Z0 .i64) (Za (Z0 .i64) (Za (Z0 .i64) (Za (Z4 Z23) (Z4 Z10))))))) (fun x => (x.Cookie, (x.Priority, (x.Idle, (x.Hard, (x.Flags, (x.Match, x.Insts)))))))
def Zcw : Lens Z0f (Z0 .i64) := Lens.iso (k := (Za Z0q (Za (Z0 .i64) (Za (Z0 .i64) (Za (Z0 .i64) (Za (Z0 .i64) (Za (Z4 Z23) (Z4 Z10)))))))) (Lens.comp (Lens.snd _ _) (Lens.fst _ _)) Flow.Priority (fun x y => { x with Priority := y }) (fun _ => rfl) (fun _ _ => rfl)
def Zmy : Lens Z0f (Z4 Z23) := Lens.iso (k := (Za Z0q (Za (Z0 .i64) (Za (Z0 .i64) (Za (Z0 .i64) (Za (Z0 .i64) (Za (Z4 Z23) (Z4 Z10)))))))) (Lens.comp (Lens.comp (Lens.comp (Lens.comp (Lens.comp (Lens.snd _ _) (Lens.snd _ _)) (Lens.snd _ _)) (Lens.snd _ _)) (Lens.snd _ _)) (Lens.fst _ _)) Flow.Match (fun x y => { x with Match := y }) (fun _ => rfl) (fun _ _ => rfl)
def Zac : Lens Z0f (Z4 Z10) := Lens.iso (k := (Za Z0q (Za (Z0 .i64) (Za (Z0 .i64) (Za (Z0 .i64) (Za (Z0 .i64) (Za (Z4 Z23) (Z4 Z10)))))))) (Lens.comp (Lens.comp (Lens.comp (Lens.comp (Lens.comp (Lens.snd _ _) (Lens.snd _ _)) (Lens.snd _ _)) (Lens.snd _ _)) (Lens.snd _ _)) (Lens.snd _ _)) Flow.Insts (fun x y => { x with Insts := y }) (fun _ => rfl) (fun _ _ => rfl)
def Zqo : Flow := ⟨0, 0, 0, 0, 0, [], []⟩
def Y3x : List Value := ([.int .u64 0] ++ ([.int .i64 0] ++ ([.int .i64 0] ++ ([.int .i64 0] ++ ([.int .i64 0] ++ ([.slice none 0 0] ++ [.slice none 0 0]))))))
theorem Ycq : KZ Z0f Zqo Y3x := Z3a (Z13 Znj (Z13 Z2d (Z13 Z2d (Z13 Z2d (Z13 Z2d (Z13 (Z4t _) (Z4t _)))))))
structure field_row where
 name : ByteArray
 id : Int
 bits : Int
 masks : Bool
 deriving DecidableEq, Inhabited
def Z1n : Kd field_row := Z1i (Za Z1j (Za (Z0 .i64) (Za (Z0 .i64) Zc))) (fun x => (x.name, (x.id, (x.bits, x.masks))))
instance : PureK Z1n := inferInstanceAs (PureK (Z1i (Za Z1j (Za (Z0 .i64) (Za (Z0 .i64) Zc))) (fun (x : field_row) => (x.name, (x.id, (x.bits, x.masks))))))
def Z2y : Lens Z1n Z1j := Lens.iso (k := (Za Z1j (Za (Z0 .i64) (Za (Z0 .i64) Zc)))) (Lens.fst _ _) field_row.name (fun x y => { x with name := y }) (fun _ => rfl) (fun _ _ => rfl)
def Z2q : Lens Z1n (Z0 .i64) := Lens.iso (k := (Za Z1j (Za (Z0 .i64) (Za (Z0 .i64) Zc)))) (Lens.comp (Lens.snd _ _) (Lens.fst _ _)) field_row.id (fun x y => { x with id := y }) (fun _ => rfl) (fun _ _ => rfl)
def Z2n : Lens Z1n (Z0 .i64) := Lens.iso (k := (Za Z1j (Za (Z0 .i64) (Za (Z0 .i64) Zc)))) (Lens.comp (Lens.comp (Lens.snd _ _) (Lens.snd _ _)) (Lens.fst _ _)) field_row.bits (fun x y => { x with bits := y }) (fun _ => rfl) (fun _ _ => rfl)
def Z2x : Lens Z1n Zc := Lens.iso (k := (Za Z1j (Za (Z0 .i64) (Za (Z0 .i64) Zc)))) (Lens.comp (Lens.comp (Lens.snd _ _) (Lens.snd _ _)) (Lens.snd _ _)) field_row.masks (fun x y => { x with masks := y }) (fun _ => rfl) (fun _ _ => rfl)
def Zho : field_row := ⟨(⟨#[]⟩ : ByteArray), 0, 0, false⟩
def Yfe : List Value := ([.string ⟨#[]⟩] ++ ([.int .i64 0] ++ ([.int .i64 0] ++ [.bool false])))
theorem Zz8 : KZ Z1n Zho Yfe := Z3a (Z13 Y62 (Z13 Z2d (Z13 Z2d Zhf)))
abbrev Zuw := Vector field_row 24
structure Atom where
 Rewrite : Z5
 Group : Bool
 Port : Int
 Max : Int
 deriving DecidableEq, Inhabited
def Z06 : Kd Atom := Z1i (Za (Z2 24 Z3) (Za Zc (Za (Z0 .i64) (Z0 .i64)))) (fun x => (x.Rewrite, (x.Group, (x.Port, x.Max))))
instance : PureK Z06 := inferInstanceAs (PureK (Z1i (Za (Z2 24 Z3) (Za Zc (Za (Z0 .i64) (Z0 .i64)))) (fun (x : Atom) => (x.Rewrite, (x.Group, (x.Port, x.Max))))))
def Zj0 : Lens Z06 (Z2 24 Z3) := Lens.iso (k := (Za (Z2 24 Z3) (Za Zc (Za (Z0 .i64) (Z0 .i64))))) (Lens.fst _ _) Atom.Rewrite (fun x y => { x with Rewrite := y }) (fun _ => rfl) (fun _ _ => rfl)
def Zmr : Lens Z06 Zc := Lens.iso (k := (Za (Z2 24 Z3) (Za Zc (Za (Z0 .i64) (Z0 .i64))))) (Lens.comp (Lens.snd _ _) (Lens.fst _ _)) Atom.Group (fun x y => { x with Group := y }) (fun _ => rfl) (fun _ _ => rfl)
def Z84 : Lens Z06 (Z0 .i64) := Lens.iso (k := (Za (Z2 24 Z3) (Za Zc (Za (Z0 .i64) (Z0 .i64))))) (Lens.comp (Lens.comp (Lens.snd _ _) (Lens.snd _ _)) (Lens.fst _ _)) Atom.Port (fun x y => { x with Port := y }) (fun _ => rfl) (fun _ _ => rfl)
def Zm4 : Lens Z06 (Z0 .i64) := Lens.iso (k := (Za (Z2 24 Z3) (Za Zc (Za (Z0 .i64) (Z0 .i64))))) (Lens.comp (Lens.comp (Lens.snd _ _) (Lens.snd _ _)) (Lens.snd _ _)) Atom.Max (fun x y => { x with Max := y }) (fun _ => rfl) (fun _ _ => rfl)
def Zq3 : Atom := ⟨(Vector.replicate 24 zTern), false, 0, 0⟩
def Y9j : List Value := ((List.replicate 24 Zfc).flatten ++ ([.bool false] ++ ([.int .i64 0] ++ [.int .i64 0])))
theorem Y85 : KZ Z06 Zq3 Y9j := Z3a (Z13 (Z5a 24 Zas) (Z13 Zhf (Z13 Z2d Z2d)))
structure walk_way where
 cube : Z5
 got : Z5
 atoms : (List Atom)
 set : (List Action)
 deriving DecidableEq, Inhabited
def Z0k : Kd walk_way := Z1i (Za (Z2 24 Z3) (Za (Z2 24 Z3) (Za (Z4 Z06) (Z4 Z6)))) (fun x => (x.cube, (x.got, (x.atoms, x.set))))
def Zh9 : Lens Z0k (Z2 24 Z3) := Lens.iso (k := (Za (Z2 24 Z3) (Za (Z2 24 Z3) (Za (Z4 Z06) (Z4 Z6))))) (Lens.fst _ _) walk_way.cube (fun x y => { x with cube := y }) (fun _ => rfl) (fun _ _ => rfl)
def Zbl : Lens Z0k (Z2 24 Z3) := Lens.iso (k := (Za (Z2 24 Z3) (Za (Z2 24 Z3) (Za (Z4 Z06) (Z4 Z6))))) (Lens.comp (Lens.snd _ _) (Lens.fst _ _)) walk_way.got (fun x y => { x with got := y }) (fun _ => rfl) (fun _ _ => rfl)
def Zdj : Lens Z0k (Z4 Z06) := Lens.iso (k := (Za (Z2 24 Z3) (Za (Z2 24 Z3) (Za (Z4 Z06) (Z4 Z6))))) (Lens.comp (Lens.comp (Lens.snd _ _) (Lens.snd _ _)) (Lens.fst _ _)) walk_way.atoms (fun x y => { x with atoms := y }) (fun _ => rfl) (fun _ _ => rfl)
def Zj9 : Lens Z0k (Z4 Z6) := Lens.iso (k := (Za (Z2 24 Z3) (Za (Z2 24 Z3) (Za (Z4 Z06) (Z4 Z6))))) (Lens.comp (Lens.comp (Lens.snd _ _) (Lens.snd _ _)) (Lens.snd _ _)) walk_way.set (fun x y => { x with set := y }) (fun _ => rfl) (fun _ _ => rfl)
def Z7b : walk_way := ⟨(Vector.replicate 24 zTern), (Vector.replicate 24 zTern), [], []⟩
def Y70 : List Value := ((List.replicate 24 Zfc).flatten ++ ((List.replicate 24 Zfc).flatten ++ ([.slice none 0 0] ++ [.slice none 0 0])))
theorem Yf6 : KZ Z0k Z7b Y70 := Z3a (Z13 (Z5a 24 Zas) (Z13 (Z5a 24 Zas) (Z13 (Z4t _) (Z4t _))))
structure Z4x where
 got : Z5
 atoms : (List Atom)
 deriving DecidableEq, Inhabited
structure atom_trace_o1 where
 got : Z5
 atoms : Value
def Z44 : Kd atom_trace_o1 := Z1i (Za (Z2 24 Z3) kraw) (fun x => (x.got, x.atoms))
def Zf1 : Lens Z44 (Z2 24 Z3) := Lens.iso (k := (Za (Z2 24 Z3) kraw)) (Lens.fst _ _) atom_trace_o1.got (fun x y => { x with got := y }) (fun _ => rfl) (fun _ _ => rfl)
def Ziu : Lens Z44 kraw := Lens.iso (k := (Za (Z2 24 Z3) kraw)) (Lens.snd _ _) atom_trace_o1.atoms (fun x y => { x with atoms := y }) (fun _ => rfl) (fun _ _ => rfl)
def Y18 : atom_trace_o1 := ⟨(Vector.replicate 24 zTern), (.slice none 0 0)⟩
theorem Y2k : KZ Z44 Y18 ((List.replicate 24 Zfc).flatten ++ [.slice none 0 0]) := Z3a (Z13 (Z5a 24 Zas) (Zks rfl))
structure aset_spot where
 kind : Int
 field : Int
 deriving DecidableEq, Inhabited
def Z60 : Kd aset_spot := Z1i (Za (Z0 .i64) (Z0 .i64)) (fun x => (x.kind, x.field))
instance : PureK Z60 := inferInstanceAs (PureK (Z1i (Za (Z0 .i64) (Z0 .i64)) (fun (x : aset_spot) => (x.kind, x.field))))
def Zh7 : Lens Z60 (Z0 .i64) := Lens.iso (k := (Za (Z0 .i64) (Z0 .i64))) (Lens.fst _ _) aset_spot.kind (fun x y => { x with kind := y }) (fun _ => rfl) (fun _ _ => rfl)
def Zg9 : Lens Z60 (Z0 .i64) := Lens.iso (k := (Za (Z0 .i64) (Z0 .i64))) (Lens.snd _ _) aset_spot.field (fun x y => { x with field := y }) (fun _ => rfl) (fun _ _ => rfl)
def Zn9 : aset_spot := ⟨0, 0⟩
def Y3g : List Value := ([.int .i64 0] ++ [.int .i64 0])
theorem Ydm : KZ Z60 Zn9 Y3g := Z3a (Z13 Z2d Z2d)
structure Rule where
 Cube : Z5
 Atoms : (List Atom)
 deriving DecidableEq, Inhabited
def Zy : Kd Rule := Z1i (Za (Z2 24 Z3) (Z4 Z06)) (fun x => (x.Cube, x.Atoms))
def Z6b : Lens Zy (Z2 24 Z3) := Lens.iso (k := (Za (Z2 24 Z3) (Z4 Z06))) (Lens.fst _ _) Rule.Cube (fun x y => { x with Cube := y }) (fun _ => rfl) (fun _ _ => rfl)
def Zad : Lens Zy (Z4 Z06) := Lens.iso (k := (Za (Z2 24 Z3) (Z4 Z06))) (Lens.snd _ _) Rule.Atoms (fun x y => { x with Atoms := y }) (fun _ => rfl) (fun _ _ => rfl)
def Zye : Rule := ⟨(Vector.replicate 24 zTern), []⟩
def Y49 : List Value := ((List.replicate 24 Zfc).flatten ++ [.slice none 0 0])
theorem Y28 : KZ Zy Zye Y49 := Z3a (Z13 (Z5a 24 Zas) (Z4t _))
abbrev Ye0 := Vector (List Flow) 4
structure Bucket where
 Weight : Int
 Watch : Int
 WatchGroup : Int
 Acts : (List Action)
 deriving DecidableEq, Inhabited
def Z1o : Kd Bucket := Z1i (Za (Z0 .i64) (Za (Z0 .i64) (Za (Z0 .i64) (Z4 Z6)))) (fun x => (x.Weight, (x.Watch, (x.WatchGroup, x.Acts))))
def Zzy : Lens Z1o (Z0 .i64) := Lens.iso (k := (Za (Z0 .i64) (Za (Z0 .i64) (Za (Z0 .i64) (Z4 Z6))))) (Lens.comp (Lens.snd _ _) (Lens.fst _ _)) Bucket.Watch (fun x y => { x with Watch := y }) (fun _ => rfl) (fun _ _ => rfl)
def Zi0 : Lens Z1o (Z4 Z6) := Lens.iso (k := (Za (Z0 .i64) (Za (Z0 .i64) (Za (Z0 .i64) (Z4 Z6))))) (Lens.comp (Lens.comp (Lens.snd _ _) (Lens.snd _ _)) (Lens.snd _ _)) Bucket.Acts (fun x y => { x with Acts := y }) (fun _ => rfl) (fun _ _ => rfl)
def Zvb : Bucket := ⟨0, 0, 0, []⟩
def Yf5 : List Value := ([.int .i64 0] ++ ([.int .i64 0] ++ ([.int .i64 0] ++ [.slice none 0 0])))
theorem Yb4 : KZ Z1o Zvb Yf5 := Z3a (Z13 Z2d (Z13 Z2d (Z13 Z2d (Z4t _))))
structure Group where
 ID : Int
 Kind : Int
 Buckets : (List Bucket)
 deriving DecidableEq, Inhabited
def Z0d : Kd Group := Z1i (Za (Z0 .i64) (Za (Z0 .i64) (Z4 Z1o))) (fun x => (x.ID, (x.Kind, x.Buckets)))
def Zre : Lens Z0d (Z0 .i64) := Lens.iso (k := (Za (Z0 .i64) (Za (Z0 .i64) (Z4 Z1o)))) (Lens.fst _ _) Group.ID (fun x y => { x with ID := y }) (fun _ => rfl) (fun _ _ => rfl)
def Zxb : Lens Z0d (Z0 .i64) := Lens.iso (k := (Za (Z0 .i64) (Za (Z0 .i64) (Z4 Z1o)))) (Lens.comp (Lens.snd _ _) (Lens.fst _ _)) Group.Kind (fun x y => { x with Kind := y }) (fun _ => rfl) (fun _ _ => rfl)
def Z9g : Lens Z0d (Z4 Z1o) := Lens.iso (k := (Za (Z0 .i64) (Za (Z0 .i64) (Z4 Z1o)))) (Lens.comp (Lens.snd _ _) (Lens.snd _ _)) Group.Buckets (fun x y => { x with Buckets := y }) (fun _ => rfl) (fun _ _ => rfl)
def Zkx : Group := ⟨0, 0, []⟩
def Zu4 : List Value := ([.int .i64 0] ++ ([.int .i64 0] ++ [.slice none 0 0]))
theorem Zz3 : KZ Z0d Zkx Zu4 := Z3a (Z13 Z2d (Z13 Z2d (Z4t _)))
structure Switch where
 Tables : Ye0
 Groups : (List Group)
 deriving DecidableEq, Inhabited
def Z0h : Kd Switch := Z1i (Za (Z2 4 (Z4 Z0f)) (Z4 Z0d)) (fun x => (x.Tables, x.Groups))
def Zf0 : Lens Z0h (Z2 4 (Z4 Z0f)) := Lens.iso (k := (Za (Z2 4 (Z4 Z0f)) (Z4 Z0d))) (Lens.fst _ _) Switch.Tables (fun x y => { x with Tables := y }) (fun _ => rfl) (fun _ _ => rfl)
def Zqn : Lens Z0h (Z4 Z0d) := Lens.iso (k := (Za (Z2 4 (Z4 Z0f)) (Z4 Z0d))) (Lens.snd _ _) Switch.Groups (fun x y => { x with Groups := y }) (fun _ => rfl) (fun _ _ => rfl)
def Zu6 : Switch := ⟨(Vector.replicate 4 []), []⟩
def Y80 : List Value := ((List.replicate 4 [.slice none 0 0]).flatten ++ [.slice none 0 0])
theorem Y4j : KZ Z0h Zu6 Y80 := Z3a (Z13 (Z5a 4 (Z4t _)) (Z4t _))
structure cover_purse where
 left : Int
 free : Bool
 deriving DecidableEq, Inhabited
def Z5j : Kd cover_purse := Z1i (Za (Z0 .i64) Zc) (fun x => (x.left, x.free))
instance : PureK Z5j := inferInstanceAs (PureK (Z1i (Za (Z0 .i64) Zc) (fun (x : cover_purse) => (x.left, x.free))))
def Zi4 : Lens Z5j (Z0 .i64) := Lens.iso (k := (Za (Z0 .i64) Zc)) (Lens.fst _ _) cover_purse.left (fun x y => { x with left := y }) (fun _ => rfl) (fun _ _ => rfl)
def Zrh : Lens Z5j Zc := Lens.iso (k := (Za (Z0 .i64) Zc)) (Lens.snd _ _) cover_purse.free (fun x y => { x with free := y }) (fun _ => rfl) (fun _ _ => rfl)
def Zp5 : cover_purse := ⟨0, false⟩
def Zw8 : List Value := ([.int .i64 0] ++ [.bool false])
theorem Zvv : KZ Z5j Zp5 Zw8 := Z3a (Z13 Z2d Zhf)
abbrev Z0l := Vector Wide 24
structure cover_look where
 purse : cover_purse
 deriving DecidableEq, Inhabited
def Z1v : Kd cover_look := Z1i Z5j (fun x => x.purse)
instance : PureK Z1v := inferInstanceAs (PureK (Z1i Z5j (fun (x : cover_look) => x.purse)))
def Zs0 : Lens Z1v Z5j := Lens.iso (k := Z5j) (Lens.id _) cover_look.purse (fun x y => { x with purse := y }) (fun _ => rfl) (fun _ _ => rfl)
def Y1d : cover_look := ⟨Zp5⟩
def Y71 : List Value := Zw8
theorem Yas : KZ Z1v Y1d Y71 := Z3a Zvv
structure Flat where
 Rules : (List Rule)
 Groups : (List Group)
 deriving DecidableEq, Inhabited
def Z5f : Kd Flat := Z1i (Za (Z4 Zy) (Z4 Z0d)) (fun x => (x.Rules, x.Groups))
def Zd3 : Lens Z5f (Z4 Zy) := Lens.iso (k := (Za (Z4 Zy) (Z4 Z0d))) (Lens.fst _ _) Flat.Rules (fun x y => { x with Rules := y }) (fun _ => rfl) (fun _ _ => rfl)
def Zro : Lens Z5f (Z4 Z0d) := Lens.iso (k := (Za (Z4 Zy) (Z4 Z0d))) (Lens.snd _ _) Flat.Groups (fun x y => { x with Groups := y }) (fun _ => rfl) (fun _ _ => rfl)
def Ztf : Flat := ⟨[], []⟩
def Yed : List Value := ([.slice none 0 0] ++ [.slice none 0 0])
theorem Ygh : KZ Z5f Ztf Yed := Z3a (Z13 (Z4t _) (Z4t _))
structure Env where
 Turn : Int
 Down : (List Int)
 deriving DecidableEq, Inhabited
def Z2z : Kd Env := Z1i (Za (Z0 .i64) (Z4 (Z0 .i64))) (fun x => (x.Turn, x.Down))
def Ztj : Lens Z2z (Z0 .i64) := Lens.iso (k := (Za (Z0 .i64) (Z4 (Z0 .i64)))) (Lens.fst _ _) Env.Turn (fun x y => { x with Turn := y }) (fun _ => rfl) (fun _ _ => rfl)
def Zuu : Lens Z2z (Z4 (Z0 .i64)) := Lens.iso (k := (Za (Z0 .i64) (Z4 (Z0 .i64)))) (Lens.snd _ _) Env.Down (fun x y => { x with Down := y }) (fun _ => rfl) (fun _ _ => rfl)
def Zlc : Env := ⟨0, []⟩
def Zou : List Value := ([.int .i64 0] ++ [.slice none 0 0])
theorem Zon : KZ Z2z Zlc Zou := Z3a (Z13 Z2d (Z4t _))
structure env_world where
 Env : Env
 Group : Group
 deriving DecidableEq, Inhabited
def Zaq : Kd env_world := Z1i (Za Z2z Z0d) (fun x => (x.Env, x.Group))
def Zl2 : Lens Zaq Z2z := Lens.iso (k := (Za Z2z Z0d)) (Lens.fst _ _) env_world.Env (fun x y => { x with Env := y }) (fun _ => rfl) (fun _ _ => rfl)
def Zck : Lens Zaq Z0d := Lens.iso (k := (Za Z2z Z0d)) (Lens.snd _ _) env_world.Group (fun x y => { x with Group := y }) (fun _ => rfl) (fun _ _ => rfl)
def Y11 : env_world := ⟨Zlc, Zkx⟩
def Yfz : List Value := (Zou ++ Zu4)
theorem Y8a : KZ Zaq Y11 Yfz := Z3a (Z13 Zon Zz3)
structure Out where
 Port : Int
 Max : Int
 Header : Z0l
 deriving DecidableEq, Inhabited
def Z14 : Kd Out := Z1i (Za (Z0 .i64) (Za (Z0 .i64) (Z2 24 Zh))) (fun x => (x.Port, (x.Max, x.Header)))
instance : PureK Z14 := inferInstanceAs (PureK (Z1i (Za (Z0 .i64) (Za (Z0 .i64) (Z2 24 Zh))) (fun (x : Out) => (x.Port, (x.Max, x.Header)))))
def Zv1 : Lens Z14 (Z0 .i64) := Lens.iso (k := (Za (Z0 .i64) (Za (Z0 .i64) (Z2 24 Zh)))) (Lens.fst _ _) Out.Port (fun x y => { x with Port := y }) (fun _ => rfl) (fun _ _ => rfl)
def Y14 : Lens Z14 (Z0 .i64) := Lens.iso (k := (Za (Z0 .i64) (Za (Z0 .i64) (Z2 24 Zh)))) (Lens.comp (Lens.snd _ _) (Lens.fst _ _)) Out.Max (fun x y => { x with Max := y }) (fun _ => rfl) (fun _ _ => rfl)
def Zxe : Lens Z14 (Z2 24 Zh) := Lens.iso (k := (Za (Z0 .i64) (Za (Z0 .i64) (Z2 24 Zh)))) (Lens.comp (Lens.snd _ _) (Lens.snd _ _)) Out.Header (fun x y => { x with Header := y }) (fun _ => rfl) (fun _ _ => rfl)
def Zu0 : Out := ⟨0, 0, (Vector.replicate 24 Z0a)⟩
def Ybx : List Value := ([.int .i64 0] ++ ([.int .i64 0] ++ (List.replicate 24 Z85).flatten))
theorem Y2u : KZ Z14 Zu0 Ybx := Z3a (Z13 Z2d (Z13 Z2d (Z5a 24 Z77)))
structure Z0p where
 Env : Env
 groups : (List Group)
 out : (List Out)
 header : Z0l
 depth : Int
 deriving DecidableEq, Inhabited
structure exec_run_o2 where
 Env : Env
 groups : (List Group)
 out : Value
 header : Z0l
 depth : Int
def Z17 : Kd exec_run_o2 := Z1i (Za Z2z (Za (Z4 Z0d) (Za kraw (Za (Z2 24 Zh) (Z0 .i64))))) (fun x => (x.Env, (x.groups, (x.out, (x.header, x.depth)))))
def Zqr : Lens Z17 Z2z := Lens.iso (k := (Za Z2z (Za (Z4 Z0d) (Za kraw (Za (Z2 24 Zh) (Z0 .i64)))))) (Lens.fst _ _) exec_run_o2.Env (fun x y => { x with Env := y }) (fun _ => rfl) (fun _ _ => rfl)
def Zps : Lens Z17 (Z4 Z0d) := Lens.iso (k := (Za Z2z (Za (Z4 Z0d) (Za kraw (Za (Z2 24 Zh) (Z0 .i64)))))) (Lens.comp (Lens.snd _ _) (Lens.fst _ _)) exec_run_o2.groups (fun x y => { x with groups := y }) (fun _ => rfl) (fun _ _ => rfl)
def Zhd : Lens Z17 kraw := Lens.iso (k := (Za Z2z (Za (Z4 Z0d) (Za kraw (Za (Z2 24 Zh) (Z0 .i64)))))) (Lens.comp (Lens.comp (Lens.snd _ _) (Lens.snd _ _)) (Lens.fst _ _)) exec_run_o2.out (fun x y => { x with out := y }) (fun _ => rfl) (fun _ _ => rfl)
def Zbk : Lens Z17 (Z2 24 Zh) := Lens.iso (k := (Za Z2z (Za (Z4 Z0d) (Za kraw (Za (Z2 24 Zh) (Z0 .i64)))))) (Lens.comp (Lens.comp (Lens.comp (Lens.snd _ _) (Lens.snd _ _)) (Lens.snd _ _)) (Lens.fst _ _)) exec_run_o2.header (fun x y => { x with header := y }) (fun _ => rfl) (fun _ _ => rfl)
def Ze9 : Lens Z17 (Z0 .i64) := Lens.iso (k := (Za Z2z (Za (Z4 Z0d) (Za kraw (Za (Z2 24 Zh) (Z0 .i64)))))) (Lens.comp (Lens.comp (Lens.comp (Lens.snd _ _) (Lens.snd _ _)) (Lens.snd _ _)) (Lens.snd _ _)) exec_run_o2.depth (fun x y => { x with depth := y }) (fun _ => rfl) (fun _ _ => rfl)
def Zsn : exec_run_o2 := ⟨Zlc, [], (.slice none 0 0), (Vector.replicate 24 Z0a), 0⟩
theorem Y63 : KZ Z17 Zsn (Zou ++ ([.slice none 0 0] ++ ([.slice none 0 0] ++ ((List.replicate 24 Z85).flatten ++ [.int .i64 0])))) := Z3a (Z13 Zon (Z13 (Z4t _) (Z13 (Zks rfl) (Z13 (Z5a 24 Z77) Z2d))))
structure Znw where
 Table : Int
 Flow : Int
 deriving DecidableEq, Inhabited
def Y45 : Kd Znw := Z1i (Za (Z0 .i64) (Z0 .i64)) (fun x => (x.Table, x.Flow))
instance : PureK Y45 := inferInstanceAs (PureK (Z1i (Za (Z0 .i64) (Z0 .i64)) (fun (x : Znw) => (x.Table, x.Flow))))
structure Yhh where
 Switch : Switch
 env : Env
 header : Z0l
 set : (List Action)
 out : (List Out)
 path : (List Znw)
 deriving DecidableEq, Inhabited
structure Yhi where
 Switch : Switch
 env : Env
 header : Z0l
 set : (List Action)
 out : Value
 path : Value
theorem Z15 : Zr Tryz.prog 87 (Z2 24 Z3) (Vector.replicate 24 zTern) := ⟨_, (Z5a 24 Zas), by kernel_rfl⟩
theorem Z03 : Ty Tryz.prog 87 (Z2 24 Z3) := ⟨by kernel_rfl, by kernel_rfl⟩
theorem Z36 : Zr Tryz.prog 101 (Z2 24 Z3) (Vector.replicate 24 zTern) := ⟨_, (Z5a 24 Zas), by kernel_rfl⟩
theorem Z04 : Ty Tryz.prog 101 (Z2 24 Z3) := ⟨by kernel_rfl, by kernel_rfl⟩
theorem Z6c : Ty Tryz.prog 22 (Z4 Z0f) := ⟨by kernel_rfl, by kernel_rfl⟩
theorem Z4y : Sl Tryz.prog 22 61 Z0f := ⟨by kernel_rfl, by kernel_rfl⟩
theorem Zdk : Fl Tryz.prog 61 1 Zcw := ⟨by kernel_rfl, rfl⟩
theorem ty3 : Ty Tryz.prog 3 (Z0 .i64) := ⟨by kernel_rfl, by kernel_rfl⟩
theorem Z0t : Sl Tryz.prog 37 3 (Z0 .i64) := ⟨by kernel_rfl, by kernel_rfl⟩
theorem us3 : (Tryz.prog.underlying 3).isSome = true := by kernel_rfl
theorem Z73 : Tryz.prog.underlying 360 = some (.int .u64) := by kernel_rfl
theorem Zal : (Tryz.prog.underlying 360).isSome = true := by kernel_rfl
theorem un3 : Tryz.prog.underlying 3 = some (.int .i64) := by kernel_rfl
theorem Zix : El Tryz.prog 37 3 (Z0 .i64) := ⟨by kernel_rfl, by kernel_rfl, by kernel_rfl, by kernel_rfl, by kernel_rfl⟩
theorem zr3 : Zr Tryz.prog 3 (Z0 .i64) 0 := ⟨_, Z2d, by kernel_rfl⟩
theorem Zv8 : Zr Tryz.prog 369 (Z2 24 Z1n) (Vector.replicate 24 Zho) := ⟨_, (Z5a 24 Zz8), by kernel_rfl⟩
theorem Z2o : Zr Tryz.prog 364 Z1n Zho := ⟨_, Zz8, by kernel_rfl⟩
theorem Zz1 : Ty Tryz.prog 369 (Z2 24 Z1n) := ⟨by kernel_rfl, by kernel_rfl⟩
theorem Zgm : Ty Tryz.prog 364 Z1n := ⟨by kernel_rfl, by kernel_rfl⟩
theorem Y3e : Ar Tryz.prog 369 364 24 Z1n := ⟨by kernel_rfl, by kernel_rfl⟩
theorem Y4b : Zkn Tryz.prog 364 2 = some 3 := by kernel_rfl
theorem Ybq : Fl Tryz.prog 364 2 Z2n := ⟨by kernel_rfl, rfl⟩
theorem Z1l : Zr Tryz.prog 42 Zh Z0a := ⟨_, Z77, by kernel_rfl⟩
theorem Zv : Ty Tryz.prog 42 Zh := ⟨by kernel_rfl, by kernel_rfl⟩
theorem Z1a : Zr Tryz.prog 85 Z3 zTern := ⟨_, Zas, by kernel_rfl⟩
theorem Z4l : Fl Tryz.prog 119 0 Z46 := ⟨by kernel_rfl, rfl⟩
theorem Zz : Ty Tryz.prog 85 Z3 := ⟨by kernel_rfl, by kernel_rfl⟩
theorem Zy7 : Fl Tryz.prog 119 1 Zsb := ⟨by kernel_rfl, rfl⟩
theorem ty4 : Ty Tryz.prog 4 Zc := ⟨by kernel_rfl, by kernel_rfl⟩
theorem Zlo : Fl Tryz.prog 119 2 Zjs := ⟨by kernel_rfl, rfl⟩
theorem Y0t : Fl Tryz.prog 119 3 Zs1 := ⟨by kernel_rfl, rfl⟩
theorem Zda : Sl Tryz.prog 58 119 Z23 := ⟨by kernel_rfl, by kernel_rfl⟩
theorem Ze0 : Ty Tryz.prog 119 Z23 := ⟨by kernel_rfl, by kernel_rfl⟩
theorem Yaf : Zr Tryz.prog 119 Z23 Z5p := ⟨_, Ztl, by kernel_rfl⟩
theorem Z2a : Ar Tryz.prog 87 85 24 Z3 := ⟨by kernel_rfl, by kernel_rfl⟩
theorem Z3o : Fl Tryz.prog 42 0 Z28 := ⟨by kernel_rfl, rfl⟩
theorem Z1d : Ty Tryz.prog 40 Z0q := ⟨by kernel_rfl, by kernel_rfl⟩
theorem Z3j : Fl Tryz.prog 42 1 Z1y := ⟨by kernel_rfl, rfl⟩
theorem Z2i : Fl Tryz.prog 85 0 Z1c := ⟨by kernel_rfl, rfl⟩
theorem Z1x : Fl Tryz.prog 85 1 Z0v := ⟨by kernel_rfl, rfl⟩
theorem Zq6 : Fl Tryz.prog 61 5 Zmy := ⟨by kernel_rfl, rfl⟩
theorem Zrf : Ty Tryz.prog 58 (Z4 Z23) := ⟨by kernel_rfl, by kernel_rfl⟩
theorem Z3g : Ar Tryz.prog 101 85 24 Z3 := ⟨by kernel_rfl, by kernel_rfl⟩
theorem Zg7 : Zr Tryz.prog 135 Z0k Z7b := ⟨_, Yf6, by kernel_rfl⟩
theorem Zjz : Fl Tryz.prog 135 1 Zbl := ⟨by kernel_rfl, rfl⟩
theorem Z7s : Ty Tryz.prog 61 Z0f := ⟨by kernel_rfl, by kernel_rfl⟩
theorem Z33 : Ty Tryz.prog 135 Z0k := ⟨by kernel_rfl, by kernel_rfl⟩
theorem Zqu : Fl Tryz.prog 135 0 Zh9 := ⟨by kernel_rfl, rfl⟩
theorem Ztq : Fl Tryz.prog 124 0 Zoc := ⟨by kernel_rfl, rfl⟩
theorem Zbq : Sl Tryz.prog 59 124 Z10 := ⟨by kernel_rfl, by kernel_rfl⟩
theorem Z34 : Ty Tryz.prog 124 Z10 := ⟨by kernel_rfl, by kernel_rfl⟩
theorem Z0e : Sl Tryz.prog 122 121 Z6 := ⟨by kernel_rfl, by kernel_rfl⟩
theorem Z7c : El Tryz.prog 122 121 Z6 := ⟨by kernel_rfl, by kernel_rfl, by kernel_rfl, by kernel_rfl, by kernel_rfl⟩
theorem Z51 : Zr Tryz.prog 121 Z6 Zlp := ⟨_, Yd3, by kernel_rfl⟩
theorem Z4r : Zr Tryz.prog 124 Z10 Zl6 := ⟨_, Yh9, by kernel_rfl⟩
theorem Zcs : Fl Tryz.prog 124 4 Zak := ⟨by kernel_rfl, rfl⟩
theorem Z4j : Ty Tryz.prog 122 (Z4 Z6) := ⟨by kernel_rfl, by kernel_rfl⟩
theorem Y9d : Zr Tryz.prog 367 (Z2 2 Z0q) (Vector.replicate 2 0) := ⟨_, (Z5a 2 Znj), by kernel_rfl⟩
theorem Zq5 : Ar Tryz.prog 367 40 2 Z0q := ⟨by kernel_rfl, by kernel_rfl⟩
theorem Z4s : Fl Tryz.prog 121 0 Z4d := ⟨by kernel_rfl, rfl⟩
theorem Z9v : Fl Tryz.prog 121 5 Z7l := ⟨by kernel_rfl, rfl⟩
theorem Zku : Fl Tryz.prog 346 0 Zf1 := ⟨by kernel_rfl, rfl⟩
theorem Z4o : Zr Tryz.prog 126 Z06 Zq3 := ⟨_, Y85, by kernel_rfl⟩
theorem Zc5 : Ty Tryz.prog 126 Z06 := ⟨by kernel_rfl, by kernel_rfl⟩
theorem Zh2 : Fl Tryz.prog 121 1 Zf2 := ⟨by kernel_rfl, rfl⟩
theorem Zih : Fl Tryz.prog 126 2 Z84 := ⟨by kernel_rfl, rfl⟩
theorem Zo1 : Fl Tryz.prog 121 2 Zma := ⟨by kernel_rfl, rfl⟩
theorem Zr3 : Fl Tryz.prog 126 3 Zm4 := ⟨by kernel_rfl, rfl⟩
theorem Zp0 : Fl Tryz.prog 121 3 Zm3 := ⟨by kernel_rfl, rfl⟩
theorem Zun : Fl Tryz.prog 126 1 Zmr := ⟨by kernel_rfl, rfl⟩
theorem Z0n : Ty Tryz.prog 121 Z6 := ⟨by kernel_rfl, by kernel_rfl⟩
theorem Zq9 : Fl Tryz.prog 346 1 Ziu := ⟨by kernel_rfl, rfl⟩
theorem Zpw : Ty Tryz.prog 88 kraw := ⟨by kernel_rfl, by kernel_rfl⟩
theorem Z54 : Sl Tryz.prog 88 126 Z06 := ⟨by kernel_rfl, by kernel_rfl⟩
theorem Z8s : El Tryz.prog 88 126 Z06 := ⟨by kernel_rfl, by kernel_rfl, by kernel_rfl, by kernel_rfl, by kernel_rfl⟩
theorem Yfo : Zr Tryz.prog 346 Z44 Y18 := ⟨_, Y2k, by kernel_rfl⟩
theorem Zij : Fl Tryz.prog 135 2 Zdj := ⟨by kernel_rfl, rfl⟩
theorem Zb5 : Ty Tryz.prog 88 (Z4 Z06) := ⟨by kernel_rfl, by kernel_rfl⟩
theorem Zka : Zr Tryz.prog 275 Z60 Zn9 := ⟨_, Ydm, by kernel_rfl⟩
theorem Ze6 : Ty Tryz.prog 275 Z60 := ⟨by kernel_rfl, by kernel_rfl⟩
theorem Zz5 : EqK Tryz.prog 1 3 (Z0 .i64) := Y3t (by kernel_rfl)
theorem Y47 : EqK Tryz.prog 2 275 Z60 := Y7i (fun x y e => by cases x; cases y; simp only [Prod.mk.injEq] at e; simp [e]) (l := _) (by kernel_rfl) (by kernel_rfl) (Yah Zz5 ty3 (Y61 Zz5 ty3))
theorem Y79 : Tryz.prog.eqGuardType Tryz.prog.depth 275 = false := by kernel_rfl
theorem Zzb : Fl Tryz.prog 275 0 Zh7 := ⟨by kernel_rfl, rfl⟩
theorem Zn3 : Fl Tryz.prog 275 1 Zg9 := ⟨by kernel_rfl, rfl⟩
theorem zr4 : Zr Tryz.prog 4 Zc false := ⟨_, Zhf, by kernel_rfl⟩
theorem Zlg : Fl Tryz.prog 135 3 Zj9 := ⟨by kernel_rfl, rfl⟩
theorem Y15 : Fl Tryz.prog 124 2 Zot := ⟨by kernel_rfl, rfl⟩
theorem Zzd : Fl Tryz.prog 124 3 Zqa := ⟨by kernel_rfl, rfl⟩
theorem Ze4 : Fl Tryz.prog 124 1 Zbz := ⟨by kernel_rfl, rfl⟩
theorem Z48 : Zr Tryz.prog 90 Zy Zye := ⟨_, Y28, by kernel_rfl⟩
theorem Z7h : Ty Tryz.prog 90 Zy := ⟨by kernel_rfl, by kernel_rfl⟩
theorem Zzg : Fl Tryz.prog 131 0 (Lens.fst Z0h kraw) := ⟨by kernel_rfl, rfl⟩
theorem Zuz (A : Zd) : Fl Tryz.prog 131 0 (Zp8 Z0h A) := ⟨Zzg.1, Zzg.2⟩
theorem Zj8 : Fl Tryz.prog 26 0 Zf0 := ⟨by kernel_rfl, rfl⟩
theorem Zib : Ar Tryz.prog 23 22 4 (Z4 Z0f) := ⟨by kernel_rfl, by kernel_rfl⟩
theorem Zsy : Fl Tryz.prog 131 1 (Lens.snd Z0h kraw) := ⟨by kernel_rfl, rfl⟩
theorem Zyh (A : Zd) : Fl Tryz.prog 131 1 (Zri Z0h A) := ⟨Zsy.1, Zsy.2⟩
theorem tyr92 : Ty Tryz.prog 92 kraw := ⟨by kernel_rfl, by kernel_rfl⟩
theorem Y0z (A : Zd) : Ty Tryz.prog 92 (kas A) := ⟨tyr92.sz, tyr92.ag⟩
theorem Y0s : Zr Tryz.prog 61 Z0f Zqo := ⟨_, Ycq, by kernel_rfl⟩
theorem Zbn : Fl Tryz.prog 61 6 Zac := ⟨by kernel_rfl, rfl⟩
theorem Zdb : Ty Tryz.prog 59 (Z4 Z10) := ⟨by kernel_rfl, by kernel_rfl⟩
theorem Z5z : Ty Tryz.prog 26 Z0h := ⟨by kernel_rfl, by kernel_rfl⟩
theorem Y5b : Zr Tryz.prog 131 (Za Z0h kraw) (Zu6, .nilFunc) := ⟨_, Z13 Y4j (Zks rfl), by kernel_rfl⟩
theorem Z2p : Sl Tryz.prog 32 90 Zy := ⟨by kernel_rfl, by kernel_rfl⟩
theorem Zhn : El Tryz.prog 32 90 Zy := ⟨by kernel_rfl, by kernel_rfl, by kernel_rfl, by kernel_rfl, by kernel_rfl⟩
theorem Zpl : Ty Tryz.prog 32 kraw := ⟨by kernel_rfl, by kernel_rfl⟩
theorem Yak : Ty Tryz.prog 23 (Z2 4 (Z4 Z0f)) := ⟨by kernel_rfl, by kernel_rfl⟩
theorem Zpf : Fl Tryz.prog 90 1 Zad := ⟨by kernel_rfl, rfl⟩
theorem Zfh : Fl Tryz.prog 90 0 Z6b := ⟨by kernel_rfl, rfl⟩
theorem Z5n : Sl Tryz.prog 162 226 Z1o := ⟨by kernel_rfl, by kernel_rfl⟩
theorem Y6n : Ty Tryz.prog 226 Z1o := ⟨by kernel_rfl, by kernel_rfl⟩
theorem Zn1 : Fl Tryz.prog 226 3 Zi0 := ⟨by kernel_rfl, rfl⟩
theorem Za7 : Fl Tryz.prog 164 2 Z9g := ⟨by kernel_rfl, rfl⟩
theorem Zaa : Ty Tryz.prog 162 (Z4 Z1o) := ⟨by kernel_rfl, by kernel_rfl⟩
theorem Z52 : Sl Tryz.prog 24 164 Z0d := ⟨by kernel_rfl, by kernel_rfl⟩
theorem Z57 : Ty Tryz.prog 164 Z0d := ⟨by kernel_rfl, by kernel_rfl⟩
theorem Zu3 : Fl Tryz.prog 26 1 Zqn := ⟨by kernel_rfl, rfl⟩
theorem Zk5 : Ty Tryz.prog 24 (Z4 Z0d) := ⟨by kernel_rfl, by kernel_rfl⟩
theorem Y9y : Fl Tryz.prog 126 0 Zj0 := ⟨by kernel_rfl, rfl⟩
theorem Z3u : Sl Tryz.prog 229 87 (Z2 24 Z3) := ⟨by kernel_rfl, by kernel_rfl⟩
theorem Zli : El Tryz.prog 229 87 (Z2 24 Z3) := ⟨by kernel_rfl, by kernel_rfl, by kernel_rfl, by kernel_rfl, by kernel_rfl⟩
theorem Y59 : Fl Tryz.prog 288 1 Zrh := ⟨by kernel_rfl, rfl⟩
theorem Zo4 : Fl Tryz.prog 288 0 Zi4 := ⟨by kernel_rfl, rfl⟩
theorem Z3m : Zr Tryz.prog 44 (Z2 24 Zh) (Vector.replicate 24 Z0a) := ⟨_, (Z5a 24 Z77), by kernel_rfl⟩
theorem Z0w : Ty Tryz.prog 44 (Z2 24 Zh) := ⟨by kernel_rfl, by kernel_rfl⟩
theorem Y4h : Zkn Tryz.prog 85 0 = some 42 := by kernel_rfl
theorem Zk9 : Ar Tryz.prog 44 42 24 Zh := ⟨by kernel_rfl, by kernel_rfl⟩
theorem Yeh : (Tryz.prog.underlying 40).isSome = true := by kernel_rfl
theorem tyr286 : Ty Tryz.prog 286 kraw := ⟨by kernel_rfl, by kernel_rfl⟩
theorem Zti (A : Zd) : Ty Tryz.prog 286 (kas A) := ⟨tyr286.sz, tyr286.ag⟩
theorem Ybn : Fl Tryz.prog 290 0 Zs0 := ⟨by kernel_rfl, rfl⟩
theorem Zr7 : Ty Tryz.prog 229 (Z4 (Z2 24 Z3)) := ⟨by kernel_rfl, by kernel_rfl⟩
theorem Y9e : Zr Tryz.prog 288 Z5j Zp5 := ⟨_, Zvv, by kernel_rfl⟩
theorem Y9r : Zr Tryz.prog 290 Z1v Y1d := ⟨_, Yas, by kernel_rfl⟩
theorem Zsw : Fl Tryz.prog 164 0 Zre := ⟨by kernel_rfl, rfl⟩
theorem Y0m : El Tryz.prog 24 164 Z0d := ⟨by kernel_rfl, by kernel_rfl, by kernel_rfl, by kernel_rfl, by kernel_rfl⟩
theorem Zcf : Zr Tryz.prog 164 Z0d Zkx := ⟨_, Zz3, by kernel_rfl⟩
theorem Y1x : El Tryz.prog 162 226 Z1o := ⟨by kernel_rfl, by kernel_rfl, by kernel_rfl, by kernel_rfl, by kernel_rfl⟩
theorem Ydh : Zr Tryz.prog 226 Z1o Zvb := ⟨_, Yb4, by kernel_rfl⟩
theorem Zer : Zr Tryz.prog 73 Z5f Ztf := ⟨_, Ygh, by kernel_rfl⟩
theorem Z5t : Ty Tryz.prog 73 Z5f := ⟨by kernel_rfl, by kernel_rfl⟩
theorem Y36 : Fl Tryz.prog 226 1 Zzy := ⟨by kernel_rfl, rfl⟩
theorem Ydp : Fl Tryz.prog 164 1 Zxb := ⟨by kernel_rfl, rfl⟩
theorem Znk : Fl Tryz.prog 73 0 Zd3 := ⟨by kernel_rfl, rfl⟩
theorem Zne : Ty Tryz.prog 32 (Z4 Zy) := ⟨by kernel_rfl, by kernel_rfl⟩
theorem Ye6 : Fl Tryz.prog 73 1 Zro := ⟨by kernel_rfl, rfl⟩
theorem Y2b : Fl Tryz.prog 39 0 Ztj := ⟨by kernel_rfl, rfl⟩
theorem Y66 : Fl Tryz.prog 39 1 Zuu := ⟨by kernel_rfl, rfl⟩
theorem Y9i : Ty Tryz.prog 37 (Z4 (Z0 .i64)) := ⟨by kernel_rfl, by kernel_rfl⟩
theorem Zya : Fl Tryz.prog 328 0 Zl2 := ⟨by kernel_rfl, rfl⟩
theorem Zbs : Ty Tryz.prog 39 Z2z := ⟨by kernel_rfl, by kernel_rfl⟩
theorem Zhe : Fl Tryz.prog 328 1 Zck := ⟨by kernel_rfl, rfl⟩
theorem Zvz : Zr Tryz.prog 328 Zaq Y11 := ⟨_, Y8a, by kernel_rfl⟩
theorem Zue : Ty Tryz.prog 328 Zaq := ⟨by kernel_rfl, by kernel_rfl⟩
theorem Y91 : Fl Tryz.prog 237 1 Zps := ⟨by kernel_rfl, rfl⟩
theorem Zk2 : Fl Tryz.prog 237 4 Ze9 := ⟨by kernel_rfl, rfl⟩
theorem Zjd : Fl Tryz.prog 237 3 Zbk := ⟨by kernel_rfl, rfl⟩
theorem Yf1 : Fl Tryz.prog 237 0 Zqr := ⟨by kernel_rfl, rfl⟩
theorem Zs2 : Fl Tryz.prog 237 2 Zhd := ⟨by kernel_rfl, rfl⟩
theorem Zaf : Ty Tryz.prog 46 kraw := ⟨by kernel_rfl, by kernel_rfl⟩
theorem Zmt : Zr Tryz.prog 71 Z14 Zu0 := ⟨_, Y2u, by kernel_rfl⟩
theorem Znp : Sl Tryz.prog 46 71 Z14 := ⟨by kernel_rfl, by kernel_rfl⟩
theorem Zrd : El Tryz.prog 46 71 Z14 := ⟨by kernel_rfl, by kernel_rfl, by kernel_rfl, by kernel_rfl, by kernel_rfl⟩
theorem Y7x : Zr Tryz.prog 237 Z17 Zsn := ⟨_, Y63, by kernel_rfl⟩
theorem Y87 : Zr Tryz.prog 46 kraw (.slice none 0 0) := ⟨_, Zks rfl, by kernel_rfl⟩
theorem Ydb : Zr Tryz.prog 39 Z2z Zlc := ⟨_, Zon, by kernel_rfl⟩
theorem Z05 : Tryz.prog.follows .mixedOrders = true := by kernel_rfl
end Go.Proofs.YtknpgojdkobgjaaGreat.W
set_option maxRecDepth 4000
namespace Go.Proofs.YtknpgojdkobgjaaGreat.W
open Go Go.Wb
theorem Zpa : Ent Tryz.prog 341 := Ent.mk Tryz.func341 rfl rfl
theorem Zmj : Ent Tryz.prog 302 := Ent.mk Tryz.func302 rfl rfl
theorem Y89 : Ent Tryz.prog 333 := Ent.mk Tryz.func333 rfl rfl
theorem Zw3 : Ent Tryz.prog 301 := Ent.mk Tryz.func301 rfl rfl
theorem Yae : Ent Tryz.prog 258 := Ent.mk Tryz.func258 rfl rfl
def Zg2 : Option Z5 :=
 some (Vector.replicate 24 zTern)
theorem Zzo (r : Z5) (h : Zg2 = some r) : PCon Tryz.prog 73 [] (rd (Z2 24 Z3) r) := by
 refine PCon.of (Con.intro0 Tryz.func73 rfl Tryz.ntmps73 rfl fun w H => ?_)
 unfold Zg2 at h
 refine SR <| Ct rfl (Zq 1 rfl rfl Z15) ?_
 rintro _ ⟨g1, rfl⟩
 refine Nl <| SR <| Ac (Z00 (ps := []) (x := (Vector.replicate 24 zTern)) rfl rfl rfl (by kernel_rfl) Z15 rfl) rfl <| Zj Z03 1 rfl <| Nl <| AW.ret ?_
 obtain rfl := si h
 exact Zi Tryz.results73 rfl (Z01 rfl (i := 1) rfl Z03)
def Zdf : Option Z5 :=
 some (Vector.replicate 24 zTern)
theorem Zwt (r : Z5) (h : Zdf = some r) : PCon Tryz.prog 77 [] (rd (Z2 24 Z3) r) := by
 refine PCon.of (Con.intro0 Tryz.func77 rfl Tryz.ntmps77 rfl fun w H => ?_)
 unfold Zdf at h
 refine SR <| Ct rfl (Zq 1 rfl rfl Z36) ?_
 rintro _ ⟨g1, rfl⟩
 refine Nl <| SR <| Ac (Z00 (ps := []) (x := (Vector.replicate 24 zTern)) rfl rfl rfl (by kernel_rfl) Z36 rfl) rfl <| Zj Z04 1 rfl <| Nl <| AW.ret ?_
 obtain rfl := si h
 exact Zi Tryz.results77 rfl (Z01 rfl (i := 1) rfl Z04)
def Zfa (i1 : Int) (j2 : Int) (cp3 : (List Flow)) : Option Int :=
 (lget cp3 i1).bind fun e4 => (lget cp3 j2).bind fun e5 => (bif (decide (e4.Priority > e5.Priority)) then some (-1) else (lget cp3 i1).bind fun e6 => (lget cp3 j2).bind fun e7 => (bif (decide (e6.Priority < e7.Priority)) then some 1 else some 0))
theorem Yeb (i1 : Int) (j2 : Int) (cp3 : (List Flow)) (r : Int) (h : Zfa i1 j2 cp3 = some r) : PCon Tryz.prog 201 [rd (Z0 .i64) i1, rd (Z0 .i64) j2, rp (Z4 Z0f) cp3] (rd (Z0 .i64) r) := by
 refine PCon.of (Con.intro0 Tryz.func201 rfl Tryz.ntmps201 rfl fun w H => ?_)
 unfold Zfa at h
 refine SR <| Ak rfl <| Nl <| AW.seq <| AW.block <| AW.seq ?_
 obtain ⟨e4, he4, h⟩ := Z1 h
 obtain ⟨e5, he5, h⟩ := Z1 h
 refine AW.regionAny [⟨[2], [7], [], []⟩, ⟨[0], [8], [], []⟩, ⟨[7, 8], [9], [], []⟩, ⟨[9], [10], [], []⟩, ⟨[10], [11], [], []⟩, ⟨[2], [12], [], []⟩, ⟨[1], [13], [], []⟩, ⟨[12, 13], [14], [], []⟩, ⟨[14], [15], [], []⟩, ⟨[15], [16], [], []⟩, ⟨[11, 16], [17], [], []⟩, ⟨[17], [6], [], []⟩] Z05 (by kernel_rfl) <| SLp Z6c rfl <| Zu rfl <| Sc (lo [7, 8] [] rfl fun S hs hr => Z0r rfl rfl Z4y (vh hs 7 rfl rfl) (vh hs 8 rfl rfl) he4) rfl <| SFp Zcw Zdk rfl <| SLp ty3 rfl <| SLp Z6c rfl <| Zu rfl <| Sc (lo [12, 13] [] rfl fun S hs hr => Z0r rfl rfl Z4y (vh hs 12 rfl rfl) (vh hs 13 rfl rfl) he5) rfl <| SFp Zcw Zdk rfl <| SLp ty3 rfl <| Sc (lo [11, 16] [] rfl fun S hs hr => Z3l rfl rfl (vh hs 11 rfl rfl) (vh hs 16 rfl rfl)) rfl <| SAs rfl <| Cn rfl (fun hc => ?_) (fun hc => ?_)
 ·have h := Zf hc h
  refine SR <| Ak rfl <| Nl <| AW.ret ?_
  obtain rfl := si h
  exact Zi Tryz.results201 rfl (Z8 rfl)
 ·have h := Zg hc h
  refine AW.seq ?_
  obtain ⟨e6, he6, h⟩ := Z1 h
  obtain ⟨e7, he7, h⟩ := Z1 h
  refine AW.regionAny [⟨[2], [19], [], []⟩, ⟨[0], [20], [], []⟩, ⟨[19, 20], [21], [], []⟩, ⟨[21], [22], [], []⟩, ⟨[22], [23], [], []⟩, ⟨[2], [24], [], []⟩, ⟨[1], [25], [], []⟩, ⟨[24, 25], [26], [], []⟩, ⟨[26], [27], [], []⟩, ⟨[27], [28], [], []⟩, ⟨[23, 28], [29], [], []⟩, ⟨[29], [18], [], []⟩] Z05 (by kernel_rfl) <| SLp Z6c rfl <| Zu rfl <| Sc (lo [19, 20] [] rfl fun S hs hr => Z0r rfl rfl Z4y (vh hs 19 rfl rfl) (vh hs 20 rfl rfl) he6) rfl <| SFp Zcw Zdk rfl <| SLp ty3 rfl <| SLp Z6c rfl <| Zu rfl <| Sc (lo [24, 25] [] rfl fun S hs hr => Z0r rfl rfl Z4y (vh hs 24 rfl rfl) (vh hs 25 rfl rfl) he7) rfl <| SFp Zcw Zdk rfl <| SLp ty3 rfl <| Sc (lo [23, 28] [] rfl fun S hs hr => Zp rfl rfl (vh hs 23 rfl rfl) (vh hs 28 rfl rfl)) rfl <| SAs rfl <| Cn rfl (fun hc => ?_) (fun hc => ?_)
  ·have h := Zf hc h
   refine SR <| Ak rfl <| Nl <| AW.ret ?_
   obtain rfl := si h
   exact Zi Tryz.results201 rfl (Z8 rfl)
  ·have h := Zg hc h
   refine AW.skip <| SR <| Ak rfl <| Nl <| AW.ret ?_
   obtain rfl := si h
   exact Zi Tryz.results201 rfl (Z8 rfl)
def Z8h (a3 : Int) (cmp5 : (Int → Int → Option Int)) (go1 : (List Int) → Int → Option (List Int)) (i9 : Int) : Nat → (List Int) → Int → Option (List Int)
 | 0, _, _ => none
 | m15 + 1, l13, j14 => (opt (decide (j14 > a3)) (lget l13 j14)).bind fun e16 => (opt (decide (j14 > a3)) (lget l13 (IntKind.i64.wrap (j14 - 1)))).bind fun e17 => (opt (decide (j14 > a3)) (cmp5 e16 e17)).bind fun x18 => (bif ((decide (j14 > a3)) && (decide (x18 < 0))) then (lget l13 (IntKind.i64.wrap (j14 - 1))).bind fun e19 => (lget l13 j14).bind fun e20 => (lget l13 j14).bind fun e21 => (lget (List.set l13 j14.toNat e19) (IntKind.i64.wrap (j14 - 1))).bind fun e22 => (Z8h a3 cmp5 go1 i9 m15) (List.set (List.set l13 j14.toNat e19) (IntKind.i64.wrap (j14 - 1)).toNat e20) (IntKind.i64.wrap (j14 - 1)) else go1 l13 (IntKind.i64.wrap (i9 + 1)))
def Z7g (b4 : Int) (a3 : Int) (cmp5 : (Int → Int → Option Int)) : Nat → (List Int) → Int → Option (List Int)
 | 0, _, _ => none
 | m10 + 1, l8, i9 => (bif (decide (i9 < b4)) then Z8h a3 cmp5 (Z7g b4 a3 cmp5 m10) i9 Z0y l8 i9 else some l8)
def Zfk (data1 : (List Int)) (a3 : Int) (b4 : Int) (cmp5 : (Int → Int → Option Int)) : Option (List Int) :=
 Z7g b4 a3 cmp5 (((b4 : Int) - (IntKind.i64.wrap (a3 + 1))).toNat + 1) data1 (IntKind.i64.wrap (a3 + 1))
theorem Zvf (v2 : Value) (data1 : (List Int)) (a3 : Int) (b4 : Int) (cmp5 : (Int → Int → Option Int)) (r : (List Int)) (h : Zfk data1 a3 b4 cmp5 = some r) : Con Tryz.prog 301 [Ze v2, rd (Z0 .i64) a3, rd (Z0 .i64) b4, fn2 Tryz.prog (Z0 .i64) (Z0 .i64) (Z0 .i64) cmp5] (Zb v2 3 (Z0 .i64) data1) (fun _ : Unit => top) (fun _ => Zb v2 3 (Z0 .i64) r) := by
 refine Con.intro Tryz.func301 rfl Tryz.ntmps301 rfl fun w H X => ?_
 unfold Zfk at h
 refine SR <| Md rfl <| Ac (Z08 rfl rfl (vt rfl) (vk rfl)) rfl <| As rfl <| Nl <| AW.block <| AW.loopG (d := []) (ν := Nat × (List Int) × Int) (fun n => True ∧ Z7g b4 a3 cmp5 n.1 n.2.1 n.2.2 = some r) (fun n => n.1) (fun n => [(0, Ze v2), (1, rd (Z0 .i64) a3), (2, rd (Z0 .i64) b4), (3, fn2 Tryz.prog (Z0 .i64) (Z0 .i64) (Z0 .i64) cmp5), (8, rd (Z0 .i64) n.2.2)]) (fun n => [(0, Zb v2 3 (Z0 .i64) n.2.1)]) ((((b4 : Int) - (IntKind.i64.wrap (a3 + 1))).toNat + 1), data1, (IntKind.i64.wrap (a3 + 1))) ⟨trivial, h⟩ (FX rfl) ?_
 rintro ⟨m10, l8, i9⟩ ⟨hsf1, h⟩
 change True at hsf1
 change Z7g b4 a3 cmp5 m10 l8 i9 = some r at h
 change AW _ _ _ ⟨Zw [(0, Ze v2), (1, rd (Z0 .i64) a3), (2, rd (Z0 .i64) b4), (3, fn2 Tryz.prog (Z0 .i64) (Z0 .i64) (Z0 .i64) cmp5), (8, rd (Z0 .i64) i9)], Zx [(0, Zb v2 3 (Z0 .i64) l8)], _⟩
 cases m10 with
 | zero => cases h
 | succ m10 =>
  unfold Z7g at h
  generalize hgo1 : Z7g b4 a3 cmp5 m10 = go1 at h
  refine AW.seq <| SR <| Md rfl <| Md rfl <| Ac (Zp rfl rfl (vt rfl) (vt rfl)) rfl <| Nl <| Cn rfl (fun hc => ?_) (fun hc => ?_)
  ·have h := Zf hc h
   refine AW.skip <| AW.seq <| AW.block <| SR <| Md rfl <| As rfl <| Nl <| AW.block <| AW.loopG (d := []) (ν := Nat × (List Int) × Int) (fun n => True ∧ Z8h a3 cmp5 go1 i9 n.1 n.2.1 n.2.2 = some r) (fun n => n.1) (fun n => [(0, Ze v2), (1, rd (Z0 .i64) a3), (2, rd (Z0 .i64) b4), (3, fn2 Tryz.prog (Z0 .i64) (Z0 .i64) (Z0 .i64) cmp5), (8, rd (Z0 .i64) i9), (9, rd (Z0 .i64) n.2.2)]) (fun n => [(0, Zb v2 3 (Z0 .i64) n.2.1)]) (Z0y, l8, i9) ⟨trivial, h⟩ (FX rfl) ?_
   rintro ⟨m15, l13, j14⟩ ⟨hsf2, h⟩
   change True at hsf2
   change Z8h a3 cmp5 go1 i9 m15 l13 j14 = some r at h
   change AW _ _ _ ⟨Zw [(0, Ze v2), (1, rd (Z0 .i64) a3), (2, rd (Z0 .i64) b4), (3, fn2 Tryz.prog (Z0 .i64) (Z0 .i64) (Z0 .i64) cmp5), (8, rd (Z0 .i64) i9), (9, rd (Z0 .i64) j14)], Zx [(0, Zb v2 3 (Z0 .i64) l13)], _⟩
   cases m15 with
   | zero => cases h
   | succ m15 =>
    unfold Z8h at h
    generalize hgo2 : Z8h a3 cmp5 go1 i9 m15 = go2 at h
    refine AW.seq <| AW.seq ?_
    obtain ⟨e16, he16, h⟩ := Z1 h
    obtain ⟨e17, he17, h⟩ := Z1 h
    obtain ⟨x18, hx18, h⟩ := Z1 h
    refine AW.regionAny [⟨[9], [18], [], []⟩, ⟨[1], [19], [], []⟩, ⟨[18, 19], [20], [], []⟩, ⟨[20], [21], [], []⟩, ⟨[3, 21], [22], [], []⟩, ⟨[0, 21], [23], [], []⟩, ⟨[9, 21], [24], [], []⟩, ⟨[23, 24, 21], [25], [0], []⟩, ⟨[25, 21], [26], [0], []⟩, ⟨[0, 21], [27], [], []⟩, ⟨[9, 21], [28], [], []⟩, ⟨[28, 21], [29], [], []⟩, ⟨[27, 29, 21], [30], [0], []⟩, ⟨[30, 21], [31], [0], []⟩, ⟨[22, 26, 31, 21], [32], [], []⟩, ⟨[32, 21], [33], [], []⟩, ⟨[33, 21], [34], [], []⟩] Z05 (by kernel_rfl) <| Zu rfl <| Zu rfl <| Sc (lo [18, 19] [] rfl fun S hs hr => Z3l rfl rfl (vh hs 18 rfl rfl) (vh hs 19 rfl rfl)) rfl <| Zu rfl <| Sc (lg [3, 21] [] rfl fun hq S hs hr => Zt (A := fn2 Tryz.prog (Z0 .i64) (Z0 .i64) (Z0 .i64) cmp5) rfl rfl (vh hs 3 rfl rfl)) rfl <| Sc (lg [0, 21] [] rfl fun hq S hs hr => Zt (A := Ze v2) rfl rfl (vh hs 0 rfl rfl)) rfl <| Sc (lg [9, 21] [] rfl fun hq S hs hr => Zt (A := rd (Z0 .i64) j14) rfl rfl (vh hs 9 rfl rfl)) rfl <| Sc (lg [23, 24, 21] [0] rfl fun hq S hs hr => Z1q 0 rfl rfl Z0t (Zs ((hs 23 rfl).trans rfl) hq) ((hr 0 rfl).trans rfl) (Zs ((hs 24 rfl).trans rfl) hq) (Z2b he16 hq)) rfl <| Sc (lg [25, 21] [0] rfl fun hq S hs hr => Z1g 0 rfl rfl ty3 (Zs ((hs 25 rfl).trans rfl) hq) ((hr 0 rfl).trans rfl) (Z0g (Z2b he16 hq)).2) rfl <| Sc (lg [0, 21] [] rfl fun hq S hs hr => Zt (A := Ze v2) rfl rfl (vh hs 0 rfl rfl)) rfl <| Sc (lg [9, 21] [] rfl fun hq S hs hr => Zt (A := rd (Z0 .i64) j14) rfl rfl (vh hs 9 rfl rfl)) rfl <| Sc (lg [28, 21] [] rfl fun hq S hs hr => Z0j rfl rfl (Zs ((hs 28 rfl).trans rfl) hq) (vk rfl)) rfl <| Sc (lg [27, 29, 21] [0] rfl fun hq S hs hr => Z1q 0 rfl rfl Z0t (Zs ((hs 27 rfl).trans rfl) hq) ((hr 0 rfl).trans rfl) (Zs ((hs 29 rfl).trans rfl) hq) (Z2b he17 hq)) rfl <| Sc (lg [30, 21] [0] rfl fun hq S hs hr => Z1g 0 rfl rfl ty3 (Zs ((hs 30 rfl).trans rfl) hq) ((hr 0 rfl).trans rfl) (Z0g (Z2b he17 hq)).2) rfl <| Sc (lg [22, 26, 31, 21] [] rfl fun hq S hs hr => Zb6 (Z2b hx18 hq) rfl rfl (Zs ((hs 22 rfl).trans rfl) hq) (Zs ((hs 26 rfl).trans rfl) hq) (Zs ((hs 31 rfl).trans rfl) hq)) rfl <| Sc (lg [32, 21] [] rfl fun hq S hs hr => Zp rfl rfl (Zs ((hs 32 rfl).trans rfl) hq) (vk rfl)) rfl <| Sc (lo [33, 21] [] rfl fun S hs hr => Z1w rfl rfl (vh hs 21 rfl rfl) (vh hs 33 rfl rfl)) rfl <| Cn rfl (fun hc => ?_) (fun hc => ?_)
    ·have h := Zf hc h
     refine AW.skip <| AW.seq <| AW.block <| AW.vlen 0 rfl fun hvl0_273 => ?_
     obtain ⟨e19, he19, h⟩ := Z1 h
     obtain ⟨e20, he20, h⟩ := Z1 h
     obtain ⟨e21, he21, h⟩ := Z1 h
     obtain ⟨e22, he22, h⟩ := Z1 h
     refine AW.regionAny [⟨[0], [37], [], []⟩, ⟨[9], [38], [], []⟩, ⟨[0], [39], [], []⟩, ⟨[9], [40], [], []⟩, ⟨[40], [41], [], []⟩, ⟨[0], [42], [], []⟩, ⟨[9], [43], [], []⟩, ⟨[43], [44], [], []⟩, ⟨[42, 44], [45], [], []⟩, ⟨[45], [46], [0], []⟩, ⟨[0], [47], [], []⟩, ⟨[9], [48], [], []⟩, ⟨[47, 48], [49], [], []⟩, ⟨[49], [50], [0], []⟩, ⟨[37, 38], [51], [], []⟩, ⟨[51, 46], [], [0], [0]⟩, ⟨[39, 41], [52], [], []⟩, ⟨[52, 50], [], [0], [0]⟩] Z05 (by kernel_rfl) <| SMw rfl <| Zu rfl <| SMw rfl <| Zu rfl <| Sc (lo [40] [] rfl fun S hs hr => Z0j rfl rfl (vh hs 40 rfl rfl) (vk rfl)) rfl <| SMw rfl <| Zu rfl <| Sc (lo [43] [] rfl fun S hs hr => Z0j rfl rfl (vh hs 43 rfl rfl) (vk rfl)) rfl <| Sc (lo [42, 44] [] rfl fun S hs hr => Z24 (l := l13) hvl0_273 rfl rfl rfl Z0t (vh hs 42 rfl rfl) (vh hs 44 rfl rfl) he19) rfl <| Sc (lo [45] [0] rfl fun S hs hr => Z1g 0 rfl rfl ty3 (vh hs 45 rfl rfl) ((hr 0 rfl).trans rfl) (Z0g he19).2) rfl <| SMw rfl <| Zu rfl <| Sc (lo [47, 48] [] rfl fun S hs hr => Z24 (l := l13) hvl0_273 rfl rfl rfl Z0t (vh hs 47 rfl rfl) (vh hs 48 rfl rfl) he20) rfl <| Sc (lo [49] [0] rfl fun S hs hr => Z1g 0 rfl rfl ty3 (vh hs 49 rfl rfl) ((hr 0 rfl).trans rfl) (Z0g he20).2) rfl <| Sc (lo [37, 38] [] rfl fun S hs hr => Z24 (l := l13) hvl0_273 rfl rfl rfl Z0t (vh hs 37 rfl rfl) (vh hs 38 rfl rfl) he21) rfl <| Sc (Z3t [51, 46] [0] rfl fun S hs hr => Z2h 0 rfl rfl ty3 (vh hs 51 rfl rfl) ((hr 0 rfl).trans rfl) (Z0g he21).2 (vh hs 46 rfl rfl)) rfl <| Sc (lo [39, 41] [] rfl fun S hs hr => Z24 (l := (List.set l13 j14.toNat e19)) hvl0_273 (by simp) rfl rfl Z0t (vh hs 39 rfl rfl) (vh hs 41 rfl rfl) he22) rfl <| Sc (Z3t [52, 50] [0] rfl fun S hs hr => Z2h 0 rfl rfl ty3 (vh hs 52 rfl rfl) ((hr 0 rfl).trans rfl) (Z0g he22).2 (vh hs 50 rfl rfl)) rfl <| Rg <| Md rfl <| Ac (Z0j rfl rfl (vt rfl) (vk rfl)) rfl <| As rfl <| Nl ?_
     subst hgo2
     exact ⟨(m15, (List.set (List.set l13 j14.toNat e19) (IntKind.i64.wrap (j14 - 1)).toNat e20), (IntKind.i64.wrap (j14 - 1))), Nat.lt_succ_self _, ⟨trivial, h⟩, FX rfl⟩
    ·have h := Zg hc h
     refine AW.exit <| Rg <| Md rfl <| Ac (Z08 rfl rfl (vt rfl) (vk rfl)) rfl <| As rfl <| Nl ?_
     subst hgo1
     exact ⟨(m10, l13, (IntKind.i64.wrap (i9 + 1))), Nat.lt_succ_self _, ⟨trivial, h⟩, FX rfl⟩
  ·have h := Zg hc h
   refine AW.exit ?_
   obtain rfl := si h
   exact Z27 (i := 0) Tryz.results301 rfl rfl
def Zdh (n5 : Int) (b4 : Int) (a3 : Int) : Nat → (List Int) → Int → Option (List Int)
 | 0, _, _ => none
 | m11 + 1, l9, i10 => (bif (decide (i10 < n5)) then (lget l9 (IntKind.i64.wrap (b4 + i10))).bind fun e12 => (lget l9 (IntKind.i64.wrap (a3 + i10))).bind fun e13 => (lget l9 (IntKind.i64.wrap (a3 + i10))).bind fun e14 => (lget (List.set l9 (IntKind.i64.wrap (a3 + i10)).toNat e12) (IntKind.i64.wrap (b4 + i10))).bind fun e15 => (Zdh n5 b4 a3 m11) (List.set (List.set l9 (IntKind.i64.wrap (a3 + i10)).toNat e12) (IntKind.i64.wrap (b4 + i10)).toNat e13) (IntKind.i64.wrap (i10 + 1)) else some l9)
def Ziz (data1 : (List Int)) (a3 : Int) (b4 : Int) (n5 : Int) (cmp6 : (Int → Int → Option Int)) : Option (List Int) :=
 Zdh n5 b4 a3 (((n5 : Int) - 0).toNat + 1) data1 0
theorem Zs3 (v2 : Value) (data1 : (List Int)) (a3 : Int) (b4 : Int) (n5 : Int) (cmp6 : (Int → Int → Option Int)) (r : (List Int)) (h : Ziz data1 a3 b4 n5 cmp6 = some r) : Con Tryz.prog 341 [Ze v2, rd (Z0 .i64) a3, rd (Z0 .i64) b4, rd (Z0 .i64) n5, fn2 Tryz.prog (Z0 .i64) (Z0 .i64) (Z0 .i64) cmp6] (Zb v2 3 (Z0 .i64) data1) (fun _ : Unit => top) (fun _ => Zb v2 3 (Z0 .i64) r) := by
 refine Con.intro Tryz.func341 rfl Tryz.ntmps341 rfl fun w H X => ?_
 unfold Ziz at h
 refine SR <| Ak rfl <| Nl <| AW.block <| AW.loopG (d := []) (ν := Nat × (List Int) × Int) (fun n => True ∧ Zdh n5 b4 a3 n.1 n.2.1 n.2.2 = some r) (fun n => n.1) (fun n => [(0, Ze v2), (1, rd (Z0 .i64) a3), (2, rd (Z0 .i64) b4), (3, rd (Z0 .i64) n5), (10, rd (Z0 .i64) n.2.2)]) (fun n => [(0, Zb v2 3 (Z0 .i64) n.2.1)]) ((((n5 : Int) - 0).toNat + 1), data1, 0) ⟨trivial, h⟩ (FX rfl) ?_
 rintro ⟨m11, l9, i10⟩ ⟨hsf1, h⟩
 change True at hsf1
 change Zdh n5 b4 a3 m11 l9 i10 = some r at h
 change AW _ _ _ ⟨Zw [(0, Ze v2), (1, rd (Z0 .i64) a3), (2, rd (Z0 .i64) b4), (3, rd (Z0 .i64) n5), (10, rd (Z0 .i64) i10)], Zx [(0, Zb v2 3 (Z0 .i64) l9)], _⟩
 cases m11 with
 | zero => cases h
 | succ m11 =>
  unfold Zdh at h
  generalize hgo1 : Zdh n5 b4 a3 m11 = go1 at h
  refine AW.seq <| SR <| Md rfl <| Md rfl <| Ac (Zp rfl rfl (vt rfl) (vt rfl)) rfl <| Nl <| Cn rfl (fun hc => ?_) (fun hc => ?_)
  ·have h := Zf hc h
   refine AW.skip <| AW.seq <| AW.block <| AW.vlen 0 rfl fun hvl0_127 => ?_
   obtain ⟨e12, he12, h⟩ := Z1 h
   obtain ⟨e13, he13, h⟩ := Z1 h
   obtain ⟨e14, he14, h⟩ := Z1 h
   obtain ⟨e15, he15, h⟩ := Z1 h
   refine AW.regionAny [⟨[0], [16], [], []⟩, ⟨[1], [17], [], []⟩, ⟨[10], [18], [], []⟩, ⟨[17, 18], [19], [], []⟩, ⟨[0], [20], [], []⟩, ⟨[2], [21], [], []⟩, ⟨[10], [22], [], []⟩, ⟨[21, 22], [23], [], []⟩, ⟨[0], [24], [], []⟩, ⟨[2], [25], [], []⟩, ⟨[10], [26], [], []⟩, ⟨[25, 26], [27], [], []⟩, ⟨[24, 27], [28], [], []⟩, ⟨[28], [29], [0], []⟩, ⟨[0], [30], [], []⟩, ⟨[1], [31], [], []⟩, ⟨[10], [32], [], []⟩, ⟨[31, 32], [33], [], []⟩, ⟨[30, 33], [34], [], []⟩, ⟨[34], [35], [0], []⟩, ⟨[16, 19], [36], [], []⟩, ⟨[36, 29], [], [0], [0]⟩, ⟨[20, 23], [37], [], []⟩, ⟨[37, 35], [], [0], [0]⟩] Z05 (by kernel_rfl) <| SMw rfl <| Zu rfl <| Zu rfl <| Sc (lo [17, 18] [] rfl fun S hs hr => Z08 rfl rfl (vh hs 17 rfl rfl) (vh hs 18 rfl rfl)) rfl <| SMw rfl <| Zu rfl <| Zu rfl <| Sc (lo [21, 22] [] rfl fun S hs hr => Z08 rfl rfl (vh hs 21 rfl rfl) (vh hs 22 rfl rfl)) rfl <| SMw rfl <| Zu rfl <| Zu rfl <| Sc (lo [25, 26] [] rfl fun S hs hr => Z08 rfl rfl (vh hs 25 rfl rfl) (vh hs 26 rfl rfl)) rfl <| Sc (lo [24, 27] [] rfl fun S hs hr => Z24 (l := l9) hvl0_127 rfl rfl rfl Z0t (vh hs 24 rfl rfl) (vh hs 27 rfl rfl) he12) rfl <| Sc (lo [28] [0] rfl fun S hs hr => Z1g 0 rfl rfl ty3 (vh hs 28 rfl rfl) ((hr 0 rfl).trans rfl) (Z0g he12).2) rfl <| SMw rfl <| Zu rfl <| Zu rfl <| Sc (lo [31, 32] [] rfl fun S hs hr => Z08 rfl rfl (vh hs 31 rfl rfl) (vh hs 32 rfl rfl)) rfl <| Sc (lo [30, 33] [] rfl fun S hs hr => Z24 (l := l9) hvl0_127 rfl rfl rfl Z0t (vh hs 30 rfl rfl) (vh hs 33 rfl rfl) he13) rfl <| Sc (lo [34] [0] rfl fun S hs hr => Z1g 0 rfl rfl ty3 (vh hs 34 rfl rfl) ((hr 0 rfl).trans rfl) (Z0g he13).2) rfl <| Sc (lo [16, 19] [] rfl fun S hs hr => Z24 (l := l9) hvl0_127 rfl rfl rfl Z0t (vh hs 16 rfl rfl) (vh hs 19 rfl rfl) he14) rfl <| Sc (Z3t [36, 29] [0] rfl fun S hs hr => Z2h 0 rfl rfl ty3 (vh hs 36 rfl rfl) ((hr 0 rfl).trans rfl) (Z0g he14).2 (vh hs 29 rfl rfl)) rfl <| Sc (lo [20, 23] [] rfl fun S hs hr => Z24 (l := (List.set l9 (IntKind.i64.wrap (a3 + i10)).toNat e12)) hvl0_127 (by simp) rfl rfl Z0t (vh hs 20 rfl rfl) (vh hs 23 rfl rfl) he15) rfl <| Sc (Z3t [37, 35] [0] rfl fun S hs hr => Z2h 0 rfl rfl ty3 (vh hs 37 rfl rfl) ((hr 0 rfl).trans rfl) (Z0g he15).2 (vh hs 35 rfl rfl)) rfl <| Rg <| Md rfl <| Ac (Z08 rfl rfl (vt rfl) (vk rfl)) rfl <| As rfl <| Nl ?_
   subst hgo1
   exact ⟨(m11, (List.set (List.set l9 (IntKind.i64.wrap (a3 + i10)).toNat e12) (IntKind.i64.wrap (b4 + i10)).toNat e13), (IntKind.i64.wrap (i10 + 1))), Nat.lt_succ_self _, ⟨trivial, h⟩, FX rfl⟩
  ·have h := Zg hc h
   refine AW.exit ?_
   obtain rfl := si h
   exact Z27 (i := 0) Tryz.results341 rfl rfl
def Zc4 (m4 : Int) (cmp6 : (Int → Int → Option Int)) : Nat → (List Int) → Int → Int → Option (List Int)
 | 0, _, _, _ => none
 | m13 + 1, l10, i11, j12 => (bif (decide (i11 ≠ j12)) then (bif (decide (i11 > j12)) then (Ziz l10 (IntKind.i64.wrap (m4 - i11)) m4 j12 cmp6).bind fun l14 => (Zc4 m4 cmp6 m13) l14 (IntKind.i64.wrap (i11 - j12)) j12 else (Ziz l10 (IntKind.i64.wrap (m4 - i11)) (IntKind.i64.wrap ((IntKind.i64.wrap (m4 + j12)) - i11)) i11 cmp6).bind fun l15 => (Zc4 m4 cmp6 m13) l15 i11 (IntKind.i64.wrap (j12 - i11))) else (Ziz l10 (IntKind.i64.wrap (m4 - i11)) m4 i11 cmp6).bind fun l16 => some l16)
def Zp2 (data1 : (List Int)) (a3 : Int) (m4 : Int) (b5 : Int) (cmp6 : (Int → Int → Option Int)) : Option (List Int) :=
 Zc4 m4 cmp6 Z0y data1 (IntKind.i64.wrap (m4 - a3)) (IntKind.i64.wrap (b5 - m4))
theorem Ycl (v2 : Value) (data1 : (List Int)) (a3 : Int) (m4 : Int) (b5 : Int) (cmp6 : (Int → Int → Option Int)) (r : (List Int)) (h : Zp2 data1 a3 m4 b5 cmp6 = some r) : Con Tryz.prog 333 [Ze v2, rd (Z0 .i64) a3, rd (Z0 .i64) m4, rd (Z0 .i64) b5, fn2 Tryz.prog (Z0 .i64) (Z0 .i64) (Z0 .i64) cmp6] (Zb v2 3 (Z0 .i64) data1) (fun _ : Unit => top) (fun _ => Zb v2 3 (Z0 .i64) r) := by
 refine Con.intro Tryz.func333 rfl Tryz.ntmps333 rfl fun w H X => ?_
 unfold Zp2 at h
 refine SR <| Md rfl <| Md rfl <| Ac (Z0j rfl rfl (vt rfl) (vt rfl)) rfl <| As rfl <| Nl <| SR <| Md rfl <| Md rfl <| Ac (Z0j rfl rfl (vt rfl) (vt rfl)) rfl <| As rfl <| Nl <| AW.seq <| AW.block <| AW.loopG (d := []) (ν := Nat × (List Int) × Int × Int) (fun n => True ∧ Zc4 m4 cmp6 n.1 n.2.1 n.2.2.1 n.2.2.2 = some r) (fun n => n.1) (fun n => [(0, Ze v2), (2, rd (Z0 .i64) m4), (4, fn2 Tryz.prog (Z0 .i64) (Z0 .i64) (Z0 .i64) cmp6), (10, rd (Z0 .i64) n.2.2.1), (11, rd (Z0 .i64) n.2.2.2)]) (fun n => [(0, Zb v2 3 (Z0 .i64) n.2.1)]) (Z0y, data1, (IntKind.i64.wrap (m4 - a3)), (IntKind.i64.wrap (b5 - m4))) ⟨trivial, h⟩ (FX rfl) ?_
 rintro ⟨m13, l10, i11, j12⟩ ⟨hsf1, h⟩
 change True at hsf1
 change Zc4 m4 cmp6 m13 l10 i11 j12 = some r at h
 change AW _ _ _ ⟨Zw [(0, Ze v2), (2, rd (Z0 .i64) m4), (4, fn2 Tryz.prog (Z0 .i64) (Z0 .i64) (Z0 .i64) cmp6), (10, rd (Z0 .i64) i11), (11, rd (Z0 .i64) j12)], Zx [(0, Zb v2 3 (Z0 .i64) l10)], _⟩
 cases m13 with
 | zero => cases h
 | succ m13 =>
  unfold Zc4 at h
  generalize hgo1 : Zc4 m4 cmp6 m13 = go1 at h
  refine AW.seq <| SR <| Md rfl <| Md rfl <| Ac (Z8m rfl rfl (vt rfl) (vt rfl)) rfl <| Nl <| Cn rfl (fun hc => ?_) (fun hc => ?_)
  ·have h := Zf hc h
   refine AW.skip <| AW.block <| SR <| Md rfl <| Md rfl <| Ac (Z3l rfl rfl (vt rfl) (vt rfl)) rfl <| Nl <| Cn rfl (fun hc => ?_) (fun hc => ?_)
   ·have h := Zf hc h
    refine AW.seq ?_
    obtain ⟨l14, hl14, h⟩ := Z1 h
    refine Rg <| Mw rfl <| Md rfl <| Md rfl <| Ac (Z0j rfl rfl (vt rfl) (vt rfl)) rfl <| Md rfl <| Md rfl <| Ac (Zt (A := fn2 Tryz.prog (Z0 .i64) (Z0 .i64) (Z0 .i64) cmp6) rfl rfl (vt rfl)) rfl <| Ct rfl (Z1f 0 (xs := [.tmp 24, .tmp 27, .tmp 28, .tmp 29, .tmp 30]) (Zs3 _ _ _ _ _ _ _ hl14) Zpa rfl rfl ⟨vt rfl, vt rfl, vt rfl, vt rfl, vt rfl, trivial⟩ rfl) ?_
    rintro _ ⟨_u, rfl⟩
    refine Nl <| Rg <| Md rfl <| Md rfl <| Ac (Z0j rfl rfl (vt rfl) (vt rfl)) rfl <| As rfl <| Nl ?_
    subst hgo1
    exact ⟨(m13, l14, (IntKind.i64.wrap (i11 - j12)), j12), Nat.lt_succ_self _, ⟨trivial, h⟩, FX rfl⟩
   ·have h := Zg hc h
    refine AW.seq ?_
    obtain ⟨l15, hl15, h⟩ := Z1 h
    refine Rg <| Mw rfl <| Md rfl <| Md rfl <| Ac (Z0j rfl rfl (vt rfl) (vt rfl)) rfl <| Md rfl <| Md rfl <| Ac (Z08 rfl rfl (vt rfl) (vt rfl)) rfl <| Md rfl <| Ac (Z0j rfl rfl (vt rfl) (vt rfl)) rfl <| Md rfl <| Ac (Zt (A := fn2 Tryz.prog (Z0 .i64) (Z0 .i64) (Z0 .i64) cmp6) rfl rfl (vt rfl)) rfl <| Ct rfl (Z1f 0 (xs := [.tmp 35, .tmp 38, .tmp 43, .tmp 44, .tmp 45]) (Zs3 _ _ _ _ _ _ _ hl15) Zpa rfl rfl ⟨vt rfl, vt rfl, vt rfl, vt rfl, vt rfl, trivial⟩ rfl) ?_
    rintro _ ⟨_u, rfl⟩
    refine Nl <| Rg <| Md rfl <| Md rfl <| Ac (Z0j rfl rfl (vt rfl) (vt rfl)) rfl <| As rfl <| Nl ?_
    subst hgo1
    exact ⟨(m13, l15, i11, (IntKind.i64.wrap (j12 - i11))), Nat.lt_succ_self _, ⟨trivial, h⟩, FX rfl⟩
  ·have h := Zg hc h
   refine AW.exit ?_
   obtain ⟨l16, hl16, h⟩ := Z1 h
   refine Rg <| Mw rfl <| Md rfl <| Md rfl <| Ac (Z0j rfl rfl (vt rfl) (vt rfl)) rfl <| Md rfl <| Md rfl <| Ac (Zt (A := fn2 Tryz.prog (Z0 .i64) (Z0 .i64) (Z0 .i64) cmp6) rfl rfl (vt rfl)) rfl <| Ct rfl (Z1f 0 (xs := [.tmp 50, .tmp 53, .tmp 54, .tmp 55, .tmp 56]) (Zs3 _ _ _ _ _ _ _ hl16) Zpa rfl rfl ⟨vt rfl, vt rfl, vt rfl, vt rfl, vt rfl, trivial⟩ rfl) ?_
   rintro _ ⟨_u, rfl⟩
   refine Nl ?_
   obtain rfl := si h
   exact Z27 (i := 0) Tryz.results333 rfl rfl
def Zec (i9 : Int) : Nat → (List Int) → Int → Option (List Int)
 | 0, _, _ => none
 | m20 + 1, l18, k19 => (bif (decide (k19 < (IntKind.i64.wrap (i9 - 1)))) then (lget l18 (IntKind.i64.wrap (k19 + 1))).bind fun e21 => (lget l18 k19).bind fun e22 => (lget l18 k19).bind fun e23 => (lget (List.set l18 k19.toNat e21) (IntKind.i64.wrap (k19 + 1))).bind fun e24 => (Zec i9 m20) (List.set (List.set l18 k19.toNat e21) (IntKind.i64.wrap (k19 + 1)).toNat e22) (IntKind.i64.wrap (k19 + 1)) else some l18)
def Zbv (data1 : (List Int)) (a3 : Int) (cmp6 : (Int → Int → Option Int)) : Nat → Int → Int → Option (List Int)
 | 0, _, _ => none
 | m11 + 1, i9, j10 => (bif (decide (i9 < j10)) then (Z38 (BitVec.ofInt 64 (IntKind.i64.wrap (i9 + j10))) ((1 : BitVec 64).toNat : Int)).bind fun q12 => (lget data1 (IntKind.i64.wrap (q12.toNat : Int))).bind fun e13 => (lget data1 a3).bind fun e14 => (cmp6 e13 e14).bind fun x15 => (bif (decide (x15 < 0)) then (Zbv data1 a3 cmp6 m11) (IntKind.i64.wrap ((IntKind.i64.wrap (q12.toNat : Int)) + 1)) j10 else (Zbv data1 a3 cmp6 m11) i9 (IntKind.i64.wrap (q12.toNat : Int))) else Zec i9 ((((IntKind.i64.wrap (i9 - 1)) : Int) - a3).toNat + 1) data1 a3)
def Zfm (i27 : Int) : Nat → (List Int) → Int → Option (List Int)
 | 0, _, _ => none
 | m38 + 1, l36, k37 => (bif (decide (k37 > i27)) then (lget l36 (IntKind.i64.wrap (k37 - 1))).bind fun e39 => (lget l36 k37).bind fun e40 => (lget l36 k37).bind fun e41 => (lget (List.set l36 k37.toNat e39) (IntKind.i64.wrap (k37 - 1))).bind fun e42 => (Zfm i27 m38) (List.set (List.set l36 k37.toNat e39) (IntKind.i64.wrap (k37 - 1)).toNat e40) (IntKind.i64.wrap (k37 - 1)) else some l36)
def Zd4 (data1 : (List Int)) (m4 : Int) (cmp6 : (Int → Int → Option Int)) : Nat → Int → Int → Option (List Int)
 | 0, _, _ => none
 | m29 + 1, i27, j28 => (bif (decide (i27 < j28)) then (Z38 (BitVec.ofInt 64 (IntKind.i64.wrap (i27 + j28))) ((1 : BitVec 64).toNat : Int)).bind fun q30 => (lget data1 m4).bind fun e31 => (lget data1 (IntKind.i64.wrap (q30.toNat : Int))).bind fun e32 => (cmp6 e31 e32).bind fun x33 => (bif (!(decide (x33 < 0))) then (Zd4 data1 m4 cmp6 m29) (IntKind.i64.wrap ((IntKind.i64.wrap (q30.toNat : Int)) + 1)) j28 else (Zd4 data1 m4 cmp6 m29) i27 (IntKind.i64.wrap (q30.toNat : Int))) else Zfm i27 (((m4 : Int) - i27).toNat + 1) data1 m4)
def Zm0 (q43 : (BitVec 64)) (m4 : Int) (start48 : Int) (b5 : Int) (R_slices_symMergeCmpFunc_int : ((List Int) → Int → Int → Int → (Int → Int → Option Int) → Option (List Int))) (cmp6 : (Int → Int → Option Int)) (l56 : (List Int)) : Option (List Int) :=
 (bif ((decide ((IntKind.i64.wrap (q43.toNat : Int)) < (IntKind.i64.wrap ((IntKind.i64.wrap ((IntKind.i64.wrap (q43.toNat : Int)) + m4)) - start48)))) && (decide ((IntKind.i64.wrap ((IntKind.i64.wrap ((IntKind.i64.wrap (q43.toNat : Int)) + m4)) - start48)) < b5))) then (R_slices_symMergeCmpFunc_int l56 (IntKind.i64.wrap (q43.toNat : Int)) (IntKind.i64.wrap ((IntKind.i64.wrap ((IntKind.i64.wrap (q43.toNat : Int)) + m4)) - start48)) b5 cmp6).bind fun l57 => some l57 else some l56)
def Zmk (a3 : Int) (start48 : Int) (q43 : (BitVec 64)) (R_slices_symMergeCmpFunc_int : ((List Int) → Int → Int → Int → (Int → Int → Option Int) → Option (List Int))) (cmp6 : (Int → Int → Option Int)) (m4 : Int) (b5 : Int) (l55 : (List Int)) : Option (List Int) :=
 (bif ((decide (a3 < start48)) && (decide (start48 < (IntKind.i64.wrap (q43.toNat : Int))))) then (R_slices_symMergeCmpFunc_int l55 a3 start48 (IntKind.i64.wrap (q43.toNat : Int)) cmp6).bind fun l58 => Zm0 q43 m4 start48 b5 R_slices_symMergeCmpFunc_int cmp6 l58 else Zm0 q43 m4 start48 b5 R_slices_symMergeCmpFunc_int cmp6 l55)
def Zct (data1 : (List Int)) (q43 : (BitVec 64)) (m4 : Int) (cmp6 : (Int → Int → Option Int)) (a3 : Int) (R_slices_symMergeCmpFunc_int : ((List Int) → Int → Int → Int → (Int → Int → Option Int) → Option (List Int))) (b5 : Int) : Nat → Int → Int → Option (List Int)
 | 0, _, _ => none
 | m50 + 1, start48, r49 => (bif (decide (start48 < r49)) then (Z38 (BitVec.ofInt 64 (IntKind.i64.wrap (start48 + r49))) ((1 : BitVec 64).toNat : Int)).bind fun q51 => (lget data1 (IntKind.i64.wrap ((IntKind.i64.wrap ((IntKind.i64.wrap ((IntKind.i64.wrap (q43.toNat : Int)) + m4)) - 1)) - (IntKind.i64.wrap (q51.toNat : Int))))).bind fun e52 => (lget data1 (IntKind.i64.wrap (q51.toNat : Int))).bind fun e53 => (cmp6 e52 e53).bind fun x54 => (bif (!(decide (x54 < 0))) then (Zct data1 q43 m4 cmp6 a3 R_slices_symMergeCmpFunc_int b5 m50) (IntKind.i64.wrap ((IntKind.i64.wrap (q51.toNat : Int)) + 1)) r49 else (Zct data1 q43 m4 cmp6 a3 R_slices_symMergeCmpFunc_int b5 m50) start48 (IntKind.i64.wrap (q51.toNat : Int))) else (bif ((decide (start48 < m4)) && (decide (m4 < (IntKind.i64.wrap ((IntKind.i64.wrap ((IntKind.i64.wrap (q43.toNat : Int)) + m4)) - start48))))) then (Zp2 data1 start48 m4 (IntKind.i64.wrap ((IntKind.i64.wrap ((IntKind.i64.wrap (q43.toNat : Int)) + m4)) - start48)) cmp6).bind fun l59 => Zmk a3 start48 q43 R_slices_symMergeCmpFunc_int cmp6 m4 b5 l59 else Zmk a3 start48 q43 R_slices_symMergeCmpFunc_int cmp6 m4 b5 data1))
def Zlk (data1 : (List Int)) (q43 : (BitVec 64)) (m4 : Int) (cmp6 : (Int → Int → Option Int)) (a3 : Int) (R_slices_symMergeCmpFunc_int : ((List Int) → Int → Int → Int → (Int → Int → Option Int) → Option (List Int))) (b5 : Int) (start44 : Int) (r45 : Int) : Option (List Int) :=
 Zct data1 q43 m4 cmp6 a3 R_slices_symMergeCmpFunc_int b5 (((r45 : Int) - start44).toNat + 1) start44 r45
def Zq1 (R_slices_symMergeCmpFunc_int : ((List Int) → Int → Int → Int → (Int → Int → Option Int) → Option (List Int))) (data1 : (List Int)) (a3 : Int) (m4 : Int) (b5 : Int) (cmp6 : (Int → Int → Option Int)) : Option (List Int) :=
 (bif (decide ((IntKind.i64.wrap (m4 - a3)) = 1)) then Zbv data1 a3 cmp6 (((b5 : Int) - m4).toNat + 1) m4 b5 else (bif (decide ((IntKind.i64.wrap (b5 - m4)) = 1)) then Zd4 data1 m4 cmp6 (((m4 : Int) - a3).toNat + 1) a3 m4 else (Z38 (BitVec.ofInt 64 (IntKind.i64.wrap (a3 + b5))) ((1 : BitVec 64).toNat : Int)).bind fun q43 => (bif (decide (m4 > (IntKind.i64.wrap (q43.toNat : Int)))) then Zlk data1 q43 m4 cmp6 a3 R_slices_symMergeCmpFunc_int b5 (IntKind.i64.wrap ((IntKind.i64.wrap ((IntKind.i64.wrap (q43.toNat : Int)) + m4)) - b5)) (IntKind.i64.wrap (q43.toNat : Int)) else Zlk data1 q43 m4 cmp6 a3 R_slices_symMergeCmpFunc_int b5 a3 m4)))
theorem Ye5 (R_slices_symMergeCmpFunc_int : ((List Int) → Int → Int → Int → (Int → Int → Option Int) → Option (List Int))) (hR_slices_symMergeCmpFunc_int : ∀ (v2 : Value) (data1 : (List Int)) (a3 : Int) (m4 : Int) (b5 : Int) (cmp6 : (Int → Int → Option Int)) (r : (List Int)), R_slices_symMergeCmpFunc_int data1 a3 m4 b5 cmp6 = some r → Con Tryz.prog 302 [Ze v2, rd (Z0 .i64) a3, rd (Z0 .i64) m4, rd (Z0 .i64) b5, fn2 Tryz.prog (Z0 .i64) (Z0 .i64) (Z0 .i64) cmp6] (Zb v2 3 (Z0 .i64) data1) (fun _ : Unit => top) (fun _ => Zb v2 3 (Z0 .i64) r)) (v2 : Value) (data1 : (List Int)) (a3 : Int) (m4 : Int) (b5 : Int) (cmp6 : (Int → Int → Option Int)) (r : (List Int)) (h : Zq1 R_slices_symMergeCmpFunc_int data1 a3 m4 b5 cmp6 = some r) : Con Tryz.prog 302 [Ze v2, rd (Z0 .i64) a3, rd (Z0 .i64) m4, rd (Z0 .i64) b5, fn2 Tryz.prog (Z0 .i64) (Z0 .i64) (Z0 .i64) cmp6] (Zb v2 3 (Z0 .i64) data1) (fun _ : Unit => top) (fun _ => Zb v2 3 (Z0 .i64) r) := by
 refine Con.intro Tryz.func302 rfl Tryz.ntmps302 rfl fun w H X => ?_
 unfold Zq1 at h
 refine AW.seq <| SR <| Md rfl <| Md rfl <| Ac (Z0j rfl rfl (vt rfl) (vt rfl)) rfl <| Ac (Z0i rfl rfl (vt rfl) (vk rfl)) rfl <| Nl <| Cn rfl (fun hc => ?_) (fun hc => ?_)
 ·have h := Zf hc h
  refine SR <| Md rfl <| As rfl <| Nl <| SR <| Md rfl <| As rfl <| Nl <| AW.seq <| AW.block <| AW.loopG (d := []) (ν := Nat × Int × Int) (fun n => True ∧ Zbv data1 a3 cmp6 n.1 n.2.1 n.2.2 = some r) (fun n => n.1) (fun n => [(0, Ze v2), (1, rd (Z0 .i64) a3), (4, fn2 Tryz.prog (Z0 .i64) (Z0 .i64) (Z0 .i64) cmp6), (10, rd (Z0 .i64) n.2.1), (11, rd (Z0 .i64) n.2.2)]) (fun n => [(0, Zb v2 3 (Z0 .i64) data1)]) ((((b5 : Int) - m4).toNat + 1), m4, b5) ⟨trivial, h⟩ (FX rfl) ?_
  rintro ⟨m11, i9, j10⟩ ⟨hsf1, h⟩
  change True at hsf1
  change Zbv data1 a3 cmp6 m11 i9 j10 = some r at h
  change AW _ _ _ ⟨Zw [(0, Ze v2), (1, rd (Z0 .i64) a3), (4, fn2 Tryz.prog (Z0 .i64) (Z0 .i64) (Z0 .i64) cmp6), (10, rd (Z0 .i64) i9), (11, rd (Z0 .i64) j10)], Zx [(0, Zb v2 3 (Z0 .i64) data1)], _⟩
  cases m11 with
  | zero => cases h
  | succ m11 =>
   unfold Zbv at h
   generalize hgo1 : Zbv data1 a3 cmp6 m11 = go1 at h
   refine AW.seq <| SR <| Md rfl <| Md rfl <| Ac (Zp rfl rfl (vt rfl) (vt rfl)) rfl <| Nl <| Cn rfl (fun hc => ?_) (fun hc => ?_)
   ·have h := Zf hc h
    refine AW.skip <| AW.block <| AW.seq ?_
    obtain ⟨q12, hq12, h⟩ := Z1 h
    refine Rg <| Md rfl <| Md rfl <| Ac (Z08 rfl rfl (vt rfl) (vt rfl)) rfl <| Ac (Z7n rfl rfl us3 Z73 (vt rfl)) rfl <| Ac (Z4u rfl rfl (vt rfl) (Z4b (vku (1 : BitVec 64) rfl)) hq12) rfl <| Ac (Z99 rfl rfl Zal un3 (vt rfl)) rfl <| As rfl <| Nl <| AW.seq ?_
    obtain ⟨e13, he13, h⟩ := Z1 h
    obtain ⟨e14, he14, h⟩ := Z1 h
    obtain ⟨x15, hx15, h⟩ := Z1 h
    refine AW.regionAny [⟨[4], [40], [], []⟩, ⟨[0], [41], [], []⟩, ⟨[12], [42], [], []⟩, ⟨[41, 42], [43], [0], []⟩, ⟨[43], [44], [0], []⟩, ⟨[0], [45], [], []⟩, ⟨[1], [46], [], []⟩, ⟨[45, 46], [47], [0], []⟩, ⟨[47], [48], [0], []⟩, ⟨[40, 44, 48], [49], [], []⟩, ⟨[49], [50], [], []⟩] Z05 (by kernel_rfl) <| Sc (lo [4] [] rfl fun S hs hr => Zt (A := fn2 Tryz.prog (Z0 .i64) (Z0 .i64) (Z0 .i64) cmp6) rfl rfl (vh hs 4 rfl rfl)) rfl <| SMw rfl <| Zu rfl <| Sc (lo [41, 42] [0] rfl fun S hs hr => Z1q 0 rfl rfl Z0t (vh hs 41 rfl rfl) ((hr 0 rfl).trans rfl) (vh hs 42 rfl rfl) he13) rfl <| Sc (lo [43] [0] rfl fun S hs hr => Z1g 0 rfl rfl ty3 (vh hs 43 rfl rfl) ((hr 0 rfl).trans rfl) (Z0g he13).2) rfl <| SMw rfl <| Zu rfl <| Sc (lo [45, 46] [0] rfl fun S hs hr => Z1q 0 rfl rfl Z0t (vh hs 45 rfl rfl) ((hr 0 rfl).trans rfl) (vh hs 46 rfl rfl) he14) rfl <| Sc (lo [47] [0] rfl fun S hs hr => Z1g 0 rfl rfl ty3 (vh hs 47 rfl rfl) ((hr 0 rfl).trans rfl) (Z0g he14).2) rfl <| Sc (lo [40, 44, 48] [] rfl fun S hs hr => Zb6 hx15 rfl rfl (vh hs 40 rfl rfl) (vh hs 44 rfl rfl) (vh hs 48 rfl rfl)) rfl <| Sc (lo [49] [] rfl fun S hs hr => Zp rfl rfl (vh hs 49 rfl rfl) (vk rfl)) rfl <| Cn rfl (fun hc => ?_) (fun hc => ?_)
    ·have h := Zf hc h
     refine Rg <| Md rfl <| Ac (Z08 rfl rfl (vt rfl) (vk rfl)) rfl <| As rfl <| Nl ?_
     subst hgo1
     exact ⟨(m11, (IntKind.i64.wrap ((IntKind.i64.wrap (q12.toNat : Int)) + 1)), j10), Nat.lt_succ_self _, ⟨trivial, h⟩, FX rfl⟩
    ·have h := Zg hc h
     refine Rg <| Md rfl <| As rfl <| Nl ?_
     subst hgo1
     exact ⟨(m11, i9, (IntKind.i64.wrap (q12.toNat : Int))), Nat.lt_succ_self _, ⟨trivial, h⟩, FX rfl⟩
   ·have h := Zg hc h
    refine AW.exit <| AW.seq <| SR <| Md rfl <| As rfl <| Nl <| AW.block <| AW.loopG (d := []) (ν := Nat × (List Int) × Int) (fun n => True ∧ Zec i9 n.1 n.2.1 n.2.2 = some r) (fun n => n.1) (fun n => [(0, Ze v2), (10, rd (Z0 .i64) i9), (13, rd (Z0 .i64) n.2.2)]) (fun n => [(0, Zb v2 3 (Z0 .i64) n.2.1)]) (((((IntKind.i64.wrap (i9 - 1)) : Int) - a3).toNat + 1), data1, a3) ⟨trivial, h⟩ (FX rfl) ?_
    rintro ⟨m20, l18, k19⟩ ⟨hsf2, h⟩
    change True at hsf2
    change Zec i9 m20 l18 k19 = some r at h
    change AW _ _ _ ⟨Zw [(0, Ze v2), (10, rd (Z0 .i64) i9), (13, rd (Z0 .i64) k19)], Zx [(0, Zb v2 3 (Z0 .i64) l18)], _⟩
    cases m20 with
    | zero => cases h
    | succ m20 =>
     unfold Zec at h
     generalize hgo2 : Zec i9 m20 = go2 at h
     refine AW.seq <| SR <| Md rfl <| Md rfl <| Ac (Z0j rfl rfl (vt rfl) (vk rfl)) rfl <| Ac (Zp rfl rfl (vt rfl) (vt rfl)) rfl <| Nl <| Cn rfl (fun hc => ?_) (fun hc => ?_)
     ·have h := Zf hc h
      refine AW.skip <| AW.seq <| AW.block <| AW.vlen 0 rfl fun hvl0_218 => ?_
      obtain ⟨e21, he21, h⟩ := Z1 h
      obtain ⟨e22, he22, h⟩ := Z1 h
      obtain ⟨e23, he23, h⟩ := Z1 h
      obtain ⟨e24, he24, h⟩ := Z1 h
      refine AW.regionAny [⟨[0], [61], [], []⟩, ⟨[13], [62], [], []⟩, ⟨[0], [63], [], []⟩, ⟨[13], [64], [], []⟩, ⟨[64], [65], [], []⟩, ⟨[0], [66], [], []⟩, ⟨[13], [67], [], []⟩, ⟨[67], [68], [], []⟩, ⟨[66, 68], [69], [], []⟩, ⟨[69], [70], [0], []⟩, ⟨[0], [71], [], []⟩, ⟨[13], [72], [], []⟩, ⟨[71, 72], [73], [], []⟩, ⟨[73], [74], [0], []⟩, ⟨[61, 62], [75], [], []⟩, ⟨[75, 70], [], [0], [0]⟩, ⟨[63, 65], [76], [], []⟩, ⟨[76, 74], [], [0], [0]⟩] Z05 (by kernel_rfl) <| SMw rfl <| Zu rfl <| SMw rfl <| Zu rfl <| Sc (lo [64] [] rfl fun S hs hr => Z08 rfl rfl (vh hs 64 rfl rfl) (vk rfl)) rfl <| SMw rfl <| Zu rfl <| Sc (lo [67] [] rfl fun S hs hr => Z08 rfl rfl (vh hs 67 rfl rfl) (vk rfl)) rfl <| Sc (lo [66, 68] [] rfl fun S hs hr => Z24 (l := l18) hvl0_218 rfl rfl rfl Z0t (vh hs 66 rfl rfl) (vh hs 68 rfl rfl) he21) rfl <| Sc (lo [69] [0] rfl fun S hs hr => Z1g 0 rfl rfl ty3 (vh hs 69 rfl rfl) ((hr 0 rfl).trans rfl) (Z0g he21).2) rfl <| SMw rfl <| Zu rfl <| Sc (lo [71, 72] [] rfl fun S hs hr => Z24 (l := l18) hvl0_218 rfl rfl rfl Z0t (vh hs 71 rfl rfl) (vh hs 72 rfl rfl) he22) rfl <| Sc (lo [73] [0] rfl fun S hs hr => Z1g 0 rfl rfl ty3 (vh hs 73 rfl rfl) ((hr 0 rfl).trans rfl) (Z0g he22).2) rfl <| Sc (lo [61, 62] [] rfl fun S hs hr => Z24 (l := l18) hvl0_218 rfl rfl rfl Z0t (vh hs 61 rfl rfl) (vh hs 62 rfl rfl) he23) rfl <| Sc (Z3t [75, 70] [0] rfl fun S hs hr => Z2h 0 rfl rfl ty3 (vh hs 75 rfl rfl) ((hr 0 rfl).trans rfl) (Z0g he23).2 (vh hs 70 rfl rfl)) rfl <| Sc (lo [63, 65] [] rfl fun S hs hr => Z24 (l := (List.set l18 k19.toNat e21)) hvl0_218 (by simp) rfl rfl Z0t (vh hs 63 rfl rfl) (vh hs 65 rfl rfl) he24) rfl <| Sc (Z3t [76, 74] [0] rfl fun S hs hr => Z2h 0 rfl rfl ty3 (vh hs 76 rfl rfl) ((hr 0 rfl).trans rfl) (Z0g he24).2 (vh hs 74 rfl rfl)) rfl <| Rg <| Md rfl <| Ac (Z08 rfl rfl (vt rfl) (vk rfl)) rfl <| As rfl <| Nl ?_
      subst hgo2
      exact ⟨(m20, (List.set (List.set l18 k19.toNat e21) (IntKind.i64.wrap (k19 + 1)).toNat e22), (IntKind.i64.wrap (k19 + 1))), Nat.lt_succ_self _, ⟨trivial, h⟩, FX rfl⟩
     ·have h := Zg hc h
      refine AW.exit <| AW.ret ?_
      obtain rfl := si h
      exact Z27 (i := 0) Tryz.results302 rfl rfl
 ·have h := Zg hc h
  refine AW.skip <| AW.seq <| SR <| Md rfl <| Md rfl <| Ac (Z0j rfl rfl (vt rfl) (vt rfl)) rfl <| Ac (Z0i rfl rfl (vt rfl) (vk rfl)) rfl <| Nl <| Cn rfl (fun hc => ?_) (fun hc => ?_)
  ·have h := Zf hc h
   refine SR <| Md rfl <| As rfl <| Nl <| SR <| Md rfl <| As rfl <| Nl <| AW.seq <| AW.block <| AW.loopG (d := []) (ν := Nat × Int × Int) (fun n => True ∧ Zd4 data1 m4 cmp6 n.1 n.2.1 n.2.2 = some r) (fun n => n.1) (fun n => [(0, Ze v2), (2, rd (Z0 .i64) m4), (4, fn2 Tryz.prog (Z0 .i64) (Z0 .i64) (Z0 .i64) cmp6), (14, rd (Z0 .i64) n.2.1), (15, rd (Z0 .i64) n.2.2)]) (fun n => [(0, Zb v2 3 (Z0 .i64) data1)]) ((((m4 : Int) - a3).toNat + 1), a3, m4) ⟨trivial, h⟩ (FX rfl) ?_
   rintro ⟨m29, i27, j28⟩ ⟨hsf3, h⟩
   change True at hsf3
   change Zd4 data1 m4 cmp6 m29 i27 j28 = some r at h
   change AW _ _ _ ⟨Zw [(0, Ze v2), (2, rd (Z0 .i64) m4), (4, fn2 Tryz.prog (Z0 .i64) (Z0 .i64) (Z0 .i64) cmp6), (14, rd (Z0 .i64) i27), (15, rd (Z0 .i64) j28)], Zx [(0, Zb v2 3 (Z0 .i64) data1)], _⟩
   cases m29 with
   | zero => cases h
   | succ m29 =>
    unfold Zd4 at h
    generalize hgo3 : Zd4 data1 m4 cmp6 m29 = go3 at h
    refine AW.seq <| SR <| Md rfl <| Md rfl <| Ac (Zp rfl rfl (vt rfl) (vt rfl)) rfl <| Nl <| Cn rfl (fun hc => ?_) (fun hc => ?_)
    ·have h := Zf hc h
     refine AW.skip <| AW.block <| AW.seq ?_
     obtain ⟨q30, hq30, h⟩ := Z1 h
     refine Rg <| Md rfl <| Md rfl <| Ac (Z08 rfl rfl (vt rfl) (vt rfl)) rfl <| Ac (Z7n rfl rfl us3 Z73 (vt rfl)) rfl <| Ac (Z4u rfl rfl (vt rfl) (Z4b (vku (1 : BitVec 64) rfl)) hq30) rfl <| Ac (Z99 rfl rfl Zal un3 (vt rfl)) rfl <| As rfl <| Nl <| AW.seq ?_
     obtain ⟨e31, he31, h⟩ := Z1 h
     obtain ⟨e32, he32, h⟩ := Z1 h
     obtain ⟨x33, hx33, h⟩ := Z1 h
     refine AW.regionAny [⟨[4], [92], [], []⟩, ⟨[0], [93], [], []⟩, ⟨[2], [94], [], []⟩, ⟨[93, 94], [95], [0], []⟩, ⟨[95], [96], [0], []⟩, ⟨[0], [97], [], []⟩, ⟨[16], [98], [], []⟩, ⟨[97, 98], [99], [0], []⟩, ⟨[99], [100], [0], []⟩, ⟨[92, 96, 100], [101], [], []⟩, ⟨[101], [102], [], []⟩, ⟨[102], [103], [], []⟩] Z05 (by kernel_rfl) <| Sc (lo [4] [] rfl fun S hs hr => Zt (A := fn2 Tryz.prog (Z0 .i64) (Z0 .i64) (Z0 .i64) cmp6) rfl rfl (vh hs 4 rfl rfl)) rfl <| SMw rfl <| Zu rfl <| Sc (lo [93, 94] [0] rfl fun S hs hr => Z1q 0 rfl rfl Z0t (vh hs 93 rfl rfl) ((hr 0 rfl).trans rfl) (vh hs 94 rfl rfl) he31) rfl <| Sc (lo [95] [0] rfl fun S hs hr => Z1g 0 rfl rfl ty3 (vh hs 95 rfl rfl) ((hr 0 rfl).trans rfl) (Z0g he31).2) rfl <| SMw rfl <| Zu rfl <| Sc (lo [97, 98] [0] rfl fun S hs hr => Z1q 0 rfl rfl Z0t (vh hs 97 rfl rfl) ((hr 0 rfl).trans rfl) (vh hs 98 rfl rfl) he32) rfl <| Sc (lo [99] [0] rfl fun S hs hr => Z1g 0 rfl rfl ty3 (vh hs 99 rfl rfl) ((hr 0 rfl).trans rfl) (Z0g he32).2) rfl <| Sc (lo [92, 96, 100] [] rfl fun S hs hr => Zb6 hx33 rfl rfl (vh hs 92 rfl rfl) (vh hs 96 rfl rfl) (vh hs 100 rfl rfl)) rfl <| Sc (lo [101] [] rfl fun S hs hr => Zp rfl rfl (vh hs 101 rfl rfl) (vk rfl)) rfl <| Sc (lo [102] [] rfl fun S hs hr => Z19 rfl rfl (vh hs 102 rfl rfl)) rfl <| Cn rfl (fun hc => ?_) (fun hc => ?_)
     ·have h := Zf hc h
      refine Rg <| Md rfl <| Ac (Z08 rfl rfl (vt rfl) (vk rfl)) rfl <| As rfl <| Nl ?_
      subst hgo3
      exact ⟨(m29, (IntKind.i64.wrap ((IntKind.i64.wrap (q30.toNat : Int)) + 1)), j28), Nat.lt_succ_self _, ⟨trivial, h⟩, FX rfl⟩
     ·have h := Zg hc h
      refine Rg <| Md rfl <| As rfl <| Nl ?_
      subst hgo3
      exact ⟨(m29, i27, (IntKind.i64.wrap (q30.toNat : Int))), Nat.lt_succ_self _, ⟨trivial, h⟩, FX rfl⟩
    ·have h := Zg hc h
     refine AW.exit <| AW.seq <| SR <| Md rfl <| As rfl <| Nl <| AW.block <| AW.loopG (d := []) (ν := Nat × (List Int) × Int) (fun n => True ∧ Zfm i27 n.1 n.2.1 n.2.2 = some r) (fun n => n.1) (fun n => [(0, Ze v2), (14, rd (Z0 .i64) i27), (17, rd (Z0 .i64) n.2.2)]) (fun n => [(0, Zb v2 3 (Z0 .i64) n.2.1)]) ((((m4 : Int) - i27).toNat + 1), data1, m4) ⟨trivial, h⟩ (FX rfl) ?_
     rintro ⟨m38, l36, k37⟩ ⟨hsf4, h⟩
     change True at hsf4
     change Zfm i27 m38 l36 k37 = some r at h
     change AW _ _ _ ⟨Zw [(0, Ze v2), (14, rd (Z0 .i64) i27), (17, rd (Z0 .i64) k37)], Zx [(0, Zb v2 3 (Z0 .i64) l36)], _⟩
     cases m38 with
     | zero => cases h
     | succ m38 =>
      unfold Zfm at h
      generalize hgo4 : Zfm i27 m38 = go4 at h
      refine AW.seq <| SR <| Md rfl <| Md rfl <| Ac (Z3l rfl rfl (vt rfl) (vt rfl)) rfl <| Nl <| Cn rfl (fun hc => ?_) (fun hc => ?_)
      ·have h := Zf hc h
       refine AW.skip <| AW.seq <| AW.block <| AW.vlen 0 rfl fun hvl0_474 => ?_
       obtain ⟨e39, he39, h⟩ := Z1 h
       obtain ⟨e40, he40, h⟩ := Z1 h
       obtain ⟨e41, he41, h⟩ := Z1 h
       obtain ⟨e42, he42, h⟩ := Z1 h
       refine AW.regionAny [⟨[0], [113], [], []⟩, ⟨[17], [114], [], []⟩, ⟨[0], [115], [], []⟩, ⟨[17], [116], [], []⟩, ⟨[116], [117], [], []⟩, ⟨[0], [118], [], []⟩, ⟨[17], [119], [], []⟩, ⟨[119], [120], [], []⟩, ⟨[118, 120], [121], [], []⟩, ⟨[121], [122], [0], []⟩, ⟨[0], [123], [], []⟩, ⟨[17], [124], [], []⟩, ⟨[123, 124], [125], [], []⟩, ⟨[125], [126], [0], []⟩, ⟨[113, 114], [127], [], []⟩, ⟨[127, 122], [], [0], [0]⟩, ⟨[115, 117], [128], [], []⟩, ⟨[128, 126], [], [0], [0]⟩] Z05 (by kernel_rfl) <| SMw rfl <| Zu rfl <| SMw rfl <| Zu rfl <| Sc (lo [116] [] rfl fun S hs hr => Z0j rfl rfl (vh hs 116 rfl rfl) (vk rfl)) rfl <| SMw rfl <| Zu rfl <| Sc (lo [119] [] rfl fun S hs hr => Z0j rfl rfl (vh hs 119 rfl rfl) (vk rfl)) rfl <| Sc (lo [118, 120] [] rfl fun S hs hr => Z24 (l := l36) hvl0_474 rfl rfl rfl Z0t (vh hs 118 rfl rfl) (vh hs 120 rfl rfl) he39) rfl <| Sc (lo [121] [0] rfl fun S hs hr => Z1g 0 rfl rfl ty3 (vh hs 121 rfl rfl) ((hr 0 rfl).trans rfl) (Z0g he39).2) rfl <| SMw rfl <| Zu rfl <| Sc (lo [123, 124] [] rfl fun S hs hr => Z24 (l := l36) hvl0_474 rfl rfl rfl Z0t (vh hs 123 rfl rfl) (vh hs 124 rfl rfl) he40) rfl <| Sc (lo [125] [0] rfl fun S hs hr => Z1g 0 rfl rfl ty3 (vh hs 125 rfl rfl) ((hr 0 rfl).trans rfl) (Z0g he40).2) rfl <| Sc (lo [113, 114] [] rfl fun S hs hr => Z24 (l := l36) hvl0_474 rfl rfl rfl Z0t (vh hs 113 rfl rfl) (vh hs 114 rfl rfl) he41) rfl <| Sc (Z3t [127, 122] [0] rfl fun S hs hr => Z2h 0 rfl rfl ty3 (vh hs 127 rfl rfl) ((hr 0 rfl).trans rfl) (Z0g he41).2 (vh hs 122 rfl rfl)) rfl <| Sc (lo [115, 117] [] rfl fun S hs hr => Z24 (l := (List.set l36 k37.toNat e39)) hvl0_474 (by simp) rfl rfl Z0t (vh hs 115 rfl rfl) (vh hs 117 rfl rfl) he42) rfl <| Sc (Z3t [128, 126] [0] rfl fun S hs hr => Z2h 0 rfl rfl ty3 (vh hs 128 rfl rfl) ((hr 0 rfl).trans rfl) (Z0g he42).2 (vh hs 126 rfl rfl)) rfl <| Rg <| Md rfl <| Ac (Z0j rfl rfl (vt rfl) (vk rfl)) rfl <| As rfl <| Nl ?_
       subst hgo4
       exact ⟨(m38, (List.set (List.set l36 k37.toNat e39) (IntKind.i64.wrap (k37 - 1)).toNat e40), (IntKind.i64.wrap (k37 - 1))), Nat.lt_succ_self _, ⟨trivial, h⟩, FX rfl⟩
      ·have h := Zg hc h
       refine AW.exit <| AW.ret ?_
       obtain rfl := si h
       exact Z27 (i := 0) Tryz.results302 rfl rfl
  ·have h := Zg hc h
   refine AW.skip <| AW.seq ?_
   obtain ⟨q43, hq43, h⟩ := Z1 h
   refine Rg <| Md rfl <| Md rfl <| Ac (Z08 rfl rfl (vt rfl) (vt rfl)) rfl <| Ac (Z7n rfl rfl us3 Z73 (vt rfl)) rfl <| Ac (Z4u rfl rfl (vt rfl) (Z4b (vku (1 : BitVec 64) rfl)) hq43) rfl <| Ac (Z99 rfl rfl Zal un3 (vt rfl)) rfl <| As rfl <| Nl <| SR <| Md rfl <| Md rfl <| Ac (Z08 rfl rfl (vt rfl) (vt rfl)) rfl <| As rfl <| Nl <| SR <| Ak rfl <| Ak rfl <| Nl ?_
   refine AW.join (d := []) (ν := Int × Int) (fun n => Zlk data1 q43 m4 cmp6 a3 R_slices_symMergeCmpFunc_int b5 n.1 n.2 = some r) (fun n => [(0, Ze v2), (1, rd (Z0 .i64) a3), (2, rd (Z0 .i64) m4), (3, rd (Z0 .i64) b5), (4, fn2 Tryz.prog (Z0 .i64) (Z0 .i64) (Z0 .i64) cmp6), (18, rd (Z0 .i64) (IntKind.i64.wrap (q43.toNat : Int))), (19, rd (Z0 .i64) (IntKind.i64.wrap ((IntKind.i64.wrap (q43.toNat : Int)) + m4))), (20, rd (Z0 .i64) n.1), (21, rd (Z0 .i64) n.2)]) (fun n => [(0, Zb v2 3 (Z0 .i64) data1)]) ?hx5 ?hy5
   case hy5 =>
    rintro ⟨start44, r45⟩ h
    unfold Zlk at h
    change AW _ _ _ ⟨Zw [(0, Ze v2), (1, rd (Z0 .i64) a3), (2, rd (Z0 .i64) m4), (3, rd (Z0 .i64) b5), (4, fn2 Tryz.prog (Z0 .i64) (Z0 .i64) (Z0 .i64) cmp6), (18, rd (Z0 .i64) (IntKind.i64.wrap (q43.toNat : Int))), (19, rd (Z0 .i64) (IntKind.i64.wrap ((IntKind.i64.wrap (q43.toNat : Int)) + m4))), (20, rd (Z0 .i64) start44), (21, rd (Z0 .i64) r45)], Zx [(0, Zb v2 3 (Z0 .i64) data1)], _⟩
    refine SR <| Md rfl <| Ac (Z0j rfl rfl (vt rfl) (vk rfl)) rfl <| As rfl <| Nl <| AW.seq <| AW.block <| AW.loopG (d := []) (ν := Nat × Int × Int) (fun n => True ∧ Zct data1 q43 m4 cmp6 a3 R_slices_symMergeCmpFunc_int b5 n.1 n.2.1 n.2.2 = some r) (fun n => n.1) (fun n => [(0, Ze v2), (1, rd (Z0 .i64) a3), (2, rd (Z0 .i64) m4), (3, rd (Z0 .i64) b5), (4, fn2 Tryz.prog (Z0 .i64) (Z0 .i64) (Z0 .i64) cmp6), (18, rd (Z0 .i64) (IntKind.i64.wrap (q43.toNat : Int))), (19, rd (Z0 .i64) (IntKind.i64.wrap ((IntKind.i64.wrap (q43.toNat : Int)) + m4))), (20, rd (Z0 .i64) n.2.1), (21, rd (Z0 .i64) n.2.2), (22, rd (Z0 .i64) (IntKind.i64.wrap ((IntKind.i64.wrap ((IntKind.i64.wrap (q43.toNat : Int)) + m4)) - 1)))]) (fun n => [(0, Zb v2 3 (Z0 .i64) data1)]) ((((r45 : Int) - start44).toNat + 1), start44, r45) ⟨trivial, h⟩ (FX rfl) ?_
    rintro ⟨m50, start48, r49⟩ ⟨hsf6, h⟩
    change True at hsf6
    change Zct data1 q43 m4 cmp6 a3 R_slices_symMergeCmpFunc_int b5 m50 start48 r49 = some r at h
    change AW _ _ _ ⟨Zw [(0, Ze v2), (1, rd (Z0 .i64) a3), (2, rd (Z0 .i64) m4), (3, rd (Z0 .i64) b5), (4, fn2 Tryz.prog (Z0 .i64) (Z0 .i64) (Z0 .i64) cmp6), (18, rd (Z0 .i64) (IntKind.i64.wrap (q43.toNat : Int))), (19, rd (Z0 .i64) (IntKind.i64.wrap ((IntKind.i64.wrap (q43.toNat : Int)) + m4))), (20, rd (Z0 .i64) start48), (21, rd (Z0 .i64) r49), (22, rd (Z0 .i64) (IntKind.i64.wrap ((IntKind.i64.wrap ((IntKind.i64.wrap (q43.toNat : Int)) + m4)) - 1)))], Zx [(0, Zb v2 3 (Z0 .i64) data1)], _⟩
    cases m50 with
    | zero => cases h
    | succ m50 =>
     unfold Zct at h
     generalize hgo6 : Zct data1 q43 m4 cmp6 a3 R_slices_symMergeCmpFunc_int b5 m50 = go6 at h
     refine AW.seq <| SR <| Md rfl <| Md rfl <| Ac (Zp rfl rfl (vt rfl) (vt rfl)) rfl <| Nl <| Cn rfl (fun hc => ?_) (fun hc => ?_)
     ·have h := Zf hc h
      refine AW.skip <| AW.block <| AW.seq ?_
      obtain ⟨q51, hq51, h⟩ := Z1 h
      refine Rg <| Md rfl <| Md rfl <| Ac (Z08 rfl rfl (vt rfl) (vt rfl)) rfl <| Ac (Z7n rfl rfl us3 Z73 (vt rfl)) rfl <| Ac (Z4u rfl rfl (vt rfl) (Z4b (vku (1 : BitVec 64) rfl)) hq51) rfl <| Ac (Z99 rfl rfl Zal un3 (vt rfl)) rfl <| As rfl <| Nl <| AW.seq ?_
      obtain ⟨e52, he52, h⟩ := Z1 h
      obtain ⟨e53, he53, h⟩ := Z1 h
      obtain ⟨x54, hx54, h⟩ := Z1 h
      refine AW.regionAny [⟨[4], [158], [], []⟩, ⟨[0], [159], [], []⟩, ⟨[22], [160], [], []⟩, ⟨[23], [161], [], []⟩, ⟨[160, 161], [162], [], []⟩, ⟨[159, 162], [163], [0], []⟩, ⟨[163], [164], [0], []⟩, ⟨[0], [165], [], []⟩, ⟨[23], [166], [], []⟩, ⟨[165, 166], [167], [0], []⟩, ⟨[167], [168], [0], []⟩, ⟨[158, 164, 168], [169], [], []⟩, ⟨[169], [170], [], []⟩, ⟨[170], [171], [], []⟩] Z05 (by kernel_rfl) <| Sc (lo [4] [] rfl fun S hs hr => Zt (A := fn2 Tryz.prog (Z0 .i64) (Z0 .i64) (Z0 .i64) cmp6) rfl rfl (vh hs 4 rfl rfl)) rfl <| SMw rfl <| Zu rfl <| Zu rfl <| Sc (lo [160, 161] [] rfl fun S hs hr => Z0j rfl rfl (vh hs 160 rfl rfl) (vh hs 161 rfl rfl)) rfl <| Sc (lo [159, 162] [0] rfl fun S hs hr => Z1q 0 rfl rfl Z0t (vh hs 159 rfl rfl) ((hr 0 rfl).trans rfl) (vh hs 162 rfl rfl) he52) rfl <| Sc (lo [163] [0] rfl fun S hs hr => Z1g 0 rfl rfl ty3 (vh hs 163 rfl rfl) ((hr 0 rfl).trans rfl) (Z0g he52).2) rfl <| SMw rfl <| Zu rfl <| Sc (lo [165, 166] [0] rfl fun S hs hr => Z1q 0 rfl rfl Z0t (vh hs 165 rfl rfl) ((hr 0 rfl).trans rfl) (vh hs 166 rfl rfl) he53) rfl <| Sc (lo [167] [0] rfl fun S hs hr => Z1g 0 rfl rfl ty3 (vh hs 167 rfl rfl) ((hr 0 rfl).trans rfl) (Z0g he53).2) rfl <| Sc (lo [158, 164, 168] [] rfl fun S hs hr => Zb6 hx54 rfl rfl (vh hs 158 rfl rfl) (vh hs 164 rfl rfl) (vh hs 168 rfl rfl)) rfl <| Sc (lo [169] [] rfl fun S hs hr => Zp rfl rfl (vh hs 169 rfl rfl) (vk rfl)) rfl <| Sc (lo [170] [] rfl fun S hs hr => Z19 rfl rfl (vh hs 170 rfl rfl)) rfl <| Cn rfl (fun hc => ?_) (fun hc => ?_)
      ·have h := Zf hc h
       refine Rg <| Md rfl <| Ac (Z08 rfl rfl (vt rfl) (vk rfl)) rfl <| As rfl <| Nl ?_
       subst hgo6
       exact ⟨(m50, (IntKind.i64.wrap ((IntKind.i64.wrap (q51.toNat : Int)) + 1)), r49), Nat.lt_succ_self _, ⟨trivial, h⟩, FX rfl⟩
      ·have h := Zg hc h
       refine Rg <| Md rfl <| As rfl <| Nl ?_
       subst hgo6
       exact ⟨(m50, start48, (IntKind.i64.wrap (q51.toNat : Int))), Nat.lt_succ_self _, ⟨trivial, h⟩, FX rfl⟩
     ·have h := Zg hc h
      refine AW.exit <| SR <| Md rfl <| Md rfl <| Ac (Z0j rfl rfl (vt rfl) (vt rfl)) rfl <| As rfl <| Nl ?_
      refine AW.join (d := []) (ν := (List Int)) (fun n => Zmk a3 start48 q43 R_slices_symMergeCmpFunc_int cmp6 m4 b5 n = some r) (fun n => [(0, Ze v2), (1, rd (Z0 .i64) a3), (3, rd (Z0 .i64) b5), (4, fn2 Tryz.prog (Z0 .i64) (Z0 .i64) (Z0 .i64) cmp6), (18, rd (Z0 .i64) (IntKind.i64.wrap (q43.toNat : Int))), (20, rd (Z0 .i64) start48), (24, rd (Z0 .i64) (IntKind.i64.wrap ((IntKind.i64.wrap ((IntKind.i64.wrap (q43.toNat : Int)) + m4)) - start48)))]) (fun n => [(0, Zb v2 3 (Z0 .i64) n)]) ?hx7 ?hy7
      case hy7 =>
       intro l55 h
       unfold Zmk at h
       change AW _ _ _ ⟨Zw [(0, Ze v2), (1, rd (Z0 .i64) a3), (3, rd (Z0 .i64) b5), (4, fn2 Tryz.prog (Z0 .i64) (Z0 .i64) (Z0 .i64) cmp6), (18, rd (Z0 .i64) (IntKind.i64.wrap (q43.toNat : Int))), (20, rd (Z0 .i64) start48), (24, rd (Z0 .i64) (IntKind.i64.wrap ((IntKind.i64.wrap ((IntKind.i64.wrap (q43.toNat : Int)) + m4)) - start48)))], Zx [(0, Zb v2 3 (Z0 .i64) l55)], _⟩
       refine AW.join (d := []) (ν := (List Int)) (fun n => Zm0 q43 m4 start48 b5 R_slices_symMergeCmpFunc_int cmp6 n = some r) (fun n => [(0, Ze v2), (3, rd (Z0 .i64) b5), (4, fn2 Tryz.prog (Z0 .i64) (Z0 .i64) (Z0 .i64) cmp6), (18, rd (Z0 .i64) (IntKind.i64.wrap (q43.toNat : Int))), (24, rd (Z0 .i64) (IntKind.i64.wrap ((IntKind.i64.wrap ((IntKind.i64.wrap (q43.toNat : Int)) + m4)) - start48)))]) (fun n => [(0, Zb v2 3 (Z0 .i64) n)]) ?hx8 ?hy8
       case hy8 =>
        intro l56 h
        unfold Zm0 at h
        change AW _ _ _ ⟨Zw [(0, Ze v2), (3, rd (Z0 .i64) b5), (4, fn2 Tryz.prog (Z0 .i64) (Z0 .i64) (Z0 .i64) cmp6), (18, rd (Z0 .i64) (IntKind.i64.wrap (q43.toNat : Int))), (24, rd (Z0 .i64) (IntKind.i64.wrap ((IntKind.i64.wrap ((IntKind.i64.wrap (q43.toNat : Int)) + m4)) - start48)))], Zx [(0, Zb v2 3 (Z0 .i64) l56)], _⟩
        refine SR <| Md rfl <| Md rfl <| Ac (Zp rfl rfl (vt rfl) (vt rfl)) rfl <| Md rfl <| Gd rfl (fun hq => Zt (A := rd (Z0 .i64) (IntKind.i64.wrap ((IntKind.i64.wrap ((IntKind.i64.wrap (q43.toNat : Int)) + m4)) - start48))) rfl rfl (vt rfl)) <| Gd rfl (fun hq => Zt (A := rd (Z0 .i64) b5) rfl rfl (vt rfl)) <| Gd rfl (fun hq => Zp rfl rfl (Zs rfl hq) (Zs rfl hq)) <| Ac (Z1w rfl rfl (vt rfl) (vt rfl)) rfl <| Nl <| Cn rfl (fun hc => ?_) (fun hc => ?_)
        ·have h := Zf hc h
         obtain ⟨l57, hl57, h⟩ := Z1 h
         refine Rg <| Mw rfl <| Md rfl <| Md rfl <| Md rfl <| Ac (Zt (A := fn2 Tryz.prog (Z0 .i64) (Z0 .i64) (Z0 .i64) cmp6) rfl rfl (vt rfl)) rfl <| Ct rfl (Z1f 0 (xs := [.tmp 214, .tmp 215, .tmp 216, .tmp 217, .tmp 218]) (hR_slices_symMergeCmpFunc_int _ _ _ _ _ _ _ hl57) Zmj rfl rfl ⟨vt rfl, vt rfl, vt rfl, vt rfl, vt rfl, trivial⟩ rfl) ?_
         rintro _ ⟨_u, rfl⟩
         refine Nl ?_
         obtain rfl := si h
         exact Z27 (i := 0) Tryz.results302 rfl rfl
        ·have h := Zg hc h
         refine AW.skip ?_
         obtain rfl := si h
         exact Z27 (i := 0) Tryz.results302 rfl rfl
       case hx8 =>
        refine SR <| Md rfl <| Md rfl <| Ac (Zp rfl rfl (vt rfl) (vt rfl)) rfl <| Md rfl <| Gd rfl (fun hq => Zt (A := rd (Z0 .i64) start48) rfl rfl (vt rfl)) <| Gd rfl (fun hq => Zt (A := rd (Z0 .i64) (IntKind.i64.wrap (q43.toNat : Int))) rfl rfl (vt rfl)) <| Gd rfl (fun hq => Zp rfl rfl (Zs rfl hq) (Zs rfl hq)) <| Ac (Z1w rfl rfl (vt rfl) (vt rfl)) rfl <| Nl <| Cn rfl (fun hc => ?_) (fun hc => ?_)
        ·have h := Zf hc h
         obtain ⟨l58, hl58, h⟩ := Z1 h
         refine Rg <| Mw rfl <| Md rfl <| Md rfl <| Md rfl <| Ac (Zt (A := fn2 Tryz.prog (Z0 .i64) (Z0 .i64) (Z0 .i64) cmp6) rfl rfl (vt rfl)) rfl <| Ct rfl (Z1f 0 (xs := [.tmp 200, .tmp 201, .tmp 202, .tmp 203, .tmp 204]) (hR_slices_symMergeCmpFunc_int _ _ _ _ _ _ _ hl58) Zmj rfl rfl ⟨vt rfl, vt rfl, vt rfl, vt rfl, vt rfl, trivial⟩ rfl) ?_
         rintro _ ⟨_u, rfl⟩
         refine Nl ?_
         exact ⟨l58, h, FX rfl⟩
        ·have h := Zg hc h
         refine AW.skip ?_
         exact ⟨l55, h, FX rfl⟩
      case hx7 =>
       refine SR <| Md rfl <| Md rfl <| Ac (Zp rfl rfl (vt rfl) (vt rfl)) rfl <| Md rfl <| Gd rfl (fun hq => Zt (A := rd (Z0 .i64) m4) rfl rfl (vt rfl)) <| Gd rfl (fun hq => Zt (A := rd (Z0 .i64) (IntKind.i64.wrap ((IntKind.i64.wrap ((IntKind.i64.wrap (q43.toNat : Int)) + m4)) - start48))) rfl rfl (vt rfl)) <| Gd rfl (fun hq => Zp rfl rfl (Zs rfl hq) (Zs rfl hq)) <| Ac (Z1w rfl rfl (vt rfl) (vt rfl)) rfl <| Nl <| Cn rfl (fun hc => ?_) (fun hc => ?_)
       ·have h := Zf hc h
        obtain ⟨l59, hl59, h⟩ := Z1 h
        refine Rg <| Mw rfl <| Md rfl <| Md rfl <| Md rfl <| Ac (Zt (A := fn2 Tryz.prog (Z0 .i64) (Z0 .i64) (Z0 .i64) cmp6) rfl rfl (vt rfl)) rfl <| Ct rfl (Z1f 0 (xs := [.tmp 186, .tmp 187, .tmp 188, .tmp 189, .tmp 190]) (Ycl _ _ _ _ _ _ _ hl59) Y89 rfl rfl ⟨vt rfl, vt rfl, vt rfl, vt rfl, vt rfl, trivial⟩ rfl) ?_
        rintro _ ⟨_u, rfl⟩
        refine Nl ?_
        exact ⟨l59, h, FX rfl⟩
       ·have h := Zg hc h
        refine AW.skip ?_
        exact ⟨data1, h, FX rfl⟩
   case hx5 =>
    refine SR <| Md rfl <| Md rfl <| Ac (Z3l rfl rfl (vt rfl) (vt rfl)) rfl <| Nl <| Cn rfl (fun hc => ?_) (fun hc => ?_)
    ·have h := Zf hc h
     refine SR <| Md rfl <| Md rfl <| Ac (Z0j rfl rfl (vt rfl) (vt rfl)) rfl <| As rfl <| Nl <| Rg <| Md rfl <| As rfl <| Nl ?_
     exact ⟨((IntKind.i64.wrap ((IntKind.i64.wrap ((IntKind.i64.wrap (q43.toNat : Int)) + m4)) - b5)), (IntKind.i64.wrap (q43.toNat : Int))), h, FX rfl⟩
    ·have h := Zg hc h
     refine SR <| Md rfl <| As rfl <| Nl <| Rg <| Md rfl <| As rfl <| Nl ?_
     exact ⟨(a3, m4), h, FX rfl⟩
def Zn7 : Nat → ((List Int) → Int → Int → Int → (Int → Int → Option Int) → Option (List Int))
 | 0 => (fun _ _ _ _ _ => none)
 | n + 1 => (Zq1 (Zn7 n))
theorem Zud : ∀ n : Nat, (∀ (v2 : Value) (data1 : (List Int)) (a3 : Int) (m4 : Int) (b5 : Int) (cmp6 : (Int → Int → Option Int)) (r : (List Int)), (Zn7 n) data1 a3 m4 b5 cmp6 = some r → Con Tryz.prog 302 [Ze v2, rd (Z0 .i64) a3, rd (Z0 .i64) m4, rd (Z0 .i64) b5, fn2 Tryz.prog (Z0 .i64) (Z0 .i64) (Z0 .i64) cmp6] (Zb v2 3 (Z0 .i64) data1) (fun _ : Unit => top) (fun _ => Zb v2 3 (Z0 .i64) r))
 | 0 => (by intros; rename_i h; cases h)
 | n + 1 => by
  have ih := Zud n
  exact (Ye5 (Zn7 n) ih)
def Zo6 (data1 : (List Int)) (a3 : Int) (m4 : Int) (b5 : Int) (cmp6 : (Int → Int → Option Int)) : Option (List Int) := (Zn7 Z0y) data1 a3 m4 b5 cmp6
theorem Zvl : ∀ (v2 : Value) (data1 : (List Int)) (a3 : Int) (m4 : Int) (b5 : Int) (cmp6 : (Int → Int → Option Int)) (r : (List Int)), Zo6 data1 a3 m4 b5 cmp6 = some r → Con Tryz.prog 302 [Ze v2, rd (Z0 .i64) a3, rd (Z0 .i64) m4, rd (Z0 .i64) b5, fn2 Tryz.prog (Z0 .i64) (Z0 .i64) (Z0 .i64) cmp6] (Zb v2 3 (Z0 .i64) data1) (fun _ : Unit => top) (fun _ => Zb v2 3 (Z0 .i64) r) := Zud Z0y
def Zfr (n3 : Int) (blockSize17 : Int) (cmp4 : (Int → Int → Option Int)) (go2 : (List Int) → Int → Option (List Int)) : Nat → (List Int) → Int → Int → Option (List Int)
 | 0, _, _, _ => none
 | m25 + 1, l22, a23, b24 => (bif (decide (b24 ≤ n3)) then (Zo6 l22 a23 (IntKind.i64.wrap (a23 + blockSize17)) b24 cmp4).bind fun l26 => (Zfr n3 blockSize17 cmp4 go2 m25) l26 b24 (IntKind.i64.wrap (b24 + (IntKind.i64.wrap (2 * blockSize17)))) else (bif (decide ((IntKind.i64.wrap (a23 + blockSize17)) < n3)) then (Zo6 l22 a23 (IntKind.i64.wrap (a23 + blockSize17)) n3 cmp4).bind fun l27 => go2 l27 (IntKind.i64.wrap (blockSize17 * 2)) else go2 l22 (IntKind.i64.wrap (blockSize17 * 2))))
def Zbr (n3 : Int) (cmp4 : (Int → Int → Option Int)) : Nat → (List Int) → Int → Option (List Int)
 | 0, _, _ => none
 | m18 + 1, l16, blockSize17 => (bif (decide (blockSize17 < n3)) then Zfr n3 blockSize17 cmp4 (Zbr n3 cmp4 m18) (((n3 : Int) - (IntKind.i64.wrap (2 * blockSize17))).toNat + 2) l16 0 (IntKind.i64.wrap (2 * blockSize17)) else some l16)
def Zbg (n3 : Int) (cmp4 : (Int → Int → Option Int)) : Nat → (List Int) → Int → Int → Option (List Int)
 | 0, _, _, _ => none
 | m11 + 1, l8, a9, b10 => (bif (decide (b10 ≤ n3)) then (Zfk l8 a9 b10 cmp4).bind fun l12 => (Zbg n3 cmp4 m11) l12 b10 (IntKind.i64.wrap (b10 + 20)) else (Zfk l8 a9 n3 cmp4).bind fun l13 => Zbr n3 cmp4 (((n3 : Int) - 20).toNat + 1) l13 20)
def Zlb (data1 : (List Int)) (n3 : Int) (cmp4 : (Int → Int → Option Int)) : Option (List Int) :=
 Zbg n3 cmp4 (((n3 : Int) - 20).toNat + 2) data1 0 20
theorem Yfg (v2 : Value) (data1 : (List Int)) (n3 : Int) (cmp4 : (Int → Int → Option Int)) (r : (List Int)) (h : Zlb data1 n3 cmp4 = some r) : Con Tryz.prog 258 [Ze v2, rd (Z0 .i64) n3, fn2 Tryz.prog (Z0 .i64) (Z0 .i64) (Z0 .i64) cmp4] (Zb v2 3 (Z0 .i64) data1) (fun _ : Unit => top) (fun _ => Zb v2 3 (Z0 .i64) r) := by
 refine Con.intro Tryz.func258 rfl Tryz.ntmps258 rfl fun w H X => ?_
 unfold Zlb at h
 refine SR <| Ak rfl <| Nl <| SR <| Md rfl <| Ak rfl <| As rfl <| Nl <| AW.seq <| AW.block <| AW.loopG (d := []) (ν := Nat × (List Int) × Int × Int) (fun n => True ∧ Zbg n3 cmp4 n.1 n.2.1 n.2.2.1 n.2.2.2 = some r) (fun n => n.1) (fun n => [(0, Ze v2), (1, rd (Z0 .i64) n3), (2, fn2 Tryz.prog (Z0 .i64) (Z0 .i64) (Z0 .i64) cmp4), (6, rd (Z0 .i64) 20), (7, rd (Z0 .i64) n.2.2.1), (8, rd (Z0 .i64) n.2.2.2)]) (fun n => [(0, Zb v2 3 (Z0 .i64) n.2.1)]) ((((n3 : Int) - 20).toNat + 2), data1, 0, 20) ⟨trivial, h⟩ (FX rfl) ?_
 rintro ⟨m11, l8, a9, b10⟩ ⟨hsf1, h⟩
 change True at hsf1
 change Zbg n3 cmp4 m11 l8 a9 b10 = some r at h
 change AW _ _ _ ⟨Zw [(0, Ze v2), (1, rd (Z0 .i64) n3), (2, fn2 Tryz.prog (Z0 .i64) (Z0 .i64) (Z0 .i64) cmp4), (6, rd (Z0 .i64) 20), (7, rd (Z0 .i64) a9), (8, rd (Z0 .i64) b10)], Zx [(0, Zb v2 3 (Z0 .i64) l8)], _⟩
 cases m11 with
 | zero => cases h
 | succ m11 =>
  unfold Zbg at h
  generalize hgo1 : Zbg n3 cmp4 m11 = go1 at h
  refine AW.seq <| SR <| Md rfl <| Md rfl <| Ac (Z62 rfl rfl (vt rfl) (vt rfl)) rfl <| Nl <| Cn rfl (fun hc => ?_) (fun hc => ?_)
  ·have h := Zf hc h
   refine AW.skip <| AW.block <| AW.seq ?_
   obtain ⟨l12, hl12, h⟩ := Z1 h
   refine Rg <| Mw rfl <| Md rfl <| Md rfl <| Ac (Zt (A := fn2 Tryz.prog (Z0 .i64) (Z0 .i64) (Z0 .i64) cmp4) rfl rfl (vt rfl)) rfl <| Ct rfl (Z1f 0 (xs := [.tmp 14, .tmp 15, .tmp 16, .tmp 17]) (Zvf _ _ _ _ _ _ hl12) Zw3 rfl rfl ⟨vt rfl, vt rfl, vt rfl, vt rfl, trivial⟩ rfl) ?_
   rintro _ ⟨_u, rfl⟩
   refine Nl <| SR <| Md rfl <| As rfl <| Nl <| Rg <| Md rfl <| Md rfl <| Ac (Z08 rfl rfl (vt rfl) (vt rfl)) rfl <| As rfl <| Nl ?_
   subst hgo1
   exact ⟨(m11, l12, b10, (IntKind.i64.wrap (b10 + 20))), Nat.lt_succ_self _, ⟨trivial, h⟩, FX rfl⟩
  ·have h := Zg hc h
   refine AW.exit <| AW.seq ?_
   obtain ⟨l13, hl13, h⟩ := Z1 h
   refine Rg <| Mw rfl <| Md rfl <| Md rfl <| Ac (Zt (A := fn2 Tryz.prog (Z0 .i64) (Z0 .i64) (Z0 .i64) cmp4) rfl rfl (vt rfl)) rfl <| Ct rfl (Z1f 0 (xs := [.tmp 23, .tmp 24, .tmp 25, .tmp 26]) (Zvf _ _ _ _ _ _ hl13) Zw3 rfl rfl ⟨vt rfl, vt rfl, vt rfl, vt rfl, trivial⟩ rfl) ?_
   rintro _ ⟨_u, rfl⟩
   refine Nl <| AW.block <| AW.loopG (d := []) (ν := Nat × (List Int) × Int) (fun n => True ∧ Zbr n3 cmp4 n.1 n.2.1 n.2.2 = some r) (fun n => n.1) (fun n => [(0, Ze v2), (1, rd (Z0 .i64) n3), (2, fn2 Tryz.prog (Z0 .i64) (Z0 .i64) (Z0 .i64) cmp4), (6, rd (Z0 .i64) n.2.2)]) (fun n => [(0, Zb v2 3 (Z0 .i64) n.2.1)]) ((((n3 : Int) - 20).toNat + 1), l13, 20) ⟨trivial, h⟩ (FX rfl) ?_
   rintro ⟨m18, l16, blockSize17⟩ ⟨hsf2, h⟩
   change True at hsf2
   change Zbr n3 cmp4 m18 l16 blockSize17 = some r at h
   change AW _ _ _ ⟨Zw [(0, Ze v2), (1, rd (Z0 .i64) n3), (2, fn2 Tryz.prog (Z0 .i64) (Z0 .i64) (Z0 .i64) cmp4), (6, rd (Z0 .i64) blockSize17)], Zx [(0, Zb v2 3 (Z0 .i64) l16)], _⟩
   cases m18 with
   | zero => cases h
   | succ m18 =>
    unfold Zbr at h
    generalize hgo2 : Zbr n3 cmp4 m18 = go2 at h
    refine AW.seq <| SR <| Md rfl <| Md rfl <| Ac (Zp rfl rfl (vt rfl) (vt rfl)) rfl <| Nl <| Cn rfl (fun hc => ?_) (fun hc => ?_)
    ·have h := Zf hc h
     refine AW.skip <| AW.block <| SR <| Md rfl <| Ac (Z9h rfl rfl (vk rfl) (vt rfl)) rfl <| Ak rfl <| As rfl <| Nl <| AW.seq <| AW.block <| AW.loopG (d := []) (ν := Nat × (List Int) × Int × Int) (fun n => True ∧ Zfr n3 blockSize17 cmp4 go2 n.1 n.2.1 n.2.2.1 n.2.2.2 = some r) (fun n => n.1) (fun n => [(0, Ze v2), (1, rd (Z0 .i64) n3), (2, fn2 Tryz.prog (Z0 .i64) (Z0 .i64) (Z0 .i64) cmp4), (6, rd (Z0 .i64) blockSize17), (7, rd (Z0 .i64) n.2.2.1), (8, rd (Z0 .i64) n.2.2.2)]) (fun n => [(0, Zb v2 3 (Z0 .i64) n.2.1)]) ((((n3 : Int) - (IntKind.i64.wrap (2 * blockSize17))).toNat + 2), l16, 0, (IntKind.i64.wrap (2 * blockSize17))) ⟨trivial, h⟩ (FX rfl) ?_
     rintro ⟨m25, l22, a23, b24⟩ ⟨hsf3, h⟩
     change True at hsf3
     change Zfr n3 blockSize17 cmp4 go2 m25 l22 a23 b24 = some r at h
     change AW _ _ _ ⟨Zw [(0, Ze v2), (1, rd (Z0 .i64) n3), (2, fn2 Tryz.prog (Z0 .i64) (Z0 .i64) (Z0 .i64) cmp4), (6, rd (Z0 .i64) blockSize17), (7, rd (Z0 .i64) a23), (8, rd (Z0 .i64) b24)], Zx [(0, Zb v2 3 (Z0 .i64) l22)], _⟩
     cases m25 with
     | zero => cases h
     | succ m25 =>
      unfold Zfr at h
      generalize hgo3 : Zfr n3 blockSize17 cmp4 go2 m25 = go3 at h
      refine AW.seq <| SR <| Md rfl <| Md rfl <| Ac (Z62 rfl rfl (vt rfl) (vt rfl)) rfl <| Nl <| Cn rfl (fun hc => ?_) (fun hc => ?_)
      ·have h := Zf hc h
       refine AW.skip <| AW.block <| AW.seq ?_
       obtain ⟨l26, hl26, h⟩ := Z1 h
       refine Rg <| Mw rfl <| Md rfl <| Md rfl <| Md rfl <| Ac (Z08 rfl rfl (vt rfl) (vt rfl)) rfl <| Md rfl <| Ac (Zt (A := fn2 Tryz.prog (Z0 .i64) (Z0 .i64) (Z0 .i64) cmp4) rfl rfl (vt rfl)) rfl <| Ct rfl (Z1f 0 (xs := [.tmp 36, .tmp 37, .tmp 40, .tmp 41, .tmp 42]) (Zvl _ _ _ _ _ _ _ hl26) Zmj rfl rfl ⟨vt rfl, vt rfl, vt rfl, vt rfl, vt rfl, trivial⟩ rfl) ?_
       rintro _ ⟨_u, rfl⟩
       refine Nl <| SR <| Md rfl <| As rfl <| Nl <| Rg <| Md rfl <| Md rfl <| Ac (Z9h rfl rfl (vk rfl) (vt rfl)) rfl <| Ac (Z08 rfl rfl (vt rfl) (vt rfl)) rfl <| As rfl <| Nl ?_
       subst hgo3
       exact ⟨(m25, l26, b24, (IntKind.i64.wrap (b24 + (IntKind.i64.wrap (2 * blockSize17))))), Nat.lt_succ_self _, ⟨trivial, h⟩, FX rfl⟩
      ·have h := Zg hc h
       refine AW.exit <| AW.seq <| SR <| Md rfl <| Md rfl <| Ac (Z08 rfl rfl (vt rfl) (vt rfl)) rfl <| As rfl <| Nl <| SR <| Md rfl <| Md rfl <| Ac (Zp rfl rfl (vt rfl) (vt rfl)) rfl <| Nl <| Cn rfl (fun hc => ?_) (fun hc => ?_)
       ·have h := Zf hc h
        obtain ⟨l27, hl27, h⟩ := Z1 h
        refine Rg <| Mw rfl <| Md rfl <| Md rfl <| Md rfl <| Ac (Zt (A := fn2 Tryz.prog (Z0 .i64) (Z0 .i64) (Z0 .i64) cmp4) rfl rfl (vt rfl)) rfl <| Ct rfl (Z1f 0 (xs := [.tmp 55, .tmp 56, .tmp 57, .tmp 58, .tmp 59]) (Zvl _ _ _ _ _ _ _ hl27) Zmj rfl rfl ⟨vt rfl, vt rfl, vt rfl, vt rfl, vt rfl, trivial⟩ rfl) ?_
        rintro _ ⟨_u, rfl⟩
        refine Nl <| Rg <| Md rfl <| Ac (Z9h rfl rfl (vt rfl) (vk rfl)) rfl <| As rfl <| Nl ?_
        subst hgo2
        exact ⟨(m18, l27, (IntKind.i64.wrap (blockSize17 * 2))), Nat.lt_succ_self _, ⟨trivial, h⟩, FX rfl⟩
       ·have h := Zg hc h
        refine AW.skip <| Rg <| Md rfl <| Ac (Z9h rfl rfl (vt rfl) (vk rfl)) rfl <| As rfl <| Nl ?_
        subst hgo2
        exact ⟨(m18, l22, (IntKind.i64.wrap (blockSize17 * 2))), Nat.lt_succ_self _, ⟨trivial, h⟩, FX rfl⟩
    ·have h := Zg hc h
     refine AW.exit ?_
     obtain rfl := si h
     exact Z27 (i := 0) Tryz.results258 rfl rfl
def Zh4 (x1 : (List Int)) (cmp3 : (Int → Int → Option Int)) : Option (List Int) :=
 (Zlb x1 (x1.length : Int) cmp3).bind fun l4 => some l4
theorem Ydt (v2 : Value) (x1 : (List Int)) (cmp3 : (Int → Int → Option Int)) (r : (List Int)) (h : Zh4 x1 cmp3 = some r) : Con Tryz.prog 200 [Ze v2, fn2 Tryz.prog (Z0 .i64) (Z0 .i64) (Z0 .i64) cmp3] (Zb v2 3 (Z0 .i64) x1) (fun _ : Unit => top) (fun _ => Zb v2 3 (Z0 .i64) r) := by
 refine Con.intro Tryz.func200 rfl Tryz.ntmps200 rfl fun w H X => ?_
 unfold Zh4 at h
 obtain ⟨l4, hl4, h⟩ := Z1 h
 refine Rg <| Mw rfl <| Mw rfl <| Ac (Z5q 0 rfl rfl Z0t (vt rfl) rfl) rfl <| Ac (Zt (A := fn2 Tryz.prog (Z0 .i64) (Z0 .i64) (Z0 .i64) cmp3) rfl rfl (vt rfl)) rfl <| Ct rfl (Z1f 0 (xs := [.tmp 4, .tmp 6, .tmp 7]) (Yfg _ _ _ _ _ hl4) Yae rfl rfl ⟨vt rfl, vt rfl, vt rfl, trivial⟩ rfl) ?_
 rintro _ ⟨_u, rfl⟩
 refine Nl ?_
 obtain rfl := si h
 exact Z27 (i := 0) Tryz.results200 rfl rfl
end Go.Proofs.YtknpgojdkobgjaaGreat.W
set_option maxRecDepth 4000
namespace Go.Proofs.YtknpgojdkobgjaaGreat.W
open Go Go.Wb
theorem Y6r : Ent Tryz.prog 201 := Ent.mk Tryz.func201 rfl rfl
theorem Ya6 : Ent Tryz.prog 200 := Ent.mk Tryz.func200 rfl rfl
theorem Zmn : Ent Tryz.prog 269 := Ent.mk Tryz.func269 rfl rfl
theorem Y8w : Ent Tryz.prog 344 := Ent.mk Tryz.func344 rfl rfl
theorem Y31 : Ent Tryz.prog 336 := Ent.mk Tryz.func336 rfl rfl
theorem Zyv : Ent Tryz.prog 299 := Ent.mk Tryz.func299 rfl rfl
theorem Ycp : Ent Tryz.prog 312 := Ent.mk Tryz.func312 rfl rfl
theorem Znr : Ent Tryz.prog 254 := Ent.mk Tryz.func254 rfl rfl
theorem e73 : Ent Tryz.prog 73 := Ent.mk Tryz.func73 rfl rfl
theorem Zwe : Ent Tryz.prog 275 := Ent.mk Tryz.func275 rfl rfl
def Z70 (t1 : (List Flow)) : Nat → Nat → (List Int) → Option (List Int)
 | 0, i9, l7 => (Zh4 l7 (fun x z => Zfa x z t1)).bind fun l11 => some l11
 | m10 + 1, i9, l7 => (Z0u l7 [(i9 : Int)]).bind fun l12 => (Z70 t1 m10) (i9 + 1) l12
def Zin (t1 : (List Flow)) : Option (List Int) :=
 (omk (t1.length : Int)).bind fun u3 => Z70 t1 ((t1.length : Int) : Int).toNat 0 []
theorem Y5c (t1 : (List Flow)) (r : (List Int)) (h : Zin t1 = some r) : PCon Tryz.prog 135 [rd (Z4 Z0f) t1] (rd (Z4 (Z0 .i64)) r) := by
 refine PCon.of (Con.intro0 Tryz.func135 rfl Tryz.ntmps135 rfl fun w H => ?_)
 unfold Zin at h
 refine SR <| Ct rfl (Zn 2 rfl rfl (vt rfl)) ?_
 rintro _ ⟨g2, rfl⟩
 refine Ac (Z02 (A := rd (Z4 (Z0 .i64)) []) rfl rfl Z1u) rfl <| Nl <| AW.seq ?_
 obtain ⟨u3, hu3, h⟩ := Z1 h
 refine Rg <| Ld Z6c 2 rfl <| Ac (Z0x rfl rfl Z4y (vt rfl)) rfl <| Ct rfl (Ygy 1001 hu3 rfl rfl Zix zr3 (vt rfl)) ?_
 rintro _ ⟨v4, rfl⟩
 refine Aw rfl <| Nl <| AW.seq <| SR <| Ld Z6c 2 rfl <| Ac (Z0x rfl rfl Z4y (vt rfl)) rfl <| Mk rfl <| Nl <| AW.block <| AW.loopG (d := []) (ν := Nat × Nat × (List Int) × Value) (fun n => Cnt (t1.length : Int) n.2.1 n.1 ∧ Z70 t1 n.1 n.2.1 n.2.2.1 = some r) (fun n => n.1) (fun n => [(1, Z7 g2 (Lens.id (Z4 Z0f))), (3, Ze n.2.2.2), (9, rd (Z0 .i64) (t1.length : Int)), (10, rd (Z0 .i64) (n.2.1 : Int))]) (fun n => [(2, Z9 g2 22 (Z4 Z0f) t1), (1001, Zb n.2.2.2 3 (Z0 .i64) n.2.2.1)]) (((t1.length : Int) : Int).toNat, 0, [], v4) ⟨Cnt.start _, h⟩ (FX rfl) ?_
 rintro ⟨m10, i9, l7, v8⟩ ⟨hsf1, h⟩
 change Cnt (t1.length : Int) i9 m10 at hsf1
 change Z70 t1 m10 i9 l7 = some r at h
 change AW _ _ _ ⟨Zw [(1, Z7 g2 (Lens.id (Z4 Z0f))), (3, Ze v8), (9, rd (Z0 .i64) (t1.length : Int)), (10, rd (Z0 .i64) (i9 : Int))], Zx [(2, Z9 g2 22 (Z4 Z0f) t1), (1001, Zb v8 3 (Z0 .i64) l7)], _⟩
 cases m10 with
 | zero =>
  unfold Z70 at h
  refine SR <| Ac (Zp rfl rfl (vt rfl) (vt rfl)) rfl <| Nl <| AW.seq <| Cn rfl (fun hc => absurd (of_decide_eq_true hc) hsf1.zero) (fun hc => ?_)
  refine AW.exit <| AW.seq <| AW.freezeB 1 2 rfl rfl rfl ?_
  obtain ⟨l11, hl11, h⟩ := Z1 h
  refine Rg <| Mw rfl <| Ac (Yfb (cs := [.tmp 1]) (CAs := [rp (Z4 Z0f) t1]) (fun x z => Zfa x z t1) rfl rfl Y6r ⟨vt rfl, trivial⟩ (fun x z y h => Yeb _ _ _ y h)) rfl <| Ct rfl (Z1f 1001 (xs := [.tmp 18, .tmp 19]) (Ydt _ _ _ _ hl11) Ya6 rfl rfl ⟨vt rfl, vt rfl, trivial⟩ rfl) ?_
  rintro _ ⟨_u, rfl⟩
  refine Nl <| SR <| Mw rfl <| Aw rfl <| Nl <| AW.freezes [2, 3, 18, 21] 1001 rfl ⟨rfl, rfl, rfl, rfl, trivial⟩ rfl <| AW.ret ?_
  obtain rfl := si h
  exact Zi Tryz.results135 rfl (Z8 rfl)
 | succ m10 =>
  unfold Z70 at h
  generalize hgo1 : Z70 t1 m10 = go1 at h
  refine SR <| Ac (Zp rfl rfl (vt rfl) (vt rfl)) rfl <| Nl <| AW.seq <| Cn rfl (fun hc => ?_) (fun hc => absurd hsf1.succ (of_decide_eq_false hc))
  have hlti9 := of_decide_eq_true hc
  refine AW.skip <| AW.seq <| AW.block <| SR <| Md rfl <| As rfl <| Nl ?_
  obtain ⟨l12, hl12, h⟩ := Z1 h
  refine Rg <| Mw rfl <| Md rfl <| Ac (Z2g (ps := [(0, .tmp 14)]) (l := [(i9 : Int)]) rfl rfl Z0t zr3 rfl rfl ⟨_, _, Lens.idx 1 (Z0 .i64) 0 (by decide), _, rfl, (vt rfl), rfl⟩ rfl) rfl <| Ct rfl (Z2m 1001 hl12 rfl rfl Zix (vt rfl) rfl (vt rfl)) ?_
  rintro _ ⟨v13, rfl⟩
  refine Aw rfl <| Nl <| Rg <| Ac (Z22 (t := 9) rfl rfl (vt rfl) (vk rfl) (vt rfl) hlti9) rfl <| Md rfl <| Nl ?_
  subst hgo1
  exact ⟨(m10, i9 + 1, l12, v13), Nat.lt_succ_self _, ⟨hsf1.next, h⟩, FX rfl⟩
def Z72 (f1 : Int) : Option Bool :=
 some ((decide (f1 ≥ 0)) && (decide (f1 < 24)))
theorem Zmc (f1 : Int) (r : Bool) (h : Z72 f1 = some r) : PCon Tryz.prog 269 [rd (Z0 .i64) f1] (rd Zc r) := by
 refine PCon.of (Con.intro0 Tryz.func269 rfl Tryz.ntmps269 rfl fun w H => ?_)
 unfold Z72 at h
 refine SR <| Ab rfl <| Nl <| SR <| Md rfl <| Ac (Z4e rfl rfl (vt rfl) (vk rfl)) rfl <| Md rfl <| Gd rfl (fun hq => Zt (A := rd (Z0 .i64) f1) rfl rfl (vt rfl)) <| Gd rfl (fun hq => Zp rfl rfl (Zs rfl hq) (vk rfl)) <| Ac (Z1w rfl rfl (vt rfl) (vt rfl)) rfl <| As rfl <| Nl <| AW.ret ?_
 obtain rfl := si h
 exact Zi Tryz.results269 rfl (Z8 rfl)
def Zgo : Option Zuw :=
 some (Vector.set (Vector.set (Vector.set (Vector.set (Vector.set (Vector.set (Vector.set (Vector.set (Vector.set (Vector.set (Vector.set (Vector.set (Vector.set (Vector.set (Vector.set (Vector.set (Vector.set (Vector.set (Vector.set (Vector.set (Vector.set (Vector.set (Vector.set (Vector.set (Vector.replicate 24 Zho) 0 (⟨{ data := #[105, 110, 95, 112, 111, 114, 116] }, 0, 32, false⟩ : field_row) (by decide)) 1 (⟨{ data := #[109, 101, 116, 97, 100, 97, 116, 97] }, 2, 64, true⟩ : field_row) (by decide)) 2 (⟨{ data := #[101, 116, 104, 95, 100, 115, 116] }, 3, 48, true⟩ : field_row) (by decide)) 3 (⟨{ data := #[101, 116, 104, 95, 115, 114, 99] }, 4, 48, true⟩ : field_row) (by decide)) 4 (⟨{ data := #[101, 116, 104, 95, 116, 121, 112, 101] }, 5, 16, false⟩ : field_row) (by decide)) 5 (⟨{ data := #[118, 108, 97, 110, 95, 118, 105, 100] }, 6, 13, true⟩ : field_row) (by decide)) 6 (⟨{ data := #[118, 108, 97, 110, 95, 112, 99, 112] }, 7, 3, false⟩ : field_row) (by decide)) 7 (⟨{ data := #[105, 112, 95, 100, 115, 99, 112] }, 8, 6, false⟩ : field_row) (by decide)) 8 (⟨{ data := #[105, 112, 95, 101, 99, 110] }, 9, 2, false⟩ : field_row) (by decide)) 9 (⟨{ data := #[105, 112, 95, 112, 114, 111, 116, 111] }, 10, 8, false⟩ : field_row) (by decide)) 10 (⟨{ data := #[105, 112, 118, 52, 95, 115, 114, 99] }, 11, 32, true⟩ : field_row) (by decide)) 11 (⟨{ data := #[105, 112, 118, 52, 95, 100, 115, 116] }, 12, 32, true⟩ : field_row) (by decide)) 12 (⟨{ data := #[116, 99, 112, 95, 115, 114, 99] }, 13, 16, false⟩ : field_row) (by decide)) 13 (⟨{ data := #[116, 99, 112, 95, 100, 115, 116] }, 14, 16, false⟩ : field_row) (by decide)) 14 (⟨{ data := #[117, 100, 112, 95, 115, 114, 99] }, 15, 16, false⟩ : field_row) (by decide)) 15 (⟨{ data := #[117, 100, 112, 95, 100, 115, 116] }, 16, 16, false⟩ : field_row) (by decide)) 16 (⟨{ data := #[105, 99, 109, 112, 118, 52, 95, 116, 121, 112, 101] }, 19, 8, false⟩ : field_row) (by decide)) 17 (⟨{ data := #[105, 99, 109, 112, 118, 52, 95, 99, 111, 100, 101] }, 20, 8, false⟩ : field_row) (by decide)) 18 (⟨{ data := #[97, 114, 112, 95, 111, 112] }, 21, 16, false⟩ : field_row) (by decide)) 19 (⟨{ data := #[97, 114, 112, 95, 115, 112, 97] }, 22, 32, true⟩ : field_row) (by decide)) 20 (⟨{ data := #[97, 114, 112, 95, 116, 112, 97] }, 23, 32, true⟩ : field_row) (by decide)) 21 (⟨{ data := #[105, 112, 118, 54, 95, 115, 114, 99] }, 26, 128, true⟩ : field_row) (by decide)) 22 (⟨{ data := #[105, 112, 118, 54, 95, 100, 115, 116] }, 27, 128, true⟩ : field_row) (by decide)) 23 (⟨{ data := #[109, 112, 108, 115, 95, 108, 97, 98, 101, 108] }, 34, 20, false⟩ : field_row) (by decide))
theorem Y3s (r : Zuw) (h : Zgo = some r) : PCon Tryz.prog 344 [] (rd (Z2 24 Z1n) r) := by
 refine PCon.of (Con.intro0 Tryz.func344 rfl Tryz.ntmps344 rfl fun w H => ?_)
 unfold Zgo at h
 refine SR <| Ct rfl (Zq 1 rfl rfl Zv8) ?_
 rintro _ ⟨g1, rfl⟩
 refine Nl <| SR <| Ac (Z00 (ps := [(0, .const (Value.string { data := #[105, 110, 95, 112, 111, 114, 116] })), (1, .const (Value.int IntKind.i64 0)), (2, .const (Value.int IntKind.i64 32)), (3, .const (Value.bool false))]) (x := (⟨{ data := #[105, 110, 95, 112, 111, 114, 116] }, 0, 32, false⟩ : field_row)) rfl rfl rfl (by kernel_rfl) Z2o ⟨_, _, Z2y, _, by kernel_rfl, (vs (by decide)), _, _, Z2q, _, by kernel_rfl, (vk rfl), _, _, Z2n, _, by kernel_rfl, (vk rfl), _, _, Z2x, _, by kernel_rfl, vb, rfl⟩) rfl <| Ac (Z00 (ps := [(0, .const (Value.string { data := #[109, 101, 116, 97, 100, 97, 116, 97] })), (1, .const (Value.int IntKind.i64 2)), (2, .const (Value.int IntKind.i64 64)), (3, .const (Value.bool true))]) (x := (⟨{ data := #[109, 101, 116, 97, 100, 97, 116, 97] }, 2, 64, true⟩ : field_row)) rfl rfl rfl (by kernel_rfl) Z2o ⟨_, _, Z2y, _, by kernel_rfl, (vs (by decide)), _, _, Z2q, _, by kernel_rfl, (vk rfl), _, _, Z2n, _, by kernel_rfl, (vk rfl), _, _, Z2x, _, by kernel_rfl, vb, rfl⟩) rfl <| Ac (Z00 (ps := [(0, .const (Value.string { data := #[101, 116, 104, 95, 100, 115, 116] })), (1, .const (Value.int IntKind.i64 3)), (2, .const (Value.int IntKind.i64 48)), (3, .const (Value.bool true))]) (x := (⟨{ data := #[101, 116, 104, 95, 100, 115, 116] }, 3, 48, true⟩ : field_row)) rfl rfl rfl (by kernel_rfl) Z2o ⟨_, _, Z2y, _, by kernel_rfl, (vs (by decide)), _, _, Z2q, _, by kernel_rfl, (vk rfl), _, _, Z2n, _, by kernel_rfl, (vk rfl), _, _, Z2x, _, by kernel_rfl, vb, rfl⟩) rfl <| Ac (Z00 (ps := [(0, .const (Value.string { data := #[101, 116, 104, 95, 115, 114, 99] })), (1, .const (Value.int IntKind.i64 4)), (2, .const (Value.int IntKind.i64 48)), (3, .const (Value.bool true))]) (x := (⟨{ data := #[101, 116, 104, 95, 115, 114, 99] }, 4, 48, true⟩ : field_row)) rfl rfl rfl (by kernel_rfl) Z2o ⟨_, _, Z2y, _, by kernel_rfl, (vs (by decide)), _, _, Z2q, _, by kernel_rfl, (vk rfl), _, _, Z2n, _, by kernel_rfl, (vk rfl), _, _, Z2x, _, by kernel_rfl, vb, rfl⟩) rfl <| Ac (Z00 (ps := [(0, .const (Value.string { data := #[101, 116, 104, 95, 116, 121, 112, 101] })), (1, .const (Value.int IntKind.i64 5)), (2, .const (Value.int IntKind.i64 16)), (3, .const (Value.bool false))]) (x := (⟨{ data := #[101, 116, 104, 95, 116, 121, 112, 101] }, 5, 16, false⟩ : field_row)) rfl rfl rfl (by kernel_rfl) Z2o ⟨_, _, Z2y, _, by kernel_rfl, (vs (by decide)), _, _, Z2q, _, by kernel_rfl, (vk rfl), _, _, Z2n, _, by kernel_rfl, (vk rfl), _, _, Z2x, _, by kernel_rfl, vb, rfl⟩) rfl <| Ac (Z00 (ps := [(0, .const (Value.string { data := #[118, 108, 97, 110, 95, 118, 105, 100] })), (1, .const (Value.int IntKind.i64 6)), (2, .const (Value.int IntKind.i64 13)), (3, .const (Value.bool true))]) (x := (⟨{ data := #[118, 108, 97, 110, 95, 118, 105, 100] }, 6, 13, true⟩ : field_row)) rfl rfl rfl (by kernel_rfl) Z2o ⟨_, _, Z2y, _, by kernel_rfl, (vs (by decide)), _, _, Z2q, _, by kernel_rfl, (vk rfl), _, _, Z2n, _, by kernel_rfl, (vk rfl), _, _, Z2x, _, by kernel_rfl, vb, rfl⟩) rfl ?_
 refine Ac (Z00 (ps := [(0, .const (Value.string { data := #[118, 108, 97, 110, 95, 112, 99, 112] })), (1, .const (Value.int IntKind.i64 7)), (2, .const (Value.int IntKind.i64 3)), (3, .const (Value.bool false))]) (x := (⟨{ data := #[118, 108, 97, 110, 95, 112, 99, 112] }, 7, 3, false⟩ : field_row)) rfl rfl rfl (by kernel_rfl) Z2o ⟨_, _, Z2y, _, by kernel_rfl, (vs (by decide)), _, _, Z2q, _, by kernel_rfl, (vk rfl), _, _, Z2n, _, by kernel_rfl, (vk rfl), _, _, Z2x, _, by kernel_rfl, vb, rfl⟩) rfl <| Ac (Z00 (ps := [(0, .const (Value.string { data := #[105, 112, 95, 100, 115, 99, 112] })), (1, .const (Value.int IntKind.i64 8)), (2, .const (Value.int IntKind.i64 6)), (3, .const (Value.bool false))]) (x := (⟨{ data := #[105, 112, 95, 100, 115, 99, 112] }, 8, 6, false⟩ : field_row)) rfl rfl rfl (by kernel_rfl) Z2o ⟨_, _, Z2y, _, by kernel_rfl, (vs (by decide)), _, _, Z2q, _, by kernel_rfl, (vk rfl), _, _, Z2n, _, by kernel_rfl, (vk rfl), _, _, Z2x, _, by kernel_rfl, vb, rfl⟩) rfl <| Ac (Z00 (ps := [(0, .const (Value.string { data := #[105, 112, 95, 101, 99, 110] })), (1, .const (Value.int IntKind.i64 9)), (2, .const (Value.int IntKind.i64 2)), (3, .const (Value.bool false))]) (x := (⟨{ data := #[105, 112, 95, 101, 99, 110] }, 9, 2, false⟩ : field_row)) rfl rfl rfl (by kernel_rfl) Z2o ⟨_, _, Z2y, _, by kernel_rfl, (vs (by decide)), _, _, Z2q, _, by kernel_rfl, (vk rfl), _, _, Z2n, _, by kernel_rfl, (vk rfl), _, _, Z2x, _, by kernel_rfl, vb, rfl⟩) rfl <| Ac (Z00 (ps := [(0, .const (Value.string { data := #[105, 112, 95, 112, 114, 111, 116, 111] })), (1, .const (Value.int IntKind.i64 10)), (2, .const (Value.int IntKind.i64 8)), (3, .const (Value.bool false))]) (x := (⟨{ data := #[105, 112, 95, 112, 114, 111, 116, 111] }, 10, 8, false⟩ : field_row)) rfl rfl rfl (by kernel_rfl) Z2o ⟨_, _, Z2y, _, by kernel_rfl, (vs (by decide)), _, _, Z2q, _, by kernel_rfl, (vk rfl), _, _, Z2n, _, by kernel_rfl, (vk rfl), _, _, Z2x, _, by kernel_rfl, vb, rfl⟩) rfl <| Ac (Z00 (ps := [(0, .const (Value.string { data := #[105, 112, 118, 52, 95, 115, 114, 99] })), (1, .const (Value.int IntKind.i64 11)), (2, .const (Value.int IntKind.i64 32)), (3, .const (Value.bool true))]) (x := (⟨{ data := #[105, 112, 118, 52, 95, 115, 114, 99] }, 11, 32, true⟩ : field_row)) rfl rfl rfl (by kernel_rfl) Z2o ⟨_, _, Z2y, _, by kernel_rfl, (vs (by decide)), _, _, Z2q, _, by kernel_rfl, (vk rfl), _, _, Z2n, _, by kernel_rfl, (vk rfl), _, _, Z2x, _, by kernel_rfl, vb, rfl⟩) rfl <| Ac (Z00 (ps := [(0, .const (Value.string { data := #[105, 112, 118, 52, 95, 100, 115, 116] })), (1, .const (Value.int IntKind.i64 12)), (2, .const (Value.int IntKind.i64 32)), (3, .const (Value.bool true))]) (x := (⟨{ data := #[105, 112, 118, 52, 95, 100, 115, 116] }, 12, 32, true⟩ : field_row)) rfl rfl rfl (by kernel_rfl) Z2o ⟨_, _, Z2y, _, by kernel_rfl, (vs (by decide)), _, _, Z2q, _, by kernel_rfl, (vk rfl), _, _, Z2n, _, by kernel_rfl, (vk rfl), _, _, Z2x, _, by kernel_rfl, vb, rfl⟩) rfl ?_
 refine Ac (Z00 (ps := [(0, .const (Value.string { data := #[116, 99, 112, 95, 115, 114, 99] })), (1, .const (Value.int IntKind.i64 13)), (2, .const (Value.int IntKind.i64 16)), (3, .const (Value.bool false))]) (x := (⟨{ data := #[116, 99, 112, 95, 115, 114, 99] }, 13, 16, false⟩ : field_row)) rfl rfl rfl (by kernel_rfl) Z2o ⟨_, _, Z2y, _, by kernel_rfl, (vs (by decide)), _, _, Z2q, _, by kernel_rfl, (vk rfl), _, _, Z2n, _, by kernel_rfl, (vk rfl), _, _, Z2x, _, by kernel_rfl, vb, rfl⟩) rfl <| Ac (Z00 (ps := [(0, .const (Value.string { data := #[116, 99, 112, 95, 100, 115, 116] })), (1, .const (Value.int IntKind.i64 14)), (2, .const (Value.int IntKind.i64 16)), (3, .const (Value.bool false))]) (x := (⟨{ data := #[116, 99, 112, 95, 100, 115, 116] }, 14, 16, false⟩ : field_row)) rfl rfl rfl (by kernel_rfl) Z2o ⟨_, _, Z2y, _, by kernel_rfl, (vs (by decide)), _, _, Z2q, _, by kernel_rfl, (vk rfl), _, _, Z2n, _, by kernel_rfl, (vk rfl), _, _, Z2x, _, by kernel_rfl, vb, rfl⟩) rfl <| Ac (Z00 (ps := [(0, .const (Value.string { data := #[117, 100, 112, 95, 115, 114, 99] })), (1, .const (Value.int IntKind.i64 15)), (2, .const (Value.int IntKind.i64 16)), (3, .const (Value.bool false))]) (x := (⟨{ data := #[117, 100, 112, 95, 115, 114, 99] }, 15, 16, false⟩ : field_row)) rfl rfl rfl (by kernel_rfl) Z2o ⟨_, _, Z2y, _, by kernel_rfl, (vs (by decide)), _, _, Z2q, _, by kernel_rfl, (vk rfl), _, _, Z2n, _, by kernel_rfl, (vk rfl), _, _, Z2x, _, by kernel_rfl, vb, rfl⟩) rfl <| Ac (Z00 (ps := [(0, .const (Value.string { data := #[117, 100, 112, 95, 100, 115, 116] })), (1, .const (Value.int IntKind.i64 16)), (2, .const (Value.int IntKind.i64 16)), (3, .const (Value.bool false))]) (x := (⟨{ data := #[117, 100, 112, 95, 100, 115, 116] }, 16, 16, false⟩ : field_row)) rfl rfl rfl (by kernel_rfl) Z2o ⟨_, _, Z2y, _, by kernel_rfl, (vs (by decide)), _, _, Z2q, _, by kernel_rfl, (vk rfl), _, _, Z2n, _, by kernel_rfl, (vk rfl), _, _, Z2x, _, by kernel_rfl, vb, rfl⟩) rfl <| Ac (Z00 (ps := [(0, .const (Value.string { data := #[105, 99, 109, 112, 118, 52, 95, 116, 121, 112, 101] })), (1, .const (Value.int IntKind.i64 19)), (2, .const (Value.int IntKind.i64 8)), (3, .const (Value.bool false))]) (x := (⟨{ data := #[105, 99, 109, 112, 118, 52, 95, 116, 121, 112, 101] }, 19, 8, false⟩ : field_row)) rfl rfl rfl (by kernel_rfl) Z2o ⟨_, _, Z2y, _, by kernel_rfl, (vs (by decide)), _, _, Z2q, _, by kernel_rfl, (vk rfl), _, _, Z2n, _, by kernel_rfl, (vk rfl), _, _, Z2x, _, by kernel_rfl, vb, rfl⟩) rfl <| Ac (Z00 (ps := [(0, .const (Value.string { data := #[105, 99, 109, 112, 118, 52, 95, 99, 111, 100, 101] })), (1, .const (Value.int IntKind.i64 20)), (2, .const (Value.int IntKind.i64 8)), (3, .const (Value.bool false))]) (x := (⟨{ data := #[105, 99, 109, 112, 118, 52, 95, 99, 111, 100, 101] }, 20, 8, false⟩ : field_row)) rfl rfl rfl (by kernel_rfl) Z2o ⟨_, _, Z2y, _, by kernel_rfl, (vs (by decide)), _, _, Z2q, _, by kernel_rfl, (vk rfl), _, _, Z2n, _, by kernel_rfl, (vk rfl), _, _, Z2x, _, by kernel_rfl, vb, rfl⟩) rfl ?_
 refine Ac (Z00 (ps := [(0, .const (Value.string { data := #[97, 114, 112, 95, 111, 112] })), (1, .const (Value.int IntKind.i64 21)), (2, .const (Value.int IntKind.i64 16)), (3, .const (Value.bool false))]) (x := (⟨{ data := #[97, 114, 112, 95, 111, 112] }, 21, 16, false⟩ : field_row)) rfl rfl rfl (by kernel_rfl) Z2o ⟨_, _, Z2y, _, by kernel_rfl, (vs (by decide)), _, _, Z2q, _, by kernel_rfl, (vk rfl), _, _, Z2n, _, by kernel_rfl, (vk rfl), _, _, Z2x, _, by kernel_rfl, vb, rfl⟩) rfl <| Ac (Z00 (ps := [(0, .const (Value.string { data := #[97, 114, 112, 95, 115, 112, 97] })), (1, .const (Value.int IntKind.i64 22)), (2, .const (Value.int IntKind.i64 32)), (3, .const (Value.bool true))]) (x := (⟨{ data := #[97, 114, 112, 95, 115, 112, 97] }, 22, 32, true⟩ : field_row)) rfl rfl rfl (by kernel_rfl) Z2o ⟨_, _, Z2y, _, by kernel_rfl, (vs (by decide)), _, _, Z2q, _, by kernel_rfl, (vk rfl), _, _, Z2n, _, by kernel_rfl, (vk rfl), _, _, Z2x, _, by kernel_rfl, vb, rfl⟩) rfl <| Ac (Z00 (ps := [(0, .const (Value.string { data := #[97, 114, 112, 95, 116, 112, 97] })), (1, .const (Value.int IntKind.i64 23)), (2, .const (Value.int IntKind.i64 32)), (3, .const (Value.bool true))]) (x := (⟨{ data := #[97, 114, 112, 95, 116, 112, 97] }, 23, 32, true⟩ : field_row)) rfl rfl rfl (by kernel_rfl) Z2o ⟨_, _, Z2y, _, by kernel_rfl, (vs (by decide)), _, _, Z2q, _, by kernel_rfl, (vk rfl), _, _, Z2n, _, by kernel_rfl, (vk rfl), _, _, Z2x, _, by kernel_rfl, vb, rfl⟩) rfl <| Ac (Z00 (ps := [(0, .const (Value.string { data := #[105, 112, 118, 54, 95, 115, 114, 99] })), (1, .const (Value.int IntKind.i64 26)), (2, .const (Value.int IntKind.i64 128)), (3, .const (Value.bool true))]) (x := (⟨{ data := #[105, 112, 118, 54, 95, 115, 114, 99] }, 26, 128, true⟩ : field_row)) rfl rfl rfl (by kernel_rfl) Z2o ⟨_, _, Z2y, _, by kernel_rfl, (vs (by decide)), _, _, Z2q, _, by kernel_rfl, (vk rfl), _, _, Z2n, _, by kernel_rfl, (vk rfl), _, _, Z2x, _, by kernel_rfl, vb, rfl⟩) rfl <| Ac (Z00 (ps := [(0, .const (Value.string { data := #[105, 112, 118, 54, 95, 100, 115, 116] })), (1, .const (Value.int IntKind.i64 27)), (2, .const (Value.int IntKind.i64 128)), (3, .const (Value.bool true))]) (x := (⟨{ data := #[105, 112, 118, 54, 95, 100, 115, 116] }, 27, 128, true⟩ : field_row)) rfl rfl rfl (by kernel_rfl) Z2o ⟨_, _, Z2y, _, by kernel_rfl, (vs (by decide)), _, _, Z2q, _, by kernel_rfl, (vk rfl), _, _, Z2n, _, by kernel_rfl, (vk rfl), _, _, Z2x, _, by kernel_rfl, vb, rfl⟩) rfl <| Ac (Z00 (ps := [(0, .const (Value.string { data := #[109, 112, 108, 115, 95, 108, 97, 98, 101, 108] })), (1, .const (Value.int IntKind.i64 34)), (2, .const (Value.int IntKind.i64 20)), (3, .const (Value.bool false))]) (x := (⟨{ data := #[109, 112, 108, 115, 95, 108, 97, 98, 101, 108] }, 34, 20, false⟩ : field_row)) rfl rfl rfl (by kernel_rfl) Z2o ⟨_, _, Z2y, _, by kernel_rfl, (vs (by decide)), _, _, Z2q, _, by kernel_rfl, (vk rfl), _, _, Z2n, _, by kernel_rfl, (vk rfl), _, _, Z2x, _, by kernel_rfl, vb, rfl⟩) rfl ?_
 refine Ac (Z00 (ps := [(0, .tmp 1), (1, .tmp 2), (2, .tmp 3), (3, .tmp 4), (4, .tmp 5), (5, .tmp 6), (6, .tmp 7), (7, .tmp 8), (8, .tmp 9), (9, .tmp 10), (10, .tmp 11), (11, .tmp 12), (12, .tmp 13), (13, .tmp 14), (14, .tmp 15), (15, .tmp 16), (16, .tmp 17), (17, .tmp 18), (18, .tmp 19), (19, .tmp 20), (20, .tmp 21), (21, .tmp 22), (22, .tmp 23), (23, .tmp 24)]) (x := (Vector.set (Vector.set (Vector.set (Vector.set (Vector.set (Vector.set (Vector.set (Vector.set (Vector.set (Vector.set (Vector.set (Vector.set (Vector.set (Vector.set (Vector.set (Vector.set (Vector.set (Vector.set (Vector.set (Vector.set (Vector.set (Vector.set (Vector.set (Vector.set (Vector.replicate 24 Zho) 0 (⟨{ data := #[105, 110, 95, 112, 111, 114, 116] }, 0, 32, false⟩ : field_row) (by decide)) 1 (⟨{ data := #[109, 101, 116, 97, 100, 97, 116, 97] }, 2, 64, true⟩ : field_row) (by decide)) 2 (⟨{ data := #[101, 116, 104, 95, 100, 115, 116] }, 3, 48, true⟩ : field_row) (by decide)) 3 (⟨{ data := #[101, 116, 104, 95, 115, 114, 99] }, 4, 48, true⟩ : field_row) (by decide)) 4 (⟨{ data := #[101, 116, 104, 95, 116, 121, 112, 101] }, 5, 16, false⟩ : field_row) (by decide)) 5 (⟨{ data := #[118, 108, 97, 110, 95, 118, 105, 100] }, 6, 13, true⟩ : field_row) (by decide)) 6 (⟨{ data := #[118, 108, 97, 110, 95, 112, 99, 112] }, 7, 3, false⟩ : field_row) (by decide)) 7 (⟨{ data := #[105, 112, 95, 100, 115, 99, 112] }, 8, 6, false⟩ : field_row) (by decide)) 8 (⟨{ data := #[105, 112, 95, 101, 99, 110] }, 9, 2, false⟩ : field_row) (by decide)) 9 (⟨{ data := #[105, 112, 95, 112, 114, 111, 116, 111] }, 10, 8, false⟩ : field_row) (by decide)) 10 (⟨{ data := #[105, 112, 118, 52, 95, 115, 114, 99] }, 11, 32, true⟩ : field_row) (by decide)) 11 (⟨{ data := #[105, 112, 118, 52, 95, 100, 115, 116] }, 12, 32, true⟩ : field_row) (by decide)) 12 (⟨{ data := #[116, 99, 112, 95, 115, 114, 99] }, 13, 16, false⟩ : field_row) (by decide)) 13 (⟨{ data := #[116, 99, 112, 95, 100, 115, 116] }, 14, 16, false⟩ : field_row) (by decide)) 14 (⟨{ data := #[117, 100, 112, 95, 115, 114, 99] }, 15, 16, false⟩ : field_row) (by decide)) 15 (⟨{ data := #[117, 100, 112, 95, 100, 115, 116] }, 16, 16, false⟩ : field_row) (by decide)) 16 (⟨{ data := #[105, 99, 109, 112, 118, 52, 95, 116, 121, 112, 101] }, 19, 8, false⟩ : field_row) (by decide)) 17 (⟨{ data := #[105, 99, 109, 112, 118, 52, 95, 99, 111, 100, 101] }, 20, 8, false⟩ : field_row) (by decide)) 18 (⟨{ data := #[97, 114, 112, 95, 111, 112] }, 21, 16, false⟩ : field_row) (by decide)) 19 (⟨{ data := #[97, 114, 112, 95, 115, 112, 97] }, 22, 32, true⟩ : field_row) (by decide)) 20 (⟨{ data := #[97, 114, 112, 95, 116, 112, 97] }, 23, 32, true⟩ : field_row) (by decide)) 21 (⟨{ data := #[105, 112, 118, 54, 95, 115, 114, 99] }, 26, 128, true⟩ : field_row) (by decide)) 22 (⟨{ data := #[105, 112, 118, 54, 95, 100, 115, 116] }, 27, 128, true⟩ : field_row) (by decide)) 23 (⟨{ data := #[109, 112, 108, 115, 95, 108, 97, 98, 101, 108] }, 34, 20, false⟩ : field_row) (by decide))) rfl rfl rfl (by kernel_rfl) Zv8 ⟨_, _, Lens.idx 24 Z1n 0 (by decide), _, by kernel_rfl, (vt rfl), _, _, Lens.idx 24 Z1n 1 (by decide), _, by kernel_rfl, (vt rfl), _, _, Lens.idx 24 Z1n 2 (by decide), _, by kernel_rfl, (vt rfl), _, _, Lens.idx 24 Z1n 3 (by decide), _, by kernel_rfl, (vt rfl), _, _, Lens.idx 24 Z1n 4 (by decide), _, by kernel_rfl, (vt rfl), _, _, Lens.idx 24 Z1n 5 (by decide), _, by kernel_rfl, (vt rfl), _, _, Lens.idx 24 Z1n 6 (by decide), _, by kernel_rfl, (vt rfl), _, _, Lens.idx 24 Z1n 7 (by decide), _, by kernel_rfl, (vt rfl), _, _, Lens.idx 24 Z1n 8 (by decide), _, by kernel_rfl, (vt rfl), _, _, Lens.idx 24 Z1n 9 (by decide), _, by kernel_rfl, (vt rfl), _, _, Lens.idx 24 Z1n 10 (by decide), _, by kernel_rfl, (vt rfl), _, _, Lens.idx 24 Z1n 11 (by decide), _, by kernel_rfl, (vt rfl), _, _, Lens.idx 24 Z1n 12 (by decide), _, by kernel_rfl, (vt rfl), _, _, Lens.idx 24 Z1n 13 (by decide), _, by kernel_rfl, (vt rfl), _, _, Lens.idx 24 Z1n 14 (by decide), _, by kernel_rfl, (vt rfl), _, _, Lens.idx 24 Z1n 15 (by decide), _, by kernel_rfl, (vt rfl), _, _, Lens.idx 24 Z1n 16 (by decide), _, by kernel_rfl, (vt rfl), _, _, Lens.idx 24 Z1n 17 (by decide), _, by kernel_rfl, (vt rfl), _, _, Lens.idx 24 Z1n 18 (by decide), _, by kernel_rfl, (vt rfl), _, _, Lens.idx 24 Z1n 19 (by decide), _, by kernel_rfl, (vt rfl), _, _, Lens.idx 24 Z1n 20 (by decide), _, by kernel_rfl, (vt rfl), _, _, Lens.idx 24 Z1n 21 (by decide), _, by kernel_rfl, (vt rfl), _, _, Lens.idx 24 Z1n 22 (by decide), _, by kernel_rfl, (vt rfl), _, _, Lens.idx 24 Z1n 23 (by decide), _, by kernel_rfl, (vt rfl), rfl⟩) rfl ?_
 refine Zj Zz1 1 rfl <| Nl <| AW.ret ?_
 obtain rfl := si h
 exact Zi Tryz.results344 rfl (Z01 rfl (i := 1) rfl Zz1)
def Zm6 (f1 : Int) : Option field_row :=
 (Z72 f1).bind fun x3 => (bif (!x3) then some (⟨(⟨#[]⟩ : ByteArray), (-1), 0, false⟩ : field_row) else (Zgo).bind fun x4 => (lget (Vector.toList x4) f1).bind fun e5 => some e5)
theorem Y5d (f1 : Int) (r : field_row) (h : Zm6 f1 = some r) : PCon Tryz.prog 336 [rd (Z0 .i64) f1] (rd Z1n r) := by
 refine PCon.of (Con.intro0 Tryz.func336 rfl Tryz.ntmps336 rfl fun w H => ?_)
 unfold Zm6 at h
 refine SR <| Ct rfl (Zq 3 rfl rfl Z2o) ?_
 rintro _ ⟨g2, rfl⟩
 refine Nl <| AW.seq <| AW.seq ?_
 obtain ⟨x3, hx3, h⟩ := Z1 h
 refine Rg <| Md rfl <| Cl [3] (Zmc _ _ hx3) Zmn rfl <| Ac (Z19 rfl rfl (vt rfl)) rfl <| Nl <| Cn rfl (fun hc => ?_) (fun hc => ?_)
 ·have h := Zf hc h
  refine SR <| Ac (Z00 (ps := [(1, .const (Value.int IntKind.i64 (-1)))]) (x := (⟨(⟨#[]⟩ : ByteArray), (-1), 0, false⟩ : field_row)) rfl rfl rfl (by kernel_rfl) Z2o ⟨_, _, Z2q, _, by kernel_rfl, (vk rfl), rfl⟩) rfl <| Zj Zgm 3 rfl <| Nl <| AW.ret ?_
  obtain rfl := si h
  exact Zi Tryz.results336 rfl (Z01 rfl (i := 3) rfl Zgm)
 ·have h := Zg hc h
  refine AW.skip <| AW.seq ?_
  obtain ⟨x4, hx4, h⟩ := Z1 h
  obtain ⟨e5, he5, h⟩ := Z1 h
  refine Rg <| Cl [] (Y3s _ hx4) Y8w rfl <| Md rfl <| Ac (Zb3 rfl rfl Y3e Zgm (vt rfl) (vt rfl) he5) rfl <| Zj Zgm 3 rfl <| Nl <| AW.ret ?_
  obtain rfl := si h
  exact Zi Tryz.results336 rfl (Z01 rfl (i := 3) rfl Zgm)
def Zbf (f1 : Int) : Option Int :=
 (Zm6 f1).bind fun x2 => some x2.bits
theorem Y9n (f1 : Int) (r : Int) (h : Zbf f1 = some r) : PCon Tryz.prog 312 [rd (Z0 .i64) f1] (rd (Z0 .i64) r) := by
 refine PCon.of (Con.intro0 Tryz.func312 rfl Tryz.ntmps312 rfl fun w H => ?_)
 unfold Zbf at h
 refine SR <| Ak rfl <| Nl <| AW.seq ?_
 obtain ⟨x2, hx2, h⟩ := Z1 h
 refine Rg <| Md rfl <| Cl [3] (Y5d _ _ hx2) Y31 rfl <| Ac (Zur Z2n rfl rfl Ybq Y4b ty3 rfl (vt rfl)) rfl <| As rfl <| Nl <| AW.ret ?_
 obtain rfl := si h
 exact Zi Tryz.results312 rfl (Z8 rfl)
def Zdz (n1 : Int) : Option (BitVec 64) :=
 (bif (decide (n1 ≥ 64)) then some (18446744073709551615 : BitVec 64) else (Z80 (1 : BitVec 64) (Z1r n1 0)).bind fun q2 => some (q2 - (1 : BitVec 64)))
theorem Zv7 (n1 : Int) (r : (BitVec 64)) (h : Zdz n1 = some r) : PCon Tryz.prog 299 [rd (Z0 .i64) n1] (rd Z0q r) := by
 refine PCon.of (Con.intro0 Tryz.func299 rfl Tryz.ntmps299 rfl fun w H => ?_)
 unfold Zdz at h
 refine SR <| Ac (Z02 (A := rd Z0q (0 : BitVec 64)) rfl rfl (vku (0 : BitVec 64) rfl)) rfl <| Nl <| AW.seq <| SR <| Md rfl <| Ac (Z4e rfl rfl (vt rfl) (vk rfl)) rfl <| Nl <| Cn rfl (fun hc => ?_) (fun hc => ?_)
 ·have h := Zf hc h
  refine SR <| Ac (Z02 (A := rd Z0q (18446744073709551615 : BitVec 64)) rfl rfl (vku (18446744073709551615 : BitVec 64) rfl)) rfl <| Nl <| AW.ret ?_
  obtain rfl := si h
  exact Zi Tryz.results299 rfl (Z8 rfl)
 ·have h := Zg hc h
  refine AW.skip <| AW.seq ?_
  obtain ⟨q2, hq2, h⟩ := Z1 h
  refine Rg <| Md rfl <| Ac (Zgb rfl rfl (vt rfl) (vk rfl)) rfl <| Ac (Znm rfl rfl (vku (1 : BitVec 64) rfl) (vt rfl) hq2) rfl <| Ac (Yee rfl rfl (vt rfl) (vku (1 : BitVec 64) rfl)) rfl <| As rfl <| Nl <| AW.ret ?_
  obtain rfl := si h
  exact Zi Tryz.results299 rfl (Z8 rfl)
def Z9a (n1 : Int) : Option Wide :=
 (Zdz (IntKind.i64.wrap ((Z4a (Z1r n1 0) 128) - 64))).bind fun x3 => (Zdz (Z4a (Z1r n1 0) 128)).bind fun x4 => some (⟨x3, x4⟩ : Wide)
theorem Zs9 (n1 : Int) (r : Wide) (h : Z9a n1 = some r) : PCon Tryz.prog 254 [rd (Z0 .i64) n1] (rd Zh r) := by
 refine PCon.of (Con.intro0 Tryz.func254 rfl Tryz.ntmps254 rfl fun w H => ?_)
 unfold Z9a at h
 refine SR <| Ct rfl (Zq 3 rfl rfl Z1l) ?_
 rintro _ ⟨g2, rfl⟩
 refine Nl <| SR <| Md rfl <| Ac (Zgb rfl rfl (vt rfl) (vk rfl)) rfl <| Ac (Zp3 rfl rfl (vt rfl) (vk rfl)) rfl <| As rfl <| Nl <| AW.seq ?_
 obtain ⟨x3, hx3, h⟩ := Z1 h
 obtain ⟨x4, hx4, h⟩ := Z1 h
 refine Rg <| Md rfl <| Ac (Z0j rfl rfl (vt rfl) (vk rfl)) rfl <| Cl [7] (Zv7 _ _ hx3) Zyv rfl <| Md rfl <| Cl [9] (Zv7 _ _ hx4) Zyv rfl <| Ac (Z00 (ps := [(0, .tmp 8), (1, .tmp 10)]) (x := (⟨x3, x4⟩ : Wide)) rfl rfl rfl (by kernel_rfl) Z1l ⟨_, _, Z28, _, by kernel_rfl, (vt rfl), _, _, Z1y, _, by kernel_rfl, (vt rfl), rfl⟩) rfl <| Zj Zv 3 rfl <| Nl <| AW.ret ?_
 obtain rfl := si h
 exact Zi Tryz.results254 rfl (Z01 rfl (i := 3) rfl Zv)
def Zdw (o1 : Oxm) : Option Tern :=
 (Z72 o1.Field).bind fun x4 => (bif (!x4) then some (⟨Z0a, Z0a⟩ : Tern) else (bif o1.Masked then some (⟨o1.Value, o1.Mask⟩ : Tern) else (Zbf o1.Field).bind fun x5 => (Z9a x5).bind fun x6 => some (⟨o1.Value, x6⟩ : Tern)))
theorem Zzp (o1 : Oxm) (r : Tern) (h : Zdw o1 = some r) : PCon Tryz.prog 275 [rd Z23 o1] (rd Z3 r) := by
 refine PCon.of (Con.intro0 Tryz.func275 rfl Tryz.ntmps275 rfl fun w H => ?_)
 unfold Zdw at h
 refine SR <| Ct rfl (Zn 2 rfl rfl (vt rfl)) ?_
 rintro _ ⟨g2, rfl⟩
 refine Ct rfl (Zq 3 rfl rfl Z1a) ?_
 rintro _ ⟨g3, rfl⟩
 refine Nl <| AW.seq <| AW.block <| AW.seq ?_
 obtain ⟨x4, hx4, h⟩ := Z1 h
 refine Rg <| Zl Z46 Z4l rfl <| Ld ty3 2 rfl <| Cl [5] (Zmc _ _ hx4) Zmn rfl <| Ac (Z19 rfl rfl (vt rfl)) rfl <| As rfl <| Nl <| Cn rfl (fun hc => ?_) (fun hc => ?_)
 ·have h := Zf hc h
  refine SR <| Ac (Z00 (ps := []) (x := (⟨Z0a, Z0a⟩ : Tern)) rfl rfl rfl (by kernel_rfl) Z1a rfl) rfl <| Zj Zz 3 rfl <| Nl <| AW.ret ?_
  obtain rfl := si h
  exact Zi Tryz.results275 rfl (Z01 rfl (i := 3) rfl Zz)
 ·have h := Zg hc h
  refine SR <| Zl Zsb Zy7 rfl <| Ld ty4 2 rfl <| As rfl <| Nl <| Cn rfl (fun hc => ?_) (fun hc => ?_)
  ·have h := Zf hc h
   refine SR <| Zl Zjs Zlo rfl <| Ld Zv 2 rfl <| Zl Zs1 Y0t rfl <| Ld Zv 2 rfl <| Ac (Z00 (ps := [(0, .tmp 13), (1, .tmp 15)]) (x := (⟨o1.Value, o1.Mask⟩ : Tern)) rfl rfl rfl (by kernel_rfl) Z1a ⟨_, _, Z1c, _, by kernel_rfl, (vt rfl), _, _, Z0v, _, by kernel_rfl, (vt rfl), rfl⟩) rfl <| Zj Zz 3 rfl <| Nl <| AW.ret ?_
   obtain rfl := si h
   exact Zi Tryz.results275 rfl (Z01 rfl (i := 3) rfl Zz)
  ·have h := Zg hc h
   refine AW.skip <| AW.seq ?_
   obtain ⟨x5, hx5, h⟩ := Z1 h
   obtain ⟨x6, hx6, h⟩ := Z1 h
   refine AW.regionAny [⟨[1], [17], [], []⟩, ⟨[17], [18], [2], []⟩, ⟨[1], [19], [], []⟩, ⟨[19], [20], [2], []⟩, ⟨[20], [21], [], []⟩, ⟨[21], [22], [], []⟩, ⟨[18, 22], [23], [], []⟩, ⟨[2, 23], [], [3], [3]⟩] Z05 (by kernel_rfl) <| SFd Zjs Zlo rfl <| Zo Zv 2 rfl <| SFd Z46 Z4l rfl <| Zo ty3 2 rfl <| SCl [20] (Y9n _ _ hx5) Ycp rfl <| SCl [21] (Zs9 _ _ hx6) Znr rfl <| Sc (lo [18, 22] [] rfl fun S hs hr => Z00 (ps := [(0, .tmp 18), (1, .tmp 22)]) (x := (⟨o1.Value, x6⟩ : Tern)) rfl rfl rfl (by kernel_rfl) Z1a ⟨_, _, Z1c, _, by kernel_rfl, (vh hs 18 rfl rfl), _, _, Z0v, _, by kernel_rfl, (vh hs 22 rfl rfl), rfl⟩) rfl <| SSt Zz 3 rfl <| AW.ret ?_
   obtain rfl := si h
   exact Zi Tryz.results275 rfl (Z01 rfl (i := 3) rfl Zz)
def Z7m : (List Oxm) → Nat → Z5 → Option Z5
 | [], i7, b6 => some b6
 | x9 :: l8, i7, b6 => (Z72 x9.Field).bind fun x11 => (bif x11 then (Zdw x9).bind fun x12 => (chk 24 x9.Field).bind fun j13 => (Z7m l8) (i7 + 1) (Vector.set b6 j13.1 x12 j13.2) else (Z7m l8) (i7 + 1) b6)
def Zln (l1 : (List Oxm)) : Option Z5 :=
 (Zg2).bind fun x3 => Z7m l1 0 x3
theorem Yag (l1 : (List Oxm)) (r : Z5) (h : Zln l1 = some r) : PCon Tryz.prog 229 [rd (Z4 Z23) l1] (rd (Z2 24 Z3) r) := by
 refine PCon.of (Con.intro0 Tryz.func229 rfl Tryz.ntmps229 rfl fun w H => ?_)
 unfold Zln at h
 refine SR <| Ct rfl (Zq 3 rfl rfl Z15) ?_
 rintro _ ⟨g2, rfl⟩
 refine Nl <| AW.seq ?_
 obtain ⟨x3, hx3, h⟩ := Z1 h
 refine Rg <| Cl [] (Zzo _ hx3) e73 rfl <| Ct rfl (Zq 4 rfl rfl Z15) ?_
 rintro _ ⟨g4, rfl⟩
 refine Zj Z03 4 rfl <| Nl <| AW.seq <| SR <| Md rfl <| Ac (Z0x rfl rfl Zda (vt rfl)) rfl <| Mk rfl <| Nl <| AW.block <| AW.loopG (d := []) (ν := (List Oxm) × Nat × Z5) (fun n => Sfx l1 n.2.1 n.1 ∧ Z7m n.1 n.2.1 n.2.2 = some r) (fun n => n.1.length) (fun n => [(2, Z7 g2 (Lens.id (Z2 24 Z3))), (3, Z7 g4 (Lens.id (Z2 24 Z3))), (7, rd (Z4 Z23) l1), (8, rd (Z0 .i64) (l1.length : Int)), (9, rd (Z0 .i64) (n.2.1 : Int))]) (fun n => [(3, Z9 g2 87 (Z2 24 Z3) (Vector.replicate 24 zTern)), (4, Z9 g4 87 (Z2 24 Z3) n.2.2)]) (l1, 0, x3) ⟨Sfx.start _, h⟩ (FX rfl) ?_
 rintro ⟨l8, i7, b6⟩ ⟨hsf1, h⟩
 change Sfx l1 i7 l8 at hsf1
 change Z7m l8 i7 b6 = some r at h
 change AW _ _ _ ⟨Zw [(2, Z7 g2 (Lens.id (Z2 24 Z3))), (3, Z7 g4 (Lens.id (Z2 24 Z3))), (7, rd (Z4 Z23) l1), (8, rd (Z0 .i64) (l1.length : Int)), (9, rd (Z0 .i64) (i7 : Int))], Zx [(3, Z9 g2 87 (Z2 24 Z3) (Vector.replicate 24 zTern)), (4, Z9 g4 87 (Z2 24 Z3) b6)], _⟩
 cases l8 with
 | nil =>
  unfold Z7m at h
  refine SR <| Ac (Zp rfl rfl (vt rfl) (vt rfl)) rfl <| Nl <| AW.seq <| Cn rfl (fun hc => absurd (of_decide_eq_true hc) hsf1.nil) (fun hc => ?_)
  refine AW.exit <| SR <| Ld Z03 4 rfl <| Zj Z03 3 rfl <| Nl <| AW.ret ?_
  obtain rfl := si h
  exact Zi Tryz.results229 rfl (Z01 rfl (i := 3) rfl Z03)
 | cons x9 l8 =>
  unfold Z7m at h
  generalize hgo1 : Z7m l8 = go1 at h
  refine SR <| Ac (Zp rfl rfl (vt rfl) (vt rfl)) rfl <| Nl <| AW.seq <| Cn rfl (fun hc => ?_) (fun hc => absurd hsf1.cons (of_decide_eq_false hc))
  have hlti7 := of_decide_eq_true hc
  refine AW.skip <| AW.seq <| AW.block <| SR <| Ac (Z0r rfl rfl Zda (vt rfl) (vt rfl) hsf1.lget) rfl <| Lp1 Ze0 rfl <| Ct rfl (Zq 6 rfl rfl Yaf) ?_
  rintro _ ⟨g10, rfl⟩
  refine Zj Ze0 6 rfl <| Nl <| AW.seq ?_
  obtain ⟨x11, hx11, h⟩ := Z1 h
  refine Rg <| Zl Z46 Z4l rfl <| Ld ty3 6 rfl <| Cl [14] (Zmc _ _ hx11) Zmn rfl <| Nl <| Cn rfl (fun hc => ?_) (fun hc => ?_)
  ·have h := Zf hc h
   obtain ⟨x12, hx12, h⟩ := Z1 h
   obtain ⟨j13, hj13, h⟩ := Z1 h
   refine AW.regionAny [⟨[5], [16], [], []⟩, ⟨[16], [17], [6], []⟩, ⟨[5], [18], [6], []⟩, ⟨[18], [19], [], []⟩, ⟨[3, 17], [20], [], []⟩, ⟨[20, 19], [], [4], [4]⟩] Z05 (by kernel_rfl) <| SFd Z46 Z4l rfl <| Zo ty3 6 rfl <| Zo Ze0 6 rfl <| SCl [18] (Zzp _ _ hx12) Zwe rfl <| Sc (lo [3, 17] [] rfl fun S hs hr => Z1b rfl rfl Z2a (vh hs 3 rfl rfl) (vh hs 17 rfl rfl) hj13) rfl <| SSt Zz 4 rfl <| Rg <| Ac (Z22 (t := 8) rfl rfl (vt rfl) (vk rfl) (vt rfl) hlti7) rfl <| Md rfl <| Nl ?_
   subst hgo1
   exact ⟨(l8, i7 + 1, (Vector.set b6 j13.1 x12 j13.2)), Nat.lt_succ_self _, ⟨hsf1.next, h⟩, FX rfl⟩
  ·have h := Zg hc h
   refine AW.skip <| Rg <| Ac (Z22 (t := 8) rfl rfl (vt rfl) (vk rfl) (vt rfl) hlti7) rfl <| Md rfl <| Nl ?_
   subst hgo1
   exact ⟨(l8, i7 + 1, b6), Nat.lt_succ_self _, ⟨hsf1.next, h⟩, FX rfl⟩
end Go.Proofs.YtknpgojdkobgjaaGreat.W
set_option maxRecDepth 4000
namespace Go.Proofs.YtknpgojdkobgjaaGreat.W
open Go Go.Wb
theorem Zhi : Ent Tryz.prog 177 := Ent.mk Tryz.func177 rfl rfl
theorem Z9p : Ent Tryz.prog 127 := Ent.mk Tryz.func127 rfl rfl
theorem Yei : Ent Tryz.prog 197 := Ent.mk Tryz.func197 rfl rfl
theorem Zzf : Ent Tryz.prog 196 := Ent.mk Tryz.func196 rfl rfl
theorem Y96 : Ent Tryz.prog 229 := Ent.mk Tryz.func229 rfl rfl
theorem Zvq : Ent Tryz.prog 126 := Ent.mk Tryz.func126 rfl rfl
theorem Y3p : Ent Tryz.prog 237 := Ent.mk Tryz.func237 rfl rfl
def Zam (a1 : Wide) (b2 : Wide) : Option Wide :=
 some (⟨(a1.Hi &&& b2.Hi), (a1.Lo &&& b2.Lo)⟩ : Wide)
theorem Zh1 (a1 : Wide) (b2 : Wide) (r : Wide) (h : Zam a1 b2 = some r) : PCon Tryz.prog 177 [rd Zh a1, rd Zh b2] (rd Zh r) := by
 refine PCon.of (Con.intro0 Tryz.func177 rfl Tryz.ntmps177 rfl fun w H => ?_)
 unfold Zam at h
 refine SR <| Ct rfl (Zn 3 rfl rfl (vt rfl)) ?_
 rintro _ ⟨g3, rfl⟩
 refine Ct rfl (Zn 4 rfl rfl (vt rfl)) ?_
 rintro _ ⟨g4, rfl⟩
 refine Ct rfl (Zq 5 rfl rfl Z1l) ?_
 rintro _ ⟨g5, rfl⟩
 refine Nl <| SR <| Zl Z28 Z3o rfl <| Ld Z1d 3 rfl <| Zl Z28 Z3o rfl <| Ld Z1d 4 rfl <| Ac (Z83 rfl rfl (vt rfl) (vt rfl)) rfl <| Zl Z1y Z3j rfl <| Ld Z1d 3 rfl <| Zl Z1y Z3j rfl <| Ld Z1d 4 rfl <| Ac (Z83 rfl rfl (vt rfl) (vt rfl)) rfl <| Ac (Z00 (ps := [(0, .tmp 9), (1, .tmp 14)]) (x := (⟨(a1.Hi &&& b2.Hi), (a1.Lo &&& b2.Lo)⟩ : Wide)) rfl rfl rfl (by kernel_rfl) Z1l ⟨_, _, Z28, _, by kernel_rfl, (vt rfl), _, _, Z1y, _, by kernel_rfl, (vt rfl), rfl⟩) rfl <| Zj Zv 5 rfl <| Nl <| AW.ret ?_
 obtain rfl := si h
 exact Zi Tryz.results177 rfl (Z01 rfl (i := 5) rfl Zv)
def Z5y (t1 : Tern) : Option Tern :=
 (Zam t1.Value t1.Mask).bind fun x4 => some (⟨x4, t1.Mask⟩ : Tern)
theorem Z9j (t1 : Tern) (r : Tern) (h : Z5y t1 = some r) : PCon Tryz.prog 127 [rd Z3 t1] (rd Z3 r) := by
 refine PCon.of (Con.intro0 Tryz.func127 rfl Tryz.ntmps127 rfl fun w H => ?_)
 unfold Z5y at h
 refine SR <| Ct rfl (Zn 2 rfl rfl (vt rfl)) ?_
 rintro _ ⟨g2, rfl⟩
 refine Ct rfl (Zq 3 rfl rfl Z1a) ?_
 rintro _ ⟨g3, rfl⟩
 refine Nl <| AW.seq ?_
 obtain ⟨x4, hx4, h⟩ := Z1 h
 refine AW.regionAny [⟨[1], [3], [], []⟩, ⟨[3], [4], [2], []⟩, ⟨[1], [5], [], []⟩, ⟨[5], [6], [2], []⟩, ⟨[4, 6], [7], [], []⟩, ⟨[1], [8], [], []⟩, ⟨[8], [9], [2], []⟩, ⟨[7, 9], [10], [], []⟩, ⟨[2, 10], [], [3], [3]⟩] Z05 (by kernel_rfl) <| SFd Z1c Z2i rfl <| Zo Zv 2 rfl <| SFd Z0v Z1x rfl <| Zo Zv 2 rfl <| SCl [4, 6] (Zh1 _ _ _ hx4) Zhi rfl <| SFd Z0v Z1x rfl <| Zo Zv 2 rfl <| Sc (lo [7, 9] [] rfl fun S hs hr => Z00 (ps := [(0, .tmp 7), (1, .tmp 9)]) (x := (⟨x4, t1.Mask⟩ : Tern)) rfl rfl rfl (by kernel_rfl) Z1a ⟨_, _, Z1c, _, by kernel_rfl, (vh hs 7 rfl rfl), _, _, Z0v, _, by kernel_rfl, (vh hs 9 rfl rfl), rfl⟩) rfl <| SSt Zz 3 rfl <| AW.ret ?_
 obtain rfl := si h
 exact Zi Tryz.results127 rfl (Z01 rfl (i := 3) rfl Zz)
def Zei (i1 : Int) (cp2 : Z5) : Option (Tern × Bool) :=
 (chk 24 i1).bind fun j4 => (Z5y (Vector.get cp2 j4)).bind fun x5 => some (x5, true)
theorem Y5e (i1 : Int) (cp2 : Z5) (r : (Tern × Bool)) (h : Zei i1 cp2 = some r) : PCon Tryz.prog 197 [rd (Z0 .i64) i1, rp (Z2 24 Z3) cp2] (Z1h (rd Z3 r.1) (rd Zc r.2)) := by
 refine PCon.of (Con.intro0 Tryz.func197 rfl Tryz.ntmps197 rfl fun w H => ?_)
 unfold Zei at h
 refine SR <| Ct rfl (Zq 4 rfl rfl Z1a) ?_
 rintro _ ⟨g3, rfl⟩
 refine Ab rfl <| Nl <| AW.seq ?_
 obtain ⟨j4, hj4, h⟩ := Z1 h
 obtain ⟨x5, hx5, h⟩ := Z1 h
 refine Rg <| Md rfl <| Ac (Z6i rfl rfl Z2a (vt rfl) (vt rfl) hj4) rfl <| Lp1 Zz rfl <| Cl [7] (Z9j _ _ hx5) Z9p rfl <| Zj Zz 4 rfl <| Ab rfl <| Nl <| AW.ret ?_
 obtain rfl := si h
 exact Z25 Tryz.results197 rfl (Z01 rfl (i := 4) rfl Zz) (Z8 rfl)
def Z55 (f1 : (Int → Option (Tern × Bool))) : Nat → Nat → Z5 → Option (Z5 × Bool)
 | 0, i6, b5 => some (b5, true)
 | m7 + 1, i6, b5 => (f1 (i6 : Int)).bind fun x8 => (bif (!x8.2) then some ((Vector.replicate 24 zTern), false) else (chk 24 (i6 : Int)).bind fun j10 => (Z55 f1 m7) (i6 + 1) (Vector.set b5 j10.1 x8.1 j10.2))
def Zd1 (f1 : (Int → Option (Tern × Bool))) : Option (Z5 × Bool) :=
 Z55 f1 (24 : Int).toNat 0 (Vector.replicate 24 zTern)
theorem Zv9 (f1 : (Int → Option (Tern × Bool))) (r : (Z5 × Bool)) (h : Zd1 f1 = some r) : PCon Tryz.prog 196 [fa1 Tryz.prog (Z0 .i64) (fun (y : (Tern × Bool)) => Z1h (rd Z3 y.1) (rd Zc y.2)) f1] (Z1h (rd (Z2 24 Z3) r.1) (rd Zc r.2)) := by
 refine PCon.of (Con.intro0 Tryz.func196 rfl Tryz.ntmps196 rfl fun w H => ?_)
 unfold Zd1 at h
 refine SR <| Ct rfl (Zq 3 rfl rfl Z15) ?_
 rintro _ ⟨g2, rfl⟩
 refine Ab rfl <| Nl <| SR <| Ct rfl (Zq 5 rfl rfl Z15) ?_
 rintro _ ⟨g3, rfl⟩
 refine Nl <| AW.seq <| SR <| Mk rfl <| Nl <| AW.block <| AW.loopG (d := []) (ν := Nat × Nat × Z5) (fun n => Cnt 24 n.2.1 n.1 ∧ Z55 f1 n.1 n.2.1 n.2.2 = some r) (fun n => n.1) (fun n => [(0, fa1 Tryz.prog (Z0 .i64) (fun (y : (Tern × Bool)) => Z1h (rd Z3 y.1) (rd Zc y.2)) f1), (2, Z7 g2 (Lens.id (Z2 24 Z3))), (4, Z7 g3 (Lens.id (Z2 24 Z3))), (8, rd (Z0 .i64) (n.2.1 : Int))]) (fun n => [(3, Z9 g2 87 (Z2 24 Z3) (Vector.replicate 24 zTern)), (5, Z9 g3 87 (Z2 24 Z3) n.2.2)]) ((24 : Int).toNat, 0, (Vector.replicate 24 zTern)) ⟨Cnt.start _, h⟩ (FX rfl) ?_
 rintro ⟨m7, i6, b5⟩ ⟨hsf1, h⟩
 change Cnt 24 i6 m7 at hsf1
 change Z55 f1 m7 i6 b5 = some r at h
 change AW _ _ _ ⟨Zw [(0, fa1 Tryz.prog (Z0 .i64) (fun (y : (Tern × Bool)) => Z1h (rd Z3 y.1) (rd Zc y.2)) f1), (2, Z7 g2 (Lens.id (Z2 24 Z3))), (4, Z7 g3 (Lens.id (Z2 24 Z3))), (8, rd (Z0 .i64) (i6 : Int))], Zx [(3, Z9 g2 87 (Z2 24 Z3) (Vector.replicate 24 zTern)), (5, Z9 g3 87 (Z2 24 Z3) b5)], _⟩
 cases m7 with
 | zero =>
  unfold Z55 at h
  refine SR <| Ac (Zp rfl rfl (vt rfl) (vk rfl)) rfl <| Nl <| AW.seq <| Cn rfl (fun hc => absurd (of_decide_eq_true hc) hsf1.zero) (fun hc => ?_)
  refine AW.exit <| SR <| Ld Z03 5 rfl <| Zj Z03 3 rfl <| Ab rfl <| Nl <| AW.ret ?_
  obtain rfl := si h
  exact Z25 Tryz.results196 rfl (Z01 rfl (i := 3) rfl Z03) (Z8 rfl)
 | succ m7 =>
  unfold Z55 at h
  generalize hgo1 : Z55 f1 m7 = go1 at h
  refine SR <| Ac (Zp rfl rfl (vt rfl) (vk rfl)) rfl <| Nl <| AW.seq <| Cn rfl (fun hc => ?_) (fun hc => absurd hsf1.succ (of_decide_eq_false hc))
  have hlti6 := of_decide_eq_true hc
  refine AW.skip <| AW.seq <| AW.block <| SR <| Md rfl <| As rfl <| Nl <| AW.seq ?_
  obtain ⟨x8, hx8, h⟩ := Z1 h
  refine Rg <| Ac (Zt (A := fa1 Tryz.prog (Z0 .i64) (fun (y : (Tern × Bool)) => Z1h (rd Z3 y.1) (rd Zc y.2)) f1) rfl rfl (vt rfl)) rfl <| Md rfl <| Ac (Y6o (B := (fun (y : (Tern × Bool)) => Z1h (rd Z3 y.1) (rd Zc y.2))) hx8 rfl rfl (vt rfl) (vt rfl)) rfl <| Mt2 rfl <| Ac (Z1s rfl rfl (vt rfl)) rfl <| Ac (Z1t rfl rfl (vt rfl)) rfl <| Ct rfl (Zq 7 rfl rfl Z1a) ?_
  rintro _ ⟨g9, rfl⟩
  refine Zj Zz 7 rfl <| As rfl <| Nl <| AW.seq <| SR <| Md rfl <| Ac (Z19 rfl rfl (vt rfl)) rfl <| Nl <| Cn rfl (fun hc => ?_) (fun hc => ?_)
  ·have h := Zf hc h
   refine SR <| Ac (Z00 (ps := []) (x := (Vector.replicate 24 zTern)) rfl rfl rfl (by kernel_rfl) Z15 rfl) rfl <| Zj Z03 3 rfl <| Ab rfl <| Nl <| AW.ret ?_
   obtain rfl := si h
   exact Z25 Tryz.results196 rfl (Z01 rfl (i := 3) rfl Z03) (Z8 rfl)
  ·have h := Zg hc h
   refine AW.skip ?_
   obtain ⟨j10, hj10, h⟩ := Z1 h
   refine Rg <| Md rfl <| Ld Zz 7 rfl <| Ac (Z1b rfl rfl Z2a (vt rfl) (vt rfl) hj10) rfl <| Zj Zz 5 rfl <| Nl <| Rg <| Ac (Z6k rfl rfl (vt rfl) (vk rfl) rfl hlti6) rfl <| Md rfl <| Nl ?_
   subst hgo1
   exact ⟨(m7, i6 + 1, (Vector.set b5 j10.1 x8.1 j10.2)), Nat.lt_succ_self _, ⟨hsf1.next, h⟩, FX rfl⟩
def Zef (cu1 : Z5) : Option Z5 :=
 (Zd1 (fun x => Zei x cu1)).bind fun x4 => some x4.1
theorem Y19 (cu1 : Z5) (r : Z5) (h : Zef cu1 = some r) : PCon Tryz.prog 126 [rd (Z2 24 Z3) cu1] (rd (Z2 24 Z3) r) := by
 refine PCon.of (Con.intro0 Tryz.func126 rfl Tryz.ntmps126 rfl fun w H => ?_)
 unfold Zef at h
 refine SR <| Ct rfl (Zn 2 rfl rfl (vt rfl)) ?_
 rintro _ ⟨g2, rfl⟩
 refine Ct rfl (Zq 3 rfl rfl Z15) ?_
 rintro _ ⟨g3, rfl⟩
 refine Nl <| AW.seq <| AW.freezeB 1 2 rfl rfl rfl ?_
 obtain ⟨x4, hx4, h⟩ := Z1 h
 refine Rg <| Ac (Y0c (fs := []) (FAs := []) (cs := [.tmp 1]) (CAs := [rp (Z2 24 Z3) cu1]) (kx := (Z0 .i64)) (B := (fun (y : (Tern × Bool)) => Z1h (rd Z3 y.1) (rd Zc y.2))) (fun x => Zei x cu1) rfl rfl Yei trivial ⟨vt rfl, trivial⟩ (fun x y h => Y5e _ _ y h)) rfl <| Cl [6] (Zv9 _ _ hx4) Zzf rfl <| Mt2 rfl <| Ac (Z1s rfl rfl (vt rfl)) rfl <| Ac (Z1t rfl rfl (vt rfl)) rfl <| Ct rfl (Zq 4 rfl rfl Z15) ?_
 rintro _ ⟨g5, rfl⟩
 refine Zj Z03 4 rfl <| As rfl <| Nl <| SR <| Ld Z03 4 rfl <| Zj Z03 3 rfl <| Nl <| AW.ret ?_
 obtain rfl := si h
 exact Zi Tryz.results126 rfl (Z01 rfl (i := 3) rfl Z03)
def Zhg (f1 : Flow) : Option Z5 :=
 (Zln f1.Match).bind fun x4 => (Zef x4).bind fun x5 => some x5
theorem Y5n (f1 : Flow) (r : Z5) (h : Zhg f1 = some r) : PCon Tryz.prog 157 [rd Z0f f1] (rd (Z2 24 Z3) r) := by
 refine PCon.of (Con.intro0 Tryz.func157 rfl Tryz.ntmps157 rfl fun w H => ?_)
 unfold Zhg at h
 refine SR <| Ct rfl (Zn 2 rfl rfl (vt rfl)) ?_
 rintro _ ⟨g2, rfl⟩
 refine Ct rfl (Zq 3 rfl rfl Z15) ?_
 rintro _ ⟨g3, rfl⟩
 refine Nl <| AW.seq ?_
 obtain ⟨x4, hx4, h⟩ := Z1 h
 obtain ⟨x5, hx5, h⟩ := Z1 h
 refine Rg <| Zl Zmy Zq6 rfl <| Ld Zrf 2 rfl <| Cl [4] (Yag _ _ hx4) Y96 rfl <| Cl [5] (Y19 _ _ hx5) Zvq rfl <| Zj Z03 3 rfl <| Nl <| AW.ret ?_
 obtain rfl := si h
 exact Zi Tryz.results157 rfl (Z01 rfl (i := 3) rfl Z03)
def Zoj (a1 : Wide) (b2 : Wide) : Option Wide :=
 some (⟨(a1.Hi ^^^ b2.Hi), (a1.Lo ^^^ b2.Lo)⟩ : Wide)
theorem Y4w (a1 : Wide) (b2 : Wide) (r : Wide) (h : Zoj a1 b2 = some r) : PCon Tryz.prog 237 [rd Zh a1, rd Zh b2] (rd Zh r) := by
 refine PCon.of (Con.intro0 Tryz.func237 rfl Tryz.ntmps237 rfl fun w H => ?_)
 unfold Zoj at h
 refine SR <| Ct rfl (Zn 3 rfl rfl (vt rfl)) ?_
 rintro _ ⟨g3, rfl⟩
 refine Ct rfl (Zn 4 rfl rfl (vt rfl)) ?_
 rintro _ ⟨g4, rfl⟩
 refine Ct rfl (Zq 5 rfl rfl Z1l) ?_
 rintro _ ⟨g5, rfl⟩
 refine Nl <| SR <| Zl Z28 Z3o rfl <| Ld Z1d 3 rfl <| Zl Z28 Z3o rfl <| Ld Z1d 4 rfl <| Ac (Znn rfl rfl (vt rfl) (vt rfl)) rfl <| Zl Z1y Z3j rfl <| Ld Z1d 3 rfl <| Zl Z1y Z3j rfl <| Ld Z1d 4 rfl <| Ac (Znn rfl rfl (vt rfl) (vt rfl)) rfl <| Ac (Z00 (ps := [(0, .tmp 9), (1, .tmp 14)]) (x := (⟨(a1.Hi ^^^ b2.Hi), (a1.Lo ^^^ b2.Lo)⟩ : Wide)) rfl rfl rfl (by kernel_rfl) Z1l ⟨_, _, Z28, _, by kernel_rfl, (vt rfl), _, _, Z1y, _, by kernel_rfl, (vt rfl), rfl⟩) rfl <| Zj Zv 5 rfl <| Nl <| AW.ret ?_
 obtain rfl := si h
 exact Zi Tryz.results237 rfl (Z01 rfl (i := 5) rfl Zv)
def Zr2 (a1 : Wide) (b2 : Wide) (mask3 : Wide) : Option Wide :=
 (Zoj a1 b2).bind fun x8 => (Zam x8 mask3).bind fun x9 => some x9
theorem Y3o (a1 : Wide) (b2 : Wide) (mask3 : Wide) (r : Wide) (h : Zr2 a1 b2 mask3 = some r) : PCon Tryz.prog 174 [rd Zh a1, rd Zh b2, rd Zh mask3] (rd Zh r) := by
 refine PCon.of (Con.intro0 Tryz.func174 rfl Tryz.ntmps174 rfl fun w H => ?_)
 unfold Zr2 at h
 refine SR <| Ct rfl (Zn 4 rfl rfl (vt rfl)) ?_
 rintro _ ⟨g4, rfl⟩
 refine Ct rfl (Zn 5 rfl rfl (vt rfl)) ?_
 rintro _ ⟨g5, rfl⟩
 refine Ct rfl (Zn 6 rfl rfl (vt rfl)) ?_
 rintro _ ⟨g6, rfl⟩
 refine Ct rfl (Zq 7 rfl rfl Z1l) ?_
 rintro _ ⟨g7, rfl⟩
 refine Nl <| AW.seq ?_
 obtain ⟨x8, hx8, h⟩ := Z1 h
 obtain ⟨x9, hx9, h⟩ := Z1 h
 refine AW.regionAny [⟨[3], [7], [4], []⟩, ⟨[4], [8], [5], []⟩, ⟨[7, 8], [9], [], []⟩, ⟨[5], [10], [6], []⟩, ⟨[9, 10], [11], [], []⟩, ⟨[6, 11], [], [7], [7]⟩] Z05 (by kernel_rfl) <| Zo Zv 4 rfl <| Zo Zv 5 rfl <| SCl [7, 8] (Y4w _ _ _ hx8) Y3p rfl <| Zo Zv 6 rfl <| SCl [9, 10] (Zh1 _ _ _ hx9) Zhi rfl <| SSt Zv 7 rfl <| AW.ret ?_
 obtain rfl := si h
 exact Zi Tryz.results174 rfl (Z01 rfl (i := 7) rfl Zv)
def Zfi (a1 : Wide) : Option Bool :=
 some (decide ((a1.Hi ||| a1.Lo) = (0 : BitVec 64)))
theorem Zru (a1 : Wide) (r : Bool) (h : Zfi a1 = some r) : PCon Tryz.prog 173 [rd Zh a1] (rd Zc r) := by
 refine PCon.of (Con.intro0 Tryz.func173 rfl Tryz.ntmps173 rfl fun w H => ?_)
 unfold Zfi at h
 refine SR <| Ct rfl (Zn 2 rfl rfl (vt rfl)) ?_
 rintro _ ⟨g2, rfl⟩
 refine Ab rfl <| Nl <| SR <| Zl Z28 Z3o rfl <| Ld Z1d 2 rfl <| Zl Z1y Z3j rfl <| Ld Z1d 2 rfl <| Ac (Zgk rfl rfl (vt rfl) (vt rfl)) rfl <| Ac (Zmm rfl rfl (vt rfl) (vku (0 : BitVec 64) rfl)) rfl <| As rfl <| Nl <| AW.ret ?_
 obtain rfl := si h
 exact Zi Tryz.results173 rfl (Z8 rfl)
end Go.Proofs.YtknpgojdkobgjaaGreat.W
set_option maxRecDepth 4000
namespace Go.Proofs.YtknpgojdkobgjaaGreat.W
open Go Go.Wb
theorem Y7z : Ent Tryz.prog 174 := Ent.mk Tryz.func174 rfl rfl
theorem Zql : Ent Tryz.prog 173 := Ent.mk Tryz.func173 rfl rfl
theorem Zom : Ent Tryz.prog 106 := Ent.mk Tryz.func106 rfl rfl
theorem Zcy : Ent Tryz.prog 175 := Ent.mk Tryz.func175 rfl rfl
theorem Zfq : Ent Tryz.prog 176 := Ent.mk Tryz.func176 rfl rfl
theorem Y1s : Ent Tryz.prog 261 := Ent.mk Tryz.func261 rfl rfl
theorem Yg0 : Ent Tryz.prog 260 := Ent.mk Tryz.func260 rfl rfl
theorem Zz0 : Ent Tryz.prog 259 := Ent.mk Tryz.func259 rfl rfl
theorem Y9b : Ent Tryz.prog 262 := Ent.mk Tryz.func262 rfl rfl
def Zf6 (t1 : Tern) (v2 : Wide) : Option Bool :=
 (Zr2 t1.Value v2 t1.Mask).bind fun x5 => (Zfi x5).bind fun x6 => some x6
theorem Znv (t1 : Tern) (v2 : Wide) (r : Bool) (h : Zf6 t1 v2 = some r) : PCon Tryz.prog 106 [rd Z3 t1, rd Zh v2] (rd Zc r) := by
 refine PCon.of (Con.intro0 Tryz.func106 rfl Tryz.ntmps106 rfl fun w H => ?_)
 unfold Zf6 at h
 refine SR <| Ct rfl (Zn 3 rfl rfl (vt rfl)) ?_
 rintro _ ⟨g3, rfl⟩
 refine Ct rfl (Zn 4 rfl rfl (vt rfl)) ?_
 rintro _ ⟨g4, rfl⟩
 refine Ab rfl <| Nl <| AW.seq ?_
 obtain ⟨x5, hx5, h⟩ := Z1 h
 obtain ⟨x6, hx6, h⟩ := Z1 h
 refine Rg <| Zl Z1c Z2i rfl <| Ld Zv 3 rfl <| Ld Zv 4 rfl <| Zl Z0v Z1x rfl <| Ld Zv 3 rfl <| Cl [6, 7, 9] (Y3o _ _ _ _ hx5) Y7z rfl <| Cl [10] (Zru _ _ hx6) Zql rfl <| As rfl <| Nl <| AW.ret ?_
 obtain rfl := si h
 exact Zi Tryz.results106 rfl (Z8 rfl)
def Z6z (a1 : Wide) (b2 : Wide) : Option Wide :=
 some (⟨(a1.Hi ||| b2.Hi), (a1.Lo ||| b2.Lo)⟩ : Wide)
theorem Zbi (a1 : Wide) (b2 : Wide) (r : Wide) (h : Z6z a1 b2 = some r) : PCon Tryz.prog 175 [rd Zh a1, rd Zh b2] (rd Zh r) := by
 refine PCon.of (Con.intro0 Tryz.func175 rfl Tryz.ntmps175 rfl fun w H => ?_)
 unfold Z6z at h
 refine SR <| Ct rfl (Zn 3 rfl rfl (vt rfl)) ?_
 rintro _ ⟨g3, rfl⟩
 refine Ct rfl (Zn 4 rfl rfl (vt rfl)) ?_
 rintro _ ⟨g4, rfl⟩
 refine Ct rfl (Zq 5 rfl rfl Z1l) ?_
 rintro _ ⟨g5, rfl⟩
 refine Nl <| SR <| Zl Z28 Z3o rfl <| Ld Z1d 3 rfl <| Zl Z28 Z3o rfl <| Ld Z1d 4 rfl <| Ac (Zgk rfl rfl (vt rfl) (vt rfl)) rfl <| Zl Z1y Z3j rfl <| Ld Z1d 3 rfl <| Zl Z1y Z3j rfl <| Ld Z1d 4 rfl <| Ac (Zgk rfl rfl (vt rfl) (vt rfl)) rfl <| Ac (Z00 (ps := [(0, .tmp 9), (1, .tmp 14)]) (x := (⟨(a1.Hi ||| b2.Hi), (a1.Lo ||| b2.Lo)⟩ : Wide)) rfl rfl rfl (by kernel_rfl) Z1l ⟨_, _, Z28, _, by kernel_rfl, (vt rfl), _, _, Z1y, _, by kernel_rfl, (vt rfl), rfl⟩) rfl <| Zj Zv 5 rfl <| Nl <| AW.ret ?_
 obtain rfl := si h
 exact Zi Tryz.results175 rfl (Z01 rfl (i := 5) rfl Zv)
def Zdy (a1 : Tern) (b2 : Tern) : Option (Tern × Bool) :=
 (Zam a1.Mask b2.Mask).bind fun x6 => (Zf6 (⟨a1.Value, x6⟩ : Tern) b2.Value).bind fun x7 => (bif (!x7) then some ((⟨Z0a, Z0a⟩ : Tern), false) else (Z5y a1).bind fun x8 => (Z5y b2).bind fun x9 => (Z6z x8.Value x9.Value).bind fun x10 => (Z6z x8.Mask x9.Mask).bind fun x11 => some ((⟨x10, x11⟩ : Tern), true))
theorem Zze (a1 : Tern) (b2 : Tern) (r : (Tern × Bool)) (h : Zdy a1 b2 = some r) : PCon Tryz.prog 259 [rd Z3 a1, rd Z3 b2] (Z1h (rd Z3 r.1) (rd Zc r.2)) := by
 refine PCon.of (Con.intro0 Tryz.func259 rfl Tryz.ntmps259 rfl fun w H => ?_)
 unfold Zdy at h
 refine SR <| Ct rfl (Zn 3 rfl rfl (vt rfl)) ?_
 rintro _ ⟨g3, rfl⟩
 refine Ct rfl (Zn 4 rfl rfl (vt rfl)) ?_
 rintro _ ⟨g4, rfl⟩
 refine Ct rfl (Zq 5 rfl rfl Z1a) ?_
 rintro _ ⟨g5, rfl⟩
 refine Ab rfl <| Nl <| AW.seq <| AW.seq ?_
 obtain ⟨x6, hx6, h⟩ := Z1 h
 obtain ⟨x7, hx7, h⟩ := Z1 h
 refine AW.regionAny [⟨[2], [6], [], []⟩, ⟨[6], [7], [3], []⟩, ⟨[2], [8], [], []⟩, ⟨[8], [9], [3], []⟩, ⟨[3], [10], [], []⟩, ⟨[10], [11], [4], []⟩, ⟨[9, 11], [12], [], []⟩, ⟨[7, 12], [13], [], []⟩, ⟨[3], [14], [], []⟩, ⟨[14], [15], [4], []⟩, ⟨[13, 15], [16], [], []⟩, ⟨[16], [17], [], []⟩] Z05 (by kernel_rfl) <| SFd Z1c Z2i rfl <| Zo Zv 3 rfl <| SFd Z0v Z1x rfl <| Zo Zv 3 rfl <| SFd Z0v Z1x rfl <| Zo Zv 4 rfl <| SCl [9, 11] (Zh1 _ _ _ hx6) Zhi rfl <| Sc (lo [7, 12] [] rfl fun S hs hr => Z00 (ps := [(0, .tmp 7), (1, .tmp 12)]) (x := (⟨a1.Value, x6⟩ : Tern)) rfl rfl rfl (by kernel_rfl) Z1a ⟨_, _, Z1c, _, by kernel_rfl, (vh hs 7 rfl rfl), _, _, Z0v, _, by kernel_rfl, (vh hs 12 rfl rfl), rfl⟩) rfl <| SFd Z1c Z2i rfl <| Zo Zv 4 rfl <| SCl [13, 15] (Znv _ _ _ hx7) Zom rfl <| Sc (lo [16] [] rfl fun S hs hr => Z19 rfl rfl (vh hs 16 rfl rfl)) rfl <| Cn rfl (fun hc => ?_) (fun hc => ?_)
 ·have h := Zf hc h
  refine SR <| Ac (Z00 (ps := []) (x := (⟨Z0a, Z0a⟩ : Tern)) rfl rfl rfl (by kernel_rfl) Z1a rfl) rfl <| Zj Zz 5 rfl <| Ab rfl <| Nl <| AW.ret ?_
  obtain rfl := si h
  exact Z25 Tryz.results259 rfl (Z01 rfl (i := 5) rfl Zz) (Z8 rfl)
 ·have h := Zg hc h
  refine AW.skip <| AW.seq ?_
  obtain ⟨x8, hx8, h⟩ := Z1 h
  obtain ⟨x9, hx9, h⟩ := Z1 h
  refine AW.regionAny [⟨[2], [19], [3], []⟩, ⟨[19], [20], [], []⟩, ⟨[3], [21], [4], []⟩, ⟨[21], [22], [], []⟩, ⟨[2, 20], [], [3], [3]⟩, ⟨[3, 22], [], [4], [4]⟩] Z05 (by kernel_rfl) <| Zo Zz 3 rfl <| SCl [19] (Z9j _ _ hx8) Z9p rfl <| Zo Zz 4 rfl <| SCl [21] (Z9j _ _ hx9) Z9p rfl <| SSt Zz 3 rfl <| SSt Zz 4 rfl <| AW.seq ?_
  obtain ⟨x10, hx10, h⟩ := Z1 h
  obtain ⟨x11, hx11, h⟩ := Z1 h
  refine AW.regionAny [⟨[2], [23], [], []⟩, ⟨[23], [24], [3], []⟩, ⟨[3], [25], [], []⟩, ⟨[25], [26], [4], []⟩, ⟨[24, 26], [27], [], []⟩, ⟨[2], [28], [], []⟩, ⟨[28], [29], [3], []⟩, ⟨[3], [30], [], []⟩, ⟨[30], [31], [4], []⟩, ⟨[29, 31], [32], [], []⟩, ⟨[27, 32], [33], [], []⟩, ⟨[4, 33], [], [5], [5]⟩, ⟨[], [5], [], []⟩] Z05 (by kernel_rfl) <| SFd Z1c Z2i rfl <| Zo Zv 3 rfl <| SFd Z1c Z2i rfl <| Zo Zv 4 rfl <| SCl [24, 26] (Zbi _ _ _ hx10) Zcy rfl <| SFd Z0v Z1x rfl <| Zo Zv 3 rfl <| SFd Z0v Z1x rfl <| Zo Zv 4 rfl <| SCl [29, 31] (Zbi _ _ _ hx11) Zcy rfl <| Sc (lo [27, 32] [] rfl fun S hs hr => Z00 (ps := [(0, .tmp 27), (1, .tmp 32)]) (x := (⟨x10, x11⟩ : Tern)) rfl rfl rfl (by kernel_rfl) Z1a ⟨_, _, Z1c, _, by kernel_rfl, (vh hs 27 rfl rfl), _, _, Z0v, _, by kernel_rfl, (vh hs 32 rfl rfl), rfl⟩) rfl <| SSt Zz 5 rfl <| Sc (lo [] [] rfl fun S hs hr => Z02 (A := rd Zc true) rfl rfl vb) rfl <| AW.ret ?_
  obtain rfl := si h
  exact Z25 Tryz.results259 rfl (Z01 rfl (i := 5) rfl Zz) (Z8 rfl)
def Z9k (a1 : Wide) (b2 : Wide) : Option Wide :=
 some (⟨(a1.Hi &&& ~~~b2.Hi), (a1.Lo &&& ~~~b2.Lo)⟩ : Wide)
theorem Zds (a1 : Wide) (b2 : Wide) (r : Wide) (h : Z9k a1 b2 = some r) : PCon Tryz.prog 176 [rd Zh a1, rd Zh b2] (rd Zh r) := by
 refine PCon.of (Con.intro0 Tryz.func176 rfl Tryz.ntmps176 rfl fun w H => ?_)
 unfold Z9k at h
 refine SR <| Ct rfl (Zn 3 rfl rfl (vt rfl)) ?_
 rintro _ ⟨g3, rfl⟩
 refine Ct rfl (Zn 4 rfl rfl (vt rfl)) ?_
 rintro _ ⟨g4, rfl⟩
 refine Ct rfl (Zq 5 rfl rfl Z1l) ?_
 rintro _ ⟨g5, rfl⟩
 refine Nl <| SR <| Zl Z28 Z3o rfl <| Ld Z1d 3 rfl <| Zl Z28 Z3o rfl <| Ld Z1d 4 rfl <| Ac (Zko rfl rfl (vt rfl) (vt rfl)) rfl <| Zl Z1y Z3j rfl <| Ld Z1d 3 rfl <| Zl Z1y Z3j rfl <| Ld Z1d 4 rfl <| Ac (Zko rfl rfl (vt rfl) (vt rfl)) rfl <| Ac (Z00 (ps := [(0, .tmp 9), (1, .tmp 14)]) (x := (⟨(a1.Hi &&& ~~~b2.Hi), (a1.Lo &&& ~~~b2.Lo)⟩ : Wide)) rfl rfl rfl (by kernel_rfl) Z1l ⟨_, _, Z28, _, by kernel_rfl, (vt rfl), _, _, Z1y, _, by kernel_rfl, (vt rfl), rfl⟩) rfl <| Zj Zv 5 rfl <| Nl <| AW.ret ?_
 obtain rfl := si h
 exact Zi Tryz.results176 rfl (Z01 rfl (i := 5) rfl Zv)
def Zik (i1 : Int) (cp2 : Z5) (cp3 : Z5) : Option Tern :=
 (chk 24 i1).bind fun j5 => (chk 24 i1).bind fun j6 => (chk 24 i1).bind fun j7 => (Z9k ((Vector.get cp2 j6).Mask) ((Vector.get cp3 j7).Mask)).bind fun x8 => (Z5y (⟨(Vector.get cp2 j5).Value, x8⟩ : Tern)).bind fun x9 => some x9
theorem Y2a (i1 : Int) (cp2 : Z5) (cp3 : Z5) (r : Tern) (h : Zik i1 cp2 cp3 = some r) : PCon Tryz.prog 261 [rd (Z0 .i64) i1, rp (Z2 24 Z3) cp2, rp (Z2 24 Z3) cp3] (rd Z3 r) := by
 refine PCon.of (Con.intro0 Tryz.func261 rfl Tryz.ntmps261 rfl fun w H => ?_)
 unfold Zik at h
 refine SR <| Ct rfl (Zq 5 rfl rfl Z1a) ?_
 rintro _ ⟨g4, rfl⟩
 refine Nl <| AW.seq ?_
 obtain ⟨j5, hj5, h⟩ := Z1 h
 obtain ⟨j6, hj6, h⟩ := Z1 h
 obtain ⟨j7, hj7, h⟩ := Z1 h
 obtain ⟨x8, hx8, h⟩ := Z1 h
 obtain ⟨x9, hx9, h⟩ := Z1 h
 refine AW.regionAny [⟨[0], [5], [], []⟩, ⟨[1, 5], [6], [], []⟩, ⟨[6], [7], [], []⟩, ⟨[7], [8], [], []⟩, ⟨[0], [9], [], []⟩, ⟨[1, 9], [10], [], []⟩, ⟨[10], [11], [], []⟩, ⟨[11], [12], [], []⟩, ⟨[0], [13], [], []⟩, ⟨[2, 13], [14], [], []⟩, ⟨[14], [15], [], []⟩, ⟨[15], [16], [], []⟩, ⟨[12, 16], [17], [], []⟩, ⟨[8, 17], [18], [], []⟩, ⟨[18], [19], [], []⟩, ⟨[4, 19], [], [5], [5]⟩] Z05 (by kernel_rfl) <| Zu rfl <| Sc (lo [1, 5] [] rfl fun S hs hr => Z6i rfl rfl Z2a (vh hs 1 rfl rfl) (vh hs 5 rfl rfl) hj5) rfl <| SFp Z1c Z2i rfl <| SLp Zv rfl <| Zu rfl <| Sc (lo [1, 9] [] rfl fun S hs hr => Z6i rfl rfl Z2a (vh hs 1 rfl rfl) (vh hs 9 rfl rfl) hj6) rfl <| SFp Z0v Z1x rfl <| SLp Zv rfl <| Zu rfl <| Sc (lo [2, 13] [] rfl fun S hs hr => Z6i rfl rfl Z3g (vh hs 2 rfl rfl) (vh hs 13 rfl rfl) hj7) rfl <| SFp Z0v Z1x rfl <| SLp Zv rfl <| SCl [12, 16] (Zds _ _ _ hx8) Zfq rfl <| Sc (lo [8, 17] [] rfl fun S hs hr => Z00 (ps := [(0, .tmp 8), (1, .tmp 17)]) (x := (⟨(Vector.get cp2 j5).Value, x8⟩ : Tern)) rfl rfl rfl (by kernel_rfl) Z1a ⟨_, _, Z1c, _, by kernel_rfl, (vh hs 8 rfl rfl), _, _, Z0v, _, by kernel_rfl, (vh hs 17 rfl rfl), rfl⟩) rfl <| SCl [18] (Z9j _ _ hx9) Z9p rfl <| SSt Zz 5 rfl <| AW.ret ?_
 obtain rfl := si h
 exact Zi Tryz.results261 rfl (Z01 rfl (i := 5) rfl Zz)
def Z6r (f1 : (Int → Option Tern)) : Nat → Nat → Z5 → Option Z5
 | 0, i6, b5 => some b5
 | m7 + 1, i6, b5 => (f1 (i6 : Int)).bind fun x8 => (chk 24 (i6 : Int)).bind fun j9 => (Z6r f1 m7) (i6 + 1) (Vector.set b5 j9.1 x8 j9.2)
def Zjy (f1 : (Int → Option Tern)) : Option Z5 :=
 Z6r f1 (24 : Int).toNat 0 (Vector.replicate 24 zTern)
theorem Yab (f1 : (Int → Option Tern)) (r : Z5) (h : Zjy f1 = some r) : PCon Tryz.prog 260 [fn1 Tryz.prog (Z0 .i64) Z3 f1] (rd (Z2 24 Z3) r) := by
 refine PCon.of (Con.intro0 Tryz.func260 rfl Tryz.ntmps260 rfl fun w H => ?_)
 unfold Zjy at h
 refine SR <| Ct rfl (Zq 3 rfl rfl Z15) ?_
 rintro _ ⟨g2, rfl⟩
 refine Nl <| SR <| Ct rfl (Zq 4 rfl rfl Z15) ?_
 rintro _ ⟨g3, rfl⟩
 refine Nl <| AW.seq <| SR <| Mk rfl <| Nl <| AW.block <| AW.loopG (d := []) (ν := Nat × Nat × Z5) (fun n => Cnt 24 n.2.1 n.1 ∧ Z6r f1 n.1 n.2.1 n.2.2 = some r) (fun n => n.1) (fun n => [(0, fn1 Tryz.prog (Z0 .i64) Z3 f1), (2, Z7 g2 (Lens.id (Z2 24 Z3))), (3, Z7 g3 (Lens.id (Z2 24 Z3))), (5, rd (Z0 .i64) (n.2.1 : Int))]) (fun n => [(3, Z9 g2 87 (Z2 24 Z3) (Vector.replicate 24 zTern)), (4, Z9 g3 87 (Z2 24 Z3) n.2.2)]) ((24 : Int).toNat, 0, (Vector.replicate 24 zTern)) ⟨Cnt.start _, h⟩ (FX rfl) ?_
 rintro ⟨m7, i6, b5⟩ ⟨hsf1, h⟩
 change Cnt 24 i6 m7 at hsf1
 change Z6r f1 m7 i6 b5 = some r at h
 change AW _ _ _ ⟨Zw [(0, fn1 Tryz.prog (Z0 .i64) Z3 f1), (2, Z7 g2 (Lens.id (Z2 24 Z3))), (3, Z7 g3 (Lens.id (Z2 24 Z3))), (5, rd (Z0 .i64) (i6 : Int))], Zx [(3, Z9 g2 87 (Z2 24 Z3) (Vector.replicate 24 zTern)), (4, Z9 g3 87 (Z2 24 Z3) b5)], _⟩
 cases m7 with
 | zero =>
  unfold Z6r at h
  refine SR <| Ac (Zp rfl rfl (vt rfl) (vk rfl)) rfl <| Nl <| AW.seq <| Cn rfl (fun hc => absurd (of_decide_eq_true hc) hsf1.zero) (fun hc => ?_)
  refine AW.exit <| SR <| Ld Z03 4 rfl <| Zj Z03 3 rfl <| Nl <| AW.ret ?_
  obtain rfl := si h
  exact Zi Tryz.results260 rfl (Z01 rfl (i := 3) rfl Z03)
 | succ m7 =>
  unfold Z6r at h
  generalize hgo1 : Z6r f1 m7 = go1 at h
  refine SR <| Ac (Zp rfl rfl (vt rfl) (vk rfl)) rfl <| Nl <| AW.seq <| Cn rfl (fun hc => ?_) (fun hc => absurd hsf1.succ (of_decide_eq_false hc))
  have hlti6 := of_decide_eq_true hc
  refine AW.skip <| AW.seq <| AW.block <| SR <| Md rfl <| As rfl <| Nl ?_
  obtain ⟨x8, hx8, h⟩ := Z1 h
  obtain ⟨j9, hj9, h⟩ := Z1 h
  refine Rg <| Md rfl <| Ac (Zt (A := fn1 Tryz.prog (Z0 .i64) Z3 f1) rfl rfl (vt rfl)) rfl <| Md rfl <| Ac (Z9e hx8 rfl rfl (vt rfl) (vt rfl)) rfl <| Ac (Z1b rfl rfl Z2a (vt rfl) (vt rfl) hj9) rfl <| Zj Zz 4 rfl <| Nl <| Rg <| Ac (Z6k rfl rfl (vt rfl) (vk rfl) rfl hlti6) rfl <| Md rfl <| Nl ?_
  subst hgo1
  exact ⟨(m7, i6 + 1, (Vector.set b5 j9.1 x8 j9.2)), Nat.lt_succ_self _, ⟨hsf1.next, h⟩, FX rfl⟩
def Z6y (cu2 : Z5) (r1 : Z5) : (List Tern) → Nat → Option (Z5 × Bool)
 | [], i6 => (Zjy (fun x => Zik x cu2 r1)).bind fun x8 => some (x8, true)
 | x9 :: l7, i6 => (chk 24 (i6 : Int)).bind fun j11 => (Zdy x9 (Vector.get cu2 j11)).bind fun x12 => (bif (!x12.2) then some ((Vector.replicate 24 zTern), false) else (Z6y cu2 r1 l7) (i6 + 1))
def Zj4 (r1 : Z5) (cu2 : Z5) : Option (Z5 × Bool) :=
 Z6y cu2 r1 (Vector.toList r1) 0
theorem Y6m (r1 : Z5) (cu2 : Z5) (r : (Z5 × Bool)) (h : Zj4 r1 cu2 = some r) : PCon Tryz.prog 202 [rd (Z2 24 Z3) r1, rd (Z2 24 Z3) cu2] (Z1h (rd (Z2 24 Z3) r.1) (rd Zc r.2)) := by
 refine PCon.of (Con.intro0 Tryz.func202 rfl Tryz.ntmps202 rfl fun w H => ?_)
 unfold Zj4 at h
 refine SR <| Ct rfl (Zn 3 rfl rfl (vt rfl)) ?_
 rintro _ ⟨g3, rfl⟩
 refine Ct rfl (Zn 4 rfl rfl (vt rfl)) ?_
 rintro _ ⟨g4, rfl⟩
 refine Ct rfl (Zq 5 rfl rfl Z15) ?_
 rintro _ ⟨g5, rfl⟩
 refine Ab rfl <| Nl <| AW.seq <| SR <| Ld Z04 3 rfl <| Mk rfl <| Nl <| AW.block <| AW.loopG (d := []) (ν := (List Tern) × Nat) (fun n => Sfx (Vector.toList r1) n.2 n.1 ∧ Z6y cu2 r1 n.1 n.2 = some r) (fun n => n.1.length) (fun n => [(2, Z7 g3 (Lens.id (Z2 24 Z3))), (3, Z7 g4 (Lens.id (Z2 24 Z3))), (4, Z7 g5 (Lens.id (Z2 24 Z3))), (10, rd (Z2 24 Z3) r1), (11, rd (Z0 .i64) (n.2 : Int))]) (fun n => [(3, Z9 g3 101 (Z2 24 Z3) r1), (4, Z9 g4 87 (Z2 24 Z3) cu2), (5, Z9 g5 87 (Z2 24 Z3) (Vector.replicate 24 zTern))]) ((Vector.toList r1), 0) ⟨Sfx.start _, h⟩ (FX rfl) ?_
 rintro ⟨l7, i6⟩ ⟨hsf1, h⟩
 change Sfx (Vector.toList r1) i6 l7 at hsf1
 change Z6y cu2 r1 l7 i6 = some r at h
 change AW _ _ _ ⟨Zw [(2, Z7 g3 (Lens.id (Z2 24 Z3))), (3, Z7 g4 (Lens.id (Z2 24 Z3))), (4, Z7 g5 (Lens.id (Z2 24 Z3))), (10, rd (Z2 24 Z3) r1), (11, rd (Z0 .i64) (i6 : Int))], Zx [(3, Z9 g3 101 (Z2 24 Z3) r1), (4, Z9 g4 87 (Z2 24 Z3) cu2), (5, Z9 g5 87 (Z2 24 Z3) (Vector.replicate 24 zTern))], _⟩
 cases l7 with
 | nil =>
  unfold Z6y at h
  refine SR <| Ac (Zp rfl rfl (vt rfl) (vk rfl)) rfl <| Nl <| AW.seq <| Cn rfl (fun hc => absurd (of_decide_eq_true hc) (hsf1.niln (by simp))) (fun hc => ?_)
  refine AW.exit <| AW.seq <| AW.freezeB 3 4 rfl rfl rfl <| AW.freezeB 2 3 rfl rfl rfl ?_
  obtain ⟨x8, hx8, h⟩ := Z1 h
  refine Rg <| Ac (Z79 (cs := [.tmp 3, .tmp 2]) (CAs := [rp (Z2 24 Z3) cu2, rp (Z2 24 Z3) r1]) (fun x => Zik x cu2 r1) rfl rfl Y1s ⟨vt rfl, vt rfl, trivial⟩ (fun x y h => Y2a _ _ _ y h)) rfl <| Cl [27] (Yab _ _ hx8) Yg0 rfl <| Zj Z03 5 rfl <| Ab rfl <| Nl <| AW.ret ?_
  obtain rfl := si h
  exact Z25 Tryz.results202 rfl (Z01 rfl (i := 5) rfl Z03) (Z8 rfl)
 | cons x9 l7 =>
  unfold Z6y at h
  generalize hgo1 : Z6y cu2 r1 l7 = go1 at h
  refine SR <| Ac (Zp rfl rfl (vt rfl) (vk rfl)) rfl <| Nl <| AW.seq <| Cn rfl (fun hc => ?_) (fun hc => absurd (hsf1.consn (by simp)) (of_decide_eq_false hc))
  have hlti6 := of_decide_eq_true hc
  refine AW.skip <| AW.seq <| AW.block <| SR <| Md rfl <| Ac (Zb3 rfl rfl Z3g Zz (vt rfl) (vt rfl) hsf1.lget) rfl <| Ct rfl (Zq 8 rfl rfl Z1a) ?_
  rintro _ ⟨g10, rfl⟩
  refine As rfl <| Zj Zz 8 rfl <| Nl <| AW.seq ?_
  obtain ⟨j11, hj11, h⟩ := Z1 h
  obtain ⟨x12, hx12, h⟩ := Z1 h
  refine AW.regionAny [⟨[7], [16], [8], []⟩, ⟨[6], [17], [], []⟩, ⟨[3, 17], [18], [], []⟩, ⟨[18], [19], [4], []⟩, ⟨[16, 19], [20], [], []⟩, ⟨[20], [15], [], []⟩, ⟨[15], [21], [], []⟩, ⟨[15], [22], [], []⟩, ⟨[], [8], [], []⟩, ⟨[8, 21], [8], [], []⟩, ⟨[22], [9], [], []⟩] Z05 (by kernel_rfl) <| Zo Zz 8 rfl <| Zu rfl <| Sc (lo [3, 17] [] rfl fun S hs hr => Z1b rfl rfl Z2a (vh hs 3 rfl rfl) (vh hs 17 rfl rfl) hj11) rfl <| Zo Zz 4 rfl <| SCl [16, 19] (Zze _ _ _ hx12) Zz0 rfl <| Sc (lo [20] [] rfl fun S hs hr => Zt (A := Z1h (rd Z3 x12.1) (rd Zc x12.2)) rfl rfl (vh hs 20 rfl rfl)) rfl <| Sc (lo [15] [] rfl fun S hs hr => Z1s rfl rfl (vh hs 15 rfl rfl)) rfl <| Sc (lo [15] [] rfl fun S hs hr => Z1t rfl rfl (vh hs 15 rfl rfl)) rfl <| Sc (Z16 (us := [(8, Z2e 85 Z3 zTern)]) (ur := []) [] [] rfl fun S hs hr => Z5w rfl rfl rfl Z1a) rfl <| Sc (Z16 (us := [(8, Z2e 85 Z3 x12.1)]) (ur := []) [8, 21] [] rfl fun S hs hr => Z5r rfl rfl Zz ((hs 8 rfl).trans rfl) (vh hs 21 rfl rfl)) rfl <| SAs rfl <| AW.unpackP 8 9 rfl rfl fun g13 => SR <| Md rfl <| Ac (Z19 rfl rfl (vt rfl)) rfl <| Nl <| Cn rfl (fun hc => ?_) (fun hc => ?_)
  ·have h := Zf hc h
   refine SR <| Ac (Z00 (ps := []) (x := (Vector.replicate 24 zTern)) rfl rfl rfl (by kernel_rfl) Z15 rfl) rfl <| Zj Z03 5 rfl <| Ab rfl <| Nl <| AW.ret ?_
   obtain rfl := si h
   exact Z25 Tryz.results202 rfl (Z01 rfl (i := 5) rfl Z03) (Z8 rfl)
  ·have h := Zg hc h
   refine AW.skip <| Rg <| Ac (Z6k rfl rfl (vt rfl) (vk rfl) rfl hlti6) rfl <| Md rfl <| Nl ?_
   subst hgo1
   exact ⟨(l7, i6 + 1), Nat.lt_succ_self _, ⟨hsf1.next, h⟩, FX rfl⟩
def Zhh (i1 : Int) (cp2 : Z5) (cp3 : Z5) : Option (Tern × Bool) :=
 (chk 24 i1).bind fun j5 => (chk 24 i1).bind fun j6 => (Zdy (Vector.get cp2 j5) (Vector.get cp3 j6)).bind fun x7 => some (x7.1, x7.2)
theorem Y4d (i1 : Int) (cp2 : Z5) (cp3 : Z5) (r : (Tern × Bool)) (h : Zhh i1 cp2 cp3 = some r) : PCon Tryz.prog 262 [rd (Z0 .i64) i1, rp (Z2 24 Z3) cp2, rp (Z2 24 Z3) cp3] (Z1h (rd Z3 r.1) (rd Zc r.2)) := by
 refine PCon.of (Con.intro0 Tryz.func262 rfl Tryz.ntmps262 rfl fun w H => ?_)
 unfold Zhh at h
 refine SR <| Ct rfl (Zq 5 rfl rfl Z1a) ?_
 rintro _ ⟨g4, rfl⟩
 refine Ab rfl <| Nl <| AW.seq ?_
 obtain ⟨j5, hj5, h⟩ := Z1 h
 obtain ⟨j6, hj6, h⟩ := Z1 h
 obtain ⟨x7, hx7, h⟩ := Z1 h
 refine AW.regionAny [⟨[0], [6], [], []⟩, ⟨[1, 6], [7], [], []⟩, ⟨[7], [8], [], []⟩, ⟨[0], [9], [], []⟩, ⟨[2, 9], [10], [], []⟩, ⟨[10], [11], [], []⟩, ⟨[8, 11], [12], [], []⟩, ⟨[12], [13], [], []⟩, ⟨[12], [14], [], []⟩, ⟨[4, 13], [], [5], [5]⟩, ⟨[14], [5], [], []⟩] Z05 (by kernel_rfl) <| Zu rfl <| Sc (lo [1, 6] [] rfl fun S hs hr => Z6i rfl rfl Z2a (vh hs 1 rfl rfl) (vh hs 6 rfl rfl) hj5) rfl <| SLp Zz rfl <| Zu rfl <| Sc (lo [2, 9] [] rfl fun S hs hr => Z6i rfl rfl Z2a (vh hs 2 rfl rfl) (vh hs 9 rfl rfl) hj6) rfl <| SLp Zz rfl <| SCl [8, 11] (Zze _ _ _ hx7) Zz0 rfl <| Sc (lo [12] [] rfl fun S hs hr => Z1s rfl rfl (vh hs 12 rfl rfl)) rfl <| Sc (lo [12] [] rfl fun S hs hr => Z1t rfl rfl (vh hs 12 rfl rfl)) rfl <| SSt Zz 5 rfl <| SAs rfl <| AW.ret ?_
 obtain rfl := si h
 exact Z25 Tryz.results262 rfl (Z01 rfl (i := 5) rfl Zz) (Z8 rfl)
def Zaj (a1 : Z5) (b2 : Z5) : Option (Z5 × Bool) :=
 (Zd1 (fun x => Zhh x a1 b2)).bind fun x6 => some (x6.1, x6.2)
theorem Zqw (a1 : Z5) (b2 : Z5) (r : (Z5 × Bool)) (h : Zaj a1 b2 = some r) : PCon Tryz.prog 203 [rd (Z2 24 Z3) a1, rd (Z2 24 Z3) b2] (Z1h (rd (Z2 24 Z3) r.1) (rd Zc r.2)) := by
 refine PCon.of (Con.intro0 Tryz.func203 rfl Tryz.ntmps203 rfl fun w H => ?_)
 unfold Zaj at h
 refine SR <| Ct rfl (Zn 3 rfl rfl (vt rfl)) ?_
 rintro _ ⟨g3, rfl⟩
 refine Ct rfl (Zn 4 rfl rfl (vt rfl)) ?_
 rintro _ ⟨g4, rfl⟩
 refine Ct rfl (Zq 5 rfl rfl Z15) ?_
 rintro _ ⟨g5, rfl⟩
 refine Ab rfl <| Nl <| AW.seq <| AW.freezeB 2 3 rfl rfl rfl <| AW.freezeB 3 4 rfl rfl rfl ?_
 obtain ⟨x6, hx6, h⟩ := Z1 h
 refine Rg <| Ac (Y0c (fs := []) (FAs := []) (cs := [.tmp 2, .tmp 3]) (CAs := [rp (Z2 24 Z3) a1, rp (Z2 24 Z3) b2]) (kx := (Z0 .i64)) (B := (fun (y : (Tern × Bool)) => Z1h (rd Z3 y.1) (rd Zc y.2))) (fun x => Zhh x a1 b2) rfl rfl Y9b trivial ⟨vt rfl, vt rfl, trivial⟩ (fun x y h => Y4d _ _ _ y h)) rfl <| Cl [6] (Zv9 _ _ hx6) Zzf rfl <| Ac (Z1s rfl rfl (vt rfl)) rfl <| Ac (Z1t rfl rfl (vt rfl)) rfl <| Zj Z03 5 rfl <| As rfl <| Nl <| AW.ret ?_
 obtain rfl := si h
 exact Z25 Tryz.results203 rfl (Z01 rfl (i := 5) rfl Z03) (Z8 rfl)
end Go.Proofs.YtknpgojdkobgjaaGreat.W
set_option maxRecDepth 4000
namespace Go.Proofs.YtknpgojdkobgjaaGreat.W
open Go Go.Wb
theorem Ya3 : Ent Tryz.prog 157 := Ent.mk Tryz.func157 rfl rfl
theorem Y4u : Ent Tryz.prog 202 := Ent.mk Tryz.func202 rfl rfl
theorem Zq7 : Ent Tryz.prog 203 := Ent.mk Tryz.func203 rfl rfl
theorem Y9l : Ent Tryz.prog 264 := Ent.mk Tryz.func264 rfl rfl
theorem Zt6 : Ent Tryz.prog 263 := Ent.mk Tryz.func263 rfl rfl
theorem Zme : Ent Tryz.prog 216 := Ent.mk Tryz.func216 rfl rfl
theorem Y6y : Ent Tryz.prog 306 := Ent.mk Tryz.func306 rfl rfl
theorem Zw9 : Ent Tryz.prog 305 := Ent.mk Tryz.func305 rfl rfl
def Zjh (w1 : walk_way) (f2 : Flow) : Option (walk_way × Bool) :=
 (Zhg f2).bind fun x6 => (Zj4 w1.got x6).bind fun x7 => (bif (!x7.2) then some ((⟨(Vector.replicate 24 zTern), (Vector.replicate 24 zTern), [], []⟩ : walk_way), false) else (Zaj x7.1 w1.cube).bind fun x9 => some ({ w1 with cube := x9.1 }, x9.2))
theorem Y2e (w1 : walk_way) (f2 : Flow) (r : (walk_way × Bool)) (h : Zjh w1 f2 = some r) : PCon Tryz.prog 136 [rd Z0k w1, rd Z0f f2] (Z1h (rd Z0k r.1) (rd Zc r.2)) := by
 refine PCon.of (Con.intro0 Tryz.func136 rfl Tryz.ntmps136 rfl fun w H => ?_)
 unfold Zjh at h
 refine SR <| Ct rfl (Zn 3 rfl rfl (vt rfl)) ?_
 rintro _ ⟨g3, rfl⟩
 refine Ct rfl (Zn 4 rfl rfl (vt rfl)) ?_
 rintro _ ⟨g4, rfl⟩
 refine Ct rfl (Zq 5 rfl rfl Zg7) ?_
 rintro _ ⟨g5, rfl⟩
 refine Ab rfl <| Nl <| AW.seq ?_
 obtain ⟨x6, hx6, h⟩ := Z1 h
 obtain ⟨x7, hx7, h⟩ := Z1 h
 refine AW.regionAny [⟨[2], [9], [], []⟩, ⟨[9], [10], [3], []⟩, ⟨[3], [11], [4], []⟩, ⟨[11], [12], [], []⟩, ⟨[10, 12], [13], [], []⟩, ⟨[13], [8], [], []⟩, ⟨[8], [14], [], []⟩, ⟨[8], [15], [], []⟩, ⟨[], [6], [], []⟩, ⟨[6, 14], [6], [], []⟩, ⟨[15], [7], [], []⟩] Z05 (by kernel_rfl) <| SFd Zbl Zjz rfl <| Zo Z04 3 rfl <| Zo Z7s 4 rfl <| SCl [11] (Y5n _ _ hx6) Ya3 rfl <| SCl [10, 12] (Y6m _ _ _ hx7) Y4u rfl <| Sc (lo [13] [] rfl fun S hs hr => Zt (A := Z1h (rd (Z2 24 Z3) x7.1) (rd Zc x7.2)) rfl rfl (vh hs 13 rfl rfl)) rfl <| Sc (lo [8] [] rfl fun S hs hr => Z1s rfl rfl (vh hs 8 rfl rfl)) rfl <| Sc (lo [8] [] rfl fun S hs hr => Z1t rfl rfl (vh hs 8 rfl rfl)) rfl <| Sc (Z16 (us := [(6, Z2e 87 (Z2 24 Z3) (Vector.replicate 24 zTern))]) (ur := []) [] [] rfl fun S hs hr => Z5w rfl rfl rfl Z15) rfl <| Sc (Z16 (us := [(6, Z2e 87 (Z2 24 Z3) x7.1)]) (ur := []) [6, 14] [] rfl fun S hs hr => Z5r rfl rfl Z03 ((hs 6 rfl).trans rfl) (vh hs 14 rfl rfl)) rfl <| SAs rfl <| AW.unpackP 6 7 rfl rfl fun g8 => AW.seq <| SR <| Md rfl <| Ac (Z19 rfl rfl (vt rfl)) rfl <| Nl <| Cn rfl (fun hc => ?_) (fun hc => ?_)
 ·have h := Zf hc h
  refine SR <| Ac (Z00 (ps := []) (x := (⟨(Vector.replicate 24 zTern), (Vector.replicate 24 zTern), [], []⟩ : walk_way)) rfl rfl rfl (by kernel_rfl) Zg7 rfl) rfl <| Zj Z33 5 rfl <| Ab rfl <| Nl <| AW.ret ?_
  obtain rfl := si h
  exact Z25 Tryz.results136 rfl (Z01 rfl (i := 5) rfl Z33) (Z8 rfl)
 ·have h := Zg hc h
  refine AW.skip <| AW.seq ?_
  obtain ⟨x9, hx9, h⟩ := Z1 h
  refine Rg <| Ld Z03 7 rfl <| Zl Zh9 Zqu rfl <| Ld Z03 3 rfl <| Cl [20, 22] (Zqw _ _ _ hx9) Zq7 rfl <| Mt2 rfl <| Ac (Z1s rfl rfl (vt rfl)) rfl <| Ac (Z1t rfl rfl (vt rfl)) rfl <| Zl Zh9 Zqu rfl <| Zj Z03 3 rfl <| As rfl <| Nl <| SR <| Ld Z33 3 rfl <| Md rfl <| Zj Z33 5 rfl <| As rfl <| Nl <| AW.ret ?_
  obtain rfl := si h
  exact Z25 Tryz.results136 rfl (Z01 rfl (i := 5) rfl Z33) (Z8 rfl)
def Zjg (i1 : Inst) (cp2 : Int) : Option Bool :=
 some (decide (i1.Kind = cp2))
theorem Y3v (i1 : Inst) (cp2 : Int) (r : Bool) (h : Zjg i1 cp2 = some r) : PCon Tryz.prog 264 [rd Z10 i1, rp (Z0 .i64) cp2] (rd Zc r) := by
 refine PCon.of (Con.intro0 Tryz.func264 rfl Tryz.ntmps264 rfl fun w H => ?_)
 unfold Zjg at h
 refine SR <| Ct rfl (Zn 3 rfl rfl (vt rfl)) ?_
 rintro _ ⟨g3, rfl⟩
 refine Ab rfl <| Nl <| SR <| Zl Zoc Ztq rfl <| Ld ty3 3 rfl <| Lp1 ty3 rfl <| Ac (Z0i rfl rfl (vt rfl) (vt rfl)) rfl <| As rfl <| Nl <| AW.ret ?_
 obtain rfl := si h
 exact Zi Tryz.results264 rfl (Z8 rfl)
def Z8g (s1 : (List Inst)) (f2 : (Inst → Option Bool)) : Nat → Nat → Option Int
 | 0, i3 => some (-1)
 | m4 + 1, i3 => (lget s1 (i3 : Int)).bind fun e5 => (f2 e5).bind fun x6 => (bif x6 then some (i3 : Int) else (Z8g s1 f2 m4) (i3 + 1))
def Zfw (s1 : (List Inst)) (f2 : (Inst → Option Bool)) : Option Int :=
 Z8g s1 f2 ((s1.length : Int) : Int).toNat 0
theorem Zyj (s1 : (List Inst)) (f2 : (Inst → Option Bool)) (r : Int) (h : Zfw s1 f2 = some r) : PCon Tryz.prog 263 [rd (Z4 Z10) s1, fn1 Tryz.prog Z10 Zc f2] (rd (Z0 .i64) r) := by
 refine PCon.of (Con.intro0 Tryz.func263 rfl Tryz.ntmps263 rfl fun w H => ?_)
 unfold Zfw at h
 refine SR <| Ak rfl <| Nl <| AW.seq <| SR <| Md rfl <| Ac (Z0x rfl rfl Zbq (vt rfl)) rfl <| Mk rfl <| Nl <| AW.block <| AW.loopG (d := []) (ν := Nat × Nat) (fun n => Cnt (s1.length : Int) n.2 n.1 ∧ Z8g s1 f2 n.1 n.2 = some r) (fun n => n.1) (fun n => [(0, rd (Z4 Z10) s1), (1, fn1 Tryz.prog Z10 Zc f2), (7, rd (Z0 .i64) (s1.length : Int)), (8, rd (Z0 .i64) (n.2 : Int))]) (fun n => []) (((s1.length : Int) : Int).toNat, 0) ⟨Cnt.start _, h⟩ (FX rfl) ?_
 rintro ⟨m4, i3⟩ ⟨hsf1, h⟩
 change Cnt (s1.length : Int) i3 m4 at hsf1
 change Z8g s1 f2 m4 i3 = some r at h
 change AW _ _ _ ⟨Zw [(0, rd (Z4 Z10) s1), (1, fn1 Tryz.prog Z10 Zc f2), (7, rd (Z0 .i64) (s1.length : Int)), (8, rd (Z0 .i64) (i3 : Int))], Zx [], _⟩
 cases m4 with
 | zero =>
  unfold Z8g at h
  refine SR <| Ac (Zp rfl rfl (vt rfl) (vt rfl)) rfl <| Nl <| AW.seq <| Cn rfl (fun hc => absurd (of_decide_eq_true hc) hsf1.zero) (fun hc => ?_)
  refine AW.exit <| SR <| Ak rfl <| Nl <| AW.ret ?_
  obtain rfl := si h
  exact Zi Tryz.results263 rfl (Z8 rfl)
 | succ m4 =>
  unfold Z8g at h
  generalize hgo1 : Z8g s1 f2 m4 = go1 at h
  refine SR <| Ac (Zp rfl rfl (vt rfl) (vt rfl)) rfl <| Nl <| AW.seq <| Cn rfl (fun hc => ?_) (fun hc => absurd hsf1.succ (of_decide_eq_false hc))
  have hlti3 := of_decide_eq_true hc
  refine AW.skip <| AW.seq <| AW.block <| SR <| Md rfl <| As rfl <| Nl <| AW.seq ?_
  obtain ⟨e5, he5, h⟩ := Z1 h
  obtain ⟨x6, hx6, h⟩ := Z1 h
  refine Rg <| Ac (Zt (A := fn1 Tryz.prog Z10 Zc f2) rfl rfl (vt rfl)) rfl <| Md rfl <| Md rfl <| Ac (Z0r rfl rfl Zbq (vt rfl) (vt rfl) he5) rfl <| Lp1 Z34 rfl <| Ac (Z9e hx6 rfl rfl (vt rfl) (vt rfl)) rfl <| Nl <| Cn rfl (fun hc => ?_) (fun hc => ?_)
  ·have h := Zf hc h
   refine SR <| Md rfl <| As rfl <| Nl <| AW.ret ?_
   obtain rfl := si h
   exact Zi Tryz.results263 rfl (Z8 rfl)
  ·have h := Zg hc h
   refine AW.skip <| Rg <| Ac (Z22 (t := 7) rfl rfl (vt rfl) (vk rfl) (vt rfl) hlti3) rfl <| Md rfl <| Nl ?_
   subst hgo1
   exact ⟨(m4, i3 + 1), Nat.lt_succ_self _, ⟨hsf1.next, h⟩, FX rfl⟩
def Z6l (s : List Action) : Option (List Action) := Z0u [] s
theorem Zny (s : List Action) (r : List Action) (h : Z6l s = some r) : Con Tryz.prog 216 [rd (Z4 Z6) s] emp (fun v => Ze v) (fun v => Zb v 121 Z6 r) := by
 refine Con.intro0 Tryz.func216 rfl Tryz.ntmps216 rfl fun w H => ?_
 unfold Z6l at h
 refine AW.newnil 1001 121 Z6 <| SR <| Ac (Z02 (A := Ze (.slice none 0 0)) rfl rfl vc) rfl <| Nl <| AW.seq <| SR <| Md rfl <| Ct rfl (Zj1 rfl rfl Z0e (vt rfl)) ?_
 rintro _ ⟨b, hb, rfl⟩
 refine Nl <| Cn rfl (fun hc => ?_) (fun hc => ?_)
 ·obtain rfl := hb hc
  refine SR <| Ac (Z02 (A := Ze (.slice none 0 0)) rfl rfl vc) rfl <| Nl <| AW.ret ?_
  obtain rfl := (Za2 h).2
  exact Z4n (i := 1001) Tryz.results216 rfl rfl rfl
 ·refine AW.skip <| SR <| Ct rfl (Z4q 1002 (ps := []) (l := []) rfl rfl Z0e Z51 rfl rfl rfl rfl) ?_
  rintro _ ⟨v1, rfl⟩
  refine Md rfl <| Ct rfl (Z2m 1002 h rfl rfl Z7c (vt rfl) rfl (vt rfl)) ?_
  rintro _ ⟨v2, rfl⟩
  refine Aw rfl <| Nl <| AW.ret ?_
  exact Z4n (i := 1002) Tryz.results216 rfl rfl rfl
theorem Zy2 (s : List Action) (r : List Action) (h : Z6l s = some r) : PCon Tryz.prog 216 [rd (Z4 Z6) s] (rd (Z4 Z6) r) := PCon.of_row (Zny s r h)
def Z8q (l1 : (List Inst)) (kind2 : Int) : Option (Inst × Bool) :=
 (Zfw l1 (fun x => Zjg x kind2)).bind fun x5 => (bif (decide (x5 < 0)) then some ((⟨0, 0, Z0a, Z0a, []⟩ : Inst), false) else (lget l1 x5).bind fun e6 => (Z6l e6.Acts).bind fun x8 => some ({ e6 with Acts := x8 }, true))
theorem Zi1 (l1 : (List Inst)) (kind2 : Int) (r : (Inst × Bool)) (h : Z8q l1 kind2 = some r) : PCon Tryz.prog 204 [rd (Z4 Z10) l1, rd (Z0 .i64) kind2] (Z1h (rd Z10 r.1) (rd Zc r.2)) := by
 refine PCon.of (Con.intro0 Tryz.func204 rfl Tryz.ntmps204 rfl fun w H => ?_)
 unfold Z8q at h
 refine SR <| Ct rfl (Zn 4 rfl rfl (vt rfl)) ?_
 rintro _ ⟨g3, rfl⟩
 refine Ct rfl (Zq 5 rfl rfl Z4r) ?_
 rintro _ ⟨g4, rfl⟩
 refine Ab rfl <| Nl <| AW.seq <| AW.freezeB 3 4 rfl rfl rfl ?_
 obtain ⟨x5, hx5, h⟩ := Z1 h
 refine Rg <| Md rfl <| Ac (Z79 (cs := [.tmp 3]) (CAs := [rp (Z0 .i64) kind2]) (fun x => Zjg x kind2) rfl rfl Y9l ⟨vt rfl, trivial⟩ (fun x y h => Y3v _ _ y h)) rfl <| Cl [8, 9] (Zyj _ _ _ hx5) Zt6 rfl <| As rfl <| Nl <| AW.seq <| SR <| Md rfl <| Ac (Zp rfl rfl (vt rfl) (vk rfl)) rfl <| Nl <| Cn rfl (fun hc => ?_) (fun hc => ?_)
 ·have h := Zf hc h
  refine SR <| Ac (Z00 (ps := []) (x := (⟨0, 0, Z0a, Z0a, []⟩ : Inst)) rfl rfl rfl (by kernel_rfl) Z4r rfl) rfl <| Zj Z34 5 rfl <| Ab rfl <| Nl <| AW.ret ?_
  obtain rfl := si h
  exact Z25 Tryz.results204 rfl (Z01 rfl (i := 5) rfl Z34) (Z8 rfl)
 ·have h := Zg hc h
  refine AW.skip <| AW.seq ?_
  obtain ⟨e6, he6, h⟩ := Z1 h
  refine Rg <| Md rfl <| Md rfl <| Ac (Z0r rfl rfl Zbq (vt rfl) (vt rfl) he6) rfl <| Lp1 Z34 rfl <| Ct rfl (Zq 8 rfl rfl Z4r) ?_
  rintro _ ⟨g7, rfl⟩
  refine Zj Z34 8 rfl <| Nl <| AW.seq ?_
  obtain ⟨x8, hx8, h⟩ := Z1 h
  refine Rg <| Zl Zak Zcs rfl <| Ld Z4j 8 rfl <| Cl [19] (Zy2 _ _ hx8) Zme rfl <| Zl Zak Zcs rfl <| Zj Z4j 8 rfl <| Nl <| SR <| Ld Z34 8 rfl <| Zj Z34 5 rfl <| Ab rfl <| Nl <| AW.ret ?_
  obtain rfl := si h
  exact Z25 Tryz.results204 rfl (Z01 rfl (i := 5) rfl Z34) (Z8 rfl)
def Zdx (i1 : Int) (cp2 : Z5) : Option Tern :=
 (chk 24 i1).bind fun j4 => (Z5y (Vector.get cp2 j4)).bind fun x5 => some x5
theorem Y3h (i1 : Int) (cp2 : Z5) (r : Tern) (h : Zdx i1 cp2 = some r) : PCon Tryz.prog 306 [rd (Z0 .i64) i1, rp (Z2 24 Z3) cp2] (rd Z3 r) := by
 refine PCon.of (Con.intro0 Tryz.func306 rfl Tryz.ntmps306 rfl fun w H => ?_)
 unfold Zdx at h
 refine SR <| Ct rfl (Zq 4 rfl rfl Z1a) ?_
 rintro _ ⟨g3, rfl⟩
 refine Nl <| AW.seq ?_
 obtain ⟨j4, hj4, h⟩ := Z1 h
 obtain ⟨x5, hx5, h⟩ := Z1 h
 refine Rg <| Md rfl <| Ac (Z6i rfl rfl Z3g (vt rfl) (vt rfl) hj4) rfl <| Lp1 Zz rfl <| Cl [6] (Z9j _ _ hx5) Z9p rfl <| Zj Zz 4 rfl <| Nl <| AW.ret ?_
 obtain rfl := si h
 exact Zi Tryz.results306 rfl (Z01 rfl (i := 4) rfl Zz)
def Z67 (f1 : (Int → Option Tern)) : Nat → Nat → Z5 → Option Z5
 | 0, i6, b5 => some b5
 | m7 + 1, i6, b5 => (f1 (i6 : Int)).bind fun x8 => (chk 24 (i6 : Int)).bind fun j9 => (Z67 f1 m7) (i6 + 1) (Vector.set b5 j9.1 x8 j9.2)
def Zfd (f1 : (Int → Option Tern)) : Option Z5 :=
 Z67 f1 (24 : Int).toNat 0 (Vector.replicate 24 zTern)
theorem Zvh (f1 : (Int → Option Tern)) (r : Z5) (h : Zfd f1 = some r) : PCon Tryz.prog 305 [fn1 Tryz.prog (Z0 .i64) Z3 f1] (rd (Z2 24 Z3) r) := by
 refine PCon.of (Con.intro0 Tryz.func305 rfl Tryz.ntmps305 rfl fun w H => ?_)
 unfold Zfd at h
 refine SR <| Ct rfl (Zq 3 rfl rfl Z36) ?_
 rintro _ ⟨g2, rfl⟩
 refine Nl <| SR <| Ct rfl (Zq 4 rfl rfl Z36) ?_
 rintro _ ⟨g3, rfl⟩
 refine Nl <| AW.seq <| SR <| Mk rfl <| Nl <| AW.block <| AW.loopG (d := []) (ν := Nat × Nat × Z5) (fun n => Cnt 24 n.2.1 n.1 ∧ Z67 f1 n.1 n.2.1 n.2.2 = some r) (fun n => n.1) (fun n => [(0, fn1 Tryz.prog (Z0 .i64) Z3 f1), (2, Z7 g2 (Lens.id (Z2 24 Z3))), (3, Z7 g3 (Lens.id (Z2 24 Z3))), (5, rd (Z0 .i64) (n.2.1 : Int))]) (fun n => [(3, Z9 g2 101 (Z2 24 Z3) (Vector.replicate 24 zTern)), (4, Z9 g3 101 (Z2 24 Z3) n.2.2)]) ((24 : Int).toNat, 0, (Vector.replicate 24 zTern)) ⟨Cnt.start _, h⟩ (FX rfl) ?_
 rintro ⟨m7, i6, b5⟩ ⟨hsf1, h⟩
 change Cnt 24 i6 m7 at hsf1
 change Z67 f1 m7 i6 b5 = some r at h
 change AW _ _ _ ⟨Zw [(0, fn1 Tryz.prog (Z0 .i64) Z3 f1), (2, Z7 g2 (Lens.id (Z2 24 Z3))), (3, Z7 g3 (Lens.id (Z2 24 Z3))), (5, rd (Z0 .i64) (i6 : Int))], Zx [(3, Z9 g2 101 (Z2 24 Z3) (Vector.replicate 24 zTern)), (4, Z9 g3 101 (Z2 24 Z3) b5)], _⟩
 cases m7 with
 | zero =>
  unfold Z67 at h
  refine SR <| Ac (Zp rfl rfl (vt rfl) (vk rfl)) rfl <| Nl <| AW.seq <| Cn rfl (fun hc => absurd (of_decide_eq_true hc) hsf1.zero) (fun hc => ?_)
  refine AW.exit <| SR <| Ld Z04 4 rfl <| Zj Z04 3 rfl <| Nl <| AW.ret ?_
  obtain rfl := si h
  exact Zi Tryz.results305 rfl (Z01 rfl (i := 3) rfl Z04)
 | succ m7 =>
  unfold Z67 at h
  generalize hgo1 : Z67 f1 m7 = go1 at h
  refine SR <| Ac (Zp rfl rfl (vt rfl) (vk rfl)) rfl <| Nl <| AW.seq <| Cn rfl (fun hc => ?_) (fun hc => absurd hsf1.succ (of_decide_eq_false hc))
  have hlti6 := of_decide_eq_true hc
  refine AW.skip <| AW.seq <| AW.block <| SR <| Md rfl <| As rfl <| Nl ?_
  obtain ⟨x8, hx8, h⟩ := Z1 h
  obtain ⟨j9, hj9, h⟩ := Z1 h
  refine Rg <| Md rfl <| Ac (Zt (A := fn1 Tryz.prog (Z0 .i64) Z3 f1) rfl rfl (vt rfl)) rfl <| Md rfl <| Ac (Z9e hx8 rfl rfl (vt rfl) (vt rfl)) rfl <| Ac (Z1b rfl rfl Z3g (vt rfl) (vt rfl) hj9) rfl <| Zj Zz 4 rfl <| Nl <| Rg <| Ac (Z6k rfl rfl (vt rfl) (vk rfl) rfl hlti6) rfl <| Md rfl <| Nl ?_
  subst hgo1
  exact ⟨(m7, i6 + 1, (Vector.set b5 j9.1 x8 j9.2)), Nat.lt_succ_self _, ⟨hsf1.next, h⟩, FX rfl⟩
def Zea (r1 : Z5) : Option Z5 :=
 (Zfd (fun x => Zdx x r1)).bind fun x4 => some x4
theorem Y1b (r1 : Z5) (r : Z5) (h : Zea r1 = some r) : PCon Tryz.prog 268 [rd (Z2 24 Z3) r1] (rd (Z2 24 Z3) r) := by
 refine PCon.of (Con.intro0 Tryz.func268 rfl Tryz.ntmps268 rfl fun w H => ?_)
 unfold Zea at h
 refine SR <| Ct rfl (Zn 2 rfl rfl (vt rfl)) ?_
 rintro _ ⟨g2, rfl⟩
 refine Ct rfl (Zq 3 rfl rfl Z36) ?_
 rintro _ ⟨g3, rfl⟩
 refine Nl <| AW.seq <| AW.freezeB 1 2 rfl rfl rfl ?_
 obtain ⟨x4, hx4, h⟩ := Z1 h
 refine Rg <| Ac (Z79 (cs := [.tmp 1]) (CAs := [rp (Z2 24 Z3) r1]) (fun x => Zdx x r1) rfl rfl Y6y ⟨vt rfl, trivial⟩ (fun x y h => Y3h _ _ y h)) rfl <| Cl [3] (Zvh _ _ hx4) Zw9 rfl <| Zj Z04 3 rfl <| Nl <| AW.ret ?_
 obtain rfl := si h
 exact Zi Tryz.results268 rfl (Z01 rfl (i := 3) rfl Z04)
def Zjv (a1 : Tern) (b2 : Tern) : Option Tern :=
 (Z5y a1).bind fun x6 => (Z5y b2).bind fun x7 => (Z9k x6.Value x7.Mask).bind fun x8 => (Z6z x8 x7.Value).bind fun x9 => (Z6z x6.Mask x7.Mask).bind fun x10 => some (⟨x9, x10⟩ : Tern)
theorem Zzh (a1 : Tern) (b2 : Tern) (r : Tern) (h : Zjv a1 b2 = some r) : PCon Tryz.prog 270 [rd Z3 a1, rd Z3 b2] (rd Z3 r) := by
 refine PCon.of (Con.intro0 Tryz.func270 rfl Tryz.ntmps270 rfl fun w H => ?_)
 unfold Zjv at h
 refine SR <| Ct rfl (Zn 3 rfl rfl (vt rfl)) ?_
 rintro _ ⟨g3, rfl⟩
 refine Ct rfl (Zn 4 rfl rfl (vt rfl)) ?_
 rintro _ ⟨g4, rfl⟩
 refine Ct rfl (Zq 5 rfl rfl Z1a) ?_
 rintro _ ⟨g5, rfl⟩
 refine Nl <| AW.seq ?_
 obtain ⟨x6, hx6, h⟩ := Z1 h
 obtain ⟨x7, hx7, h⟩ := Z1 h
 refine AW.regionAny [⟨[2], [5], [3], []⟩, ⟨[5], [6], [], []⟩, ⟨[3], [7], [4], []⟩, ⟨[7], [8], [], []⟩, ⟨[2, 6], [], [3], [3]⟩, ⟨[3, 8], [], [4], [4]⟩] Z05 (by kernel_rfl) <| Zo Zz 3 rfl <| SCl [5] (Z9j _ _ hx6) Z9p rfl <| Zo Zz 4 rfl <| SCl [7] (Z9j _ _ hx7) Z9p rfl <| SSt Zz 3 rfl <| SSt Zz 4 rfl <| AW.seq ?_
 obtain ⟨x8, hx8, h⟩ := Z1 h
 obtain ⟨x9, hx9, h⟩ := Z1 h
 obtain ⟨x10, hx10, h⟩ := Z1 h
 refine AW.regionAny [⟨[2], [9], [], []⟩, ⟨[9], [10], [3], []⟩, ⟨[3], [11], [], []⟩, ⟨[11], [12], [4], []⟩, ⟨[10, 12], [13], [], []⟩, ⟨[3], [14], [], []⟩, ⟨[14], [15], [4], []⟩, ⟨[13, 15], [16], [], []⟩, ⟨[2], [17], [], []⟩, ⟨[17], [18], [3], []⟩, ⟨[3], [19], [], []⟩, ⟨[19], [20], [4], []⟩, ⟨[18, 20], [21], [], []⟩, ⟨[16, 21], [22], [], []⟩, ⟨[4, 22], [], [5], [5]⟩] Z05 (by kernel_rfl) <| SFd Z1c Z2i rfl <| Zo Zv 3 rfl <| SFd Z0v Z1x rfl <| Zo Zv 4 rfl <| SCl [10, 12] (Zds _ _ _ hx8) Zfq rfl <| SFd Z1c Z2i rfl <| Zo Zv 4 rfl <| SCl [13, 15] (Zbi _ _ _ hx9) Zcy rfl <| SFd Z0v Z1x rfl <| Zo Zv 3 rfl <| SFd Z0v Z1x rfl <| Zo Zv 4 rfl <| SCl [18, 20] (Zbi _ _ _ hx10) Zcy rfl <| Sc (lo [16, 21] [] rfl fun S hs hr => Z00 (ps := [(0, .tmp 16), (1, .tmp 21)]) (x := (⟨x9, x10⟩ : Tern)) rfl rfl rfl (by kernel_rfl) Z1a ⟨_, _, Z1c, _, by kernel_rfl, (vh hs 16 rfl rfl), _, _, Z0v, _, by kernel_rfl, (vh hs 21 rfl rfl), rfl⟩) rfl <| SSt Zz 5 rfl <| AW.ret ?_
 obtain rfl := si h
 exact Zi Tryz.results270 rfl (Z01 rfl (i := 5) rfl Zz)
end Go.Proofs.YtknpgojdkobgjaaGreat.W
