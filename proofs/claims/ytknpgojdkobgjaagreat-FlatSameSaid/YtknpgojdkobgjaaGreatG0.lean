/- A part of the proof. -/
import Derived.Test.YtknpgojdkobgjaaGreatL1
import Derived.Test.YtknpgojdkobgjaaGreatProg
import Derived.KernelRfl
set_option linter.unusedVariables false
set_option maxRecDepth 4000
set_option linter.unusedSimpArgs false
namespace Go.Proofs.YtknpgojdkobgjaaGreat.W
open Go Go.Wb
structure Wide where
 Hi : (BitVec 64)
 Lo : (BitVec 64)
 deriving DecidableEq, Inhabited
def Zo : Kd Wide := Z0t (Z7 Z0b Z0b) (fun x => (x.Hi, x.Lo))
instance : PureK Zo := inferInstanceAs (PureK (Z0t (Z7 Z0b Z0b) (fun (x : Wide) => (x.Hi, x.Lo))))
def lWide_0 : Lens Zo Z0b := Lens.iso (k := (Z7 Z0b Z0b)) (Lens.fst _ _) Wide.Hi (fun x y => { x with Hi := y }) (fun _ => rfl) (fun _ _ => rfl)
def lWide_1 : Lens Zo Z0b := Lens.iso (k := (Z7 Z0b Z0b)) (Lens.snd _ _) Wide.Lo (fun x y => { x with Lo := y }) (fun _ => rfl) (fun _ _ => rfl)
def Z02 : Wide := ⟨0, 0⟩
def Z60 : List Value := ([.int .u64 0] ++ [.int .u64 0])
theorem Z5d : KZ Zo Z02 Z60 := Z2l (Z0o Zcj Zcj)
structure Tern where
 Value : Wide
 Mask : Wide
 deriving DecidableEq, Inhabited
def Z4 : Kd Tern := Z0t (Z7 Zo Zo) (fun x => (x.Value, x.Mask))
instance : PureK Z4 := inferInstanceAs (PureK (Z0t (Z7 Zo Zo) (fun (x : Tern) => (x.Value, x.Mask))))
def lTern_0 : Lens Z4 Zo := Lens.iso (k := (Z7 Zo Zo)) (Lens.fst _ _) Tern.Value (fun x y => { x with Value := y }) (fun _ => rfl) (fun _ _ => rfl)
def lTern_1 : Lens Z4 Zo := Lens.iso (k := (Z7 Zo Zo)) (Lens.snd _ _) Tern.Mask (fun x y => { x with Mask := y }) (fun _ => rfl) (fun _ _ => rfl)
def Z0n : Tern := ⟨Z02, Z02⟩
def Z8h : List Value := (Z60 ++ Z60)
theorem Z5b : KZ Z4 Z0n Z8h := Z2l (Z0o Z5d Z5d)
abbrev Zi := Vector Tern 24
structure Oxm where
 Field : Int
 Masked : Bool
 Value : Wide
 Mask : Wide
 deriving DecidableEq, Inhabited
def Z12 : Kd Oxm := Z0t (Z7 (Z0 .i64) (Z7 Z6 (Z7 Zo Zo))) (fun x => (x.Field, (x.Masked, (x.Value, x.Mask))))
instance : PureK Z12 := inferInstanceAs (PureK (Z0t (Z7 (Z0 .i64) (Z7 Z6 (Z7 Zo Zo))) (fun (x : Oxm) => (x.Field, (x.Masked, (x.Value, x.Mask))))))
def Z4p : Lens Z12 (Z0 .i64) := Lens.iso (k := (Z7 (Z0 .i64) (Z7 Z6 (Z7 Zo Zo)))) (Lens.fst _ _) Oxm.Field (fun x y => { x with Field := y }) (fun _ => rfl) (fun _ _ => rfl)
def Zea : Lens Z12 Z6 := Lens.iso (k := (Z7 (Z0 .i64) (Z7 Z6 (Z7 Zo Zo)))) (Lens.comp (Lens.snd _ _) (Lens.fst _ _)) Oxm.Masked (fun x y => { x with Masked := y }) (fun _ => rfl) (fun _ _ => rfl)
def Zb6 : Lens Z12 Zo := Lens.iso (k := (Z7 (Z0 .i64) (Z7 Z6 (Z7 Zo Zo)))) (Lens.comp (Lens.comp (Lens.snd _ _) (Lens.snd _ _)) (Lens.fst _ _)) Oxm.Value (fun x y => { x with Value := y }) (fun _ => rfl) (fun _ _ => rfl)
def Zbw : Lens Z12 Zo := Lens.iso (k := (Z7 (Z0 .i64) (Z7 Z6 (Z7 Zo Zo)))) (Lens.comp (Lens.comp (Lens.snd _ _) (Lens.snd _ _)) (Lens.snd _ _)) Oxm.Mask (fun x y => { x with Mask := y }) (fun _ => rfl) (fun _ _ => rfl)
def Z4b : Oxm := ⟨0, false, Z02, Z02⟩
def Zjq : List Value := ([.int .i64 0] ++ ([.bool false] ++ (Z60 ++ Z60)))
theorem Zko : KZ Z12 Z4b Zjq := Z2l (Z0o Z1k (Z0o Z91 (Z0o Z5d Z5d)))
structure Action where
 Kind : Int
 Port : Int
 Max : Int
 Group : Int
 Ether : Int
 Oxm : Oxm
 deriving DecidableEq, Inhabited
def Z8 : Kd Action := Z0t (Z7 (Z0 .i64) (Z7 (Z0 .i64) (Z7 (Z0 .i64) (Z7 (Z0 .i64) (Z7 (Z0 .i64) Z12))))) (fun x => (x.Kind, (x.Port, (x.Max, (x.Group, (x.Ether, x.Oxm))))))
instance : PureK Z8 := inferInstanceAs (PureK (Z0t (Z7 (Z0 .i64) (Z7 (Z0 .i64) (Z7 (Z0 .i64) (Z7 (Z0 .i64) (Z7 (Z0 .i64) Z12))))) (fun (x : Action) => (x.Kind, (x.Port, (x.Max, (x.Group, (x.Ether, x.Oxm))))))))
def lAction_0 : Lens Z8 (Z0 .i64) := Lens.iso (k := (Z7 (Z0 .i64) (Z7 (Z0 .i64) (Z7 (Z0 .i64) (Z7 (Z0 .i64) (Z7 (Z0 .i64) Z12)))))) (Lens.fst _ _) Action.Kind (fun x y => { x with Kind := y }) (fun _ => rfl) (fun _ _ => rfl)
def lAction_1 : Lens Z8 (Z0 .i64) := Lens.iso (k := (Z7 (Z0 .i64) (Z7 (Z0 .i64) (Z7 (Z0 .i64) (Z7 (Z0 .i64) (Z7 (Z0 .i64) Z12)))))) (Lens.comp (Lens.snd _ _) (Lens.fst _ _)) Action.Port (fun x y => { x with Port := y }) (fun _ => rfl) (fun _ _ => rfl)
def Zci : Lens Z8 (Z0 .i64) := Lens.iso (k := (Z7 (Z0 .i64) (Z7 (Z0 .i64) (Z7 (Z0 .i64) (Z7 (Z0 .i64) (Z7 (Z0 .i64) Z12)))))) (Lens.comp (Lens.comp (Lens.snd _ _) (Lens.snd _ _)) (Lens.fst _ _)) Action.Max (fun x y => { x with Max := y }) (fun _ => rfl) (fun _ _ => rfl)
def Zbu : Lens Z8 (Z0 .i64) := Lens.iso (k := (Z7 (Z0 .i64) (Z7 (Z0 .i64) (Z7 (Z0 .i64) (Z7 (Z0 .i64) (Z7 (Z0 .i64) Z12)))))) (Lens.comp (Lens.comp (Lens.comp (Lens.snd _ _) (Lens.snd _ _)) (Lens.snd _ _)) (Lens.fst _ _)) Action.Group (fun x y => { x with Group := y }) (fun _ => rfl) (fun _ _ => rfl)
def Zit : Lens Z8 (Z0 .i64) := Lens.iso (k := (Z7 (Z0 .i64) (Z7 (Z0 .i64) (Z7 (Z0 .i64) (Z7 (Z0 .i64) (Z7 (Z0 .i64) Z12)))))) (Lens.comp (Lens.comp (Lens.comp (Lens.comp (Lens.snd _ _) (Lens.snd _ _)) (Lens.snd _ _)) (Lens.snd _ _)) (Lens.fst _ _)) Action.Ether (fun x y => { x with Ether := y }) (fun _ => rfl) (fun _ _ => rfl)
def Z8f : Lens Z8 Z12 := Lens.iso (k := (Z7 (Z0 .i64) (Z7 (Z0 .i64) (Z7 (Z0 .i64) (Z7 (Z0 .i64) (Z7 (Z0 .i64) Z12)))))) (Lens.comp (Lens.comp (Lens.comp (Lens.comp (Lens.snd _ _) (Lens.snd _ _)) (Lens.snd _ _)) (Lens.snd _ _)) (Lens.snd _ _)) Action.Oxm (fun x y => { x with Oxm := y }) (fun _ => rfl) (fun _ _ => rfl)
def Zie : Action := ⟨0, 0, 0, 0, 0, Z4b⟩
def Ztq : List Value := ([.int .i64 0] ++ ([.int .i64 0] ++ ([.int .i64 0] ++ ([.int .i64 0] ++ ([.int .i64 0] ++ Zjq)))))
theorem Y0t : KZ Z8 Zie Ztq := Z2l (Z0o Z1k (Z0o Z1k (Z0o Z1k (Z0o Z1k (Z0o Z1k Zko)))))
structure Inst where
 Kind : Int
 Table : Int
 Value : Wide
 Mask : Wide
 Acts : (List Action)
 deriving DecidableEq, Inhabited
def Z16 : Kd Inst := Z0t (Z7 (Z0 .i64) (Z7 (Z0 .i64) (Z7 Zo (Z7 Zo (Z1 Z8))))) (fun x => (x.Kind, (x.Table, (x.Value, (x.Mask, x.Acts)))))
def lInst_0 : Lens Z16 (Z0 .i64) := Lens.iso (k := (Z7 (Z0 .i64) (Z7 (Z0 .i64) (Z7 Zo (Z7 Zo (Z1 Z8)))))) (Lens.fst _ _) Inst.Kind (fun x y => { x with Kind := y }) (fun _ => rfl) (fun _ _ => rfl)
def lInst_1 : Lens Z16 (Z0 .i64) := Lens.iso (k := (Z7 (Z0 .i64) (Z7 (Z0 .i64) (Z7 Zo (Z7 Zo (Z1 Z8)))))) (Lens.comp (Lens.snd _ _) (Lens.fst _ _)) Inst.Table (fun x y => { x with Table := y }) (fun _ => rfl) (fun _ _ => rfl)
def Zmy : Lens Z16 Zo := Lens.iso (k := (Z7 (Z0 .i64) (Z7 (Z0 .i64) (Z7 Zo (Z7 Zo (Z1 Z8)))))) (Lens.comp (Lens.comp (Lens.snd _ _) (Lens.snd _ _)) (Lens.fst _ _)) Inst.Value (fun x y => { x with Value := y }) (fun _ => rfl) (fun _ _ => rfl)
def Zmo : Lens Z16 Zo := Lens.iso (k := (Z7 (Z0 .i64) (Z7 (Z0 .i64) (Z7 Zo (Z7 Zo (Z1 Z8)))))) (Lens.comp (Lens.comp (Lens.comp (Lens.snd _ _) (Lens.snd _ _)) (Lens.snd _ _)) (Lens.fst _ _)) Inst.Mask (fun x y => { x with Mask := y }) (fun _ => rfl) (fun _ _ => rfl)
def lInst_4 : Lens Z16 (Z1 Z8) := Lens.iso (k := (Z7 (Z0 .i64) (Z7 (Z0 .i64) (Z7 Zo (Z7 Zo (Z1 Z8)))))) (Lens.comp (Lens.comp (Lens.comp (Lens.snd _ _) (Lens.snd _ _)) (Lens.snd _ _)) (Lens.snd _ _)) Inst.Acts (fun x y => { x with Acts := y }) (fun _ => rfl) (fun _ _ => rfl)
def Znm : Inst := ⟨0, 0, Z02, Z02, []⟩
def Zs2 : List Value := ([.int .i64 0] ++ ([.int .i64 0] ++ (Z60 ++ (Z60 ++ [.slice none 0 0]))))
theorem Zzq : KZ Z16 Znm Zs2 := Z2l (Z0o Z1k (Z0o Z1k (Z0o Z5d (Z0o Z5d (Z3m _)))))
structure Flow where
 Cookie : (BitVec 64)
 Priority : Int
 Idle : Int
 Hard : Int
 Flags : Int
 Match : (List Oxm)
 Insts : (List Inst)
 deriving DecidableEq, Inhabited
def Z23 : Kd Flow := Z0t (Z7 Z0b (Z7 (Z0 .i64) (Z7 (Z0 .i64) (Z7 (Z0 .i64) (Z7 (Z0 .i64) (Z7 (Z1 Z12) (Z1 Z16))))))) (fun x => (x.Cookie, (x.Priority, (x.Idle, (x.Hard, (x.Flags, (x.Match, x.Insts)))))))
def lFlow_1 : Lens Z23 (Z0 .i64) := Lens.iso (k := (Z7 Z0b (Z7 (Z0 .i64) (Z7 (Z0 .i64) (Z7 (Z0 .i64) (Z7 (Z0 .i64) (Z7 (Z1 Z12) (Z1 Z16)))))))) (Lens.comp (Lens.snd _ _) (Lens.fst _ _)) Flow.Priority (fun x y => { x with Priority := y }) (fun _ => rfl) (fun _ _ => rfl)
def Zny : Lens Z23 (Z1 Z12) := Lens.iso (k := (Z7 Z0b (Z7 (Z0 .i64) (Z7 (Z0 .i64) (Z7 (Z0 .i64) (Z7 (Z0 .i64) (Z7 (Z1 Z12) (Z1 Z16)))))))) (Lens.comp (Lens.comp (Lens.comp (Lens.comp (Lens.comp (Lens.snd _ _) (Lens.snd _ _)) (Lens.snd _ _)) (Lens.snd _ _)) (Lens.snd _ _)) (Lens.fst _ _)) Flow.Match (fun x y => { x with Match := y }) (fun _ => rfl) (fun _ _ => rfl)
def lFlow_6 : Lens Z23 (Z1 Z16) := Lens.iso (k := (Z7 Z0b (Z7 (Z0 .i64) (Z7 (Z0 .i64) (Z7 (Z0 .i64) (Z7 (Z0 .i64) (Z7 (Z1 Z12) (Z1 Z16)))))))) (Lens.comp (Lens.comp (Lens.comp (Lens.comp (Lens.comp (Lens.snd _ _) (Lens.snd _ _)) (Lens.snd _ _)) (Lens.snd _ _)) (Lens.snd _ _)) (Lens.snd _ _)) Flow.Insts (fun x y => { x with Insts := y }) (fun _ => rfl) (fun _ _ => rfl)
def Zj8 : Flow := ⟨0, 0, 0, 0, 0, [], []⟩
def Zq5 : List Value := ([.int .u64 0] ++ ([.int .i64 0] ++ ([.int .i64 0] ++ ([.int .i64 0] ++ ([.int .i64 0] ++ ([.slice none 0 0] ++ [.slice none 0 0]))))))
theorem Y18 : KZ Z23 Zj8 Zq5 := Z2l (Z0o Zcj (Z0o Z1k (Z0o Z1k (Z0o Z1k (Z0o Z1k (Z0o (Z3m _) (Z3m _)))))))
structure field_row where
 name : ByteArray
 id : Int
 bits : Int
 masks : Bool
 deriving DecidableEq, Inhabited
def Z0r : Kd field_row := Z0t (Z7 Z42 (Z7 (Z0 .i64) (Z7 (Z0 .i64) Z6))) (fun x => (x.name, (x.id, (x.bits, x.masks))))
instance : PureK Z0r := inferInstanceAs (PureK (Z0t (Z7 Z42 (Z7 (Z0 .i64) (Z7 (Z0 .i64) Z6))) (fun (x : field_row) => (x.name, (x.id, (x.bits, x.masks))))))
def Z1n : Lens Z0r Z42 := Lens.iso (k := (Z7 Z42 (Z7 (Z0 .i64) (Z7 (Z0 .i64) Z6)))) (Lens.fst _ _) field_row.name (fun x y => { x with name := y }) (fun _ => rfl) (fun _ _ => rfl)
def lfield_row_1 : Lens Z0r (Z0 .i64) := Lens.iso (k := (Z7 Z42 (Z7 (Z0 .i64) (Z7 (Z0 .i64) Z6)))) (Lens.comp (Lens.snd _ _) (Lens.fst _ _)) field_row.id (fun x y => { x with id := y }) (fun _ => rfl) (fun _ _ => rfl)
def Z1g : Lens Z0r (Z0 .i64) := Lens.iso (k := (Z7 Z42 (Z7 (Z0 .i64) (Z7 (Z0 .i64) Z6)))) (Lens.comp (Lens.comp (Lens.snd _ _) (Lens.snd _ _)) (Lens.fst _ _)) field_row.bits (fun x y => { x with bits := y }) (fun _ => rfl) (fun _ _ => rfl)
def Z1m : Lens Z0r Z6 := Lens.iso (k := (Z7 Z42 (Z7 (Z0 .i64) (Z7 (Z0 .i64) Z6)))) (Lens.comp (Lens.comp (Lens.snd _ _) (Lens.snd _ _)) (Lens.snd _ _)) field_row.masks (fun x y => { x with masks := y }) (fun _ => rfl) (fun _ _ => rfl)
def Z9y : field_row := ⟨(⟨#[]⟩ : ByteArray), 0, 0, false⟩
def Y1t : List Value := ([.string ⟨#[]⟩] ++ ([.int .i64 0] ++ ([.int .i64 0] ++ [.bool false])))
theorem Zjp : KZ Z0r Z9y Y1t := Z2l (Z0o Y0s (Z0o Z1k (Z0o Z1k Z91)))
abbrev Zt8 := Vector field_row 24
structure Atom where
 Rewrite : Zi
 Group : Bool
 Port : Int
 Max : Int
 deriving DecidableEq, Inhabited
def Z03 : Kd Atom := Z0t (Z7 (Z2 24 Z4) (Z7 Z6 (Z7 (Z0 .i64) (Z0 .i64)))) (fun x => (x.Rewrite, (x.Group, (x.Port, x.Max))))
instance : PureK Z03 := inferInstanceAs (PureK (Z0t (Z7 (Z2 24 Z4) (Z7 Z6 (Z7 (Z0 .i64) (Z0 .i64)))) (fun (x : Atom) => (x.Rewrite, (x.Group, (x.Port, x.Max))))))
def lAtom_0 : Lens Z03 (Z2 24 Z4) := Lens.iso (k := (Z7 (Z2 24 Z4) (Z7 Z6 (Z7 (Z0 .i64) (Z0 .i64))))) (Lens.fst _ _) Atom.Rewrite (fun x y => { x with Rewrite := y }) (fun _ => rfl) (fun _ _ => rfl)
def Zck : Lens Z03 Z6 := Lens.iso (k := (Z7 (Z2 24 Z4) (Z7 Z6 (Z7 (Z0 .i64) (Z0 .i64))))) (Lens.comp (Lens.snd _ _) (Lens.fst _ _)) Atom.Group (fun x y => { x with Group := y }) (fun _ => rfl) (fun _ _ => rfl)
def Zam : Lens Z03 (Z0 .i64) := Lens.iso (k := (Z7 (Z2 24 Z4) (Z7 Z6 (Z7 (Z0 .i64) (Z0 .i64))))) (Lens.comp (Lens.comp (Lens.snd _ _) (Lens.snd _ _)) (Lens.fst _ _)) Atom.Port (fun x y => { x with Port := y }) (fun _ => rfl) (fun _ _ => rfl)
def Zeh : Lens Z03 (Z0 .i64) := Lens.iso (k := (Z7 (Z2 24 Z4) (Z7 Z6 (Z7 (Z0 .i64) (Z0 .i64))))) (Lens.comp (Lens.comp (Lens.snd _ _) (Lens.snd _ _)) (Lens.snd _ _)) Atom.Max (fun x y => { x with Max := y }) (fun _ => rfl) (fun _ _ => rfl)
def Zk9 : Atom := ⟨(Vector.replicate 24 Z0n), false, 0, 0⟩
def Zsh : List Value := ((List.replicate 24 Z8h).flatten ++ ([.bool false] ++ ([.int .i64 0] ++ [.int .i64 0])))
theorem Zor : KZ Z03 Zk9 Zsh := Z2l (Z0o (Z3y 24 Z5b) (Z0o Z91 (Z0o Z1k Z1k)))
structure walk_way where
 cube : Zi
 got : Zi
 atoms : (List Atom)
 set : (List Action)
 deriving DecidableEq, Inhabited
def Z0q : Kd walk_way := Z0t (Z7 (Z2 24 Z4) (Z7 (Z2 24 Z4) (Z7 (Z1 Z03) (Z1 Z8)))) (fun x => (x.cube, (x.got, (x.atoms, x.set))))
def lwalk_way_0 : Lens Z0q (Z2 24 Z4) := Lens.iso (k := (Z7 (Z2 24 Z4) (Z7 (Z2 24 Z4) (Z7 (Z1 Z03) (Z1 Z8))))) (Lens.fst _ _) walk_way.cube (fun x y => { x with cube := y }) (fun _ => rfl) (fun _ _ => rfl)
def lwalk_way_1 : Lens Z0q (Z2 24 Z4) := Lens.iso (k := (Z7 (Z2 24 Z4) (Z7 (Z2 24 Z4) (Z7 (Z1 Z03) (Z1 Z8))))) (Lens.comp (Lens.snd _ _) (Lens.fst _ _)) walk_way.got (fun x y => { x with got := y }) (fun _ => rfl) (fun _ _ => rfl)
def Z77 : Lens Z0q (Z1 Z03) := Lens.iso (k := (Z7 (Z2 24 Z4) (Z7 (Z2 24 Z4) (Z7 (Z1 Z03) (Z1 Z8))))) (Lens.comp (Lens.comp (Lens.snd _ _) (Lens.snd _ _)) (Lens.fst _ _)) walk_way.atoms (fun x y => { x with atoms := y }) (fun _ => rfl) (fun _ _ => rfl)
def Z99 : Lens Z0q (Z1 Z8) := Lens.iso (k := (Z7 (Z2 24 Z4) (Z7 (Z2 24 Z4) (Z7 (Z1 Z03) (Z1 Z8))))) (Lens.comp (Lens.comp (Lens.snd _ _) (Lens.snd _ _)) (Lens.snd _ _)) walk_way.set (fun x y => { x with set := y }) (fun _ => rfl) (fun _ _ => rfl)
def Z88 : walk_way := ⟨(Vector.replicate 24 Z0n), (Vector.replicate 24 Z0n), [], []⟩
def Zzw : List Value := ((List.replicate 24 Z8h).flatten ++ ((List.replicate 24 Z8h).flatten ++ ([.slice none 0 0] ++ [.slice none 0 0])))
theorem Zu8 : KZ Z0q Z88 Zzw := Z2l (Z0o (Z3y 24 Z5b) (Z0o (Z3y 24 Z5b) (Z0o (Z3m _) (Z3m _))))
structure Z37 where
 got : Zi
 atoms : (List Atom)
 deriving DecidableEq, Inhabited
structure atom_trace_o1 where
 got : Zi
 atoms : Value
def Z2z : Kd atom_trace_o1 := Z0t (Z7 (Z2 24 Z4) kraw) (fun x => (x.got, x.atoms))
def latom_trace_o1_0 : Lens Z2z (Z2 24 Z4) := Lens.iso (k := (Z7 (Z2 24 Z4) kraw)) (Lens.fst _ _) atom_trace_o1.got (fun x y => { x with got := y }) (fun _ => rfl) (fun _ _ => rfl)
def Z9e : Lens Z2z kraw := Lens.iso (k := (Z7 (Z2 24 Z4) kraw)) (Lens.snd _ _) atom_trace_o1.atoms (fun x y => { x with atoms := y }) (fun _ => rfl) (fun _ _ => rfl)
def Zjl : atom_trace_o1 := ⟨(Vector.replicate 24 Z0n), (.slice none 0 0)⟩
theorem Zr3 : KZ Z2z Zjl ((List.replicate 24 Z8h).flatten ++ [.slice none 0 0]) := Z2l (Z0o (Z3y 24 Z5b) (Zmv rfl))
structure aset_spot where
 kind : Int
 field : Int
 deriving DecidableEq, Inhabited
def Z3s : Kd aset_spot := Z0t (Z7 (Z0 .i64) (Z0 .i64)) (fun x => (x.kind, x.field))
instance : PureK Z3s := inferInstanceAs (PureK (Z0t (Z7 (Z0 .i64) (Z0 .i64)) (fun (x : aset_spot) => (x.kind, x.field))))
def laset_spot_0 : Lens Z3s (Z0 .i64) := Lens.iso (k := (Z7 (Z0 .i64) (Z0 .i64))) (Lens.fst _ _) aset_spot.kind (fun x y => { x with kind := y }) (fun _ => rfl) (fun _ _ => rfl)
def laset_spot_1 : Lens Z3s (Z0 .i64) := Lens.iso (k := (Z7 (Z0 .i64) (Z0 .i64))) (Lens.snd _ _) aset_spot.field (fun x y => { x with field := y }) (fun _ => rfl) (fun _ _ => rfl)
def Zex : aset_spot := ⟨0, 0⟩
def Zuj : List Value := ([.int .i64 0] ++ [.int .i64 0])
theorem Ztf : KZ Z3s Zex Zuj := Z2l (Z0o Z1k Z1k)
structure Rule where
 Cube : Zi
 Atoms : (List Atom)
 deriving DecidableEq, Inhabited
def Zv : Kd Rule := Z0t (Z7 (Z2 24 Z4) (Z1 Z03)) (fun x => (x.Cube, x.Atoms))
def lRule_0 : Lens Zv (Z2 24 Z4) := Lens.iso (k := (Z7 (Z2 24 Z4) (Z1 Z03))) (Lens.fst _ _) Rule.Cube (fun x y => { x with Cube := y }) (fun _ => rfl) (fun _ _ => rfl)
def lRule_1 : Lens Zv (Z1 Z03) := Lens.iso (k := (Z7 (Z2 24 Z4) (Z1 Z03))) (Lens.snd _ _) Rule.Atoms (fun x y => { x with Atoms := y }) (fun _ => rfl) (fun _ _ => rfl)
def Zm4 : Rule := ⟨(Vector.replicate 24 Z0n), []⟩
def Zw9 : List Value := ((List.replicate 24 Z8h).flatten ++ [.slice none 0 0])
theorem Zx2 : KZ Zv Zm4 Zw9 := Z2l (Z0o (Z3y 24 Z5b) (Z3m _))
abbrev Zzh := Vector (List Flow) 4
structure Bucket where
 Weight : Int
 Watch : Int
 WatchGroup : Int
 Acts : (List Action)
 deriving DecidableEq, Inhabited
def Z0c : Kd Bucket := Z0t (Z7 (Z0 .i64) (Z7 (Z0 .i64) (Z7 (Z0 .i64) (Z1 Z8)))) (fun x => (x.Weight, (x.Watch, (x.WatchGroup, x.Acts))))
def Z9n : Lens Z0c (Z0 .i64) := Lens.iso (k := (Z7 (Z0 .i64) (Z7 (Z0 .i64) (Z7 (Z0 .i64) (Z1 Z8))))) (Lens.fst _ _) Bucket.Weight (fun x y => { x with Weight := y }) (fun _ => rfl) (fun _ _ => rfl)
def Zbh : Lens Z0c (Z0 .i64) := Lens.iso (k := (Z7 (Z0 .i64) (Z7 (Z0 .i64) (Z7 (Z0 .i64) (Z1 Z8))))) (Lens.comp (Lens.snd _ _) (Lens.fst _ _)) Bucket.Watch (fun x y => { x with Watch := y }) (fun _ => rfl) (fun _ _ => rfl)
def Za5 : Lens Z0c (Z0 .i64) := Lens.iso (k := (Z7 (Z0 .i64) (Z7 (Z0 .i64) (Z7 (Z0 .i64) (Z1 Z8))))) (Lens.comp (Lens.comp (Lens.snd _ _) (Lens.snd _ _)) (Lens.fst _ _)) Bucket.WatchGroup (fun x y => { x with WatchGroup := y }) (fun _ => rfl) (fun _ _ => rfl)
def Z5t : Lens Z0c (Z1 Z8) := Lens.iso (k := (Z7 (Z0 .i64) (Z7 (Z0 .i64) (Z7 (Z0 .i64) (Z1 Z8))))) (Lens.comp (Lens.comp (Lens.snd _ _) (Lens.snd _ _)) (Lens.snd _ _)) Bucket.Acts (fun x y => { x with Acts := y }) (fun _ => rfl) (fun _ _ => rfl)
def Znk : Bucket := ⟨0, 0, 0, []⟩
def Zxf : List Value := ([.int .i64 0] ++ ([.int .i64 0] ++ ([.int .i64 0] ++ [.slice none 0 0])))
theorem Zrf : KZ Z0c Znk Zxf := Z2l (Z0o Z1k (Z0o Z1k (Z0o Z1k (Z3m _))))
structure Group where
 ID : Int
 Kind : Int
 Buckets : (List Bucket)
 deriving DecidableEq, Inhabited
def Zz : Kd Group := Z0t (Z7 (Z0 .i64) (Z7 (Z0 .i64) (Z1 Z0c))) (fun x => (x.ID, (x.Kind, x.Buckets)))
def Z5x : Lens Zz (Z0 .i64) := Lens.iso (k := (Z7 (Z0 .i64) (Z7 (Z0 .i64) (Z1 Z0c)))) (Lens.fst _ _) Group.ID (fun x y => { x with ID := y }) (fun _ => rfl) (fun _ _ => rfl)
def Z8o : Lens Zz (Z0 .i64) := Lens.iso (k := (Z7 (Z0 .i64) (Z7 (Z0 .i64) (Z1 Z0c)))) (Lens.comp (Lens.snd _ _) (Lens.fst _ _)) Group.Kind (fun x y => { x with Kind := y }) (fun _ => rfl) (fun _ _ => rfl)
def Z5r : Lens Zz (Z1 Z0c) := Lens.iso (k := (Z7 (Z0 .i64) (Z7 (Z0 .i64) (Z1 Z0c)))) (Lens.comp (Lens.snd _ _) (Lens.snd _ _)) Group.Buckets (fun x y => { x with Buckets := y }) (fun _ => rfl) (fun _ _ => rfl)
def Zgi : Group := ⟨0, 0, []⟩
def Zru : List Value := ([.int .i64 0] ++ ([.int .i64 0] ++ [.slice none 0 0]))
theorem Zpo : KZ Zz Zgi Zru := Z2l (Z0o Z1k (Z0o Z1k (Z3m _)))
structure Switch where
 Tables : Zzh
 Groups : (List Group)
 deriving DecidableEq, Inhabited
def Z18 : Kd Switch := Z0t (Z7 (Z2 4 (Z1 Z23)) (Z1 Zz)) (fun x => (x.Tables, x.Groups))
def Zba : Lens Z18 (Z2 4 (Z1 Z23)) := Lens.iso (k := (Z7 (Z2 4 (Z1 Z23)) (Z1 Zz))) (Lens.fst _ _) Switch.Tables (fun x y => { x with Tables := y }) (fun _ => rfl) (fun _ _ => rfl)
def Zjo : Lens Z18 (Z1 Zz) := Lens.iso (k := (Z7 (Z2 4 (Z1 Z23)) (Z1 Zz))) (Lens.snd _ _) Switch.Groups (fun x y => { x with Groups := y }) (fun _ => rfl) (fun _ _ => rfl)
def Zhl : Switch := ⟨(Vector.replicate 4 []), []⟩
def Zt7 : List Value := ((List.replicate 4 [.slice none 0 0]).flatten ++ [.slice none 0 0])
theorem Zn5 : KZ Z18 Zhl Zt7 := Z2l (Z0o (Z3y 4 (Z3m _)) (Z3m _))
structure cover_purse where
 left : Int
 free : Bool
 deriving DecidableEq, Inhabited
def Z3h : Kd cover_purse := Z0t (Z7 (Z0 .i64) Z6) (fun x => (x.left, x.free))
instance : PureK Z3h := inferInstanceAs (PureK (Z0t (Z7 (Z0 .i64) Z6) (fun (x : cover_purse) => (x.left, x.free))))
def lcover_purse_0 : Lens Z3h (Z0 .i64) := Lens.iso (k := (Z7 (Z0 .i64) Z6)) (Lens.fst _ _) cover_purse.left (fun x y => { x with left := y }) (fun _ => rfl) (fun _ _ => rfl)
def lcover_purse_1 : Lens Z3h Z6 := Lens.iso (k := (Z7 (Z0 .i64) Z6)) (Lens.snd _ _) cover_purse.free (fun x y => { x with free := y }) (fun _ => rfl) (fun _ _ => rfl)
def Zg0 : cover_purse := ⟨0, false⟩
def Zl8 : List Value := ([.int .i64 0] ++ [.bool false])
theorem Zkb : KZ Z3h Zg0 Zl8 := Z2l (Z0o Z1k Z91)
abbrev Z1r := Vector Wide 24
structure cover_look where
 purse : cover_purse
 deriving DecidableEq, Inhabited
def Z0x : Kd cover_look := Z0t Z3h (fun x => x.purse)
instance : PureK Z0x := inferInstanceAs (PureK (Z0t Z3h (fun (x : cover_look) => x.purse)))
def lcover_look_0 : Lens Z0x Z3h := Lens.iso (k := Z3h) (Lens.id _) cover_look.purse (fun x y => { x with purse := y }) (fun _ => rfl) (fun _ _ => rfl)
def Zmz : cover_look := ⟨Zg0⟩
def Zre : List Value := Zl8
theorem Zqi : KZ Z0x Zmz Zre := Z2l Zkb
structure Flat where
 Rules : (List Rule)
 Groups : (List Group)
 deriving DecidableEq, Inhabited
def Z2o : Kd Flat := Z0t (Z7 (Z1 Zv) (Z1 Zz)) (fun x => (x.Rules, x.Groups))
def lFlat_0 : Lens Z2o (Z1 Zv) := Lens.iso (k := (Z7 (Z1 Zv) (Z1 Zz))) (Lens.fst _ _) Flat.Rules (fun x y => { x with Rules := y }) (fun _ => rfl) (fun _ _ => rfl)
def lFlat_1 : Lens Z2o (Z1 Zz) := Lens.iso (k := (Z7 (Z1 Zv) (Z1 Zz))) (Lens.snd _ _) Flat.Groups (fun x y => { x with Groups := y }) (fun _ => rfl) (fun _ _ => rfl)
def Zju : Flat := ⟨[], []⟩
def Y15 : List Value := ([.slice none 0 0] ++ [.slice none 0 0])
theorem Y1q : KZ Z2o Zju Y15 := Z2l (Z0o (Z3m _) (Z3m _))
structure Env where
 Turn : Int
 Down : (List Int)
 deriving DecidableEq, Inhabited
structure Y1z where
 Env : Env
 Group : Group
 deriving DecidableEq, Inhabited
structure Out where
 Port : Int
 Max : Int
 Header : Z1r
 deriving DecidableEq, Inhabited
def Zoo : Kd Out := Z0t (Z7 (Z0 .i64) (Z7 (Z0 .i64) (Z2 24 Zo))) (fun x => (x.Port, (x.Max, x.Header)))
instance : PureK Zoo := inferInstanceAs (PureK (Z0t (Z7 (Z0 .i64) (Z7 (Z0 .i64) (Z2 24 Zo))) (fun (x : Out) => (x.Port, (x.Max, x.Header)))))
structure Y1w where
 Env : Env
 groups : (List Group)
 out : (List Out)
 header : Z1r
 depth : Int
 deriving DecidableEq, Inhabited
structure Y1x where
 Env : Env
 groups : (List Group)
 out : Value
 header : Z1r
 depth : Int
structure Zhm where
 Table : Int
 Flow : Int
 deriving DecidableEq, Inhabited
def Zxx : Kd Zhm := Z0t (Z7 (Z0 .i64) (Z0 .i64)) (fun x => (x.Table, x.Flow))
instance : PureK Zxx := inferInstanceAs (PureK (Z0t (Z7 (Z0 .i64) (Z0 .i64)) (fun (x : Zhm) => (x.Table, x.Flow))))
structure Y1y where
 Switch : Switch
 env : Env
 header : Z1r
 set : (List Action)
 out : (List Out)
 path : (List Zhm)
 deriving DecidableEq, Inhabited
structure Y1v where
 Switch : Switch
 env : Env
 header : Z1r
 set : (List Action)
 out : Value
 path : Value
theorem Z15 : Zr Tryz.prog 87 (Z2 24 Z4) (Vector.replicate 24 Z0n) := ⟨_, (Z3y 24 Z5b), by kernel_rfl⟩
theorem Zy : Ty Tryz.prog 87 (Z2 24 Z4) := ⟨by kernel_rfl, by kernel_rfl⟩
theorem Z3q : Zr Tryz.prog 101 (Z2 24 Z4) (Vector.replicate 24 Z0n) := ⟨_, (Z3y 24 Z5b), by kernel_rfl⟩
theorem Z07 : Ty Tryz.prog 101 (Z2 24 Z4) := ⟨by kernel_rfl, by kernel_rfl⟩
theorem Z4c : Ty Tryz.prog 22 (Z1 Z23) := ⟨by kernel_rfl, by kernel_rfl⟩
theorem Z4w : Sl Tryz.prog 22 61 Z23 := ⟨by kernel_rfl, by kernel_rfl⟩
theorem Zdl : Fl Tryz.prog 61 1 lFlow_1 := ⟨by kernel_rfl, rfl⟩
theorem Zm : Ty Tryz.prog 3 (Z0 .i64) := ⟨by kernel_rfl, by kernel_rfl⟩
theorem Z0w : Sl Tryz.prog 37 3 (Z0 .i64) := ⟨by kernel_rfl, by kernel_rfl⟩
theorem us3 : (Tryz.prog.underlying 3).isSome = true := by kernel_rfl
theorem Z5j : Tryz.prog.underlying 360 = some (.int .u64) := by kernel_rfl
theorem Z5p : (Tryz.prog.underlying 360).isSome = true := by kernel_rfl
theorem un3 : Tryz.prog.underlying 3 = some (.int .i64) := by kernel_rfl
theorem Zfg : El Tryz.prog 37 3 (Z0 .i64) := ⟨by kernel_rfl, by kernel_rfl, by kernel_rfl, by kernel_rfl, by kernel_rfl⟩
theorem zr3 : Zr Tryz.prog 3 (Z0 .i64) 0 := ⟨_, Z1k, by kernel_rfl⟩
theorem Zk1 : Zr Tryz.prog 369 (Z2 24 Z0r) (Vector.replicate 24 Z9y) := ⟨_, (Z3y 24 Zjp), by kernel_rfl⟩
theorem Zv7 : Z0s Tryz.prog 364 1 = some (lfield_row_1.off, Kd.sz (Z0 .i64)) := by kernel_rfl
theorem Z1f : Zr Tryz.prog 364 Z0r Z9y := ⟨_, Zjp, by kernel_rfl⟩
theorem Zmn : Ty Tryz.prog 369 (Z2 24 Z0r) := ⟨by kernel_rfl, by kernel_rfl⟩
theorem Zwy : Z28 Tryz.prog 364 = true := by kernel_rfl
theorem Za6 : Ty Tryz.prog 364 Z0r := ⟨by kernel_rfl, by kernel_rfl⟩
theorem Zz2 : Ar Tryz.prog 369 364 24 Z0r := ⟨by kernel_rfl, by kernel_rfl⟩
theorem Zpx : Zey Tryz.prog 364 2 = some 3 := by kernel_rfl
theorem Zwq : Fl Tryz.prog 364 2 Z1g := ⟨by kernel_rfl, rfl⟩
theorem Z29 : Zr Tryz.prog 42 Zo Z02 := ⟨_, Z5d, by kernel_rfl⟩
theorem Z6k : Z0s Tryz.prog 42 0 = some (lWide_0.off, Kd.sz Z0b) := by kernel_rfl
theorem Z64 : Z0s Tryz.prog 42 1 = some (lWide_1.off, Kd.sz Z0b) := by kernel_rfl
theorem Z4h : Z28 Tryz.prog 42 = true := by kernel_rfl
theorem Zw : Ty Tryz.prog 42 Zo := ⟨by kernel_rfl, by kernel_rfl⟩
theorem Z14 : Zr Tryz.prog 85 Z4 Z0n := ⟨_, Z5b, by kernel_rfl⟩
theorem Z5w : Fl Tryz.prog 119 0 Z4p := ⟨by kernel_rfl, rfl⟩
theorem Z3z : Z28 Tryz.prog 85 = true := by kernel_rfl
theorem Zx : Ty Tryz.prog 85 Z4 := ⟨by kernel_rfl, by kernel_rfl⟩
theorem Zfq : Fl Tryz.prog 119 1 Zea := ⟨by kernel_rfl, rfl⟩
theorem ty4 : Ty Tryz.prog 4 Z6 := ⟨by kernel_rfl, by kernel_rfl⟩
theorem Ze5 : Fl Tryz.prog 119 2 Zb6 := ⟨by kernel_rfl, rfl⟩
theorem Zii : Fl Tryz.prog 119 3 Zbw := ⟨by kernel_rfl, rfl⟩
theorem Z51 : Z0s Tryz.prog 85 0 = some (lTern_0.off, Kd.sz Zo) := by kernel_rfl
theorem Z4k : Z0s Tryz.prog 85 1 = some (lTern_1.off, Kd.sz Zo) := by kernel_rfl
theorem Zl9 : Sl Tryz.prog 58 119 Z12 := ⟨by kernel_rfl, by kernel_rfl⟩
theorem Z6n : Ty Tryz.prog 119 Z12 := ⟨by kernel_rfl, by kernel_rfl⟩
theorem Zwl : Zr Tryz.prog 119 Z12 Z4b := ⟨_, Zko, by kernel_rfl⟩
theorem Z26 : Ar Tryz.prog 87 85 24 Z4 := ⟨by kernel_rfl, by kernel_rfl⟩
theorem Z3j : Fl Tryz.prog 42 0 lWide_0 := ⟨by kernel_rfl, rfl⟩
theorem Z19 : Ty Tryz.prog 40 Z0b := ⟨by kernel_rfl, by kernel_rfl⟩
theorem Z3l : Fl Tryz.prog 42 1 lWide_1 := ⟨by kernel_rfl, rfl⟩
theorem Z2h : Fl Tryz.prog 85 0 lTern_0 := ⟨by kernel_rfl, rfl⟩
theorem Z21 : Fl Tryz.prog 85 1 lTern_1 := ⟨by kernel_rfl, rfl⟩
theorem Y0o : Fl Tryz.prog 61 5 Zny := ⟨by kernel_rfl, rfl⟩
theorem Zvz : Ty Tryz.prog 58 (Z1 Z12) := ⟨by kernel_rfl, by kernel_rfl⟩
theorem Z3v : Ar Tryz.prog 101 85 24 Z4 := ⟨by kernel_rfl, by kernel_rfl⟩
theorem Z86 : Zr Tryz.prog 135 Z0q Z88 := ⟨_, Zu8, by kernel_rfl⟩
theorem Zac : Fl Tryz.prog 135 1 lwalk_way_1 := ⟨by kernel_rfl, rfl⟩
theorem Zbp : Ty Tryz.prog 61 Z23 := ⟨by kernel_rfl, by kernel_rfl⟩
theorem Zlq : Z28 Tryz.prog 135 = true := by kernel_rfl
theorem Z1w : Ty Tryz.prog 135 Z0q := ⟨by kernel_rfl, by kernel_rfl⟩
theorem Zi0 : Fl Tryz.prog 135 0 lwalk_way_0 := ⟨by kernel_rfl, rfl⟩
theorem Zse : Fl Tryz.prog 124 0 lInst_0 := ⟨by kernel_rfl, rfl⟩
theorem Z9x : Sl Tryz.prog 59 124 Z16 := ⟨by kernel_rfl, by kernel_rfl⟩
theorem Z3g : Ty Tryz.prog 124 Z16 := ⟨by kernel_rfl, by kernel_rfl⟩
theorem Z0g : Sl Tryz.prog 122 121 Z8 := ⟨by kernel_rfl, by kernel_rfl⟩
theorem Zoj : El Tryz.prog 122 121 Z8 := ⟨by kernel_rfl, by kernel_rfl, by kernel_rfl, by kernel_rfl, by kernel_rfl⟩
theorem Z47 : Zr Tryz.prog 121 Z8 Zie := ⟨_, Y0t, by kernel_rfl⟩
theorem Z3i : Zr Tryz.prog 124 Z16 Znm := ⟨_, Zzq, by kernel_rfl⟩
theorem Zhb : Z28 Tryz.prog 124 = true := by kernel_rfl
theorem Zda : Fl Tryz.prog 124 4 lInst_4 := ⟨by kernel_rfl, rfl⟩
theorem Z30 : Ty Tryz.prog 122 (Z1 Z8) := ⟨by kernel_rfl, by kernel_rfl⟩
theorem Zxc : Zr Tryz.prog 367 (Z2 2 Z0b) (Vector.replicate 2 0) := ⟨_, (Z3y 2 Zcj), by kernel_rfl⟩
theorem Zgv : Ar Tryz.prog 367 40 2 Z0b := ⟨by kernel_rfl, by kernel_rfl⟩
theorem Z43 : Fl Tryz.prog 121 0 lAction_0 := ⟨by kernel_rfl, rfl⟩
theorem Z8u : Fl Tryz.prog 121 5 Z8f := ⟨by kernel_rfl, rfl⟩
theorem Zd8 : Fl Tryz.prog 346 0 latom_trace_o1_0 := ⟨by kernel_rfl, rfl⟩
theorem Zqw : Z0s Tryz.prog 126 0 = some (lAtom_0.off, Kd.sz (Z2 24 Z4)) := by kernel_rfl
theorem Z7b : Zr Tryz.prog 126 Z03 Zk9 := ⟨_, Zor, by kernel_rfl⟩
theorem Zvj : Z28 Tryz.prog 126 = true := by kernel_rfl
theorem Z4e : Ty Tryz.prog 126 Z03 := ⟨by kernel_rfl, by kernel_rfl⟩
theorem Zc6 : Fl Tryz.prog 121 1 lAction_1 := ⟨by kernel_rfl, rfl⟩
theorem Zct : Fl Tryz.prog 126 2 Zam := ⟨by kernel_rfl, rfl⟩
theorem Zj4 : Fl Tryz.prog 121 2 Zci := ⟨by kernel_rfl, rfl⟩
theorem Ziv : Fl Tryz.prog 126 3 Zeh := ⟨by kernel_rfl, rfl⟩
theorem Zhj : Fl Tryz.prog 121 3 Zbu := ⟨by kernel_rfl, rfl⟩
theorem Zgo : Fl Tryz.prog 126 1 Zck := ⟨by kernel_rfl, rfl⟩
theorem Z0f : Ty Tryz.prog 121 Z8 := ⟨by kernel_rfl, by kernel_rfl⟩
theorem Zfy : Fl Tryz.prog 346 1 Z9e := ⟨by kernel_rfl, rfl⟩
theorem Zj3 : Ty Tryz.prog 88 kraw := ⟨by kernel_rfl, by kernel_rfl⟩
theorem Z1q : Sl Tryz.prog 88 126 Z03 := ⟨by kernel_rfl, by kernel_rfl⟩
theorem Zfi : El Tryz.prog 88 126 Z03 := ⟨by kernel_rfl, by kernel_rfl, by kernel_rfl, by kernel_rfl, by kernel_rfl⟩
theorem Zww : Z0s Tryz.prog 346 0 = some (latom_trace_o1_0.off, Kd.sz (Z2 24 Z4)) := by kernel_rfl
theorem Y0u : Zr Tryz.prog 346 Z2z Zjl := ⟨_, Zr3, by kernel_rfl⟩
theorem Zyc : Z28 Tryz.prog 346 = true := by kernel_rfl
theorem Zbe : Fl Tryz.prog 135 2 Z77 := ⟨by kernel_rfl, rfl⟩
theorem Z3b : Ty Tryz.prog 88 (Z1 Z03) := ⟨by kernel_rfl, by kernel_rfl⟩
theorem Zaz : Zr Tryz.prog 275 Z3s Zex := ⟨_, Ztf, by kernel_rfl⟩
theorem Zo5 : Z0s Tryz.prog 275 0 = some (laset_spot_0.off, Kd.sz (Z0 .i64)) := by kernel_rfl
theorem Zzm : Z0s Tryz.prog 275 1 = some (laset_spot_1.off, Kd.sz (Z0 .i64)) := by kernel_rfl
theorem Zjx : Z28 Tryz.prog 275 = true := by kernel_rfl
theorem Z72 : Ty Tryz.prog 275 Z3s := ⟨by kernel_rfl, by kernel_rfl⟩
theorem eqk3 : EqK Tryz.prog 1 3 (Z0 .i64) := Zue (by kernel_rfl)
theorem Zov : EqK Tryz.prog 2 275 Z3s := Z7l (fun x y e => by cases x; cases y; simp only [Prod.mk.injEq] at e; simp [e]) (l := _) (by kernel_rfl) (by kernel_rfl) (Z35 eqk3 Zm (Z76 eqk3 Zm))
theorem Zr6 : Tryz.prog.eqGuardType Tryz.prog.depth 275 = false := by kernel_rfl
theorem Zm2 : Fl Tryz.prog 275 0 laset_spot_0 := ⟨by kernel_rfl, rfl⟩
theorem Zed : Fl Tryz.prog 275 1 laset_spot_1 := ⟨by kernel_rfl, rfl⟩
theorem zr4 : Zr Tryz.prog 4 Z6 false := ⟨_, Z91, by kernel_rfl⟩
theorem Zcv : Fl Tryz.prog 135 3 Z99 := ⟨by kernel_rfl, rfl⟩
theorem Zy3 : Fl Tryz.prog 124 2 Zmy := ⟨by kernel_rfl, rfl⟩
theorem Zus : Fl Tryz.prog 124 3 Zmo := ⟨by kernel_rfl, rfl⟩
theorem Zho : Fl Tryz.prog 124 1 lInst_1 := ⟨by kernel_rfl, rfl⟩
theorem Z4g : Zr Tryz.prog 90 Zv Zm4 := ⟨_, Zx2, by kernel_rfl⟩
theorem Zqc : Z0s Tryz.prog 90 0 = some (lRule_0.off, Kd.sz (Z2 24 Z4)) := by kernel_rfl
theorem Zuy : Z0s Tryz.prog 90 1 = some (lRule_1.off, Kd.sz (Z1 Z03)) := by kernel_rfl
theorem Zqo : Z28 Tryz.prog 90 = true := by kernel_rfl
theorem Z2t : Ty Tryz.prog 90 Zv := ⟨by kernel_rfl, by kernel_rfl⟩
theorem Zn3 : Fl Tryz.prog 131 0 (Lens.fst Z18 kraw) := ⟨by kernel_rfl, rfl⟩
theorem Zli (A : Z3) : Fl Tryz.prog 131 0 (Zfw Z18 A) := ⟨Zn3.1, Zn3.2⟩
theorem Zes : Fl Tryz.prog 26 0 Zba := ⟨by kernel_rfl, rfl⟩
theorem Ze2 : Ar Tryz.prog 23 22 4 (Z1 Z23) := ⟨by kernel_rfl, by kernel_rfl⟩
theorem Zkg : Fl Tryz.prog 131 1 (Lens.snd Z18 kraw) := ⟨by kernel_rfl, rfl⟩
theorem Zld (A : Z3) : Fl Tryz.prog 131 1 (Zfp Z18 A) := ⟨Zkg.1, Zkg.2⟩
theorem tyr92 : Ty Tryz.prog 92 kraw := ⟨by kernel_rfl, by kernel_rfl⟩
theorem Zmu (A : Z3) : Ty Tryz.prog 92 (kas A) := ⟨tyr92.sz, tyr92.ag⟩
theorem Z6z : Zr Tryz.prog 61 Z23 Zj8 := ⟨_, Y18, by kernel_rfl⟩
theorem Y1u : Fl Tryz.prog 61 6 lFlow_6 := ⟨by kernel_rfl, rfl⟩
theorem Y1c : Ty Tryz.prog 59 (Z1 Z16) := ⟨by kernel_rfl, by kernel_rfl⟩
theorem Z5u : Ty Tryz.prog 26 Z18 := ⟨by kernel_rfl, by kernel_rfl⟩
theorem Zv4 : Zr Tryz.prog 131 (Z7 Z18 kraw) (Zhl, .nilFunc) := ⟨_, Z0o Zn5 (Zmv rfl), by kernel_rfl⟩
theorem Zsz : Z0s Tryz.prog 135 0 = some (lwalk_way_0.off, Kd.sz (Z2 24 Z4)) := by kernel_rfl
theorem Zp6 : Z0s Tryz.prog 135 1 = some (lwalk_way_1.off, Kd.sz (Z2 24 Z4)) := by kernel_rfl
theorem Z1a : Sl Tryz.prog 32 90 Zv := ⟨by kernel_rfl, by kernel_rfl⟩
theorem Zhe : El Tryz.prog 32 90 Zv := ⟨by kernel_rfl, by kernel_rfl, by kernel_rfl, by kernel_rfl, by kernel_rfl⟩
theorem Zgn : Ty Tryz.prog 32 kraw := ⟨by kernel_rfl, by kernel_rfl⟩
theorem Zlx : Zr Tryz.prog 26 Z18 Zhl := ⟨_, Zn5, by kernel_rfl⟩
theorem Zpv : Z28 Tryz.prog 26 = true := by kernel_rfl
theorem Zpc : Z0s Tryz.prog 121 0 = some (lAction_0.off, Kd.sz (Z0 .i64)) := by kernel_rfl
theorem Zx1 : Z0s Tryz.prog 121 1 = some (lAction_1.off, Kd.sz (Z0 .i64)) := by kernel_rfl
theorem Zoz : Z28 Tryz.prog 121 = true := by kernel_rfl
theorem Zl4 : Z0s Tryz.prog 124 0 = some (lInst_0.off, Kd.sz (Z0 .i64)) := by kernel_rfl
theorem Y1e : Z0s Tryz.prog 124 4 = some (lInst_4.off, Kd.sz (Z1 Z8)) := by kernel_rfl
theorem Zm9 : Z0s Tryz.prog 61 6 = some (lFlow_6.off, Kd.sz (Z1 Z16)) := by kernel_rfl
theorem Zj1 : Z28 Tryz.prog 61 = true := by kernel_rfl
theorem Z5q : Fl Tryz.prog 90 1 lRule_1 := ⟨by kernel_rfl, rfl⟩
theorem Z6t : Fl Tryz.prog 90 0 lRule_0 := ⟨by kernel_rfl, rfl⟩
theorem Zkr : EqK Tryz.prog 1 40 Z0b := Zpa (by kernel_rfl)
theorem Z87 : EqK Tryz.prog 2 42 Zo := Z7l (fun x y e => by cases x; cases y; simp only [Prod.mk.injEq] at e; simp [e]) (l := _) (by kernel_rfl) (by kernel_rfl) (Z35 Zkr Z19 (Z76 Zkr Z19))
theorem Znj : EqK Tryz.prog 3 85 Z4 := Z7l (fun x y e => by cases x; cases y; simp only [Prod.mk.injEq] at e; simp [e]) (l := _) (by kernel_rfl) (by kernel_rfl) (Z35 Z87 Zw (Z76 Z87 Zw))
theorem Zn4 : EqK Tryz.prog 4 87 (Z2 24 Z4) := Zjt Znj Zx Z26
theorem Zmt : Tryz.prog.eqGuardType Tryz.prog.depth 87 = false := by kernel_rfl
theorem Z1p : Sl Tryz.prog 162 226 Z0c := ⟨by kernel_rfl, by kernel_rfl⟩
theorem Z61 : Ty Tryz.prog 226 Z0c := ⟨by kernel_rfl, by kernel_rfl⟩
theorem Z6a : Fl Tryz.prog 226 3 Z5t := ⟨by kernel_rfl, rfl⟩
theorem Z5z : Fl Tryz.prog 164 2 Z5r := ⟨by kernel_rfl, rfl⟩
theorem Z6r : Ty Tryz.prog 162 (Z1 Z0c) := ⟨by kernel_rfl, by kernel_rfl⟩
theorem Z1c : Sl Tryz.prog 24 164 Zz := ⟨by kernel_rfl, by kernel_rfl⟩
theorem Z2q : Ty Tryz.prog 164 Zz := ⟨by kernel_rfl, by kernel_rfl⟩
theorem Zz1 : Fl Tryz.prog 26 1 Zjo := ⟨by kernel_rfl, rfl⟩
theorem Z6l : Ty Tryz.prog 24 (Z1 Zz) := ⟨by kernel_rfl, by kernel_rfl⟩
theorem un4 : Tryz.prog.underlying 4 = some (.bool) := by kernel_rfl
theorem Z78 : Fl Tryz.prog 126 0 lAtom_0 := ⟨by kernel_rfl, rfl⟩
theorem Zma : EqK Tryz.prog 4 101 (Z2 24 Z4) := Zjt Znj Zx Z3v
theorem Zyo : Tryz.prog.eqGuardType Tryz.prog.depth 101 = false := by kernel_rfl
theorem Z2y : Sl Tryz.prog 229 87 (Z2 24 Z4) := ⟨by kernel_rfl, by kernel_rfl⟩
theorem Zin : El Tryz.prog 229 87 (Z2 24 Z4) := ⟨by kernel_rfl, by kernel_rfl, by kernel_rfl, by kernel_rfl, by kernel_rfl⟩
theorem Zuc : Fl Tryz.prog 288 1 lcover_purse_1 := ⟨by kernel_rfl, rfl⟩
theorem Zfn : Fl Tryz.prog 288 0 lcover_purse_0 := ⟨by kernel_rfl, rfl⟩
theorem Z46 : Zr Tryz.prog 44 (Z2 24 Zo) (Vector.replicate 24 Z02) := ⟨_, (Z3y 24 Z5d), by kernel_rfl⟩
theorem Z1s : Ty Tryz.prog 44 (Z2 24 Zo) := ⟨by kernel_rfl, by kernel_rfl⟩
theorem Zp5 : Zey Tryz.prog 85 0 = some 42 := by kernel_rfl
theorem Zwc : Ar Tryz.prog 44 42 24 Zo := ⟨by kernel_rfl, by kernel_rfl⟩
theorem Zv0 : (Tryz.prog.underlying 40).isSome = true := by kernel_rfl
theorem tyr286 : Ty Tryz.prog 286 kraw := ⟨by kernel_rfl, by kernel_rfl⟩
theorem Znd (A : Z3) : Ty Tryz.prog 286 (kas A) := ⟨tyr286.sz, tyr286.ag⟩
theorem Y0g : Fl Tryz.prog 290 0 lcover_look_0 := ⟨by kernel_rfl, rfl⟩
theorem Zid : Ty Tryz.prog 229 (Z1 (Z2 24 Z4)) := ⟨by kernel_rfl, by kernel_rfl⟩
theorem Zp0 : Z0s Tryz.prog 288 0 = some (lcover_purse_0.off, Kd.sz (Z0 .i64)) := by kernel_rfl
theorem Zua : Z0s Tryz.prog 288 1 = some (lcover_purse_1.off, Kd.sz Z6) := by kernel_rfl
theorem Zry : Zr Tryz.prog 288 Z3h Zg0 := ⟨_, Zkb, by kernel_rfl⟩
theorem Zwk : Z28 Tryz.prog 288 = true := by kernel_rfl
theorem Zwb : Z0s Tryz.prog 290 0 = some (lcover_look_0.off, Kd.sz Z3h) := by kernel_rfl
theorem Zu1 : Zr Tryz.prog 290 Z0x Zmz := ⟨_, Zqi, by kernel_rfl⟩
theorem Y05 : Z28 Tryz.prog 290 = true := by kernel_rfl
theorem Z8k : Fl Tryz.prog 164 0 Z5x := ⟨by kernel_rfl, rfl⟩
theorem Zo9 : El Tryz.prog 24 164 Zz := ⟨by kernel_rfl, by kernel_rfl, by kernel_rfl, by kernel_rfl, by kernel_rfl⟩
theorem Z58 : Zr Tryz.prog 164 Zz Zgi := ⟨_, Zpo, by kernel_rfl⟩
theorem Zwp : El Tryz.prog 162 226 Z0c := ⟨by kernel_rfl, by kernel_rfl, by kernel_rfl, by kernel_rfl, by kernel_rfl⟩
theorem Zh6 : Zr Tryz.prog 226 Z0c Znk := ⟨_, Zrf, by kernel_rfl⟩
theorem Zt0 : Z28 Tryz.prog 164 = true := by kernel_rfl
theorem Z7r : Zr Tryz.prog 73 Z2o Zju := ⟨_, Y1q, by kernel_rfl⟩
theorem Zfx : Z28 Tryz.prog 73 = true := by kernel_rfl
theorem Z2p : Ty Tryz.prog 73 Z2o := ⟨by kernel_rfl, by kernel_rfl⟩
theorem Ztj : Z0s Tryz.prog 73 0 = some (lFlat_0.off, Kd.sz (Z1 Zv)) := by kernel_rfl
theorem Zvl : Z0s Tryz.prog 73 1 = some (lFlat_1.off, Kd.sz (Z1 Zz)) := by kernel_rfl
theorem eqk4 : EqK Tryz.prog 1 4 Z6 := Zvb (by kernel_rfl)
theorem Zt5 : EqK Tryz.prog 5 126 Z03 := Z7l (fun x y e => by cases x; cases y; simp only [Prod.mk.injEq] at e; simp [e]) (l := _) (by kernel_rfl) (by kernel_rfl) (Z35 Zma Z07 (Z35 (eqk4.le (by decide)) ty4 (Z35 (eqk3.le (by decide)) Zm (Z76 (eqk3.le (by decide)) Zm))))
theorem Zu2 : Tryz.prog.eqGuardType Tryz.prog.depth 126 = false := by kernel_rfl
theorem Zuf : EqK Tryz.prog 3 119 Z12 := Z7l (fun x y e => by cases x; cases y; simp only [Prod.mk.injEq] at e; simp [e]) (l := _) (by kernel_rfl) (by kernel_rfl) (Z35 (eqk3.le (by decide)) Zm (Z35 (eqk4.le (by decide)) ty4 (Z35 Z87 Zw (Z76 Z87 Zw))))
theorem Zyd : EqK Tryz.prog 4 121 Z8 := Z7l (fun x y e => by cases x; cases y; simp only [Prod.mk.injEq] at e; simp [e]) (l := _) (by kernel_rfl) (by kernel_rfl) (Z35 (eqk3.le (by decide)) Zm (Z35 (eqk3.le (by decide)) Zm (Z35 (eqk3.le (by decide)) Zm (Z35 (eqk3.le (by decide)) Zm (Z35 (eqk3.le (by decide)) Zm (Z76 Zuf Z6n))))))
theorem Zw1 : Tryz.prog.eqGuardType Tryz.prog.depth 121 = false := by kernel_rfl
theorem Zcq : Fl Tryz.prog 226 0 Z9n := ⟨by kernel_rfl, rfl⟩
theorem Zdf : Fl Tryz.prog 226 1 Zbh := ⟨by kernel_rfl, rfl⟩
theorem Zf7 : Fl Tryz.prog 226 2 Za5 := ⟨by kernel_rfl, rfl⟩
theorem Zdw : Fl Tryz.prog 164 1 Z8o := ⟨by kernel_rfl, rfl⟩
theorem Z3d : Fl Tryz.prog 73 0 lFlat_0 := ⟨by kernel_rfl, rfl⟩
theorem Z39 : Ty Tryz.prog 32 (Z1 Zv) := ⟨by kernel_rfl, by kernel_rfl⟩
theorem Z8e : Fl Tryz.prog 73 1 lFlat_1 := ⟨by kernel_rfl, rfl⟩
theorem Zwe : Z0s Tryz.prog 124 1 = some (lInst_1.off, Kd.sz (Z0 .i64)) := by kernel_rfl
theorem Zo4 : Z0s Tryz.prog 61 1 = some (lFlow_1.off, Kd.sz (Z0 .i64)) := by kernel_rfl
theorem Zof : Tryz.prog.eqGuardType Tryz.prog.depth 42 = false := by kernel_rfl
theorem Zla : Fl Tryz.prog 121 4 Zit := ⟨by kernel_rfl, rfl⟩
theorem Z01 : Tryz.prog.follows .mixedOrders = true := by kernel_rfl
end Go.Proofs.YtknpgojdkobgjaaGreat.W
set_option maxRecDepth 4000
namespace Go.Proofs.YtknpgojdkobgjaaGreat.W
open Go Go.Wb
theorem Zh4 : Ent Tryz.prog 341 := Ent.mk Tryz.func341 rfl rfl
theorem Zdu : Ent Tryz.prog 302 := Ent.mk Tryz.func302 rfl rfl
theorem Zsr : Ent Tryz.prog 333 := Ent.mk Tryz.func333 rfl rfl
theorem Zjh : Ent Tryz.prog 301 := Ent.mk Tryz.func301 rfl rfl
theorem Zvh : Ent Tryz.prog 258 := Ent.mk Tryz.func258 rfl rfl
def Zcd : Option Zi :=
 some (Vector.replicate 24 Z0n)
theorem Zm6 : Q0 Tryz.prog 73 (rd (Z2 24 Z4)) Zcd := fun r h => I0 Tryz.func73 rfl Tryz.ntmps73 rfl fun w H => by
 unfold Zcd at h
 refine SR <| Cv rfl (Zn 1 rfl rfl Z15) fun g1 => Nl <| SR <| Ac (Z10 (ps := []) (x := (Vector.replicate 24 Z0n)) rfl rfl rfl (by kernel_rfl) Z15 rfl) rfl <| Zg Zy 1 rfl <| Nl <| rt ?_
 cases h; exact Zc Tryz.results73 rfl (Z00 rfl (i := 1) rfl Zy)
def Zf6 : Option Zi :=
 some (Vector.replicate 24 Z0n)
theorem Zjf : Q0 Tryz.prog 77 (rd (Z2 24 Z4)) Zf6 := fun r h => I0 Tryz.func77 rfl Tryz.ntmps77 rfl fun w H => by
 unfold Zf6 at h
 refine SR <| Cv rfl (Zn 1 rfl rfl Z3q) fun g1 => Nl <| SR <| Ac (Z10 (ps := []) (x := (Vector.replicate 24 Z0n)) rfl rfl rfl (by kernel_rfl) Z3q rfl) rfl <| Zg Z07 1 rfl <| Nl <| rt ?_
 cases h; exact Zc Tryz.results77 rfl (Z00 rfl (i := 1) rfl Z07)
def Zd0 (i1 : Int) (j2 : Int) (x3 : (List Flow)) : Option Int :=
 (lget x3 i1).bind fun x4 => (lget x3 j2).bind fun x5 => (bif (decide (x4.Priority > x5.Priority)) then some (-1) else (lget x3 i1).bind fun x6 => (lget x3 j2).bind fun x7 => (bif (decide (x6.Priority < x7.Priority)) then some 1 else some 0))
theorem Zrr : Q3 Tryz.prog 201 (rd (Z0 .i64)) (rd (Z0 .i64)) (rp (Z1 Z23)) (rd (Z0 .i64)) Zd0 := fun i1 j2 x3 r h => I0 Tryz.func201 rfl Tryz.ntmps201 rfl fun w H => by
 unfold Zd0 at h
 refine SR <| Ak rfl <| Nl <| sq <| bk <| sq ?_
 obtain ⟨x4, hx4, x5, hx5, h⟩ := bs2 h
 refine AR Z01 (by kernel_rfl) <| SLp Z4c rfl <| Zq rfl <| Sd (lo [7, 8] [] rfl fun S hs hr => Z04 rfl rfl Z4w (vh hs 7 rfl rfl) (vh hs 8 rfl rfl) hx4) <| SFp lFlow_1 Zdl rfl <| SLp Zm rfl <| SLp Z4c rfl <| Zq rfl <| Sd (lo [12, 13] [] rfl fun S hs hr => Z04 rfl rfl Z4w (vh hs 12 rfl rfl) (vh hs 13 rfl rfl) hx5) <| SFp lFlow_1 Zdl rfl <| SLp Zm rfl <| Sd (lo [11, 16] [] rfl fun S hs hr => Z3o rfl rfl (vh hs 11 rfl rfl) (vh hs 16 rfl rfl)) <| SAs rfl <| Sn <| Cq rfl h (fun h => ?_) (fun h => ?_)
 ·refine SR <| Ak rfl <| Nl <| rt ?_
  cases h; exact Zc Tryz.results201 rfl (Zb rfl)
 ·refine sq ?_
  obtain ⟨x6, hx6, x7, hx7, h⟩ := bs2 h
  refine AR Z01 (by kernel_rfl) <| SLp Z4c rfl <| Zq rfl <| Sd (lo [19, 20] [] rfl fun S hs hr => Z04 rfl rfl Z4w (vh hs 19 rfl rfl) (vh hs 20 rfl rfl) hx6) <| SFp lFlow_1 Zdl rfl <| SLp Zm rfl <| SLp Z4c rfl <| Zq rfl <| Sd (lo [24, 25] [] rfl fun S hs hr => Z04 rfl rfl Z4w (vh hs 24 rfl rfl) (vh hs 25 rfl rfl) hx7) <| SFp lFlow_1 Zdl rfl <| SLp Zm rfl <| Sd (lo [23, 28] [] rfl fun S hs hr => Zl rfl rfl (vh hs 23 rfl rfl) (vh hs 28 rfl rfl)) <| SAs rfl <| Sn <| Cq rfl h (fun h => ?_) (fun h => ?_)
  ·refine SR <| Ak rfl <| Nl <| rt ?_
   cases h; exact Zc Tryz.results201 rfl (Zb rfl)
  ·refine sk <| SR <| Ak rfl <| Nl <| rt ?_
   cases h; exact Zc Tryz.results201 rfl (Zb rfl)
def Zd3 (a3 : Int) (x5 : (Int → Int → Option Int)) (go1 : (List Int) → Int → Option (List Int)) (i9 : Int) : Nat → (List Int) → Int → Option (List Int)
 | 0, _, _ => none
 | m15 + 1, l13, j14 => (opt (decide (j14 > a3)) (lget l13 j14)).bind fun x16 => (opt (decide (j14 > a3)) (lget l13 (IntKind.i64.wrap (j14 - 1)))).bind fun x17 => (opt (decide (j14 > a3)) (x5 x16 x17)).bind fun x18 => (bif ((decide (j14 > a3)) && (decide (x18 < 0))) then (lget l13 (IntKind.i64.wrap (j14 - 1))).bind fun x19 => (lget l13 j14).bind fun x20 => (lget l13 j14).bind fun x21 => (lget (List.set l13 j14.toNat x19) (IntKind.i64.wrap (j14 - 1))).bind fun x22 => (Zd3 a3 x5 go1 i9 m15) (List.set (List.set l13 j14.toNat x19) (IntKind.i64.wrap (j14 - 1)).toNat x20) (IntKind.i64.wrap (j14 - 1)) else go1 l13 (IntKind.i64.wrap (i9 + 1)))
def Zab (b4 : Int) (a3 : Int) (x5 : (Int → Int → Option Int)) : Nat → (List Int) → Int → Option (List Int)
 | 0, _, _ => none
 | m10 + 1, l8, i9 => (bif (decide (i9 < b4)) then Zd3 a3 x5 (Zab b4 a3 x5 m10) i9 Z2i l8 i9 else some l8)
def Zcr (d1 : (List Int)) (a3 : Int) (b4 : Int) (x5 : (Int → Int → Option Int)) : Option (List Int) :=
 Zab b4 a3 x5 (((b4 : Int) - (IntKind.i64.wrap (a3 + 1))).toNat + 1) d1 (IntKind.i64.wrap (a3 + 1))
theorem Zoi (v2 : Value) (d1 : (List Int)) (a3 : Int) (b4 : Int) (x5 : (Int → Int → Option Int)) (r : (List Int)) (h : Zcr d1 a3 b4 x5 = some r) : Con Tryz.prog 301 [Zf v2, rd (Z0 .i64) a3, rd (Z0 .i64) b4, fn2 Tryz.prog (Z0 .i64) (Z0 .i64) (Z0 .i64) x5] (Ze v2 3 (Z0 .i64) d1) (fun _ : Unit => top) (fun _ => Ze v2 3 (Z0 .i64) r) := by
 refine Con.intro Tryz.func301 rfl Tryz.ntmps301 rfl fun w H X => ?_
 unfold Zcr at h
 refine SR <| Md rfl <| Ac (Z09 rfl rfl (vt rfl) (vk rfl)) rfl <| As rfl <| Nl <| bk <| LG (d := []) (ν := Nat × (List Int) × Int) (fun (m10, l8, i9) => (True ∧ Zab b4 a3 x5 m10 l8 i9 = some r, m10, [(0, Zf v2), (1, rd (Z0 .i64) a3), (2, rd (Z0 .i64) b4), (3, fn2 Tryz.prog (Z0 .i64) (Z0 .i64) (Z0 .i64) x5), (8, rd (Z0 .i64) i9)], [(0, Ze v2 3 (Z0 .i64) l8)])) ((((b4 : Int) - (IntKind.i64.wrap (a3 + 1))).toNat + 1), d1, (IntKind.i64.wrap (a3 + 1))) ⟨trivial, h⟩ (FX rfl) ?_
 rintro ⟨m10, l8, i9⟩ ⟨hsf1, h⟩
 dsimp only at h ⊢
 cases m10 with
 | zero => cases h
 | succ m10 =>
  unfold Zab at h
  refine sq <| SR <| Md rfl <| Md rfl <| Ac (Zl rfl rfl (vt rfl) (vt rfl)) rfl <| Nl <| Cq rfl h (fun h => ?_) (fun h => ?_)
  ·refine sk <| sq <| bk <| SR <| Md rfl <| As rfl <| Nl <| bk <| LG (d := []) (ν := Nat × (List Int) × Int) (fun (m15, l13, j14) => (True ∧ Zd3 a3 x5 (Zab b4 a3 x5 m10) i9 m15 l13 j14 = some r, m15, [(0, Zf v2), (1, rd (Z0 .i64) a3), (2, rd (Z0 .i64) b4), (3, fn2 Tryz.prog (Z0 .i64) (Z0 .i64) (Z0 .i64) x5), (8, rd (Z0 .i64) i9), (9, rd (Z0 .i64) j14)], [(0, Ze v2 3 (Z0 .i64) l13)])) (Z2i, l8, i9) ⟨trivial, h⟩ (FX rfl) ?_
   rintro ⟨m15, l13, j14⟩ ⟨hsf2, h⟩
   dsimp only at h ⊢
   cases m15 with
   | zero => cases h
   | succ m15 =>
    unfold Zd3 at h
    refine sq <| sq ?_
    obtain ⟨x16, hx16, x17, hx17, x18, hx18, h⟩ := bs3 h
    refine AR Z01 (by kernel_rfl) <| Zq rfl <| Zq rfl <| Sd (lo [18, 19] [] rfl fun S hs hr => Z3o rfl rfl (vh hs 18 rfl rfl) (vh hs 19 rfl rfl)) <| Zq rfl <| Sd (lg [3, 21] [] rfl fun hq S hs hr => Zh (A := fn2 Tryz.prog (Z0 .i64) (Z0 .i64) (Z0 .i64) x5) rfl rfl (vh hs 3 rfl rfl)) <| Sd (lg [0, 21] [] rfl fun hq S hs hr => Zh (A := Zf v2) rfl rfl (vh hs 0 rfl rfl)) <| Sd (lg [9, 21] [] rfl fun hq S hs hr => Zh (A := rd (Z0 .i64) j14) rfl rfl (vh hs 9 rfl rfl)) <| Sd (lg [23, 24, 21] [0] rfl fun hq S hs hr => Z1e 0 rfl rfl Z0w (Z5 ((hs 23 rfl).trans rfl) hq) ((hr 0 rfl).trans rfl) (Z5 ((hs 24 rfl).trans rfl) hq) (Z1h hx16 hq)) <| Sd (lg [25, 21] [0] rfl fun hq S hs hr => Z0v 0 rfl rfl Zm (Z5 ((hs 25 rfl).trans rfl) hq) ((hr 0 rfl).trans rfl) (Z08 (Z1h hx16 hq)).2) <| Sd (lg [0, 21] [] rfl fun hq S hs hr => Zh (A := Zf v2) rfl rfl (vh hs 0 rfl rfl)) <| Sd (lg [9, 21] [] rfl fun hq S hs hr => Zh (A := rd (Z0 .i64) j14) rfl rfl (vh hs 9 rfl rfl)) <| Sd (lg [28, 21] [] rfl fun hq S hs hr => Z0j rfl rfl (Z5 ((hs 28 rfl).trans rfl) hq) (vk rfl)) <| Sd (lg [27, 29, 21] [0] rfl fun hq S hs hr => Z1e 0 rfl rfl Z0w (Z5 ((hs 27 rfl).trans rfl) hq) ((hr 0 rfl).trans rfl) (Z5 ((hs 29 rfl).trans rfl) hq) (Z1h hx17 hq)) <| Sd (lg [30, 21] [0] rfl fun hq S hs hr => Z0v 0 rfl rfl Zm (Z5 ((hs 30 rfl).trans rfl) hq) ((hr 0 rfl).trans rfl) (Z08 (Z1h hx17 hq)).2) <| Sd (lg [22, 26, 31, 21] [] rfl fun hq S hs hr => Z3c (Z1h hx18 hq) rfl rfl (Z5 ((hs 22 rfl).trans rfl) hq) (Z5 ((hs 26 rfl).trans rfl) hq) (Z5 ((hs 31 rfl).trans rfl) hq)) <| Sd (lg [32, 21] [] rfl fun hq S hs hr => Zl rfl rfl (Z5 ((hs 32 rfl).trans rfl) hq) (vk rfl)) <| Sd (lo [33, 21] [] rfl fun S hs hr => Z0p rfl rfl (vh hs 21 rfl rfl) (vh hs 33 rfl rfl)) <| Sn <| Cq rfl h (fun h => ?_) (fun h => ?_)
    ·refine sk <| sq <| bk <| AW.vlen 0 rfl fun hvl0_266 => ?_
     obtain ⟨x19, hx19, x20, hx20, x21, hx21, x22, hx22, h⟩ := bs4 h
     refine AR Z01 (by kernel_rfl) <| SMw rfl <| Zq rfl <| SMw rfl <| Zq rfl <| Sd (lo [40] [] rfl fun S hs hr => Z0j rfl rfl (vh hs 40 rfl rfl) (vk rfl)) <| SMw rfl <| Zq rfl <| Sd (lo [43] [] rfl fun S hs hr => Z0j rfl rfl (vh hs 43 rfl rfl) (vk rfl)) <| Sd (lo [42, 44] [] rfl fun S hs hr => Z11 (l := l13) hvl0_266 rfl rfl rfl Z0w (vh hs 42 rfl rfl) (vh hs 44 rfl rfl) hx19) <| Sd (lo [45] [0] rfl fun S hs hr => Z0v 0 rfl rfl Zm (vh hs 45 rfl rfl) ((hr 0 rfl).trans rfl) (Z08 hx19).2) <| SMw rfl <| Zq rfl <| Sd (lo [47, 48] [] rfl fun S hs hr => Z11 (l := l13) hvl0_266 rfl rfl rfl Z0w (vh hs 47 rfl rfl) (vh hs 48 rfl rfl) hx20) <| Sd (lo [49] [0] rfl fun S hs hr => Z0v 0 rfl rfl Zm (vh hs 49 rfl rfl) ((hr 0 rfl).trans rfl) (Z08 hx20).2) <| Sd (lo [37, 38] [] rfl fun S hs hr => Z11 (l := l13) hvl0_266 rfl rfl rfl Z0w (vh hs 37 rfl rfl) (vh hs 38 rfl rfl) hx21) <| Sd (Z2m [51, 46] [0] rfl fun S hs hr => Z25 0 rfl rfl Zm (vh hs 51 rfl rfl) ((hr 0 rfl).trans rfl) (Z08 hx21).2 (vh hs 46 rfl rfl)) <| Sd (lo [39, 41] [] rfl fun S hs hr => Z11 (l := (List.set l13 j14.toNat x19)) hvl0_266 (by simp) rfl rfl Z0w (vh hs 39 rfl rfl) (vh hs 41 rfl rfl) hx22) <| Sd (Z2m [52, 50] [0] rfl fun S hs hr => Z25 0 rfl rfl Zm (vh hs 52 rfl rfl) ((hr 0 rfl).trans rfl) (Z08 hx22).2 (vh hs 50 rfl rfl)) <| Sn <| Rg <| Md rfl <| Ac (Z0j rfl rfl (vt rfl) (vk rfl)) rfl <| As rfl <| Nl ?_
     exact ⟨(_, _, _), Nat.lt_succ_self _, ⟨trivial, h⟩, FX rfl⟩
    ·refine xt <| Rg <| Md rfl <| Ac (Z09 rfl rfl (vt rfl) (vk rfl)) rfl <| As rfl <| Nl ?_
     exact ⟨(_, _, _), Nat.lt_succ_self _, ⟨trivial, h⟩, FX rfl⟩
  ·refine xt ?_
   cases h; exact Z1l (i := 0) Tryz.results301 rfl rfl
def Zdq (n5 : Int) (b4 : Int) (a3 : Int) : Nat → (List Int) → Int → Option (List Int)
 | 0, _, _ => none
 | m11 + 1, l9, i10 => (bif (decide (i10 < n5)) then (lget l9 (IntKind.i64.wrap (b4 + i10))).bind fun x12 => (lget l9 (IntKind.i64.wrap (a3 + i10))).bind fun x13 => (lget l9 (IntKind.i64.wrap (a3 + i10))).bind fun x14 => (lget (List.set l9 (IntKind.i64.wrap (a3 + i10)).toNat x12) (IntKind.i64.wrap (b4 + i10))).bind fun x15 => (Zdq n5 b4 a3 m11) (List.set (List.set l9 (IntKind.i64.wrap (a3 + i10)).toNat x12) (IntKind.i64.wrap (b4 + i10)).toNat x13) (IntKind.i64.wrap (i10 + 1)) else some l9)
def Zb1 (d1 : (List Int)) (a3 : Int) (b4 : Int) (n5 : Int) (x6 : (Int → Int → Option Int)) : Option (List Int) :=
 Zdq n5 b4 a3 (((n5 : Int) - 0).toNat + 1) d1 0
theorem Zix (v2 : Value) (d1 : (List Int)) (a3 : Int) (b4 : Int) (n5 : Int) (x6 : (Int → Int → Option Int)) (r : (List Int)) (h : Zb1 d1 a3 b4 n5 x6 = some r) : Con Tryz.prog 341 [Zf v2, rd (Z0 .i64) a3, rd (Z0 .i64) b4, rd (Z0 .i64) n5, fn2 Tryz.prog (Z0 .i64) (Z0 .i64) (Z0 .i64) x6] (Ze v2 3 (Z0 .i64) d1) (fun _ : Unit => top) (fun _ => Ze v2 3 (Z0 .i64) r) := by
 refine Con.intro Tryz.func341 rfl Tryz.ntmps341 rfl fun w H X => ?_
 unfold Zb1 at h
 refine SR <| Ak rfl <| Nl <| bk <| LG (d := []) (ν := Nat × (List Int) × Int) (fun (m11, l9, i10) => (True ∧ Zdq n5 b4 a3 m11 l9 i10 = some r, m11, [(0, Zf v2), (1, rd (Z0 .i64) a3), (2, rd (Z0 .i64) b4), (3, rd (Z0 .i64) n5), (10, rd (Z0 .i64) i10)], [(0, Ze v2 3 (Z0 .i64) l9)])) ((((n5 : Int) - 0).toNat + 1), d1, 0) ⟨trivial, h⟩ (FX rfl) ?_
 rintro ⟨m11, l9, i10⟩ ⟨hsf1, h⟩
 dsimp only at h ⊢
 cases m11 with
 | zero => cases h
 | succ m11 =>
  unfold Zdq at h
  refine sq <| SR <| Md rfl <| Md rfl <| Ac (Zl rfl rfl (vt rfl) (vt rfl)) rfl <| Nl <| Cq rfl h (fun h => ?_) (fun h => ?_)
  ·refine sk <| sq <| bk <| AW.vlen 0 rfl fun hvl0_123 => ?_
   obtain ⟨x12, hx12, x13, hx13, x14, hx14, x15, hx15, h⟩ := bs4 h
   refine AR Z01 (by kernel_rfl) <| SMw rfl <| Zq rfl <| Zq rfl <| Sd (lo [17, 18] [] rfl fun S hs hr => Z09 rfl rfl (vh hs 17 rfl rfl) (vh hs 18 rfl rfl)) <| SMw rfl <| Zq rfl <| Zq rfl <| Sd (lo [21, 22] [] rfl fun S hs hr => Z09 rfl rfl (vh hs 21 rfl rfl) (vh hs 22 rfl rfl)) <| SMw rfl <| Zq rfl <| Zq rfl <| Sd (lo [25, 26] [] rfl fun S hs hr => Z09 rfl rfl (vh hs 25 rfl rfl) (vh hs 26 rfl rfl)) <| Sd (lo [24, 27] [] rfl fun S hs hr => Z11 (l := l9) hvl0_123 rfl rfl rfl Z0w (vh hs 24 rfl rfl) (vh hs 27 rfl rfl) hx12) <| Sd (lo [28] [0] rfl fun S hs hr => Z0v 0 rfl rfl Zm (vh hs 28 rfl rfl) ((hr 0 rfl).trans rfl) (Z08 hx12).2) <| SMw rfl <| Zq rfl <| Zq rfl <| Sd (lo [31, 32] [] rfl fun S hs hr => Z09 rfl rfl (vh hs 31 rfl rfl) (vh hs 32 rfl rfl)) <| Sd (lo [30, 33] [] rfl fun S hs hr => Z11 (l := l9) hvl0_123 rfl rfl rfl Z0w (vh hs 30 rfl rfl) (vh hs 33 rfl rfl) hx13) <| Sd (lo [34] [0] rfl fun S hs hr => Z0v 0 rfl rfl Zm (vh hs 34 rfl rfl) ((hr 0 rfl).trans rfl) (Z08 hx13).2) <| Sd (lo [16, 19] [] rfl fun S hs hr => Z11 (l := l9) hvl0_123 rfl rfl rfl Z0w (vh hs 16 rfl rfl) (vh hs 19 rfl rfl) hx14) <| Sd (Z2m [36, 29] [0] rfl fun S hs hr => Z25 0 rfl rfl Zm (vh hs 36 rfl rfl) ((hr 0 rfl).trans rfl) (Z08 hx14).2 (vh hs 29 rfl rfl)) <| Sd (lo [20, 23] [] rfl fun S hs hr => Z11 (l := (List.set l9 (IntKind.i64.wrap (a3 + i10)).toNat x12)) hvl0_123 (by simp) rfl rfl Z0w (vh hs 20 rfl rfl) (vh hs 23 rfl rfl) hx15) <| Sd (Z2m [37, 35] [0] rfl fun S hs hr => Z25 0 rfl rfl Zm (vh hs 37 rfl rfl) ((hr 0 rfl).trans rfl) (Z08 hx15).2 (vh hs 35 rfl rfl)) <| Sn <| Rg <| Md rfl <| Ac (Z09 rfl rfl (vt rfl) (vk rfl)) rfl <| As rfl <| Nl ?_
   exact ⟨(_, _, _), Nat.lt_succ_self _, ⟨trivial, h⟩, FX rfl⟩
  ·refine xt ?_
   cases h; exact Z1l (i := 0) Tryz.results341 rfl rfl
def Zau (m4 : Int) (x6 : (Int → Int → Option Int)) : Nat → (List Int) → Int → Int → Option (List Int)
 | 0, _, _, _ => none
 | m13 + 1, l10, i11, j12 => (bif (decide (i11 ≠ j12)) then (bif (decide (i11 > j12)) then (Zb1 l10 (IntKind.i64.wrap (m4 - i11)) m4 j12 x6).bind fun l14 => (Zau m4 x6 m13) l14 (IntKind.i64.wrap (i11 - j12)) j12 else (Zb1 l10 (IntKind.i64.wrap (m4 - i11)) (IntKind.i64.wrap ((IntKind.i64.wrap (m4 + j12)) - i11)) i11 x6).bind fun l15 => (Zau m4 x6 m13) l15 i11 (IntKind.i64.wrap (j12 - i11))) else (Zb1 l10 (IntKind.i64.wrap (m4 - i11)) m4 i11 x6).bind fun l16 => some l16)
def Zif (d1 : (List Int)) (a3 : Int) (m4 : Int) (b5 : Int) (x6 : (Int → Int → Option Int)) : Option (List Int) :=
 Zau m4 x6 Z2i d1 (IntKind.i64.wrap (m4 - a3)) (IntKind.i64.wrap (b5 - m4))
theorem Zpp (v2 : Value) (d1 : (List Int)) (a3 : Int) (m4 : Int) (b5 : Int) (x6 : (Int → Int → Option Int)) (r : (List Int)) (h : Zif d1 a3 m4 b5 x6 = some r) : Con Tryz.prog 333 [Zf v2, rd (Z0 .i64) a3, rd (Z0 .i64) m4, rd (Z0 .i64) b5, fn2 Tryz.prog (Z0 .i64) (Z0 .i64) (Z0 .i64) x6] (Ze v2 3 (Z0 .i64) d1) (fun _ : Unit => top) (fun _ => Ze v2 3 (Z0 .i64) r) := by
 refine Con.intro Tryz.func333 rfl Tryz.ntmps333 rfl fun w H X => ?_
 unfold Zif at h
 refine SR <| Md rfl <| Md rfl <| Ac (Z0j rfl rfl (vt rfl) (vt rfl)) rfl <| As rfl <| Nl <| SR <| Md rfl <| Md rfl <| Ac (Z0j rfl rfl (vt rfl) (vt rfl)) rfl <| As rfl <| Nl <| sq <| bk <| LG (d := []) (ν := Nat × (List Int) × Int × Int) (fun (m13, l10, i11, j12) => (True ∧ Zau m4 x6 m13 l10 i11 j12 = some r, m13, [(0, Zf v2), (2, rd (Z0 .i64) m4), (4, fn2 Tryz.prog (Z0 .i64) (Z0 .i64) (Z0 .i64) x6), (10, rd (Z0 .i64) i11), (11, rd (Z0 .i64) j12)], [(0, Ze v2 3 (Z0 .i64) l10)])) (Z2i, d1, (IntKind.i64.wrap (m4 - a3)), (IntKind.i64.wrap (b5 - m4))) ⟨trivial, h⟩ (FX rfl) ?_
 rintro ⟨m13, l10, i11, j12⟩ ⟨hsf1, h⟩
 dsimp only at h ⊢
 cases m13 with
 | zero => cases h
 | succ m13 =>
  unfold Zau at h
  refine sq <| SR <| Md rfl <| Md rfl <| Ac (Z24 rfl rfl (vt rfl) (vt rfl)) rfl <| Nl <| Cq rfl h (fun h => ?_) (fun h => ?_)
  ·refine sk <| bk <| SR <| Md rfl <| Md rfl <| Ac (Z3o rfl rfl (vt rfl) (vt rfl)) rfl <| Nl <| Cq rfl h (fun h => ?_) (fun h => ?_)
   ·refine sq ?_
    obtain ⟨l14, hl14, h⟩ := Z9 h
    refine Rg <| Mw rfl <| Md rfl <| Md rfl <| Ac (Z0j rfl rfl (vt rfl) (vt rfl)) rfl <| Md rfl <| Md rfl <| Ac (Zh (A := fn2 Tryz.prog (Z0 .i64) (Z0 .i64) (Z0 .i64) x6) rfl rfl (vt rfl)) rfl <| Cv rfl (Z0u 0 (xs := [.tmp 24, .tmp 27, .tmp 28, .tmp 29, .tmp 30]) (Zix _ _ _ _ _ _ _ hl14) Zh4 rfl rfl ⟨vt rfl, vt rfl, vt rfl, vt rfl, vt rfl, trivial⟩ rfl) fun _u => Nl <| Rg <| Md rfl <| Md rfl <| Ac (Z0j rfl rfl (vt rfl) (vt rfl)) rfl <| As rfl <| Nl ?_
    exact ⟨(_, _, _, _), Nat.lt_succ_self _, ⟨trivial, h⟩, FX rfl⟩
   ·refine sq ?_
    obtain ⟨l15, hl15, h⟩ := Z9 h
    refine Rg <| Mw rfl <| Md rfl <| Md rfl <| Ac (Z0j rfl rfl (vt rfl) (vt rfl)) rfl <| Md rfl <| Md rfl <| Ac (Z09 rfl rfl (vt rfl) (vt rfl)) rfl <| Md rfl <| Ac (Z0j rfl rfl (vt rfl) (vt rfl)) rfl <| Md rfl <| Ac (Zh (A := fn2 Tryz.prog (Z0 .i64) (Z0 .i64) (Z0 .i64) x6) rfl rfl (vt rfl)) rfl <| Cv rfl (Z0u 0 (xs := [.tmp 35, .tmp 38, .tmp 43, .tmp 44, .tmp 45]) (Zix _ _ _ _ _ _ _ hl15) Zh4 rfl rfl ⟨vt rfl, vt rfl, vt rfl, vt rfl, vt rfl, trivial⟩ rfl) fun _u => Nl <| Rg <| Md rfl <| Md rfl <| Ac (Z0j rfl rfl (vt rfl) (vt rfl)) rfl <| As rfl <| Nl ?_
    exact ⟨(_, _, _, _), Nat.lt_succ_self _, ⟨trivial, h⟩, FX rfl⟩
  ·refine xt ?_
   obtain ⟨l16, hl16, h⟩ := Z9 h
   refine Rg <| Mw rfl <| Md rfl <| Md rfl <| Ac (Z0j rfl rfl (vt rfl) (vt rfl)) rfl <| Md rfl <| Md rfl <| Ac (Zh (A := fn2 Tryz.prog (Z0 .i64) (Z0 .i64) (Z0 .i64) x6) rfl rfl (vt rfl)) rfl <| Cv rfl (Z0u 0 (xs := [.tmp 50, .tmp 53, .tmp 54, .tmp 55, .tmp 56]) (Zix _ _ _ _ _ _ _ hl16) Zh4 rfl rfl ⟨vt rfl, vt rfl, vt rfl, vt rfl, vt rfl, trivial⟩ rfl) fun _u => Nl ?_
   cases h; exact Z1l (i := 0) Tryz.results333 rfl rfl
def Zf2 (i9 : Int) : Nat → (List Int) → Int → Option (List Int)
 | 0, _, _ => none
 | m20 + 1, l18, k19 => (bif (decide (k19 < (IntKind.i64.wrap (i9 - 1)))) then (lget l18 (IntKind.i64.wrap (k19 + 1))).bind fun x21 => (lget l18 k19).bind fun x22 => (lget l18 k19).bind fun x23 => (lget (List.set l18 k19.toNat x21) (IntKind.i64.wrap (k19 + 1))).bind fun x24 => (Zf2 i9 m20) (List.set (List.set l18 k19.toNat x21) (IntKind.i64.wrap (k19 + 1)).toNat x22) (IntKind.i64.wrap (k19 + 1)) else some l18)
def Zav (d1 : (List Int)) (a3 : Int) (x6 : (Int → Int → Option Int)) : Nat → Int → Int → Option (List Int)
 | 0, _, _ => none
 | m11 + 1, i9, j10 => (bif (decide (i9 < j10)) then (Z2n (BitVec.ofInt 64 (IntKind.i64.wrap (i9 + j10))) ((1 : BitVec 64).toNat : Int)).bind fun q12 => (lget d1 (IntKind.i64.wrap (q12.toNat : Int))).bind fun x13 => (lget d1 a3).bind fun x14 => (x6 x13 x14).bind fun x15 => (bif (decide (x15 < 0)) then (Zav d1 a3 x6 m11) (IntKind.i64.wrap ((IntKind.i64.wrap (q12.toNat : Int)) + 1)) j10 else (Zav d1 a3 x6 m11) i9 (IntKind.i64.wrap (q12.toNat : Int))) else Zf2 i9 ((((IntKind.i64.wrap (i9 - 1)) : Int) - a3).toNat + 1) d1 a3)
def Zf5 (i27 : Int) : Nat → (List Int) → Int → Option (List Int)
 | 0, _, _ => none
 | m38 + 1, l36, k37 => (bif (decide (k37 > i27)) then (lget l36 (IntKind.i64.wrap (k37 - 1))).bind fun x39 => (lget l36 k37).bind fun x40 => (lget l36 k37).bind fun x41 => (lget (List.set l36 k37.toNat x39) (IntKind.i64.wrap (k37 - 1))).bind fun x42 => (Zf5 i27 m38) (List.set (List.set l36 k37.toNat x39) (IntKind.i64.wrap (k37 - 1)).toNat x40) (IntKind.i64.wrap (k37 - 1)) else some l36)
def Z93 (d1 : (List Int)) (m4 : Int) (x6 : (Int → Int → Option Int)) : Nat → Int → Int → Option (List Int)
 | 0, _, _ => none
 | m29 + 1, i27, j28 => (bif (decide (i27 < j28)) then (Z2n (BitVec.ofInt 64 (IntKind.i64.wrap (i27 + j28))) ((1 : BitVec 64).toNat : Int)).bind fun q30 => (lget d1 m4).bind fun x31 => (lget d1 (IntKind.i64.wrap (q30.toNat : Int))).bind fun x32 => (x6 x31 x32).bind fun x33 => (bif (!(decide (x33 < 0))) then (Z93 d1 m4 x6 m29) (IntKind.i64.wrap ((IntKind.i64.wrap (q30.toNat : Int)) + 1)) j28 else (Z93 d1 m4 x6 m29) i27 (IntKind.i64.wrap (q30.toNat : Int))) else Zf5 i27 (((m4 : Int) - i27).toNat + 1) d1 m4)
def Ze6 (q43 : (BitVec 64)) (m4 : Int) (s48 : Int) (b5 : Int) (R_slices_symMergeCmpFunc_int : ((List Int) → Int → Int → Int → (Int → Int → Option Int) → Option (List Int))) (x6 : (Int → Int → Option Int)) (l56 : (List Int)) : Option (List Int) :=
 (bif ((decide ((IntKind.i64.wrap (q43.toNat : Int)) < (IntKind.i64.wrap ((IntKind.i64.wrap ((IntKind.i64.wrap (q43.toNat : Int)) + m4)) - s48)))) && (decide ((IntKind.i64.wrap ((IntKind.i64.wrap ((IntKind.i64.wrap (q43.toNat : Int)) + m4)) - s48)) < b5))) then (R_slices_symMergeCmpFunc_int l56 (IntKind.i64.wrap (q43.toNat : Int)) (IntKind.i64.wrap ((IntKind.i64.wrap ((IntKind.i64.wrap (q43.toNat : Int)) + m4)) - s48)) b5 x6).bind fun l57 => some l57 else some l56)
def Ze1 (a3 : Int) (s48 : Int) (q43 : (BitVec 64)) (R_slices_symMergeCmpFunc_int : ((List Int) → Int → Int → Int → (Int → Int → Option Int) → Option (List Int))) (x6 : (Int → Int → Option Int)) (m4 : Int) (b5 : Int) (l55 : (List Int)) : Option (List Int) :=
 (bif ((decide (a3 < s48)) && (decide (s48 < (IntKind.i64.wrap (q43.toNat : Int))))) then (R_slices_symMergeCmpFunc_int l55 a3 s48 (IntKind.i64.wrap (q43.toNat : Int)) x6).bind fun l58 => Ze6 q43 m4 s48 b5 R_slices_symMergeCmpFunc_int x6 l58 else Ze6 q43 m4 s48 b5 R_slices_symMergeCmpFunc_int x6 l55)
def Za9 (d1 : (List Int)) (q43 : (BitVec 64)) (m4 : Int) (x6 : (Int → Int → Option Int)) (a3 : Int) (R_slices_symMergeCmpFunc_int : ((List Int) → Int → Int → Int → (Int → Int → Option Int) → Option (List Int))) (b5 : Int) : Nat → Int → Int → Option (List Int)
 | 0, _, _ => none
 | m50 + 1, s48, x49 => (bif (decide (s48 < x49)) then (Z2n (BitVec.ofInt 64 (IntKind.i64.wrap (s48 + x49))) ((1 : BitVec 64).toNat : Int)).bind fun q51 => (lget d1 (IntKind.i64.wrap ((IntKind.i64.wrap ((IntKind.i64.wrap ((IntKind.i64.wrap (q43.toNat : Int)) + m4)) - 1)) - (IntKind.i64.wrap (q51.toNat : Int))))).bind fun x52 => (lget d1 (IntKind.i64.wrap (q51.toNat : Int))).bind fun x53 => (x6 x52 x53).bind fun x54 => (bif (!(decide (x54 < 0))) then (Za9 d1 q43 m4 x6 a3 R_slices_symMergeCmpFunc_int b5 m50) (IntKind.i64.wrap ((IntKind.i64.wrap (q51.toNat : Int)) + 1)) x49 else (Za9 d1 q43 m4 x6 a3 R_slices_symMergeCmpFunc_int b5 m50) s48 (IntKind.i64.wrap (q51.toNat : Int))) else (bif ((decide (s48 < m4)) && (decide (m4 < (IntKind.i64.wrap ((IntKind.i64.wrap ((IntKind.i64.wrap (q43.toNat : Int)) + m4)) - s48))))) then (Zif d1 s48 m4 (IntKind.i64.wrap ((IntKind.i64.wrap ((IntKind.i64.wrap (q43.toNat : Int)) + m4)) - s48)) x6).bind fun l59 => Ze1 a3 s48 q43 R_slices_symMergeCmpFunc_int x6 m4 b5 l59 else Ze1 a3 s48 q43 R_slices_symMergeCmpFunc_int x6 m4 b5 d1))
def Zdk (d1 : (List Int)) (q43 : (BitVec 64)) (m4 : Int) (x6 : (Int → Int → Option Int)) (a3 : Int) (R_slices_symMergeCmpFunc_int : ((List Int) → Int → Int → Int → (Int → Int → Option Int) → Option (List Int))) (b5 : Int) (s44 : Int) (x45 : Int) : Option (List Int) :=
 Za9 d1 q43 m4 x6 a3 R_slices_symMergeCmpFunc_int b5 (((x45 : Int) - s44).toNat + 1) s44 x45
def Zgf (R_slices_symMergeCmpFunc_int : ((List Int) → Int → Int → Int → (Int → Int → Option Int) → Option (List Int))) (d1 : (List Int)) (a3 : Int) (m4 : Int) (b5 : Int) (x6 : (Int → Int → Option Int)) : Option (List Int) :=
 (bif (decide ((IntKind.i64.wrap (m4 - a3)) = 1)) then Zav d1 a3 x6 (((b5 : Int) - m4).toNat + 1) m4 b5 else (bif (decide ((IntKind.i64.wrap (b5 - m4)) = 1)) then Z93 d1 m4 x6 (((m4 : Int) - a3).toNat + 1) a3 m4 else (Z2n (BitVec.ofInt 64 (IntKind.i64.wrap (a3 + b5))) ((1 : BitVec 64).toNat : Int)).bind fun q43 => (bif (decide (m4 > (IntKind.i64.wrap (q43.toNat : Int)))) then Zdk d1 q43 m4 x6 a3 R_slices_symMergeCmpFunc_int b5 (IntKind.i64.wrap ((IntKind.i64.wrap ((IntKind.i64.wrap (q43.toNat : Int)) + m4)) - b5)) (IntKind.i64.wrap (q43.toNat : Int)) else Zdk d1 q43 m4 x6 a3 R_slices_symMergeCmpFunc_int b5 a3 m4)))
theorem Zqh (R_slices_symMergeCmpFunc_int : ((List Int) → Int → Int → Int → (Int → Int → Option Int) → Option (List Int))) (hR_slices_symMergeCmpFunc_int : ∀ (v2 : Value) (d1 : (List Int)) (a3 : Int) (m4 : Int) (b5 : Int) (x6 : (Int → Int → Option Int)) (r : (List Int)), R_slices_symMergeCmpFunc_int d1 a3 m4 b5 x6 = some r → Con Tryz.prog 302 [Zf v2, rd (Z0 .i64) a3, rd (Z0 .i64) m4, rd (Z0 .i64) b5, fn2 Tryz.prog (Z0 .i64) (Z0 .i64) (Z0 .i64) x6] (Ze v2 3 (Z0 .i64) d1) (fun _ : Unit => top) (fun _ => Ze v2 3 (Z0 .i64) r)) (v2 : Value) (d1 : (List Int)) (a3 : Int) (m4 : Int) (b5 : Int) (x6 : (Int → Int → Option Int)) (r : (List Int)) (h : Zgf R_slices_symMergeCmpFunc_int d1 a3 m4 b5 x6 = some r) : Con Tryz.prog 302 [Zf v2, rd (Z0 .i64) a3, rd (Z0 .i64) m4, rd (Z0 .i64) b5, fn2 Tryz.prog (Z0 .i64) (Z0 .i64) (Z0 .i64) x6] (Ze v2 3 (Z0 .i64) d1) (fun _ : Unit => top) (fun _ => Ze v2 3 (Z0 .i64) r) := by
 refine Con.intro Tryz.func302 rfl Tryz.ntmps302 rfl fun w H X => ?_
 unfold Zgf at h
 refine sq <| SR <| Md rfl <| Md rfl <| Ac (Z0j rfl rfl (vt rfl) (vt rfl)) rfl <| Ac (Z0z rfl rfl (vt rfl) (vk rfl)) rfl <| Nl <| Cq rfl h (fun h => ?_) (fun h => ?_)
 ·refine SR <| Md rfl <| As rfl <| Nl <| SR <| Md rfl <| As rfl <| Nl <| sq <| bk <| LG (d := []) (ν := Nat × Int × Int) (fun (m11, i9, j10) => (True ∧ Zav d1 a3 x6 m11 i9 j10 = some r, m11, [(0, Zf v2), (1, rd (Z0 .i64) a3), (4, fn2 Tryz.prog (Z0 .i64) (Z0 .i64) (Z0 .i64) x6), (10, rd (Z0 .i64) i9), (11, rd (Z0 .i64) j10)], [(0, Ze v2 3 (Z0 .i64) d1)])) ((((b5 : Int) - m4).toNat + 1), m4, b5) ⟨trivial, h⟩ (FX rfl) ?_
  rintro ⟨m11, i9, j10⟩ ⟨hsf1, h⟩
  dsimp only at h ⊢
  cases m11 with
  | zero => cases h
  | succ m11 =>
   unfold Zav at h
   refine sq <| SR <| Md rfl <| Md rfl <| Ac (Zl rfl rfl (vt rfl) (vt rfl)) rfl <| Nl <| Cq rfl h (fun h => ?_) (fun h => ?_)
   ·refine sk <| bk <| sq ?_
    obtain ⟨q12, hq12, h⟩ := Z9 h
    refine Rg <| Md rfl <| Md rfl <| Ac (Z09 rfl rfl (vt rfl) (vt rfl)) rfl <| Ac (Z5v rfl rfl us3 Z5j (vt rfl)) rfl <| Ac (Z32 rfl rfl (vt rfl) (Z33 (vku (1 : BitVec 64) rfl)) hq12) rfl <| Ac (Z4l rfl rfl Z5p un3 (vt rfl)) rfl <| As rfl <| Nl <| sq ?_
    obtain ⟨x13, hx13, x14, hx14, x15, hx15, h⟩ := bs3 h
    refine AR Z01 (by kernel_rfl) <| Sd (lo [4] [] rfl fun S hs hr => Zh (A := fn2 Tryz.prog (Z0 .i64) (Z0 .i64) (Z0 .i64) x6) rfl rfl (vh hs 4 rfl rfl)) <| SMw rfl <| Zq rfl <| Sd (lo [41, 42] [0] rfl fun S hs hr => Z1e 0 rfl rfl Z0w (vh hs 41 rfl rfl) ((hr 0 rfl).trans rfl) (vh hs 42 rfl rfl) hx13) <| Sd (lo [43] [0] rfl fun S hs hr => Z0v 0 rfl rfl Zm (vh hs 43 rfl rfl) ((hr 0 rfl).trans rfl) (Z08 hx13).2) <| SMw rfl <| Zq rfl <| Sd (lo [45, 46] [0] rfl fun S hs hr => Z1e 0 rfl rfl Z0w (vh hs 45 rfl rfl) ((hr 0 rfl).trans rfl) (vh hs 46 rfl rfl) hx14) <| Sd (lo [47] [0] rfl fun S hs hr => Z0v 0 rfl rfl Zm (vh hs 47 rfl rfl) ((hr 0 rfl).trans rfl) (Z08 hx14).2) <| Sd (lo [40, 44, 48] [] rfl fun S hs hr => Z3c hx15 rfl rfl (vh hs 40 rfl rfl) (vh hs 44 rfl rfl) (vh hs 48 rfl rfl)) <| Sd (lo [49] [] rfl fun S hs hr => Zl rfl rfl (vh hs 49 rfl rfl) (vk rfl)) <| Sn <| Cq rfl h (fun h => ?_) (fun h => ?_)
    ·refine Rg <| Md rfl <| Ac (Z09 rfl rfl (vt rfl) (vk rfl)) rfl <| As rfl <| Nl ?_
     exact ⟨(_, _, _), Nat.lt_succ_self _, ⟨trivial, h⟩, FX rfl⟩
    ·refine Rg <| Md rfl <| As rfl <| Nl ?_
     exact ⟨(_, _, _), Nat.lt_succ_self _, ⟨trivial, h⟩, FX rfl⟩
   ·refine xt <| sq <| SR <| Md rfl <| As rfl <| Nl <| bk <| LG (d := []) (ν := Nat × (List Int) × Int) (fun (m20, l18, k19) => (True ∧ Zf2 i9 m20 l18 k19 = some r, m20, [(0, Zf v2), (10, rd (Z0 .i64) i9), (13, rd (Z0 .i64) k19)], [(0, Ze v2 3 (Z0 .i64) l18)])) (((((IntKind.i64.wrap (i9 - 1)) : Int) - a3).toNat + 1), d1, a3) ⟨trivial, h⟩ (FX rfl) ?_
    rintro ⟨m20, l18, k19⟩ ⟨hsf2, h⟩
    dsimp only at h ⊢
    cases m20 with
    | zero => cases h
    | succ m20 =>
     unfold Zf2 at h
     refine sq <| SR <| Md rfl <| Md rfl <| Ac (Z0j rfl rfl (vt rfl) (vk rfl)) rfl <| Ac (Zl rfl rfl (vt rfl) (vt rfl)) rfl <| Nl <| Cq rfl h (fun h => ?_) (fun h => ?_)
     ·refine sk <| sq <| bk <| AW.vlen 0 rfl fun hvl0_205 => ?_
      obtain ⟨x21, hx21, x22, hx22, x23, hx23, x24, hx24, h⟩ := bs4 h
      refine AR Z01 (by kernel_rfl) <| SMw rfl <| Zq rfl <| SMw rfl <| Zq rfl <| Sd (lo [64] [] rfl fun S hs hr => Z09 rfl rfl (vh hs 64 rfl rfl) (vk rfl)) <| SMw rfl <| Zq rfl <| Sd (lo [67] [] rfl fun S hs hr => Z09 rfl rfl (vh hs 67 rfl rfl) (vk rfl)) <| Sd (lo [66, 68] [] rfl fun S hs hr => Z11 (l := l18) hvl0_205 rfl rfl rfl Z0w (vh hs 66 rfl rfl) (vh hs 68 rfl rfl) hx21) <| Sd (lo [69] [0] rfl fun S hs hr => Z0v 0 rfl rfl Zm (vh hs 69 rfl rfl) ((hr 0 rfl).trans rfl) (Z08 hx21).2) <| SMw rfl <| Zq rfl <| Sd (lo [71, 72] [] rfl fun S hs hr => Z11 (l := l18) hvl0_205 rfl rfl rfl Z0w (vh hs 71 rfl rfl) (vh hs 72 rfl rfl) hx22) <| Sd (lo [73] [0] rfl fun S hs hr => Z0v 0 rfl rfl Zm (vh hs 73 rfl rfl) ((hr 0 rfl).trans rfl) (Z08 hx22).2) <| Sd (lo [61, 62] [] rfl fun S hs hr => Z11 (l := l18) hvl0_205 rfl rfl rfl Z0w (vh hs 61 rfl rfl) (vh hs 62 rfl rfl) hx23) <| Sd (Z2m [75, 70] [0] rfl fun S hs hr => Z25 0 rfl rfl Zm (vh hs 75 rfl rfl) ((hr 0 rfl).trans rfl) (Z08 hx23).2 (vh hs 70 rfl rfl)) <| Sd (lo [63, 65] [] rfl fun S hs hr => Z11 (l := (List.set l18 k19.toNat x21)) hvl0_205 (by simp) rfl rfl Z0w (vh hs 63 rfl rfl) (vh hs 65 rfl rfl) hx24) <| Sd (Z2m [76, 74] [0] rfl fun S hs hr => Z25 0 rfl rfl Zm (vh hs 76 rfl rfl) ((hr 0 rfl).trans rfl) (Z08 hx24).2 (vh hs 74 rfl rfl)) <| Sn <| Rg <| Md rfl <| Ac (Z09 rfl rfl (vt rfl) (vk rfl)) rfl <| As rfl <| Nl ?_
      exact ⟨(_, _, _), Nat.lt_succ_self _, ⟨trivial, h⟩, FX rfl⟩
     ·refine xt <| rt ?_
      cases h; exact Z1l (i := 0) Tryz.results302 rfl rfl
 ·refine sk <| sq <| SR <| Md rfl <| Md rfl <| Ac (Z0j rfl rfl (vt rfl) (vt rfl)) rfl <| Ac (Z0z rfl rfl (vt rfl) (vk rfl)) rfl <| Nl <| Cq rfl h (fun h => ?_) (fun h => ?_)
  ·refine SR <| Md rfl <| As rfl <| Nl <| SR <| Md rfl <| As rfl <| Nl <| sq <| bk <| LG (d := []) (ν := Nat × Int × Int) (fun (m29, i27, j28) => (True ∧ Z93 d1 m4 x6 m29 i27 j28 = some r, m29, [(0, Zf v2), (2, rd (Z0 .i64) m4), (4, fn2 Tryz.prog (Z0 .i64) (Z0 .i64) (Z0 .i64) x6), (14, rd (Z0 .i64) i27), (15, rd (Z0 .i64) j28)], [(0, Ze v2 3 (Z0 .i64) d1)])) ((((m4 : Int) - a3).toNat + 1), a3, m4) ⟨trivial, h⟩ (FX rfl) ?_
   rintro ⟨m29, i27, j28⟩ ⟨hsf3, h⟩
   dsimp only at h ⊢
   cases m29 with
   | zero => cases h
   | succ m29 =>
    unfold Z93 at h
    refine sq <| SR <| Md rfl <| Md rfl <| Ac (Zl rfl rfl (vt rfl) (vt rfl)) rfl <| Nl <| Cq rfl h (fun h => ?_) (fun h => ?_)
    ·refine sk <| bk <| sq ?_
     obtain ⟨q30, hq30, h⟩ := Z9 h
     refine Rg <| Md rfl <| Md rfl <| Ac (Z09 rfl rfl (vt rfl) (vt rfl)) rfl <| Ac (Z5v rfl rfl us3 Z5j (vt rfl)) rfl <| Ac (Z32 rfl rfl (vt rfl) (Z33 (vku (1 : BitVec 64) rfl)) hq30) rfl <| Ac (Z4l rfl rfl Z5p un3 (vt rfl)) rfl <| As rfl <| Nl <| sq ?_
     obtain ⟨x31, hx31, x32, hx32, x33, hx33, h⟩ := bs3 h
     refine AR Z01 (by kernel_rfl) <| Sd (lo [4] [] rfl fun S hs hr => Zh (A := fn2 Tryz.prog (Z0 .i64) (Z0 .i64) (Z0 .i64) x6) rfl rfl (vh hs 4 rfl rfl)) <| SMw rfl <| Zq rfl <| Sd (lo [93, 94] [0] rfl fun S hs hr => Z1e 0 rfl rfl Z0w (vh hs 93 rfl rfl) ((hr 0 rfl).trans rfl) (vh hs 94 rfl rfl) hx31) <| Sd (lo [95] [0] rfl fun S hs hr => Z0v 0 rfl rfl Zm (vh hs 95 rfl rfl) ((hr 0 rfl).trans rfl) (Z08 hx31).2) <| SMw rfl <| Zq rfl <| Sd (lo [97, 98] [0] rfl fun S hs hr => Z1e 0 rfl rfl Z0w (vh hs 97 rfl rfl) ((hr 0 rfl).trans rfl) (vh hs 98 rfl rfl) hx32) <| Sd (lo [99] [0] rfl fun S hs hr => Z0v 0 rfl rfl Zm (vh hs 99 rfl rfl) ((hr 0 rfl).trans rfl) (Z08 hx32).2) <| Sd (lo [92, 96, 100] [] rfl fun S hs hr => Z3c hx33 rfl rfl (vh hs 92 rfl rfl) (vh hs 96 rfl rfl) (vh hs 100 rfl rfl)) <| Sd (lo [101] [] rfl fun S hs hr => Zl rfl rfl (vh hs 101 rfl rfl) (vk rfl)) <| Sd (lo [102] [] rfl fun S hs hr => Z0m rfl rfl (vh hs 102 rfl rfl)) <| Sn <| Cq rfl h (fun h => ?_) (fun h => ?_)
     ·refine Rg <| Md rfl <| Ac (Z09 rfl rfl (vt rfl) (vk rfl)) rfl <| As rfl <| Nl ?_
      exact ⟨(_, _, _), Nat.lt_succ_self _, ⟨trivial, h⟩, FX rfl⟩
     ·refine Rg <| Md rfl <| As rfl <| Nl ?_
      exact ⟨(_, _, _), Nat.lt_succ_self _, ⟨trivial, h⟩, FX rfl⟩
    ·refine xt <| sq <| SR <| Md rfl <| As rfl <| Nl <| bk <| LG (d := []) (ν := Nat × (List Int) × Int) (fun (m38, l36, k37) => (True ∧ Zf5 i27 m38 l36 k37 = some r, m38, [(0, Zf v2), (14, rd (Z0 .i64) i27), (17, rd (Z0 .i64) k37)], [(0, Ze v2 3 (Z0 .i64) l36)])) ((((m4 : Int) - i27).toNat + 1), d1, m4) ⟨trivial, h⟩ (FX rfl) ?_
     rintro ⟨m38, l36, k37⟩ ⟨hsf4, h⟩
     dsimp only at h ⊢
     cases m38 with
     | zero => cases h
     | succ m38 =>
      unfold Zf5 at h
      refine sq <| SR <| Md rfl <| Md rfl <| Ac (Z3o rfl rfl (vt rfl) (vt rfl)) rfl <| Nl <| Cq rfl h (fun h => ?_) (fun h => ?_)
      ·refine sk <| sq <| bk <| AW.vlen 0 rfl fun hvl0_446 => ?_
       obtain ⟨x39, hx39, x40, hx40, x41, hx41, x42, hx42, h⟩ := bs4 h
       refine AR Z01 (by kernel_rfl) <| SMw rfl <| Zq rfl <| SMw rfl <| Zq rfl <| Sd (lo [116] [] rfl fun S hs hr => Z0j rfl rfl (vh hs 116 rfl rfl) (vk rfl)) <| SMw rfl <| Zq rfl <| Sd (lo [119] [] rfl fun S hs hr => Z0j rfl rfl (vh hs 119 rfl rfl) (vk rfl)) <| Sd (lo [118, 120] [] rfl fun S hs hr => Z11 (l := l36) hvl0_446 rfl rfl rfl Z0w (vh hs 118 rfl rfl) (vh hs 120 rfl rfl) hx39) <| Sd (lo [121] [0] rfl fun S hs hr => Z0v 0 rfl rfl Zm (vh hs 121 rfl rfl) ((hr 0 rfl).trans rfl) (Z08 hx39).2) <| SMw rfl <| Zq rfl <| Sd (lo [123, 124] [] rfl fun S hs hr => Z11 (l := l36) hvl0_446 rfl rfl rfl Z0w (vh hs 123 rfl rfl) (vh hs 124 rfl rfl) hx40) <| Sd (lo [125] [0] rfl fun S hs hr => Z0v 0 rfl rfl Zm (vh hs 125 rfl rfl) ((hr 0 rfl).trans rfl) (Z08 hx40).2) <| Sd (lo [113, 114] [] rfl fun S hs hr => Z11 (l := l36) hvl0_446 rfl rfl rfl Z0w (vh hs 113 rfl rfl) (vh hs 114 rfl rfl) hx41) <| Sd (Z2m [127, 122] [0] rfl fun S hs hr => Z25 0 rfl rfl Zm (vh hs 127 rfl rfl) ((hr 0 rfl).trans rfl) (Z08 hx41).2 (vh hs 122 rfl rfl)) <| Sd (lo [115, 117] [] rfl fun S hs hr => Z11 (l := (List.set l36 k37.toNat x39)) hvl0_446 (by simp) rfl rfl Z0w (vh hs 115 rfl rfl) (vh hs 117 rfl rfl) hx42) <| Sd (Z2m [128, 126] [0] rfl fun S hs hr => Z25 0 rfl rfl Zm (vh hs 128 rfl rfl) ((hr 0 rfl).trans rfl) (Z08 hx42).2 (vh hs 126 rfl rfl)) <| Sn <| Rg <| Md rfl <| Ac (Z0j rfl rfl (vt rfl) (vk rfl)) rfl <| As rfl <| Nl ?_
       exact ⟨(_, _, _), Nat.lt_succ_self _, ⟨trivial, h⟩, FX rfl⟩
      ·refine xt <| rt ?_
       cases h; exact Z1l (i := 0) Tryz.results302 rfl rfl
  ·refine sk <| sq ?_
   obtain ⟨q43, hq43, h⟩ := Z9 h
   refine Rg <| Md rfl <| Md rfl <| Ac (Z09 rfl rfl (vt rfl) (vt rfl)) rfl <| Ac (Z5v rfl rfl us3 Z5j (vt rfl)) rfl <| Ac (Z32 rfl rfl (vt rfl) (Z33 (vku (1 : BitVec 64) rfl)) hq43) rfl <| Ac (Z4l rfl rfl Z5p un3 (vt rfl)) rfl <| As rfl <| Nl <| SR <| Md rfl <| Md rfl <| Ac (Z09 rfl rfl (vt rfl) (vt rfl)) rfl <| As rfl <| Nl <| SR <| Ak rfl <| Ak rfl <| Nl ?_
   refine JN (d := []) (ν := Int × Int) (fun (s44, x45) => (Zdk d1 q43 m4 x6 a3 R_slices_symMergeCmpFunc_int b5 s44 x45 = some r, [(0, Zf v2), (1, rd (Z0 .i64) a3), (2, rd (Z0 .i64) m4), (3, rd (Z0 .i64) b5), (4, fn2 Tryz.prog (Z0 .i64) (Z0 .i64) (Z0 .i64) x6), (18, rd (Z0 .i64) (IntKind.i64.wrap (q43.toNat : Int))), (19, rd (Z0 .i64) (IntKind.i64.wrap ((IntKind.i64.wrap (q43.toNat : Int)) + m4))), (20, rd (Z0 .i64) s44), (21, rd (Z0 .i64) x45)], [(0, Ze v2 3 (Z0 .i64) d1)])) ?hx5 ?hy5
   case hy5 =>
    rintro ⟨s44, x45⟩ h
    dsimp only at h ⊢
    unfold Zdk at h
    refine SR <| Md rfl <| Ac (Z0j rfl rfl (vt rfl) (vk rfl)) rfl <| As rfl <| Nl <| sq <| bk <| LG (d := []) (ν := Nat × Int × Int) (fun (m50, s48, x49) => (True ∧ Za9 d1 q43 m4 x6 a3 R_slices_symMergeCmpFunc_int b5 m50 s48 x49 = some r, m50, [(0, Zf v2), (1, rd (Z0 .i64) a3), (2, rd (Z0 .i64) m4), (3, rd (Z0 .i64) b5), (4, fn2 Tryz.prog (Z0 .i64) (Z0 .i64) (Z0 .i64) x6), (18, rd (Z0 .i64) (IntKind.i64.wrap (q43.toNat : Int))), (19, rd (Z0 .i64) (IntKind.i64.wrap ((IntKind.i64.wrap (q43.toNat : Int)) + m4))), (20, rd (Z0 .i64) s48), (21, rd (Z0 .i64) x49), (22, rd (Z0 .i64) (IntKind.i64.wrap ((IntKind.i64.wrap ((IntKind.i64.wrap (q43.toNat : Int)) + m4)) - 1)))], [(0, Ze v2 3 (Z0 .i64) d1)])) ((((x45 : Int) - s44).toNat + 1), s44, x45) ⟨trivial, h⟩ (FX rfl) ?_
    rintro ⟨m50, s48, x49⟩ ⟨hsf6, h⟩
    dsimp only at h ⊢
    cases m50 with
    | zero => cases h
    | succ m50 =>
     unfold Za9 at h
     refine sq <| SR <| Md rfl <| Md rfl <| Ac (Zl rfl rfl (vt rfl) (vt rfl)) rfl <| Nl <| Cq rfl h (fun h => ?_) (fun h => ?_)
     ·refine sk <| bk <| sq ?_
      obtain ⟨q51, hq51, h⟩ := Z9 h
      refine Rg <| Md rfl <| Md rfl <| Ac (Z09 rfl rfl (vt rfl) (vt rfl)) rfl <| Ac (Z5v rfl rfl us3 Z5j (vt rfl)) rfl <| Ac (Z32 rfl rfl (vt rfl) (Z33 (vku (1 : BitVec 64) rfl)) hq51) rfl <| Ac (Z4l rfl rfl Z5p un3 (vt rfl)) rfl <| As rfl <| Nl <| sq ?_
      obtain ⟨x52, hx52, x53, hx53, x54, hx54, h⟩ := bs3 h
      refine AR Z01 (by kernel_rfl) <| Sd (lo [4] [] rfl fun S hs hr => Zh (A := fn2 Tryz.prog (Z0 .i64) (Z0 .i64) (Z0 .i64) x6) rfl rfl (vh hs 4 rfl rfl)) <| SMw rfl <| Zq rfl <| Zq rfl <| Sd (lo [160, 161] [] rfl fun S hs hr => Z0j rfl rfl (vh hs 160 rfl rfl) (vh hs 161 rfl rfl)) <| Sd (lo [159, 162] [0] rfl fun S hs hr => Z1e 0 rfl rfl Z0w (vh hs 159 rfl rfl) ((hr 0 rfl).trans rfl) (vh hs 162 rfl rfl) hx52) <| Sd (lo [163] [0] rfl fun S hs hr => Z0v 0 rfl rfl Zm (vh hs 163 rfl rfl) ((hr 0 rfl).trans rfl) (Z08 hx52).2) <| SMw rfl <| Zq rfl <| Sd (lo [165, 166] [0] rfl fun S hs hr => Z1e 0 rfl rfl Z0w (vh hs 165 rfl rfl) ((hr 0 rfl).trans rfl) (vh hs 166 rfl rfl) hx53) <| Sd (lo [167] [0] rfl fun S hs hr => Z0v 0 rfl rfl Zm (vh hs 167 rfl rfl) ((hr 0 rfl).trans rfl) (Z08 hx53).2) <| Sd (lo [158, 164, 168] [] rfl fun S hs hr => Z3c hx54 rfl rfl (vh hs 158 rfl rfl) (vh hs 164 rfl rfl) (vh hs 168 rfl rfl)) <| Sd (lo [169] [] rfl fun S hs hr => Zl rfl rfl (vh hs 169 rfl rfl) (vk rfl)) <| Sd (lo [170] [] rfl fun S hs hr => Z0m rfl rfl (vh hs 170 rfl rfl)) <| Sn <| Cq rfl h (fun h => ?_) (fun h => ?_)
      ·refine Rg <| Md rfl <| Ac (Z09 rfl rfl (vt rfl) (vk rfl)) rfl <| As rfl <| Nl ?_
       exact ⟨(_, _, _), Nat.lt_succ_self _, ⟨trivial, h⟩, FX rfl⟩
      ·refine Rg <| Md rfl <| As rfl <| Nl ?_
       exact ⟨(_, _, _), Nat.lt_succ_self _, ⟨trivial, h⟩, FX rfl⟩
     ·refine xt <| SR <| Md rfl <| Md rfl <| Ac (Z0j rfl rfl (vt rfl) (vt rfl)) rfl <| As rfl <| Nl ?_
      refine JN (d := []) (ν := (List Int)) (fun l55 => (Ze1 a3 s48 q43 R_slices_symMergeCmpFunc_int x6 m4 b5 l55 = some r, [(0, Zf v2), (1, rd (Z0 .i64) a3), (3, rd (Z0 .i64) b5), (4, fn2 Tryz.prog (Z0 .i64) (Z0 .i64) (Z0 .i64) x6), (18, rd (Z0 .i64) (IntKind.i64.wrap (q43.toNat : Int))), (20, rd (Z0 .i64) s48), (24, rd (Z0 .i64) (IntKind.i64.wrap ((IntKind.i64.wrap ((IntKind.i64.wrap (q43.toNat : Int)) + m4)) - s48)))], [(0, Ze v2 3 (Z0 .i64) l55)])) ?hx7 ?hy7
      case hy7 =>
       intro l55 h
       dsimp only at h ⊢
       unfold Ze1 at h
       refine JN (d := []) (ν := (List Int)) (fun l56 => (Ze6 q43 m4 s48 b5 R_slices_symMergeCmpFunc_int x6 l56 = some r, [(0, Zf v2), (3, rd (Z0 .i64) b5), (4, fn2 Tryz.prog (Z0 .i64) (Z0 .i64) (Z0 .i64) x6), (18, rd (Z0 .i64) (IntKind.i64.wrap (q43.toNat : Int))), (24, rd (Z0 .i64) (IntKind.i64.wrap ((IntKind.i64.wrap ((IntKind.i64.wrap (q43.toNat : Int)) + m4)) - s48)))], [(0, Ze v2 3 (Z0 .i64) l56)])) ?hx8 ?hy8
       case hy8 =>
        intro l56 h
        dsimp only at h ⊢
        unfold Ze6 at h
        refine SR <| Md rfl <| Md rfl <| Ac (Zl rfl rfl (vt rfl) (vt rfl)) rfl <| Md rfl <| Gd rfl (fun hq => Zh (A := rd (Z0 .i64) (IntKind.i64.wrap ((IntKind.i64.wrap ((IntKind.i64.wrap (q43.toNat : Int)) + m4)) - s48))) rfl rfl (vt rfl)) <| Gd rfl (fun hq => Zh (A := rd (Z0 .i64) b5) rfl rfl (vt rfl)) <| Gd rfl (fun hq => Zl rfl rfl (Z5 rfl hq) (Z5 rfl hq)) <| Ac (Z0p rfl rfl (vt rfl) (vt rfl)) rfl <| Nl <| Cq rfl h (fun h => ?_) (fun h => ?_)
        ·obtain ⟨l57, hl57, h⟩ := Z9 h
         refine Rg <| Mw rfl <| Md rfl <| Md rfl <| Md rfl <| Ac (Zh (A := fn2 Tryz.prog (Z0 .i64) (Z0 .i64) (Z0 .i64) x6) rfl rfl (vt rfl)) rfl <| Cv rfl (Z0u 0 (xs := [.tmp 214, .tmp 215, .tmp 216, .tmp 217, .tmp 218]) (hR_slices_symMergeCmpFunc_int _ _ _ _ _ _ _ hl57) Zdu rfl rfl ⟨vt rfl, vt rfl, vt rfl, vt rfl, vt rfl, trivial⟩ rfl) fun _u => Nl ?_
         cases h; exact Z1l (i := 0) Tryz.results302 rfl rfl
        ·refine sk ?_
         cases h; exact Z1l (i := 0) Tryz.results302 rfl rfl
       case hx8 =>
        refine SR <| Md rfl <| Md rfl <| Ac (Zl rfl rfl (vt rfl) (vt rfl)) rfl <| Md rfl <| Gd rfl (fun hq => Zh (A := rd (Z0 .i64) s48) rfl rfl (vt rfl)) <| Gd rfl (fun hq => Zh (A := rd (Z0 .i64) (IntKind.i64.wrap (q43.toNat : Int))) rfl rfl (vt rfl)) <| Gd rfl (fun hq => Zl rfl rfl (Z5 rfl hq) (Z5 rfl hq)) <| Ac (Z0p rfl rfl (vt rfl) (vt rfl)) rfl <| Nl <| Cq rfl h (fun h => ?_) (fun h => ?_)
        ·obtain ⟨l58, hl58, h⟩ := Z9 h
         refine Rg <| Mw rfl <| Md rfl <| Md rfl <| Md rfl <| Ac (Zh (A := fn2 Tryz.prog (Z0 .i64) (Z0 .i64) (Z0 .i64) x6) rfl rfl (vt rfl)) rfl <| Cv rfl (Z0u 0 (xs := [.tmp 200, .tmp 201, .tmp 202, .tmp 203, .tmp 204]) (hR_slices_symMergeCmpFunc_int _ _ _ _ _ _ _ hl58) Zdu rfl rfl ⟨vt rfl, vt rfl, vt rfl, vt rfl, vt rfl, trivial⟩ rfl) fun _u => Nl ?_
         exact ⟨_, h, FX rfl⟩
        ·refine sk ?_
         exact ⟨_, h, FX rfl⟩
      case hx7 =>
       refine SR <| Md rfl <| Md rfl <| Ac (Zl rfl rfl (vt rfl) (vt rfl)) rfl <| Md rfl <| Gd rfl (fun hq => Zh (A := rd (Z0 .i64) m4) rfl rfl (vt rfl)) <| Gd rfl (fun hq => Zh (A := rd (Z0 .i64) (IntKind.i64.wrap ((IntKind.i64.wrap ((IntKind.i64.wrap (q43.toNat : Int)) + m4)) - s48))) rfl rfl (vt rfl)) <| Gd rfl (fun hq => Zl rfl rfl (Z5 rfl hq) (Z5 rfl hq)) <| Ac (Z0p rfl rfl (vt rfl) (vt rfl)) rfl <| Nl <| Cq rfl h (fun h => ?_) (fun h => ?_)
       ·obtain ⟨l59, hl59, h⟩ := Z9 h
        refine Rg <| Mw rfl <| Md rfl <| Md rfl <| Md rfl <| Ac (Zh (A := fn2 Tryz.prog (Z0 .i64) (Z0 .i64) (Z0 .i64) x6) rfl rfl (vt rfl)) rfl <| Cv rfl (Z0u 0 (xs := [.tmp 186, .tmp 187, .tmp 188, .tmp 189, .tmp 190]) (Zpp _ _ _ _ _ _ _ hl59) Zsr rfl rfl ⟨vt rfl, vt rfl, vt rfl, vt rfl, vt rfl, trivial⟩ rfl) fun _u => Nl ?_
        exact ⟨_, h, FX rfl⟩
       ·refine sk ?_
        exact ⟨_, h, FX rfl⟩
   case hx5 =>
    refine SR <| Md rfl <| Md rfl <| Ac (Z3o rfl rfl (vt rfl) (vt rfl)) rfl <| Nl <| Cq rfl h (fun h => ?_) (fun h => ?_)
    ·refine SR <| Md rfl <| Md rfl <| Ac (Z0j rfl rfl (vt rfl) (vt rfl)) rfl <| As rfl <| Nl <| Rg <| Md rfl <| As rfl <| Nl ?_
     exact ⟨(_, _), h, FX rfl⟩
    ·refine SR <| Md rfl <| As rfl <| Nl <| Rg <| Md rfl <| As rfl <| Nl ?_
     exact ⟨(_, _), h, FX rfl⟩
def Ze7 : Nat → ((List Int) → Int → Int → Int → (Int → Int → Option Int) → Option (List Int))
 | 0 => (fun _ _ _ _ _ => none)
 | n + 1 => (Zgf (Ze7 n))
theorem Zk4 : ∀ n : Nat, (∀ (v2 : Value) (d1 : (List Int)) (a3 : Int) (m4 : Int) (b5 : Int) (x6 : (Int → Int → Option Int)) (r : (List Int)), (Ze7 n) d1 a3 m4 b5 x6 = some r → Con Tryz.prog 302 [Zf v2, rd (Z0 .i64) a3, rd (Z0 .i64) m4, rd (Z0 .i64) b5, fn2 Tryz.prog (Z0 .i64) (Z0 .i64) (Z0 .i64) x6] (Ze v2 3 (Z0 .i64) d1) (fun _ : Unit => top) (fun _ => Ze v2 3 (Z0 .i64) r))
 | 0 => (by intros; rename_i h; cases h)
 | n + 1 => by
  have ih := Zk4 n
  exact (Zqh (Ze7 n) ih)
def Zj5 (d1 : (List Int)) (a3 : Int) (m4 : Int) (b5 : Int) (x6 : (Int → Int → Option Int)) : Option (List Int) := (Ze7 Z2i) d1 a3 m4 b5 x6
theorem Zme : ∀ (v2 : Value) (d1 : (List Int)) (a3 : Int) (m4 : Int) (b5 : Int) (x6 : (Int → Int → Option Int)) (r : (List Int)), Zj5 d1 a3 m4 b5 x6 = some r → Con Tryz.prog 302 [Zf v2, rd (Z0 .i64) a3, rd (Z0 .i64) m4, rd (Z0 .i64) b5, fn2 Tryz.prog (Z0 .i64) (Z0 .i64) (Z0 .i64) x6] (Ze v2 3 (Z0 .i64) d1) (fun _ : Unit => top) (fun _ => Ze v2 3 (Z0 .i64) r) := Zk4 Z2i
def Ze4 (n3 : Int) (b17 : Int) (x4 : (Int → Int → Option Int)) (go2 : (List Int) → Int → Option (List Int)) : Nat → (List Int) → Int → Int → Option (List Int)
 | 0, _, _, _ => none
 | m25 + 1, l22, a23, b24 => (bif (decide (b24 ≤ n3)) then (Zj5 l22 a23 (IntKind.i64.wrap (a23 + b17)) b24 x4).bind fun l26 => (Ze4 n3 b17 x4 go2 m25) l26 b24 (IntKind.i64.wrap (b24 + (IntKind.i64.wrap (2 * b17)))) else (bif (decide ((IntKind.i64.wrap (a23 + b17)) < n3)) then (Zj5 l22 a23 (IntKind.i64.wrap (a23 + b17)) n3 x4).bind fun l27 => go2 l27 (IntKind.i64.wrap (b17 * 2)) else go2 l22 (IntKind.i64.wrap (b17 * 2))))
def Z96 (n3 : Int) (x4 : (Int → Int → Option Int)) : Nat → (List Int) → Int → Option (List Int)
 | 0, _, _ => none
 | m18 + 1, l16, b17 => (bif (decide (b17 < n3)) then Ze4 n3 b17 x4 (Z96 n3 x4 m18) (((n3 : Int) - (IntKind.i64.wrap (2 * b17))).toNat + 2) l16 0 (IntKind.i64.wrap (2 * b17)) else some l16)
def Zds (n3 : Int) (x4 : (Int → Int → Option Int)) : Nat → (List Int) → Int → Int → Option (List Int)
 | 0, _, _, _ => none
 | m11 + 1, l8, a9, b10 => (bif (decide (b10 ≤ n3)) then (Zcr l8 a9 b10 x4).bind fun l12 => (Zds n3 x4 m11) l12 b10 (IntKind.i64.wrap (b10 + 20)) else (Zcr l8 a9 n3 x4).bind fun l13 => Z96 n3 x4 (((n3 : Int) - 20).toNat + 1) l13 20)
def Zgl (d1 : (List Int)) (n3 : Int) (x4 : (Int → Int → Option Int)) : Option (List Int) :=
 Zds n3 x4 (((n3 : Int) - 20).toNat + 2) d1 0 20
theorem Zq3 (v2 : Value) (d1 : (List Int)) (n3 : Int) (x4 : (Int → Int → Option Int)) (r : (List Int)) (h : Zgl d1 n3 x4 = some r) : Con Tryz.prog 258 [Zf v2, rd (Z0 .i64) n3, fn2 Tryz.prog (Z0 .i64) (Z0 .i64) (Z0 .i64) x4] (Ze v2 3 (Z0 .i64) d1) (fun _ : Unit => top) (fun _ => Ze v2 3 (Z0 .i64) r) := by
 refine Con.intro Tryz.func258 rfl Tryz.ntmps258 rfl fun w H X => ?_
 unfold Zgl at h
 refine SR <| Ak rfl <| Nl <| SR <| Md rfl <| Ak rfl <| As rfl <| Nl <| sq <| bk <| LG (d := []) (ν := Nat × (List Int) × Int × Int) (fun (m11, l8, a9, b10) => (True ∧ Zds n3 x4 m11 l8 a9 b10 = some r, m11, [(0, Zf v2), (1, rd (Z0 .i64) n3), (2, fn2 Tryz.prog (Z0 .i64) (Z0 .i64) (Z0 .i64) x4), (6, rd (Z0 .i64) 20), (7, rd (Z0 .i64) a9), (8, rd (Z0 .i64) b10)], [(0, Ze v2 3 (Z0 .i64) l8)])) ((((n3 : Int) - 20).toNat + 2), d1, 0, 20) ⟨trivial, h⟩ (FX rfl) ?_
 rintro ⟨m11, l8, a9, b10⟩ ⟨hsf1, h⟩
 dsimp only at h ⊢
 cases m11 with
 | zero => cases h
 | succ m11 =>
  unfold Zds at h
  refine sq <| SR <| Md rfl <| Md rfl <| Ac (Z4s rfl rfl (vt rfl) (vt rfl)) rfl <| Nl <| Cq rfl h (fun h => ?_) (fun h => ?_)
  ·refine sk <| bk <| sq ?_
   obtain ⟨l12, hl12, h⟩ := Z9 h
   refine Rg <| Mw rfl <| Md rfl <| Md rfl <| Ac (Zh (A := fn2 Tryz.prog (Z0 .i64) (Z0 .i64) (Z0 .i64) x4) rfl rfl (vt rfl)) rfl <| Cv rfl (Z0u 0 (xs := [.tmp 14, .tmp 15, .tmp 16, .tmp 17]) (Zoi _ _ _ _ _ _ hl12) Zjh rfl rfl ⟨vt rfl, vt rfl, vt rfl, vt rfl, trivial⟩ rfl) fun _u => Nl <| SR <| Md rfl <| As rfl <| Nl <| Rg <| Md rfl <| Md rfl <| Ac (Z09 rfl rfl (vt rfl) (vt rfl)) rfl <| As rfl <| Nl ?_
   exact ⟨(_, _, _, _), Nat.lt_succ_self _, ⟨trivial, h⟩, FX rfl⟩
  ·refine xt <| sq ?_
   obtain ⟨l13, hl13, h⟩ := Z9 h
   refine Rg <| Mw rfl <| Md rfl <| Md rfl <| Ac (Zh (A := fn2 Tryz.prog (Z0 .i64) (Z0 .i64) (Z0 .i64) x4) rfl rfl (vt rfl)) rfl <| Cv rfl (Z0u 0 (xs := [.tmp 23, .tmp 24, .tmp 25, .tmp 26]) (Zoi _ _ _ _ _ _ hl13) Zjh rfl rfl ⟨vt rfl, vt rfl, vt rfl, vt rfl, trivial⟩ rfl) fun _u => Nl <| bk <| LG (d := []) (ν := Nat × (List Int) × Int) (fun (m18, l16, b17) => (True ∧ Z96 n3 x4 m18 l16 b17 = some r, m18, [(0, Zf v2), (1, rd (Z0 .i64) n3), (2, fn2 Tryz.prog (Z0 .i64) (Z0 .i64) (Z0 .i64) x4), (6, rd (Z0 .i64) b17)], [(0, Ze v2 3 (Z0 .i64) l16)])) ((((n3 : Int) - 20).toNat + 1), l13, 20) ⟨trivial, h⟩ (FX rfl) ?_
   rintro ⟨m18, l16, b17⟩ ⟨hsf2, h⟩
   dsimp only at h ⊢
   cases m18 with
   | zero => cases h
   | succ m18 =>
    unfold Z96 at h
    refine sq <| SR <| Md rfl <| Md rfl <| Ac (Zl rfl rfl (vt rfl) (vt rfl)) rfl <| Nl <| Cq rfl h (fun h => ?_) (fun h => ?_)
    ·refine sk <| bk <| SR <| Md rfl <| Ac (Z4x rfl rfl (vk rfl) (vt rfl)) rfl <| Ak rfl <| As rfl <| Nl <| sq <| bk <| LG (d := []) (ν := Nat × (List Int) × Int × Int) (fun (m25, l22, a23, b24) => (True ∧ Ze4 n3 b17 x4 (Z96 n3 x4 m18) m25 l22 a23 b24 = some r, m25, [(0, Zf v2), (1, rd (Z0 .i64) n3), (2, fn2 Tryz.prog (Z0 .i64) (Z0 .i64) (Z0 .i64) x4), (6, rd (Z0 .i64) b17), (7, rd (Z0 .i64) a23), (8, rd (Z0 .i64) b24)], [(0, Ze v2 3 (Z0 .i64) l22)])) ((((n3 : Int) - (IntKind.i64.wrap (2 * b17))).toNat + 2), l16, 0, (IntKind.i64.wrap (2 * b17))) ⟨trivial, h⟩ (FX rfl) ?_
     rintro ⟨m25, l22, a23, b24⟩ ⟨hsf3, h⟩
     dsimp only at h ⊢
     cases m25 with
     | zero => cases h
     | succ m25 =>
      unfold Ze4 at h
      refine sq <| SR <| Md rfl <| Md rfl <| Ac (Z4s rfl rfl (vt rfl) (vt rfl)) rfl <| Nl <| Cq rfl h (fun h => ?_) (fun h => ?_)
      ·refine sk <| bk <| sq ?_
       obtain ⟨l26, hl26, h⟩ := Z9 h
       refine Rg <| Mw rfl <| Md rfl <| Md rfl <| Md rfl <| Ac (Z09 rfl rfl (vt rfl) (vt rfl)) rfl <| Md rfl <| Ac (Zh (A := fn2 Tryz.prog (Z0 .i64) (Z0 .i64) (Z0 .i64) x4) rfl rfl (vt rfl)) rfl <| Cv rfl (Z0u 0 (xs := [.tmp 36, .tmp 37, .tmp 40, .tmp 41, .tmp 42]) (Zme _ _ _ _ _ _ _ hl26) Zdu rfl rfl ⟨vt rfl, vt rfl, vt rfl, vt rfl, vt rfl, trivial⟩ rfl) fun _u => Nl <| SR <| Md rfl <| As rfl <| Nl <| Rg <| Md rfl <| Md rfl <| Ac (Z4x rfl rfl (vk rfl) (vt rfl)) rfl <| Ac (Z09 rfl rfl (vt rfl) (vt rfl)) rfl <| As rfl <| Nl ?_
       exact ⟨(_, _, _, _), Nat.lt_succ_self _, ⟨trivial, h⟩, FX rfl⟩
      ·refine xt <| sq <| SR <| Md rfl <| Md rfl <| Ac (Z09 rfl rfl (vt rfl) (vt rfl)) rfl <| As rfl <| Nl <| SR <| Md rfl <| Md rfl <| Ac (Zl rfl rfl (vt rfl) (vt rfl)) rfl <| Nl <| Cq rfl h (fun h => ?_) (fun h => ?_)
       ·obtain ⟨l27, hl27, h⟩ := Z9 h
        refine Rg <| Mw rfl <| Md rfl <| Md rfl <| Md rfl <| Ac (Zh (A := fn2 Tryz.prog (Z0 .i64) (Z0 .i64) (Z0 .i64) x4) rfl rfl (vt rfl)) rfl <| Cv rfl (Z0u 0 (xs := [.tmp 55, .tmp 56, .tmp 57, .tmp 58, .tmp 59]) (Zme _ _ _ _ _ _ _ hl27) Zdu rfl rfl ⟨vt rfl, vt rfl, vt rfl, vt rfl, vt rfl, trivial⟩ rfl) fun _u => Nl <| Rg <| Md rfl <| Ac (Z4x rfl rfl (vt rfl) (vk rfl)) rfl <| As rfl <| Nl ?_
        exact ⟨(_, _, _), Nat.lt_succ_self _, ⟨trivial, h⟩, FX rfl⟩
       ·refine sk <| Rg <| Md rfl <| Ac (Z4x rfl rfl (vt rfl) (vk rfl)) rfl <| As rfl <| Nl ?_
        exact ⟨(_, _, _), Nat.lt_succ_self _, ⟨trivial, h⟩, FX rfl⟩
    ·refine xt ?_
     cases h; exact Z1l (i := 0) Tryz.results258 rfl rfl
def Zh0 (x1 : (List Int)) (x3 : (Int → Int → Option Int)) : Option (List Int) :=
 (Zgl x1 (x1.length : Int) x3).bind fun l4 => some l4
theorem Zxj (v2 : Value) (x1 : (List Int)) (x3 : (Int → Int → Option Int)) (r : (List Int)) (h : Zh0 x1 x3 = some r) : Con Tryz.prog 200 [Zf v2, fn2 Tryz.prog (Z0 .i64) (Z0 .i64) (Z0 .i64) x3] (Ze v2 3 (Z0 .i64) x1) (fun _ : Unit => top) (fun _ => Ze v2 3 (Z0 .i64) r) := by
 refine Con.intro Tryz.func200 rfl Tryz.ntmps200 rfl fun w H X => ?_
 unfold Zh0 at h
 obtain ⟨l4, hl4, h⟩ := Z9 h
 refine Rg <| Mw rfl <| Mw rfl <| Ac (Z6w 0 rfl rfl Z0w (vt rfl) rfl) rfl <| Ac (Zh (A := fn2 Tryz.prog (Z0 .i64) (Z0 .i64) (Z0 .i64) x3) rfl rfl (vt rfl)) rfl <| Cv rfl (Z0u 0 (xs := [.tmp 4, .tmp 6, .tmp 7]) (Zq3 _ _ _ _ _ hl4) Zvh rfl rfl ⟨vt rfl, vt rfl, vt rfl, trivial⟩ rfl) fun _u => Nl ?_
 cases h; exact Z1l (i := 0) Tryz.results200 rfl rfl
end Go.Proofs.YtknpgojdkobgjaaGreat.W
set_option maxRecDepth 4000
namespace Go.Proofs.YtknpgojdkobgjaaGreat.W
open Go Go.Wb
theorem Zrh : Ent Tryz.prog 201 := Ent.mk Tryz.func201 rfl rfl
theorem Y04 : Ent Tryz.prog 200 := Ent.mk Tryz.func200 rfl rfl
theorem Zd1 : Ent Tryz.prog 269 := Ent.mk Tryz.func269 rfl rfl
theorem Zum : Ent Tryz.prog 344 := Ent.mk Tryz.func344 rfl rfl
theorem Zu0 : Ent Tryz.prog 336 := Ent.mk Tryz.func336 rfl rfl
theorem Zkm : Ent Tryz.prog 299 := Ent.mk Tryz.func299 rfl rfl
theorem Zps : Ent Tryz.prog 312 := Ent.mk Tryz.func312 rfl rfl
theorem Zg4 : Ent Tryz.prog 254 := Ent.mk Tryz.func254 rfl rfl
theorem e73 : Ent Tryz.prog 73 := Ent.mk Tryz.func73 rfl rfl
theorem Zmk : Ent Tryz.prog 275 := Ent.mk Tryz.func275 rfl rfl
def Z8y (t1 : (List Flow)) : Nat → Nat → (List Int) → Option (List Int)
 | 0, i9, l7 => (Zh0 l7 (fun x z => Zd0 x z t1)).bind fun l11 => some l11
 | m10 + 1, i9, l7 => (Z2b l7 [(i9 : Int)]).bind fun l12 => (Z8y t1 m10) (i9 + 1) l12
def Zhz (t1 : (List Flow)) : Option (List Int) :=
 (omk (t1.length : Int)).bind fun u3 => Z8y t1 ((t1.length : Int) : Int).toNat 0 []
theorem Zux : Q1 Tryz.prog 135 (rd (Z1 Z23)) (rd (Z1 (Z0 .i64))) Zhz := fun t1 r h => I0 Tryz.func135 rfl Tryz.ntmps135 rfl fun w H => by
 unfold Zhz at h
 refine SR <| Cv rfl (Zs 2 rfl rfl (vt rfl)) fun g2 => Ac (Z0i (A := rd (Z1 (Z0 .i64)) []) rfl rfl Z2u) rfl <| Nl <| sq ?_
 obtain ⟨u3, hu3, h⟩ := Z9 h
 refine Rg <| Ld Z4c 2 rfl <| Ac (Z0a rfl rfl Z4w (vt rfl)) rfl <| Cv rfl (Zup 1001 hu3 rfl rfl Zfg zr3 (vt rfl)) fun v4 => Aw rfl <| Nl <| sq <| SR <| Ld Z4c 2 rfl <| Ac (Z0a rfl rfl Z4w (vt rfl)) rfl <| Mk rfl <| Nl <| bk <| LG (d := []) (ν := Nat × Nat × (List Int) × Value) (fun (m10, i9, l7, v8) => (Cnt (t1.length : Int) i9 m10 ∧ Z8y t1 m10 i9 l7 = some r, m10, [(1, Zj g2 (Lens.id (Z1 Z23))), (3, Zf v8), (9, rd (Z0 .i64) (t1.length : Int)), (10, rd (Z0 .i64) (i9 : Int))], [(2, Zk g2 22 (Z1 Z23) t1), (1001, Ze v8 3 (Z0 .i64) l7)])) (((t1.length : Int) : Int).toNat, 0, [], v4) ⟨Cnt.start _, h⟩ (FX rfl) ?_
 rintro ⟨m10, i9, l7, v8⟩ ⟨hsf1, h⟩
 dsimp only at hsf1 h ⊢
 cases m10 with
 | zero =>
  unfold Z8y at h
  refine SR <| Ac (Zl rfl rfl (vt rfl) (vt rfl)) rfl <| Nl <| sq <| Cn rfl (fun hc => absurd (of_decide_eq_true hc) hsf1.zero) (fun hc => ?_)
  refine xt <| sq <| AW.freezeB 1 2 rfl rfl rfl ?_
  obtain ⟨l11, hl11, h⟩ := Z9 h
  refine Rg <| Mw rfl <| Ac (Zsd (cs := [.tmp 1]) (CAs := [rp (Z1 Z23) t1]) (fun x z => Zd0 x z t1) rfl rfl Zrh ⟨vt rfl, trivial⟩ (fun x z y h => Zrr _ _ _ y h)) rfl <| Cv rfl (Z0u 1001 (xs := [.tmp 18, .tmp 19]) (Zxj _ _ _ _ hl11) Y04 rfl rfl ⟨vt rfl, vt rfl, trivial⟩ rfl) fun _u => Nl <| SR <| Mw rfl <| Aw rfl <| Nl <| AW.freezes [2, 3, 18, 21] 1001 rfl ⟨rfl, rfl, rfl, rfl, trivial⟩ rfl <| rt ?_
  cases h; exact Zc Tryz.results135 rfl (Zb rfl)
 | succ m10 =>
  unfold Z8y at h
  refine SR <| Ac (Zl rfl rfl (vt rfl) (vt rfl)) rfl <| Nl <| sq <| Cn rfl (fun hc => ?_) (fun hc => absurd hsf1.succ (of_decide_eq_false hc))
  have hlti9 := of_decide_eq_true hc
  refine sk <| sq <| bk <| SR <| Md rfl <| As rfl <| Nl ?_
  obtain ⟨l12, hl12, h⟩ := Z9 h
  refine Rg <| Mw rfl <| Md rfl <| Ac (osl Z0w zr3 rfl (vt rfl)) rfl <| Cv rfl (Z3w 1001 hl12 rfl rfl Zfg (vt rfl) rfl (vt rfl)) fun v13 => Aw rfl <| Nl <| Rg <| Ac (Z0y (t := 9) rfl rfl (vt rfl) (vk rfl) (vt rfl) hlti9) rfl <| Md rfl <| Nl ?_
  exact ⟨(_, _, _, _), Nat.lt_succ_self _, ⟨hsf1.next, h⟩, FX rfl⟩
def Z7j (x1 : Int) : Option Bool :=
 some ((decide (x1 ≥ 0)) && (decide (x1 < 24)))
theorem Zdd : Q1 Tryz.prog 269 (rd (Z0 .i64)) (rd Z6) Z7j := fun x1 r h => I0 Tryz.func269 rfl Tryz.ntmps269 rfl fun w H => by
 unfold Z7j at h
 refine SR <| Ab rfl <| Nl <| SR <| Md rfl <| Ac (Z4d rfl rfl (vt rfl) (vk rfl)) rfl <| Md rfl <| Gd rfl (fun hq => Zh (A := rd (Z0 .i64) x1) rfl rfl (vt rfl)) <| Gd rfl (fun hq => Zl rfl rfl (Z5 rfl hq) (vk rfl)) <| Ac (Z0p rfl rfl (vt rfl) (vt rfl)) rfl <| As rfl <| Nl <| rt ?_
 cases h; exact Zc Tryz.results269 rfl (Zb rfl)
def Zig : Option Zt8 :=
 some (Vector.set (Vector.set (Vector.set (Vector.set (Vector.set (Vector.set (Vector.set (Vector.set (Vector.set (Vector.set (Vector.set (Vector.set (Vector.set (Vector.set (Vector.set (Vector.set (Vector.set (Vector.set (Vector.set (Vector.set (Vector.set (Vector.set (Vector.set (Vector.set (Vector.replicate 24 Z9y) 0 (⟨{ data := #[105, 110, 95, 112, 111, 114, 116] }, 0, 32, false⟩ : field_row) (by decide)) 1 (⟨{ data := #[109, 101, 116, 97, 100, 97, 116, 97] }, 2, 64, true⟩ : field_row) (by decide)) 2 (⟨{ data := #[101, 116, 104, 95, 100, 115, 116] }, 3, 48, true⟩ : field_row) (by decide)) 3 (⟨{ data := #[101, 116, 104, 95, 115, 114, 99] }, 4, 48, true⟩ : field_row) (by decide)) 4 (⟨{ data := #[101, 116, 104, 95, 116, 121, 112, 101] }, 5, 16, false⟩ : field_row) (by decide)) 5 (⟨{ data := #[118, 108, 97, 110, 95, 118, 105, 100] }, 6, 13, true⟩ : field_row) (by decide)) 6 (⟨{ data := #[118, 108, 97, 110, 95, 112, 99, 112] }, 7, 3, false⟩ : field_row) (by decide)) 7 (⟨{ data := #[105, 112, 95, 100, 115, 99, 112] }, 8, 6, false⟩ : field_row) (by decide)) 8 (⟨{ data := #[105, 112, 95, 101, 99, 110] }, 9, 2, false⟩ : field_row) (by decide)) 9 (⟨{ data := #[105, 112, 95, 112, 114, 111, 116, 111] }, 10, 8, false⟩ : field_row) (by decide)) 10 (⟨{ data := #[105, 112, 118, 52, 95, 115, 114, 99] }, 11, 32, true⟩ : field_row) (by decide)) 11 (⟨{ data := #[105, 112, 118, 52, 95, 100, 115, 116] }, 12, 32, true⟩ : field_row) (by decide)) 12 (⟨{ data := #[116, 99, 112, 95, 115, 114, 99] }, 13, 16, false⟩ : field_row) (by decide)) 13 (⟨{ data := #[116, 99, 112, 95, 100, 115, 116] }, 14, 16, false⟩ : field_row) (by decide)) 14 (⟨{ data := #[117, 100, 112, 95, 115, 114, 99] }, 15, 16, false⟩ : field_row) (by decide)) 15 (⟨{ data := #[117, 100, 112, 95, 100, 115, 116] }, 16, 16, false⟩ : field_row) (by decide)) 16 (⟨{ data := #[105, 99, 109, 112, 118, 52, 95, 116, 121, 112, 101] }, 19, 8, false⟩ : field_row) (by decide)) 17 (⟨{ data := #[105, 99, 109, 112, 118, 52, 95, 99, 111, 100, 101] }, 20, 8, false⟩ : field_row) (by decide)) 18 (⟨{ data := #[97, 114, 112, 95, 111, 112] }, 21, 16, false⟩ : field_row) (by decide)) 19 (⟨{ data := #[97, 114, 112, 95, 115, 112, 97] }, 22, 32, true⟩ : field_row) (by decide)) 20 (⟨{ data := #[97, 114, 112, 95, 116, 112, 97] }, 23, 32, true⟩ : field_row) (by decide)) 21 (⟨{ data := #[105, 112, 118, 54, 95, 115, 114, 99] }, 26, 128, true⟩ : field_row) (by decide)) 22 (⟨{ data := #[105, 112, 118, 54, 95, 100, 115, 116] }, 27, 128, true⟩ : field_row) (by decide)) 23 (⟨{ data := #[109, 112, 108, 115, 95, 108, 97, 98, 101, 108] }, 34, 20, false⟩ : field_row) (by decide))
theorem Zr7 : Q0 Tryz.prog 344 (rd (Z2 24 Z0r)) Zig := fun r h => I0 Tryz.func344 rfl Tryz.ntmps344 rfl fun w H => by
 unfold Zig at h
 refine SR <| Cv rfl (Zn 1 rfl rfl Zk1) fun g1 => Nl <| SR <| Ac (Z10 (ps := [(0, .const (Value.string { data := #[105, 110, 95, 112, 111, 114, 116] })), (1, .const (Value.int IntKind.i64 0)), (2, .const (Value.int IntKind.i64 32)), (3, .const (Value.bool false))]) (x := (⟨{ data := #[105, 110, 95, 112, 111, 114, 116] }, 0, 32, false⟩ : field_row)) rfl rfl rfl (by kernel_rfl) Z1f ⟨_, _, Z1n, _, by kernel_rfl, (vs (by decide)), _, _, lfield_row_1, _, by kernel_rfl, (vk rfl), _, _, Z1g, _, by kernel_rfl, (vk rfl), _, _, Z1m, _, by kernel_rfl, vb, rfl⟩) rfl <| Ac (Z10 (ps := [(0, .const (Value.string { data := #[109, 101, 116, 97, 100, 97, 116, 97] })), (1, .const (Value.int IntKind.i64 2)), (2, .const (Value.int IntKind.i64 64)), (3, .const (Value.bool true))]) (x := (⟨{ data := #[109, 101, 116, 97, 100, 97, 116, 97] }, 2, 64, true⟩ : field_row)) rfl rfl rfl (by kernel_rfl) Z1f ⟨_, _, Z1n, _, by kernel_rfl, (vs (by decide)), _, _, lfield_row_1, _, by kernel_rfl, (vk rfl), _, _, Z1g, _, by kernel_rfl, (vk rfl), _, _, Z1m, _, by kernel_rfl, vb, rfl⟩) rfl <| Ac (Z10 (ps := [(0, .const (Value.string { data := #[101, 116, 104, 95, 100, 115, 116] })), (1, .const (Value.int IntKind.i64 3)), (2, .const (Value.int IntKind.i64 48)), (3, .const (Value.bool true))]) (x := (⟨{ data := #[101, 116, 104, 95, 100, 115, 116] }, 3, 48, true⟩ : field_row)) rfl rfl rfl (by kernel_rfl) Z1f ⟨_, _, Z1n, _, by kernel_rfl, (vs (by decide)), _, _, lfield_row_1, _, by kernel_rfl, (vk rfl), _, _, Z1g, _, by kernel_rfl, (vk rfl), _, _, Z1m, _, by kernel_rfl, vb, rfl⟩) rfl <| Ac (Z10 (ps := [(0, .const (Value.string { data := #[101, 116, 104, 95, 115, 114, 99] })), (1, .const (Value.int IntKind.i64 4)), (2, .const (Value.int IntKind.i64 48)), (3, .const (Value.bool true))]) (x := (⟨{ data := #[101, 116, 104, 95, 115, 114, 99] }, 4, 48, true⟩ : field_row)) rfl rfl rfl (by kernel_rfl) Z1f ⟨_, _, Z1n, _, by kernel_rfl, (vs (by decide)), _, _, lfield_row_1, _, by kernel_rfl, (vk rfl), _, _, Z1g, _, by kernel_rfl, (vk rfl), _, _, Z1m, _, by kernel_rfl, vb, rfl⟩) rfl <| Ac (Z10 (ps := [(0, .const (Value.string { data := #[101, 116, 104, 95, 116, 121, 112, 101] })), (1, .const (Value.int IntKind.i64 5)), (2, .const (Value.int IntKind.i64 16)), (3, .const (Value.bool false))]) (x := (⟨{ data := #[101, 116, 104, 95, 116, 121, 112, 101] }, 5, 16, false⟩ : field_row)) rfl rfl rfl (by kernel_rfl) Z1f ⟨_, _, Z1n, _, by kernel_rfl, (vs (by decide)), _, _, lfield_row_1, _, by kernel_rfl, (vk rfl), _, _, Z1g, _, by kernel_rfl, (vk rfl), _, _, Z1m, _, by kernel_rfl, vb, rfl⟩) rfl <| Ac (Z10 (ps := [(0, .const (Value.string { data := #[118, 108, 97, 110, 95, 118, 105, 100] })), (1, .const (Value.int IntKind.i64 6)), (2, .const (Value.int IntKind.i64 13)), (3, .const (Value.bool true))]) (x := (⟨{ data := #[118, 108, 97, 110, 95, 118, 105, 100] }, 6, 13, true⟩ : field_row)) rfl rfl rfl (by kernel_rfl) Z1f ⟨_, _, Z1n, _, by kernel_rfl, (vs (by decide)), _, _, lfield_row_1, _, by kernel_rfl, (vk rfl), _, _, Z1g, _, by kernel_rfl, (vk rfl), _, _, Z1m, _, by kernel_rfl, vb, rfl⟩) rfl ?_
 refine Ac (Z10 (ps := [(0, .const (Value.string { data := #[118, 108, 97, 110, 95, 112, 99, 112] })), (1, .const (Value.int IntKind.i64 7)), (2, .const (Value.int IntKind.i64 3)), (3, .const (Value.bool false))]) (x := (⟨{ data := #[118, 108, 97, 110, 95, 112, 99, 112] }, 7, 3, false⟩ : field_row)) rfl rfl rfl (by kernel_rfl) Z1f ⟨_, _, Z1n, _, by kernel_rfl, (vs (by decide)), _, _, lfield_row_1, _, by kernel_rfl, (vk rfl), _, _, Z1g, _, by kernel_rfl, (vk rfl), _, _, Z1m, _, by kernel_rfl, vb, rfl⟩) rfl <| Ac (Z10 (ps := [(0, .const (Value.string { data := #[105, 112, 95, 100, 115, 99, 112] })), (1, .const (Value.int IntKind.i64 8)), (2, .const (Value.int IntKind.i64 6)), (3, .const (Value.bool false))]) (x := (⟨{ data := #[105, 112, 95, 100, 115, 99, 112] }, 8, 6, false⟩ : field_row)) rfl rfl rfl (by kernel_rfl) Z1f ⟨_, _, Z1n, _, by kernel_rfl, (vs (by decide)), _, _, lfield_row_1, _, by kernel_rfl, (vk rfl), _, _, Z1g, _, by kernel_rfl, (vk rfl), _, _, Z1m, _, by kernel_rfl, vb, rfl⟩) rfl <| Ac (Z10 (ps := [(0, .const (Value.string { data := #[105, 112, 95, 101, 99, 110] })), (1, .const (Value.int IntKind.i64 9)), (2, .const (Value.int IntKind.i64 2)), (3, .const (Value.bool false))]) (x := (⟨{ data := #[105, 112, 95, 101, 99, 110] }, 9, 2, false⟩ : field_row)) rfl rfl rfl (by kernel_rfl) Z1f ⟨_, _, Z1n, _, by kernel_rfl, (vs (by decide)), _, _, lfield_row_1, _, by kernel_rfl, (vk rfl), _, _, Z1g, _, by kernel_rfl, (vk rfl), _, _, Z1m, _, by kernel_rfl, vb, rfl⟩) rfl <| Ac (Z10 (ps := [(0, .const (Value.string { data := #[105, 112, 95, 112, 114, 111, 116, 111] })), (1, .const (Value.int IntKind.i64 10)), (2, .const (Value.int IntKind.i64 8)), (3, .const (Value.bool false))]) (x := (⟨{ data := #[105, 112, 95, 112, 114, 111, 116, 111] }, 10, 8, false⟩ : field_row)) rfl rfl rfl (by kernel_rfl) Z1f ⟨_, _, Z1n, _, by kernel_rfl, (vs (by decide)), _, _, lfield_row_1, _, by kernel_rfl, (vk rfl), _, _, Z1g, _, by kernel_rfl, (vk rfl), _, _, Z1m, _, by kernel_rfl, vb, rfl⟩) rfl <| Ac (Z10 (ps := [(0, .const (Value.string { data := #[105, 112, 118, 52, 95, 115, 114, 99] })), (1, .const (Value.int IntKind.i64 11)), (2, .const (Value.int IntKind.i64 32)), (3, .const (Value.bool true))]) (x := (⟨{ data := #[105, 112, 118, 52, 95, 115, 114, 99] }, 11, 32, true⟩ : field_row)) rfl rfl rfl (by kernel_rfl) Z1f ⟨_, _, Z1n, _, by kernel_rfl, (vs (by decide)), _, _, lfield_row_1, _, by kernel_rfl, (vk rfl), _, _, Z1g, _, by kernel_rfl, (vk rfl), _, _, Z1m, _, by kernel_rfl, vb, rfl⟩) rfl <| Ac (Z10 (ps := [(0, .const (Value.string { data := #[105, 112, 118, 52, 95, 100, 115, 116] })), (1, .const (Value.int IntKind.i64 12)), (2, .const (Value.int IntKind.i64 32)), (3, .const (Value.bool true))]) (x := (⟨{ data := #[105, 112, 118, 52, 95, 100, 115, 116] }, 12, 32, true⟩ : field_row)) rfl rfl rfl (by kernel_rfl) Z1f ⟨_, _, Z1n, _, by kernel_rfl, (vs (by decide)), _, _, lfield_row_1, _, by kernel_rfl, (vk rfl), _, _, Z1g, _, by kernel_rfl, (vk rfl), _, _, Z1m, _, by kernel_rfl, vb, rfl⟩) rfl ?_
 refine Ac (Z10 (ps := [(0, .const (Value.string { data := #[116, 99, 112, 95, 115, 114, 99] })), (1, .const (Value.int IntKind.i64 13)), (2, .const (Value.int IntKind.i64 16)), (3, .const (Value.bool false))]) (x := (⟨{ data := #[116, 99, 112, 95, 115, 114, 99] }, 13, 16, false⟩ : field_row)) rfl rfl rfl (by kernel_rfl) Z1f ⟨_, _, Z1n, _, by kernel_rfl, (vs (by decide)), _, _, lfield_row_1, _, by kernel_rfl, (vk rfl), _, _, Z1g, _, by kernel_rfl, (vk rfl), _, _, Z1m, _, by kernel_rfl, vb, rfl⟩) rfl <| Ac (Z10 (ps := [(0, .const (Value.string { data := #[116, 99, 112, 95, 100, 115, 116] })), (1, .const (Value.int IntKind.i64 14)), (2, .const (Value.int IntKind.i64 16)), (3, .const (Value.bool false))]) (x := (⟨{ data := #[116, 99, 112, 95, 100, 115, 116] }, 14, 16, false⟩ : field_row)) rfl rfl rfl (by kernel_rfl) Z1f ⟨_, _, Z1n, _, by kernel_rfl, (vs (by decide)), _, _, lfield_row_1, _, by kernel_rfl, (vk rfl), _, _, Z1g, _, by kernel_rfl, (vk rfl), _, _, Z1m, _, by kernel_rfl, vb, rfl⟩) rfl <| Ac (Z10 (ps := [(0, .const (Value.string { data := #[117, 100, 112, 95, 115, 114, 99] })), (1, .const (Value.int IntKind.i64 15)), (2, .const (Value.int IntKind.i64 16)), (3, .const (Value.bool false))]) (x := (⟨{ data := #[117, 100, 112, 95, 115, 114, 99] }, 15, 16, false⟩ : field_row)) rfl rfl rfl (by kernel_rfl) Z1f ⟨_, _, Z1n, _, by kernel_rfl, (vs (by decide)), _, _, lfield_row_1, _, by kernel_rfl, (vk rfl), _, _, Z1g, _, by kernel_rfl, (vk rfl), _, _, Z1m, _, by kernel_rfl, vb, rfl⟩) rfl <| Ac (Z10 (ps := [(0, .const (Value.string { data := #[117, 100, 112, 95, 100, 115, 116] })), (1, .const (Value.int IntKind.i64 16)), (2, .const (Value.int IntKind.i64 16)), (3, .const (Value.bool false))]) (x := (⟨{ data := #[117, 100, 112, 95, 100, 115, 116] }, 16, 16, false⟩ : field_row)) rfl rfl rfl (by kernel_rfl) Z1f ⟨_, _, Z1n, _, by kernel_rfl, (vs (by decide)), _, _, lfield_row_1, _, by kernel_rfl, (vk rfl), _, _, Z1g, _, by kernel_rfl, (vk rfl), _, _, Z1m, _, by kernel_rfl, vb, rfl⟩) rfl <| Ac (Z10 (ps := [(0, .const (Value.string { data := #[105, 99, 109, 112, 118, 52, 95, 116, 121, 112, 101] })), (1, .const (Value.int IntKind.i64 19)), (2, .const (Value.int IntKind.i64 8)), (3, .const (Value.bool false))]) (x := (⟨{ data := #[105, 99, 109, 112, 118, 52, 95, 116, 121, 112, 101] }, 19, 8, false⟩ : field_row)) rfl rfl rfl (by kernel_rfl) Z1f ⟨_, _, Z1n, _, by kernel_rfl, (vs (by decide)), _, _, lfield_row_1, _, by kernel_rfl, (vk rfl), _, _, Z1g, _, by kernel_rfl, (vk rfl), _, _, Z1m, _, by kernel_rfl, vb, rfl⟩) rfl <| Ac (Z10 (ps := [(0, .const (Value.string { data := #[105, 99, 109, 112, 118, 52, 95, 99, 111, 100, 101] })), (1, .const (Value.int IntKind.i64 20)), (2, .const (Value.int IntKind.i64 8)), (3, .const (Value.bool false))]) (x := (⟨{ data := #[105, 99, 109, 112, 118, 52, 95, 99, 111, 100, 101] }, 20, 8, false⟩ : field_row)) rfl rfl rfl (by kernel_rfl) Z1f ⟨_, _, Z1n, _, by kernel_rfl, (vs (by decide)), _, _, lfield_row_1, _, by kernel_rfl, (vk rfl), _, _, Z1g, _, by kernel_rfl, (vk rfl), _, _, Z1m, _, by kernel_rfl, vb, rfl⟩) rfl ?_
 refine Ac (Z10 (ps := [(0, .const (Value.string { data := #[97, 114, 112, 95, 111, 112] })), (1, .const (Value.int IntKind.i64 21)), (2, .const (Value.int IntKind.i64 16)), (3, .const (Value.bool false))]) (x := (⟨{ data := #[97, 114, 112, 95, 111, 112] }, 21, 16, false⟩ : field_row)) rfl rfl rfl (by kernel_rfl) Z1f ⟨_, _, Z1n, _, by kernel_rfl, (vs (by decide)), _, _, lfield_row_1, _, by kernel_rfl, (vk rfl), _, _, Z1g, _, by kernel_rfl, (vk rfl), _, _, Z1m, _, by kernel_rfl, vb, rfl⟩) rfl <| Ac (Z10 (ps := [(0, .const (Value.string { data := #[97, 114, 112, 95, 115, 112, 97] })), (1, .const (Value.int IntKind.i64 22)), (2, .const (Value.int IntKind.i64 32)), (3, .const (Value.bool true))]) (x := (⟨{ data := #[97, 114, 112, 95, 115, 112, 97] }, 22, 32, true⟩ : field_row)) rfl rfl rfl (by kernel_rfl) Z1f ⟨_, _, Z1n, _, by kernel_rfl, (vs (by decide)), _, _, lfield_row_1, _, by kernel_rfl, (vk rfl), _, _, Z1g, _, by kernel_rfl, (vk rfl), _, _, Z1m, _, by kernel_rfl, vb, rfl⟩) rfl <| Ac (Z10 (ps := [(0, .const (Value.string { data := #[97, 114, 112, 95, 116, 112, 97] })), (1, .const (Value.int IntKind.i64 23)), (2, .const (Value.int IntKind.i64 32)), (3, .const (Value.bool true))]) (x := (⟨{ data := #[97, 114, 112, 95, 116, 112, 97] }, 23, 32, true⟩ : field_row)) rfl rfl rfl (by kernel_rfl) Z1f ⟨_, _, Z1n, _, by kernel_rfl, (vs (by decide)), _, _, lfield_row_1, _, by kernel_rfl, (vk rfl), _, _, Z1g, _, by kernel_rfl, (vk rfl), _, _, Z1m, _, by kernel_rfl, vb, rfl⟩) rfl <| Ac (Z10 (ps := [(0, .const (Value.string { data := #[105, 112, 118, 54, 95, 115, 114, 99] })), (1, .const (Value.int IntKind.i64 26)), (2, .const (Value.int IntKind.i64 128)), (3, .const (Value.bool true))]) (x := (⟨{ data := #[105, 112, 118, 54, 95, 115, 114, 99] }, 26, 128, true⟩ : field_row)) rfl rfl rfl (by kernel_rfl) Z1f ⟨_, _, Z1n, _, by kernel_rfl, (vs (by decide)), _, _, lfield_row_1, _, by kernel_rfl, (vk rfl), _, _, Z1g, _, by kernel_rfl, (vk rfl), _, _, Z1m, _, by kernel_rfl, vb, rfl⟩) rfl <| Ac (Z10 (ps := [(0, .const (Value.string { data := #[105, 112, 118, 54, 95, 100, 115, 116] })), (1, .const (Value.int IntKind.i64 27)), (2, .const (Value.int IntKind.i64 128)), (3, .const (Value.bool true))]) (x := (⟨{ data := #[105, 112, 118, 54, 95, 100, 115, 116] }, 27, 128, true⟩ : field_row)) rfl rfl rfl (by kernel_rfl) Z1f ⟨_, _, Z1n, _, by kernel_rfl, (vs (by decide)), _, _, lfield_row_1, _, by kernel_rfl, (vk rfl), _, _, Z1g, _, by kernel_rfl, (vk rfl), _, _, Z1m, _, by kernel_rfl, vb, rfl⟩) rfl <| Ac (Z10 (ps := [(0, .const (Value.string { data := #[109, 112, 108, 115, 95, 108, 97, 98, 101, 108] })), (1, .const (Value.int IntKind.i64 34)), (2, .const (Value.int IntKind.i64 20)), (3, .const (Value.bool false))]) (x := (⟨{ data := #[109, 112, 108, 115, 95, 108, 97, 98, 101, 108] }, 34, 20, false⟩ : field_row)) rfl rfl rfl (by kernel_rfl) Z1f ⟨_, _, Z1n, _, by kernel_rfl, (vs (by decide)), _, _, lfield_row_1, _, by kernel_rfl, (vk rfl), _, _, Z1g, _, by kernel_rfl, (vk rfl), _, _, Z1m, _, by kernel_rfl, vb, rfl⟩) rfl ?_
 refine Ac (Z10 (ps := [(0, .tmp 1), (1, .tmp 2), (2, .tmp 3), (3, .tmp 4), (4, .tmp 5), (5, .tmp 6), (6, .tmp 7), (7, .tmp 8), (8, .tmp 9), (9, .tmp 10), (10, .tmp 11), (11, .tmp 12), (12, .tmp 13), (13, .tmp 14), (14, .tmp 15), (15, .tmp 16), (16, .tmp 17), (17, .tmp 18), (18, .tmp 19), (19, .tmp 20), (20, .tmp 21), (21, .tmp 22), (22, .tmp 23), (23, .tmp 24)]) (x := (Vector.set (Vector.set (Vector.set (Vector.set (Vector.set (Vector.set (Vector.set (Vector.set (Vector.set (Vector.set (Vector.set (Vector.set (Vector.set (Vector.set (Vector.set (Vector.set (Vector.set (Vector.set (Vector.set (Vector.set (Vector.set (Vector.set (Vector.set (Vector.set (Vector.replicate 24 Z9y) 0 (⟨{ data := #[105, 110, 95, 112, 111, 114, 116] }, 0, 32, false⟩ : field_row) (by decide)) 1 (⟨{ data := #[109, 101, 116, 97, 100, 97, 116, 97] }, 2, 64, true⟩ : field_row) (by decide)) 2 (⟨{ data := #[101, 116, 104, 95, 100, 115, 116] }, 3, 48, true⟩ : field_row) (by decide)) 3 (⟨{ data := #[101, 116, 104, 95, 115, 114, 99] }, 4, 48, true⟩ : field_row) (by decide)) 4 (⟨{ data := #[101, 116, 104, 95, 116, 121, 112, 101] }, 5, 16, false⟩ : field_row) (by decide)) 5 (⟨{ data := #[118, 108, 97, 110, 95, 118, 105, 100] }, 6, 13, true⟩ : field_row) (by decide)) 6 (⟨{ data := #[118, 108, 97, 110, 95, 112, 99, 112] }, 7, 3, false⟩ : field_row) (by decide)) 7 (⟨{ data := #[105, 112, 95, 100, 115, 99, 112] }, 8, 6, false⟩ : field_row) (by decide)) 8 (⟨{ data := #[105, 112, 95, 101, 99, 110] }, 9, 2, false⟩ : field_row) (by decide)) 9 (⟨{ data := #[105, 112, 95, 112, 114, 111, 116, 111] }, 10, 8, false⟩ : field_row) (by decide)) 10 (⟨{ data := #[105, 112, 118, 52, 95, 115, 114, 99] }, 11, 32, true⟩ : field_row) (by decide)) 11 (⟨{ data := #[105, 112, 118, 52, 95, 100, 115, 116] }, 12, 32, true⟩ : field_row) (by decide)) 12 (⟨{ data := #[116, 99, 112, 95, 115, 114, 99] }, 13, 16, false⟩ : field_row) (by decide)) 13 (⟨{ data := #[116, 99, 112, 95, 100, 115, 116] }, 14, 16, false⟩ : field_row) (by decide)) 14 (⟨{ data := #[117, 100, 112, 95, 115, 114, 99] }, 15, 16, false⟩ : field_row) (by decide)) 15 (⟨{ data := #[117, 100, 112, 95, 100, 115, 116] }, 16, 16, false⟩ : field_row) (by decide)) 16 (⟨{ data := #[105, 99, 109, 112, 118, 52, 95, 116, 121, 112, 101] }, 19, 8, false⟩ : field_row) (by decide)) 17 (⟨{ data := #[105, 99, 109, 112, 118, 52, 95, 99, 111, 100, 101] }, 20, 8, false⟩ : field_row) (by decide)) 18 (⟨{ data := #[97, 114, 112, 95, 111, 112] }, 21, 16, false⟩ : field_row) (by decide)) 19 (⟨{ data := #[97, 114, 112, 95, 115, 112, 97] }, 22, 32, true⟩ : field_row) (by decide)) 20 (⟨{ data := #[97, 114, 112, 95, 116, 112, 97] }, 23, 32, true⟩ : field_row) (by decide)) 21 (⟨{ data := #[105, 112, 118, 54, 95, 115, 114, 99] }, 26, 128, true⟩ : field_row) (by decide)) 22 (⟨{ data := #[105, 112, 118, 54, 95, 100, 115, 116] }, 27, 128, true⟩ : field_row) (by decide)) 23 (⟨{ data := #[109, 112, 108, 115, 95, 108, 97, 98, 101, 108] }, 34, 20, false⟩ : field_row) (by decide))) rfl rfl rfl (by kernel_rfl) Zk1 ⟨_, _, Lens.idx 24 Z0r 0 (by decide), _, by kernel_rfl, (vt rfl), _, _, Lens.idx 24 Z0r 1 (by decide), _, by kernel_rfl, (vt rfl), _, _, Lens.idx 24 Z0r 2 (by decide), _, by kernel_rfl, (vt rfl), _, _, Lens.idx 24 Z0r 3 (by decide), _, by kernel_rfl, (vt rfl), _, _, Lens.idx 24 Z0r 4 (by decide), _, by kernel_rfl, (vt rfl), _, _, Lens.idx 24 Z0r 5 (by decide), _, by kernel_rfl, (vt rfl), _, _, Lens.idx 24 Z0r 6 (by decide), _, by kernel_rfl, (vt rfl), _, _, Lens.idx 24 Z0r 7 (by decide), _, by kernel_rfl, (vt rfl), _, _, Lens.idx 24 Z0r 8 (by decide), _, by kernel_rfl, (vt rfl), _, _, Lens.idx 24 Z0r 9 (by decide), _, by kernel_rfl, (vt rfl), _, _, Lens.idx 24 Z0r 10 (by decide), _, by kernel_rfl, (vt rfl), _, _, Lens.idx 24 Z0r 11 (by decide), _, by kernel_rfl, (vt rfl), _, _, Lens.idx 24 Z0r 12 (by decide), _, by kernel_rfl, (vt rfl), _, _, Lens.idx 24 Z0r 13 (by decide), _, by kernel_rfl, (vt rfl), _, _, Lens.idx 24 Z0r 14 (by decide), _, by kernel_rfl, (vt rfl), _, _, Lens.idx 24 Z0r 15 (by decide), _, by kernel_rfl, (vt rfl), _, _, Lens.idx 24 Z0r 16 (by decide), _, by kernel_rfl, (vt rfl), _, _, Lens.idx 24 Z0r 17 (by decide), _, by kernel_rfl, (vt rfl), _, _, Lens.idx 24 Z0r 18 (by decide), _, by kernel_rfl, (vt rfl), _, _, Lens.idx 24 Z0r 19 (by decide), _, by kernel_rfl, (vt rfl), _, _, Lens.idx 24 Z0r 20 (by decide), _, by kernel_rfl, (vt rfl), _, _, Lens.idx 24 Z0r 21 (by decide), _, by kernel_rfl, (vt rfl), _, _, Lens.idx 24 Z0r 22 (by decide), _, by kernel_rfl, (vt rfl), _, _, Lens.idx 24 Z0r 23 (by decide), _, by kernel_rfl, (vt rfl), rfl⟩) rfl ?_
 refine Zg Zmn 1 rfl <| Nl <| rt ?_
 cases h; exact Zc Tryz.results344 rfl (Z00 rfl (i := 1) rfl Zmn)
def Zhf (x1 : Int) : Option field_row :=
 (Z7j x1).bind fun x3 => (bif (!x3) then some (⟨(⟨#[]⟩ : ByteArray), (-1), 0, false⟩ : field_row) else (Zig).bind fun x4 => (lget (Vector.toList x4) x1).bind fun x5 => some x5)
theorem Zos : Q1 Tryz.prog 336 (rd (Z0 .i64)) (rd Z0r) Zhf := fun x1 r h => I0 Tryz.func336 rfl Tryz.ntmps336 rfl fun w H => by
 unfold Zhf at h
 refine SR <| Cv rfl (Zn 3 rfl rfl Z1f) fun g2 => Nl <| sq <| sq ?_
 obtain ⟨x3, hx3, h⟩ := Z9 h
 refine Rg <| Md rfl <| Cl [3] (Zdd _ _ hx3) Zd1 rfl <| Ac (Z0m rfl rfl (vt rfl)) rfl <| Nl <| Cq rfl h (fun h => ?_) (fun h => ?_)
 ·refine SR <| Ac (opb (⟨(⟨#[]⟩ : ByteArray), (-1), 0, false⟩ : field_row) Z1f rfl Zwy (pc Zv7 (vk rfl) <| pn rfl)) rfl <| Zg Za6 3 rfl <| Nl <| rt ?_
  cases h; exact Zc Tryz.results336 rfl (Z00 rfl (i := 3) rfl Za6)
 ·refine sk <| sq ?_
  obtain ⟨x4, hx4, x5, hx5, h⟩ := bs2 h
  refine Rg <| Cl [] (Zr7 _ hx4) Zum rfl <| Md rfl <| Ac (Z74 rfl rfl Zz2 Za6 (vt rfl) (vt rfl) hx5) rfl <| Zg Za6 3 rfl <| Nl <| rt ?_
  cases h; exact Zc Tryz.results336 rfl (Z00 rfl (i := 3) rfl Za6)
def Zbq (x1 : Int) : Option Int :=
 (Zhf x1).bind fun x2 => some x2.bits
theorem Zyx : Q1 Tryz.prog 312 (rd (Z0 .i64)) (rd (Z0 .i64)) Zbq := fun x1 r h => I0 Tryz.func312 rfl Tryz.ntmps312 rfl fun w H => by
 unfold Zbq at h
 refine SR <| Ak rfl <| Nl <| sq ?_
 obtain ⟨x2, hx2, h⟩ := Z9 h
 refine Rg <| Md rfl <| Cl [3] (Zos _ _ hx2) Zu0 rfl <| Ac (Znb Z1g rfl rfl Zwq Zpx Zm rfl (vt rfl)) rfl <| As rfl <| Nl <| rt ?_
 cases h; exact Zc Tryz.results312 rfl (Zb rfl)
def Zbr (n1 : Int) : Option (BitVec 64) :=
 (bif (decide (n1 ≥ 64)) then some (18446744073709551615 : BitVec 64) else (Z8z (1 : BitVec 64) (Z38 n1 0)).bind fun q2 => some (q2 - (1 : BitVec 64)))
theorem Zky : Q1 Tryz.prog 299 (rd (Z0 .i64)) (rd Z0b) Zbr := fun n1 r h => I0 Tryz.func299 rfl Tryz.ntmps299 rfl fun w H => by
 unfold Zbr at h
 refine SR <| Ac (Z0i (A := rd Z0b (0 : BitVec 64)) rfl rfl (vku (0 : BitVec 64) rfl)) rfl <| Nl <| sq <| SR <| Md rfl <| Ac (Z4d rfl rfl (vt rfl) (vk rfl)) rfl <| Nl <| Cq rfl h (fun h => ?_) (fun h => ?_)
 ·refine SR <| Ac (Z0i (A := rd Z0b (18446744073709551615 : BitVec 64)) rfl rfl (vku (18446744073709551615 : BitVec 64) rfl)) rfl <| Nl <| rt ?_
  cases h; exact Zc Tryz.results299 rfl (Zb rfl)
 ·refine sk <| sq ?_
  obtain ⟨q2, hq2, h⟩ := Z9 h
  refine Rg <| Md rfl <| Ac (Zbd rfl rfl (vt rfl) (vk rfl)) rfl <| Ac (Zlk rfl rfl (vku (1 : BitVec 64) rfl) (vt rfl) hq2) rfl <| Ac (Zpr rfl rfl (vt rfl) (vku (1 : BitVec 64) rfl)) rfl <| As rfl <| Nl <| rt ?_
  cases h; exact Zc Tryz.results299 rfl (Zb rfl)
def Z7m (n1 : Int) : Option Wide :=
 (Zbr (IntKind.i64.wrap ((Z4a (Z38 n1 0) 128) - 64))).bind fun x3 => (Zbr (Z4a (Z38 n1 0) 128)).bind fun x4 => some (⟨x3, x4⟩ : Wide)
theorem Zhp : Q1 Tryz.prog 254 (rd (Z0 .i64)) (rd Zo) Z7m := fun n1 r h => I0 Tryz.func254 rfl Tryz.ntmps254 rfl fun w H => by
 unfold Z7m at h
 refine SR <| Cv rfl (Zn 3 rfl rfl Z29) fun g2 => Nl <| SR <| Md rfl <| Ac (Zbd rfl rfl (vt rfl) (vk rfl)) rfl <| Ac (Zgj rfl rfl (vt rfl) (vk rfl)) rfl <| As rfl <| Nl <| sq ?_
 obtain ⟨x3, hx3, x4, hx4, h⟩ := bs2 h
 refine Rg <| Md rfl <| Ac (Z0j rfl rfl (vt rfl) (vk rfl)) rfl <| Cl [7] (Zky _ _ hx3) Zkm rfl <| Md rfl <| Cl [9] (Zky _ _ hx4) Zkm rfl <| Ac (opb (⟨x3, x4⟩ : Wide) Z29 rfl Z4h (pc Z6k (vt rfl) <| pc Z64 (vt rfl) <| pn rfl)) rfl <| Zg Zw 3 rfl <| Nl <| rt ?_
 cases h; exact Zc Tryz.results254 rfl (Z00 rfl (i := 3) rfl Zw)
def Zc8 (o1 : Oxm) : Option Tern :=
 (Z7j o1.Field).bind fun x4 => (bif (!x4) then some (⟨Z02, Z02⟩ : Tern) else (bif o1.Masked then some (⟨o1.Value, o1.Mask⟩ : Tern) else (Zbq o1.Field).bind fun x5 => (Z7m x5).bind fun x6 => some (⟨o1.Value, x6⟩ : Tern)))
theorem Zjv : Q1 Tryz.prog 275 (rd Z12) (rd Z4) Zc8 := fun o1 r h => I0 Tryz.func275 rfl Tryz.ntmps275 rfl fun w H => by
 unfold Zc8 at h
 refine SR <| Cv rfl (Zs 2 rfl rfl (vt rfl)) fun g2 => Cv rfl (Zn 3 rfl rfl Z14) fun g3 => Nl <| sq <| bk <| sq ?_
 obtain ⟨x4, hx4, h⟩ := Z9 h
 refine Rg <| Zt Z4p Z5w rfl <| Ld Zm 2 rfl <| Cl [5] (Zdd _ _ hx4) Zd1 rfl <| Ac (Z0m rfl rfl (vt rfl)) rfl <| As rfl <| Nl <| Cq rfl h (fun h => ?_) (fun h => ?_)
 ·refine SR <| Ac (opb (⟨Z02, Z02⟩ : Tern) Z14 rfl Z3z (pn rfl)) rfl <| Zg Zx 3 rfl <| Nl <| rt ?_
  cases h; exact Zc Tryz.results275 rfl (Z00 rfl (i := 3) rfl Zx)
 ·refine SR <| Zt Zea Zfq rfl <| Ld ty4 2 rfl <| As rfl <| Nl <| Cq rfl h (fun h => ?_) (fun h => ?_)
  ·refine SR <| Zt Zb6 Ze5 rfl <| Ld Zw 2 rfl <| Zt Zbw Zii rfl <| Ld Zw 2 rfl <| Ac (opb (⟨o1.Value, o1.Mask⟩ : Tern) Z14 rfl Z3z (pc Z51 (vt rfl) <| pc Z4k (vt rfl) <| pn rfl)) rfl <| Zg Zx 3 rfl <| Nl <| rt ?_
   cases h; exact Zc Tryz.results275 rfl (Z00 rfl (i := 3) rfl Zx)
  ·refine sk <| sq ?_
   obtain ⟨x5, hx5, x6, hx6, h⟩ := bs2 h
   refine AR Z01 (by kernel_rfl) <| SFd Zb6 Ze5 rfl <| Zu Zw 2 rfl <| SFd Z4p Z5w rfl <| Zu Zm 2 rfl <| SCl [20] (Zyx _ _ hx5) Zps rfl <| SCl [21] (Zhp _ _ hx6) Zg4 rfl <| Sd (lo [18, 22] [] rfl fun S hs hr => opb (⟨o1.Value, x6⟩ : Tern) Z14 rfl Z3z (pc Z51 (vh hs 18 rfl rfl) <| pc Z4k (vh hs 22 rfl rfl) <| pn rfl)) <| SSt Zx 3 rfl <| Sn <| rt ?_
   cases h; exact Zc Tryz.results275 rfl (Z00 rfl (i := 3) rfl Zx)
def Z7x : (List Oxm) → Nat → Zi → Option Zi
 | [], i7, b6 => some b6
 | x9 :: l8, i7, b6 => (Z7j x9.Field).bind fun x11 => (bif x11 then (Zc8 x9).bind fun x12 => (chk 24 x9.Field).bind fun j13 => (Z7x l8) (i7 + 1) (Vector.set b6 j13.1 x12 j13.2) else (Z7x l8) (i7 + 1) b6)
def Zia (l1 : (List Oxm)) : Option Zi :=
 (Zcd).bind fun x3 => Z7x l1 0 x3
theorem Y1s : Q1 Tryz.prog 229 (rd (Z1 Z12)) (rd (Z2 24 Z4)) Zia := fun l1 r h => I0 Tryz.func229 rfl Tryz.ntmps229 rfl fun w H => by
 unfold Zia at h
 refine SR <| Cv rfl (Zn 3 rfl rfl Z15) fun g2 => Nl <| sq ?_
 obtain ⟨x3, hx3, h⟩ := Z9 h
 refine Rg <| Cl [] (Zm6 _ hx3) e73 rfl <| Cv rfl (Zn 4 rfl rfl Z15) fun g4 => Zg Zy 4 rfl <| Nl <| sq <| SR <| Md rfl <| Ac (Z0a rfl rfl Zl9 (vt rfl)) rfl <| Mk rfl <| Nl <| bk <| LG (d := []) (ν := (List Oxm) × Nat × Zi) (fun (l8, i7, b6) => (Sfx l1 i7 l8 ∧ Z7x l8 i7 b6 = some r, l8.length, [(2, Zj g2 (Lens.id (Z2 24 Z4))), (3, Zj g4 (Lens.id (Z2 24 Z4))), (7, rd (Z1 Z12) l1), (8, rd (Z0 .i64) (l1.length : Int)), (9, rd (Z0 .i64) (i7 : Int))], [(3, Zk g2 87 (Z2 24 Z4) (Vector.replicate 24 Z0n)), (4, Zk g4 87 (Z2 24 Z4) b6)])) (l1, 0, x3) ⟨Sfx.start _, h⟩ (FX rfl) ?_
 rintro ⟨l8, i7, b6⟩ ⟨hsf1, h⟩
 dsimp only at hsf1 h ⊢
 cases l8 with
 | nil =>
  unfold Z7x at h
  refine SR <| Ac (Zl rfl rfl (vt rfl) (vt rfl)) rfl <| Nl <| sq <| Cn rfl (fun hc => absurd (of_decide_eq_true hc) hsf1.nil) (fun hc => ?_)
  refine xt <| SR <| Ld Zy 4 rfl <| Zg Zy 3 rfl <| Nl <| rt ?_
  cases h; exact Zc Tryz.results229 rfl (Z00 rfl (i := 3) rfl Zy)
 | cons x9 l8 =>
  unfold Z7x at h
  refine SR <| Ac (Zl rfl rfl (vt rfl) (vt rfl)) rfl <| Nl <| sq <| Cn rfl (fun hc => ?_) (fun hc => absurd hsf1.cons (of_decide_eq_false hc))
  have hlti7 := of_decide_eq_true hc
  refine sk <| sq <| bk <| SR <| Ac (Z04 rfl rfl Zl9 (vt rfl) (vt rfl) hsf1.lget) rfl <| Lp1 Z6n rfl <| Cv rfl (Zn 6 rfl rfl Zwl) fun g10 => Zg Z6n 6 rfl <| Nl <| sq ?_
  obtain ⟨x11, hx11, h⟩ := Z9 h
  refine Rg <| Zt Z4p Z5w rfl <| Ld Zm 6 rfl <| Cl [14] (Zdd _ _ hx11) Zd1 rfl <| Nl <| Cq rfl h (fun h => ?_) (fun h => ?_)
  ·obtain ⟨x12, hx12, j13, hj13, h⟩ := bs2 h
   refine AR Z01 (by kernel_rfl) <| SFd Z4p Z5w rfl <| Zu Zm 6 rfl <| Zu Z6n 6 rfl <| SCl [18] (Zjv _ _ hx12) Zmk rfl <| Sd (lo [3, 17] [] rfl fun S hs hr => Z1u rfl rfl Z26 (vh hs 3 rfl rfl) (vh hs 17 rfl rfl) hj13) <| SSt Zx 4 rfl <| Sn <| Rg <| Ac (Z0y (t := 8) rfl rfl (vt rfl) (vk rfl) (vt rfl) hlti7) rfl <| Md rfl <| Nl ?_
   exact ⟨(_, _, _), Nat.lt_succ_self _, ⟨hsf1.next, h⟩, FX rfl⟩
  ·refine sk <| Rg <| Ac (Z0y (t := 8) rfl rfl (vt rfl) (vk rfl) (vt rfl) hlti7) rfl <| Md rfl <| Nl ?_
   exact ⟨(_, _, _), Nat.lt_succ_self _, ⟨hsf1.next, h⟩, FX rfl⟩
end Go.Proofs.YtknpgojdkobgjaaGreat.W
set_option maxRecDepth 4000
namespace Go.Proofs.YtknpgojdkobgjaaGreat.W
open Go Go.Wb
theorem Zdx : Ent Tryz.prog 177 := Ent.mk Tryz.func177 rfl rfl
theorem Z4n : Ent Tryz.prog 127 := Ent.mk Tryz.func127 rfl rfl
theorem Zs3 : Ent Tryz.prog 197 := Ent.mk Tryz.func197 rfl rfl
theorem Zlm : Ent Tryz.prog 196 := Ent.mk Tryz.func196 rfl rfl
theorem Zvm : Ent Tryz.prog 229 := Ent.mk Tryz.func229 rfl rfl
theorem Zbo : Ent Tryz.prog 126 := Ent.mk Tryz.func126 rfl rfl
theorem Zt3 : Ent Tryz.prog 237 := Ent.mk Tryz.func237 rfl rfl
def Z6x (a1 : Wide) (b2 : Wide) : Option Wide :=
 some (⟨(a1.Hi &&& b2.Hi), (a1.Lo &&& b2.Lo)⟩ : Wide)
theorem Zbl : Q2 Tryz.prog 177 (rd Zo) (rd Zo) (rd Zo) Z6x := fun a1 b2 r h => I0 Tryz.func177 rfl Tryz.ntmps177 rfl fun w H => by
 unfold Z6x at h
 refine SR <| Cv rfl (Zs 3 rfl rfl (vt rfl)) fun g3 => Cv rfl (Zs 4 rfl rfl (vt rfl)) fun g4 => Cv rfl (Zn 5 rfl rfl Z29) fun g5 => Nl <| SR <| Zt lWide_0 Z3j rfl <| Ld Z19 3 rfl <| Zt lWide_0 Z3j rfl <| Ld Z19 4 rfl <| Ac (Z4i rfl rfl (vt rfl) (vt rfl)) rfl <| Zt lWide_1 Z3l rfl <| Ld Z19 3 rfl <| Zt lWide_1 Z3l rfl <| Ld Z19 4 rfl <| Ac (Z4i rfl rfl (vt rfl) (vt rfl)) rfl <| Ac (opb (⟨(a1.Hi &&& b2.Hi), (a1.Lo &&& b2.Lo)⟩ : Wide) Z29 rfl Z4h (pc Z6k (vt rfl) <| pc Z64 (vt rfl) <| pn rfl)) rfl <| Zg Zw 5 rfl <| Nl <| rt ?_
 cases h; exact Zc Tryz.results177 rfl (Z00 rfl (i := 5) rfl Zw)
def Z3k (t1 : Tern) : Option Tern :=
 (Z6x t1.Value t1.Mask).bind fun x4 => some (⟨x4, t1.Mask⟩ : Tern)
theorem Z4o : Q1 Tryz.prog 127 (rd Z4) (rd Z4) Z3k := fun t1 r h => I0 Tryz.func127 rfl Tryz.ntmps127 rfl fun w H => by
 unfold Z3k at h
 refine SR <| Cv rfl (Zs 2 rfl rfl (vt rfl)) fun g2 => Cv rfl (Zn 3 rfl rfl Z14) fun g3 => Nl <| sq ?_
 obtain ⟨x4, hx4, h⟩ := Z9 h
 refine AR Z01 (by kernel_rfl) <| SFd lTern_0 Z2h rfl <| Zu Zw 2 rfl <| SFd lTern_1 Z21 rfl <| Zu Zw 2 rfl <| SCl [4, 6] (Zbl _ _ _ hx4) Zdx rfl <| SFd lTern_1 Z21 rfl <| Zu Zw 2 rfl <| Sd (lo [7, 9] [] rfl fun S hs hr => opb (⟨x4, t1.Mask⟩ : Tern) Z14 rfl Z3z (pc Z51 (vh hs 7 rfl rfl) <| pc Z4k (vh hs 9 rfl rfl) <| pn rfl)) <| SSt Zx 3 rfl <| Sn <| rt ?_
 cases h; exact Zc Tryz.results127 rfl (Z00 rfl (i := 3) rfl Zx)
def Z7f (i1 : Int) (x2 : Zi) : Option (Tern × Bool) :=
 (chk 24 i1).bind fun j4 => (Z3k (Vector.get x2 j4)).bind fun x5 => some (x5, true)
theorem Zsv : Q2 Tryz.prog 197 (rd (Z0 .i64)) (rp (Z2 24 Z4)) (fun r => Z17 (rd Z4 r.1) (rd Z6 r.2)) Z7f := fun i1 x2 r h => I0 Tryz.func197 rfl Tryz.ntmps197 rfl fun w H => by
 unfold Z7f at h
 refine SR <| Cv rfl (Zn 4 rfl rfl Z14) fun g3 => Ab rfl <| Nl <| sq ?_
 obtain ⟨j4, hj4, x5, hx5, h⟩ := bs2 h
 refine Rg <| Md rfl <| Ac (Z3x rfl rfl Z26 (vt rfl) (vt rfl) hj4) rfl <| Lp1 Zx rfl <| Cl [7] (Z4o _ _ hx5) Z4n rfl <| Zg Zx 4 rfl <| Ab rfl <| Nl <| rt ?_
 cases h; exact Z1z Tryz.results197 rfl (Z00 rfl (i := 4) rfl Zx) (Zb rfl)
def Z4y (x1 : (Int → Option (Tern × Bool))) : Nat → Nat → Zi → Option (Zi × Bool)
 | 0, i6, b5 => some (b5, true)
 | m7 + 1, i6, b5 => (x1 (i6 : Int)).bind fun x8 => (bif (!x8.2) then some ((Vector.replicate 24 Z0n), false) else (chk 24 (i6 : Int)).bind fun j10 => (Z4y x1 m7) (i6 + 1) (Vector.set b5 j10.1 x8.1 j10.2))
def Zaa (x1 : (Int → Option (Tern × Bool))) : Option (Zi × Bool) :=
 Z4y x1 (24 : Int).toNat 0 (Vector.replicate 24 Z0n)
theorem Zk6 : Q1 Tryz.prog 196 (fa1 Tryz.prog (Z0 .i64) (fun (y : (Tern × Bool)) => Z17 (rd Z4 y.1) (rd Z6 y.2))) (fun r => Z17 (rd (Z2 24 Z4) r.1) (rd Z6 r.2)) Zaa := fun x1 r h => I0 Tryz.func196 rfl Tryz.ntmps196 rfl fun w H => by
 unfold Zaa at h
 refine SR <| Cv rfl (Zn 3 rfl rfl Z15) fun g2 => Ab rfl <| Nl <| SR <| Cv rfl (Zn 5 rfl rfl Z15) fun g3 => Nl <| sq <| SR <| Mk rfl <| Nl <| bk <| LG (d := []) (ν := Nat × Nat × Zi) (fun (m7, i6, b5) => (Cnt 24 i6 m7 ∧ Z4y x1 m7 i6 b5 = some r, m7, [(0, fa1 Tryz.prog (Z0 .i64) (fun (y : (Tern × Bool)) => Z17 (rd Z4 y.1) (rd Z6 y.2)) x1), (2, Zj g2 (Lens.id (Z2 24 Z4))), (4, Zj g3 (Lens.id (Z2 24 Z4))), (8, rd (Z0 .i64) (i6 : Int))], [(3, Zk g2 87 (Z2 24 Z4) (Vector.replicate 24 Z0n)), (5, Zk g3 87 (Z2 24 Z4) b5)])) ((24 : Int).toNat, 0, (Vector.replicate 24 Z0n)) ⟨Cnt.start _, h⟩ (FX rfl) ?_
 rintro ⟨m7, i6, b5⟩ ⟨hsf1, h⟩
 dsimp only at hsf1 h ⊢
 cases m7 with
 | zero =>
  unfold Z4y at h
  refine SR <| Ac (Zl rfl rfl (vt rfl) (vk rfl)) rfl <| Nl <| sq <| Cn rfl (fun hc => absurd (of_decide_eq_true hc) hsf1.zero) (fun hc => ?_)
  refine xt <| SR <| Ld Zy 5 rfl <| Zg Zy 3 rfl <| Ab rfl <| Nl <| rt ?_
  cases h; exact Z1z Tryz.results196 rfl (Z00 rfl (i := 3) rfl Zy) (Zb rfl)
 | succ m7 =>
  unfold Z4y at h
  refine SR <| Ac (Zl rfl rfl (vt rfl) (vk rfl)) rfl <| Nl <| sq <| Cn rfl (fun hc => ?_) (fun hc => absurd hsf1.succ (of_decide_eq_false hc))
  have hlti6 := of_decide_eq_true hc
  refine sk <| sq <| bk <| SR <| Md rfl <| As rfl <| Nl <| sq ?_
  obtain ⟨x8, hx8, h⟩ := Z9 h
  refine Rg <| Ac (Zh (A := fa1 Tryz.prog (Z0 .i64) (fun (y : (Tern × Bool)) => Z17 (rd Z4 y.1) (rd Z6 y.2)) x1) rfl rfl (vt rfl)) rfl <| Md rfl <| Ac (Y0i (B := (fun (y : (Tern × Bool)) => Z17 (rd Z4 y.1) (rd Z6 y.2))) hx8 rfl rfl (vt rfl) (vt rfl)) rfl <| Mt2 rfl <| Ac (Z20 rfl rfl (vt rfl)) rfl <| Ac (Z22 rfl rfl (vt rfl)) rfl <| Cv rfl (Zn 7 rfl rfl Z14) fun g9 => Zg Zx 7 rfl <| As rfl <| Nl <| sq <| SR <| Md rfl <| Ac (Z0m rfl rfl (vt rfl)) rfl <| Nl <| Cq rfl h (fun h => ?_) (fun h => ?_)
  ·refine SR <| Ac (Z10 (ps := []) (x := (Vector.replicate 24 Z0n)) rfl rfl rfl (by kernel_rfl) Z15 rfl) rfl <| Zg Zy 3 rfl <| Ab rfl <| Nl <| rt ?_
   cases h; exact Z1z Tryz.results196 rfl (Z00 rfl (i := 3) rfl Zy) (Zb rfl)
  ·refine sk ?_
   obtain ⟨j10, hj10, h⟩ := Z9 h
   refine Rg <| Md rfl <| Ld Zx 7 rfl <| Ac (Z1u rfl rfl Z26 (vt rfl) (vt rfl) hj10) rfl <| Zg Zx 5 rfl <| Nl <| Rg <| Ac (Z4m rfl rfl (vt rfl) (vk rfl) rfl hlti6) rfl <| Md rfl <| Nl ?_
   exact ⟨(_, _, _), Nat.lt_succ_self _, ⟨hsf1.next, h⟩, FX rfl⟩
def Z5k (x1 : Zi) : Option Zi :=
 (Zaa (fun x => Z7f x x1)).bind fun x4 => some x4.1
theorem Zer : Q1 Tryz.prog 126 (rd (Z2 24 Z4)) (rd (Z2 24 Z4)) Z5k := fun x1 r h => I0 Tryz.func126 rfl Tryz.ntmps126 rfl fun w H => by
 unfold Z5k at h
 refine SR <| Cv rfl (Zs 2 rfl rfl (vt rfl)) fun g2 => Cv rfl (Zn 3 rfl rfl Z15) fun g3 => Nl <| sq <| AW.freezeB 1 2 rfl rfl rfl ?_
 obtain ⟨x4, hx4, h⟩ := Z9 h
 refine Rg <| Ac (Zoh (fs := []) (FAs := []) (cs := [.tmp 1]) (CAs := [rp (Z2 24 Z4) x1]) (kx := (Z0 .i64)) (B := (fun (y : (Tern × Bool)) => Z17 (rd Z4 y.1) (rd Z6 y.2))) (fun x => Z7f x x1) rfl rfl Zs3 trivial ⟨vt rfl, trivial⟩ (fun x y h => Zsv _ _ y h)) rfl <| Cl [6] (Zk6 _ _ hx4) Zlm rfl <| Mt2 rfl <| Ac (Z20 rfl rfl (vt rfl)) rfl <| Ac (Z22 rfl rfl (vt rfl)) rfl <| Cv rfl (Zn 4 rfl rfl Z15) fun g5 => Zg Zy 4 rfl <| As rfl <| Nl <| SR <| Ld Zy 4 rfl <| Zg Zy 3 rfl <| Nl <| rt ?_
 cases h; exact Zc Tryz.results126 rfl (Z00 rfl (i := 3) rfl Zy)
def Ziy (x1 : Flow) : Option Zi :=
 (Zia x1.Match).bind fun x4 => (Z5k x4).bind fun x5 => some x5
theorem Zx7 : Q1 Tryz.prog 157 (rd Z23) (rd (Z2 24 Z4)) Ziy := fun x1 r h => I0 Tryz.func157 rfl Tryz.ntmps157 rfl fun w H => by
 unfold Ziy at h
 refine SR <| Cv rfl (Zs 2 rfl rfl (vt rfl)) fun g2 => Cv rfl (Zn 3 rfl rfl Z15) fun g3 => Nl <| sq ?_
 obtain ⟨x4, hx4, x5, hx5, h⟩ := bs2 h
 refine Rg <| Zt Zny Y0o rfl <| Ld Zvz 2 rfl <| Cl [4] (Y1s _ _ hx4) Zvm rfl <| Cl [5] (Zer _ _ hx5) Zbo rfl <| Zg Zy 3 rfl <| Nl <| rt ?_
 cases h; exact Zc Tryz.results157 rfl (Z00 rfl (i := 3) rfl Zy)
def Zhx (a1 : Wide) (b2 : Wide) : Option Wide :=
 some (⟨(a1.Hi ^^^ b2.Hi), (a1.Lo ^^^ b2.Lo)⟩ : Wide)
theorem Zv5 : Q2 Tryz.prog 237 (rd Zo) (rd Zo) (rd Zo) Zhx := fun a1 b2 r h => I0 Tryz.func237 rfl Tryz.ntmps237 rfl fun w H => by
 unfold Zhx at h
 refine SR <| Cv rfl (Zs 3 rfl rfl (vt rfl)) fun g3 => Cv rfl (Zs 4 rfl rfl (vt rfl)) fun g4 => Cv rfl (Zn 5 rfl rfl Z29) fun g5 => Nl <| SR <| Zt lWide_0 Z3j rfl <| Ld Z19 3 rfl <| Zt lWide_0 Z3j rfl <| Ld Z19 4 rfl <| Ac (Znt rfl rfl (vt rfl) (vt rfl)) rfl <| Zt lWide_1 Z3l rfl <| Ld Z19 3 rfl <| Zt lWide_1 Z3l rfl <| Ld Z19 4 rfl <| Ac (Znt rfl rfl (vt rfl) (vt rfl)) rfl <| Ac (opb (⟨(a1.Hi ^^^ b2.Hi), (a1.Lo ^^^ b2.Lo)⟩ : Wide) Z29 rfl Z4h (pc Z6k (vt rfl) <| pc Z64 (vt rfl) <| pn rfl)) rfl <| Zg Zw 5 rfl <| Nl <| rt ?_
 cases h; exact Zc Tryz.results237 rfl (Z00 rfl (i := 5) rfl Zw)
def Zfe (a1 : Wide) (b2 : Wide) (m3 : Wide) : Option Wide :=
 (Zhx a1 b2).bind fun x8 => (Z6x x8 m3).bind fun x9 => some x9
theorem Zr1 : Q3 Tryz.prog 174 (rd Zo) (rd Zo) (rd Zo) (rd Zo) Zfe := fun a1 b2 m3 r h => I0 Tryz.func174 rfl Tryz.ntmps174 rfl fun w H => by
 unfold Zfe at h
 refine SR <| Cv rfl (Zs 4 rfl rfl (vt rfl)) fun g4 => Cv rfl (Zs 5 rfl rfl (vt rfl)) fun g5 => Cv rfl (Zs 6 rfl rfl (vt rfl)) fun g6 => Cv rfl (Zn 7 rfl rfl Z29) fun g7 => Nl <| sq ?_
 obtain ⟨x8, hx8, x9, hx9, h⟩ := bs2 h
 refine AR Z01 (by kernel_rfl) <| Zu Zw 4 rfl <| Zu Zw 5 rfl <| SCl [7, 8] (Zv5 _ _ _ hx8) Zt3 rfl <| Zu Zw 6 rfl <| SCl [9, 10] (Zbl _ _ _ hx9) Zdx rfl <| SSt Zw 7 rfl <| Sn <| rt ?_
 cases h; exact Zc Tryz.results174 rfl (Z00 rfl (i := 7) rfl Zw)
def Z9m (a1 : Wide) : Option Bool :=
 some (decide ((a1.Hi ||| a1.Lo) = (0 : BitVec 64)))
theorem Zgt : Q1 Tryz.prog 173 (rd Zo) (rd Z6) Z9m := fun a1 r h => I0 Tryz.func173 rfl Tryz.ntmps173 rfl fun w H => by
 unfold Z9m at h
 refine SR <| Cv rfl (Zs 2 rfl rfl (vt rfl)) fun g2 => Ab rfl <| Nl <| SR <| Zt lWide_0 Z3j rfl <| Ld Z19 2 rfl <| Zt lWide_1 Z3l rfl <| Ld Z19 2 rfl <| Ac (Zi1 rfl rfl (vt rfl) (vt rfl)) rfl <| Ac (Y1o rfl rfl (vt rfl) (vku (0 : BitVec 64) rfl)) rfl <| As rfl <| Nl <| rt ?_
 cases h; exact Zc Tryz.results173 rfl (Zb rfl)
end Go.Proofs.YtknpgojdkobgjaaGreat.W
set_option maxRecDepth 4000
namespace Go.Proofs.YtknpgojdkobgjaaGreat.W
open Go Go.Wb
theorem Zxv : Ent Tryz.prog 174 := Ent.mk Tryz.func174 rfl rfl
theorem Zij : Ent Tryz.prog 173 := Ent.mk Tryz.func173 rfl rfl
theorem Zn0 : Ent Tryz.prog 106 := Ent.mk Tryz.func106 rfl rfl
theorem Z8a : Ent Tryz.prog 175 := Ent.mk Tryz.func175 rfl rfl
theorem Zbi : Ent Tryz.prog 176 := Ent.mk Tryz.func176 rfl rfl
theorem Zxd : Ent Tryz.prog 261 := Ent.mk Tryz.func261 rfl rfl
theorem Zwt : Ent Tryz.prog 260 := Ent.mk Tryz.func260 rfl rfl
theorem Zn1 : Ent Tryz.prog 259 := Ent.mk Tryz.func259 rfl rfl
theorem Zw3 : Ent Tryz.prog 262 := Ent.mk Tryz.func262 rfl rfl
def Zbx (t1 : Tern) (x2 : Wide) : Option Bool :=
 (Zfe t1.Value x2 t1.Mask).bind fun x5 => (Z9m x5).bind fun x6 => some x6
theorem Zmj : Q2 Tryz.prog 106 (rd Z4) (rd Zo) (rd Z6) Zbx := fun t1 x2 r h => I0 Tryz.func106 rfl Tryz.ntmps106 rfl fun w H => by
 unfold Zbx at h
 refine SR <| Cv rfl (Zs 3 rfl rfl (vt rfl)) fun g3 => Cv rfl (Zs 4 rfl rfl (vt rfl)) fun g4 => Ab rfl <| Nl <| sq ?_
 obtain ⟨x5, hx5, x6, hx6, h⟩ := bs2 h
 refine Rg <| Zt lTern_0 Z2h rfl <| Ld Zw 3 rfl <| Ld Zw 4 rfl <| Zt lTern_1 Z21 rfl <| Ld Zw 3 rfl <| Cl [6, 7, 9] (Zr1 _ _ _ _ hx5) Zxv rfl <| Cl [10] (Zgt _ _ hx6) Zij rfl <| As rfl <| Nl <| rt ?_
 cases h; exact Zc Tryz.results106 rfl (Zb rfl)
def Z5s (a1 : Wide) (b2 : Wide) : Option Wide :=
 some (⟨(a1.Hi ||| b2.Hi), (a1.Lo ||| b2.Lo)⟩ : Wide)
theorem Z7u : Q2 Tryz.prog 175 (rd Zo) (rd Zo) (rd Zo) Z5s := fun a1 b2 r h => I0 Tryz.func175 rfl Tryz.ntmps175 rfl fun w H => by
 unfold Z5s at h
 refine SR <| Cv rfl (Zs 3 rfl rfl (vt rfl)) fun g3 => Cv rfl (Zs 4 rfl rfl (vt rfl)) fun g4 => Cv rfl (Zn 5 rfl rfl Z29) fun g5 => Nl <| SR <| Zt lWide_0 Z3j rfl <| Ld Z19 3 rfl <| Zt lWide_0 Z3j rfl <| Ld Z19 4 rfl <| Ac (Zi1 rfl rfl (vt rfl) (vt rfl)) rfl <| Zt lWide_1 Z3l rfl <| Ld Z19 3 rfl <| Zt lWide_1 Z3l rfl <| Ld Z19 4 rfl <| Ac (Zi1 rfl rfl (vt rfl) (vt rfl)) rfl <| Ac (opb (⟨(a1.Hi ||| b2.Hi), (a1.Lo ||| b2.Lo)⟩ : Wide) Z29 rfl Z4h (pc Z6k (vt rfl) <| pc Z64 (vt rfl) <| pn rfl)) rfl <| Zg Zw 5 rfl <| Nl <| rt ?_
 cases h; exact Zc Tryz.results175 rfl (Z00 rfl (i := 5) rfl Zw)
def Zdh (a1 : Tern) (b2 : Tern) : Option (Tern × Bool) :=
 (Z6x a1.Mask b2.Mask).bind fun x6 => (Zbx (⟨a1.Value, x6⟩ : Tern) b2.Value).bind fun x7 => (bif (!x7) then some ((⟨Z02, Z02⟩ : Tern), false) else (Z3k a1).bind fun x8 => (Z3k b2).bind fun x9 => (Z5s x8.Value x9.Value).bind fun x10 => (Z5s x8.Mask x9.Mask).bind fun x11 => some ((⟨x10, x11⟩ : Tern), true))
theorem Znv : Q2 Tryz.prog 259 (rd Z4) (rd Z4) (fun r => Z17 (rd Z4 r.1) (rd Z6 r.2)) Zdh := fun a1 b2 r h => I0 Tryz.func259 rfl Tryz.ntmps259 rfl fun w H => by
 unfold Zdh at h
 refine SR <| Cv rfl (Zs 3 rfl rfl (vt rfl)) fun g3 => Cv rfl (Zs 4 rfl rfl (vt rfl)) fun g4 => Cv rfl (Zn 5 rfl rfl Z14) fun g5 => Ab rfl <| Nl <| sq <| sq ?_
 obtain ⟨x6, hx6, x7, hx7, h⟩ := bs2 h
 refine AR Z01 (by kernel_rfl) <| SFd lTern_0 Z2h rfl <| Zu Zw 3 rfl <| SFd lTern_1 Z21 rfl <| Zu Zw 3 rfl <| SFd lTern_1 Z21 rfl <| Zu Zw 4 rfl <| SCl [9, 11] (Zbl _ _ _ hx6) Zdx rfl <| Sd (lo [7, 12] [] rfl fun S hs hr => opb (⟨a1.Value, x6⟩ : Tern) Z14 rfl Z3z (pc Z51 (vh hs 7 rfl rfl) <| pc Z4k (vh hs 12 rfl rfl) <| pn rfl)) <| SFd lTern_0 Z2h rfl <| Zu Zw 4 rfl <| SCl [13, 15] (Zmj _ _ _ hx7) Zn0 rfl <| Sd (lo [16] [] rfl fun S hs hr => Z0m rfl rfl (vh hs 16 rfl rfl)) <| Sn <| Cq rfl h (fun h => ?_) (fun h => ?_)
 ·refine SR <| Ac (opb (⟨Z02, Z02⟩ : Tern) Z14 rfl Z3z (pn rfl)) rfl <| Zg Zx 5 rfl <| Ab rfl <| Nl <| rt ?_
  cases h; exact Z1z Tryz.results259 rfl (Z00 rfl (i := 5) rfl Zx) (Zb rfl)
 ·refine sk <| sq ?_
  obtain ⟨x8, hx8, x9, hx9, h⟩ := bs2 h
  refine AR Z01 (by kernel_rfl) <| Zu Zx 3 rfl <| SCl [19] (Z4o _ _ hx8) Z4n rfl <| Zu Zx 4 rfl <| SCl [21] (Z4o _ _ hx9) Z4n rfl <| SSt Zx 3 rfl <| SSt Zx 4 rfl <| Sn <| sq ?_
  obtain ⟨x10, hx10, x11, hx11, h⟩ := bs2 h
  refine AR Z01 (by kernel_rfl) <| SFd lTern_0 Z2h rfl <| Zu Zw 3 rfl <| SFd lTern_0 Z2h rfl <| Zu Zw 4 rfl <| SCl [24, 26] (Z7u _ _ _ hx10) Z8a rfl <| SFd lTern_1 Z21 rfl <| Zu Zw 3 rfl <| SFd lTern_1 Z21 rfl <| Zu Zw 4 rfl <| SCl [29, 31] (Z7u _ _ _ hx11) Z8a rfl <| Sd (lo [27, 32] [] rfl fun S hs hr => opb (⟨x10, x11⟩ : Tern) Z14 rfl Z3z (pc Z51 (vh hs 27 rfl rfl) <| pc Z4k (vh hs 32 rfl rfl) <| pn rfl)) <| SSt Zx 5 rfl <| Sd (lo [] [] rfl fun S hs hr => Z0i (A := rd Z6 true) rfl rfl vb) <| Sn <| rt ?_
  cases h; exact Z1z Tryz.results259 rfl (Z00 rfl (i := 5) rfl Zx) (Zb rfl)
def Z6v (a1 : Wide) (b2 : Wide) : Option Wide :=
 some (⟨(a1.Hi &&& ~~~b2.Hi), (a1.Lo &&& ~~~b2.Lo)⟩ : Wide)
theorem Zal : Q2 Tryz.prog 176 (rd Zo) (rd Zo) (rd Zo) Z6v := fun a1 b2 r h => I0 Tryz.func176 rfl Tryz.ntmps176 rfl fun w H => by
 unfold Z6v at h
 refine SR <| Cv rfl (Zs 3 rfl rfl (vt rfl)) fun g3 => Cv rfl (Zs 4 rfl rfl (vt rfl)) fun g4 => Cv rfl (Zn 5 rfl rfl Z29) fun g5 => Nl <| SR <| Zt lWide_0 Z3j rfl <| Ld Z19 3 rfl <| Zt lWide_0 Z3j rfl <| Ld Z19 4 rfl <| Ac (Zlu rfl rfl (vt rfl) (vt rfl)) rfl <| Zt lWide_1 Z3l rfl <| Ld Z19 3 rfl <| Zt lWide_1 Z3l rfl <| Ld Z19 4 rfl <| Ac (Zlu rfl rfl (vt rfl) (vt rfl)) rfl <| Ac (opb (⟨(a1.Hi &&& ~~~b2.Hi), (a1.Lo &&& ~~~b2.Lo)⟩ : Wide) Z29 rfl Z4h (pc Z6k (vt rfl) <| pc Z64 (vt rfl) <| pn rfl)) rfl <| Zg Zw 5 rfl <| Nl <| rt ?_
 cases h; exact Zc Tryz.results176 rfl (Z00 rfl (i := 5) rfl Zw)
def Zdp (i1 : Int) (x2 : Zi) (x3 : Zi) : Option Tern :=
 (chk 24 i1).bind fun j5 => (chk 24 i1).bind fun j6 => (chk 24 i1).bind fun j7 => (Z6v ((Vector.get x2 j6).Mask) ((Vector.get x3 j7).Mask)).bind fun x8 => (Z3k (⟨(Vector.get x2 j5).Value, x8⟩ : Tern)).bind fun x9 => some x9
theorem Zq0 : Q3 Tryz.prog 261 (rd (Z0 .i64)) (rp (Z2 24 Z4)) (rp (Z2 24 Z4)) (rd Z4) Zdp := fun i1 x2 x3 r h => I0 Tryz.func261 rfl Tryz.ntmps261 rfl fun w H => by
 unfold Zdp at h
 refine SR <| Cv rfl (Zn 5 rfl rfl Z14) fun g4 => Nl <| sq ?_
 obtain ⟨j5, hj5, j6, hj6, j7, hj7, x8, hx8, h⟩ := bs4 h
 obtain ⟨x9, hx9, h⟩ := Z9 h
 refine AR Z01 (by kernel_rfl) <| Zq rfl <| Sd (lo [1, 5] [] rfl fun S hs hr => Z3x rfl rfl Z26 (vh hs 1 rfl rfl) (vh hs 5 rfl rfl) hj5) <| SFp lTern_0 Z2h rfl <| SLp Zw rfl <| Zq rfl <| Sd (lo [1, 9] [] rfl fun S hs hr => Z3x rfl rfl Z26 (vh hs 1 rfl rfl) (vh hs 9 rfl rfl) hj6) <| SFp lTern_1 Z21 rfl <| SLp Zw rfl <| Zq rfl <| Sd (lo [2, 13] [] rfl fun S hs hr => Z3x rfl rfl Z3v (vh hs 2 rfl rfl) (vh hs 13 rfl rfl) hj7) <| SFp lTern_1 Z21 rfl <| SLp Zw rfl <| SCl [12, 16] (Zal _ _ _ hx8) Zbi rfl <| Sd (lo [8, 17] [] rfl fun S hs hr => opb (⟨(Vector.get x2 j5).Value, x8⟩ : Tern) Z14 rfl Z3z (pc Z51 (vh hs 8 rfl rfl) <| pc Z4k (vh hs 17 rfl rfl) <| pn rfl)) <| SCl [18] (Z4o _ _ hx9) Z4n rfl <| SSt Zx 5 rfl <| Sn <| rt ?_
 cases h; exact Zc Tryz.results261 rfl (Z00 rfl (i := 5) rfl Zx)
def Zaq (x1 : (Int → Option Tern)) : Nat → Nat → Zi → Option Zi
 | 0, i6, b5 => some b5
 | m7 + 1, i6, b5 => (x1 (i6 : Int)).bind fun x8 => (chk 24 (i6 : Int)).bind fun j9 => (Zaq x1 m7) (i6 + 1) (Vector.set b5 j9.1 x8 j9.2)
def Zfa (x1 : (Int → Option Tern)) : Option Zi :=
 Zaq x1 (24 : Int).toNat 0 (Vector.replicate 24 Z0n)
theorem Zq7 : Q1 Tryz.prog 260 (fn1 Tryz.prog (Z0 .i64) Z4) (rd (Z2 24 Z4)) Zfa := fun x1 r h => I0 Tryz.func260 rfl Tryz.ntmps260 rfl fun w H => by
 unfold Zfa at h
 refine SR <| Cv rfl (Zn 3 rfl rfl Z15) fun g2 => Nl <| SR <| Cv rfl (Zn 4 rfl rfl Z15) fun g3 => Nl <| sq <| SR <| Mk rfl <| Nl <| bk <| LG (d := []) (ν := Nat × Nat × Zi) (fun (m7, i6, b5) => (Cnt 24 i6 m7 ∧ Zaq x1 m7 i6 b5 = some r, m7, [(0, fn1 Tryz.prog (Z0 .i64) Z4 x1), (2, Zj g2 (Lens.id (Z2 24 Z4))), (3, Zj g3 (Lens.id (Z2 24 Z4))), (5, rd (Z0 .i64) (i6 : Int))], [(3, Zk g2 87 (Z2 24 Z4) (Vector.replicate 24 Z0n)), (4, Zk g3 87 (Z2 24 Z4) b5)])) ((24 : Int).toNat, 0, (Vector.replicate 24 Z0n)) ⟨Cnt.start _, h⟩ (FX rfl) ?_
 rintro ⟨m7, i6, b5⟩ ⟨hsf1, h⟩
 dsimp only at hsf1 h ⊢
 cases m7 with
 | zero =>
  unfold Zaq at h
  refine SR <| Ac (Zl rfl rfl (vt rfl) (vk rfl)) rfl <| Nl <| sq <| Cn rfl (fun hc => absurd (of_decide_eq_true hc) hsf1.zero) (fun hc => ?_)
  refine xt <| SR <| Ld Zy 4 rfl <| Zg Zy 3 rfl <| Nl <| rt ?_
  cases h; exact Zc Tryz.results260 rfl (Z00 rfl (i := 3) rfl Zy)
 | succ m7 =>
  unfold Zaq at h
  refine SR <| Ac (Zl rfl rfl (vt rfl) (vk rfl)) rfl <| Nl <| sq <| Cn rfl (fun hc => ?_) (fun hc => absurd hsf1.succ (of_decide_eq_false hc))
  have hlti6 := of_decide_eq_true hc
  refine sk <| sq <| bk <| SR <| Md rfl <| As rfl <| Nl ?_
  obtain ⟨x8, hx8, j9, hj9, h⟩ := bs2 h
  refine Rg <| Md rfl <| Ac (Zh (A := fn1 Tryz.prog (Z0 .i64) Z4 x1) rfl rfl (vt rfl)) rfl <| Md rfl <| Ac (Z5m hx8 rfl rfl (vt rfl) (vt rfl)) rfl <| Ac (Z1u rfl rfl Z26 (vt rfl) (vt rfl) hj9) rfl <| Zg Zx 4 rfl <| Nl <| Rg <| Ac (Z4m rfl rfl (vt rfl) (vk rfl) rfl hlti6) rfl <| Md rfl <| Nl ?_
  exact ⟨(_, _, _), Nat.lt_succ_self _, ⟨hsf1.next, h⟩, FX rfl⟩
def Zb7 (x2 : Zi) (x1 : Zi) : (List Tern) → Nat → Option (Zi × Bool)
 | [], i6 => (Zfa (fun x => Zdp x x2 x1)).bind fun x8 => some (x8, true)
 | x9 :: l7, i6 => (chk 24 (i6 : Int)).bind fun j11 => (Zdh x9 (Vector.get x2 j11)).bind fun x12 => (bif (!x12.2) then some ((Vector.replicate 24 Z0n), false) else (Zb7 x2 x1 l7) (i6 + 1))
def Zhk (x1 : Zi) (x2 : Zi) : Option (Zi × Bool) :=
 Zb7 x2 x1 (Vector.toList x1) 0
theorem Y0x : Q2 Tryz.prog 202 (rd (Z2 24 Z4)) (rd (Z2 24 Z4)) (fun r => Z17 (rd (Z2 24 Z4) r.1) (rd Z6 r.2)) Zhk := fun x1 x2 r h => I0 Tryz.func202 rfl Tryz.ntmps202 rfl fun w H => by
 unfold Zhk at h
 refine SR <| Cv rfl (Zs 3 rfl rfl (vt rfl)) fun g3 => Cv rfl (Zs 4 rfl rfl (vt rfl)) fun g4 => Cv rfl (Zn 5 rfl rfl Z15) fun g5 => Ab rfl <| Nl <| sq <| SR <| Ld Z07 3 rfl <| Mk rfl <| Nl <| bk <| LG (d := []) (ν := (List Tern) × Nat) (fun (l7, i6) => (Sfx (Vector.toList x1) i6 l7 ∧ Zb7 x2 x1 l7 i6 = some r, l7.length, [(2, Zj g3 (Lens.id (Z2 24 Z4))), (3, Zj g4 (Lens.id (Z2 24 Z4))), (4, Zj g5 (Lens.id (Z2 24 Z4))), (10, rd (Z2 24 Z4) x1), (11, rd (Z0 .i64) (i6 : Int))], [(3, Zk g3 101 (Z2 24 Z4) x1), (4, Zk g4 87 (Z2 24 Z4) x2), (5, Zk g5 87 (Z2 24 Z4) (Vector.replicate 24 Z0n))])) ((Vector.toList x1), 0) ⟨Sfx.start _, h⟩ (FX rfl) ?_
 rintro ⟨l7, i6⟩ ⟨hsf1, h⟩
 dsimp only at hsf1 h ⊢
 cases l7 with
 | nil =>
  unfold Zb7 at h
  refine SR <| Ac (Zl rfl rfl (vt rfl) (vk rfl)) rfl <| Nl <| sq <| Cn rfl (fun hc => absurd (of_decide_eq_true hc) (hsf1.niln (by simp))) (fun hc => ?_)
  refine xt <| sq <| AW.freezeB 3 4 rfl rfl rfl <| AW.freezeB 2 3 rfl rfl rfl ?_
  obtain ⟨x8, hx8, h⟩ := Z9 h
  refine Rg <| Ac (Z53 (cs := [.tmp 3, .tmp 2]) (CAs := [rp (Z2 24 Z4) x2, rp (Z2 24 Z4) x1]) (fun x => Zdp x x2 x1) rfl rfl Zxd ⟨vt rfl, vt rfl, trivial⟩ (fun x y h => Zq0 _ _ _ y h)) rfl <| Cl [27] (Zq7 _ _ hx8) Zwt rfl <| Zg Zy 5 rfl <| Ab rfl <| Nl <| rt ?_
  cases h; exact Z1z Tryz.results202 rfl (Z00 rfl (i := 5) rfl Zy) (Zb rfl)
 | cons x9 l7 =>
  unfold Zb7 at h
  refine SR <| Ac (Zl rfl rfl (vt rfl) (vk rfl)) rfl <| Nl <| sq <| Cn rfl (fun hc => ?_) (fun hc => absurd (hsf1.consn (by simp)) (of_decide_eq_false hc))
  have hlti6 := of_decide_eq_true hc
  refine sk <| sq <| bk <| SR <| Md rfl <| Ac (Z74 rfl rfl Z3v Zx (vt rfl) (vt rfl) hsf1.lget) rfl <| Cv rfl (Zn 8 rfl rfl Z14) fun g10 => As rfl <| Zg Zx 8 rfl <| Nl <| sq ?_
  obtain ⟨j11, hj11, x12, hx12, h⟩ := bs2 h
  refine AR Z01 (by kernel_rfl) <| Zu Zx 8 rfl <| Zq rfl <| Sd (lo [3, 17] [] rfl fun S hs hr => Z1u rfl rfl Z26 (vh hs 3 rfl rfl) (vh hs 17 rfl rfl) hj11) <| Zu Zx 4 rfl <| SCl [16, 19] (Znv _ _ _ hx12) Zn1 rfl <| Sd (lo [20] [] rfl fun S hs hr => Zh (A := Z17 (rd Z4 x12.1) (rd Z6 x12.2)) rfl rfl (vh hs 20 rfl rfl)) <| Sd (lo [15] [] rfl fun S hs hr => Z20 rfl rfl (vh hs 15 rfl rfl)) <| Sd (lo [15] [] rfl fun S hs hr => Z22 rfl rfl (vh hs 15 rfl rfl)) <| Sd (Z2c (us := [(8, Z2x 85 Z4 Z0n)]) (ur := []) [] [] rfl fun S hs hr => Zb3 rfl rfl rfl Z14) <| Sd (Z2c (us := [(8, Z2x 85 Z4 x12.1)]) (ur := []) [8, 21] [] rfl fun S hs hr => Zb5 rfl rfl Zx ((hs 8 rfl).trans rfl) (vh hs 21 rfl rfl)) <| SAs rfl <| Sn <| AW.unpackP 8 9 rfl rfl fun g13 => SR <| Md rfl <| Ac (Z0m rfl rfl (vt rfl)) rfl <| Nl <| Cq rfl h (fun h => ?_) (fun h => ?_)
  ·refine SR <| Ac (Z10 (ps := []) (x := (Vector.replicate 24 Z0n)) rfl rfl rfl (by kernel_rfl) Z15 rfl) rfl <| Zg Zy 5 rfl <| Ab rfl <| Nl <| rt ?_
   cases h; exact Z1z Tryz.results202 rfl (Z00 rfl (i := 5) rfl Zy) (Zb rfl)
  ·refine sk <| Rg <| Ac (Z4m rfl rfl (vt rfl) (vk rfl) rfl hlti6) rfl <| Md rfl <| Nl ?_
   exact ⟨(_, _), Nat.lt_succ_self _, ⟨hsf1.next, h⟩, FX rfl⟩
def Ze9 (i1 : Int) (x2 : Zi) (x3 : Zi) : Option (Tern × Bool) :=
 (chk 24 i1).bind fun j5 => (chk 24 i1).bind fun j6 => (Zdh (Vector.get x2 j5) (Vector.get x3 j6)).bind fun x7 => some (x7.1, x7.2)
theorem Zsp : Q3 Tryz.prog 262 (rd (Z0 .i64)) (rp (Z2 24 Z4)) (rp (Z2 24 Z4)) (fun r => Z17 (rd Z4 r.1) (rd Z6 r.2)) Ze9 := fun i1 x2 x3 r h => I0 Tryz.func262 rfl Tryz.ntmps262 rfl fun w H => by
 unfold Ze9 at h
 refine SR <| Cv rfl (Zn 5 rfl rfl Z14) fun g4 => Ab rfl <| Nl <| sq ?_
 obtain ⟨j5, hj5, j6, hj6, x7, hx7, h⟩ := bs3 h
 refine AR Z01 (by kernel_rfl) <| Zq rfl <| Sd (lo [1, 6] [] rfl fun S hs hr => Z3x rfl rfl Z26 (vh hs 1 rfl rfl) (vh hs 6 rfl rfl) hj5) <| SLp Zx rfl <| Zq rfl <| Sd (lo [2, 9] [] rfl fun S hs hr => Z3x rfl rfl Z26 (vh hs 2 rfl rfl) (vh hs 9 rfl rfl) hj6) <| SLp Zx rfl <| SCl [8, 11] (Znv _ _ _ hx7) Zn1 rfl <| Sd (lo [12] [] rfl fun S hs hr => Z20 rfl rfl (vh hs 12 rfl rfl)) <| Sd (lo [12] [] rfl fun S hs hr => Z22 rfl rfl (vh hs 12 rfl rfl)) <| SSt Zx 5 rfl <| SAs rfl <| Sn <| rt ?_
 cases h; exact Z1z Tryz.results262 rfl (Z00 rfl (i := 5) rfl Zx) (Zb rfl)
def Z7w (a1 : Zi) (b2 : Zi) : Option (Zi × Bool) :=
 (Zaa (fun x => Ze9 x a1 b2)).bind fun x6 => some (x6.1, x6.2)
theorem Zby : Q2 Tryz.prog 203 (rd (Z2 24 Z4)) (rd (Z2 24 Z4)) (fun r => Z17 (rd (Z2 24 Z4) r.1) (rd Z6 r.2)) Z7w := fun a1 b2 r h => I0 Tryz.func203 rfl Tryz.ntmps203 rfl fun w H => by
 unfold Z7w at h
 refine SR <| Cv rfl (Zs 3 rfl rfl (vt rfl)) fun g3 => Cv rfl (Zs 4 rfl rfl (vt rfl)) fun g4 => Cv rfl (Zn 5 rfl rfl Z15) fun g5 => Ab rfl <| Nl <| sq <| AW.freezeB 2 3 rfl rfl rfl <| AW.freezeB 3 4 rfl rfl rfl ?_
 obtain ⟨x6, hx6, h⟩ := Z9 h
 refine Rg <| Ac (Zoh (fs := []) (FAs := []) (cs := [.tmp 2, .tmp 3]) (CAs := [rp (Z2 24 Z4) a1, rp (Z2 24 Z4) b2]) (kx := (Z0 .i64)) (B := (fun (y : (Tern × Bool)) => Z17 (rd Z4 y.1) (rd Z6 y.2))) (fun x => Ze9 x a1 b2) rfl rfl Zw3 trivial ⟨vt rfl, vt rfl, trivial⟩ (fun x y h => Zsp _ _ _ y h)) rfl <| Cl [6] (Zk6 _ _ hx6) Zlm rfl <| Ac (Z20 rfl rfl (vt rfl)) rfl <| Ac (Z22 rfl rfl (vt rfl)) rfl <| Zg Zy 5 rfl <| As rfl <| Nl <| rt ?_
 cases h; exact Z1z Tryz.results203 rfl (Z00 rfl (i := 5) rfl Zy) (Zb rfl)
end Go.Proofs.YtknpgojdkobgjaaGreat.W
set_option maxRecDepth 4000
namespace Go.Proofs.YtknpgojdkobgjaaGreat.W
open Go Go.Wb
theorem Zqk : Ent Tryz.prog 157 := Ent.mk Tryz.func157 rfl rfl
theorem Ztx : Ent Tryz.prog 202 := Ent.mk Tryz.func202 rfl rfl
theorem Zcb : Ent Tryz.prog 203 := Ent.mk Tryz.func203 rfl rfl
theorem Zom : Ent Tryz.prog 264 := Ent.mk Tryz.func264 rfl rfl
theorem Zrb : Ent Tryz.prog 263 := Ent.mk Tryz.func263 rfl rfl
theorem Zd2 : Ent Tryz.prog 216 := Ent.mk Tryz.func216 rfl rfl
theorem Zqm : Ent Tryz.prog 306 := Ent.mk Tryz.func306 rfl rfl
theorem Zmi : Ent Tryz.prog 305 := Ent.mk Tryz.func305 rfl rfl
def Zft (w1 : walk_way) (x2 : Flow) : Option (walk_way × Bool) :=
 (Ziy x2).bind fun x6 => (Zhk w1.got x6).bind fun x7 => (bif (!x7.2) then some ((⟨(Vector.replicate 24 Z0n), (Vector.replicate 24 Z0n), [], []⟩ : walk_way), false) else (Z7w x7.1 w1.cube).bind fun x9 => some ({ w1 with cube := x9.1 }, x9.2))
theorem Zwm : Q2 Tryz.prog 136 (rd Z0q) (rd Z23) (fun r => Z17 (rd Z0q r.1) (rd Z6 r.2)) Zft := fun w1 x2 r h => I0 Tryz.func136 rfl Tryz.ntmps136 rfl fun w H => by
 unfold Zft at h
 refine SR <| Cv rfl (Zs 3 rfl rfl (vt rfl)) fun g3 => Cv rfl (Zs 4 rfl rfl (vt rfl)) fun g4 => Cv rfl (Zn 5 rfl rfl Z86) fun g5 => Ab rfl <| Nl <| sq ?_
 obtain ⟨x6, hx6, x7, hx7, h⟩ := bs2 h
 refine AR Z01 (by kernel_rfl) <| SFd lwalk_way_1 Zac rfl <| Zu Z07 3 rfl <| Zu Zbp 4 rfl <| SCl [11] (Zx7 _ _ hx6) Zqk rfl <| SCl [10, 12] (Y0x _ _ _ hx7) Ztx rfl <| Sd (lo [13] [] rfl fun S hs hr => Zh (A := Z17 (rd (Z2 24 Z4) x7.1) (rd Z6 x7.2)) rfl rfl (vh hs 13 rfl rfl)) <| Sd (lo [8] [] rfl fun S hs hr => Z20 rfl rfl (vh hs 8 rfl rfl)) <| Sd (lo [8] [] rfl fun S hs hr => Z22 rfl rfl (vh hs 8 rfl rfl)) <| Sd (Z2c (us := [(6, Z2x 87 (Z2 24 Z4) (Vector.replicate 24 Z0n))]) (ur := []) [] [] rfl fun S hs hr => Zb3 rfl rfl rfl Z15) <| Sd (Z2c (us := [(6, Z2x 87 (Z2 24 Z4) x7.1)]) (ur := []) [6, 14] [] rfl fun S hs hr => Zb5 rfl rfl Zy ((hs 6 rfl).trans rfl) (vh hs 14 rfl rfl)) <| SAs rfl <| Sn <| AW.unpackP 6 7 rfl rfl fun g8 => sq <| SR <| Md rfl <| Ac (Z0m rfl rfl (vt rfl)) rfl <| Nl <| Cq rfl h (fun h => ?_) (fun h => ?_)
 ·refine SR <| Ac (opb (⟨(Vector.replicate 24 Z0n), (Vector.replicate 24 Z0n), [], []⟩ : walk_way) Z86 rfl Zlq (pn rfl)) rfl <| Zg Z1w 5 rfl <| Ab rfl <| Nl <| rt ?_
  cases h; exact Z1z Tryz.results136 rfl (Z00 rfl (i := 5) rfl Z1w) (Zb rfl)
 ·refine sk <| sq ?_
  obtain ⟨x9, hx9, h⟩ := Z9 h
  refine Rg <| Ld Zy 7 rfl <| Zt lwalk_way_0 Zi0 rfl <| Ld Zy 3 rfl <| Cl [20, 22] (Zby _ _ _ hx9) Zcb rfl <| Mt2 rfl <| Ac (Z20 rfl rfl (vt rfl)) rfl <| Ac (Z22 rfl rfl (vt rfl)) rfl <| Zt lwalk_way_0 Zi0 rfl <| Zg Zy 3 rfl <| As rfl <| Nl <| SR <| Ld Z1w 3 rfl <| Md rfl <| Zg Z1w 5 rfl <| As rfl <| Nl <| rt ?_
  cases h; exact Z1z Tryz.results136 rfl (Z00 rfl (i := 5) rfl Z1w) (Zb rfl)
def Zcp (i1 : Inst) (x2 : Int) : Option Bool :=
 some (decide (i1.Kind = x2))
theorem Y1h : Q2 Tryz.prog 264 (rd Z16) (rp (Z0 .i64)) (rd Z6) Zcp := fun i1 x2 r h => I0 Tryz.func264 rfl Tryz.ntmps264 rfl fun w H => by
 unfold Zcp at h
 refine SR <| Cv rfl (Zs 3 rfl rfl (vt rfl)) fun g3 => Ab rfl <| Nl <| SR <| Zt lInst_0 Zse rfl <| Ld Zm 3 rfl <| Lp1 Zm rfl <| Ac (Z0z rfl rfl (vt rfl) (vt rfl)) rfl <| As rfl <| Nl <| rt ?_
 cases h; exact Zc Tryz.results264 rfl (Zb rfl)
def Z8p (s1 : (List Inst)) (x2 : (Inst → Option Bool)) : Nat → Nat → Option Int
 | 0, i3 => some (-1)
 | m4 + 1, i3 => (lget s1 (i3 : Int)).bind fun x5 => (x2 x5).bind fun x6 => (bif x6 then some (i3 : Int) else (Z8p s1 x2 m4) (i3 + 1))
def Ziz (s1 : (List Inst)) (x2 : (Inst → Option Bool)) : Option Int :=
 Z8p s1 x2 ((s1.length : Int) : Int).toNat 0
theorem Zpe : Q2 Tryz.prog 263 (rd (Z1 Z16)) (fn1 Tryz.prog Z16 Z6) (rd (Z0 .i64)) Ziz := fun s1 x2 r h => I0 Tryz.func263 rfl Tryz.ntmps263 rfl fun w H => by
 unfold Ziz at h
 refine SR <| Ak rfl <| Nl <| sq <| SR <| Md rfl <| Ac (Z0a rfl rfl Z9x (vt rfl)) rfl <| Mk rfl <| Nl <| bk <| LG (d := []) (ν := Nat × Nat) (fun (m4, i3) => (Cnt (s1.length : Int) i3 m4 ∧ Z8p s1 x2 m4 i3 = some r, m4, [(0, rd (Z1 Z16) s1), (1, fn1 Tryz.prog Z16 Z6 x2), (7, rd (Z0 .i64) (s1.length : Int)), (8, rd (Z0 .i64) (i3 : Int))], [])) (((s1.length : Int) : Int).toNat, 0) ⟨Cnt.start _, h⟩ (FX rfl) ?_
 rintro ⟨m4, i3⟩ ⟨hsf1, h⟩
 dsimp only at hsf1 h ⊢
 cases m4 with
 | zero =>
  unfold Z8p at h
  refine SR <| Ac (Zl rfl rfl (vt rfl) (vt rfl)) rfl <| Nl <| sq <| Cn rfl (fun hc => absurd (of_decide_eq_true hc) hsf1.zero) (fun hc => ?_)
  refine xt <| SR <| Ak rfl <| Nl <| rt ?_
  cases h; exact Zc Tryz.results263 rfl (Zb rfl)
 | succ m4 =>
  unfold Z8p at h
  refine SR <| Ac (Zl rfl rfl (vt rfl) (vt rfl)) rfl <| Nl <| sq <| Cn rfl (fun hc => ?_) (fun hc => absurd hsf1.succ (of_decide_eq_false hc))
  have hlti3 := of_decide_eq_true hc
  refine sk <| sq <| bk <| SR <| Md rfl <| As rfl <| Nl <| sq ?_
  obtain ⟨x5, hx5, x6, hx6, h⟩ := bs2 h
  refine Rg <| Ac (Zh (A := fn1 Tryz.prog Z16 Z6 x2) rfl rfl (vt rfl)) rfl <| Md rfl <| Md rfl <| Ac (Z04 rfl rfl Z9x (vt rfl) (vt rfl) hx5) rfl <| Lp1 Z3g rfl <| Ac (Z5m hx6 rfl rfl (vt rfl) (vt rfl)) rfl <| Nl <| Cq rfl h (fun h => ?_) (fun h => ?_)
  ·refine SR <| Md rfl <| As rfl <| Nl <| rt ?_
   cases h; exact Zc Tryz.results263 rfl (Zb rfl)
  ·refine sk <| Rg <| Ac (Z0y (t := 7) rfl rfl (vt rfl) (vk rfl) (vt rfl) hlti3) rfl <| Md rfl <| Nl ?_
   exact ⟨(_, _), Nat.lt_succ_self _, ⟨hsf1.next, h⟩, FX rfl⟩
def Z6s (s : List Action) : Option (List Action) := Z2b [] s
theorem Zfs (s : List Action) (r : List Action) (h : Z6s s = some r) : Con Tryz.prog 216 [rd (Z1 Z8) s] emp (fun v => Zf v) (fun v => Ze v 121 Z8 r) := by
 refine Con.intro0 Tryz.func216 rfl Tryz.ntmps216 rfl fun w H => ?_
 unfold Z6s at h
 refine AW.newnil 1001 121 Z8 <| SR <| Ac (Z0i (A := Zf (.slice none 0 0)) rfl rfl vc) rfl <| Nl <| sq <| SR <| Md rfl <| Ct rfl (Z9v rfl rfl Z0g (vt rfl)) ?_
 rintro _ ⟨b, hb, rfl⟩
 refine Nl <| Cn rfl (fun hc => ?_) (fun hc => ?_)
 ·obtain rfl := hb hc
  refine SR <| Ac (Z0i (A := Zf (.slice none 0 0)) rfl rfl vc) rfl <| Nl <| rt ?_
  obtain rfl := (Z54 h).2
  exact Z3e (i := 1001) Tryz.results216 rfl rfl rfl
 ·refine sk <| SR <| Cv rfl (Za0 1002 (ps := []) (l := []) rfl rfl Z0g Z47 rfl rfl rfl rfl) fun v1 => Md rfl <| Cv rfl (Z3w 1002 h rfl rfl Zoj (vt rfl) rfl (vt rfl)) fun v2 => Aw rfl <| Nl <| rt ?_
  exact Z3e (i := 1002) Tryz.results216 rfl rfl rfl
theorem Zkj (s : List Action) (r : List Action) (h : Z6s s = some r) : PCon Tryz.prog 216 [rd (Z1 Z8) s] (rd (Z1 Z8) r) := PCon.of_row (Zfs s r h)
def Z6d (l1 : (List Inst)) (k2 : Int) : Option (Inst × Bool) :=
 (Ziz l1 (fun x => Zcp x k2)).bind fun x5 => (bif (decide (x5 < 0)) then some ((⟨0, 0, Z02, Z02, []⟩ : Inst), false) else (lget l1 x5).bind fun x6 => (Z6s x6.Acts).bind fun x8 => some ({ x6 with Acts := x8 }, true))
theorem Z9h : Q2 Tryz.prog 204 (rd (Z1 Z16)) (rd (Z0 .i64)) (fun r => Z17 (rd Z16 r.1) (rd Z6 r.2)) Z6d := fun l1 k2 r h => I0 Tryz.func204 rfl Tryz.ntmps204 rfl fun w H => by
 unfold Z6d at h
 refine SR <| Cv rfl (Zs 4 rfl rfl (vt rfl)) fun g3 => Cv rfl (Zn 5 rfl rfl Z3i) fun g4 => Ab rfl <| Nl <| sq <| AW.freezeB 3 4 rfl rfl rfl ?_
 obtain ⟨x5, hx5, h⟩ := Z9 h
 refine Rg <| Md rfl <| Ac (Z53 (cs := [.tmp 3]) (CAs := [rp (Z0 .i64) k2]) (fun x => Zcp x k2) rfl rfl Zom ⟨vt rfl, trivial⟩ (fun x y h => Y1h _ _ y h)) rfl <| Cl [8, 9] (Zpe _ _ _ hx5) Zrb rfl <| As rfl <| Nl <| sq <| SR <| Md rfl <| Ac (Zl rfl rfl (vt rfl) (vk rfl)) rfl <| Nl <| Cq rfl h (fun h => ?_) (fun h => ?_)
 ·refine SR <| Ac (opb (⟨0, 0, Z02, Z02, []⟩ : Inst) Z3i rfl Zhb (pn rfl)) rfl <| Zg Z3g 5 rfl <| Ab rfl <| Nl <| rt ?_
  cases h; exact Z1z Tryz.results204 rfl (Z00 rfl (i := 5) rfl Z3g) (Zb rfl)
 ·refine sk <| sq ?_
  obtain ⟨x6, hx6, h⟩ := Z9 h
  refine Rg <| Md rfl <| Md rfl <| Ac (Z04 rfl rfl Z9x (vt rfl) (vt rfl) hx6) rfl <| Lp1 Z3g rfl <| Cv rfl (Zn 8 rfl rfl Z3i) fun g7 => Zg Z3g 8 rfl <| Nl <| sq ?_
  obtain ⟨x8, hx8, h⟩ := Z9 h
  refine Rg <| Zt lInst_4 Zda rfl <| Ld Z30 8 rfl <| Cl [19] (Zkj _ _ hx8) Zd2 rfl <| Zt lInst_4 Zda rfl <| Zg Z30 8 rfl <| Nl <| SR <| Ld Z3g 8 rfl <| Zg Z3g 5 rfl <| Ab rfl <| Nl <| rt ?_
  cases h; exact Z1z Tryz.results204 rfl (Z00 rfl (i := 5) rfl Z3g) (Zb rfl)
def Z7g (i1 : Int) (x2 : Zi) : Option Tern :=
 (chk 24 i1).bind fun j4 => (Z3k (Vector.get x2 j4)).bind fun x5 => some x5
theorem Zqj : Q2 Tryz.prog 306 (rd (Z0 .i64)) (rp (Z2 24 Z4)) (rd Z4) Z7g := fun i1 x2 r h => I0 Tryz.func306 rfl Tryz.ntmps306 rfl fun w H => by
 unfold Z7g at h
 refine SR <| Cv rfl (Zn 4 rfl rfl Z14) fun g3 => Nl <| sq ?_
 obtain ⟨j4, hj4, x5, hx5, h⟩ := bs2 h
 refine Rg <| Md rfl <| Ac (Z3x rfl rfl Z3v (vt rfl) (vt rfl) hj4) rfl <| Lp1 Zx rfl <| Cl [6] (Z4o _ _ hx5) Z4n rfl <| Zg Zx 4 rfl <| Nl <| rt ?_
 cases h; exact Zc Tryz.results306 rfl (Z00 rfl (i := 4) rfl Zx)
def Z4z (x1 : (Int → Option Tern)) : Nat → Nat → Zi → Option Zi
 | 0, i6, b5 => some b5
 | m7 + 1, i6, b5 => (x1 (i6 : Int)).bind fun x8 => (chk 24 (i6 : Int)).bind fun j9 => (Z4z x1 m7) (i6 + 1) (Vector.set b5 j9.1 x8 j9.2)
def Z89 (x1 : (Int → Option Tern)) : Option Zi :=
 Z4z x1 (24 : Int).toNat 0 (Vector.replicate 24 Z0n)
theorem Zls : Q1 Tryz.prog 305 (fn1 Tryz.prog (Z0 .i64) Z4) (rd (Z2 24 Z4)) Z89 := fun x1 r h => I0 Tryz.func305 rfl Tryz.ntmps305 rfl fun w H => by
 unfold Z89 at h
 refine SR <| Cv rfl (Zn 3 rfl rfl Z3q) fun g2 => Nl <| SR <| Cv rfl (Zn 4 rfl rfl Z3q) fun g3 => Nl <| sq <| SR <| Mk rfl <| Nl <| bk <| LG (d := []) (ν := Nat × Nat × Zi) (fun (m7, i6, b5) => (Cnt 24 i6 m7 ∧ Z4z x1 m7 i6 b5 = some r, m7, [(0, fn1 Tryz.prog (Z0 .i64) Z4 x1), (2, Zj g2 (Lens.id (Z2 24 Z4))), (3, Zj g3 (Lens.id (Z2 24 Z4))), (5, rd (Z0 .i64) (i6 : Int))], [(3, Zk g2 101 (Z2 24 Z4) (Vector.replicate 24 Z0n)), (4, Zk g3 101 (Z2 24 Z4) b5)])) ((24 : Int).toNat, 0, (Vector.replicate 24 Z0n)) ⟨Cnt.start _, h⟩ (FX rfl) ?_
 rintro ⟨m7, i6, b5⟩ ⟨hsf1, h⟩
 dsimp only at hsf1 h ⊢
 cases m7 with
 | zero =>
  unfold Z4z at h
  refine SR <| Ac (Zl rfl rfl (vt rfl) (vk rfl)) rfl <| Nl <| sq <| Cn rfl (fun hc => absurd (of_decide_eq_true hc) hsf1.zero) (fun hc => ?_)
  refine xt <| SR <| Ld Z07 4 rfl <| Zg Z07 3 rfl <| Nl <| rt ?_
  cases h; exact Zc Tryz.results305 rfl (Z00 rfl (i := 3) rfl Z07)
 | succ m7 =>
  unfold Z4z at h
  refine SR <| Ac (Zl rfl rfl (vt rfl) (vk rfl)) rfl <| Nl <| sq <| Cn rfl (fun hc => ?_) (fun hc => absurd hsf1.succ (of_decide_eq_false hc))
  have hlti6 := of_decide_eq_true hc
  refine sk <| sq <| bk <| SR <| Md rfl <| As rfl <| Nl ?_
  obtain ⟨x8, hx8, j9, hj9, h⟩ := bs2 h
  refine Rg <| Md rfl <| Ac (Zh (A := fn1 Tryz.prog (Z0 .i64) Z4 x1) rfl rfl (vt rfl)) rfl <| Md rfl <| Ac (Z5m hx8 rfl rfl (vt rfl) (vt rfl)) rfl <| Ac (Z1u rfl rfl Z3v (vt rfl) (vt rfl) hj9) rfl <| Zg Zx 4 rfl <| Nl <| Rg <| Ac (Z4m rfl rfl (vt rfl) (vk rfl) rfl hlti6) rfl <| Md rfl <| Nl ?_
  exact ⟨(_, _, _), Nat.lt_succ_self _, ⟨hsf1.next, h⟩, FX rfl⟩
def Z56 (x1 : Zi) : Option Zi :=
 (Z89 (fun x => Z7g x x1)).bind fun x4 => some x4
theorem Zd5 : Q1 Tryz.prog 268 (rd (Z2 24 Z4)) (rd (Z2 24 Z4)) Z56 := fun x1 r h => I0 Tryz.func268 rfl Tryz.ntmps268 rfl fun w H => by
 unfold Z56 at h
 refine SR <| Cv rfl (Zs 2 rfl rfl (vt rfl)) fun g2 => Cv rfl (Zn 3 rfl rfl Z3q) fun g3 => Nl <| sq <| AW.freezeB 1 2 rfl rfl rfl ?_
 obtain ⟨x4, hx4, h⟩ := Z9 h
 refine Rg <| Ac (Z53 (cs := [.tmp 1]) (CAs := [rp (Z2 24 Z4) x1]) (fun x => Z7g x x1) rfl rfl Zqm ⟨vt rfl, trivial⟩ (fun x y h => Zqj _ _ y h)) rfl <| Cl [3] (Zls _ _ hx4) Zmi rfl <| Zg Z07 3 rfl <| Nl <| rt ?_
 cases h; exact Zc Tryz.results268 rfl (Z00 rfl (i := 3) rfl Z07)
def Zco (a1 : Tern) (b2 : Tern) : Option Tern :=
 (Z3k a1).bind fun x6 => (Z3k b2).bind fun x7 => (Z6v x6.Value x7.Mask).bind fun x8 => (Z5s x8 x7.Value).bind fun x9 => (Z5s x6.Mask x7.Mask).bind fun x10 => some (⟨x9, x10⟩ : Tern)
theorem Zm1 : Q2 Tryz.prog 270 (rd Z4) (rd Z4) (rd Z4) Zco := fun a1 b2 r h => I0 Tryz.func270 rfl Tryz.ntmps270 rfl fun w H => by
 unfold Zco at h
 refine SR <| Cv rfl (Zs 3 rfl rfl (vt rfl)) fun g3 => Cv rfl (Zs 4 rfl rfl (vt rfl)) fun g4 => Cv rfl (Zn 5 rfl rfl Z14) fun g5 => Nl <| sq ?_
 obtain ⟨x6, hx6, x7, hx7, h⟩ := bs2 h
 refine AR Z01 (by kernel_rfl) <| Zu Zx 3 rfl <| SCl [5] (Z4o _ _ hx6) Z4n rfl <| Zu Zx 4 rfl <| SCl [7] (Z4o _ _ hx7) Z4n rfl <| SSt Zx 3 rfl <| SSt Zx 4 rfl <| Sn <| sq ?_
 obtain ⟨x8, hx8, x9, hx9, x10, hx10, h⟩ := bs3 h
 refine AR Z01 (by kernel_rfl) <| SFd lTern_0 Z2h rfl <| Zu Zw 3 rfl <| SFd lTern_1 Z21 rfl <| Zu Zw 4 rfl <| SCl [10, 12] (Zal _ _ _ hx8) Zbi rfl <| SFd lTern_0 Z2h rfl <| Zu Zw 4 rfl <| SCl [13, 15] (Z7u _ _ _ hx9) Z8a rfl <| SFd lTern_1 Z21 rfl <| Zu Zw 3 rfl <| SFd lTern_1 Z21 rfl <| Zu Zw 4 rfl <| SCl [18, 20] (Z7u _ _ _ hx10) Z8a rfl <| Sd (lo [16, 21] [] rfl fun S hs hr => opb (⟨x9, x10⟩ : Tern) Z14 rfl Z3z (pc Z51 (vh hs 16 rfl rfl) <| pc Z4k (vh hs 21 rfl rfl) <| pn rfl)) <| SSt Zx 5 rfl <| Sn <| rt ?_
 cases h; exact Zc Tryz.results270 rfl (Z00 rfl (i := 5) rfl Zx)
end Go.Proofs.YtknpgojdkobgjaaGreat.W
set_option maxRecDepth 4000
namespace Go.Proofs.YtknpgojdkobgjaaGreat.W
open Go Go.Wb
theorem Zee : Ent Tryz.prog 268 := Ent.mk Tryz.func268 rfl rfl
theorem Znz : Ent Tryz.prog 270 := Ent.mk Tryz.func270 rfl rfl
theorem e77 : Ent Tryz.prog 77 := Ent.mk Tryz.func77 rfl rfl
theorem Zak : Ent Tryz.prog 207 := Ent.mk Tryz.func207 rfl rfl
theorem Zec : Ent Tryz.prog 327 := Ent.mk Tryz.func327 rfl rfl
theorem Zsc : Ent Tryz.prog 332 := Ent.mk Tryz.func332 rfl rfl
theorem Zop : Ent Tryz.prog 287 := Ent.mk Tryz.func287 rfl rfl
theorem Zx4 : Ent Tryz.prog 298 := Ent.mk Tryz.func298 rfl rfl
theorem Zon : Ent Tryz.prog 304 := Ent.mk Tryz.func304 rfl rfl
theorem Zz0 : Ent Tryz.prog 303 := Ent.mk Tryz.func303 rfl rfl
theorem Y1f : Ent Tryz.prog 265 := Ent.mk Tryz.func265 rfl rfl
def Z63 (x1 : Zi) (x2 : Int) (x3 : Wide) (m4 : Wide) : Option Zi :=
 (Z56 x1).bind fun x9 => (Z7j x2).bind fun x10 => (bif x10 then (chk 24 x2).bind fun j11 => (Zco (Vector.get x9 j11) (⟨x3, m4⟩ : Tern)).bind fun x12 => (chk 24 x2).bind fun j13 => some (Vector.set x9 j13.1 x12 j13.2) else some x9)
theorem Zad : Q4 Tryz.prog 207 (rd (Z2 24 Z4)) (rd (Z0 .i64)) (rd Zo) (rd Zo) (rd (Z2 24 Z4)) Z63 := fun x1 x2 x3 m4 r h => I0 Tryz.func207 rfl Tryz.ntmps207 rfl fun w H => by
 unfold Z63 at h
 refine SR <| Cv rfl (Zs 5 rfl rfl (vt rfl)) fun g5 => Cv rfl (Zs 7 rfl rfl (vt rfl)) fun g6 => Cv rfl (Zs 8 rfl rfl (vt rfl)) fun g7 => Cv rfl (Zn 9 rfl rfl Z3q) fun g8 => Nl <| sq ?_
 obtain ⟨x9, hx9, h⟩ := Z9 h
 refine Rg <| Ld Z07 5 rfl <| Cl [9] (Zd5 _ _ hx9) Zee rfl <| Zg Z07 5 rfl <| Nl <| sq <| sq ?_
 obtain ⟨x10, hx10, h⟩ := Z9 h
 refine Rg <| Md rfl <| Cl [11] (Zdd _ _ hx10) Zd1 rfl <| Nl <| Cq rfl h (fun h => ?_) (fun h => ?_)
 ·obtain ⟨j11, hj11, x12, hx12, j13, hj13, h⟩ := bs3 h
  refine AR Z01 (by kernel_rfl) <| Zq rfl <| Zq rfl <| Sd (lo [4, 14] [] rfl fun S hs hr => Z1u rfl rfl Z3v (vh hs 4 rfl rfl) (vh hs 14 rfl rfl) hj11) <| Zu Zx 5 rfl <| Zu Zw 7 rfl <| Zu Zw 8 rfl <| Sd (lo [17, 18] [] rfl fun S hs hr => opb (⟨x3, m4⟩ : Tern) Z14 rfl Z3z (pc Z51 (vh hs 17 rfl rfl) <| pc Z4k (vh hs 18 rfl rfl) <| pn rfl)) <| SCl [16, 19] (Zm1 _ _ _ hx12) Znz rfl <| Sd (lo [4, 13] [] rfl fun S hs hr => Z1u rfl rfl Z3v (vh hs 4 rfl rfl) (vh hs 13 rfl rfl) hj13) <| SSt Zx 5 rfl <| Sn <| SR <| Ld Z07 5 rfl <| Zg Z07 9 rfl <| Nl <| rt ?_
  cases h; exact Zc Tryz.results207 rfl (Z00 rfl (i := 9) rfl Z07)
 ·refine sk <| SR <| Ld Z07 5 rfl <| Zg Z07 9 rfl <| Nl <| rt ?_
  cases h; exact Zc Tryz.results207 rfl (Z00 rfl (i := 9) rfl Z07)
def Z7q (i1 : Int) : Option Wide :=
 (bif ((decide (i1 < 0)) || (decide (i1 > 127))) then some (⟨0, 0⟩ : Wide) else (Zf8 .i64 i1 64).bind fun q4 => (Zc4 i1 64).bind fun q5 => (Z8z (1 : BitVec 64) q5).bind fun q6 => (chk 2 q4).bind fun j7 => some (⟨(Vector.get (Vector.set (Vector.replicate 2 0) j7.1 q6 j7.2) (⟨1, by decide⟩ : _root_.Fin 2)), (Vector.get (Vector.set (Vector.replicate 2 0) j7.1 q6 j7.2) (⟨0, by decide⟩ : _root_.Fin 2))⟩ : Wide))
theorem Zf1 : Q1 Tryz.prog 327 (rd (Z0 .i64)) (rd Zo) Z7q := fun i1 r h => I0 Tryz.func327 rfl Tryz.ntmps327 rfl fun w H => by
 unfold Z7q at h
 refine SR <| Cv rfl (Zn 3 rfl rfl Z29) fun g2 => Nl <| SR <| Cv rfl (Zn 4 rfl rfl Zxc) fun g3 => Nl <| sq <| SR <| Md rfl <| Ac (Zl rfl rfl (vt rfl) (vk rfl)) rfl <| Md rfl <| Gd rfl (fun hq => Zh (A := rd (Z0 .i64) i1) rfl rfl (vt rfl)) <| Gd rfl (fun hq => Z3o rfl rfl (Z5 rfl hq) (vk rfl)) <| Ac (Z2v rfl rfl (vt rfl) (vt rfl)) rfl <| Nl <| Cq rfl h (fun h => ?_) (fun h => ?_)
 ·refine SR <| Ac (opb (⟨0, 0⟩ : Wide) Z29 rfl Z4h (pn rfl)) rfl <| Zg Zw 3 rfl <| Nl <| rt ?_
  cases h; exact Zc Tryz.results327 rfl (Z00 rfl (i := 3) rfl Zw)
 ·refine sk <| sq ?_
  obtain ⟨q4, hq4, q5, hq5, q6, hq6, j7, hj7, h⟩ := bs4 h
  refine Rg <| Md rfl <| Ac (Zpl rfl rfl (vt rfl) (vk rfl) hq4) rfl <| Md rfl <| Ac (Zt9 rfl rfl (vt rfl) (vk rfl) hq5) rfl <| Ac (Zlk rfl rfl (vku (1 : BitVec 64) rfl) (vt rfl) hq6) rfl <| Ac (Z1u rfl rfl Zgv (vt rfl) (vt rfl) hj7) rfl <| Zg Z19 4 rfl <| Nl <| SR <| Ac (Z1u rfl rfl Zgv (vt rfl) (vk rfl) rfl) rfl <| Ld Z19 4 rfl <| Ac (Z1u rfl rfl Zgv (vt rfl) (vk rfl) rfl) rfl <| Ld Z19 4 rfl <| Ac (opb (⟨(Vector.get (Vector.set (Vector.replicate 2 0) j7.1 q6 j7.2) (⟨1, by decide⟩ : _root_.Fin 2)), (Vector.get (Vector.set (Vector.replicate 2 0) j7.1 q6 j7.2) (⟨0, by decide⟩ : _root_.Fin 2))⟩ : Wide) Z29 rfl Z4h (pc Z6k (vt rfl) <| pc Z64 (vt rfl) <| pn rfl)) rfl <| Zg Zw 3 rfl <| Nl <| rt ?_
  cases h; exact Zc Tryz.results327 rfl (Z00 rfl (i := 3) rfl Zw)
def Ziw (a1 : Action) : Option Zi :=
 (Zf6).bind fun x4 => (bif (decide (a1.Kind = 25)) then (Zc8 a1.Oxm).bind fun x6 => (Z63 x4 a1.Oxm.Field x6.Value x6.Mask).bind fun x8 => some x8 else (bif (decide (a1.Kind = 17)) then (Z7q 12).bind fun x9 => (Z7q 12).bind fun x10 => (Z63 x4 5 x9 x10).bind fun x11 => some x11 else (bif (decide (a1.Kind = 18)) then (Z7m 13).bind fun x12 => (Z63 x4 5 (⟨0, 0⟩ : Wide) x12).bind fun x13 => (Z7m 3).bind fun x14 => (Z63 x13 6 (⟨0, 0⟩ : Wide) x14).bind fun x15 => some x15 else some x4)))
theorem Y16 : Q1 Tryz.prog 287 (rd Z8) (rd (Z2 24 Z4)) Ziw := fun a1 r h => I0 Tryz.func287 rfl Tryz.ntmps287 rfl fun w H => by
 unfold Ziw at h
 refine SR <| Cv rfl (Zs 2 rfl rfl (vt rfl)) fun g2 => Cv rfl (Zn 3 rfl rfl Z3q) fun g3 => Nl <| sq ?_
 obtain ⟨x4, hx4, h⟩ := Z9 h
 refine Rg <| Cl [] (Zjf _ hx4) e77 rfl <| Cv rfl (Zn 4 rfl rfl Z3q) fun g5 => Zg Z07 4 rfl <| Nl <| sq <| SR <| Zt lAction_0 Z43 rfl <| Ld Zm 2 rfl <| Nl <| bk <| SR <| Ac (Z0z rfl rfl (vt rfl) (vk rfl)) rfl <| As rfl <| Nl <| Cq rfl h (fun h => ?_) (fun h => ?_)
 ·refine sq ?_
  obtain ⟨x6, hx6, h⟩ := Z9 h
  refine Rg <| Zt Z8f Z8u rfl <| Ld Z6n 2 rfl <| Cl [11] (Zjv _ _ hx6) Zmk rfl <| Cv rfl (Zn 5 rfl rfl Z14) fun g7 => Zg Zx 5 rfl <| Nl ?_
  obtain ⟨x8, hx8, h⟩ := Z9 h
  refine Rg <| Ld Z07 4 rfl <| Zt Z8f Z8u rfl <| Zt Z4p Z5w rfl <| Ld Zm 2 rfl <| Zt lTern_0 Z2h rfl <| Ld Zw 5 rfl <| Zt lTern_1 Z21 rfl <| Ld Zw 5 rfl <| Cl [13, 16, 18, 20] (Zad _ _ _ _ _ hx8) Zak rfl <| Zg Z07 4 rfl <| Nl <| SR <| Ld Z07 4 rfl <| Zg Z07 3 rfl <| Nl <| rt ?_
  cases h; exact Zc Tryz.results287 rfl (Z00 rfl (i := 3) rfl Z07)
 ·refine SR <| Ac (Z0z rfl rfl (vt rfl) (vk rfl)) rfl <| As rfl <| Nl <| Cq rfl h (fun h => ?_) (fun h => ?_)
  ·obtain ⟨x9, hx9, x10, hx10, x11, hx11, h⟩ := bs3 h
   refine AR Z01 (by kernel_rfl) <| Zu Z07 4 rfl <| Sd (lo [] [] rfl fun S hs hr => Z0k (xs := [.const (Value.int IntKind.i64 12)]) (Zf1 _ _ hx9) Zec rfl rfl ⟨vk rfl, trivial⟩) <| Sd (lo [] [] rfl fun S hs hr => Z0k (xs := [.const (Value.int IntKind.i64 12)]) (Zf1 _ _ hx10) Zec rfl rfl ⟨vk rfl, trivial⟩) <| Sd (lo [24, 25, 26] [] rfl fun S hs hr => Z0k (xs := [.tmp 24, .const (Value.int IntKind.i64 5), .tmp 25, .tmp 26]) (Zad _ _ _ _ _ hx11) Zak rfl rfl ⟨vt ((hs 24 rfl).trans rfl), vk rfl, vt ((hs 25 rfl).trans rfl), vt ((hs 26 rfl).trans rfl), trivial⟩) <| SSt Z07 4 rfl <| Sn <| SR <| Ld Z07 4 rfl <| Zg Z07 3 rfl <| Nl <| rt ?_
   cases h; exact Zc Tryz.results287 rfl (Z00 rfl (i := 3) rfl Z07)
  ·refine SR <| Ac (Z0z rfl rfl (vt rfl) (vk rfl)) rfl <| As rfl <| Nl <| Cq rfl h (fun h => ?_) (fun h => ?_)
   ·refine sq ?_
    obtain ⟨x12, hx12, x13, hx13, h⟩ := bs2 h
    refine AR Z01 (by kernel_rfl) <| Zu Z07 4 rfl <| Sd (lo [] [] rfl fun S hs hr => opb (⟨0, 0⟩ : Wide) Z29 rfl Z4h (pn rfl)) <| Sd (lo [] [] rfl fun S hs hr => Z0k (xs := [.const (Value.int IntKind.i64 13)]) (Zhp _ _ hx12) Zg4 rfl rfl ⟨vk rfl, trivial⟩) <| Sd (lo [30, 31, 32] [] rfl fun S hs hr => Z0k (xs := [.tmp 30, .const (Value.int IntKind.i64 5), .tmp 31, .tmp 32]) (Zad _ _ _ _ _ hx13) Zak rfl rfl ⟨vt ((hs 30 rfl).trans rfl), vk rfl, vt ((hs 31 rfl).trans rfl), vt ((hs 32 rfl).trans rfl), trivial⟩) <| SSt Z07 4 rfl <| Sn ?_
    obtain ⟨x14, hx14, x15, hx15, h⟩ := bs2 h
    refine AR Z01 (by kernel_rfl) <| Zu Z07 4 rfl <| Sd (lo [] [] rfl fun S hs hr => opb (⟨0, 0⟩ : Wide) Z29 rfl Z4h (pn rfl)) <| Sd (lo [] [] rfl fun S hs hr => Z0k (xs := [.const (Value.int IntKind.i64 3)]) (Zhp _ _ hx14) Zg4 rfl rfl ⟨vk rfl, trivial⟩) <| Sd (lo [34, 35, 36] [] rfl fun S hs hr => Z0k (xs := [.tmp 34, .const (Value.int IntKind.i64 6), .tmp 35, .tmp 36]) (Zad _ _ _ _ _ hx15) Zak rfl rfl ⟨vt ((hs 34 rfl).trans rfl), vk rfl, vt ((hs 35 rfl).trans rfl), vt ((hs 36 rfl).trans rfl), trivial⟩) <| SSt Z07 4 rfl <| Sn <| SR <| Ld Z07 4 rfl <| Zg Z07 3 rfl <| Nl <| rt ?_
    cases h; exact Zc Tryz.results287 rfl (Z00 rfl (i := 3) rfl Z07)
   ·refine sk <| SR <| Ld Z07 4 rfl <| Zg Z07 3 rfl <| Nl <| rt ?_
    cases h; exact Zc Tryz.results287 rfl (Z00 rfl (i := 3) rfl Z07)
def Zef (i1 : Int) (x2 : Zi) (x3 : Zi) : Option Tern :=
 (chk 24 i1).bind fun j5 => (chk 24 i1).bind fun j6 => (Zco (Vector.get x2 j5) (Vector.get x3 j6)).bind fun x7 => some x7
theorem Y01 : Q3 Tryz.prog 332 (rd (Z0 .i64)) (rp (Z2 24 Z4)) (rp (Z2 24 Z4)) (rd Z4) Zef := fun i1 x2 x3 r h => I0 Tryz.func332 rfl Tryz.ntmps332 rfl fun w H => by
 unfold Zef at h
 refine SR <| Cv rfl (Zn 5 rfl rfl Z14) fun g4 => Nl <| sq ?_
 obtain ⟨j5, hj5, j6, hj6, x7, hx7, h⟩ := bs3 h
 refine AR Z01 (by kernel_rfl) <| Zq rfl <| Sd (lo [1, 5] [] rfl fun S hs hr => Z3x rfl rfl Z3v (vh hs 1 rfl rfl) (vh hs 5 rfl rfl) hj5) <| SLp Zx rfl <| Zq rfl <| Sd (lo [2, 8] [] rfl fun S hs hr => Z3x rfl rfl Z3v (vh hs 2 rfl rfl) (vh hs 8 rfl rfl) hj6) <| SLp Zx rfl <| SCl [7, 10] (Zm1 _ _ _ hx7) Znz rfl <| SSt Zx 5 rfl <| Sn <| rt ?_
 cases h; exact Zc Tryz.results332 rfl (Z00 rfl (i := 5) rfl Zx)
def Zg7 (a1 : Zi) (b2 : Zi) : Option Zi :=
 (Z89 (fun x => Zef x a1 b2)).bind fun x6 => some x6
theorem Zwh : Q2 Tryz.prog 298 (rd (Z2 24 Z4)) (rd (Z2 24 Z4)) (rd (Z2 24 Z4)) Zg7 := fun a1 b2 r h => I0 Tryz.func298 rfl Tryz.ntmps298 rfl fun w H => by
 unfold Zg7 at h
 refine SR <| Cv rfl (Zs 3 rfl rfl (vt rfl)) fun g3 => Cv rfl (Zs 4 rfl rfl (vt rfl)) fun g4 => Cv rfl (Zn 5 rfl rfl Z3q) fun g5 => Nl <| sq <| AW.freezeB 2 3 rfl rfl rfl <| AW.freezeB 3 4 rfl rfl rfl ?_
 obtain ⟨x6, hx6, h⟩ := Z9 h
 refine Rg <| Ac (Z53 (cs := [.tmp 2, .tmp 3]) (CAs := [rp (Z2 24 Z4) a1, rp (Z2 24 Z4) b2]) (fun x => Zef x a1 b2) rfl rfl Zsc ⟨vt rfl, vt rfl, trivial⟩ (fun x y h => Y01 _ _ _ y h)) rfl <| Cl [5] (Zls _ _ hx6) Zmi rfl <| Zg Z07 5 rfl <| Nl <| rt ?_
 cases h; exact Zc Tryz.results298 rfl (Z00 rfl (i := 5) rfl Z07)
def Z9q (t1 : Z37) (b7 : Atom) : Option Z37 :=
 (Z2b t1.atoms [b7]).bind fun l8 => some (⟨t1.got, l8⟩ : Z37)
def Zdj (t1 : Z37) (a4 : Action) : Option Z37 :=
 (bif (decide (a4.Kind = 0)) then (bif (decide (a4.Port = 4294967293)) then Z9q t1 { { (⟨t1.got, false, 0, 0⟩ : Atom) with Port := a4.Port } with Max := a4.Max } else Z9q t1 { (⟨t1.got, false, 0, 0⟩ : Atom) with Port := a4.Port }) else (bif (decide (a4.Kind = 22)) then Z9q t1 { { (⟨t1.got, false, 0, 0⟩ : Atom) with Group := true } with Port := a4.Group } else (Ziw a4).bind fun x10 => (Zg7 t1.got x10).bind fun x11 => some (⟨x11, t1.atoms⟩ : Z37)))
theorem Zte (g2 gT : Nat) (t1 : Z37) (a4 : Action) (r : Z37) (h : Zdj t1 a4 = some r) : Con Tryz.prog 304 [Zj g2 (Lens.id Z2z), rd Z8 a4] (Z2w g2 gT Z2z (fun v => (⟨t1.got, v⟩ : atom_trace_o1)) 126 Z03 t1.atoms) (fun _ : Unit => top) (fun _ => Z2w g2 gT Z2z (fun v => (⟨r.got, v⟩ : atom_trace_o1)) 126 Z03 r.atoms) := by
 refine Con.intro Tryz.func304 rfl Tryz.ntmps304 rfl fun w H X => ?_
 unfold Zdj at h
 refine AW.unboxF 0 2001 (by decide) rfl rfl fun v3 => SR <| Cv rfl (Zs 4 rfl rfl (vt rfl)) fun g5 => Nl <| SR <| Mp rfl <| Nc rfl <| Zt latom_trace_o1_0 Zd8 rfl <| Ld Z07 0 rfl <| Ac (opb (⟨t1.got, false, 0, 0⟩ : Atom) Z7b rfl Zvj (pc Zqw (vt rfl) <| pn rfl)) rfl <| Cv rfl (Zn 5 rfl rfl Z7b) fun g6 => Zg Z4e 5 rfl <| Nl ?_
 refine JN (d := []) (ν := Atom) (fun b7 => (Z9q t1 b7 = some r, [(0, Zj g2 (Lens.id Z2z)), (4, Zj g6 (Lens.id Z03))], [(0, Zk g2 gT Z2z (⟨t1.got, v3⟩ : atom_trace_o1)), (5, Zk g6 126 Z03 b7), (2001, Ze v3 126 Z03 t1.atoms)])) ?hx1 ?hy1
 case hy1 =>
  intro b7 h
  dsimp only at h ⊢
  unfold Z9q at h
  obtain ⟨l8, hl8, h⟩ := Z9 h
  refine AW.endT <| AR Z01 (by kernel_rfl) <| SMp rfl <| SMp rfl <| SNc rfl <| SFd Z9e Zfy rfl <| Sd (lo [42] [0] rfl fun S hs hr => Zms v3 rfl rfl Zj3 (vh hs 42 rfl rfl) (i := 0) ((hr 0 rfl).trans rfl) rfl) <| Zu Z4e 5 rfl <| Sd (lo [44] [] rfl fun S hs hr => osl Z1q Z7b rfl (vh hs 44 rfl rfl)) <| Sd (Z2c (us := [(46, Z2d 126 Z03 l8)]) (ur := [(2001, emp)]) [43, 45] [2001] rfl fun S hs hr => Zg5 2001 hl8 rfl rfl rfl Zfi (vh hs 43 rfl rfl) ((hr 2001 rfl).trans rfl) (vh hs 45 rfl rfl)) <| SNc rfl <| SFd Z9e Zfy rfl <| Sd (Z2c (us := [(46, top)]) (ur := [(0, Z2w g2 gT Z2z (fun v => ((Lens.comp (Lens.id Z2z) Z9e)).set (⟨t1.got, v3⟩ : atom_trace_o1) v) 126 Z03 l8)]) [48, 46] [0] rfl fun S hs hr => Zt6 rfl rfl Zj3 (vh hs 48 rfl rfl) ((hr 0 rfl).trans rfl) ((hs 46 rfl).trans rfl)) <| Sn <| EndT.unboxF 0 2001 (by decide) rfl rfl fun v9 => EndT.done ?_
  cases h; exact RetOK.turn (Turn.packF 0 2001 (fun v => (⟨t1.got, v⟩ : atom_trace_o1)) (by decide) rfl rfl) (Z1l (i := 0) Tryz.results304 rfl rfl)
 case hx1 =>
  refine SR <| Zt lAction_0 Z43 rfl <| Ld Zm 4 rfl <| Nl <| bk <| SR <| Ac (Z0z rfl rfl (vt rfl) (vk rfl)) rfl <| As rfl <| Nl <| Cq rfl h (fun h => ?_) (fun h => ?_)
  ·refine SR <| Zt lAction_1 Zc6 rfl <| Ld Zm 4 rfl <| Zt Zam Zct rfl <| Zg Zm 5 rfl <| Nl <| SR <| Zt lAction_1 Zc6 rfl <| Ld Zm 4 rfl <| Ac (Z0z rfl rfl (vt rfl) (vk rfl)) rfl <| Nl <| Cq rfl h (fun h => ?_) (fun h => ?_)
   ·refine Rg <| Zt Zci Zj4 rfl <| Ld Zm 4 rfl <| Zt Zeh Ziv rfl <| Zg Zm 5 rfl <| Nl ?_
    exact ⟨_, h, FX rfl⟩
   ·refine sk ?_
    exact ⟨_, h, FX rfl⟩
  ·refine SR <| Ac (Z0z rfl rfl (vt rfl) (vk rfl)) rfl <| As rfl <| Nl <| Cq rfl h (fun h => ?_) (fun h => ?_)
   ·refine AR Z01 (by kernel_rfl) <| SFd Zbu Zhj rfl <| Zu Zm 4 rfl <| SFd Zck Zgo rfl <| Sd (Z2m [37] [5] rfl fun S hs hr => Z6e rfl rfl ty4 (vh hs 37 rfl rfl) (i := 5) ((hr 5 rfl).trans rfl) vb) <| SFd Zam Zct rfl <| SSt Zm 5 rfl <| Sn ?_
    exact ⟨_, h, FX rfl⟩
   ·refine sq ?_
    obtain ⟨x10, hx10, x11, hx11, h⟩ := bs2 h
    refine AR Z01 (by kernel_rfl) <| SMp rfl <| SMp rfl <| SNc rfl <| SFd latom_trace_o1_0 Zd8 rfl <| Zu Z07 0 rfl <| Zu Z0f 4 rfl <| SCl [17] (Y16 _ _ hx10) Zop rfl <| SCl [16, 18] (Zwh _ _ _ hx11) Zx4 rfl <| SNc rfl <| SFd latom_trace_o1_0 Zd8 rfl <| SSt Z07 0 rfl <| Sn <| rt ?_
    cases h; exact RetOK.turn (Turn.packF 0 2001 (fun v => (⟨x11, v⟩ : atom_trace_o1)) (by decide) rfl rfl) (Z1l (i := 0) Tryz.results304 rfl rfl)
def Z8q (sg : Type) (d2 : (sg → Action → Option sg)) : (List Action) → Nat → sg → Option sg
 | [], i6, s5 => some s5
 | x8 :: l7, i6, s5 => (d2 s5 x8).bind fun s10 => (Z8q sg d2 l7) (i6 + 1) s10
def Zir (l1 : (List Action)) (sg : Type) (d2 : (sg → Action → Option sg)) (s3 : sg) : Option sg :=
 Z8q sg d2 l1 0 s3
theorem Zvf (l1 : (List Action)) (sg : Type) (d2 : (sg → Action → Option sg)) (L : sg → Zp) (s3 : sg) (r : sg) (h : Zir l1 sg d2 s3 = some r) : Con Tryz.prog 303 [rd (Z1 Z8) l1, stA Tryz.prog Z8 d2 L] (L s3) (fun _ : Unit => top) (fun _ => L r) := by
 refine Con.intro Tryz.func303 rfl Tryz.ntmps303 rfl fun w H X => ?_
 unfold Zir at h
 refine SR <| Md rfl <| Ac (Z0a rfl rfl Z0g (vt rfl)) rfl <| Mk rfl <| Nl <| bk <| LG (d := []) (ν := (List Action) × Nat × sg) (fun (l7, i6, s5) => (Sfx l1 i6 l7 ∧ Z8q sg d2 l7 i6 s5 = some r, l7.length, [(1, stA Tryz.prog Z8 d2 L), (6, rd (Z1 Z8) l1), (7, rd (Z0 .i64) (l1.length : Int)), (8, rd (Z0 .i64) (i6 : Int))], [(0, L s5)])) (l1, 0, s3) ⟨Sfx.start _, h⟩ (FX rfl) ?_
 rintro ⟨l7, i6, s5⟩ ⟨hsf1, h⟩
 dsimp only at hsf1 h ⊢
 cases l7 with
 | nil =>
  unfold Z8q at h
  refine SR <| Ac (Zl rfl rfl (vt rfl) (vt rfl)) rfl <| Nl <| sq <| Cn rfl (fun hc => absurd (of_decide_eq_true hc) hsf1.nil) (fun hc => ?_)
  refine xt ?_
  cases h; exact Z1l (i := 0) Tryz.results303 rfl rfl
 | cons x8 l7 =>
  unfold Z8q at h
  refine SR <| Ac (Zl rfl rfl (vt rfl) (vt rfl)) rfl <| Nl <| sq <| Cn rfl (fun hc => ?_) (fun hc => absurd hsf1.cons (of_decide_eq_false hc))
  have hlti6 := of_decide_eq_true hc
  refine sk <| sq <| bk <| SR <| Ac (Z04 rfl rfl Z0g (vt rfl) (vt rfl) hsf1.lget) rfl <| Lp1 Z0f rfl <| Cv rfl (Zn 6 rfl rfl Z47) fun g9 => Zg Z0f 6 rfl <| Nl ?_
  obtain ⟨s10, hs10, h⟩ := Z9 h
  refine Rg <| Ac (Zh (A := stA Tryz.prog Z8 d2 L) rfl rfl (vt rfl)) rfl <| Ld Z0f 6 rfl <| Ac (Zv2 0 hs10 rfl rfl (vt rfl) (vt rfl) rfl) rfl <| Nl <| Rg <| Ac (Z0y (t := 7) rfl rfl (vt rfl) (vk rfl) (vt rfl) hlti6) rfl <| Md rfl <| Nl ?_
  exact ⟨(_, _, _), Nat.lt_succ_self _, ⟨hsf1.next, h⟩, FX rfl⟩
def Zfh (a1 : (List Action)) (x2 : Zi) : Option ((List Atom) × Zi) :=
 (Z56 x2).bind fun x5 => (Zir a1 Z37 (fun s x => Zdj s x) (⟨x5, []⟩ : Z37)).bind fun b7 => some (b7.atoms, b7.got)
theorem Zqv : Q2 Tryz.prog 265 (rd (Z1 Z8)) (rd (Z2 24 Z4)) (fun r => Z17 (rd (Z1 Z03) r.1) (rd (Z2 24 Z4) r.2)) Zfh := fun a1 x2 r h => I0 Tryz.func265 rfl Tryz.ntmps265 rfl fun w H => by
 unfold Zfh at h
 refine SR <| Cv rfl (Zs 4 rfl rfl (vt rfl)) fun g3 => Ac (Z0i (A := rd (Z1 Z03) []) rfl rfl Z2u) rfl <| Cv rfl (Zn 6 rfl rfl Z3q) fun g4 => Nl <| sq <| AW.newnil 2221 126 Z03 ?_
 obtain ⟨x5, hx5, h⟩ := Z9 h
 refine Rg <| Ld Z07 4 rfl <| Cl [7] (Zd5 _ _ hx5) Zee rfl <| Ac (opb (⟨x5, (.slice none 0 0)⟩ : atom_trace_o1) Y0u rfl Zyc (pc Zww (vt rfl) <| pn rfl)) rfl <| Cv rfl (Zs 11 rfl rfl (vt rfl)) fun g6 => Ac (Z0i (A := Zj g6 (Lens.id Z2z)) rfl rfl (vt rfl)) rfl <| Nl <| sq ?_
 obtain ⟨b7, hb7, h⟩ := Z9 h
 refine Rg <| Md rfl <| Mp rfl <| Ac (Y00 (fs := [.tmp 12]) (cs := []) (FAs := [Zj g6 (Lens.id Z2z)]) (CAs := []) (k := Z8) (fun s x => Zdj s x) (fun (s : Z37) => Z2w g6 346 Z2z (fun v => (⟨s.got, v⟩ : atom_trace_o1)) 126 Z03 s.atoms) rfl rfl Zon ⟨vt rfl, trivial⟩ trivial (fun s x s2 h => Zte _ _ s x s2 h)) rfl <| AOps.packF 11 2221 (fun v => (⟨x5, v⟩ : atom_trace_o1)) (by decide) rfl rfl <| Cv rfl (Z0u 11 (xs := [.tmp 11, .tmp 13]) (Zvf _ Z37 _ (fun (s : Z37) => Z2w g6 346 Z2z (fun v => (⟨s.got, v⟩ : atom_trace_o1)) 126 Z03 s.atoms) _ _ hb7) Zz0 rfl rfl ⟨vt rfl, vt rfl, trivial⟩ rfl) fun _u => AOps.unboxF 11 2221 (by decide) rfl rfl fun v8 => Nl <| sq <| AR Z01 (by kernel_rfl) <| SMp rfl <| SNc rfl <| SFd Z9e Zfy rfl <| Sd (lo [17] [11] rfl fun S hs hr => Zms v8 rfl rfl Zj3 (vh hs 17 rfl rfl) (i := 11) ((hr 11 rfl).trans rfl) rfl) <| SMp rfl <| SNc rfl <| SFd latom_trace_o1_0 Zd8 rfl <| Zu Z07 11 rfl <| Sd (lo [18] [] rfl fun S hs hr => Z0i (A := Zf v8) rfl rfl (vh hs 18 rfl rfl)) <| SSt Z07 6 rfl <| Sn <| AW.freezes [4, 18] 2221 rfl ⟨rfl, rfl, trivial⟩ rfl <| rt ?_
 cases h; exact Z1z Tryz.results265 rfl (Zb rfl) (Z00 rfl (i := 6) rfl Z07)
def Zcc (w1 : walk_way) (l2 : (List Action)) : Option walk_way :=
 (Zfh l2 w1.got).bind fun x5 => (Z55 w1.atoms (w1.atoms.length : Int)).bind fun s7 => (Z2b s7 x5.1).bind fun l8 => some { { w1 with atoms := l8 } with got := x5.2 }
theorem Znw : Q2 Tryz.prog 205 (rd Z0q) (rd (Z1 Z8)) (rd Z0q) Zcc := fun w1 l2 r h => I0 Tryz.func205 rfl Tryz.ntmps205 rfl fun w H => by
 unfold Zcc at h
 refine SR <| Cv rfl (Zs 3 rfl rfl (vt rfl)) fun g3 => Cv rfl (Zn 5 rfl rfl Z86) fun g4 => Nl <| sq ?_
 obtain ⟨x5, hx5, h⟩ := Z9 h
 refine Rg <| Md rfl <| Zt lwalk_way_1 Zac rfl <| Ld Z07 3 rfl <| Cl [8, 10] (Zqv _ _ _ hx5) Y1f rfl <| Mt2 rfl <| Ac (Z20 rfl rfl (vt rfl)) rfl <| Ac (Z22 rfl rfl (vt rfl)) rfl <| Cv rfl (Zn 7 rfl rfl Z3q) fun g6 => As rfl <| Zg Z07 7 rfl <| Nl <| sq ?_
 obtain ⟨s7, hs7, l8, hl8, h⟩ := bs2 h
 refine AR Z01 (by kernel_rfl) <| SFd Z77 Zbe rfl <| Zu Z3b 3 rfl <| SFd Z77 Zbe rfl <| Zu Z3b 3 rfl <| Sd (lo [17] [] rfl fun S hs hr => Z0a rfl rfl Z1q (vh hs 17 rfl rfl)) <| SFd Z77 Zbe rfl <| Zu Z3b 3 rfl <| Sd (lo [20] [] rfl fun S hs hr => Z0a rfl rfl Z1q (vh hs 20 rfl rfl)) <| Sd (lo [15, 18, 21] [] rfl fun S hs hr => Zqb hs7 rfl rfl Z1q (vh hs 15 rfl rfl) (vh hs 18 rfl rfl) (vh hs 21 rfl rfl)) <| Zq rfl <| Sd (lo [22, 23] [] rfl fun S hs hr => Zuq hl8 rfl rfl Zfi (vh hs 22 rfl rfl) (vh hs 23 rfl rfl)) <| Zu Z07 7 rfl <| SFd Z77 Zbe rfl <| SSt Z3b 3 rfl <| SFd lwalk_way_1 Zac rfl <| SSt Z07 3 rfl <| Sn <| SR <| Ld Z1w 3 rfl <| Zg Z1w 5 rfl <| Nl <| rt ?_
 cases h; exact Zc Tryz.results205 rfl (Z00 rfl (i := 5) rfl Z1w)
end Go.Proofs.YtknpgojdkobgjaaGreat.W
set_option maxRecDepth 4000
namespace Go.Proofs.YtknpgojdkobgjaaGreat.W
open Go Go.Wb
theorem Zc1 : Ent Tryz.prog 221 := Ent.mk Tryz.func221 rfl rfl
theorem Zzc : Ent Tryz.prog 267 := Ent.mk Tryz.func267 rfl rfl
theorem Zfm : Ent Tryz.prog 266 := Ent.mk Tryz.func266 rfl rfl
theorem Zpz : Ent Tryz.prog 273 := Ent.mk Tryz.func273 rfl rfl
theorem Zhu : Ent Tryz.prog 218 := Ent.mk Tryz.func218 rfl rfl
def Z7v (a1 : Action) : Option aset_spot :=
 (bif (decide (a1.Kind = 25)) then some (⟨a1.Kind, a1.Oxm.Field⟩ : aset_spot) else some (⟨a1.Kind, 0⟩ : aset_spot))
theorem Zeu : Q1 Tryz.prog 221 (rd Z8) (rd Z3s) Z7v := fun a1 r h => I0 Tryz.func221 rfl Tryz.ntmps221 rfl fun w H => by
 unfold Z7v at h
 refine SR <| Cv rfl (Zs 2 rfl rfl (vt rfl)) fun g2 => Cv rfl (Zn 3 rfl rfl Zaz) fun g3 => Nl <| sq <| SR <| Zt lAction_0 Z43 rfl <| Ld Zm 2 rfl <| Ac (Z0z rfl rfl (vt rfl) (vk rfl)) rfl <| Nl <| Cq rfl h (fun h => ?_) (fun h => ?_)
 ·refine SR <| Zt lAction_0 Z43 rfl <| Ld Zm 2 rfl <| Zt Z8f Z8u rfl <| Zt Z4p Z5w rfl <| Ld Zm 2 rfl <| Ac (opb (⟨a1.Kind, a1.Oxm.Field⟩ : aset_spot) Zaz rfl Zjx (pc Zo5 (vt rfl) <| pc Zzm (vt rfl) <| pn rfl)) rfl <| Zg Z72 3 rfl <| Nl <| rt ?_
  cases h; exact Zc Tryz.results221 rfl (Z00 rfl (i := 3) rfl Z72)
 ·refine sk <| SR <| Zt lAction_0 Z43 rfl <| Ld Zm 2 rfl <| Ac (opb (⟨a1.Kind, 0⟩ : aset_spot) Zaz rfl Zjx (pc Zo5 (vt rfl) <| pn rfl)) rfl <| Zg Z72 3 rfl <| Nl <| rt ?_
  cases h; exact Zc Tryz.results221 rfl (Z00 rfl (i := 3) rfl Z72)
def Zdb (b1 : Action) (x2 : Action) : Option Bool :=
 (Z7v x2).bind fun x4 => (Z7v b1).bind fun x5 => some (decide (x4 = x5))
theorem Zsf : Q2 Tryz.prog 267 (rd Z8) (rp Z8) (rd Z6) Zdb := fun b1 x2 r h => I0 Tryz.func267 rfl Tryz.ntmps267 rfl fun w H => by
 unfold Zdb at h
 refine SR <| Cv rfl (Zs 3 rfl rfl (vt rfl)) fun g3 => Ab rfl <| Nl <| sq ?_
 obtain ⟨x4, hx4, x5, hx5, h⟩ := bs2 h
 refine AR Z01 (by kernel_rfl) <| SLp Z0f rfl <| SCl [4] (Zeu _ _ hx4) Zc1 rfl <| Zu Z0f 3 rfl <| SCl [6] (Zeu _ _ hx5) Zc1 rfl <| Sd (lo [5, 7] [] rfl fun S hs hr => Z7h rfl rfl Zov (by decide) rfl Zr6 (vh hs 5 rfl rfl) (vh hs 7 rfl rfl)) <| SAs rfl <| Sn <| rt ?_
 cases h; exact Zc Tryz.results267 rfl (Zb rfl)
def Z9z (s1 : (List Action)) (x2 : (Action → Option Bool)) : Nat → Nat → Option Int
 | 0, i3 => some (-1)
 | m4 + 1, i3 => (lget s1 (i3 : Int)).bind fun x5 => (x2 x5).bind fun x6 => (bif x6 then some (i3 : Int) else (Z9z s1 x2 m4) (i3 + 1))
def Z95 (s1 : (List Action)) (x2 : (Action → Option Bool)) : Option Int :=
 Z9z s1 x2 ((s1.length : Int) : Int).toNat 0
theorem Zfz : Q2 Tryz.prog 266 (rd (Z1 Z8)) (fn1 Tryz.prog Z8 Z6) (rd (Z0 .i64)) Z95 := fun s1 x2 r h => I0 Tryz.func266 rfl Tryz.ntmps266 rfl fun w H => by
 unfold Z95 at h
 refine SR <| Ak rfl <| Nl <| sq <| SR <| Md rfl <| Ac (Z0a rfl rfl Z0g (vt rfl)) rfl <| Mk rfl <| Nl <| bk <| LG (d := []) (ν := Nat × Nat) (fun (m4, i3) => (Cnt (s1.length : Int) i3 m4 ∧ Z9z s1 x2 m4 i3 = some r, m4, [(0, rd (Z1 Z8) s1), (1, fn1 Tryz.prog Z8 Z6 x2), (7, rd (Z0 .i64) (s1.length : Int)), (8, rd (Z0 .i64) (i3 : Int))], [])) (((s1.length : Int) : Int).toNat, 0) ⟨Cnt.start _, h⟩ (FX rfl) ?_
 rintro ⟨m4, i3⟩ ⟨hsf1, h⟩
 dsimp only at hsf1 h ⊢
 cases m4 with
 | zero =>
  unfold Z9z at h
  refine SR <| Ac (Zl rfl rfl (vt rfl) (vt rfl)) rfl <| Nl <| sq <| Cn rfl (fun hc => absurd (of_decide_eq_true hc) hsf1.zero) (fun hc => ?_)
  refine xt <| SR <| Ak rfl <| Nl <| rt ?_
  cases h; exact Zc Tryz.results266 rfl (Zb rfl)
 | succ m4 =>
  unfold Z9z at h
  refine SR <| Ac (Zl rfl rfl (vt rfl) (vt rfl)) rfl <| Nl <| sq <| Cn rfl (fun hc => ?_) (fun hc => absurd hsf1.succ (of_decide_eq_false hc))
  have hlti3 := of_decide_eq_true hc
  refine sk <| sq <| bk <| SR <| Md rfl <| As rfl <| Nl <| sq ?_
  obtain ⟨x5, hx5, x6, hx6, h⟩ := bs2 h
  refine Rg <| Ac (Zh (A := fn1 Tryz.prog Z8 Z6 x2) rfl rfl (vt rfl)) rfl <| Md rfl <| Md rfl <| Ac (Z04 rfl rfl Z0g (vt rfl) (vt rfl) hx5) rfl <| Lp1 Z0f rfl <| Ac (Z5m hx6 rfl rfl (vt rfl) (vt rfl)) rfl <| Nl <| Cq rfl h (fun h => ?_) (fun h => ?_)
  ·refine SR <| Md rfl <| As rfl <| Nl <| rt ?_
   cases h; exact Zc Tryz.results266 rfl (Zb rfl)
  ·refine sk <| Rg <| Ac (Z0y (t := 7) rfl rfl (vt rfl) (vk rfl) (vt rfl) hlti3) rfl <| Md rfl <| Nl ?_
   exact ⟨(_, _), Nat.lt_succ_self _, ⟨hsf1.next, h⟩, FX rfl⟩
def Z81 : (List Action) → Nat → (List Action) → Option (List Action)
 | [], i9, l7 => some l7
 | x11 :: l10, i9, l7 => (Z95 l7 (fun x => Zdb x x11)).bind fun x13 => (bif (decide (x13 < 0)) then (Z2b l7 [x11]).bind fun l14 => (Z81 l10) (i9 + 1) l14 else (lget l7 x13).bind fun x16 => (Z81 l10) (i9 + 1) (List.set l7 x13.toNat x11))
def Zh8 (s1 : (List Action)) (l2 : (List Action)) : Option (List Action) :=
 (Z6s s1).bind fun x3 => Z81 l2 0 x3
theorem Zsy : Q2 Tryz.prog 206 (rd (Z1 Z8)) (rd (Z1 Z8)) (rd (Z1 Z8)) Zh8 := fun s1 l2 r h => I0 Tryz.func206 rfl Tryz.ntmps206 rfl fun w H => by
 unfold Zh8 at h
 refine SR <| Ac (Z0i (A := rd (Z1 Z8) []) rfl rfl Z2u) rfl <| Nl <| sq ?_
 obtain ⟨x3, hx3, h⟩ := Z9 h
 refine Rg <| Md rfl <| Cv rfl (Z0u 1001 (xs := [.tmp 9]) (Zfs _ _ hx3) Zd2 rfl rfl ⟨vt rfl, trivial⟩ rfl) fun v4 => Aw rfl <| Nl <| sq <| SR <| Md rfl <| Ac (Z0a rfl rfl Z0g (vt rfl)) rfl <| Mk rfl <| Nl <| bk <| LG (d := []) (ν := (List Action) × Nat × (List Action) × Value) (fun (l10, i9, l7, v8) => (Sfx l2 i9 l10 ∧ Z81 l10 i9 l7 = some r, l10.length, [(5, Zf v8), (11, rd (Z1 Z8) l2), (12, rd (Z0 .i64) (l2.length : Int)), (13, rd (Z0 .i64) (i9 : Int))], [(1001, Ze v8 121 Z8 l7)])) (l2, 0, x3, v4) ⟨Sfx.start _, h⟩ (FX rfl) ?_
 rintro ⟨l10, i9, l7, v8⟩ ⟨hsf1, h⟩
 dsimp only at hsf1 h ⊢
 cases l10 with
 | nil =>
  unfold Z81 at h
  refine SR <| Ac (Zl rfl rfl (vt rfl) (vt rfl)) rfl <| Nl <| sq <| Cn rfl (fun hc => absurd (of_decide_eq_true hc) hsf1.nil) (fun hc => ?_)
  refine xt <| SR <| Mw rfl <| Aw rfl <| Nl <| AW.freezes [4, 5, 31] 1001 rfl ⟨rfl, rfl, rfl, trivial⟩ rfl <| rt ?_
  cases h; exact Zc Tryz.results206 rfl (Zb rfl)
 | cons x11 l10 =>
  unfold Z81 at h
  refine SR <| Ac (Zl rfl rfl (vt rfl) (vt rfl)) rfl <| Nl <| sq <| Cn rfl (fun hc => ?_) (fun hc => absurd hsf1.cons (of_decide_eq_false hc))
  have hlti9 := of_decide_eq_true hc
  refine sk <| sq <| bk <| SR <| Ac (Z04 rfl rfl Z0g (vt rfl) (vt rfl) hsf1.lget) rfl <| Lp1 Z0f rfl <| Cv rfl (Zn 8 rfl rfl Z47) fun g12 => Zg Z0f 8 rfl <| Nl <| sq <| AW.freezeB 7 8 rfl rfl rfl ?_
  obtain ⟨x13, hx13, h⟩ := Z9 h
  refine Rg <| Mw rfl <| Ac (Z53 (cs := [.tmp 7]) (CAs := [rp Z8 x11]) (fun x => Zdb x x11) rfl rfl Zzc ⟨vt rfl, trivial⟩ (fun x y h => Zsf _ _ y h)) rfl <| Ac (Zip (xs := [.tmp 17, .tmp 18]) 1001 (Zfz _ _ _ hx13) Zfm rfl rfl ⟨vL rfl rfl, vB (vt rfl), trivial⟩) rfl <| As rfl <| Nl <| SR <| Md rfl <| Ac (Zl rfl rfl (vt rfl) (vk rfl)) rfl <| Nl <| Cq rfl h (fun h => ?_) (fun h => ?_)
  ·obtain ⟨l14, hl14, h⟩ := Z9 h
   refine Rg <| Mw rfl <| Lp1 Z0f rfl <| Ac (osl Z0g Z47 rfl (vt rfl)) rfl <| Cv rfl (Z3w 1001 hl14 rfl rfl Zoj (vt rfl) rfl (vt rfl)) fun v15 => Aw rfl <| Nl <| Rg <| Ac (Z0y (t := 12) rfl rfl (vt rfl) (vk rfl) (vt rfl) hlti9) rfl <| Md rfl <| Nl ?_
   exact ⟨(_, _, _, _), Nat.lt_succ_self _, ⟨hsf1.next, h⟩, FX rfl⟩
  ·obtain ⟨x16, hx16, h⟩ := Z9 h
   refine Rg <| Mw rfl <| Md rfl <| Lp1 Z0f rfl <| Ac (Z1e 1001 rfl rfl Z0g (vt rfl) rfl (vt rfl) hx16) rfl <| Ac (Z25 1001 rfl rfl Z0f (vt rfl) rfl (Z08 hx16).2 (vt rfl)) rfl <| Nl <| Rg <| Ac (Z0y (t := 12) rfl rfl (vt rfl) (vk rfl) (vt rfl) hlti9) rfl <| Md rfl <| Nl ?_
   exact ⟨(_, _, _, _), Nat.lt_succ_self _, ⟨hsf1.next, h⟩, FX rfl⟩
def Zfk (s1 : (List Action)) (x2 : (Action → Option Bool)) : Option Bool :=
 (Z95 s1 x2).bind fun x3 => some (decide (x3 ≥ 0))
theorem Y10 : Q2 Tryz.prog 213 (rd (Z1 Z8)) (fn1 Tryz.prog Z8 Z6) (rd Z6) Zfk := fun s1 x2 r h => I0 Tryz.func213 rfl Tryz.ntmps213 rfl fun w H => by
 unfold Zfk at h
 refine SR <| Ab rfl <| Nl <| sq ?_
 obtain ⟨x3, hx3, h⟩ := Z9 h
 refine Rg <| Md rfl <| Ac (Zh (A := fn1 Tryz.prog Z8 Z6 x2) rfl rfl (vt rfl)) rfl <| Cl [5, 6] (Zfz _ _ _ hx3) Zfm rfl <| Ac (Z4d rfl rfl (vt rfl) (vk rfl)) rfl <| As rfl <| Nl <| rt ?_
 cases h; exact Zc Tryz.results213 rfl (Zb rfl)
def Zff (a1 : Action) : Option Bool :=
 some (decide (a1.Kind = 22))
theorem Zyj : Q1 Tryz.prog 214 (rd Z8) (rd Z6) Zff := fun a1 r h => I0 Tryz.func214 rfl Tryz.ntmps214 rfl fun w H => by
 unfold Zff at h
 refine SR <| Cv rfl (Zs 2 rfl rfl (vt rfl)) fun g2 => Ab rfl <| Nl <| SR <| Zt lAction_0 Z43 rfl <| Ld Zm 2 rfl <| Ac (Z0z rfl rfl (vt rfl) (vk rfl)) rfl <| As rfl <| Nl <| rt ?_
 cases h; exact Zc Tryz.results214 rfl (Zb rfl)
def Zb0 (s1 : (List Int)) (x2 : Int) : Nat → Nat → Option Int
 | 0, i3 => some (-1)
 | m4 + 1, i3 => (lget s1 (i3 : Int)).bind fun x5 => (bif (decide (x2 = x5)) then some (i3 : Int) else (Zb0 s1 x2 m4) (i3 + 1))
def Zfb (s1 : (List Int)) (x2 : Int) : Option Int :=
 Zb0 s1 x2 ((s1.length : Int) : Int).toNat 0
theorem Zrx : Q2 Tryz.prog 273 (rd (Z1 (Z0 .i64))) (rd (Z0 .i64)) (rd (Z0 .i64)) Zfb := fun s1 x2 r h => I0 Tryz.func273 rfl Tryz.ntmps273 rfl fun w H => by
 unfold Zfb at h
 refine SR <| Ak rfl <| Nl <| sq <| SR <| Md rfl <| Ac (Z0a rfl rfl Z0w (vt rfl)) rfl <| Mk rfl <| Nl <| bk <| LG (d := []) (ν := Nat × Nat) (fun (m4, i3) => (Cnt (s1.length : Int) i3 m4 ∧ Zb0 s1 x2 m4 i3 = some r, m4, [(0, rd (Z1 (Z0 .i64)) s1), (1, rd (Z0 .i64) x2), (7, rd (Z0 .i64) (s1.length : Int)), (8, rd (Z0 .i64) (i3 : Int))], [])) (((s1.length : Int) : Int).toNat, 0) ⟨Cnt.start _, h⟩ (FX rfl) ?_
 rintro ⟨m4, i3⟩ ⟨hsf1, h⟩
 dsimp only at hsf1 h ⊢
 cases m4 with
 | zero =>
  unfold Zb0 at h
  refine SR <| Ac (Zl rfl rfl (vt rfl) (vt rfl)) rfl <| Nl <| sq <| Cn rfl (fun hc => absurd (of_decide_eq_true hc) hsf1.zero) (fun hc => ?_)
  refine xt <| SR <| Ak rfl <| Nl <| rt ?_
  cases h; exact Zc Tryz.results273 rfl (Zb rfl)
 | succ m4 =>
  unfold Zb0 at h
  refine SR <| Ac (Zl rfl rfl (vt rfl) (vt rfl)) rfl <| Nl <| sq <| Cn rfl (fun hc => ?_) (fun hc => absurd hsf1.succ (of_decide_eq_false hc))
  have hlti3 := of_decide_eq_true hc
  refine sk <| sq <| bk <| SR <| Md rfl <| As rfl <| Nl <| sq ?_
  obtain ⟨x5, hx5, h⟩ := Z9 h
  refine Rg <| Md rfl <| Md rfl <| Md rfl <| Ac (Z04 rfl rfl Z0w (vt rfl) (vt rfl) hx5) rfl <| Lp1 Zm rfl <| Ac (Z0z rfl rfl (vt rfl) (vt rfl)) rfl <| Nl <| Cq rfl h (fun h => ?_) (fun h => ?_)
  ·refine SR <| Md rfl <| As rfl <| Nl <| rt ?_
   cases h; exact Zc Tryz.results273 rfl (Zb rfl)
  ·refine sk <| Rg <| Ac (Z0y (t := 7) rfl rfl (vt rfl) (vk rfl) (vt rfl) hlti3) rfl <| Md rfl <| Nl ?_
   exact ⟨(_, _), Nat.lt_succ_self _, ⟨hsf1.next, h⟩, FX rfl⟩
def Zan (k1 : Int) : Option Int :=
 (Zfb [18, 17, 25, 22, 0] k1).bind fun x2 => some x2
theorem Zhy : Q1 Tryz.prog 218 (rd (Z0 .i64)) (rd (Z0 .i64)) Zan := fun k1 r h => I0 Tryz.func218 rfl Tryz.ntmps218 rfl fun w H => by
 unfold Zan at h
 refine SR <| Ak rfl <| Nl <| sq ?_
 obtain ⟨x2, hx2, h⟩ := Z9 h
 refine Rg <| Ac (Zce (ps := [(0, .const (Value.int IntKind.i64 18)), (1, .const (Value.int IntKind.i64 17)), (2, .const (Value.int IntKind.i64 25)), (3, .const (Value.int IntKind.i64 22)), (4, .const (Value.int IntKind.i64 0))]) (l := [18, 17, 25, 22, 0]) rfl rfl Z0w zr3 rfl rfl ⟨_, _, Lens.idx 5 (Z0 .i64) 0 (by decide), _, rfl, (vk rfl), _, _, Lens.idx 5 (Z0 .i64) 1 (by decide), _, rfl, (vk rfl), _, _, Lens.idx 5 (Z0 .i64) 2 (by decide), _, rfl, (vk rfl), _, _, Lens.idx 5 (Z0 .i64) 3 (by decide), _, rfl, (vk rfl), _, _, Lens.idx 5 (Z0 .i64) 4 (by decide), _, rfl, (vk rfl), rfl⟩ rfl) rfl <| Md rfl <| Cl [3, 4] (Zrx _ _ _ hx2) Zpz rfl <| As rfl <| Nl <| rt ?_
 cases h; exact Zc Tryz.results218 rfl (Zb rfl)
def Zdg (a1 : Action) (x2 : Bool) : Option Bool :=
 (Zan a1.Kind).bind fun x4 => some ((decide (x4 < 0)) || (x2 && (decide (a1.Kind = 0))))
theorem Zql : Q2 Tryz.prog 217 (rd Z8) (rp Z6) (rd Z6) Zdg := fun a1 x2 r h => I0 Tryz.func217 rfl Tryz.ntmps217 rfl fun w H => by
 unfold Zdg at h
 refine SR <| Cv rfl (Zs 3 rfl rfl (vt rfl)) fun g3 => Ab rfl <| Nl <| sq ?_
 obtain ⟨x4, hx4, h⟩ := Z9 h
 refine Rg <| Zt lAction_0 Z43 rfl <| Ld Zm 3 rfl <| Cl [5] (Zhy _ _ hx4) Zhu rfl <| Ac (Zl rfl rfl (vt rfl) (vk rfl)) rfl <| Md rfl <| Gd rfl (fun hq => Z1t rfl rfl ty4 (vt rfl)) <| AOps.consG (OpG.guardX rfl rfl rfl rfl rfl fun hq => Zh (A := rd Z6 x2) rfl rfl (Z5 rfl hq)) <| AOps.consG (OpG.guardN rfl rfl rfl rfl rfl fun hq => Z0l lAction_0 rfl rfl Z43 (vt rfl)) <| AOps.consG (OpG.guardN rfl rfl rfl rfl rfl fun hq => Z0d rfl rfl Zm (Z5 rfl hq) (i := 3) rfl) <| AOps.consG (OpG.guardN rfl rfl rfl rfl rfl fun hq => Z0z rfl rfl (Z5 rfl hq) (vk rfl)) <| Gd rfl (fun hq => Z0p rfl rfl (vgx rfl hq) (vgw rfl hq)) <| Ac (Z2v rfl rfl (vt rfl) (vt rfl)) rfl <| As rfl <| Nl <| rt ?_
 cases h; exact Zc Tryz.results217 rfl (Zb rfl)
end Go.Proofs.YtknpgojdkobgjaaGreat.W
