/- A part of the proof. -/
import Derived.Test.YtknpgojdkobgjaaGreatL1
import Derived.Test.YtknpgojdkobgjaaGreatProg
import Derived.KernelRfl
set_option linter.unusedVariables false
set_option maxRecDepth 4000
set_option linter.unusedSimpArgs false
namespace Go.Proofs.YtknpgojdkobgjaaGreat.W
open Go Go.Wb
structure Wide where
 Hi : (BitVec 64)
 Lo : (BitVec 64)
 deriving DecidableEq, Inhabited
def Zp : Kd Wide := Z1p (Zb Z0j Z0j) (fun x => (x.Hi, x.Lo))
instance : PureK Zp := inferInstanceAs (PureK (Z1p (Zb Z0j Z0j) (fun (x : Wide) => (x.Hi, x.Lo))))
def lWide_0 : Lens Zp Z0j := Lens.iso (k := (Zb Z0j Z0j)) (Lens.fst _ _) Wide.Hi (fun x y => { x with Hi := y }) (fun _ => rfl) (fun _ _ => rfl)
def lWide_1 : Lens Zp Z0j := Lens.iso (k := (Zb Z0j Z0j)) (Lens.snd _ _) Wide.Lo (fun x y => { x with Lo := y }) (fun _ => rfl) (fun _ _ => rfl)
def Z00 : Wide := ⟨0, 0⟩
def Zcv : List Value := ([.int .u64 0] ++ [.int .u64 0])
theorem Z93 : KZ Zp Z00 Zcv := Z45 (Z1e Znu Znu)
structure Tern where
 Value : Wide
 Mask : Wide
 deriving DecidableEq, Inhabited
def Z2 : Kd Tern := Z1p (Zb Zp Zp) (fun x => (x.Value, x.Mask))
instance : PureK Z2 := inferInstanceAs (PureK (Z1p (Zb Zp Zp) (fun (x : Tern) => (x.Value, x.Mask))))
def lTern_0 : Lens Z2 Zp := Lens.iso (k := (Zb Zp Zp)) (Lens.fst _ _) Tern.Value (fun x y => { x with Value := y }) (fun _ => rfl) (fun _ _ => rfl)
def lTern_1 : Lens Z2 Zp := Lens.iso (k := (Zb Zp Zp)) (Lens.snd _ _) Tern.Mask (fun x y => { x with Mask := y }) (fun _ => rfl) (fun _ _ => rfl)
def zTern : Tern := ⟨Z00, Z00⟩
def Zf5 : List Value := (Zcv ++ Zcv)
theorem Z8z : KZ Z2 zTern Zf5 := Z45 (Z1e Z93 Z93)
abbrev Z5 := Vector Tern 24
structure Oxm where
 Field : Int
 Masked : Bool
 Value : Wide
 Mask : Wide
 deriving DecidableEq, Inhabited
def Z1w : Kd Oxm := Z1p (Zb (Z0 .i64) (Zb Z7 (Zb Zp Zp))) (fun x => (x.Field, (x.Masked, (x.Value, x.Mask))))
instance : PureK Z1w := inferInstanceAs (PureK (Z1p (Zb (Z0 .i64) (Zb Z7 (Zb Zp Zp))) (fun (x : Oxm) => (x.Field, (x.Masked, (x.Value, x.Mask))))))
def Z40 : Lens Z1w (Z0 .i64) := Lens.iso (k := (Zb (Z0 .i64) (Zb Z7 (Zb Zp Zp)))) (Lens.fst _ _) Oxm.Field (fun x y => { x with Field := y }) (fun _ => rfl) (fun _ _ => rfl)
def Zl8 : Lens Z1w Z7 := Lens.iso (k := (Zb (Z0 .i64) (Zb Z7 (Zb Zp Zp)))) (Lens.comp (Lens.snd _ _) (Lens.fst _ _)) Oxm.Masked (fun x y => { x with Masked := y }) (fun _ => rfl) (fun _ _ => rfl)
def Zbp : Lens Z1w Zp := Lens.iso (k := (Zb (Z0 .i64) (Zb Z7 (Zb Zp Zp)))) (Lens.comp (Lens.comp (Lens.snd _ _) (Lens.snd _ _)) (Lens.fst _ _)) Oxm.Value (fun x y => { x with Value := y }) (fun _ => rfl) (fun _ _ => rfl)
def Zk0 : Lens Z1w Zp := Lens.iso (k := (Zb (Z0 .i64) (Zb Z7 (Zb Zp Zp)))) (Lens.comp (Lens.comp (Lens.snd _ _) (Lens.snd _ _)) (Lens.snd _ _)) Oxm.Mask (fun x y => { x with Mask := y }) (fun _ => rfl) (fun _ _ => rfl)
def Z3x : Oxm := ⟨0, false, Z00, Z00⟩
def Zw8 : List Value := ([.int .i64 0] ++ ([.bool false] ++ (Zcv ++ Zcv)))
theorem Y1d : KZ Z1w Z3x Zw8 := Z45 (Z1e Z2r (Z1e Zl1 (Z1e Z93 Z93)))
structure Action where
 Kind : Int
 Port : Int
 Max : Int
 Group : Int
 Ether : Int
 Oxm : Oxm
 deriving DecidableEq, Inhabited
def Z8 : Kd Action := Z1p (Zb (Z0 .i64) (Zb (Z0 .i64) (Zb (Z0 .i64) (Zb (Z0 .i64) (Zb (Z0 .i64) Z1w))))) (fun x => (x.Kind, (x.Port, (x.Max, (x.Group, (x.Ether, x.Oxm))))))
instance : PureK Z8 := inferInstanceAs (PureK (Z1p (Zb (Z0 .i64) (Zb (Z0 .i64) (Zb (Z0 .i64) (Zb (Z0 .i64) (Zb (Z0 .i64) Z1w))))) (fun (x : Action) => (x.Kind, (x.Port, (x.Max, (x.Group, (x.Ether, x.Oxm))))))))
def lAction_0 : Lens Z8 (Z0 .i64) := Lens.iso (k := (Zb (Z0 .i64) (Zb (Z0 .i64) (Zb (Z0 .i64) (Zb (Z0 .i64) (Zb (Z0 .i64) Z1w)))))) (Lens.fst _ _) Action.Kind (fun x y => { x with Kind := y }) (fun _ => rfl) (fun _ _ => rfl)
def lAction_1 : Lens Z8 (Z0 .i64) := Lens.iso (k := (Zb (Z0 .i64) (Zb (Z0 .i64) (Zb (Z0 .i64) (Zb (Z0 .i64) (Zb (Z0 .i64) Z1w)))))) (Lens.comp (Lens.snd _ _) (Lens.fst _ _)) Action.Port (fun x y => { x with Port := y }) (fun _ => rfl) (fun _ _ => rfl)
def Zjk : Lens Z8 (Z0 .i64) := Lens.iso (k := (Zb (Z0 .i64) (Zb (Z0 .i64) (Zb (Z0 .i64) (Zb (Z0 .i64) (Zb (Z0 .i64) Z1w)))))) (Lens.comp (Lens.comp (Lens.snd _ _) (Lens.snd _ _)) (Lens.fst _ _)) Action.Max (fun x y => { x with Max := y }) (fun _ => rfl) (fun _ _ => rfl)
def Zim : Lens Z8 (Z0 .i64) := Lens.iso (k := (Zb (Z0 .i64) (Zb (Z0 .i64) (Zb (Z0 .i64) (Zb (Z0 .i64) (Zb (Z0 .i64) Z1w)))))) (Lens.comp (Lens.comp (Lens.comp (Lens.snd _ _) (Lens.snd _ _)) (Lens.snd _ _)) (Lens.fst _ _)) Action.Group (fun x y => { x with Group := y }) (fun _ => rfl) (fun _ _ => rfl)
def Zsm : Lens Z8 (Z0 .i64) := Lens.iso (k := (Zb (Z0 .i64) (Zb (Z0 .i64) (Zb (Z0 .i64) (Zb (Z0 .i64) (Zb (Z0 .i64) Z1w)))))) (Lens.comp (Lens.comp (Lens.comp (Lens.comp (Lens.snd _ _) (Lens.snd _ _)) (Lens.snd _ _)) (Lens.snd _ _)) (Lens.fst _ _)) Action.Ether (fun x y => { x with Ether := y }) (fun _ => rfl) (fun _ _ => rfl)
def Z5r : Lens Z8 Z1w := Lens.iso (k := (Zb (Z0 .i64) (Zb (Z0 .i64) (Zb (Z0 .i64) (Zb (Z0 .i64) (Zb (Z0 .i64) Z1w)))))) (Lens.comp (Lens.comp (Lens.comp (Lens.comp (Lens.snd _ _) (Lens.snd _ _)) (Lens.snd _ _)) (Lens.snd _ _)) (Lens.snd _ _)) Action.Oxm (fun x y => { x with Oxm := y }) (fun _ => rfl) (fun _ _ => rfl)
def Zof : Action := ⟨0, 0, 0, 0, 0, Z3x⟩
def Y6i : List Value := ([.int .i64 0] ++ ([.int .i64 0] ++ ([.int .i64 0] ++ ([.int .i64 0] ++ ([.int .i64 0] ++ Zw8)))))
theorem Yff : KZ Z8 Zof Y6i := Z45 (Z1e Z2r (Z1e Z2r (Z1e Z2r (Z1e Z2r (Z1e Z2r Y1d)))))
structure Inst where
 Kind : Int
 Table : Int
 Value : Wide
 Mask : Wide
 Acts : (List Action)
 deriving DecidableEq, Inhabited
def Z1a : Kd Inst := Z1p (Zb (Z0 .i64) (Zb (Z0 .i64) (Zb Zp (Zb Zp (Z3 Z8))))) (fun x => (x.Kind, (x.Table, (x.Value, (x.Mask, x.Acts)))))
def lInst_0 : Lens Z1a (Z0 .i64) := Lens.iso (k := (Zb (Z0 .i64) (Zb (Z0 .i64) (Zb Zp (Zb Zp (Z3 Z8)))))) (Lens.fst _ _) Inst.Kind (fun x y => { x with Kind := y }) (fun _ => rfl) (fun _ _ => rfl)
def lInst_1 : Lens Z1a (Z0 .i64) := Lens.iso (k := (Zb (Z0 .i64) (Zb (Z0 .i64) (Zb Zp (Zb Zp (Z3 Z8)))))) (Lens.comp (Lens.snd _ _) (Lens.fst _ _)) Inst.Table (fun x y => { x with Table := y }) (fun _ => rfl) (fun _ _ => rfl)
def Ztc : Lens Z1a Zp := Lens.iso (k := (Zb (Z0 .i64) (Zb (Z0 .i64) (Zb Zp (Zb Zp (Z3 Z8)))))) (Lens.comp (Lens.comp (Lens.snd _ _) (Lens.snd _ _)) (Lens.fst _ _)) Inst.Value (fun x y => { x with Value := y }) (fun _ => rfl) (fun _ _ => rfl)
def Zqj : Lens Z1a Zp := Lens.iso (k := (Zb (Z0 .i64) (Zb (Z0 .i64) (Zb Zp (Zb Zp (Z3 Z8)))))) (Lens.comp (Lens.comp (Lens.comp (Lens.snd _ _) (Lens.snd _ _)) (Lens.snd _ _)) (Lens.fst _ _)) Inst.Mask (fun x y => { x with Mask := y }) (fun _ => rfl) (fun _ _ => rfl)
def lInst_4 : Lens Z1a (Z3 Z8) := Lens.iso (k := (Zb (Z0 .i64) (Zb (Z0 .i64) (Zb Zp (Zb Zp (Z3 Z8)))))) (Lens.comp (Lens.comp (Lens.comp (Lens.snd _ _) (Lens.snd _ _)) (Lens.snd _ _)) (Lens.snd _ _)) Inst.Acts (fun x y => { x with Acts := y }) (fun _ => rfl) (fun _ _ => rfl)
def Zs9 : Inst := ⟨0, 0, Z00, Z00, []⟩
def Ycq : List Value := ([.int .i64 0] ++ ([.int .i64 0] ++ (Zcv ++ (Zcv ++ [.slice none 0 0]))))
theorem Y4a : KZ Z1a Zs9 Ycq := Z45 (Z1e Z2r (Z1e Z2r (Z1e Z93 (Z1e Z93 (Z65 _)))))
structure Flow where
 Cookie : (BitVec 64)
 Priority : Int
 Idle : Int
 Hard : Int
 Flags : Int
 Match : (List Oxm)
 Insts : (List Inst)
 deriving DecidableEq, Inhabited
def Z0k : Kd Flow := Z1p (Zb Z0j (Zb (Z0 .i64) (Zb (Z0 .i64) (Zb (Z0 .i64) (Zb (Z0 .i64) (Zb (Z3 Z1w) (Z3 Z1a))))))) (fun x => (x.Cookie, (x.Priority, (x.Idle, (x.Hard, (x.Flags, (x.Match, x.Insts)))))))
def lFlow_1 : Lens Z0k (Z0 .i64) := Lens.iso (k := (Zb Z0j (Zb (Z0 .i64) (Zb (Z0 .i64) (Zb (Z0 .i64) (Zb (Z0 .i64) (Zb (Z3 Z1w) (Z3 Z1a)))))))) (Lens.comp (Lens.snd _ _) (Lens.fst _ _)) Flow.Priority (fun x y => { x with Priority := y }) (fun _ => rfl) (fun _ _ => rfl)
def Zml : Lens Z0k (Z3 Z1w) := Lens.iso (k := (Zb Z0j (Zb (Z0 .i64) (Zb (Z0 .i64) (Zb (Z0 .i64) (Zb (Z0 .i64) (Zb (Z3 Z1w) (Z3 Z1a)))))))) (Lens.comp (Lens.comp (Lens.comp (Lens.comp (Lens.comp (Lens.snd _ _) (Lens.snd _ _)) (Lens.snd _ _)) (Lens.snd _ _)) (Lens.snd _ _)) (Lens.fst _ _)) Flow.Match (fun x y => { x with Match := y }) (fun _ => rfl) (fun _ _ => rfl)
def lFlow_6 : Lens Z0k (Z3 Z1a) := Lens.iso (k := (Zb Z0j (Zb (Z0 .i64) (Zb (Z0 .i64) (Zb (Z0 .i64) (Zb (Z0 .i64) (Zb (Z3 Z1w) (Z3 Z1a)))))))) (Lens.comp (Lens.comp (Lens.comp (Lens.comp (Lens.comp (Lens.snd _ _) (Lens.snd _ _)) (Lens.snd _ _)) (Lens.snd _ _)) (Lens.snd _ _)) (Lens.snd _ _)) Flow.Insts (fun x y => { x with Insts := y }) (fun _ => rfl) (fun _ _ => rfl)
def Zrx : Flow := ⟨0, 0, 0, 0, 0, [], []⟩
def Y9n : List Value := ([.int .u64 0] ++ ([.int .i64 0] ++ ([.int .i64 0] ++ ([.int .i64 0] ++ ([.int .i64 0] ++ ([.slice none 0 0] ++ [.slice none 0 0]))))))
theorem Yda : KZ Z0k Zrx Y9n := Z45 (Z1e Znu (Z1e Z2r (Z1e Z2r (Z1e Z2r (Z1e Z2r (Z1e (Z65 _) (Z65 _)))))))
structure field_row where
 name : ByteArray
 id : Int
 bits : Int
 masks : Bool
 deriving DecidableEq, Inhabited
def Z1q : Kd field_row := Z1p (Zb Z1g (Zb (Z0 .i64) (Zb (Z0 .i64) Z7))) (fun x => (x.name, (x.id, (x.bits, x.masks))))
instance : PureK Z1q := inferInstanceAs (PureK (Z1p (Zb Z1g (Zb (Z0 .i64) (Zb (Z0 .i64) Z7))) (fun (x : field_row) => (x.name, (x.id, (x.bits, x.masks))))))
def Z2v : Lens Z1q Z1g := Lens.iso (k := (Zb Z1g (Zb (Z0 .i64) (Zb (Z0 .i64) Z7)))) (Lens.fst _ _) field_row.name (fun x y => { x with name := y }) (fun _ => rfl) (fun _ _ => rfl)
def lfield_row_1 : Lens Z1q (Z0 .i64) := Lens.iso (k := (Zb Z1g (Zb (Z0 .i64) (Zb (Z0 .i64) Z7)))) (Lens.comp (Lens.snd _ _) (Lens.fst _ _)) field_row.id (fun x y => { x with id := y }) (fun _ => rfl) (fun _ _ => rfl)
def Z2n : Lens Z1q (Z0 .i64) := Lens.iso (k := (Zb Z1g (Zb (Z0 .i64) (Zb (Z0 .i64) Z7)))) (Lens.comp (Lens.comp (Lens.snd _ _) (Lens.snd _ _)) (Lens.fst _ _)) field_row.bits (fun x y => { x with bits := y }) (fun _ => rfl) (fun _ _ => rfl)
def Z2w : Lens Z1q Z7 := Lens.iso (k := (Zb Z1g (Zb (Z0 .i64) (Zb (Z0 .i64) Z7)))) (Lens.comp (Lens.comp (Lens.snd _ _) (Lens.snd _ _)) (Lens.snd _ _)) field_row.masks (fun x y => { x with masks := y }) (fun _ => rfl) (fun _ _ => rfl)
def Zk4 : field_row := ⟨(⟨#[]⟩ : ByteArray), 0, 0, false⟩
def Ycy : List Value := ([.string ⟨#[]⟩] ++ ([.int .i64 0] ++ ([.int .i64 0] ++ [.bool false])))
theorem Zvw : KZ Z1q Zk4 Ycy := Z45 (Z1e Yfm (Z1e Z2r (Z1e Z2r Zl1)))
abbrev Yji := Vector field_row 24
structure Atom where
 Rewrite : Z5
 Group : Bool
 Port : Int
 Max : Int
 deriving DecidableEq, Inhabited
def Z05 : Kd Atom := Z1p (Zb (Z1 24 Z2) (Zb Z7 (Zb (Z0 .i64) (Z0 .i64)))) (fun x => (x.Rewrite, (x.Group, (x.Port, x.Max))))
instance : PureK Z05 := inferInstanceAs (PureK (Z1p (Zb (Z1 24 Z2) (Zb Z7 (Zb (Z0 .i64) (Z0 .i64)))) (fun (x : Atom) => (x.Rewrite, (x.Group, (x.Port, x.Max))))))
def lAtom_0 : Lens Z05 (Z1 24 Z2) := Lens.iso (k := (Zb (Z1 24 Z2) (Zb Z7 (Zb (Z0 .i64) (Z0 .i64))))) (Lens.fst _ _) Atom.Rewrite (fun x y => { x with Rewrite := y }) (fun _ => rfl) (fun _ _ => rfl)
def lAtom_1 : Lens Z05 Z7 := Lens.iso (k := (Zb (Z1 24 Z2) (Zb Z7 (Zb (Z0 .i64) (Z0 .i64))))) (Lens.comp (Lens.snd _ _) (Lens.fst _ _)) Atom.Group (fun x y => { x with Group := y }) (fun _ => rfl) (fun _ _ => rfl)
def lAtom_2 : Lens Z05 (Z0 .i64) := Lens.iso (k := (Zb (Z1 24 Z2) (Zb Z7 (Zb (Z0 .i64) (Z0 .i64))))) (Lens.comp (Lens.comp (Lens.snd _ _) (Lens.snd _ _)) (Lens.fst _ _)) Atom.Port (fun x y => { x with Port := y }) (fun _ => rfl) (fun _ _ => rfl)
def Zky : Lens Z05 (Z0 .i64) := Lens.iso (k := (Zb (Z1 24 Z2) (Zb Z7 (Zb (Z0 .i64) (Z0 .i64))))) (Lens.comp (Lens.comp (Lens.snd _ _) (Lens.snd _ _)) (Lens.snd _ _)) Atom.Max (fun x y => { x with Max := y }) (fun _ => rfl) (fun _ _ => rfl)
def Zpt : Atom := ⟨(Vector.replicate 24 zTern), false, 0, 0⟩
def Yen : List Value := ((List.replicate 24 Zf5).flatten ++ ([.bool false] ++ ([.int .i64 0] ++ [.int .i64 0])))
theorem Ygt : KZ Z05 Zpt Yen := Z45 (Z1e (Z6d 24 Z8z) (Z1e Zl1 (Z1e Z2r Z2r)))
structure walk_way where
 cube : Z5
 got : Z5
 atoms : (List Atom)
 set : (List Action)
 deriving DecidableEq, Inhabited
def Z1l : Kd walk_way := Z1p (Zb (Z1 24 Z2) (Zb (Z1 24 Z2) (Zb (Z3 Z05) (Z3 Z8)))) (fun x => (x.cube, (x.got, (x.atoms, x.set))))
def lwalk_way_0 : Lens Z1l (Z1 24 Z2) := Lens.iso (k := (Zb (Z1 24 Z2) (Zb (Z1 24 Z2) (Zb (Z3 Z05) (Z3 Z8))))) (Lens.fst _ _) walk_way.cube (fun x y => { x with cube := y }) (fun _ => rfl) (fun _ _ => rfl)
def lwalk_way_1 : Lens Z1l (Z1 24 Z2) := Lens.iso (k := (Zb (Z1 24 Z2) (Zb (Z1 24 Z2) (Zb (Z3 Z05) (Z3 Z8))))) (Lens.comp (Lens.snd _ _) (Lens.fst _ _)) walk_way.got (fun x y => { x with got := y }) (fun _ => rfl) (fun _ _ => rfl)
def Zdm : Lens Z1l (Z3 Z05) := Lens.iso (k := (Zb (Z1 24 Z2) (Zb (Z1 24 Z2) (Zb (Z3 Z05) (Z3 Z8))))) (Lens.comp (Lens.comp (Lens.snd _ _) (Lens.snd _ _)) (Lens.fst _ _)) walk_way.atoms (fun x y => { x with atoms := y }) (fun _ => rfl) (fun _ _ => rfl)
def Zht : Lens Z1l (Z3 Z8) := Lens.iso (k := (Zb (Z1 24 Z2) (Zb (Z1 24 Z2) (Zb (Z3 Z05) (Z3 Z8))))) (Lens.comp (Lens.comp (Lens.snd _ _) (Lens.snd _ _)) (Lens.snd _ _)) walk_way.set (fun x y => { x with set := y }) (fun _ => rfl) (fun _ _ => rfl)
def Zew : walk_way := ⟨(Vector.replicate 24 zTern), (Vector.replicate 24 zTern), [], []⟩
def Yin : List Value := ((List.replicate 24 Zf5).flatten ++ ((List.replicate 24 Zf5).flatten ++ ([.slice none 0 0] ++ [.slice none 0 0])))
theorem Yd5 : KZ Z1l Zew Yin := Z45 (Z1e (Z6d 24 Z8z) (Z1e (Z6d 24 Z8z) (Z1e (Z65 _) (Z65 _))))
structure Z5e where
 got : Z5
 atoms : (List Atom)
 deriving DecidableEq, Inhabited
structure atom_trace_o1 where
 got : Z5
 atoms : Value
def Z53 : Kd atom_trace_o1 := Z1p (Zb (Z1 24 Z2) kraw) (fun x => (x.got, x.atoms))
def latom_trace_o1_0 : Lens Z53 (Z1 24 Z2) := Lens.iso (k := (Zb (Z1 24 Z2) kraw)) (Lens.fst _ _) atom_trace_o1.got (fun x y => { x with got := y }) (fun _ => rfl) (fun _ _ => rfl)
def Zgv : Lens Z53 kraw := Lens.iso (k := (Zb (Z1 24 Z2) kraw)) (Lens.snd _ _) atom_trace_o1.atoms (fun x y => { x with atoms := y }) (fun _ => rfl) (fun _ _ => rfl)
def Zz8 : atom_trace_o1 := ⟨(Vector.replicate 24 zTern), (.slice none 0 0)⟩
theorem Y7l : KZ Z53 Zz8 ((List.replicate 24 Zf5).flatten ++ [.slice none 0 0]) := Z45 (Z1e (Z6d 24 Z8z) (Y0b rfl))
structure aset_spot where
 kind : Int
 field : Int
 deriving DecidableEq, Inhabited
def Z61 : Kd aset_spot := Z1p (Zb (Z0 .i64) (Z0 .i64)) (fun x => (x.kind, x.field))
instance : PureK Z61 := inferInstanceAs (PureK (Z1p (Zb (Z0 .i64) (Z0 .i64)) (fun (x : aset_spot) => (x.kind, x.field))))
def laset_spot_0 : Lens Z61 (Z0 .i64) := Lens.iso (k := (Zb (Z0 .i64) (Z0 .i64))) (Lens.fst _ _) aset_spot.kind (fun x y => { x with kind := y }) (fun _ => rfl) (fun _ _ => rfl)
def laset_spot_1 : Lens Z61 (Z0 .i64) := Lens.iso (k := (Zb (Z0 .i64) (Z0 .i64))) (Lens.snd _ _) aset_spot.field (fun x y => { x with field := y }) (fun _ => rfl) (fun _ _ => rfl)
def Zmv : aset_spot := ⟨0, 0⟩
def Ye7 : List Value := ([.int .i64 0] ++ [.int .i64 0])
theorem Y6o : KZ Z61 Zmv Ye7 := Z45 (Z1e Z2r Z2r)
structure Rule where
 Cube : Z5
 Atoms : (List Atom)
 deriving DecidableEq, Inhabited
def Zy : Kd Rule := Z1p (Zb (Z1 24 Z2) (Z3 Z05)) (fun x => (x.Cube, x.Atoms))
def lRule_0 : Lens Zy (Z1 24 Z2) := Lens.iso (k := (Zb (Z1 24 Z2) (Z3 Z05))) (Lens.fst _ _) Rule.Cube (fun x y => { x with Cube := y }) (fun _ => rfl) (fun _ _ => rfl)
def lRule_1 : Lens Zy (Z3 Z05) := Lens.iso (k := (Zb (Z1 24 Z2) (Z3 Z05))) (Lens.snd _ _) Rule.Atoms (fun x y => { x with Atoms := y }) (fun _ => rfl) (fun _ _ => rfl)
def Y12 : Rule := ⟨(Vector.replicate 24 zTern), []⟩
def Y5c : List Value := ((List.replicate 24 Zf5).flatten ++ [.slice none 0 0])
theorem Yiu : KZ Zy Y12 Y5c := Z45 (Z1e (Z6d 24 Z8z) (Z65 _))
abbrev Y62 := Vector (List Flow) 4
structure Bucket where
 Weight : Int
 Watch : Int
 WatchGroup : Int
 Acts : (List Action)
 deriving DecidableEq, Inhabited
def Z0l : Kd Bucket := Z1p (Zb (Z0 .i64) (Zb (Z0 .i64) (Zb (Z0 .i64) (Z3 Z8)))) (fun x => (x.Weight, (x.Watch, (x.WatchGroup, x.Acts))))
def Zhl : Lens Z0l (Z0 .i64) := Lens.iso (k := (Zb (Z0 .i64) (Zb (Z0 .i64) (Zb (Z0 .i64) (Z3 Z8))))) (Lens.fst _ _) Bucket.Weight (fun x y => { x with Weight := y }) (fun _ => rfl) (fun _ _ => rfl)
def Zh5 : Lens Z0l (Z0 .i64) := Lens.iso (k := (Zb (Z0 .i64) (Zb (Z0 .i64) (Zb (Z0 .i64) (Z3 Z8))))) (Lens.comp (Lens.snd _ _) (Lens.fst _ _)) Bucket.Watch (fun x y => { x with Watch := y }) (fun _ => rfl) (fun _ _ => rfl)
def Zhc : Lens Z0l (Z0 .i64) := Lens.iso (k := (Zb (Z0 .i64) (Zb (Z0 .i64) (Zb (Z0 .i64) (Z3 Z8))))) (Lens.comp (Lens.comp (Lens.snd _ _) (Lens.snd _ _)) (Lens.fst _ _)) Bucket.WatchGroup (fun x y => { x with WatchGroup := y }) (fun _ => rfl) (fun _ _ => rfl)
def Z9l : Lens Z0l (Z3 Z8) := Lens.iso (k := (Zb (Z0 .i64) (Zb (Z0 .i64) (Zb (Z0 .i64) (Z3 Z8))))) (Lens.comp (Lens.comp (Lens.snd _ _) (Lens.snd _ _)) (Lens.snd _ _)) Bucket.Acts (fun x y => { x with Acts := y }) (fun _ => rfl) (fun _ _ => rfl)
def Zyj : Bucket := ⟨0, 0, 0, []⟩
def Y6e : List Value := ([.int .i64 0] ++ ([.int .i64 0] ++ ([.int .i64 0] ++ [.slice none 0 0])))
theorem Y65 : KZ Z0l Zyj Y6e := Z45 (Z1e Z2r (Z1e Z2r (Z1e Z2r (Z65 _))))
structure Group where
 ID : Int
 Kind : Int
 Buckets : (List Bucket)
 deriving DecidableEq, Inhabited
def Z0d : Kd Group := Z1p (Zb (Z0 .i64) (Zb (Z0 .i64) (Z3 Z0l))) (fun x => (x.ID, (x.Kind, x.Buckets)))
def Zbt : Lens Z0d (Z0 .i64) := Lens.iso (k := (Zb (Z0 .i64) (Zb (Z0 .i64) (Z3 Z0l)))) (Lens.fst _ _) Group.ID (fun x y => { x with ID := y }) (fun _ => rfl) (fun _ _ => rfl)
def Zj5 : Lens Z0d (Z0 .i64) := Lens.iso (k := (Zb (Z0 .i64) (Zb (Z0 .i64) (Z3 Z0l)))) (Lens.comp (Lens.snd _ _) (Lens.fst _ _)) Group.Kind (fun x y => { x with Kind := y }) (fun _ => rfl) (fun _ _ => rfl)
def Zaq : Lens Z0d (Z3 Z0l) := Lens.iso (k := (Zb (Z0 .i64) (Zb (Z0 .i64) (Z3 Z0l)))) (Lens.comp (Lens.snd _ _) (Lens.snd _ _)) Group.Buckets (fun x y => { x with Buckets := y }) (fun _ => rfl) (fun _ _ => rfl)
def Zs0 : Group := ⟨0, 0, []⟩
def Yij : List Value := ([.int .i64 0] ++ ([.int .i64 0] ++ [.slice none 0 0]))
theorem Yh3 : KZ Z0d Zs0 Yij := Z45 (Z1e Z2r (Z1e Z2r (Z65 _)))
structure Switch where
 Tables : Y62
 Groups : (List Group)
 deriving DecidableEq, Inhabited
def Z0p : Kd Switch := Z1p (Zb (Z1 4 (Z3 Z0k)) (Z3 Z0d)) (fun x => (x.Tables, x.Groups))
def Z9a : Lens Z0p (Z1 4 (Z3 Z0k)) := Lens.iso (k := (Zb (Z1 4 (Z3 Z0k)) (Z3 Z0d))) (Lens.fst _ _) Switch.Tables (fun x y => { x with Tables := y }) (fun _ => rfl) (fun _ _ => rfl)
def Zp1 : Lens Z0p (Z3 Z0d) := Lens.iso (k := (Zb (Z1 4 (Z3 Z0k)) (Z3 Z0d))) (Lens.snd _ _) Switch.Groups (fun x y => { x with Groups := y }) (fun _ => rfl) (fun _ _ => rfl)
def Zpr : Switch := ⟨(Vector.replicate 4 []), []⟩
def Ygf : List Value := ((List.replicate 4 [.slice none 0 0]).flatten ++ [.slice none 0 0])
theorem Zzt : KZ Z0p Zpr Ygf := Z45 (Z1e (Z6d 4 (Z65 _)) (Z65 _))
structure cover_purse where
 left : Int
 free : Bool
 deriving DecidableEq, Inhabited
def Z5k : Kd cover_purse := Z1p (Zb (Z0 .i64) Z7) (fun x => (x.left, x.free))
instance : PureK Z5k := inferInstanceAs (PureK (Z1p (Zb (Z0 .i64) Z7) (fun (x : cover_purse) => (x.left, x.free))))
def lcover_purse_0 : Lens Z5k (Z0 .i64) := Lens.iso (k := (Zb (Z0 .i64) Z7)) (Lens.fst _ _) cover_purse.left (fun x y => { x with left := y }) (fun _ => rfl) (fun _ _ => rfl)
def lcover_purse_1 : Lens Z5k Z7 := Lens.iso (k := (Zb (Z0 .i64) Z7)) (Lens.snd _ _) cover_purse.free (fun x y => { x with free := y }) (fun _ => rfl) (fun _ _ => rfl)
def Zrk : cover_purse := ⟨0, false⟩
def Zxg : List Value := ([.int .i64 0] ++ [.bool false])
theorem Zwc : KZ Z5k Zrk Zxg := Z45 (Z1e Z2r Zl1)
abbrev Z18 := Vector Wide 24
structure cover_look where
 purse : cover_purse
 deriving DecidableEq, Inhabited
def Z1s : Kd cover_look := Z1p Z5k (fun x => x.purse)
instance : PureK Z1s := inferInstanceAs (PureK (Z1p Z5k (fun (x : cover_look) => x.purse)))
def lcover_look_0 : Lens Z1s Z5k := Lens.iso (k := Z5k) (Lens.id _) cover_look.purse (fun x y => { x with purse := y }) (fun _ => rfl) (fun _ _ => rfl)
def Y1y : cover_look := ⟨Zrk⟩
def Ydt : List Value := Zxg
theorem Yfs : KZ Z1s Y1y Ydt := Z45 Zwc
structure Flat where
 Rules : (List Rule)
 Groups : (List Group)
 deriving DecidableEq, Inhabited
def Z4v : Kd Flat := Z1p (Zb (Z3 Zy) (Z3 Z0d)) (fun x => (x.Rules, x.Groups))
def lFlat_0 : Lens Z4v (Z3 Zy) := Lens.iso (k := (Zb (Z3 Zy) (Z3 Z0d))) (Lens.fst _ _) Flat.Rules (fun x y => { x with Rules := y }) (fun _ => rfl) (fun _ _ => rfl)
def lFlat_1 : Lens Z4v (Z3 Z0d) := Lens.iso (k := (Zb (Z3 Zy) (Z3 Z0d))) (Lens.snd _ _) Flat.Groups (fun x y => { x with Groups := y }) (fun _ => rfl) (fun _ _ => rfl)
def Zx8 : Flat := ⟨[], []⟩
def Yf5 : List Value := ([.slice none 0 0] ++ [.slice none 0 0])
theorem Y3r : KZ Z4v Zx8 Yf5 := Z45 (Z1e (Z65 _) (Z65 _))
structure Env where
 Turn : Int
 Down : (List Int)
 deriving DecidableEq, Inhabited
structure Yk5 where
 Env : Env
 Group : Group
 deriving DecidableEq, Inhabited
structure Out where
 Port : Int
 Max : Int
 Header : Z18
 deriving DecidableEq, Inhabited
def Ycz : Kd Out := Z1p (Zb (Z0 .i64) (Zb (Z0 .i64) (Z1 24 Zp))) (fun x => (x.Port, (x.Max, x.Header)))
instance : PureK Ycz := inferInstanceAs (PureK (Z1p (Zb (Z0 .i64) (Zb (Z0 .i64) (Z1 24 Zp))) (fun (x : Out) => (x.Port, (x.Max, x.Header)))))
structure Yk2 where
 Env : Env
 groups : (List Group)
 out : (List Out)
 header : Z18
 depth : Int
 deriving DecidableEq, Inhabited
structure Yk6 where
 Env : Env
 groups : (List Group)
 out : Value
 header : Z18
 depth : Int
structure Zsh where
 Table : Int
 Flow : Int
 deriving DecidableEq, Inhabited
def Yaq : Kd Zsh := Z1p (Zb (Z0 .i64) (Z0 .i64)) (fun x => (x.Table, x.Flow))
instance : PureK Yaq := inferInstanceAs (PureK (Z1p (Zb (Z0 .i64) (Z0 .i64)) (fun (x : Zsh) => (x.Table, x.Flow))))
structure Yk3 where
 Switch : Switch
 env : Env
 header : Z18
 set : (List Action)
 out : (List Out)
 path : (List Zsh)
 deriving DecidableEq, Inhabited
structure Yk4 where
 Switch : Switch
 env : Env
 header : Z18
 set : (List Action)
 out : Value
 path : Value
theorem Z0n : Zr Tryz.prog 87 (Z1 24 Z2) (Vector.replicate 24 zTern) := ⟨_, (Z6d 24 Z8z), by kernel_rfl⟩
theorem Zv : Ty Tryz.prog 87 (Z1 24 Z2) := ⟨by kernel_rfl, by kernel_rfl⟩
theorem Z30 : Zr Tryz.prog 101 (Z1 24 Z2) (Vector.replicate 24 zTern) := ⟨_, (Z6d 24 Z8z), by kernel_rfl⟩
theorem Z01 : Ty Tryz.prog 101 (Z1 24 Z2) := ⟨by kernel_rfl, by kernel_rfl⟩
theorem Z5n : Ty Tryz.prog 22 (Z3 Z0k) := ⟨by kernel_rfl, by kernel_rfl⟩
theorem Z4r : Sl Tryz.prog 22 61 Z0k := ⟨by kernel_rfl, by kernel_rfl⟩
theorem Zeh : Fl Tryz.prog 61 1 lFlow_1 := ⟨by kernel_rfl, rfl⟩
theorem Zq : Ty Tryz.prog 3 (Z0 .i64) := ⟨by kernel_rfl, by kernel_rfl⟩
theorem Z0x : Sl Tryz.prog 37 3 (Z0 .i64) := ⟨by kernel_rfl, by kernel_rfl⟩
theorem us3 : (Tryz.prog.underlying 3).isSome = true := by kernel_rfl
theorem Z77 : Tryz.prog.underlying 360 = some (.int .u64) := by kernel_rfl
theorem Za1 : (Tryz.prog.underlying 360).isSome = true := by kernel_rfl
theorem un3 : Tryz.prog.underlying 3 = some (.int .i64) := by kernel_rfl
theorem Zks : El Tryz.prog 37 3 (Z0 .i64) := ⟨by kernel_rfl, by kernel_rfl, by kernel_rfl, by kernel_rfl, by kernel_rfl⟩
theorem zr3 : Zr Tryz.prog 3 (Z0 .i64) 0 := ⟨_, Z2r, by kernel_rfl⟩
theorem Y0a : Zr Tryz.prog 369 (Z1 24 Z1q) (Vector.replicate 24 Zk4) := ⟨_, (Z6d 24 Zvw), by kernel_rfl⟩
theorem Yay : Z1k Tryz.prog 364 1 = some (lfield_row_1.off, Kd.sz (Z0 .i64)) := by kernel_rfl
theorem Z2i : Zr Tryz.prog 364 Z1q Zk4 := ⟨_, Zvw, by kernel_rfl⟩
theorem Y0n : Ty Tryz.prog 369 (Z1 24 Z1q) := ⟨by kernel_rfl, by kernel_rfl⟩
theorem Yfw : Z38 Tryz.prog 364 = true := by kernel_rfl
theorem Zik : Ty Tryz.prog 364 Z1q := ⟨by kernel_rfl, by kernel_rfl⟩
theorem Yfx : Ar Tryz.prog 369 364 24 Z1q := ⟨by kernel_rfl, by kernel_rfl⟩
theorem Y4s : Zmw Tryz.prog 364 2 = some 3 := by kernel_rfl
theorem Y92 : Fl Tryz.prog 364 2 Z2n := ⟨by kernel_rfl, rfl⟩
theorem Z1n : Zr Tryz.prog 42 Zp Z00 := ⟨_, Z93, by kernel_rfl⟩
theorem Z6m : Z1k Tryz.prog 42 0 = some (lWide_0.off, Kd.sz Z0j) := by kernel_rfl
theorem Z6c : Z1k Tryz.prog 42 1 = some (lWide_1.off, Kd.sz Z0j) := by kernel_rfl
theorem Z3o : Z38 Tryz.prog 42 = true := by kernel_rfl
theorem Zs : Ty Tryz.prog 42 Zp := ⟨by kernel_rfl, by kernel_rfl⟩
theorem Z17 : Zr Tryz.prog 85 Z2 zTern := ⟨_, Z8z, by kernel_rfl⟩
theorem Z49 : Fl Tryz.prog 119 0 Z40 := ⟨by kernel_rfl, rfl⟩
theorem Z3r : Z38 Tryz.prog 85 = true := by kernel_rfl
theorem Zw : Ty Tryz.prog 85 Z2 := ⟨by kernel_rfl, by kernel_rfl⟩
theorem Zlg : Fl Tryz.prog 119 1 Zl8 := ⟨by kernel_rfl, rfl⟩
theorem ty4 : Ty Tryz.prog 4 Z7 := ⟨by kernel_rfl, by kernel_rfl⟩
theorem Zfz : Fl Tryz.prog 119 2 Zbp := ⟨by kernel_rfl, rfl⟩
theorem Zob : Fl Tryz.prog 119 3 Zk0 := ⟨by kernel_rfl, rfl⟩
theorem Z4y : Z1k Tryz.prog 85 0 = some (lTern_0.off, Kd.sz Zp) := by kernel_rfl
theorem Z51 : Z1k Tryz.prog 85 1 = some (lTern_1.off, Kd.sz Zp) := by kernel_rfl
theorem Zd8 : Sl Tryz.prog 58 119 Z1w := ⟨by kernel_rfl, by kernel_rfl⟩
theorem Z8m : Ty Tryz.prog 119 Z1w := ⟨by kernel_rfl, by kernel_rfl⟩
theorem Y8o : Zr Tryz.prog 119 Z1w Z3x := ⟨_, Y1d, by kernel_rfl⟩
theorem Z1d : Ar Tryz.prog 87 85 24 Z2 := ⟨by kernel_rfl, by kernel_rfl⟩
theorem Z3v : Fl Tryz.prog 42 0 lWide_0 := ⟨by kernel_rfl, rfl⟩
theorem Z19 : Ty Tryz.prog 40 Z0j := ⟨by kernel_rfl, by kernel_rfl⟩
theorem Z3p : Fl Tryz.prog 42 1 lWide_1 := ⟨by kernel_rfl, rfl⟩
theorem Z1y : Fl Tryz.prog 85 0 lTern_0 := ⟨by kernel_rfl, rfl⟩
theorem Z1h : Fl Tryz.prog 85 1 lTern_1 := ⟨by kernel_rfl, rfl⟩
theorem Zqn : Fl Tryz.prog 61 5 Zml := ⟨by kernel_rfl, rfl⟩
theorem Zt6 : Ty Tryz.prog 58 (Z3 Z1w) := ⟨by kernel_rfl, by kernel_rfl⟩
theorem Z3h : Ar Tryz.prog 101 85 24 Z2 := ⟨by kernel_rfl, by kernel_rfl⟩
theorem Zey : Zr Tryz.prog 135 Z1l Zew := ⟨_, Yd5, by kernel_rfl⟩
theorem Zh8 : Fl Tryz.prog 135 1 lwalk_way_1 := ⟨by kernel_rfl, rfl⟩
theorem Z71 : Ty Tryz.prog 61 Z0k := ⟨by kernel_rfl, by kernel_rfl⟩
theorem Zwi : Z38 Tryz.prog 135 = true := by kernel_rfl
theorem Z31 : Ty Tryz.prog 135 Z1l := ⟨by kernel_rfl, by kernel_rfl⟩
theorem Zte : Fl Tryz.prog 135 0 lwalk_way_0 := ⟨by kernel_rfl, rfl⟩
theorem Zyn : Fl Tryz.prog 124 0 lInst_0 := ⟨by kernel_rfl, rfl⟩
theorem Z8n : Sl Tryz.prog 59 124 Z1a := ⟨by kernel_rfl, by kernel_rfl⟩
theorem Z32 : Ty Tryz.prog 124 Z1a := ⟨by kernel_rfl, by kernel_rfl⟩
theorem Z08 : Sl Tryz.prog 122 121 Z8 := ⟨by kernel_rfl, by kernel_rfl⟩
theorem Z7d : El Tryz.prog 122 121 Z8 := ⟨by kernel_rfl, by kernel_rfl, by kernel_rfl, by kernel_rfl, by kernel_rfl⟩
theorem Z4e : Zr Tryz.prog 121 Z8 Zof := ⟨_, Yff, by kernel_rfl⟩
theorem Z3s : Zr Tryz.prog 124 Z1a Zs9 := ⟨_, Y4a, by kernel_rfl⟩
theorem Zln : Z38 Tryz.prog 124 = true := by kernel_rfl
theorem Zcy : Fl Tryz.prog 124 4 lInst_4 := ⟨by kernel_rfl, rfl⟩
theorem Z42 : Ty Tryz.prog 122 (Z3 Z8) := ⟨by kernel_rfl, by kernel_rfl⟩
theorem Y5s : Zr Tryz.prog 367 (Z1 2 Z0j) (Vector.replicate 2 0) := ⟨_, (Z6d 2 Znu), by kernel_rfl⟩
theorem Zt3 : Ar Tryz.prog 367 40 2 Z0j := ⟨by kernel_rfl, by kernel_rfl⟩
theorem Z4o : Fl Tryz.prog 121 0 lAction_0 := ⟨by kernel_rfl, rfl⟩
theorem Z6u : Fl Tryz.prog 121 5 Z5r := ⟨by kernel_rfl, rfl⟩
theorem Zm5 : Fl Tryz.prog 346 0 latom_trace_o1_0 := ⟨by kernel_rfl, rfl⟩
theorem Zs3 : Z1k Tryz.prog 126 0 = some (lAtom_0.off, Kd.sz (Z1 24 Z2)) := by kernel_rfl
theorem Z55 : Zr Tryz.prog 126 Z05 Zpt := ⟨_, Ygt, by kernel_rfl⟩
theorem Zta : Z38 Tryz.prog 126 = true := by kernel_rfl
theorem Z5w : Ty Tryz.prog 126 Z05 := ⟨by kernel_rfl, by kernel_rfl⟩
theorem Zia : Fl Tryz.prog 121 1 lAction_1 := ⟨by kernel_rfl, rfl⟩
theorem Zix : Fl Tryz.prog 126 2 lAtom_2 := ⟨by kernel_rfl, rfl⟩
theorem Zo5 : Fl Tryz.prog 121 2 Zjk := ⟨by kernel_rfl, rfl⟩
theorem Zon : Fl Tryz.prog 126 3 Zky := ⟨by kernel_rfl, rfl⟩
theorem Zmy : Fl Tryz.prog 121 3 Zim := ⟨by kernel_rfl, rfl⟩
theorem Zr3 : Fl Tryz.prog 126 1 lAtom_1 := ⟨by kernel_rfl, rfl⟩
theorem Z0h : Ty Tryz.prog 121 Z8 := ⟨by kernel_rfl, by kernel_rfl⟩
theorem Zpx : Fl Tryz.prog 346 1 Zgv := ⟨by kernel_rfl, rfl⟩
theorem Zs2 : Ty Tryz.prog 88 kraw := ⟨by kernel_rfl, by kernel_rfl⟩
theorem Z28 : Sl Tryz.prog 88 126 Z05 := ⟨by kernel_rfl, by kernel_rfl⟩
theorem Z7u : El Tryz.prog 88 126 Z05 := ⟨by kernel_rfl, by kernel_rfl, by kernel_rfl, by kernel_rfl, by kernel_rfl⟩
theorem Yj3 : Z1k Tryz.prog 346 0 = some (latom_trace_o1_0.off, Kd.sz (Z1 24 Z2)) := by kernel_rfl
theorem Ybz : Zr Tryz.prog 346 Z53 Zz8 := ⟨_, Y7l, by kernel_rfl⟩
theorem Yh9 : Z38 Tryz.prog 346 = true := by kernel_rfl
theorem Zh9 : Fl Tryz.prog 135 2 Zdm := ⟨by kernel_rfl, rfl⟩
theorem Z5z : Ty Tryz.prog 88 (Z3 Z05) := ⟨by kernel_rfl, by kernel_rfl⟩
theorem Zi0 : Zr Tryz.prog 275 Z61 Zmv := ⟨_, Y6o, by kernel_rfl⟩
theorem Y2h : Z1k Tryz.prog 275 0 = some (laset_spot_0.off, Kd.sz (Z0 .i64)) := by kernel_rfl
theorem Ydf : Z1k Tryz.prog 275 1 = some (laset_spot_1.off, Kd.sz (Z0 .i64)) := by kernel_rfl
theorem Y01 : Z38 Tryz.prog 275 = true := by kernel_rfl
theorem Zex : Ty Tryz.prog 275 Z61 := ⟨by kernel_rfl, by kernel_rfl⟩
theorem eqk3 : EqK Tryz.prog 1 3 (Z0 .i64) := Yk1 (by kernel_rfl)
theorem Y88 : EqK Tryz.prog 2 275 Z61 := Ze6 (fun x y e => by cases x; cases y; simp only [Prod.mk.injEq] at e; simp [e]) (l := _) (by kernel_rfl) (by kernel_rfl) (Z5b eqk3 Zq (Zdy eqk3 Zq))
theorem Yjw : Tryz.prog.eqGuardType Tryz.prog.depth 275 = false := by kernel_rfl
theorem Zyr : Fl Tryz.prog 275 0 laset_spot_0 := ⟨by kernel_rfl, rfl⟩
theorem Zoc : Fl Tryz.prog 275 1 laset_spot_1 := ⟨by kernel_rfl, rfl⟩
theorem zr4 : Zr Tryz.prog 4 Z7 false := ⟨_, Zl1, by kernel_rfl⟩
theorem Znm : Fl Tryz.prog 135 3 Zht := ⟨by kernel_rfl, rfl⟩
theorem Y1l : Fl Tryz.prog 124 2 Ztc := ⟨by kernel_rfl, rfl⟩
theorem Ztm : Fl Tryz.prog 124 3 Zqj := ⟨by kernel_rfl, rfl⟩
theorem Zdu : Fl Tryz.prog 124 1 lInst_1 := ⟨by kernel_rfl, rfl⟩
theorem Z4c : Zr Tryz.prog 90 Zy Y12 := ⟨_, Yiu, by kernel_rfl⟩
theorem Zq1 : Z1k Tryz.prog 90 0 = some (lRule_0.off, Kd.sz (Z1 24 Z2)) := by kernel_rfl
theorem Zpl : Z1k Tryz.prog 90 1 = some (lRule_1.off, Kd.sz (Z3 Z05)) := by kernel_rfl
theorem Zqo : Z38 Tryz.prog 90 = true := by kernel_rfl
theorem Z4n : Ty Tryz.prog 90 Zy := ⟨by kernel_rfl, by kernel_rfl⟩
theorem Zvp : Fl Tryz.prog 131 0 (Lens.fst Z0p kraw) := ⟨by kernel_rfl, rfl⟩
theorem Zza (A : Z9) : Fl Tryz.prog 131 0 (Zss Z0p A) := ⟨Zvp.1, Zvp.2⟩
theorem Zbc : Fl Tryz.prog 26 0 Z9a := ⟨by kernel_rfl, rfl⟩
theorem Zco : Ar Tryz.prog 23 22 4 (Z3 Z0k) := ⟨by kernel_rfl, by kernel_rfl⟩
theorem Zwr : Fl Tryz.prog 131 1 (Lens.snd Z0p kraw) := ⟨by kernel_rfl, rfl⟩
theorem Zzj (A : Z9) : Fl Tryz.prog 131 1 (Zrr Z0p A) := ⟨Zwr.1, Zwr.2⟩
theorem tyr92 : Ty Tryz.prog 92 kraw := ⟨by kernel_rfl, by kernel_rfl⟩
theorem Zvc (A : Z9) : Ty Tryz.prog 92 (kas A) := ⟨tyr92.sz, tyr92.ag⟩
theorem Zce : Zr Tryz.prog 61 Z0k Zrx := ⟨_, Yda, by kernel_rfl⟩
theorem Zcn : Fl Tryz.prog 61 6 lFlow_6 := ⟨by kernel_rfl, rfl⟩
theorem Zde : Ty Tryz.prog 59 (Z3 Z1a) := ⟨by kernel_rfl, by kernel_rfl⟩
theorem Z3e : Ty Tryz.prog 26 Z0p := ⟨by kernel_rfl, by kernel_rfl⟩
theorem Y3a : Zr Tryz.prog 131 (Zb Z0p kraw) (Zpr, .nilFunc) := ⟨_, Z1e Zzt (Y0b rfl), by kernel_rfl⟩
theorem Y4y : Z1k Tryz.prog 135 0 = some (lwalk_way_0.off, Kd.sz (Z1 24 Z2)) := by kernel_rfl
theorem Yj9 : Z1k Tryz.prog 135 1 = some (lwalk_way_1.off, Kd.sz (Z1 24 Z2)) := by kernel_rfl
theorem Z1m : Sl Tryz.prog 32 90 Zy := ⟨by kernel_rfl, by kernel_rfl⟩
theorem Zeb : El Tryz.prog 32 90 Zy := ⟨by kernel_rfl, by kernel_rfl, by kernel_rfl, by kernel_rfl, by kernel_rfl⟩
theorem Ztd : Ty Tryz.prog 32 kraw := ⟨by kernel_rfl, by kernel_rfl⟩
theorem Yfa : Ty Tryz.prog 23 (Z1 4 (Z3 Z0k)) := ⟨by kernel_rfl, by kernel_rfl⟩
theorem Zvz : Zr Tryz.prog 26 Z0p Zpr := ⟨_, Zzt, by kernel_rfl⟩
theorem Y6s : Z38 Tryz.prog 26 = true := by kernel_rfl
theorem Ygb : Z1k Tryz.prog 121 0 = some (lAction_0.off, Kd.sz (Z0 .i64)) := by kernel_rfl
theorem Yi2 : Z1k Tryz.prog 121 1 = some (lAction_1.off, Kd.sz (Z0 .i64)) := by kernel_rfl
theorem Zzd : Z38 Tryz.prog 121 = true := by kernel_rfl
theorem Zxt : Z1k Tryz.prog 124 0 = some (lInst_0.off, Kd.sz (Z0 .i64)) := by kernel_rfl
theorem Yc4 : Z1k Tryz.prog 124 4 = some (lInst_4.off, Kd.sz (Z3 Z8)) := by kernel_rfl
theorem Y0t : Z1k Tryz.prog 61 6 = some (lFlow_6.off, Kd.sz (Z3 Z1a)) := by kernel_rfl
theorem Zr7 : Z38 Tryz.prog 61 = true := by kernel_rfl
theorem Zc9 : Fl Tryz.prog 90 1 lRule_1 := ⟨by kernel_rfl, rfl⟩
theorem Z7e : Fl Tryz.prog 90 0 lRule_0 := ⟨by kernel_rfl, rfl⟩
theorem Y11 : EqK Tryz.prog 1 40 Z0j := Ybm (by kernel_rfl)
theorem Zft : EqK Tryz.prog 2 42 Zp := Ze6 (fun x y e => by cases x; cases y; simp only [Prod.mk.injEq] at e; simp [e]) (l := _) (by kernel_rfl) (by kernel_rfl) (Z5b Y11 Z19 (Zdy Y11 Z19))
theorem Zxd : EqK Tryz.prog 3 85 Z2 := Ze6 (fun x y e => by cases x; cases y; simp only [Prod.mk.injEq] at e; simp [e]) (l := _) (by kernel_rfl) (by kernel_rfl) (Z5b Zft Zs (Zdy Zft Zs))
theorem Zzh : EqK Tryz.prog 4 87 (Z1 24 Z2) := Zwd Zxd Zw Z1d
theorem Zxu : Tryz.prog.eqGuardType Tryz.prog.depth 87 = false := by kernel_rfl
theorem Z2s : Sl Tryz.prog 162 226 Z0l := ⟨by kernel_rfl, by kernel_rfl⟩
theorem Zbw : Ty Tryz.prog 226 Z0l := ⟨by kernel_rfl, by kernel_rfl⟩
theorem Zbf : Fl Tryz.prog 226 3 Z9l := ⟨by kernel_rfl, rfl⟩
theorem Zau : Fl Tryz.prog 164 2 Zaq := ⟨by kernel_rfl, rfl⟩
theorem Zc2 : Ty Tryz.prog 162 (Z3 Z0l) := ⟨by kernel_rfl, by kernel_rfl⟩
theorem Z2a : Sl Tryz.prog 24 164 Z0d := ⟨by kernel_rfl, by kernel_rfl⟩
theorem Z4p : Ty Tryz.prog 164 Z0d := ⟨by kernel_rfl, by kernel_rfl⟩
theorem Zrv : Fl Tryz.prog 26 1 Zp1 := ⟨by kernel_rfl, rfl⟩
theorem Zcf : Ty Tryz.prog 24 (Z3 Z0d) := ⟨by kernel_rfl, by kernel_rfl⟩
theorem Zv1 : Z1k Tryz.prog 126 2 = some (lAtom_2.off, Kd.sz (Z0 .i64)) := by kernel_rfl
theorem Y34 : Z1k Tryz.prog 126 1 = some (lAtom_1.off, Kd.sz Z7) := by kernel_rfl
theorem un4 : Tryz.prog.underlying 4 = some (.bool) := by kernel_rfl
theorem Zfp : Fl Tryz.prog 126 0 lAtom_0 := ⟨by kernel_rfl, rfl⟩
theorem Y2e : EqK Tryz.prog 4 101 (Z1 24 Z2) := Zwd Zxd Zw Z3h
theorem Yj5 : Tryz.prog.eqGuardType Tryz.prog.depth 101 = false := by kernel_rfl
theorem Z1v : Sl Tryz.prog 229 87 (Z1 24 Z2) := ⟨by kernel_rfl, by kernel_rfl⟩
theorem Zfk : El Tryz.prog 229 87 (Z1 24 Z2) := ⟨by kernel_rfl, by kernel_rfl, by kernel_rfl, by kernel_rfl, by kernel_rfl⟩
theorem Y3b : Fl Tryz.prog 288 1 lcover_purse_1 := ⟨by kernel_rfl, rfl⟩
theorem Zry : Fl Tryz.prog 288 0 lcover_purse_0 := ⟨by kernel_rfl, rfl⟩
theorem Z35 : Zr Tryz.prog 44 (Z1 24 Zp) (Vector.replicate 24 Z00) := ⟨_, (Z6d 24 Z93), by kernel_rfl⟩
theorem Z15 : Ty Tryz.prog 44 (Z1 24 Zp) := ⟨by kernel_rfl, by kernel_rfl⟩
theorem Zxp : Zmw Tryz.prog 85 0 = some 42 := by kernel_rfl
theorem Y2d : Ar Tryz.prog 44 42 24 Zp := ⟨by kernel_rfl, by kernel_rfl⟩
theorem Ybu : (Tryz.prog.underlying 40).isSome = true := by kernel_rfl
theorem tyr286 : Ty Tryz.prog 286 kraw := ⟨by kernel_rfl, by kernel_rfl⟩
theorem Y0u (A : Z9) : Ty Tryz.prog 286 (kas A) := ⟨tyr286.sz, tyr286.ag⟩
theorem Yef : Fl Tryz.prog 290 0 lcover_look_0 := ⟨by kernel_rfl, rfl⟩
theorem Zqa : Ty Tryz.prog 229 (Z3 (Z1 24 Z2)) := ⟨by kernel_rfl, by kernel_rfl⟩
theorem Y42 : Z1k Tryz.prog 288 0 = some (lcover_purse_0.off, Kd.sz (Z0 .i64)) := by kernel_rfl
theorem Ybk : Z1k Tryz.prog 288 1 = some (lcover_purse_1.off, Kd.sz Z7) := by kernel_rfl
theorem Ybo : Zr Tryz.prog 288 Z5k Zrk := ⟨_, Zwc, by kernel_rfl⟩
theorem Yav : Z38 Tryz.prog 288 = true := by kernel_rfl
theorem Yid : Z1k Tryz.prog 290 0 = some (lcover_look_0.off, Kd.sz Z5k) := by kernel_rfl
theorem Ydu : Zr Tryz.prog 290 Z1s Y1y := ⟨_, Yfs, by kernel_rfl⟩
theorem Ydy : Z38 Tryz.prog 290 = true := by kernel_rfl
theorem Zed : Fl Tryz.prog 164 0 Zbt := ⟨by kernel_rfl, rfl⟩
theorem Zyk : El Tryz.prog 24 164 Z0d := ⟨by kernel_rfl, by kernel_rfl, by kernel_rfl, by kernel_rfl, by kernel_rfl⟩
theorem Z9t : Zr Tryz.prog 164 Z0d Zs0 := ⟨_, Yh3, by kernel_rfl⟩
theorem Yaf : El Tryz.prog 162 226 Z0l := ⟨by kernel_rfl, by kernel_rfl, by kernel_rfl, by kernel_rfl, by kernel_rfl⟩
theorem Zpo : Zr Tryz.prog 226 Z0l Zyj := ⟨_, Y65, by kernel_rfl⟩
theorem Ycl : Z38 Tryz.prog 164 = true := by kernel_rfl
theorem Z68 : Zr Tryz.prog 73 Z4v Zx8 := ⟨_, Y3r, by kernel_rfl⟩
theorem Zk3 : Z38 Tryz.prog 73 = true := by kernel_rfl
theorem Z3q : Ty Tryz.prog 73 Z4v := ⟨by kernel_rfl, by kernel_rfl⟩
theorem Y0z : Z1k Tryz.prog 73 0 = some (lFlat_0.off, Kd.sz (Z3 Zy)) := by kernel_rfl
theorem Y0x : Z1k Tryz.prog 73 1 = some (lFlat_1.off, Kd.sz (Z3 Z0d)) := by kernel_rfl
theorem eqk4 : EqK Tryz.prog 1 4 Z7 := Yf9 (by kernel_rfl)
theorem Yit : EqK Tryz.prog 5 126 Z05 := Ze6 (fun x y e => by cases x; cases y; simp only [Prod.mk.injEq] at e; simp [e]) (l := _) (by kernel_rfl) (by kernel_rfl) (Z5b Y2e Z01 (Z5b (eqk4.le (by decide)) ty4 (Z5b (eqk3.le (by decide)) Zq (Zdy (eqk3.le (by decide)) Zq))))
theorem Y3q : Tryz.prog.eqGuardType Tryz.prog.depth 126 = false := by kernel_rfl
theorem Ydo : EqK Tryz.prog 3 119 Z1w := Ze6 (fun x y e => by cases x; cases y; simp only [Prod.mk.injEq] at e; simp [e]) (l := _) (by kernel_rfl) (by kernel_rfl) (Z5b (eqk3.le (by decide)) Zq (Z5b (eqk4.le (by decide)) ty4 (Z5b Zft Zs (Zdy Zft Zs))))
theorem Yaj : EqK Tryz.prog 4 121 Z8 := Ze6 (fun x y e => by cases x; cases y; simp only [Prod.mk.injEq] at e; simp [e]) (l := _) (by kernel_rfl) (by kernel_rfl) (Z5b (eqk3.le (by decide)) Zq (Z5b (eqk3.le (by decide)) Zq (Z5b (eqk3.le (by decide)) Zq (Z5b (eqk3.le (by decide)) Zq (Z5b (eqk3.le (by decide)) Zq (Zdy Ydo Z8m))))))
theorem Yh1 : Tryz.prog.eqGuardType Tryz.prog.depth 121 = false := by kernel_rfl
theorem Zo8 : Fl Tryz.prog 226 0 Zhl := ⟨by kernel_rfl, rfl⟩
theorem Zlv : Fl Tryz.prog 226 1 Zh5 := ⟨by kernel_rfl, rfl⟩
theorem Znc : Fl Tryz.prog 226 2 Zhc := ⟨by kernel_rfl, rfl⟩
theorem Zod : Fl Tryz.prog 164 1 Zj5 := ⟨by kernel_rfl, rfl⟩
theorem Z6p : Fl Tryz.prog 73 0 lFlat_0 := ⟨by kernel_rfl, rfl⟩
theorem Z6e : Ty Tryz.prog 32 (Z3 Zy) := ⟨by kernel_rfl, by kernel_rfl⟩
theorem Zn6 : Fl Tryz.prog 73 1 lFlat_1 := ⟨by kernel_rfl, rfl⟩
theorem Yja : Z1k Tryz.prog 124 1 = some (lInst_1.off, Kd.sz (Z0 .i64)) := by kernel_rfl
theorem Zwt : Z1k Tryz.prog 61 1 = some (lFlow_1.off, Kd.sz (Z0 .i64)) := by kernel_rfl
theorem Zxl : Tryz.prog.eqGuardType Tryz.prog.depth 42 = false := by kernel_rfl
theorem Y1x : Fl Tryz.prog 121 4 Zsm := ⟨by kernel_rfl, rfl⟩
theorem Zz : Tryz.prog.follows .mixedOrders = true := by kernel_rfl
end Go.Proofs.YtknpgojdkobgjaaGreat.W
set_option maxRecDepth 4000
namespace Go.Proofs.YtknpgojdkobgjaaGreat.W
open Go Go.Wb
theorem Zrh : Ent Tryz.prog 341 := Ent.mk Tryz.func341 rfl rfl
theorem Zoj : Ent Tryz.prog 302 := Ent.mk Tryz.func302 rfl rfl
theorem Yfo : Ent Tryz.prog 333 := Ent.mk Tryz.func333 rfl rfl
theorem Zv0 : Ent Tryz.prog 301 := Ent.mk Tryz.func301 rfl rfl
theorem Y8u : Ent Tryz.prog 258 := Ent.mk Tryz.func258 rfl rfl
def Ze0 : Option Z5 :=
 some (Vector.replicate 24 zTern)
theorem Zzo : Q0 Tryz.prog 73 (rd (Z1 24 Z2)) Ze0 := fun r h => I0 Tryz.func73 rfl Tryz.ntmps73 rfl fun w H => by
 unfold Ze0 at h
 refine SR <| Cv rfl (Zo 1 rfl rfl Z0n) fun g1 => Nl <| SR <| Ac (Z13 (ps := []) (x := (Vector.replicate 24 zTern)) rfl rfl rfl (by kernel_rfl) Z0n rfl) rfl <| Zd Zv 1 rfl <| Nl <| rt ?_
 cases h; exact Zc Tryz.results73 rfl (Zx rfl (i := 1) rfl Zv)
def Zgm : Option Z5 :=
 some (Vector.replicate 24 zTern)
theorem Ztt : Q0 Tryz.prog 77 (rd (Z1 24 Z2)) Zgm := fun r h => I0 Tryz.func77 rfl Tryz.ntmps77 rfl fun w H => by
 unfold Zgm at h
 refine SR <| Cv rfl (Zo 1 rfl rfl Z30) fun g1 => Nl <| SR <| Ac (Z13 (ps := []) (x := (Vector.replicate 24 zTern)) rfl rfl rfl (by kernel_rfl) Z30 rfl) rfl <| Zd Z01 1 rfl <| Nl <| rt ?_
 cases h; exact Zc Tryz.results77 rfl (Zx rfl (i := 1) rfl Z01)
def Zfc (i1 : Int) (j2 : Int) (x3 : (List Flow)) : Option Int :=
 (lget x3 i1).bind fun x4 => (lget x3 j2).bind fun x5 => (bif (decide (x4.Priority > x5.Priority)) then some (-1) else (lget x3 i1).bind fun x6 => (lget x3 j2).bind fun x7 => (bif (decide (x6.Priority < x7.Priority)) then some 1 else some 0))
theorem Y43 : Q3 Tryz.prog 201 (rd (Z0 .i64)) (rd (Z0 .i64)) (rp (Z3 Z0k)) (rd (Z0 .i64)) Zfc := fun i1 j2 x3 r h => I0 Tryz.func201 rfl Tryz.ntmps201 rfl fun w H => by
 unfold Zfc at h
 refine SR <| Ak rfl <| Nl <| sq <| bk <| sq ?_
 obtain ⟨x4, hx4, x5, hx5, h⟩ := bs2 h
 refine AR Zz (by kernel_rfl) <| SLp Z5n rfl <| Zg rfl <| Sd (lo [7, 8] [] rfl fun S hs hr => Z03 rfl rfl Z4r (vh hs 7 rfl rfl) (vh hs 8 rfl rfl) hx4) <| SFp lFlow_1 Zeh rfl <| SLp Zq rfl <| SLp Z5n rfl <| Zg rfl <| Sd (lo [12, 13] [] rfl fun S hs hr => Z03 rfl rfl Z4r (vh hs 12 rfl rfl) (vh hs 13 rfl rfl) hx5) <| SFp lFlow_1 Zeh rfl <| SLp Zq rfl <| Sd (lo [11, 16] [] rfl fun S hs hr => Z3j rfl rfl (vh hs 11 rfl rfl) (vh hs 16 rfl rfl)) <| SAs rfl <| Sn <| Cq rfl h (fun h => ?_) (fun h => ?_)
 ·refine SR <| Ak rfl <| Nl <| rt ?_
  cases h; exact Zc Tryz.results201 rfl (Z4 rfl)
 ·refine sq ?_
  obtain ⟨x6, hx6, x7, hx7, h⟩ := bs2 h
  refine AR Zz (by kernel_rfl) <| SLp Z5n rfl <| Zg rfl <| Sd (lo [19, 20] [] rfl fun S hs hr => Z03 rfl rfl Z4r (vh hs 19 rfl rfl) (vh hs 20 rfl rfl) hx6) <| SFp lFlow_1 Zeh rfl <| SLp Zq rfl <| SLp Z5n rfl <| Zg rfl <| Sd (lo [24, 25] [] rfl fun S hs hr => Z03 rfl rfl Z4r (vh hs 24 rfl rfl) (vh hs 25 rfl rfl) hx7) <| SFp lFlow_1 Zeh rfl <| SLp Zq rfl <| Sd (lo [23, 28] [] rfl fun S hs hr => Zl rfl rfl (vh hs 23 rfl rfl) (vh hs 28 rfl rfl)) <| SAs rfl <| Sn <| Cq rfl h (fun h => ?_) (fun h => ?_)
  ·refine SR <| Ak rfl <| Nl <| rt ?_
   cases h; exact Zc Tryz.results201 rfl (Z4 rfl)
  ·refine sk <| SR <| Ak rfl <| Nl <| rt ?_
   cases h; exact Zc Tryz.results201 rfl (Z4 rfl)
def Zaz (a3 : Int) (x5 : (Int → Int → Option Int)) (go1 : (List Int) → Int → Option (List Int)) (i9 : Int) : Nat → (List Int) → Int → Option (List Int)
 | 0, _, _ => none
 | m15 + 1, l13, j14 => (opt (decide (j14 > a3)) (lget l13 j14)).bind fun x16 => (opt (decide (j14 > a3)) (lget l13 (IntKind.i64.wrap (j14 - 1)))).bind fun x17 => (opt (decide (j14 > a3)) (x5 x16 x17)).bind fun x18 => (bif ((decide (j14 > a3)) && (decide (x18 < 0))) then (lget l13 (IntKind.i64.wrap (j14 - 1))).bind fun x19 => (lget l13 j14).bind fun x20 => (lget l13 j14).bind fun x21 => (lget (List.set l13 j14.toNat x19) (IntKind.i64.wrap (j14 - 1))).bind fun x22 => (Zaz a3 x5 go1 i9 m15) (List.set (List.set l13 j14.toNat x19) (IntKind.i64.wrap (j14 - 1)).toNat x20) (IntKind.i64.wrap (j14 - 1)) else go1 l13 (IntKind.i64.wrap (i9 + 1)))
def Z8b (b4 : Int) (a3 : Int) (x5 : (Int → Int → Option Int)) : Nat → (List Int) → Int → Option (List Int)
 | 0, _, _ => none
 | m10 + 1, l8, i9 => (bif (decide (i9 < b4)) then Zaz a3 x5 (Z8b b4 a3 x5 m10) i9 Z0w l8 i9 else some l8)
def Zf8 (d1 : (List Int)) (a3 : Int) (b4 : Int) (x5 : (Int → Int → Option Int)) : Option (List Int) :=
 Z8b b4 a3 x5 (((b4 : Int) - (IntKind.i64.wrap (a3 + 1))).toNat + 1) d1 (IntKind.i64.wrap (a3 + 1))
theorem Zx6 (v2 : Value) (d1 : (List Int)) (a3 : Int) (b4 : Int) (x5 : (Int → Int → Option Int)) (r : (List Int)) (h : Zf8 d1 a3 b4 x5 = some r) : Con Tryz.prog 301 [Zj v2, rd (Z0 .i64) a3, rd (Z0 .i64) b4, fn2 Tryz.prog (Z0 .i64) (Z0 .i64) (Z0 .i64) x5] (Zh v2 3 (Z0 .i64) d1) (fun _ : Unit => top) (fun _ => Zh v2 3 (Z0 .i64) r) := by
 refine Con.intro Tryz.func301 rfl Tryz.ntmps301 rfl fun w H X => ?_
 unfold Zf8 at h
 refine SR <| Md rfl <| Ac (Z02 rfl rfl (vt rfl) (vk rfl)) rfl <| As rfl <| Nl <| bk <| LG (d := []) (ν := Nat × (List Int) × Int) (fun (m10, l8, i9) => (True ∧ Z8b b4 a3 x5 m10 l8 i9 = some r, m10, [(0, Zj v2), (1, rd (Z0 .i64) a3), (2, rd (Z0 .i64) b4), (3, fn2 Tryz.prog (Z0 .i64) (Z0 .i64) (Z0 .i64) x5), (8, rd (Z0 .i64) i9)], [(0, Zh v2 3 (Z0 .i64) l8)])) ((((b4 : Int) - (IntKind.i64.wrap (a3 + 1))).toNat + 1), d1, (IntKind.i64.wrap (a3 + 1))) ⟨trivial, h⟩ (FX rfl) ?_
 rintro ⟨m10, l8, i9⟩ ⟨hsf1, h⟩
 dsimp only at h ⊢
 cases m10 with
 | zero => cases h
 | succ m10 =>
  unfold Z8b at h
  refine sq <| SR <| Md rfl <| Md rfl <| Ac (Zl rfl rfl (vt rfl) (vt rfl)) rfl <| Nl <| Cq rfl h (fun h => ?_) (fun h => ?_)
  ·refine sk <| sq <| bk <| SR <| Md rfl <| As rfl <| Nl <| bk <| LG (d := []) (ν := Nat × (List Int) × Int) (fun (m15, l13, j14) => (True ∧ Zaz a3 x5 (Z8b b4 a3 x5 m10) i9 m15 l13 j14 = some r, m15, [(0, Zj v2), (1, rd (Z0 .i64) a3), (2, rd (Z0 .i64) b4), (3, fn2 Tryz.prog (Z0 .i64) (Z0 .i64) (Z0 .i64) x5), (8, rd (Z0 .i64) i9), (9, rd (Z0 .i64) j14)], [(0, Zh v2 3 (Z0 .i64) l13)])) (Z0w, l8, i9) ⟨trivial, h⟩ (FX rfl) ?_
   rintro ⟨m15, l13, j14⟩ ⟨hsf2, h⟩
   dsimp only at h ⊢
   cases m15 with
   | zero => cases h
   | succ m15 =>
    unfold Zaz at h
    refine sq <| sq ?_
    obtain ⟨x16, hx16, x17, hx17, x18, hx18, h⟩ := bs3 h
    refine AR Zz (by kernel_rfl) <| Zg rfl <| Zg rfl <| Sd (lo [18, 19] [] rfl fun S hs hr => Z3j rfl rfl (vh hs 18 rfl rfl) (vh hs 19 rfl rfl)) <| Zg rfl <| Sd (lg [3, 21] [] rfl fun hq S hs hr => Zk (A := fn2 Tryz.prog (Z0 .i64) (Z0 .i64) (Z0 .i64) x5) rfl rfl (vh hs 3 rfl rfl)) <| Sd (lg [0, 21] [] rfl fun hq S hs hr => Zk (A := Zj v2) rfl rfl (vh hs 0 rfl rfl)) <| Sd (lg [9, 21] [] rfl fun hq S hs hr => Zk (A := rd (Z0 .i64) j14) rfl rfl (vh hs 9 rfl rfl)) <| Sd (lg [23, 24, 21] [0] rfl fun hq S hs hr => Z1r 0 rfl rfl Z0x (Z6 ((hs 23 rfl).trans rfl) hq) ((hr 0 rfl).trans rfl) (Z6 ((hs 24 rfl).trans rfl) hq) (Z16 hx16 hq)) <| Sd (lg [25, 21] [0] rfl fun hq S hs hr => Z1f 0 rfl rfl Zq (Z6 ((hs 25 rfl).trans rfl) hq) ((hr 0 rfl).trans rfl) (Z0e (Z16 hx16 hq)).2) <| Sd (lg [0, 21] [] rfl fun hq S hs hr => Zk (A := Zj v2) rfl rfl (vh hs 0 rfl rfl)) <| Sd (lg [9, 21] [] rfl fun hq S hs hr => Zk (A := rd (Z0 .i64) j14) rfl rfl (vh hs 9 rfl rfl)) <| Sd (lg [28, 21] [] rfl fun hq S hs hr => Z0i rfl rfl (Z6 ((hs 28 rfl).trans rfl) hq) (vk rfl)) <| Sd (lg [27, 29, 21] [0] rfl fun hq S hs hr => Z1r 0 rfl rfl Z0x (Z6 ((hs 27 rfl).trans rfl) hq) ((hr 0 rfl).trans rfl) (Z6 ((hs 29 rfl).trans rfl) hq) (Z16 hx17 hq)) <| Sd (lg [30, 21] [0] rfl fun hq S hs hr => Z1f 0 rfl rfl Zq (Z6 ((hs 30 rfl).trans rfl) hq) ((hr 0 rfl).trans rfl) (Z0e (Z16 hx17 hq)).2) <| Sd (lg [22, 26, 31, 21] [] rfl fun hq S hs hr => Z5f (Z16 hx18 hq) rfl rfl (Z6 ((hs 22 rfl).trans rfl) hq) (Z6 ((hs 26 rfl).trans rfl) hq) (Z6 ((hs 31 rfl).trans rfl) hq)) <| Sd (lg [32, 21] [] rfl fun hq S hs hr => Zl rfl rfl (Z6 ((hs 32 rfl).trans rfl) hq) (vk rfl)) <| Sd (lo [33, 21] [] rfl fun S hs hr => Z0o rfl rfl (vh hs 21 rfl rfl) (vh hs 33 rfl rfl)) <| Sn <| Cq rfl h (fun h => ?_) (fun h => ?_)
    ·refine sk <| sq <| bk <| AW.vlen 0 rfl fun hvl0_266 => ?_
     obtain ⟨x19, hx19, x20, hx20, x21, hx21, x22, hx22, h⟩ := bs4 h
     refine AR Zz (by kernel_rfl) <| SMw rfl <| Zg rfl <| SMw rfl <| Zg rfl <| Sd (lo [40] [] rfl fun S hs hr => Z0i rfl rfl (vh hs 40 rfl rfl) (vk rfl)) <| SMw rfl <| Zg rfl <| Sd (lo [43] [] rfl fun S hs hr => Z0i rfl rfl (vh hs 43 rfl rfl) (vk rfl)) <| Sd (lo [42, 44] [] rfl fun S hs hr => Z25 (l := l13) hvl0_266 rfl rfl rfl Z0x (vh hs 42 rfl rfl) (vh hs 44 rfl rfl) hx19) <| Sd (lo [45] [0] rfl fun S hs hr => Z1f 0 rfl rfl Zq (vh hs 45 rfl rfl) ((hr 0 rfl).trans rfl) (Z0e hx19).2) <| SMw rfl <| Zg rfl <| Sd (lo [47, 48] [] rfl fun S hs hr => Z25 (l := l13) hvl0_266 rfl rfl rfl Z0x (vh hs 47 rfl rfl) (vh hs 48 rfl rfl) hx20) <| Sd (lo [49] [0] rfl fun S hs hr => Z1f 0 rfl rfl Zq (vh hs 49 rfl rfl) ((hr 0 rfl).trans rfl) (Z0e hx20).2) <| Sd (lo [37, 38] [] rfl fun S hs hr => Z25 (l := l13) hvl0_266 rfl rfl rfl Z0x (vh hs 37 rfl rfl) (vh hs 38 rfl rfl) hx21) <| Sd (Z41 [51, 46] [0] rfl fun S hs hr => Z2d 0 rfl rfl Zq (vh hs 51 rfl rfl) ((hr 0 rfl).trans rfl) (Z0e hx21).2 (vh hs 46 rfl rfl)) <| Sd (lo [39, 41] [] rfl fun S hs hr => Z25 (l := (List.set l13 j14.toNat x19)) hvl0_266 (by simp) rfl rfl Z0x (vh hs 39 rfl rfl) (vh hs 41 rfl rfl) hx22) <| Sd (Z41 [52, 50] [0] rfl fun S hs hr => Z2d 0 rfl rfl Zq (vh hs 52 rfl rfl) ((hr 0 rfl).trans rfl) (Z0e hx22).2 (vh hs 50 rfl rfl)) <| Sn <| Rg <| Md rfl <| Ac (Z0i rfl rfl (vt rfl) (vk rfl)) rfl <| As rfl <| Nl ?_
     exact ⟨(_, _, _), Nat.lt_succ_self _, ⟨trivial, h⟩, FX rfl⟩
    ·refine xt <| Rg <| Md rfl <| Ac (Z02 rfl rfl (vt rfl) (vk rfl)) rfl <| As rfl <| Nl ?_
     exact ⟨(_, _, _), Nat.lt_succ_self _, ⟨trivial, h⟩, FX rfl⟩
  ·refine xt ?_
   cases h; exact Z2q (i := 0) Tryz.results301 rfl rfl
def Zox (n5 : Int) (b4 : Int) (a3 : Int) : Nat → (List Int) → Int → Option (List Int)
 | 0, _, _ => none
 | m11 + 1, l9, i10 => (bif (decide (i10 < n5)) then (lget l9 (IntKind.i64.wrap (b4 + i10))).bind fun x12 => (lget l9 (IntKind.i64.wrap (a3 + i10))).bind fun x13 => (lget l9 (IntKind.i64.wrap (a3 + i10))).bind fun x14 => (lget (List.set l9 (IntKind.i64.wrap (a3 + i10)).toNat x12) (IntKind.i64.wrap (b4 + i10))).bind fun x15 => (Zox n5 b4 a3 m11) (List.set (List.set l9 (IntKind.i64.wrap (a3 + i10)).toNat x12) (IntKind.i64.wrap (b4 + i10)).toNat x13) (IntKind.i64.wrap (i10 + 1)) else some l9)
def Zk2 (d1 : (List Int)) (a3 : Int) (b4 : Int) (n5 : Int) (x6 : (Int → Int → Option Int)) : Option (List Int) :=
 Zox n5 b4 a3 (((n5 : Int) - 0).toNat + 1) d1 0
theorem Zrs (v2 : Value) (d1 : (List Int)) (a3 : Int) (b4 : Int) (n5 : Int) (x6 : (Int → Int → Option Int)) (r : (List Int)) (h : Zk2 d1 a3 b4 n5 x6 = some r) : Con Tryz.prog 341 [Zj v2, rd (Z0 .i64) a3, rd (Z0 .i64) b4, rd (Z0 .i64) n5, fn2 Tryz.prog (Z0 .i64) (Z0 .i64) (Z0 .i64) x6] (Zh v2 3 (Z0 .i64) d1) (fun _ : Unit => top) (fun _ => Zh v2 3 (Z0 .i64) r) := by
 refine Con.intro Tryz.func341 rfl Tryz.ntmps341 rfl fun w H X => ?_
 unfold Zk2 at h
 refine SR <| Ak rfl <| Nl <| bk <| LG (d := []) (ν := Nat × (List Int) × Int) (fun (m11, l9, i10) => (True ∧ Zox n5 b4 a3 m11 l9 i10 = some r, m11, [(0, Zj v2), (1, rd (Z0 .i64) a3), (2, rd (Z0 .i64) b4), (3, rd (Z0 .i64) n5), (10, rd (Z0 .i64) i10)], [(0, Zh v2 3 (Z0 .i64) l9)])) ((((n5 : Int) - 0).toNat + 1), d1, 0) ⟨trivial, h⟩ (FX rfl) ?_
 rintro ⟨m11, l9, i10⟩ ⟨hsf1, h⟩
 dsimp only at h ⊢
 cases m11 with
 | zero => cases h
 | succ m11 =>
  unfold Zox at h
  refine sq <| SR <| Md rfl <| Md rfl <| Ac (Zl rfl rfl (vt rfl) (vt rfl)) rfl <| Nl <| Cq rfl h (fun h => ?_) (fun h => ?_)
  ·refine sk <| sq <| bk <| AW.vlen 0 rfl fun hvl0_123 => ?_
   obtain ⟨x12, hx12, x13, hx13, x14, hx14, x15, hx15, h⟩ := bs4 h
   refine AR Zz (by kernel_rfl) <| SMw rfl <| Zg rfl <| Zg rfl <| Sd (lo [17, 18] [] rfl fun S hs hr => Z02 rfl rfl (vh hs 17 rfl rfl) (vh hs 18 rfl rfl)) <| SMw rfl <| Zg rfl <| Zg rfl <| Sd (lo [21, 22] [] rfl fun S hs hr => Z02 rfl rfl (vh hs 21 rfl rfl) (vh hs 22 rfl rfl)) <| SMw rfl <| Zg rfl <| Zg rfl <| Sd (lo [25, 26] [] rfl fun S hs hr => Z02 rfl rfl (vh hs 25 rfl rfl) (vh hs 26 rfl rfl)) <| Sd (lo [24, 27] [] rfl fun S hs hr => Z25 (l := l9) hvl0_123 rfl rfl rfl Z0x (vh hs 24 rfl rfl) (vh hs 27 rfl rfl) hx12) <| Sd (lo [28] [0] rfl fun S hs hr => Z1f 0 rfl rfl Zq (vh hs 28 rfl rfl) ((hr 0 rfl).trans rfl) (Z0e hx12).2) <| SMw rfl <| Zg rfl <| Zg rfl <| Sd (lo [31, 32] [] rfl fun S hs hr => Z02 rfl rfl (vh hs 31 rfl rfl) (vh hs 32 rfl rfl)) <| Sd (lo [30, 33] [] rfl fun S hs hr => Z25 (l := l9) hvl0_123 rfl rfl rfl Z0x (vh hs 30 rfl rfl) (vh hs 33 rfl rfl) hx13) <| Sd (lo [34] [0] rfl fun S hs hr => Z1f 0 rfl rfl Zq (vh hs 34 rfl rfl) ((hr 0 rfl).trans rfl) (Z0e hx13).2) <| Sd (lo [16, 19] [] rfl fun S hs hr => Z25 (l := l9) hvl0_123 rfl rfl rfl Z0x (vh hs 16 rfl rfl) (vh hs 19 rfl rfl) hx14) <| Sd (Z41 [36, 29] [0] rfl fun S hs hr => Z2d 0 rfl rfl Zq (vh hs 36 rfl rfl) ((hr 0 rfl).trans rfl) (Z0e hx14).2 (vh hs 29 rfl rfl)) <| Sd (lo [20, 23] [] rfl fun S hs hr => Z25 (l := (List.set l9 (IntKind.i64.wrap (a3 + i10)).toNat x12)) hvl0_123 (by simp) rfl rfl Z0x (vh hs 20 rfl rfl) (vh hs 23 rfl rfl) hx15) <| Sd (Z41 [37, 35] [0] rfl fun S hs hr => Z2d 0 rfl rfl Zq (vh hs 37 rfl rfl) ((hr 0 rfl).trans rfl) (Z0e hx15).2 (vh hs 35 rfl rfl)) <| Sn <| Rg <| Md rfl <| Ac (Z02 rfl rfl (vt rfl) (vk rfl)) rfl <| As rfl <| Nl ?_
   exact ⟨(_, _, _), Nat.lt_succ_self _, ⟨trivial, h⟩, FX rfl⟩
  ·refine xt ?_
   cases h; exact Z2q (i := 0) Tryz.results341 rfl rfl
def Zkz (m4 : Int) (x6 : (Int → Int → Option Int)) : Nat → (List Int) → Int → Int → Option (List Int)
 | 0, _, _, _ => none
 | m13 + 1, l10, i11, j12 => (bif (decide (i11 ≠ j12)) then (bif (decide (i11 > j12)) then (Zk2 l10 (IntKind.i64.wrap (m4 - i11)) m4 j12 x6).bind fun l14 => (Zkz m4 x6 m13) l14 (IntKind.i64.wrap (i11 - j12)) j12 else (Zk2 l10 (IntKind.i64.wrap (m4 - i11)) (IntKind.i64.wrap ((IntKind.i64.wrap (m4 + j12)) - i11)) i11 x6).bind fun l15 => (Zkz m4 x6 m13) l15 i11 (IntKind.i64.wrap (j12 - i11))) else (Zk2 l10 (IntKind.i64.wrap (m4 - i11)) m4 i11 x6).bind fun l16 => some l16)
def Zr8 (d1 : (List Int)) (a3 : Int) (m4 : Int) (b5 : Int) (x6 : (Int → Int → Option Int)) : Option (List Int) :=
 Zkz m4 x6 Z0w d1 (IntKind.i64.wrap (m4 - a3)) (IntKind.i64.wrap (b5 - m4))
theorem Yau (v2 : Value) (d1 : (List Int)) (a3 : Int) (m4 : Int) (b5 : Int) (x6 : (Int → Int → Option Int)) (r : (List Int)) (h : Zr8 d1 a3 m4 b5 x6 = some r) : Con Tryz.prog 333 [Zj v2, rd (Z0 .i64) a3, rd (Z0 .i64) m4, rd (Z0 .i64) b5, fn2 Tryz.prog (Z0 .i64) (Z0 .i64) (Z0 .i64) x6] (Zh v2 3 (Z0 .i64) d1) (fun _ : Unit => top) (fun _ => Zh v2 3 (Z0 .i64) r) := by
 refine Con.intro Tryz.func333 rfl Tryz.ntmps333 rfl fun w H X => ?_
 unfold Zr8 at h
 refine SR <| Md rfl <| Md rfl <| Ac (Z0i rfl rfl (vt rfl) (vt rfl)) rfl <| As rfl <| Nl <| SR <| Md rfl <| Md rfl <| Ac (Z0i rfl rfl (vt rfl) (vt rfl)) rfl <| As rfl <| Nl <| sq <| bk <| LG (d := []) (ν := Nat × (List Int) × Int × Int) (fun (m13, l10, i11, j12) => (True ∧ Zkz m4 x6 m13 l10 i11 j12 = some r, m13, [(0, Zj v2), (2, rd (Z0 .i64) m4), (4, fn2 Tryz.prog (Z0 .i64) (Z0 .i64) (Z0 .i64) x6), (10, rd (Z0 .i64) i11), (11, rd (Z0 .i64) j12)], [(0, Zh v2 3 (Z0 .i64) l10)])) (Z0w, d1, (IntKind.i64.wrap (m4 - a3)), (IntKind.i64.wrap (b5 - m4))) ⟨trivial, h⟩ (FX rfl) ?_
 rintro ⟨m13, l10, i11, j12⟩ ⟨hsf1, h⟩
 dsimp only at h ⊢
 cases m13 with
 | zero => cases h
 | succ m13 =>
  unfold Zkz at h
  refine sq <| SR <| Md rfl <| Md rfl <| Ac (Z2o rfl rfl (vt rfl) (vt rfl)) rfl <| Nl <| Cq rfl h (fun h => ?_) (fun h => ?_)
  ·refine sk <| bk <| SR <| Md rfl <| Md rfl <| Ac (Z3j rfl rfl (vt rfl) (vt rfl)) rfl <| Nl <| Cq rfl h (fun h => ?_) (fun h => ?_)
   ·refine sq ?_
    obtain ⟨l14, hl14, h⟩ := Za h
    refine Rg <| Mw rfl <| Md rfl <| Md rfl <| Ac (Z0i rfl rfl (vt rfl) (vt rfl)) rfl <| Md rfl <| Md rfl <| Ac (Zk (A := fn2 Tryz.prog (Z0 .i64) (Z0 .i64) (Z0 .i64) x6) rfl rfl (vt rfl)) rfl <| Cv rfl (Z1o 0 (xs := [.tmp 24, .tmp 27, .tmp 28, .tmp 29, .tmp 30]) (Zrs _ _ _ _ _ _ _ hl14) Zrh rfl rfl ⟨vt rfl, vt rfl, vt rfl, vt rfl, vt rfl, trivial⟩ rfl) fun _u => Nl <| Rg <| Md rfl <| Md rfl <| Ac (Z0i rfl rfl (vt rfl) (vt rfl)) rfl <| As rfl <| Nl ?_
    exact ⟨(_, _, _, _), Nat.lt_succ_self _, ⟨trivial, h⟩, FX rfl⟩
   ·refine sq ?_
    obtain ⟨l15, hl15, h⟩ := Za h
    refine Rg <| Mw rfl <| Md rfl <| Md rfl <| Ac (Z0i rfl rfl (vt rfl) (vt rfl)) rfl <| Md rfl <| Md rfl <| Ac (Z02 rfl rfl (vt rfl) (vt rfl)) rfl <| Md rfl <| Ac (Z0i rfl rfl (vt rfl) (vt rfl)) rfl <| Md rfl <| Ac (Zk (A := fn2 Tryz.prog (Z0 .i64) (Z0 .i64) (Z0 .i64) x6) rfl rfl (vt rfl)) rfl <| Cv rfl (Z1o 0 (xs := [.tmp 35, .tmp 38, .tmp 43, .tmp 44, .tmp 45]) (Zrs _ _ _ _ _ _ _ hl15) Zrh rfl rfl ⟨vt rfl, vt rfl, vt rfl, vt rfl, vt rfl, trivial⟩ rfl) fun _u => Nl <| Rg <| Md rfl <| Md rfl <| Ac (Z0i rfl rfl (vt rfl) (vt rfl)) rfl <| As rfl <| Nl ?_
    exact ⟨(_, _, _, _), Nat.lt_succ_self _, ⟨trivial, h⟩, FX rfl⟩
  ·refine xt ?_
   obtain ⟨l16, hl16, h⟩ := Za h
   refine Rg <| Mw rfl <| Md rfl <| Md rfl <| Ac (Z0i rfl rfl (vt rfl) (vt rfl)) rfl <| Md rfl <| Md rfl <| Ac (Zk (A := fn2 Tryz.prog (Z0 .i64) (Z0 .i64) (Z0 .i64) x6) rfl rfl (vt rfl)) rfl <| Cv rfl (Z1o 0 (xs := [.tmp 50, .tmp 53, .tmp 54, .tmp 55, .tmp 56]) (Zrs _ _ _ _ _ _ _ hl16) Zrh rfl rfl ⟨vt rfl, vt rfl, vt rfl, vt rfl, vt rfl, trivial⟩ rfl) fun _u => Nl ?_
   cases h; exact Z2q (i := 0) Tryz.results333 rfl rfl
def Zn8 (i9 : Int) : Nat → (List Int) → Int → Option (List Int)
 | 0, _, _ => none
 | m20 + 1, l18, k19 => (bif (decide (k19 < (IntKind.i64.wrap (i9 - 1)))) then (lget l18 (IntKind.i64.wrap (k19 + 1))).bind fun x21 => (lget l18 k19).bind fun x22 => (lget l18 k19).bind fun x23 => (lget (List.set l18 k19.toNat x21) (IntKind.i64.wrap (k19 + 1))).bind fun x24 => (Zn8 i9 m20) (List.set (List.set l18 k19.toNat x21) (IntKind.i64.wrap (k19 + 1)).toNat x22) (IntKind.i64.wrap (k19 + 1)) else some l18)
def Zis (d1 : (List Int)) (a3 : Int) (x6 : (Int → Int → Option Int)) : Nat → Int → Int → Option (List Int)
 | 0, _, _ => none
 | m11 + 1, i9, j10 => (bif (decide (i9 < j10)) then (Z36 (BitVec.ofInt 64 (IntKind.i64.wrap (i9 + j10))) ((1 : BitVec 64).toNat : Int)).bind fun q12 => (lget d1 (IntKind.i64.wrap (q12.toNat : Int))).bind fun x13 => (lget d1 a3).bind fun x14 => (x6 x13 x14).bind fun x15 => (bif (decide (x15 < 0)) then (Zis d1 a3 x6 m11) (IntKind.i64.wrap ((IntKind.i64.wrap (q12.toNat : Int)) + 1)) j10 else (Zis d1 a3 x6 m11) i9 (IntKind.i64.wrap (q12.toNat : Int))) else Zn8 i9 ((((IntKind.i64.wrap (i9 - 1)) : Int) - a3).toNat + 1) d1 a3)
def Zm0 (i27 : Int) : Nat → (List Int) → Int → Option (List Int)
 | 0, _, _ => none
 | m38 + 1, l36, k37 => (bif (decide (k37 > i27)) then (lget l36 (IntKind.i64.wrap (k37 - 1))).bind fun x39 => (lget l36 k37).bind fun x40 => (lget l36 k37).bind fun x41 => (lget (List.set l36 k37.toNat x39) (IntKind.i64.wrap (k37 - 1))).bind fun x42 => (Zm0 i27 m38) (List.set (List.set l36 k37.toNat x39) (IntKind.i64.wrap (k37 - 1)).toNat x40) (IntKind.i64.wrap (k37 - 1)) else some l36)
def Zi9 (d1 : (List Int)) (m4 : Int) (x6 : (Int → Int → Option Int)) : Nat → Int → Int → Option (List Int)
 | 0, _, _ => none
 | m29 + 1, i27, j28 => (bif (decide (i27 < j28)) then (Z36 (BitVec.ofInt 64 (IntKind.i64.wrap (i27 + j28))) ((1 : BitVec 64).toNat : Int)).bind fun q30 => (lget d1 m4).bind fun x31 => (lget d1 (IntKind.i64.wrap (q30.toNat : Int))).bind fun x32 => (x6 x31 x32).bind fun x33 => (bif (!(decide (x33 < 0))) then (Zi9 d1 m4 x6 m29) (IntKind.i64.wrap ((IntKind.i64.wrap (q30.toNat : Int)) + 1)) j28 else (Zi9 d1 m4 x6 m29) i27 (IntKind.i64.wrap (q30.toNat : Int))) else Zm0 i27 (((m4 : Int) - i27).toNat + 1) d1 m4)
def Zo6 (q43 : (BitVec 64)) (m4 : Int) (s48 : Int) (b5 : Int) (R_slices_symMergeCmpFunc_int : ((List Int) → Int → Int → Int → (Int → Int → Option Int) → Option (List Int))) (x6 : (Int → Int → Option Int)) (l56 : (List Int)) : Option (List Int) :=
 (bif ((decide ((IntKind.i64.wrap (q43.toNat : Int)) < (IntKind.i64.wrap ((IntKind.i64.wrap ((IntKind.i64.wrap (q43.toNat : Int)) + m4)) - s48)))) && (decide ((IntKind.i64.wrap ((IntKind.i64.wrap ((IntKind.i64.wrap (q43.toNat : Int)) + m4)) - s48)) < b5))) then (R_slices_symMergeCmpFunc_int l56 (IntKind.i64.wrap (q43.toNat : Int)) (IntKind.i64.wrap ((IntKind.i64.wrap ((IntKind.i64.wrap (q43.toNat : Int)) + m4)) - s48)) b5 x6).bind fun l57 => some l57 else some l56)
def Zlo (a3 : Int) (s48 : Int) (q43 : (BitVec 64)) (R_slices_symMergeCmpFunc_int : ((List Int) → Int → Int → Int → (Int → Int → Option Int) → Option (List Int))) (x6 : (Int → Int → Option Int)) (m4 : Int) (b5 : Int) (l55 : (List Int)) : Option (List Int) :=
 (bif ((decide (a3 < s48)) && (decide (s48 < (IntKind.i64.wrap (q43.toNat : Int))))) then (R_slices_symMergeCmpFunc_int l55 a3 s48 (IntKind.i64.wrap (q43.toNat : Int)) x6).bind fun l58 => Zo6 q43 m4 s48 b5 R_slices_symMergeCmpFunc_int x6 l58 else Zo6 q43 m4 s48 b5 R_slices_symMergeCmpFunc_int x6 l55)
def Zkj (d1 : (List Int)) (q43 : (BitVec 64)) (m4 : Int) (x6 : (Int → Int → Option Int)) (a3 : Int) (R_slices_symMergeCmpFunc_int : ((List Int) → Int → Int → Int → (Int → Int → Option Int) → Option (List Int))) (b5 : Int) : Nat → Int → Int → Option (List Int)
 | 0, _, _ => none
 | m50 + 1, s48, x49 => (bif (decide (s48 < x49)) then (Z36 (BitVec.ofInt 64 (IntKind.i64.wrap (s48 + x49))) ((1 : BitVec 64).toNat : Int)).bind fun q51 => (lget d1 (IntKind.i64.wrap ((IntKind.i64.wrap ((IntKind.i64.wrap ((IntKind.i64.wrap (q43.toNat : Int)) + m4)) - 1)) - (IntKind.i64.wrap (q51.toNat : Int))))).bind fun x52 => (lget d1 (IntKind.i64.wrap (q51.toNat : Int))).bind fun x53 => (x6 x52 x53).bind fun x54 => (bif (!(decide (x54 < 0))) then (Zkj d1 q43 m4 x6 a3 R_slices_symMergeCmpFunc_int b5 m50) (IntKind.i64.wrap ((IntKind.i64.wrap (q51.toNat : Int)) + 1)) x49 else (Zkj d1 q43 m4 x6 a3 R_slices_symMergeCmpFunc_int b5 m50) s48 (IntKind.i64.wrap (q51.toNat : Int))) else (bif ((decide (s48 < m4)) && (decide (m4 < (IntKind.i64.wrap ((IntKind.i64.wrap ((IntKind.i64.wrap (q43.toNat : Int)) + m4)) - s48))))) then (Zr8 d1 s48 m4 (IntKind.i64.wrap ((IntKind.i64.wrap ((IntKind.i64.wrap (q43.toNat : Int)) + m4)) - s48)) x6).bind fun l59 => Zlo a3 s48 q43 R_slices_symMergeCmpFunc_int x6 m4 b5 l59 else Zlo a3 s48 q43 R_slices_symMergeCmpFunc_int x6 m4 b5 d1))
def Zmg (d1 : (List Int)) (q43 : (BitVec 64)) (m4 : Int) (x6 : (Int → Int → Option Int)) (a3 : Int) (R_slices_symMergeCmpFunc_int : ((List Int) → Int → Int → Int → (Int → Int → Option Int) → Option (List Int))) (b5 : Int) (s44 : Int) (x45 : Int) : Option (List Int) :=
 Zkj d1 q43 m4 x6 a3 R_slices_symMergeCmpFunc_int b5 (((x45 : Int) - s44).toNat + 1) s44 x45
def Zt1 (R_slices_symMergeCmpFunc_int : ((List Int) → Int → Int → Int → (Int → Int → Option Int) → Option (List Int))) (d1 : (List Int)) (a3 : Int) (m4 : Int) (b5 : Int) (x6 : (Int → Int → Option Int)) : Option (List Int) :=
 (bif (decide ((IntKind.i64.wrap (m4 - a3)) = 1)) then Zis d1 a3 x6 (((b5 : Int) - m4).toNat + 1) m4 b5 else (bif (decide ((IntKind.i64.wrap (b5 - m4)) = 1)) then Zi9 d1 m4 x6 (((m4 : Int) - a3).toNat + 1) a3 m4 else (Z36 (BitVec.ofInt 64 (IntKind.i64.wrap (a3 + b5))) ((1 : BitVec 64).toNat : Int)).bind fun q43 => (bif (decide (m4 > (IntKind.i64.wrap (q43.toNat : Int)))) then Zmg d1 q43 m4 x6 a3 R_slices_symMergeCmpFunc_int b5 (IntKind.i64.wrap ((IntKind.i64.wrap ((IntKind.i64.wrap (q43.toNat : Int)) + m4)) - b5)) (IntKind.i64.wrap (q43.toNat : Int)) else Zmg d1 q43 m4 x6 a3 R_slices_symMergeCmpFunc_int b5 a3 m4)))
theorem Yi0 (R_slices_symMergeCmpFunc_int : ((List Int) → Int → Int → Int → (Int → Int → Option Int) → Option (List Int))) (hR_slices_symMergeCmpFunc_int : ∀ (v2 : Value) (d1 : (List Int)) (a3 : Int) (m4 : Int) (b5 : Int) (x6 : (Int → Int → Option Int)) (r : (List Int)), R_slices_symMergeCmpFunc_int d1 a3 m4 b5 x6 = some r → Con Tryz.prog 302 [Zj v2, rd (Z0 .i64) a3, rd (Z0 .i64) m4, rd (Z0 .i64) b5, fn2 Tryz.prog (Z0 .i64) (Z0 .i64) (Z0 .i64) x6] (Zh v2 3 (Z0 .i64) d1) (fun _ : Unit => top) (fun _ => Zh v2 3 (Z0 .i64) r)) (v2 : Value) (d1 : (List Int)) (a3 : Int) (m4 : Int) (b5 : Int) (x6 : (Int → Int → Option Int)) (r : (List Int)) (h : Zt1 R_slices_symMergeCmpFunc_int d1 a3 m4 b5 x6 = some r) : Con Tryz.prog 302 [Zj v2, rd (Z0 .i64) a3, rd (Z0 .i64) m4, rd (Z0 .i64) b5, fn2 Tryz.prog (Z0 .i64) (Z0 .i64) (Z0 .i64) x6] (Zh v2 3 (Z0 .i64) d1) (fun _ : Unit => top) (fun _ => Zh v2 3 (Z0 .i64) r) := by
 refine Con.intro Tryz.func302 rfl Tryz.ntmps302 rfl fun w H X => ?_
 unfold Zt1 at h
 refine sq <| SR <| Md rfl <| Md rfl <| Ac (Z0i rfl rfl (vt rfl) (vt rfl)) rfl <| Ac (Z0f rfl rfl (vt rfl) (vk rfl)) rfl <| Nl <| Cq rfl h (fun h => ?_) (fun h => ?_)
 ·refine SR <| Md rfl <| As rfl <| Nl <| SR <| Md rfl <| As rfl <| Nl <| sq <| bk <| LG (d := []) (ν := Nat × Int × Int) (fun (m11, i9, j10) => (True ∧ Zis d1 a3 x6 m11 i9 j10 = some r, m11, [(0, Zj v2), (1, rd (Z0 .i64) a3), (4, fn2 Tryz.prog (Z0 .i64) (Z0 .i64) (Z0 .i64) x6), (10, rd (Z0 .i64) i9), (11, rd (Z0 .i64) j10)], [(0, Zh v2 3 (Z0 .i64) d1)])) ((((b5 : Int) - m4).toNat + 1), m4, b5) ⟨trivial, h⟩ (FX rfl) ?_
  rintro ⟨m11, i9, j10⟩ ⟨hsf1, h⟩
  dsimp only at h ⊢
  cases m11 with
  | zero => cases h
  | succ m11 =>
   unfold Zis at h
   refine sq <| SR <| Md rfl <| Md rfl <| Ac (Zl rfl rfl (vt rfl) (vt rfl)) rfl <| Nl <| Cq rfl h (fun h => ?_) (fun h => ?_)
   ·refine sk <| bk <| sq ?_
    obtain ⟨q12, hq12, h⟩ := Za h
    refine Rg <| Md rfl <| Md rfl <| Ac (Z02 rfl rfl (vt rfl) (vt rfl)) rfl <| Ac (Z73 rfl rfl us3 Z77 (vt rfl)) rfl <| Ac (Z59 rfl rfl (vt rfl) (Z4i (vku (1 : BitVec 64) rfl)) hq12) rfl <| Ac (Z8u rfl rfl Za1 un3 (vt rfl)) rfl <| As rfl <| Nl <| sq ?_
    obtain ⟨x13, hx13, x14, hx14, x15, hx15, h⟩ := bs3 h
    refine AR Zz (by kernel_rfl) <| Sd (lo [4] [] rfl fun S hs hr => Zk (A := fn2 Tryz.prog (Z0 .i64) (Z0 .i64) (Z0 .i64) x6) rfl rfl (vh hs 4 rfl rfl)) <| SMw rfl <| Zg rfl <| Sd (lo [41, 42] [0] rfl fun S hs hr => Z1r 0 rfl rfl Z0x (vh hs 41 rfl rfl) ((hr 0 rfl).trans rfl) (vh hs 42 rfl rfl) hx13) <| Sd (lo [43] [0] rfl fun S hs hr => Z1f 0 rfl rfl Zq (vh hs 43 rfl rfl) ((hr 0 rfl).trans rfl) (Z0e hx13).2) <| SMw rfl <| Zg rfl <| Sd (lo [45, 46] [0] rfl fun S hs hr => Z1r 0 rfl rfl Z0x (vh hs 45 rfl rfl) ((hr 0 rfl).trans rfl) (vh hs 46 rfl rfl) hx14) <| Sd (lo [47] [0] rfl fun S hs hr => Z1f 0 rfl rfl Zq (vh hs 47 rfl rfl) ((hr 0 rfl).trans rfl) (Z0e hx14).2) <| Sd (lo [40, 44, 48] [] rfl fun S hs hr => Z5f hx15 rfl rfl (vh hs 40 rfl rfl) (vh hs 44 rfl rfl) (vh hs 48 rfl rfl)) <| Sd (lo [49] [] rfl fun S hs hr => Zl rfl rfl (vh hs 49 rfl rfl) (vk rfl)) <| Sn <| Cq rfl h (fun h => ?_) (fun h => ?_)
    ·refine Rg <| Md rfl <| Ac (Z02 rfl rfl (vt rfl) (vk rfl)) rfl <| As rfl <| Nl ?_
     exact ⟨(_, _, _), Nat.lt_succ_self _, ⟨trivial, h⟩, FX rfl⟩
    ·refine Rg <| Md rfl <| As rfl <| Nl ?_
     exact ⟨(_, _, _), Nat.lt_succ_self _, ⟨trivial, h⟩, FX rfl⟩
   ·refine xt <| sq <| SR <| Md rfl <| As rfl <| Nl <| bk <| LG (d := []) (ν := Nat × (List Int) × Int) (fun (m20, l18, k19) => (True ∧ Zn8 i9 m20 l18 k19 = some r, m20, [(0, Zj v2), (10, rd (Z0 .i64) i9), (13, rd (Z0 .i64) k19)], [(0, Zh v2 3 (Z0 .i64) l18)])) (((((IntKind.i64.wrap (i9 - 1)) : Int) - a3).toNat + 1), d1, a3) ⟨trivial, h⟩ (FX rfl) ?_
    rintro ⟨m20, l18, k19⟩ ⟨hsf2, h⟩
    dsimp only at h ⊢
    cases m20 with
    | zero => cases h
    | succ m20 =>
     unfold Zn8 at h
     refine sq <| SR <| Md rfl <| Md rfl <| Ac (Z0i rfl rfl (vt rfl) (vk rfl)) rfl <| Ac (Zl rfl rfl (vt rfl) (vt rfl)) rfl <| Nl <| Cq rfl h (fun h => ?_) (fun h => ?_)
     ·refine sk <| sq <| bk <| AW.vlen 0 rfl fun hvl0_205 => ?_
      obtain ⟨x21, hx21, x22, hx22, x23, hx23, x24, hx24, h⟩ := bs4 h
      refine AR Zz (by kernel_rfl) <| SMw rfl <| Zg rfl <| SMw rfl <| Zg rfl <| Sd (lo [64] [] rfl fun S hs hr => Z02 rfl rfl (vh hs 64 rfl rfl) (vk rfl)) <| SMw rfl <| Zg rfl <| Sd (lo [67] [] rfl fun S hs hr => Z02 rfl rfl (vh hs 67 rfl rfl) (vk rfl)) <| Sd (lo [66, 68] [] rfl fun S hs hr => Z25 (l := l18) hvl0_205 rfl rfl rfl Z0x (vh hs 66 rfl rfl) (vh hs 68 rfl rfl) hx21) <| Sd (lo [69] [0] rfl fun S hs hr => Z1f 0 rfl rfl Zq (vh hs 69 rfl rfl) ((hr 0 rfl).trans rfl) (Z0e hx21).2) <| SMw rfl <| Zg rfl <| Sd (lo [71, 72] [] rfl fun S hs hr => Z25 (l := l18) hvl0_205 rfl rfl rfl Z0x (vh hs 71 rfl rfl) (vh hs 72 rfl rfl) hx22) <| Sd (lo [73] [0] rfl fun S hs hr => Z1f 0 rfl rfl Zq (vh hs 73 rfl rfl) ((hr 0 rfl).trans rfl) (Z0e hx22).2) <| Sd (lo [61, 62] [] rfl fun S hs hr => Z25 (l := l18) hvl0_205 rfl rfl rfl Z0x (vh hs 61 rfl rfl) (vh hs 62 rfl rfl) hx23) <| Sd (Z41 [75, 70] [0] rfl fun S hs hr => Z2d 0 rfl rfl Zq (vh hs 75 rfl rfl) ((hr 0 rfl).trans rfl) (Z0e hx23).2 (vh hs 70 rfl rfl)) <| Sd (lo [63, 65] [] rfl fun S hs hr => Z25 (l := (List.set l18 k19.toNat x21)) hvl0_205 (by simp) rfl rfl Z0x (vh hs 63 rfl rfl) (vh hs 65 rfl rfl) hx24) <| Sd (Z41 [76, 74] [0] rfl fun S hs hr => Z2d 0 rfl rfl Zq (vh hs 76 rfl rfl) ((hr 0 rfl).trans rfl) (Z0e hx24).2 (vh hs 74 rfl rfl)) <| Sn <| Rg <| Md rfl <| Ac (Z02 rfl rfl (vt rfl) (vk rfl)) rfl <| As rfl <| Nl ?_
      exact ⟨(_, _, _), Nat.lt_succ_self _, ⟨trivial, h⟩, FX rfl⟩
     ·refine xt <| rt ?_
      cases h; exact Z2q (i := 0) Tryz.results302 rfl rfl
 ·refine sk <| sq <| SR <| Md rfl <| Md rfl <| Ac (Z0i rfl rfl (vt rfl) (vt rfl)) rfl <| Ac (Z0f rfl rfl (vt rfl) (vk rfl)) rfl <| Nl <| Cq rfl h (fun h => ?_) (fun h => ?_)
  ·refine SR <| Md rfl <| As rfl <| Nl <| SR <| Md rfl <| As rfl <| Nl <| sq <| bk <| LG (d := []) (ν := Nat × Int × Int) (fun (m29, i27, j28) => (True ∧ Zi9 d1 m4 x6 m29 i27 j28 = some r, m29, [(0, Zj v2), (2, rd (Z0 .i64) m4), (4, fn2 Tryz.prog (Z0 .i64) (Z0 .i64) (Z0 .i64) x6), (14, rd (Z0 .i64) i27), (15, rd (Z0 .i64) j28)], [(0, Zh v2 3 (Z0 .i64) d1)])) ((((m4 : Int) - a3).toNat + 1), a3, m4) ⟨trivial, h⟩ (FX rfl) ?_
   rintro ⟨m29, i27, j28⟩ ⟨hsf3, h⟩
   dsimp only at h ⊢
   cases m29 with
   | zero => cases h
   | succ m29 =>
    unfold Zi9 at h
    refine sq <| SR <| Md rfl <| Md rfl <| Ac (Zl rfl rfl (vt rfl) (vt rfl)) rfl <| Nl <| Cq rfl h (fun h => ?_) (fun h => ?_)
    ·refine sk <| bk <| sq ?_
     obtain ⟨q30, hq30, h⟩ := Za h
     refine Rg <| Md rfl <| Md rfl <| Ac (Z02 rfl rfl (vt rfl) (vt rfl)) rfl <| Ac (Z73 rfl rfl us3 Z77 (vt rfl)) rfl <| Ac (Z59 rfl rfl (vt rfl) (Z4i (vku (1 : BitVec 64) rfl)) hq30) rfl <| Ac (Z8u rfl rfl Za1 un3 (vt rfl)) rfl <| As rfl <| Nl <| sq ?_
     obtain ⟨x31, hx31, x32, hx32, x33, hx33, h⟩ := bs3 h
     refine AR Zz (by kernel_rfl) <| Sd (lo [4] [] rfl fun S hs hr => Zk (A := fn2 Tryz.prog (Z0 .i64) (Z0 .i64) (Z0 .i64) x6) rfl rfl (vh hs 4 rfl rfl)) <| SMw rfl <| Zg rfl <| Sd (lo [93, 94] [0] rfl fun S hs hr => Z1r 0 rfl rfl Z0x (vh hs 93 rfl rfl) ((hr 0 rfl).trans rfl) (vh hs 94 rfl rfl) hx31) <| Sd (lo [95] [0] rfl fun S hs hr => Z1f 0 rfl rfl Zq (vh hs 95 rfl rfl) ((hr 0 rfl).trans rfl) (Z0e hx31).2) <| SMw rfl <| Zg rfl <| Sd (lo [97, 98] [0] rfl fun S hs hr => Z1r 0 rfl rfl Z0x (vh hs 97 rfl rfl) ((hr 0 rfl).trans rfl) (vh hs 98 rfl rfl) hx32) <| Sd (lo [99] [0] rfl fun S hs hr => Z1f 0 rfl rfl Zq (vh hs 99 rfl rfl) ((hr 0 rfl).trans rfl) (Z0e hx32).2) <| Sd (lo [92, 96, 100] [] rfl fun S hs hr => Z5f hx33 rfl rfl (vh hs 92 rfl rfl) (vh hs 96 rfl rfl) (vh hs 100 rfl rfl)) <| Sd (lo [101] [] rfl fun S hs hr => Zl rfl rfl (vh hs 101 rfl rfl) (vk rfl)) <| Sd (lo [102] [] rfl fun S hs hr => Z0s rfl rfl (vh hs 102 rfl rfl)) <| Sn <| Cq rfl h (fun h => ?_) (fun h => ?_)
     ·refine Rg <| Md rfl <| Ac (Z02 rfl rfl (vt rfl) (vk rfl)) rfl <| As rfl <| Nl ?_
      exact ⟨(_, _, _), Nat.lt_succ_self _, ⟨trivial, h⟩, FX rfl⟩
     ·refine Rg <| Md rfl <| As rfl <| Nl ?_
      exact ⟨(_, _, _), Nat.lt_succ_self _, ⟨trivial, h⟩, FX rfl⟩
    ·refine xt <| sq <| SR <| Md rfl <| As rfl <| Nl <| bk <| LG (d := []) (ν := Nat × (List Int) × Int) (fun (m38, l36, k37) => (True ∧ Zm0 i27 m38 l36 k37 = some r, m38, [(0, Zj v2), (14, rd (Z0 .i64) i27), (17, rd (Z0 .i64) k37)], [(0, Zh v2 3 (Z0 .i64) l36)])) ((((m4 : Int) - i27).toNat + 1), d1, m4) ⟨trivial, h⟩ (FX rfl) ?_
     rintro ⟨m38, l36, k37⟩ ⟨hsf4, h⟩
     dsimp only at h ⊢
     cases m38 with
     | zero => cases h
     | succ m38 =>
      unfold Zm0 at h
      refine sq <| SR <| Md rfl <| Md rfl <| Ac (Z3j rfl rfl (vt rfl) (vt rfl)) rfl <| Nl <| Cq rfl h (fun h => ?_) (fun h => ?_)
      ·refine sk <| sq <| bk <| AW.vlen 0 rfl fun hvl0_446 => ?_
       obtain ⟨x39, hx39, x40, hx40, x41, hx41, x42, hx42, h⟩ := bs4 h
       refine AR Zz (by kernel_rfl) <| SMw rfl <| Zg rfl <| SMw rfl <| Zg rfl <| Sd (lo [116] [] rfl fun S hs hr => Z0i rfl rfl (vh hs 116 rfl rfl) (vk rfl)) <| SMw rfl <| Zg rfl <| Sd (lo [119] [] rfl fun S hs hr => Z0i rfl rfl (vh hs 119 rfl rfl) (vk rfl)) <| Sd (lo [118, 120] [] rfl fun S hs hr => Z25 (l := l36) hvl0_446 rfl rfl rfl Z0x (vh hs 118 rfl rfl) (vh hs 120 rfl rfl) hx39) <| Sd (lo [121] [0] rfl fun S hs hr => Z1f 0 rfl rfl Zq (vh hs 121 rfl rfl) ((hr 0 rfl).trans rfl) (Z0e hx39).2) <| SMw rfl <| Zg rfl <| Sd (lo [123, 124] [] rfl fun S hs hr => Z25 (l := l36) hvl0_446 rfl rfl rfl Z0x (vh hs 123 rfl rfl) (vh hs 124 rfl rfl) hx40) <| Sd (lo [125] [0] rfl fun S hs hr => Z1f 0 rfl rfl Zq (vh hs 125 rfl rfl) ((hr 0 rfl).trans rfl) (Z0e hx40).2) <| Sd (lo [113, 114] [] rfl fun S hs hr => Z25 (l := l36) hvl0_446 rfl rfl rfl Z0x (vh hs 113 rfl rfl) (vh hs 114 rfl rfl) hx41) <| Sd (Z41 [127, 122] [0] rfl fun S hs hr => Z2d 0 rfl rfl Zq (vh hs 127 rfl rfl) ((hr 0 rfl).trans rfl) (Z0e hx41).2 (vh hs 122 rfl rfl)) <| Sd (lo [115, 117] [] rfl fun S hs hr => Z25 (l := (List.set l36 k37.toNat x39)) hvl0_446 (by simp) rfl rfl Z0x (vh hs 115 rfl rfl) (vh hs 117 rfl rfl) hx42) <| Sd (Z41 [128, 126] [0] rfl fun S hs hr => Z2d 0 rfl rfl Zq (vh hs 128 rfl rfl) ((hr 0 rfl).trans rfl) (Z0e hx42).2 (vh hs 126 rfl rfl)) <| Sn <| Rg <| Md rfl <| Ac (Z0i rfl rfl (vt rfl) (vk rfl)) rfl <| As rfl <| Nl ?_
       exact ⟨(_, _, _), Nat.lt_succ_self _, ⟨trivial, h⟩, FX rfl⟩
      ·refine xt <| rt ?_
       cases h; exact Z2q (i := 0) Tryz.results302 rfl rfl
  ·refine sk <| sq ?_
   obtain ⟨q43, hq43, h⟩ := Za h
   refine Rg <| Md rfl <| Md rfl <| Ac (Z02 rfl rfl (vt rfl) (vt rfl)) rfl <| Ac (Z73 rfl rfl us3 Z77 (vt rfl)) rfl <| Ac (Z59 rfl rfl (vt rfl) (Z4i (vku (1 : BitVec 64) rfl)) hq43) rfl <| Ac (Z8u rfl rfl Za1 un3 (vt rfl)) rfl <| As rfl <| Nl <| SR <| Md rfl <| Md rfl <| Ac (Z02 rfl rfl (vt rfl) (vt rfl)) rfl <| As rfl <| Nl <| SR <| Ak rfl <| Ak rfl <| Nl ?_
   refine JN (d := []) (ν := Int × Int) (fun (s44, x45) => (Zmg d1 q43 m4 x6 a3 R_slices_symMergeCmpFunc_int b5 s44 x45 = some r, [(0, Zj v2), (1, rd (Z0 .i64) a3), (2, rd (Z0 .i64) m4), (3, rd (Z0 .i64) b5), (4, fn2 Tryz.prog (Z0 .i64) (Z0 .i64) (Z0 .i64) x6), (18, rd (Z0 .i64) (IntKind.i64.wrap (q43.toNat : Int))), (19, rd (Z0 .i64) (IntKind.i64.wrap ((IntKind.i64.wrap (q43.toNat : Int)) + m4))), (20, rd (Z0 .i64) s44), (21, rd (Z0 .i64) x45)], [(0, Zh v2 3 (Z0 .i64) d1)])) ?hx5 ?hy5
   case hy5 =>
    rintro ⟨s44, x45⟩ h
    dsimp only at h ⊢
    unfold Zmg at h
    refine SR <| Md rfl <| Ac (Z0i rfl rfl (vt rfl) (vk rfl)) rfl <| As rfl <| Nl <| sq <| bk <| LG (d := []) (ν := Nat × Int × Int) (fun (m50, s48, x49) => (True ∧ Zkj d1 q43 m4 x6 a3 R_slices_symMergeCmpFunc_int b5 m50 s48 x49 = some r, m50, [(0, Zj v2), (1, rd (Z0 .i64) a3), (2, rd (Z0 .i64) m4), (3, rd (Z0 .i64) b5), (4, fn2 Tryz.prog (Z0 .i64) (Z0 .i64) (Z0 .i64) x6), (18, rd (Z0 .i64) (IntKind.i64.wrap (q43.toNat : Int))), (19, rd (Z0 .i64) (IntKind.i64.wrap ((IntKind.i64.wrap (q43.toNat : Int)) + m4))), (20, rd (Z0 .i64) s48), (21, rd (Z0 .i64) x49), (22, rd (Z0 .i64) (IntKind.i64.wrap ((IntKind.i64.wrap ((IntKind.i64.wrap (q43.toNat : Int)) + m4)) - 1)))], [(0, Zh v2 3 (Z0 .i64) d1)])) ((((x45 : Int) - s44).toNat + 1), s44, x45) ⟨trivial, h⟩ (FX rfl) ?_
    rintro ⟨m50, s48, x49⟩ ⟨hsf6, h⟩
    dsimp only at h ⊢
    cases m50 with
    | zero => cases h
    | succ m50 =>
     unfold Zkj at h
     refine sq <| SR <| Md rfl <| Md rfl <| Ac (Zl rfl rfl (vt rfl) (vt rfl)) rfl <| Nl <| Cq rfl h (fun h => ?_) (fun h => ?_)
     ·refine sk <| bk <| sq ?_
      obtain ⟨q51, hq51, h⟩ := Za h
      refine Rg <| Md rfl <| Md rfl <| Ac (Z02 rfl rfl (vt rfl) (vt rfl)) rfl <| Ac (Z73 rfl rfl us3 Z77 (vt rfl)) rfl <| Ac (Z59 rfl rfl (vt rfl) (Z4i (vku (1 : BitVec 64) rfl)) hq51) rfl <| Ac (Z8u rfl rfl Za1 un3 (vt rfl)) rfl <| As rfl <| Nl <| sq ?_
      obtain ⟨x52, hx52, x53, hx53, x54, hx54, h⟩ := bs3 h
      refine AR Zz (by kernel_rfl) <| Sd (lo [4] [] rfl fun S hs hr => Zk (A := fn2 Tryz.prog (Z0 .i64) (Z0 .i64) (Z0 .i64) x6) rfl rfl (vh hs 4 rfl rfl)) <| SMw rfl <| Zg rfl <| Zg rfl <| Sd (lo [160, 161] [] rfl fun S hs hr => Z0i rfl rfl (vh hs 160 rfl rfl) (vh hs 161 rfl rfl)) <| Sd (lo [159, 162] [0] rfl fun S hs hr => Z1r 0 rfl rfl Z0x (vh hs 159 rfl rfl) ((hr 0 rfl).trans rfl) (vh hs 162 rfl rfl) hx52) <| Sd (lo [163] [0] rfl fun S hs hr => Z1f 0 rfl rfl Zq (vh hs 163 rfl rfl) ((hr 0 rfl).trans rfl) (Z0e hx52).2) <| SMw rfl <| Zg rfl <| Sd (lo [165, 166] [0] rfl fun S hs hr => Z1r 0 rfl rfl Z0x (vh hs 165 rfl rfl) ((hr 0 rfl).trans rfl) (vh hs 166 rfl rfl) hx53) <| Sd (lo [167] [0] rfl fun S hs hr => Z1f 0 rfl rfl Zq (vh hs 167 rfl rfl) ((hr 0 rfl).trans rfl) (Z0e hx53).2) <| Sd (lo [158, 164, 168] [] rfl fun S hs hr => Z5f hx54 rfl rfl (vh hs 158 rfl rfl) (vh hs 164 rfl rfl) (vh hs 168 rfl rfl)) <| Sd (lo [169] [] rfl fun S hs hr => Zl rfl rfl (vh hs 169 rfl rfl) (vk rfl)) <| Sd (lo [170] [] rfl fun S hs hr => Z0s rfl rfl (vh hs 170 rfl rfl)) <| Sn <| Cq rfl h (fun h => ?_) (fun h => ?_)
      ·refine Rg <| Md rfl <| Ac (Z02 rfl rfl (vt rfl) (vk rfl)) rfl <| As rfl <| Nl ?_
       exact ⟨(_, _, _), Nat.lt_succ_self _, ⟨trivial, h⟩, FX rfl⟩
      ·refine Rg <| Md rfl <| As rfl <| Nl ?_
       exact ⟨(_, _, _), Nat.lt_succ_self _, ⟨trivial, h⟩, FX rfl⟩
     ·refine xt <| SR <| Md rfl <| Md rfl <| Ac (Z0i rfl rfl (vt rfl) (vt rfl)) rfl <| As rfl <| Nl ?_
      refine JN (d := []) (ν := (List Int)) (fun l55 => (Zlo a3 s48 q43 R_slices_symMergeCmpFunc_int x6 m4 b5 l55 = some r, [(0, Zj v2), (1, rd (Z0 .i64) a3), (3, rd (Z0 .i64) b5), (4, fn2 Tryz.prog (Z0 .i64) (Z0 .i64) (Z0 .i64) x6), (18, rd (Z0 .i64) (IntKind.i64.wrap (q43.toNat : Int))), (20, rd (Z0 .i64) s48), (24, rd (Z0 .i64) (IntKind.i64.wrap ((IntKind.i64.wrap ((IntKind.i64.wrap (q43.toNat : Int)) + m4)) - s48)))], [(0, Zh v2 3 (Z0 .i64) l55)])) ?hx7 ?hy7
      case hy7 =>
       intro l55 h
       dsimp only at h ⊢
       unfold Zlo at h
       refine JN (d := []) (ν := (List Int)) (fun l56 => (Zo6 q43 m4 s48 b5 R_slices_symMergeCmpFunc_int x6 l56 = some r, [(0, Zj v2), (3, rd (Z0 .i64) b5), (4, fn2 Tryz.prog (Z0 .i64) (Z0 .i64) (Z0 .i64) x6), (18, rd (Z0 .i64) (IntKind.i64.wrap (q43.toNat : Int))), (24, rd (Z0 .i64) (IntKind.i64.wrap ((IntKind.i64.wrap ((IntKind.i64.wrap (q43.toNat : Int)) + m4)) - s48)))], [(0, Zh v2 3 (Z0 .i64) l56)])) ?hx8 ?hy8
       case hy8 =>
        intro l56 h
        dsimp only at h ⊢
        unfold Zo6 at h
        refine SR <| Md rfl <| Md rfl <| Ac (Zl rfl rfl (vt rfl) (vt rfl)) rfl <| Md rfl <| Gd rfl (fun hq => Zk (A := rd (Z0 .i64) (IntKind.i64.wrap ((IntKind.i64.wrap ((IntKind.i64.wrap (q43.toNat : Int)) + m4)) - s48))) rfl rfl (vt rfl)) <| Gd rfl (fun hq => Zk (A := rd (Z0 .i64) b5) rfl rfl (vt rfl)) <| Gd rfl (fun hq => Zl rfl rfl (Z6 rfl hq) (Z6 rfl hq)) <| Ac (Z0o rfl rfl (vt rfl) (vt rfl)) rfl <| Nl <| Cq rfl h (fun h => ?_) (fun h => ?_)
        ·obtain ⟨l57, hl57, h⟩ := Za h
         refine Rg <| Mw rfl <| Md rfl <| Md rfl <| Md rfl <| Ac (Zk (A := fn2 Tryz.prog (Z0 .i64) (Z0 .i64) (Z0 .i64) x6) rfl rfl (vt rfl)) rfl <| Cv rfl (Z1o 0 (xs := [.tmp 214, .tmp 215, .tmp 216, .tmp 217, .tmp 218]) (hR_slices_symMergeCmpFunc_int _ _ _ _ _ _ _ hl57) Zoj rfl rfl ⟨vt rfl, vt rfl, vt rfl, vt rfl, vt rfl, trivial⟩ rfl) fun _u => Nl ?_
         cases h; exact Z2q (i := 0) Tryz.results302 rfl rfl
        ·refine sk ?_
         cases h; exact Z2q (i := 0) Tryz.results302 rfl rfl
       case hx8 =>
        refine SR <| Md rfl <| Md rfl <| Ac (Zl rfl rfl (vt rfl) (vt rfl)) rfl <| Md rfl <| Gd rfl (fun hq => Zk (A := rd (Z0 .i64) s48) rfl rfl (vt rfl)) <| Gd rfl (fun hq => Zk (A := rd (Z0 .i64) (IntKind.i64.wrap (q43.toNat : Int))) rfl rfl (vt rfl)) <| Gd rfl (fun hq => Zl rfl rfl (Z6 rfl hq) (Z6 rfl hq)) <| Ac (Z0o rfl rfl (vt rfl) (vt rfl)) rfl <| Nl <| Cq rfl h (fun h => ?_) (fun h => ?_)
        ·obtain ⟨l58, hl58, h⟩ := Za h
         refine Rg <| Mw rfl <| Md rfl <| Md rfl <| Md rfl <| Ac (Zk (A := fn2 Tryz.prog (Z0 .i64) (Z0 .i64) (Z0 .i64) x6) rfl rfl (vt rfl)) rfl <| Cv rfl (Z1o 0 (xs := [.tmp 200, .tmp 201, .tmp 202, .tmp 203, .tmp 204]) (hR_slices_symMergeCmpFunc_int _ _ _ _ _ _ _ hl58) Zoj rfl rfl ⟨vt rfl, vt rfl, vt rfl, vt rfl, vt rfl, trivial⟩ rfl) fun _u => Nl ?_
         exact ⟨_, h, FX rfl⟩
        ·refine sk ?_
         exact ⟨_, h, FX rfl⟩
      case hx7 =>
       refine SR <| Md rfl <| Md rfl <| Ac (Zl rfl rfl (vt rfl) (vt rfl)) rfl <| Md rfl <| Gd rfl (fun hq => Zk (A := rd (Z0 .i64) m4) rfl rfl (vt rfl)) <| Gd rfl (fun hq => Zk (A := rd (Z0 .i64) (IntKind.i64.wrap ((IntKind.i64.wrap ((IntKind.i64.wrap (q43.toNat : Int)) + m4)) - s48))) rfl rfl (vt rfl)) <| Gd rfl (fun hq => Zl rfl rfl (Z6 rfl hq) (Z6 rfl hq)) <| Ac (Z0o rfl rfl (vt rfl) (vt rfl)) rfl <| Nl <| Cq rfl h (fun h => ?_) (fun h => ?_)
       ·obtain ⟨l59, hl59, h⟩ := Za h
        refine Rg <| Mw rfl <| Md rfl <| Md rfl <| Md rfl <| Ac (Zk (A := fn2 Tryz.prog (Z0 .i64) (Z0 .i64) (Z0 .i64) x6) rfl rfl (vt rfl)) rfl <| Cv rfl (Z1o 0 (xs := [.tmp 186, .tmp 187, .tmp 188, .tmp 189, .tmp 190]) (Yau _ _ _ _ _ _ _ hl59) Yfo rfl rfl ⟨vt rfl, vt rfl, vt rfl, vt rfl, vt rfl, trivial⟩ rfl) fun _u => Nl ?_
        exact ⟨_, h, FX rfl⟩
       ·refine sk ?_
        exact ⟨_, h, FX rfl⟩
   case hx5 =>
    refine SR <| Md rfl <| Md rfl <| Ac (Z3j rfl rfl (vt rfl) (vt rfl)) rfl <| Nl <| Cq rfl h (fun h => ?_) (fun h => ?_)
    ·refine SR <| Md rfl <| Md rfl <| Ac (Z0i rfl rfl (vt rfl) (vt rfl)) rfl <| As rfl <| Nl <| Rg <| Md rfl <| As rfl <| Nl ?_
     exact ⟨(_, _), h, FX rfl⟩
    ·refine SR <| Md rfl <| As rfl <| Nl <| Rg <| Md rfl <| As rfl <| Nl ?_
     exact ⟨(_, _), h, FX rfl⟩
def Zlp : Nat → ((List Int) → Int → Int → Int → (Int → Int → Option Int) → Option (List Int))
 | 0 => (fun _ _ _ _ _ => none)
 | n + 1 => (Zt1 (Zlp n))
theorem Y25 : ∀ n : Nat, (∀ (v2 : Value) (d1 : (List Int)) (a3 : Int) (m4 : Int) (b5 : Int) (x6 : (Int → Int → Option Int)) (r : (List Int)), (Zlp n) d1 a3 m4 b5 x6 = some r → Con Tryz.prog 302 [Zj v2, rd (Z0 .i64) a3, rd (Z0 .i64) m4, rd (Z0 .i64) b5, fn2 Tryz.prog (Z0 .i64) (Z0 .i64) (Z0 .i64) x6] (Zh v2 3 (Z0 .i64) d1) (fun _ : Unit => top) (fun _ => Zh v2 3 (Z0 .i64) r))
 | 0 => (by intros; rename_i h; cases h)
 | n + 1 => by
  have ih := Y25 n
  exact (Yi0 (Zlp n) ih)
def Zrj (d1 : (List Int)) (a3 : Int) (m4 : Int) (b5 : Int) (x6 : (Int → Int → Option Int)) : Option (List Int) := (Zlp Z0w) d1 a3 m4 b5 x6
theorem Zxv : ∀ (v2 : Value) (d1 : (List Int)) (a3 : Int) (m4 : Int) (b5 : Int) (x6 : (Int → Int → Option Int)) (r : (List Int)), Zrj d1 a3 m4 b5 x6 = some r → Con Tryz.prog 302 [Zj v2, rd (Z0 .i64) a3, rd (Z0 .i64) m4, rd (Z0 .i64) b5, fn2 Tryz.prog (Z0 .i64) (Z0 .i64) (Z0 .i64) x6] (Zh v2 3 (Z0 .i64) d1) (fun _ : Unit => top) (fun _ => Zh v2 3 (Z0 .i64) r) := Y25 Z0w
def Zou (n3 : Int) (b17 : Int) (x4 : (Int → Int → Option Int)) (go2 : (List Int) → Int → Option (List Int)) : Nat → (List Int) → Int → Int → Option (List Int)
 | 0, _, _, _ => none
 | m25 + 1, l22, a23, b24 => (bif (decide (b24 ≤ n3)) then (Zrj l22 a23 (IntKind.i64.wrap (a23 + b17)) b24 x4).bind fun l26 => (Zou n3 b17 x4 go2 m25) l26 b24 (IntKind.i64.wrap (b24 + (IntKind.i64.wrap (2 * b17)))) else (bif (decide ((IntKind.i64.wrap (a23 + b17)) < n3)) then (Zrj l22 a23 (IntKind.i64.wrap (a23 + b17)) n3 x4).bind fun l27 => go2 l27 (IntKind.i64.wrap (b17 * 2)) else go2 l22 (IntKind.i64.wrap (b17 * 2))))
def Zf2 (n3 : Int) (x4 : (Int → Int → Option Int)) : Nat → (List Int) → Int → Option (List Int)
 | 0, _, _ => none
 | m18 + 1, l16, b17 => (bif (decide (b17 < n3)) then Zou n3 b17 x4 (Zf2 n3 x4 m18) (((n3 : Int) - (IntKind.i64.wrap (2 * b17))).toNat + 2) l16 0 (IntKind.i64.wrap (2 * b17)) else some l16)
def Zko (n3 : Int) (x4 : (Int → Int → Option Int)) : Nat → (List Int) → Int → Int → Option (List Int)
 | 0, _, _, _ => none
 | m11 + 1, l8, a9, b10 => (bif (decide (b10 ≤ n3)) then (Zf8 l8 a9 b10 x4).bind fun l12 => (Zko n3 x4 m11) l12 b10 (IntKind.i64.wrap (b10 + 20)) else (Zf8 l8 a9 n3 x4).bind fun l13 => Zf2 n3 x4 (((n3 : Int) - 20).toNat + 1) l13 20)
def Znq (d1 : (List Int)) (n3 : Int) (x4 : (Int → Int → Option Int)) : Option (List Int) :=
 Zko n3 x4 (((n3 : Int) - 20).toNat + 2) d1 0 20
theorem Yaz (v2 : Value) (d1 : (List Int)) (n3 : Int) (x4 : (Int → Int → Option Int)) (r : (List Int)) (h : Znq d1 n3 x4 = some r) : Con Tryz.prog 258 [Zj v2, rd (Z0 .i64) n3, fn2 Tryz.prog (Z0 .i64) (Z0 .i64) (Z0 .i64) x4] (Zh v2 3 (Z0 .i64) d1) (fun _ : Unit => top) (fun _ => Zh v2 3 (Z0 .i64) r) := by
 refine Con.intro Tryz.func258 rfl Tryz.ntmps258 rfl fun w H X => ?_
 unfold Znq at h
 refine SR <| Ak rfl <| Nl <| SR <| Md rfl <| Ak rfl <| As rfl <| Nl <| sq <| bk <| LG (d := []) (ν := Nat × (List Int) × Int × Int) (fun (m11, l8, a9, b10) => (True ∧ Zko n3 x4 m11 l8 a9 b10 = some r, m11, [(0, Zj v2), (1, rd (Z0 .i64) n3), (2, fn2 Tryz.prog (Z0 .i64) (Z0 .i64) (Z0 .i64) x4), (6, rd (Z0 .i64) 20), (7, rd (Z0 .i64) a9), (8, rd (Z0 .i64) b10)], [(0, Zh v2 3 (Z0 .i64) l8)])) ((((n3 : Int) - 20).toNat + 2), d1, 0, 20) ⟨trivial, h⟩ (FX rfl) ?_
 rintro ⟨m11, l8, a9, b10⟩ ⟨hsf1, h⟩
 dsimp only at h ⊢
 cases m11 with
 | zero => cases h
 | succ m11 =>
  unfold Zko at h
  refine sq <| SR <| Md rfl <| Md rfl <| Ac (Z64 rfl rfl (vt rfl) (vt rfl)) rfl <| Nl <| Cq rfl h (fun h => ?_) (fun h => ?_)
  ·refine sk <| bk <| sq ?_
   obtain ⟨l12, hl12, h⟩ := Za h
   refine Rg <| Mw rfl <| Md rfl <| Md rfl <| Ac (Zk (A := fn2 Tryz.prog (Z0 .i64) (Z0 .i64) (Z0 .i64) x4) rfl rfl (vt rfl)) rfl <| Cv rfl (Z1o 0 (xs := [.tmp 14, .tmp 15, .tmp 16, .tmp 17]) (Zx6 _ _ _ _ _ _ hl12) Zv0 rfl rfl ⟨vt rfl, vt rfl, vt rfl, vt rfl, trivial⟩ rfl) fun _u => Nl <| SR <| Md rfl <| As rfl <| Nl <| Rg <| Md rfl <| Md rfl <| Ac (Z02 rfl rfl (vt rfl) (vt rfl)) rfl <| As rfl <| Nl ?_
   exact ⟨(_, _, _, _), Nat.lt_succ_self _, ⟨trivial, h⟩, FX rfl⟩
  ·refine xt <| sq ?_
   obtain ⟨l13, hl13, h⟩ := Za h
   refine Rg <| Mw rfl <| Md rfl <| Md rfl <| Ac (Zk (A := fn2 Tryz.prog (Z0 .i64) (Z0 .i64) (Z0 .i64) x4) rfl rfl (vt rfl)) rfl <| Cv rfl (Z1o 0 (xs := [.tmp 23, .tmp 24, .tmp 25, .tmp 26]) (Zx6 _ _ _ _ _ _ hl13) Zv0 rfl rfl ⟨vt rfl, vt rfl, vt rfl, vt rfl, trivial⟩ rfl) fun _u => Nl <| bk <| LG (d := []) (ν := Nat × (List Int) × Int) (fun (m18, l16, b17) => (True ∧ Zf2 n3 x4 m18 l16 b17 = some r, m18, [(0, Zj v2), (1, rd (Z0 .i64) n3), (2, fn2 Tryz.prog (Z0 .i64) (Z0 .i64) (Z0 .i64) x4), (6, rd (Z0 .i64) b17)], [(0, Zh v2 3 (Z0 .i64) l16)])) ((((n3 : Int) - 20).toNat + 1), l13, 20) ⟨trivial, h⟩ (FX rfl) ?_
   rintro ⟨m18, l16, b17⟩ ⟨hsf2, h⟩
   dsimp only at h ⊢
   cases m18 with
   | zero => cases h
   | succ m18 =>
    unfold Zf2 at h
    refine sq <| SR <| Md rfl <| Md rfl <| Ac (Zl rfl rfl (vt rfl) (vt rfl)) rfl <| Nl <| Cq rfl h (fun h => ?_) (fun h => ?_)
    ·refine sk <| bk <| SR <| Md rfl <| Ac (Z7i rfl rfl (vk rfl) (vt rfl)) rfl <| Ak rfl <| As rfl <| Nl <| sq <| bk <| LG (d := []) (ν := Nat × (List Int) × Int × Int) (fun (m25, l22, a23, b24) => (True ∧ Zou n3 b17 x4 (Zf2 n3 x4 m18) m25 l22 a23 b24 = some r, m25, [(0, Zj v2), (1, rd (Z0 .i64) n3), (2, fn2 Tryz.prog (Z0 .i64) (Z0 .i64) (Z0 .i64) x4), (6, rd (Z0 .i64) b17), (7, rd (Z0 .i64) a23), (8, rd (Z0 .i64) b24)], [(0, Zh v2 3 (Z0 .i64) l22)])) ((((n3 : Int) - (IntKind.i64.wrap (2 * b17))).toNat + 2), l16, 0, (IntKind.i64.wrap (2 * b17))) ⟨trivial, h⟩ (FX rfl) ?_
     rintro ⟨m25, l22, a23, b24⟩ ⟨hsf3, h⟩
     dsimp only at h ⊢
     cases m25 with
     | zero => cases h
     | succ m25 =>
      unfold Zou at h
      refine sq <| SR <| Md rfl <| Md rfl <| Ac (Z64 rfl rfl (vt rfl) (vt rfl)) rfl <| Nl <| Cq rfl h (fun h => ?_) (fun h => ?_)
      ·refine sk <| bk <| sq ?_
       obtain ⟨l26, hl26, h⟩ := Za h
       refine Rg <| Mw rfl <| Md rfl <| Md rfl <| Md rfl <| Ac (Z02 rfl rfl (vt rfl) (vt rfl)) rfl <| Md rfl <| Ac (Zk (A := fn2 Tryz.prog (Z0 .i64) (Z0 .i64) (Z0 .i64) x4) rfl rfl (vt rfl)) rfl <| Cv rfl (Z1o 0 (xs := [.tmp 36, .tmp 37, .tmp 40, .tmp 41, .tmp 42]) (Zxv _ _ _ _ _ _ _ hl26) Zoj rfl rfl ⟨vt rfl, vt rfl, vt rfl, vt rfl, vt rfl, trivial⟩ rfl) fun _u => Nl <| SR <| Md rfl <| As rfl <| Nl <| Rg <| Md rfl <| Md rfl <| Ac (Z7i rfl rfl (vk rfl) (vt rfl)) rfl <| Ac (Z02 rfl rfl (vt rfl) (vt rfl)) rfl <| As rfl <| Nl ?_
       exact ⟨(_, _, _, _), Nat.lt_succ_self _, ⟨trivial, h⟩, FX rfl⟩
      ·refine xt <| sq <| SR <| Md rfl <| Md rfl <| Ac (Z02 rfl rfl (vt rfl) (vt rfl)) rfl <| As rfl <| Nl <| SR <| Md rfl <| Md rfl <| Ac (Zl rfl rfl (vt rfl) (vt rfl)) rfl <| Nl <| Cq rfl h (fun h => ?_) (fun h => ?_)
       ·obtain ⟨l27, hl27, h⟩ := Za h
        refine Rg <| Mw rfl <| Md rfl <| Md rfl <| Md rfl <| Ac (Zk (A := fn2 Tryz.prog (Z0 .i64) (Z0 .i64) (Z0 .i64) x4) rfl rfl (vt rfl)) rfl <| Cv rfl (Z1o 0 (xs := [.tmp 55, .tmp 56, .tmp 57, .tmp 58, .tmp 59]) (Zxv _ _ _ _ _ _ _ hl27) Zoj rfl rfl ⟨vt rfl, vt rfl, vt rfl, vt rfl, vt rfl, trivial⟩ rfl) fun _u => Nl <| Rg <| Md rfl <| Ac (Z7i rfl rfl (vt rfl) (vk rfl)) rfl <| As rfl <| Nl ?_
        exact ⟨(_, _, _), Nat.lt_succ_self _, ⟨trivial, h⟩, FX rfl⟩
       ·refine sk <| Rg <| Md rfl <| Ac (Z7i rfl rfl (vt rfl) (vk rfl)) rfl <| As rfl <| Nl ?_
        exact ⟨(_, _, _), Nat.lt_succ_self _, ⟨trivial, h⟩, FX rfl⟩
    ·refine xt ?_
     cases h; exact Z2q (i := 0) Tryz.results258 rfl rfl
def Ziy (x1 : (List Int)) (x3 : (Int → Int → Option Int)) : Option (List Int) :=
 (Znq x1 (x1.length : Int) x3).bind fun l4 => some l4
theorem Yek (v2 : Value) (x1 : (List Int)) (x3 : (Int → Int → Option Int)) (r : (List Int)) (h : Ziy x1 x3 = some r) : Con Tryz.prog 200 [Zj v2, fn2 Tryz.prog (Z0 .i64) (Z0 .i64) (Z0 .i64) x3] (Zh v2 3 (Z0 .i64) x1) (fun _ : Unit => top) (fun _ => Zh v2 3 (Z0 .i64) r) := by
 refine Con.intro Tryz.func200 rfl Tryz.ntmps200 rfl fun w H X => ?_
 unfold Ziy at h
 obtain ⟨l4, hl4, h⟩ := Za h
 refine Rg <| Mw rfl <| Mw rfl <| Ac (Z5s 0 rfl rfl Z0x (vt rfl) rfl) rfl <| Ac (Zk (A := fn2 Tryz.prog (Z0 .i64) (Z0 .i64) (Z0 .i64) x3) rfl rfl (vt rfl)) rfl <| Cv rfl (Z1o 0 (xs := [.tmp 4, .tmp 6, .tmp 7]) (Yaz _ _ _ _ _ hl4) Y8u rfl rfl ⟨vt rfl, vt rfl, vt rfl, trivial⟩ rfl) fun _u => Nl ?_
 cases h; exact Z2q (i := 0) Tryz.results200 rfl rfl
end Go.Proofs.YtknpgojdkobgjaaGreat.W
set_option maxRecDepth 4000
namespace Go.Proofs.YtknpgojdkobgjaaGreat.W
open Go Go.Wb
theorem Y7q : Ent Tryz.prog 201 := Ent.mk Tryz.func201 rfl rfl
theorem Yfv : Ent Tryz.prog 200 := Ent.mk Tryz.func200 rfl rfl
theorem Zno : Ent Tryz.prog 269 := Ent.mk Tryz.func269 rfl rfl
theorem Ybr : Ent Tryz.prog 344 := Ent.mk Tryz.func344 rfl rfl
theorem Ygo : Ent Tryz.prog 336 := Ent.mk Tryz.func336 rfl rfl
theorem Zzb : Ent Tryz.prog 299 := Ent.mk Tryz.func299 rfl rfl
theorem Ybg : Ent Tryz.prog 312 := Ent.mk Tryz.func312 rfl rfl
theorem Zrq : Ent Tryz.prog 254 := Ent.mk Tryz.func254 rfl rfl
theorem e73 : Ent Tryz.prog 73 := Ent.mk Tryz.func73 rfl rfl
theorem Zyx : Ent Tryz.prog 275 := Ent.mk Tryz.func275 rfl rfl
def Zap (t1 : (List Flow)) : Nat → Nat → (List Int) → Option (List Int)
 | 0, i9, l7 => (Ziy l7 (fun x z => Zfc x z t1)).bind fun l11 => some l11
 | m10 + 1, i9, l7 => (Z0y l7 [(i9 : Int)]).bind fun l12 => (Zap t1 m10) (i9 + 1) l12
def Zh6 (t1 : (List Flow)) : Option (List Int) :=
 (omk (t1.length : Int)).bind fun u3 => Zap t1 ((t1.length : Int) : Int).toNat 0 []
theorem Ycm : Q1 Tryz.prog 135 (rd (Z3 Z0k)) (rd (Z3 (Z0 .i64))) Zh6 := fun t1 r h => I0 Tryz.func135 rfl Tryz.ntmps135 rfl fun w H => by
 unfold Zh6 at h
 refine SR <| Cv rfl (Zn 2 rfl rfl (vt rfl)) fun g2 => Ac (Z04 (A := rd (Z3 (Z0 .i64)) []) rfl rfl Z26) rfl <| Nl <| sq ?_
 obtain ⟨u3, hu3, h⟩ := Za h
 refine Rg <| Ld Z5n 2 rfl <| Ac (Z09 rfl rfl Z4r (vt rfl)) rfl <| Cv rfl (Y3x 1001 hu3 rfl rfl Zks zr3 (vt rfl)) fun v4 => Aw rfl <| Nl <| sq <| SR <| Ld Z5n 2 rfl <| Ac (Z09 rfl rfl Z4r (vt rfl)) rfl <| Mk rfl <| Nl <| bk <| LG (d := []) (ν := Nat × Nat × (List Int) × Value) (fun (m10, i9, l7, v8) => (Cnt (t1.length : Int) i9 m10 ∧ Zap t1 m10 i9 l7 = some r, m10, [(1, Ze g2 (Lens.id (Z3 Z0k))), (3, Zj v8), (9, rd (Z0 .i64) (t1.length : Int)), (10, rd (Z0 .i64) (i9 : Int))], [(2, Zf g2 22 (Z3 Z0k) t1), (1001, Zh v8 3 (Z0 .i64) l7)])) (((t1.length : Int) : Int).toNat, 0, [], v4) ⟨Cnt.start _, h⟩ (FX rfl) ?_
 rintro ⟨m10, i9, l7, v8⟩ ⟨hsf1, h⟩
 dsimp only at hsf1 h ⊢
 cases m10 with
 | zero =>
  unfold Zap at h
  refine SR <| Ac (Zl rfl rfl (vt rfl) (vt rfl)) rfl <| Nl <| sq <| Cn rfl (fun hc => absurd (of_decide_eq_true hc) hsf1.zero) (fun hc => ?_)
  refine xt <| sq <| AW.freezeB 1 2 rfl rfl rfl ?_
  obtain ⟨l11, hl11, h⟩ := Za h
  refine Rg <| Mw rfl <| Ac (Y73 (cs := [.tmp 1]) (CAs := [rp (Z3 Z0k) t1]) (fun x z => Zfc x z t1) rfl rfl Y7q ⟨vt rfl, trivial⟩ (fun x z y h => Y43 _ _ _ y h)) rfl <| Cv rfl (Z1o 1001 (xs := [.tmp 18, .tmp 19]) (Yek _ _ _ _ hl11) Yfv rfl rfl ⟨vt rfl, vt rfl, trivial⟩ rfl) fun _u => Nl <| SR <| Mw rfl <| Aw rfl <| Nl <| AW.freezes [2, 3, 18, 21] 1001 rfl ⟨rfl, rfl, rfl, rfl, trivial⟩ rfl <| rt ?_
  cases h; exact Zc Tryz.results135 rfl (Z4 rfl)
 | succ m10 =>
  unfold Zap at h
  refine SR <| Ac (Zl rfl rfl (vt rfl) (vt rfl)) rfl <| Nl <| sq <| Cn rfl (fun hc => ?_) (fun hc => absurd hsf1.succ (of_decide_eq_false hc))
  have hlti9 := of_decide_eq_true hc
  refine sk <| sq <| bk <| SR <| Md rfl <| As rfl <| Nl ?_
  obtain ⟨l12, hl12, h⟩ := Za h
  refine Rg <| Mw rfl <| Md rfl <| Ac (osl Z0x zr3 rfl (vt rfl)) rfl <| Cv rfl (Z29 1001 hl12 rfl rfl Zks (vt rfl) rfl (vt rfl)) fun v13 => Aw rfl <| Nl <| Rg <| Ac (Z21 (t := 9) rfl rfl (vt rfl) (vk rfl) (vt rfl) hlti9) rfl <| Md rfl <| Nl ?_
  exact ⟨(_, _, _, _), Nat.lt_succ_self _, ⟨hsf1.next, h⟩, FX rfl⟩
def Z7a (x1 : Int) : Option Bool :=
 some ((decide (x1 ≥ 0)) && (decide (x1 < 24)))
theorem Zmh : Q1 Tryz.prog 269 (rd (Z0 .i64)) (rd Z7) Z7a := fun x1 r h => I0 Tryz.func269 rfl Tryz.ntmps269 rfl fun w H => by
 unfold Z7a at h
 refine SR <| Ab rfl <| Nl <| SR <| Md rfl <| Ac (Z57 rfl rfl (vt rfl) (vk rfl)) rfl <| Md rfl <| Gd rfl (fun hq => Zk (A := rd (Z0 .i64) x1) rfl rfl (vt rfl)) <| Gd rfl (fun hq => Zl rfl rfl (Z6 rfl hq) (vk rfl)) <| Ac (Z0o rfl rfl (vt rfl) (vt rfl)) rfl <| As rfl <| Nl <| rt ?_
 cases h; exact Zc Tryz.results269 rfl (Z4 rfl)
def Zh3 : Option Yji :=
 some (Vector.set (Vector.set (Vector.set (Vector.set (Vector.set (Vector.set (Vector.set (Vector.set (Vector.set (Vector.set (Vector.set (Vector.set (Vector.set (Vector.set (Vector.set (Vector.set (Vector.set (Vector.set (Vector.set (Vector.set (Vector.set (Vector.set (Vector.set (Vector.set (Vector.replicate 24 Zk4) 0 (⟨{ data := #[105, 110, 95, 112, 111, 114, 116] }, 0, 32, false⟩ : field_row) (by decide)) 1 (⟨{ data := #[109, 101, 116, 97, 100, 97, 116, 97] }, 2, 64, true⟩ : field_row) (by decide)) 2 (⟨{ data := #[101, 116, 104, 95, 100, 115, 116] }, 3, 48, true⟩ : field_row) (by decide)) 3 (⟨{ data := #[101, 116, 104, 95, 115, 114, 99] }, 4, 48, true⟩ : field_row) (by decide)) 4 (⟨{ data := #[101, 116, 104, 95, 116, 121, 112, 101] }, 5, 16, false⟩ : field_row) (by decide)) 5 (⟨{ data := #[118, 108, 97, 110, 95, 118, 105, 100] }, 6, 13, true⟩ : field_row) (by decide)) 6 (⟨{ data := #[118, 108, 97, 110, 95, 112, 99, 112] }, 7, 3, false⟩ : field_row) (by decide)) 7 (⟨{ data := #[105, 112, 95, 100, 115, 99, 112] }, 8, 6, false⟩ : field_row) (by decide)) 8 (⟨{ data := #[105, 112, 95, 101, 99, 110] }, 9, 2, false⟩ : field_row) (by decide)) 9 (⟨{ data := #[105, 112, 95, 112, 114, 111, 116, 111] }, 10, 8, false⟩ : field_row) (by decide)) 10 (⟨{ data := #[105, 112, 118, 52, 95, 115, 114, 99] }, 11, 32, true⟩ : field_row) (by decide)) 11 (⟨{ data := #[105, 112, 118, 52, 95, 100, 115, 116] }, 12, 32, true⟩ : field_row) (by decide)) 12 (⟨{ data := #[116, 99, 112, 95, 115, 114, 99] }, 13, 16, false⟩ : field_row) (by decide)) 13 (⟨{ data := #[116, 99, 112, 95, 100, 115, 116] }, 14, 16, false⟩ : field_row) (by decide)) 14 (⟨{ data := #[117, 100, 112, 95, 115, 114, 99] }, 15, 16, false⟩ : field_row) (by decide)) 15 (⟨{ data := #[117, 100, 112, 95, 100, 115, 116] }, 16, 16, false⟩ : field_row) (by decide)) 16 (⟨{ data := #[105, 99, 109, 112, 118, 52, 95, 116, 121, 112, 101] }, 19, 8, false⟩ : field_row) (by decide)) 17 (⟨{ data := #[105, 99, 109, 112, 118, 52, 95, 99, 111, 100, 101] }, 20, 8, false⟩ : field_row) (by decide)) 18 (⟨{ data := #[97, 114, 112, 95, 111, 112] }, 21, 16, false⟩ : field_row) (by decide)) 19 (⟨{ data := #[97, 114, 112, 95, 115, 112, 97] }, 22, 32, true⟩ : field_row) (by decide)) 20 (⟨{ data := #[97, 114, 112, 95, 116, 112, 97] }, 23, 32, true⟩ : field_row) (by decide)) 21 (⟨{ data := #[105, 112, 118, 54, 95, 115, 114, 99] }, 26, 128, true⟩ : field_row) (by decide)) 22 (⟨{ data := #[105, 112, 118, 54, 95, 100, 115, 116] }, 27, 128, true⟩ : field_row) (by decide)) 23 (⟨{ data := #[109, 112, 108, 115, 95, 108, 97, 98, 101, 108] }, 34, 20, false⟩ : field_row) (by decide))
theorem Y8c : Q0 Tryz.prog 344 (rd (Z1 24 Z1q)) Zh3 := fun r h => I0 Tryz.func344 rfl Tryz.ntmps344 rfl fun w H => by
 unfold Zh3 at h
 refine SR <| Cv rfl (Zo 1 rfl rfl Y0a) fun g1 => Nl <| SR <| Ac (Z13 (ps := [(0, .const (Value.string { data := #[105, 110, 95, 112, 111, 114, 116] })), (1, .const (Value.int IntKind.i64 0)), (2, .const (Value.int IntKind.i64 32)), (3, .const (Value.bool false))]) (x := (⟨{ data := #[105, 110, 95, 112, 111, 114, 116] }, 0, 32, false⟩ : field_row)) rfl rfl rfl (by kernel_rfl) Z2i ⟨_, _, Z2v, _, by kernel_rfl, (vs (by decide)), _, _, lfield_row_1, _, by kernel_rfl, (vk rfl), _, _, Z2n, _, by kernel_rfl, (vk rfl), _, _, Z2w, _, by kernel_rfl, vb, rfl⟩) rfl <| Ac (Z13 (ps := [(0, .const (Value.string { data := #[109, 101, 116, 97, 100, 97, 116, 97] })), (1, .const (Value.int IntKind.i64 2)), (2, .const (Value.int IntKind.i64 64)), (3, .const (Value.bool true))]) (x := (⟨{ data := #[109, 101, 116, 97, 100, 97, 116, 97] }, 2, 64, true⟩ : field_row)) rfl rfl rfl (by kernel_rfl) Z2i ⟨_, _, Z2v, _, by kernel_rfl, (vs (by decide)), _, _, lfield_row_1, _, by kernel_rfl, (vk rfl), _, _, Z2n, _, by kernel_rfl, (vk rfl), _, _, Z2w, _, by kernel_rfl, vb, rfl⟩) rfl <| Ac (Z13 (ps := [(0, .const (Value.string { data := #[101, 116, 104, 95, 100, 115, 116] })), (1, .const (Value.int IntKind.i64 3)), (2, .const (Value.int IntKind.i64 48)), (3, .const (Value.bool true))]) (x := (⟨{ data := #[101, 116, 104, 95, 100, 115, 116] }, 3, 48, true⟩ : field_row)) rfl rfl rfl (by kernel_rfl) Z2i ⟨_, _, Z2v, _, by kernel_rfl, (vs (by decide)), _, _, lfield_row_1, _, by kernel_rfl, (vk rfl), _, _, Z2n, _, by kernel_rfl, (vk rfl), _, _, Z2w, _, by kernel_rfl, vb, rfl⟩) rfl <| Ac (Z13 (ps := [(0, .const (Value.string { data := #[101, 116, 104, 95, 115, 114, 99] })), (1, .const (Value.int IntKind.i64 4)), (2, .const (Value.int IntKind.i64 48)), (3, .const (Value.bool true))]) (x := (⟨{ data := #[101, 116, 104, 95, 115, 114, 99] }, 4, 48, true⟩ : field_row)) rfl rfl rfl (by kernel_rfl) Z2i ⟨_, _, Z2v, _, by kernel_rfl, (vs (by decide)), _, _, lfield_row_1, _, by kernel_rfl, (vk rfl), _, _, Z2n, _, by kernel_rfl, (vk rfl), _, _, Z2w, _, by kernel_rfl, vb, rfl⟩) rfl <| Ac (Z13 (ps := [(0, .const (Value.string { data := #[101, 116, 104, 95, 116, 121, 112, 101] })), (1, .const (Value.int IntKind.i64 5)), (2, .const (Value.int IntKind.i64 16)), (3, .const (Value.bool false))]) (x := (⟨{ data := #[101, 116, 104, 95, 116, 121, 112, 101] }, 5, 16, false⟩ : field_row)) rfl rfl rfl (by kernel_rfl) Z2i ⟨_, _, Z2v, _, by kernel_rfl, (vs (by decide)), _, _, lfield_row_1, _, by kernel_rfl, (vk rfl), _, _, Z2n, _, by kernel_rfl, (vk rfl), _, _, Z2w, _, by kernel_rfl, vb, rfl⟩) rfl <| Ac (Z13 (ps := [(0, .const (Value.string { data := #[118, 108, 97, 110, 95, 118, 105, 100] })), (1, .const (Value.int IntKind.i64 6)), (2, .const (Value.int IntKind.i64 13)), (3, .const (Value.bool true))]) (x := (⟨{ data := #[118, 108, 97, 110, 95, 118, 105, 100] }, 6, 13, true⟩ : field_row)) rfl rfl rfl (by kernel_rfl) Z2i ⟨_, _, Z2v, _, by kernel_rfl, (vs (by decide)), _, _, lfield_row_1, _, by kernel_rfl, (vk rfl), _, _, Z2n, _, by kernel_rfl, (vk rfl), _, _, Z2w, _, by kernel_rfl, vb, rfl⟩) rfl ?_
 refine Ac (Z13 (ps := [(0, .const (Value.string { data := #[118, 108, 97, 110, 95, 112, 99, 112] })), (1, .const (Value.int IntKind.i64 7)), (2, .const (Value.int IntKind.i64 3)), (3, .const (Value.bool false))]) (x := (⟨{ data := #[118, 108, 97, 110, 95, 112, 99, 112] }, 7, 3, false⟩ : field_row)) rfl rfl rfl (by kernel_rfl) Z2i ⟨_, _, Z2v, _, by kernel_rfl, (vs (by decide)), _, _, lfield_row_1, _, by kernel_rfl, (vk rfl), _, _, Z2n, _, by kernel_rfl, (vk rfl), _, _, Z2w, _, by kernel_rfl, vb, rfl⟩) rfl <| Ac (Z13 (ps := [(0, .const (Value.string { data := #[105, 112, 95, 100, 115, 99, 112] })), (1, .const (Value.int IntKind.i64 8)), (2, .const (Value.int IntKind.i64 6)), (3, .const (Value.bool false))]) (x := (⟨{ data := #[105, 112, 95, 100, 115, 99, 112] }, 8, 6, false⟩ : field_row)) rfl rfl rfl (by kernel_rfl) Z2i ⟨_, _, Z2v, _, by kernel_rfl, (vs (by decide)), _, _, lfield_row_1, _, by kernel_rfl, (vk rfl), _, _, Z2n, _, by kernel_rfl, (vk rfl), _, _, Z2w, _, by kernel_rfl, vb, rfl⟩) rfl <| Ac (Z13 (ps := [(0, .const (Value.string { data := #[105, 112, 95, 101, 99, 110] })), (1, .const (Value.int IntKind.i64 9)), (2, .const (Value.int IntKind.i64 2)), (3, .const (Value.bool false))]) (x := (⟨{ data := #[105, 112, 95, 101, 99, 110] }, 9, 2, false⟩ : field_row)) rfl rfl rfl (by kernel_rfl) Z2i ⟨_, _, Z2v, _, by kernel_rfl, (vs (by decide)), _, _, lfield_row_1, _, by kernel_rfl, (vk rfl), _, _, Z2n, _, by kernel_rfl, (vk rfl), _, _, Z2w, _, by kernel_rfl, vb, rfl⟩) rfl <| Ac (Z13 (ps := [(0, .const (Value.string { data := #[105, 112, 95, 112, 114, 111, 116, 111] })), (1, .const (Value.int IntKind.i64 10)), (2, .const (Value.int IntKind.i64 8)), (3, .const (Value.bool false))]) (x := (⟨{ data := #[105, 112, 95, 112, 114, 111, 116, 111] }, 10, 8, false⟩ : field_row)) rfl rfl rfl (by kernel_rfl) Z2i ⟨_, _, Z2v, _, by kernel_rfl, (vs (by decide)), _, _, lfield_row_1, _, by kernel_rfl, (vk rfl), _, _, Z2n, _, by kernel_rfl, (vk rfl), _, _, Z2w, _, by kernel_rfl, vb, rfl⟩) rfl <| Ac (Z13 (ps := [(0, .const (Value.string { data := #[105, 112, 118, 52, 95, 115, 114, 99] })), (1, .const (Value.int IntKind.i64 11)), (2, .const (Value.int IntKind.i64 32)), (3, .const (Value.bool true))]) (x := (⟨{ data := #[105, 112, 118, 52, 95, 115, 114, 99] }, 11, 32, true⟩ : field_row)) rfl rfl rfl (by kernel_rfl) Z2i ⟨_, _, Z2v, _, by kernel_rfl, (vs (by decide)), _, _, lfield_row_1, _, by kernel_rfl, (vk rfl), _, _, Z2n, _, by kernel_rfl, (vk rfl), _, _, Z2w, _, by kernel_rfl, vb, rfl⟩) rfl <| Ac (Z13 (ps := [(0, .const (Value.string { data := #[105, 112, 118, 52, 95, 100, 115, 116] })), (1, .const (Value.int IntKind.i64 12)), (2, .const (Value.int IntKind.i64 32)), (3, .const (Value.bool true))]) (x := (⟨{ data := #[105, 112, 118, 52, 95, 100, 115, 116] }, 12, 32, true⟩ : field_row)) rfl rfl rfl (by kernel_rfl) Z2i ⟨_, _, Z2v, _, by kernel_rfl, (vs (by decide)), _, _, lfield_row_1, _, by kernel_rfl, (vk rfl), _, _, Z2n, _, by kernel_rfl, (vk rfl), _, _, Z2w, _, by kernel_rfl, vb, rfl⟩) rfl ?_
 refine Ac (Z13 (ps := [(0, .const (Value.string { data := #[116, 99, 112, 95, 115, 114, 99] })), (1, .const (Value.int IntKind.i64 13)), (2, .const (Value.int IntKind.i64 16)), (3, .const (Value.bool false))]) (x := (⟨{ data := #[116, 99, 112, 95, 115, 114, 99] }, 13, 16, false⟩ : field_row)) rfl rfl rfl (by kernel_rfl) Z2i ⟨_, _, Z2v, _, by kernel_rfl, (vs (by decide)), _, _, lfield_row_1, _, by kernel_rfl, (vk rfl), _, _, Z2n, _, by kernel_rfl, (vk rfl), _, _, Z2w, _, by kernel_rfl, vb, rfl⟩) rfl <| Ac (Z13 (ps := [(0, .const (Value.string { data := #[116, 99, 112, 95, 100, 115, 116] })), (1, .const (Value.int IntKind.i64 14)), (2, .const (Value.int IntKind.i64 16)), (3, .const (Value.bool false))]) (x := (⟨{ data := #[116, 99, 112, 95, 100, 115, 116] }, 14, 16, false⟩ : field_row)) rfl rfl rfl (by kernel_rfl) Z2i ⟨_, _, Z2v, _, by kernel_rfl, (vs (by decide)), _, _, lfield_row_1, _, by kernel_rfl, (vk rfl), _, _, Z2n, _, by kernel_rfl, (vk rfl), _, _, Z2w, _, by kernel_rfl, vb, rfl⟩) rfl <| Ac (Z13 (ps := [(0, .const (Value.string { data := #[117, 100, 112, 95, 115, 114, 99] })), (1, .const (Value.int IntKind.i64 15)), (2, .const (Value.int IntKind.i64 16)), (3, .const (Value.bool false))]) (x := (⟨{ data := #[117, 100, 112, 95, 115, 114, 99] }, 15, 16, false⟩ : field_row)) rfl rfl rfl (by kernel_rfl) Z2i ⟨_, _, Z2v, _, by kernel_rfl, (vs (by decide)), _, _, lfield_row_1, _, by kernel_rfl, (vk rfl), _, _, Z2n, _, by kernel_rfl, (vk rfl), _, _, Z2w, _, by kernel_rfl, vb, rfl⟩) rfl <| Ac (Z13 (ps := [(0, .const (Value.string { data := #[117, 100, 112, 95, 100, 115, 116] })), (1, .const (Value.int IntKind.i64 16)), (2, .const (Value.int IntKind.i64 16)), (3, .const (Value.bool false))]) (x := (⟨{ data := #[117, 100, 112, 95, 100, 115, 116] }, 16, 16, false⟩ : field_row)) rfl rfl rfl (by kernel_rfl) Z2i ⟨_, _, Z2v, _, by kernel_rfl, (vs (by decide)), _, _, lfield_row_1, _, by kernel_rfl, (vk rfl), _, _, Z2n, _, by kernel_rfl, (vk rfl), _, _, Z2w, _, by kernel_rfl, vb, rfl⟩) rfl <| Ac (Z13 (ps := [(0, .const (Value.string { data := #[105, 99, 109, 112, 118, 52, 95, 116, 121, 112, 101] })), (1, .const (Value.int IntKind.i64 19)), (2, .const (Value.int IntKind.i64 8)), (3, .const (Value.bool false))]) (x := (⟨{ data := #[105, 99, 109, 112, 118, 52, 95, 116, 121, 112, 101] }, 19, 8, false⟩ : field_row)) rfl rfl rfl (by kernel_rfl) Z2i ⟨_, _, Z2v, _, by kernel_rfl, (vs (by decide)), _, _, lfield_row_1, _, by kernel_rfl, (vk rfl), _, _, Z2n, _, by kernel_rfl, (vk rfl), _, _, Z2w, _, by kernel_rfl, vb, rfl⟩) rfl <| Ac (Z13 (ps := [(0, .const (Value.string { data := #[105, 99, 109, 112, 118, 52, 95, 99, 111, 100, 101] })), (1, .const (Value.int IntKind.i64 20)), (2, .const (Value.int IntKind.i64 8)), (3, .const (Value.bool false))]) (x := (⟨{ data := #[105, 99, 109, 112, 118, 52, 95, 99, 111, 100, 101] }, 20, 8, false⟩ : field_row)) rfl rfl rfl (by kernel_rfl) Z2i ⟨_, _, Z2v, _, by kernel_rfl, (vs (by decide)), _, _, lfield_row_1, _, by kernel_rfl, (vk rfl), _, _, Z2n, _, by kernel_rfl, (vk rfl), _, _, Z2w, _, by kernel_rfl, vb, rfl⟩) rfl ?_
 refine Ac (Z13 (ps := [(0, .const (Value.string { data := #[97, 114, 112, 95, 111, 112] })), (1, .const (Value.int IntKind.i64 21)), (2, .const (Value.int IntKind.i64 16)), (3, .const (Value.bool false))]) (x := (⟨{ data := #[97, 114, 112, 95, 111, 112] }, 21, 16, false⟩ : field_row)) rfl rfl rfl (by kernel_rfl) Z2i ⟨_, _, Z2v, _, by kernel_rfl, (vs (by decide)), _, _, lfield_row_1, _, by kernel_rfl, (vk rfl), _, _, Z2n, _, by kernel_rfl, (vk rfl), _, _, Z2w, _, by kernel_rfl, vb, rfl⟩) rfl <| Ac (Z13 (ps := [(0, .const (Value.string { data := #[97, 114, 112, 95, 115, 112, 97] })), (1, .const (Value.int IntKind.i64 22)), (2, .const (Value.int IntKind.i64 32)), (3, .const (Value.bool true))]) (x := (⟨{ data := #[97, 114, 112, 95, 115, 112, 97] }, 22, 32, true⟩ : field_row)) rfl rfl rfl (by kernel_rfl) Z2i ⟨_, _, Z2v, _, by kernel_rfl, (vs (by decide)), _, _, lfield_row_1, _, by kernel_rfl, (vk rfl), _, _, Z2n, _, by kernel_rfl, (vk rfl), _, _, Z2w, _, by kernel_rfl, vb, rfl⟩) rfl <| Ac (Z13 (ps := [(0, .const (Value.string { data := #[97, 114, 112, 95, 116, 112, 97] })), (1, .const (Value.int IntKind.i64 23)), (2, .const (Value.int IntKind.i64 32)), (3, .const (Value.bool true))]) (x := (⟨{ data := #[97, 114, 112, 95, 116, 112, 97] }, 23, 32, true⟩ : field_row)) rfl rfl rfl (by kernel_rfl) Z2i ⟨_, _, Z2v, _, by kernel_rfl, (vs (by decide)), _, _, lfield_row_1, _, by kernel_rfl, (vk rfl), _, _, Z2n, _, by kernel_rfl, (vk rfl), _, _, Z2w, _, by kernel_rfl, vb, rfl⟩) rfl <| Ac (Z13 (ps := [(0, .const (Value.string { data := #[105, 112, 118, 54, 95, 115, 114, 99] })), (1, .const (Value.int IntKind.i64 26)), (2, .const (Value.int IntKind.i64 128)), (3, .const (Value.bool true))]) (x := (⟨{ data := #[105, 112, 118, 54, 95, 115, 114, 99] }, 26, 128, true⟩ : field_row)) rfl rfl rfl (by kernel_rfl) Z2i ⟨_, _, Z2v, _, by kernel_rfl, (vs (by decide)), _, _, lfield_row_1, _, by kernel_rfl, (vk rfl), _, _, Z2n, _, by kernel_rfl, (vk rfl), _, _, Z2w, _, by kernel_rfl, vb, rfl⟩) rfl <| Ac (Z13 (ps := [(0, .const (Value.string { data := #[105, 112, 118, 54, 95, 100, 115, 116] })), (1, .const (Value.int IntKind.i64 27)), (2, .const (Value.int IntKind.i64 128)), (3, .const (Value.bool true))]) (x := (⟨{ data := #[105, 112, 118, 54, 95, 100, 115, 116] }, 27, 128, true⟩ : field_row)) rfl rfl rfl (by kernel_rfl) Z2i ⟨_, _, Z2v, _, by kernel_rfl, (vs (by decide)), _, _, lfield_row_1, _, by kernel_rfl, (vk rfl), _, _, Z2n, _, by kernel_rfl, (vk rfl), _, _, Z2w, _, by kernel_rfl, vb, rfl⟩) rfl <| Ac (Z13 (ps := [(0, .const (Value.string { data := #[109, 112, 108, 115, 95, 108, 97, 98, 101, 108] })), (1, .const (Value.int IntKind.i64 34)), (2, .const (Value.int IntKind.i64 20)), (3, .const (Value.bool false))]) (x := (⟨{ data := #[109, 112, 108, 115, 95, 108, 97, 98, 101, 108] }, 34, 20, false⟩ : field_row)) rfl rfl rfl (by kernel_rfl) Z2i ⟨_, _, Z2v, _, by kernel_rfl, (vs (by decide)), _, _, lfield_row_1, _, by kernel_rfl, (vk rfl), _, _, Z2n, _, by kernel_rfl, (vk rfl), _, _, Z2w, _, by kernel_rfl, vb, rfl⟩) rfl ?_
 refine Ac (Z13 (ps := [(0, .tmp 1), (1, .tmp 2), (2, .tmp 3), (3, .tmp 4), (4, .tmp 5), (5, .tmp 6), (6, .tmp 7), (7, .tmp 8), (8, .tmp 9), (9, .tmp 10), (10, .tmp 11), (11, .tmp 12), (12, .tmp 13), (13, .tmp 14), (14, .tmp 15), (15, .tmp 16), (16, .tmp 17), (17, .tmp 18), (18, .tmp 19), (19, .tmp 20), (20, .tmp 21), (21, .tmp 22), (22, .tmp 23), (23, .tmp 24)]) (x := (Vector.set (Vector.set (Vector.set (Vector.set (Vector.set (Vector.set (Vector.set (Vector.set (Vector.set (Vector.set (Vector.set (Vector.set (Vector.set (Vector.set (Vector.set (Vector.set (Vector.set (Vector.set (Vector.set (Vector.set (Vector.set (Vector.set (Vector.set (Vector.set (Vector.replicate 24 Zk4) 0 (⟨{ data := #[105, 110, 95, 112, 111, 114, 116] }, 0, 32, false⟩ : field_row) (by decide)) 1 (⟨{ data := #[109, 101, 116, 97, 100, 97, 116, 97] }, 2, 64, true⟩ : field_row) (by decide)) 2 (⟨{ data := #[101, 116, 104, 95, 100, 115, 116] }, 3, 48, true⟩ : field_row) (by decide)) 3 (⟨{ data := #[101, 116, 104, 95, 115, 114, 99] }, 4, 48, true⟩ : field_row) (by decide)) 4 (⟨{ data := #[101, 116, 104, 95, 116, 121, 112, 101] }, 5, 16, false⟩ : field_row) (by decide)) 5 (⟨{ data := #[118, 108, 97, 110, 95, 118, 105, 100] }, 6, 13, true⟩ : field_row) (by decide)) 6 (⟨{ data := #[118, 108, 97, 110, 95, 112, 99, 112] }, 7, 3, false⟩ : field_row) (by decide)) 7 (⟨{ data := #[105, 112, 95, 100, 115, 99, 112] }, 8, 6, false⟩ : field_row) (by decide)) 8 (⟨{ data := #[105, 112, 95, 101, 99, 110] }, 9, 2, false⟩ : field_row) (by decide)) 9 (⟨{ data := #[105, 112, 95, 112, 114, 111, 116, 111] }, 10, 8, false⟩ : field_row) (by decide)) 10 (⟨{ data := #[105, 112, 118, 52, 95, 115, 114, 99] }, 11, 32, true⟩ : field_row) (by decide)) 11 (⟨{ data := #[105, 112, 118, 52, 95, 100, 115, 116] }, 12, 32, true⟩ : field_row) (by decide)) 12 (⟨{ data := #[116, 99, 112, 95, 115, 114, 99] }, 13, 16, false⟩ : field_row) (by decide)) 13 (⟨{ data := #[116, 99, 112, 95, 100, 115, 116] }, 14, 16, false⟩ : field_row) (by decide)) 14 (⟨{ data := #[117, 100, 112, 95, 115, 114, 99] }, 15, 16, false⟩ : field_row) (by decide)) 15 (⟨{ data := #[117, 100, 112, 95, 100, 115, 116] }, 16, 16, false⟩ : field_row) (by decide)) 16 (⟨{ data := #[105, 99, 109, 112, 118, 52, 95, 116, 121, 112, 101] }, 19, 8, false⟩ : field_row) (by decide)) 17 (⟨{ data := #[105, 99, 109, 112, 118, 52, 95, 99, 111, 100, 101] }, 20, 8, false⟩ : field_row) (by decide)) 18 (⟨{ data := #[97, 114, 112, 95, 111, 112] }, 21, 16, false⟩ : field_row) (by decide)) 19 (⟨{ data := #[97, 114, 112, 95, 115, 112, 97] }, 22, 32, true⟩ : field_row) (by decide)) 20 (⟨{ data := #[97, 114, 112, 95, 116, 112, 97] }, 23, 32, true⟩ : field_row) (by decide)) 21 (⟨{ data := #[105, 112, 118, 54, 95, 115, 114, 99] }, 26, 128, true⟩ : field_row) (by decide)) 22 (⟨{ data := #[105, 112, 118, 54, 95, 100, 115, 116] }, 27, 128, true⟩ : field_row) (by decide)) 23 (⟨{ data := #[109, 112, 108, 115, 95, 108, 97, 98, 101, 108] }, 34, 20, false⟩ : field_row) (by decide))) rfl rfl rfl (by kernel_rfl) Y0a ⟨_, _, Lens.idx 24 Z1q 0 (by decide), _, by kernel_rfl, (vt rfl), _, _, Lens.idx 24 Z1q 1 (by decide), _, by kernel_rfl, (vt rfl), _, _, Lens.idx 24 Z1q 2 (by decide), _, by kernel_rfl, (vt rfl), _, _, Lens.idx 24 Z1q 3 (by decide), _, by kernel_rfl, (vt rfl), _, _, Lens.idx 24 Z1q 4 (by decide), _, by kernel_rfl, (vt rfl), _, _, Lens.idx 24 Z1q 5 (by decide), _, by kernel_rfl, (vt rfl), _, _, Lens.idx 24 Z1q 6 (by decide), _, by kernel_rfl, (vt rfl), _, _, Lens.idx 24 Z1q 7 (by decide), _, by kernel_rfl, (vt rfl), _, _, Lens.idx 24 Z1q 8 (by decide), _, by kernel_rfl, (vt rfl), _, _, Lens.idx 24 Z1q 9 (by decide), _, by kernel_rfl, (vt rfl), _, _, Lens.idx 24 Z1q 10 (by decide), _, by kernel_rfl, (vt rfl), _, _, Lens.idx 24 Z1q 11 (by decide), _, by kernel_rfl, (vt rfl), _, _, Lens.idx 24 Z1q 12 (by decide), _, by kernel_rfl, (vt rfl), _, _, Lens.idx 24 Z1q 13 (by decide), _, by kernel_rfl, (vt rfl), _, _, Lens.idx 24 Z1q 14 (by decide), _, by kernel_rfl, (vt rfl), _, _, Lens.idx 24 Z1q 15 (by decide), _, by kernel_rfl, (vt rfl), _, _, Lens.idx 24 Z1q 16 (by decide), _, by kernel_rfl, (vt rfl), _, _, Lens.idx 24 Z1q 17 (by decide), _, by kernel_rfl, (vt rfl), _, _, Lens.idx 24 Z1q 18 (by decide), _, by kernel_rfl, (vt rfl), _, _, Lens.idx 24 Z1q 19 (by decide), _, by kernel_rfl, (vt rfl), _, _, Lens.idx 24 Z1q 20 (by decide), _, by kernel_rfl, (vt rfl), _, _, Lens.idx 24 Z1q 21 (by decide), _, by kernel_rfl, (vt rfl), _, _, Lens.idx 24 Z1q 22 (by decide), _, by kernel_rfl, (vt rfl), _, _, Lens.idx 24 Z1q 23 (by decide), _, by kernel_rfl, (vt rfl), rfl⟩) rfl ?_
 refine Zd Y0n 1 rfl <| Nl <| rt ?_
 cases h; exact Zc Tryz.results344 rfl (Zx rfl (i := 1) rfl Y0n)
def Zmb (x1 : Int) : Option field_row :=
 (Z7a x1).bind fun x3 => (bif (!x3) then some (⟨(⟨#[]⟩ : ByteArray), (-1), 0, false⟩ : field_row) else (Zh3).bind fun x4 => (lget (Vector.toList x4) x1).bind fun x5 => some x5)
theorem Y78 : Q1 Tryz.prog 336 (rd (Z0 .i64)) (rd Z1q) Zmb := fun x1 r h => I0 Tryz.func336 rfl Tryz.ntmps336 rfl fun w H => by
 unfold Zmb at h
 refine SR <| Cv rfl (Zo 3 rfl rfl Z2i) fun g2 => Nl <| sq <| sq ?_
 obtain ⟨x3, hx3, h⟩ := Za h
 refine Rg <| Md rfl <| Cl [3] (Zmh _ _ hx3) Zno rfl <| Ac (Z0s rfl rfl (vt rfl)) rfl <| Nl <| Cq rfl h (fun h => ?_) (fun h => ?_)
 ·refine SR <| Ac (opb (⟨(⟨#[]⟩ : ByteArray), (-1), 0, false⟩ : field_row) Z2i rfl Yfw (pc Yay (vk rfl) <| pn rfl)) rfl <| Zd Zik 3 rfl <| Nl <| rt ?_
  cases h; exact Zc Tryz.results336 rfl (Zx rfl (i := 3) rfl Zik)
 ·refine sk <| sq ?_
  obtain ⟨x4, hx4, x5, hx5, h⟩ := bs2 h
  refine Rg <| Cl [] (Y8c _ hx4) Ybr rfl <| Md rfl <| Ac (Zdd rfl rfl Yfx Zik (vt rfl) (vt rfl) hx5) rfl <| Zd Zik 3 rfl <| Nl <| rt ?_
  cases h; exact Zc Tryz.results336 rfl (Zx rfl (i := 3) rfl Zik)
def Zb6 (x1 : Int) : Option Int :=
 (Zmb x1).bind fun x2 => some x2.bits
theorem Ydq : Q1 Tryz.prog 312 (rd (Z0 .i64)) (rd (Z0 .i64)) Zb6 := fun x1 r h => I0 Tryz.func312 rfl Tryz.ntmps312 rfl fun w H => by
 unfold Zb6 at h
 refine SR <| Ak rfl <| Nl <| sq ?_
 obtain ⟨x2, hx2, h⟩ := Za h
 refine Rg <| Md rfl <| Cl [3] (Y78 _ _ hx2) Ygo rfl <| Ac (Zsw Z2n rfl rfl Y92 Y4s Zq rfl (vt rfl)) rfl <| As rfl <| Nl <| rt ?_
 cases h; exact Zc Tryz.results312 rfl (Z4 rfl)
def Zef (n1 : Int) : Option (BitVec 64) :=
 (bif (decide (n1 ≥ 64)) then some (18446744073709551615 : BitVec 64) else (Z86 (1 : BitVec 64) (Z1t n1 0)).bind fun q2 => some (q2 - (1 : BitVec 64)))
theorem Zya : Q1 Tryz.prog 299 (rd (Z0 .i64)) (rd Z0j) Zef := fun n1 r h => I0 Tryz.func299 rfl Tryz.ntmps299 rfl fun w H => by
 unfold Zef at h
 refine SR <| Ac (Z04 (A := rd Z0j (0 : BitVec 64)) rfl rfl (vku (0 : BitVec 64) rfl)) rfl <| Nl <| sq <| SR <| Md rfl <| Ac (Z57 rfl rfl (vt rfl) (vk rfl)) rfl <| Nl <| Cq rfl h (fun h => ?_) (fun h => ?_)
 ·refine SR <| Ac (Z04 (A := rd Z0j (18446744073709551615 : BitVec 64)) rfl rfl (vku (18446744073709551615 : BitVec 64) rfl)) rfl <| Nl <| rt ?_
  cases h; exact Zc Tryz.results299 rfl (Z4 rfl)
 ·refine sk <| sq ?_
  obtain ⟨q2, hq2, h⟩ := Za h
  refine Rg <| Md rfl <| Ac (Z8y rfl rfl (vt rfl) (vk rfl)) rfl <| Ac (Znr rfl rfl (vku (1 : BitVec 64) rfl) (vt rfl) hq2) rfl <| Ac (Yd4 rfl rfl (vt rfl) (vku (1 : BitVec 64) rfl)) rfl <| As rfl <| Nl <| rt ?_
  cases h; exact Zc Tryz.results299 rfl (Z4 rfl)
def Z7x (n1 : Int) : Option Wide :=
 (Zef (IntKind.i64.wrap ((Z46 (Z1t n1 0) 128) - 64))).bind fun x3 => (Zef (Z46 (Z1t n1 0) 128)).bind fun x4 => some (⟨x3, x4⟩ : Wide)
theorem Zpw : Q1 Tryz.prog 254 (rd (Z0 .i64)) (rd Zp) Z7x := fun n1 r h => I0 Tryz.func254 rfl Tryz.ntmps254 rfl fun w H => by
 unfold Z7x at h
 refine SR <| Cv rfl (Zo 3 rfl rfl Z1n) fun g2 => Nl <| SR <| Md rfl <| Ac (Z8y rfl rfl (vt rfl) (vk rfl)) rfl <| Ac (Ziw rfl rfl (vt rfl) (vk rfl)) rfl <| As rfl <| Nl <| sq ?_
 obtain ⟨x3, hx3, x4, hx4, h⟩ := bs2 h
 refine Rg <| Md rfl <| Ac (Z0i rfl rfl (vt rfl) (vk rfl)) rfl <| Cl [7] (Zya _ _ hx3) Zzb rfl <| Md rfl <| Cl [9] (Zya _ _ hx4) Zzb rfl <| Ac (opb (⟨x3, x4⟩ : Wide) Z1n rfl Z3o (pc Z6m (vt rfl) <| pc Z6c (vt rfl) <| pn rfl)) rfl <| Zd Zs 3 rfl <| Nl <| rt ?_
 cases h; exact Zc Tryz.results254 rfl (Zx rfl (i := 3) rfl Zs)
def Zfg (o1 : Oxm) : Option Tern :=
 (Z7a o1.Field).bind fun x4 => (bif (!x4) then some (⟨Z00, Z00⟩ : Tern) else (bif o1.Masked then some (⟨o1.Value, o1.Mask⟩ : Tern) else (Zb6 o1.Field).bind fun x5 => (Z7x x5).bind fun x6 => some (⟨o1.Value, x6⟩ : Tern)))
theorem Zxr : Q1 Tryz.prog 275 (rd Z1w) (rd Z2) Zfg := fun o1 r h => I0 Tryz.func275 rfl Tryz.ntmps275 rfl fun w H => by
 unfold Zfg at h
 refine SR <| Cv rfl (Zn 2 rfl rfl (vt rfl)) fun g2 => Cv rfl (Zo 3 rfl rfl Z17) fun g3 => Nl <| sq <| bk <| sq ?_
 obtain ⟨x4, hx4, h⟩ := Za h
 refine Rg <| Zt Z40 Z49 rfl <| Ld Zq 2 rfl <| Cl [5] (Zmh _ _ hx4) Zno rfl <| Ac (Z0s rfl rfl (vt rfl)) rfl <| As rfl <| Nl <| Cq rfl h (fun h => ?_) (fun h => ?_)
 ·refine SR <| Ac (opb (⟨Z00, Z00⟩ : Tern) Z17 rfl Z3r (pn rfl)) rfl <| Zd Zw 3 rfl <| Nl <| rt ?_
  cases h; exact Zc Tryz.results275 rfl (Zx rfl (i := 3) rfl Zw)
 ·refine SR <| Zt Zl8 Zlg rfl <| Ld ty4 2 rfl <| As rfl <| Nl <| Cq rfl h (fun h => ?_) (fun h => ?_)
  ·refine SR <| Zt Zbp Zfz rfl <| Ld Zs 2 rfl <| Zt Zk0 Zob rfl <| Ld Zs 2 rfl <| Ac (opb (⟨o1.Value, o1.Mask⟩ : Tern) Z17 rfl Z3r (pc Z4y (vt rfl) <| pc Z51 (vt rfl) <| pn rfl)) rfl <| Zd Zw 3 rfl <| Nl <| rt ?_
   cases h; exact Zc Tryz.results275 rfl (Zx rfl (i := 3) rfl Zw)
  ·refine sk <| sq ?_
   obtain ⟨x5, hx5, x6, hx6, h⟩ := bs2 h
   refine AR Zz (by kernel_rfl) <| SFd Zbp Zfz rfl <| Zu Zs 2 rfl <| SFd Z40 Z49 rfl <| Zu Zq 2 rfl <| SCl [20] (Ydq _ _ hx5) Ybg rfl <| SCl [21] (Zpw _ _ hx6) Zrq rfl <| Sd (lo [18, 22] [] rfl fun S hs hr => opb (⟨o1.Value, x6⟩ : Tern) Z17 rfl Z3r (pc Z4y (vh hs 18 rfl rfl) <| pc Z51 (vh hs 22 rfl rfl) <| pn rfl)) <| SSt Zw 3 rfl <| Sn <| rt ?_
   cases h; exact Zc Tryz.results275 rfl (Zx rfl (i := 3) rfl Zw)
def Zar : (List Oxm) → Nat → Z5 → Option Z5
 | [], i7, b6 => some b6
 | x9 :: l8, i7, b6 => (Z7a x9.Field).bind fun x11 => (bif x11 then (Zfg x9).bind fun x12 => (chk 24 x9.Field).bind fun j13 => (Zar l8) (i7 + 1) (Vector.set b6 j13.1 x12 j13.2) else (Zar l8) (i7 + 1) b6)
def Zne (l1 : (List Oxm)) : Option Z5 :=
 (Ze0).bind fun x3 => Zar l1 0 x3
theorem Yhg : Q1 Tryz.prog 229 (rd (Z3 Z1w)) (rd (Z1 24 Z2)) Zne := fun l1 r h => I0 Tryz.func229 rfl Tryz.ntmps229 rfl fun w H => by
 unfold Zne at h
 refine SR <| Cv rfl (Zo 3 rfl rfl Z0n) fun g2 => Nl <| sq ?_
 obtain ⟨x3, hx3, h⟩ := Za h
 refine Rg <| Cl [] (Zzo _ hx3) e73 rfl <| Cv rfl (Zo 4 rfl rfl Z0n) fun g4 => Zd Zv 4 rfl <| Nl <| sq <| SR <| Md rfl <| Ac (Z09 rfl rfl Zd8 (vt rfl)) rfl <| Mk rfl <| Nl <| bk <| LG (d := []) (ν := (List Oxm) × Nat × Z5) (fun (l8, i7, b6) => (Sfx l1 i7 l8 ∧ Zar l8 i7 b6 = some r, l8.length, [(2, Ze g2 (Lens.id (Z1 24 Z2))), (3, Ze g4 (Lens.id (Z1 24 Z2))), (7, rd (Z3 Z1w) l1), (8, rd (Z0 .i64) (l1.length : Int)), (9, rd (Z0 .i64) (i7 : Int))], [(3, Zf g2 87 (Z1 24 Z2) (Vector.replicate 24 zTern)), (4, Zf g4 87 (Z1 24 Z2) b6)])) (l1, 0, x3) ⟨Sfx.start _, h⟩ (FX rfl) ?_
 rintro ⟨l8, i7, b6⟩ ⟨hsf1, h⟩
 dsimp only at hsf1 h ⊢
 cases l8 with
 | nil =>
  unfold Zar at h
  refine SR <| Ac (Zl rfl rfl (vt rfl) (vt rfl)) rfl <| Nl <| sq <| Cn rfl (fun hc => absurd (of_decide_eq_true hc) hsf1.nil) (fun hc => ?_)
  refine xt <| SR <| Ld Zv 4 rfl <| Zd Zv 3 rfl <| Nl <| rt ?_
  cases h; exact Zc Tryz.results229 rfl (Zx rfl (i := 3) rfl Zv)
 | cons x9 l8 =>
  unfold Zar at h
  refine SR <| Ac (Zl rfl rfl (vt rfl) (vt rfl)) rfl <| Nl <| sq <| Cn rfl (fun hc => ?_) (fun hc => absurd hsf1.cons (of_decide_eq_false hc))
  have hlti7 := of_decide_eq_true hc
  refine sk <| sq <| bk <| SR <| Ac (Z03 rfl rfl Zd8 (vt rfl) (vt rfl) hsf1.lget) rfl <| Lp1 Z8m rfl <| Cv rfl (Zo 6 rfl rfl Y8o) fun g10 => Zd Z8m 6 rfl <| Nl <| sq ?_
  obtain ⟨x11, hx11, h⟩ := Za h
  refine Rg <| Zt Z40 Z49 rfl <| Ld Zq 6 rfl <| Cl [14] (Zmh _ _ hx11) Zno rfl <| Nl <| Cq rfl h (fun h => ?_) (fun h => ?_)
  ·obtain ⟨x12, hx12, j13, hj13, h⟩ := bs2 h
   refine AR Zz (by kernel_rfl) <| SFd Z40 Z49 rfl <| Zu Zq 6 rfl <| Zu Z8m 6 rfl <| SCl [18] (Zxr _ _ hx12) Zyx rfl <| Sd (lo [3, 17] [] rfl fun S hs hr => Z0v rfl rfl Z1d (vh hs 3 rfl rfl) (vh hs 17 rfl rfl) hj13) <| SSt Zw 4 rfl <| Sn <| Rg <| Ac (Z21 (t := 8) rfl rfl (vt rfl) (vk rfl) (vt rfl) hlti7) rfl <| Md rfl <| Nl ?_
   exact ⟨(_, _, _), Nat.lt_succ_self _, ⟨hsf1.next, h⟩, FX rfl⟩
  ·refine sk <| Rg <| Ac (Z21 (t := 8) rfl rfl (vt rfl) (vk rfl) (vt rfl) hlti7) rfl <| Md rfl <| Nl ?_
   exact ⟨(_, _, _), Nat.lt_succ_self _, ⟨hsf1.next, h⟩, FX rfl⟩
end Go.Proofs.YtknpgojdkobgjaaGreat.W
set_option maxRecDepth 4000
namespace Go.Proofs.YtknpgojdkobgjaaGreat.W
open Go Go.Wb
theorem Zlr : Ent Tryz.prog 177 := Ent.mk Tryz.func177 rfl rfl
theorem Z7l : Ent Tryz.prog 127 := Ent.mk Tryz.func127 rfl rfl
theorem Y7g : Ent Tryz.prog 197 := Ent.mk Tryz.func197 rfl rfl
theorem Zuh : Ent Tryz.prog 196 := Ent.mk Tryz.func196 rfl rfl
theorem Yc7 : Ent Tryz.prog 229 := Ent.mk Tryz.func229 rfl rfl
theorem Zmo : Ent Tryz.prog 126 := Ent.mk Tryz.func126 rfl rfl
theorem Ycu : Ent Tryz.prog 237 := Ent.mk Tryz.func237 rfl rfl
def Zax (a1 : Wide) (b2 : Wide) : Option Wide :=
 some (⟨(a1.Hi &&& b2.Hi), (a1.Lo &&& b2.Lo)⟩ : Wide)
theorem Zo1 : Q2 Tryz.prog 177 (rd Zp) (rd Zp) (rd Zp) Zax := fun a1 b2 r h => I0 Tryz.func177 rfl Tryz.ntmps177 rfl fun w H => by
 unfold Zax at h
 refine SR <| Cv rfl (Zn 3 rfl rfl (vt rfl)) fun g3 => Cv rfl (Zn 4 rfl rfl (vt rfl)) fun g4 => Cv rfl (Zo 5 rfl rfl Z1n) fun g5 => Nl <| SR <| Zt lWide_0 Z3v rfl <| Ld Z19 3 rfl <| Zt lWide_0 Z3v rfl <| Ld Z19 4 rfl <| Ac (Z80 rfl rfl (vt rfl) (vt rfl)) rfl <| Zt lWide_1 Z3p rfl <| Ld Z19 3 rfl <| Zt lWide_1 Z3p rfl <| Ld Z19 4 rfl <| Ac (Z80 rfl rfl (vt rfl) (vt rfl)) rfl <| Ac (opb (⟨(a1.Hi &&& b2.Hi), (a1.Lo &&& b2.Lo)⟩ : Wide) Z1n rfl Z3o (pc Z6m (vt rfl) <| pc Z6c (vt rfl) <| pn rfl)) rfl <| Zd Zs 5 rfl <| Nl <| rt ?_
 cases h; exact Zc Tryz.results177 rfl (Zx rfl (i := 5) rfl Zs)
def Z5x (t1 : Tern) : Option Tern :=
 (Zax t1.Value t1.Mask).bind fun x4 => some (⟨x4, t1.Mask⟩ : Tern)
theorem Z88 : Q1 Tryz.prog 127 (rd Z2) (rd Z2) Z5x := fun t1 r h => I0 Tryz.func127 rfl Tryz.ntmps127 rfl fun w H => by
 unfold Z5x at h
 refine SR <| Cv rfl (Zn 2 rfl rfl (vt rfl)) fun g2 => Cv rfl (Zo 3 rfl rfl Z17) fun g3 => Nl <| sq ?_
 obtain ⟨x4, hx4, h⟩ := Za h
 refine AR Zz (by kernel_rfl) <| SFd lTern_0 Z1y rfl <| Zu Zs 2 rfl <| SFd lTern_1 Z1h rfl <| Zu Zs 2 rfl <| SCl [4, 6] (Zo1 _ _ _ hx4) Zlr rfl <| SFd lTern_1 Z1h rfl <| Zu Zs 2 rfl <| Sd (lo [7, 9] [] rfl fun S hs hr => opb (⟨x4, t1.Mask⟩ : Tern) Z17 rfl Z3r (pc Z4y (vh hs 7 rfl rfl) <| pc Z51 (vh hs 9 rfl rfl) <| pn rfl)) <| SSt Zw 3 rfl <| Sn <| rt ?_
 cases h; exact Zc Tryz.results127 rfl (Zx rfl (i := 3) rfl Zw)
def Zdl (i1 : Int) (x2 : Z5) : Option (Tern × Bool) :=
 (chk 24 i1).bind fun j4 => (Z5x (Vector.get x2 j4)).bind fun x5 => some (x5, true)
theorem Yf0 : Q2 Tryz.prog 197 (rd (Z0 .i64)) (rp (Z1 24 Z2)) (fun r => Z1c (rd Z2 r.1) (rd Z7 r.2)) Zdl := fun i1 x2 r h => I0 Tryz.func197 rfl Tryz.ntmps197 rfl fun w H => by
 unfold Zdl at h
 refine SR <| Cv rfl (Zo 4 rfl rfl Z17) fun g3 => Ab rfl <| Nl <| sq ?_
 obtain ⟨j4, hj4, x5, hx5, h⟩ := bs2 h
 refine Rg <| Md rfl <| Ac (Z6b rfl rfl Z1d (vt rfl) (vt rfl) hj4) rfl <| Lp1 Zw rfl <| Cl [7] (Z88 _ _ hx5) Z7l rfl <| Zd Zw 4 rfl <| Ab rfl <| Nl <| rt ?_
 cases h; exact Z1x Tryz.results197 rfl (Zx rfl (i := 4) rfl Zw) (Z4 rfl)
def Z66 (x1 : (Int → Option (Tern × Bool))) : Nat → Nat → Z5 → Option (Z5 × Bool)
 | 0, i6, b5 => some (b5, true)
 | m7 + 1, i6, b5 => (x1 (i6 : Int)).bind fun x8 => (bif (!x8.2) then some ((Vector.replicate 24 zTern), false) else (chk 24 (i6 : Int)).bind fun j10 => (Z66 x1 m7) (i6 + 1) (Vector.set b5 j10.1 x8.1 j10.2))
def Zc5 (x1 : (Int → Option (Tern × Bool))) : Option (Z5 × Bool) :=
 Z66 x1 (24 : Int).toNat 0 (Vector.replicate 24 zTern)
theorem Zyy : Q1 Tryz.prog 196 (fa1 Tryz.prog (Z0 .i64) (fun (y : (Tern × Bool)) => Z1c (rd Z2 y.1) (rd Z7 y.2))) (fun r => Z1c (rd (Z1 24 Z2) r.1) (rd Z7 r.2)) Zc5 := fun x1 r h => I0 Tryz.func196 rfl Tryz.ntmps196 rfl fun w H => by
 unfold Zc5 at h
 refine SR <| Cv rfl (Zo 3 rfl rfl Z0n) fun g2 => Ab rfl <| Nl <| SR <| Cv rfl (Zo 5 rfl rfl Z0n) fun g3 => Nl <| sq <| SR <| Mk rfl <| Nl <| bk <| LG (d := []) (ν := Nat × Nat × Z5) (fun (m7, i6, b5) => (Cnt 24 i6 m7 ∧ Z66 x1 m7 i6 b5 = some r, m7, [(0, fa1 Tryz.prog (Z0 .i64) (fun (y : (Tern × Bool)) => Z1c (rd Z2 y.1) (rd Z7 y.2)) x1), (2, Ze g2 (Lens.id (Z1 24 Z2))), (4, Ze g3 (Lens.id (Z1 24 Z2))), (8, rd (Z0 .i64) (i6 : Int))], [(3, Zf g2 87 (Z1 24 Z2) (Vector.replicate 24 zTern)), (5, Zf g3 87 (Z1 24 Z2) b5)])) ((24 : Int).toNat, 0, (Vector.replicate 24 zTern)) ⟨Cnt.start _, h⟩ (FX rfl) ?_
 rintro ⟨m7, i6, b5⟩ ⟨hsf1, h⟩
 dsimp only at hsf1 h ⊢
 cases m7 with
 | zero =>
  unfold Z66 at h
  refine SR <| Ac (Zl rfl rfl (vt rfl) (vk rfl)) rfl <| Nl <| sq <| Cn rfl (fun hc => absurd (of_decide_eq_true hc) hsf1.zero) (fun hc => ?_)
  refine xt <| SR <| Ld Zv 5 rfl <| Zd Zv 3 rfl <| Ab rfl <| Nl <| rt ?_
  cases h; exact Z1x Tryz.results196 rfl (Zx rfl (i := 3) rfl Zv) (Z4 rfl)
 | succ m7 =>
  unfold Z66 at h
  refine SR <| Ac (Zl rfl rfl (vt rfl) (vk rfl)) rfl <| Nl <| sq <| Cn rfl (fun hc => ?_) (fun hc => absurd hsf1.succ (of_decide_eq_false hc))
  have hlti6 := of_decide_eq_true hc
  refine sk <| sq <| bk <| SR <| Md rfl <| As rfl <| Nl <| sq ?_
  obtain ⟨x8, hx8, h⟩ := Za h
  refine Rg <| Ac (Zk (A := fa1 Tryz.prog (Z0 .i64) (fun (y : (Tern × Bool)) => Z1c (rd Z2 y.1) (rd Z7 y.2)) x1) rfl rfl (vt rfl)) rfl <| Md rfl <| Ac (Y90 (B := (fun (y : (Tern × Bool)) => Z1c (rd Z2 y.1) (rd Z7 y.2))) hx8 rfl rfl (vt rfl) (vt rfl)) rfl <| Mt2 rfl <| Ac (Z1j rfl rfl (vt rfl)) rfl <| Ac (Z1i rfl rfl (vt rfl)) rfl <| Cv rfl (Zo 7 rfl rfl Z17) fun g9 => Zd Zw 7 rfl <| As rfl <| Nl <| sq <| SR <| Md rfl <| Ac (Z0s rfl rfl (vt rfl)) rfl <| Nl <| Cq rfl h (fun h => ?_) (fun h => ?_)
  ·refine SR <| Ac (Z13 (ps := []) (x := (Vector.replicate 24 zTern)) rfl rfl rfl (by kernel_rfl) Z0n rfl) rfl <| Zd Zv 3 rfl <| Ab rfl <| Nl <| rt ?_
   cases h; exact Z1x Tryz.results196 rfl (Zx rfl (i := 3) rfl Zv) (Z4 rfl)
  ·refine sk ?_
   obtain ⟨j10, hj10, h⟩ := Za h
   refine Rg <| Md rfl <| Ld Zw 7 rfl <| Ac (Z0v rfl rfl Z1d (vt rfl) (vt rfl) hj10) rfl <| Zd Zw 5 rfl <| Nl <| Rg <| Ac (Z70 rfl rfl (vt rfl) (vk rfl) rfl hlti6) rfl <| Md rfl <| Nl ?_
   exact ⟨(_, _, _), Nat.lt_succ_self _, ⟨hsf1.next, h⟩, FX rfl⟩
def Zae (x1 : Z5) : Option Z5 :=
 (Zc5 (fun x => Zdl x x1)).bind fun x4 => some x4.1
theorem Zoa : Q1 Tryz.prog 126 (rd (Z1 24 Z2)) (rd (Z1 24 Z2)) Zae := fun x1 r h => I0 Tryz.func126 rfl Tryz.ntmps126 rfl fun w H => by
 unfold Zae at h
 refine SR <| Cv rfl (Zn 2 rfl rfl (vt rfl)) fun g2 => Cv rfl (Zo 3 rfl rfl Z0n) fun g3 => Nl <| sq <| AW.freezeB 1 2 rfl rfl rfl ?_
 obtain ⟨x4, hx4, h⟩ := Za h
 refine Rg <| Ac (Ztu (fs := []) (FAs := []) (cs := [.tmp 1]) (CAs := [rp (Z1 24 Z2) x1]) (kx := (Z0 .i64)) (B := (fun (y : (Tern × Bool)) => Z1c (rd Z2 y.1) (rd Z7 y.2))) (fun x => Zdl x x1) rfl rfl Y7g trivial ⟨vt rfl, trivial⟩ (fun x y h => Yf0 _ _ y h)) rfl <| Cl [6] (Zyy _ _ hx4) Zuh rfl <| Mt2 rfl <| Ac (Z1j rfl rfl (vt rfl)) rfl <| Ac (Z1i rfl rfl (vt rfl)) rfl <| Cv rfl (Zo 4 rfl rfl Z0n) fun g5 => Zd Zv 4 rfl <| As rfl <| Nl <| SR <| Ld Zv 4 rfl <| Zd Zv 3 rfl <| Nl <| rt ?_
 cases h; exact Zc Tryz.results126 rfl (Zx rfl (i := 3) rfl Zv)
def Zhn (x1 : Flow) : Option Z5 :=
 (Zne x1.Match).bind fun x4 => (Zae x4).bind fun x5 => some x5
theorem Y3v : Q1 Tryz.prog 157 (rd Z0k) (rd (Z1 24 Z2)) Zhn := fun x1 r h => I0 Tryz.func157 rfl Tryz.ntmps157 rfl fun w H => by
 unfold Zhn at h
 refine SR <| Cv rfl (Zn 2 rfl rfl (vt rfl)) fun g2 => Cv rfl (Zo 3 rfl rfl Z0n) fun g3 => Nl <| sq ?_
 obtain ⟨x4, hx4, x5, hx5, h⟩ := bs2 h
 refine Rg <| Zt Zml Zqn rfl <| Ld Zt6 2 rfl <| Cl [4] (Yhg _ _ hx4) Yc7 rfl <| Cl [5] (Zoa _ _ hx5) Zmo rfl <| Zd Zv 3 rfl <| Nl <| rt ?_
 cases h; exact Zc Tryz.results157 rfl (Zx rfl (i := 3) rfl Zv)
def Zsb (a1 : Wide) (b2 : Wide) : Option Wide :=
 some (⟨(a1.Hi ^^^ b2.Hi), (a1.Lo ^^^ b2.Lo)⟩ : Wide)
theorem Y56 : Q2 Tryz.prog 237 (rd Zp) (rd Zp) (rd Zp) Zsb := fun a1 b2 r h => I0 Tryz.func237 rfl Tryz.ntmps237 rfl fun w H => by
 unfold Zsb at h
 refine SR <| Cv rfl (Zn 3 rfl rfl (vt rfl)) fun g3 => Cv rfl (Zn 4 rfl rfl (vt rfl)) fun g4 => Cv rfl (Zo 5 rfl rfl Z1n) fun g5 => Nl <| SR <| Zt lWide_0 Z3v rfl <| Ld Z19 3 rfl <| Zt lWide_0 Z3v rfl <| Ld Z19 4 rfl <| Ac (Zm4 rfl rfl (vt rfl) (vt rfl)) rfl <| Zt lWide_1 Z3p rfl <| Ld Z19 3 rfl <| Zt lWide_1 Z3p rfl <| Ld Z19 4 rfl <| Ac (Zm4 rfl rfl (vt rfl) (vt rfl)) rfl <| Ac (opb (⟨(a1.Hi ^^^ b2.Hi), (a1.Lo ^^^ b2.Lo)⟩ : Wide) Z1n rfl Z3o (pc Z6m (vt rfl) <| pc Z6c (vt rfl) <| pn rfl)) rfl <| Zd Zs 5 rfl <| Nl <| rt ?_
 cases h; exact Zc Tryz.results237 rfl (Zx rfl (i := 5) rfl Zs)
def Zqp (a1 : Wide) (b2 : Wide) (m3 : Wide) : Option Wide :=
 (Zsb a1 b2).bind fun x8 => (Zax x8 m3).bind fun x9 => some x9
theorem Ydb : Q3 Tryz.prog 174 (rd Zp) (rd Zp) (rd Zp) (rd Zp) Zqp := fun a1 b2 m3 r h => I0 Tryz.func174 rfl Tryz.ntmps174 rfl fun w H => by
 unfold Zqp at h
 refine SR <| Cv rfl (Zn 4 rfl rfl (vt rfl)) fun g4 => Cv rfl (Zn 5 rfl rfl (vt rfl)) fun g5 => Cv rfl (Zn 6 rfl rfl (vt rfl)) fun g6 => Cv rfl (Zo 7 rfl rfl Z1n) fun g7 => Nl <| sq ?_
 obtain ⟨x8, hx8, x9, hx9, h⟩ := bs2 h
 refine AR Zz (by kernel_rfl) <| Zu Zs 4 rfl <| Zu Zs 5 rfl <| SCl [7, 8] (Y56 _ _ _ hx8) Ycu rfl <| Zu Zs 6 rfl <| SCl [9, 10] (Zo1 _ _ _ hx9) Zlr rfl <| SSt Zs 7 rfl <| Sn <| rt ?_
 cases h; exact Zc Tryz.results174 rfl (Zx rfl (i := 7) rfl Zs)
def Zf3 (a1 : Wide) : Option Bool :=
 some (decide ((a1.Hi ||| a1.Lo) = (0 : BitVec 64)))
theorem Zpd : Q1 Tryz.prog 173 (rd Zp) (rd Z7) Zf3 := fun a1 r h => I0 Tryz.func173 rfl Tryz.ntmps173 rfl fun w H => by
 unfold Zf3 at h
 refine SR <| Cv rfl (Zn 2 rfl rfl (vt rfl)) fun g2 => Ab rfl <| Nl <| SR <| Zt lWide_0 Z3v rfl <| Ld Z19 2 rfl <| Zt lWide_1 Z3p rfl <| Ld Z19 2 rfl <| Ac (Zij rfl rfl (vt rfl) (vt rfl)) rfl <| Ac (Zqy rfl rfl (vt rfl) (vku (0 : BitVec 64) rfl)) rfl <| As rfl <| Nl <| rt ?_
 cases h; exact Zc Tryz.results173 rfl (Z4 rfl)
end Go.Proofs.YtknpgojdkobgjaaGreat.W
set_option maxRecDepth 4000
namespace Go.Proofs.YtknpgojdkobgjaaGreat.W
open Go Go.Wb
theorem Y3f : Ent Tryz.prog 174 := Ent.mk Tryz.func174 rfl rfl
theorem Zqt : Ent Tryz.prog 173 := Ent.mk Tryz.func173 rfl rfl
theorem Y1w : Ent Tryz.prog 106 := Ent.mk Tryz.func106 rfl rfl
theorem Zdv : Ent Tryz.prog 175 := Ent.mk Tryz.func175 rfl rfl
theorem Zhi : Ent Tryz.prog 176 := Ent.mk Tryz.func176 rfl rfl
theorem Yfq : Ent Tryz.prog 261 := Ent.mk Tryz.func261 rfl rfl
theorem Yce : Ent Tryz.prog 260 := Ent.mk Tryz.func260 rfl rfl
theorem Zzn : Ent Tryz.prog 259 := Ent.mk Tryz.func259 rfl rfl
theorem Ycf : Ent Tryz.prog 262 := Ent.mk Tryz.func262 rfl rfl
def Zha (t1 : Tern) (x2 : Wide) : Option Bool :=
 (Zqp t1.Value x2 t1.Mask).bind fun x5 => (Zf3 x5).bind fun x6 => some x6
theorem Y00 : Q2 Tryz.prog 106 (rd Z2) (rd Zp) (rd Z7) Zha := fun t1 x2 r h => I0 Tryz.func106 rfl Tryz.ntmps106 rfl fun w H => by
 unfold Zha at h
 refine SR <| Cv rfl (Zn 3 rfl rfl (vt rfl)) fun g3 => Cv rfl (Zn 4 rfl rfl (vt rfl)) fun g4 => Ab rfl <| Nl <| sq ?_
 obtain ⟨x5, hx5, x6, hx6, h⟩ := bs2 h
 refine Rg <| Zt lTern_0 Z1y rfl <| Ld Zs 3 rfl <| Ld Zs 4 rfl <| Zt lTern_1 Z1h rfl <| Ld Zs 3 rfl <| Cl [6, 7, 9] (Ydb _ _ _ _ hx5) Y3f rfl <| Cl [10] (Zpd _ _ hx6) Zqt rfl <| As rfl <| Nl <| rt ?_
 cases h; exact Zc Tryz.results106 rfl (Z4 rfl)
def Z7t (a1 : Wide) (b2 : Wide) : Option Wide :=
 some (⟨(a1.Hi ||| b2.Hi), (a1.Lo ||| b2.Lo)⟩ : Wide)
theorem Zf0 : Q2 Tryz.prog 175 (rd Zp) (rd Zp) (rd Zp) Z7t := fun a1 b2 r h => I0 Tryz.func175 rfl Tryz.ntmps175 rfl fun w H => by
 unfold Z7t at h
 refine SR <| Cv rfl (Zn 3 rfl rfl (vt rfl)) fun g3 => Cv rfl (Zn 4 rfl rfl (vt rfl)) fun g4 => Cv rfl (Zo 5 rfl rfl Z1n) fun g5 => Nl <| SR <| Zt lWide_0 Z3v rfl <| Ld Z19 3 rfl <| Zt lWide_0 Z3v rfl <| Ld Z19 4 rfl <| Ac (Zij rfl rfl (vt rfl) (vt rfl)) rfl <| Zt lWide_1 Z3p rfl <| Ld Z19 3 rfl <| Zt lWide_1 Z3p rfl <| Ld Z19 4 rfl <| Ac (Zij rfl rfl (vt rfl) (vt rfl)) rfl <| Ac (opb (⟨(a1.Hi ||| b2.Hi), (a1.Lo ||| b2.Lo)⟩ : Wide) Z1n rfl Z3o (pc Z6m (vt rfl) <| pc Z6c (vt rfl) <| pn rfl)) rfl <| Zd Zs 5 rfl <| Nl <| rt ?_
 cases h; exact Zc Tryz.results175 rfl (Zx rfl (i := 5) rfl Zs)
def Zf4 (a1 : Tern) (b2 : Tern) : Option (Tern × Bool) :=
 (Zax a1.Mask b2.Mask).bind fun x6 => (Zha (⟨a1.Value, x6⟩ : Tern) b2.Value).bind fun x7 => (bif (!x7) then some ((⟨Z00, Z00⟩ : Tern), false) else (Z5x a1).bind fun x8 => (Z5x b2).bind fun x9 => (Z7t x8.Value x9.Value).bind fun x10 => (Z7t x8.Mask x9.Mask).bind fun x11 => some ((⟨x10, x11⟩ : Tern), true))
theorem Y1r : Q2 Tryz.prog 259 (rd Z2) (rd Z2) (fun r => Z1c (rd Z2 r.1) (rd Z7 r.2)) Zf4 := fun a1 b2 r h => I0 Tryz.func259 rfl Tryz.ntmps259 rfl fun w H => by
 unfold Zf4 at h
 refine SR <| Cv rfl (Zn 3 rfl rfl (vt rfl)) fun g3 => Cv rfl (Zn 4 rfl rfl (vt rfl)) fun g4 => Cv rfl (Zo 5 rfl rfl Z17) fun g5 => Ab rfl <| Nl <| sq <| sq ?_
 obtain ⟨x6, hx6, x7, hx7, h⟩ := bs2 h
 refine AR Zz (by kernel_rfl) <| SFd lTern_0 Z1y rfl <| Zu Zs 3 rfl <| SFd lTern_1 Z1h rfl <| Zu Zs 3 rfl <| SFd lTern_1 Z1h rfl <| Zu Zs 4 rfl <| SCl [9, 11] (Zo1 _ _ _ hx6) Zlr rfl <| Sd (lo [7, 12] [] rfl fun S hs hr => opb (⟨a1.Value, x6⟩ : Tern) Z17 rfl Z3r (pc Z4y (vh hs 7 rfl rfl) <| pc Z51 (vh hs 12 rfl rfl) <| pn rfl)) <| SFd lTern_0 Z1y rfl <| Zu Zs 4 rfl <| SCl [13, 15] (Y00 _ _ _ hx7) Y1w rfl <| Sd (lo [16] [] rfl fun S hs hr => Z0s rfl rfl (vh hs 16 rfl rfl)) <| Sn <| Cq rfl h (fun h => ?_) (fun h => ?_)
 ·refine SR <| Ac (opb (⟨Z00, Z00⟩ : Tern) Z17 rfl Z3r (pn rfl)) rfl <| Zd Zw 5 rfl <| Ab rfl <| Nl <| rt ?_
  cases h; exact Z1x Tryz.results259 rfl (Zx rfl (i := 5) rfl Zw) (Z4 rfl)
 ·refine sk <| sq ?_
  obtain ⟨x8, hx8, x9, hx9, h⟩ := bs2 h
  refine AR Zz (by kernel_rfl) <| Zu Zw 3 rfl <| SCl [19] (Z88 _ _ hx8) Z7l rfl <| Zu Zw 4 rfl <| SCl [21] (Z88 _ _ hx9) Z7l rfl <| SSt Zw 3 rfl <| SSt Zw 4 rfl <| Sn <| sq ?_
  obtain ⟨x10, hx10, x11, hx11, h⟩ := bs2 h
  refine AR Zz (by kernel_rfl) <| SFd lTern_0 Z1y rfl <| Zu Zs 3 rfl <| SFd lTern_0 Z1y rfl <| Zu Zs 4 rfl <| SCl [24, 26] (Zf0 _ _ _ hx10) Zdv rfl <| SFd lTern_1 Z1h rfl <| Zu Zs 3 rfl <| SFd lTern_1 Z1h rfl <| Zu Zs 4 rfl <| SCl [29, 31] (Zf0 _ _ _ hx11) Zdv rfl <| Sd (lo [27, 32] [] rfl fun S hs hr => opb (⟨x10, x11⟩ : Tern) Z17 rfl Z3r (pc Z4y (vh hs 27 rfl rfl) <| pc Z51 (vh hs 32 rfl rfl) <| pn rfl)) <| SSt Zw 5 rfl <| Sd (lo [] [] rfl fun S hs hr => Z04 (A := rd Z7 true) rfl rfl vb) <| Sn <| rt ?_
  cases h; exact Z1x Tryz.results259 rfl (Zx rfl (i := 5) rfl Zw) (Z4 rfl)
def Zal (a1 : Wide) (b2 : Wide) : Option Wide :=
 some (⟨(a1.Hi &&& ~~~b2.Hi), (a1.Lo &&& ~~~b2.Lo)⟩ : Wide)
theorem Zh1 : Q2 Tryz.prog 176 (rd Zp) (rd Zp) (rd Zp) Zal := fun a1 b2 r h => I0 Tryz.func176 rfl Tryz.ntmps176 rfl fun w H => by
 unfold Zal at h
 refine SR <| Cv rfl (Zn 3 rfl rfl (vt rfl)) fun g3 => Cv rfl (Zn 4 rfl rfl (vt rfl)) fun g4 => Cv rfl (Zo 5 rfl rfl Z1n) fun g5 => Nl <| SR <| Zt lWide_0 Z3v rfl <| Ld Z19 3 rfl <| Zt lWide_0 Z3v rfl <| Ld Z19 4 rfl <| Ac (Znt rfl rfl (vt rfl) (vt rfl)) rfl <| Zt lWide_1 Z3p rfl <| Ld Z19 3 rfl <| Zt lWide_1 Z3p rfl <| Ld Z19 4 rfl <| Ac (Znt rfl rfl (vt rfl) (vt rfl)) rfl <| Ac (opb (⟨(a1.Hi &&& ~~~b2.Hi), (a1.Lo &&& ~~~b2.Lo)⟩ : Wide) Z1n rfl Z3o (pc Z6m (vt rfl) <| pc Z6c (vt rfl) <| pn rfl)) rfl <| Zd Zs 5 rfl <| Nl <| rt ?_
 cases h; exact Zc Tryz.results176 rfl (Zx rfl (i := 5) rfl Zs)
def Zj8 (i1 : Int) (x2 : Z5) (x3 : Z5) : Option Tern :=
 (chk 24 i1).bind fun j5 => (chk 24 i1).bind fun j6 => (chk 24 i1).bind fun j7 => (Zal ((Vector.get x2 j6).Mask) ((Vector.get x3 j7).Mask)).bind fun x8 => (Z5x (⟨(Vector.get x2 j5).Value, x8⟩ : Tern)).bind fun x9 => some x9
theorem Y32 : Q3 Tryz.prog 261 (rd (Z0 .i64)) (rp (Z1 24 Z2)) (rp (Z1 24 Z2)) (rd Z2) Zj8 := fun i1 x2 x3 r h => I0 Tryz.func261 rfl Tryz.ntmps261 rfl fun w H => by
 unfold Zj8 at h
 refine SR <| Cv rfl (Zo 5 rfl rfl Z17) fun g4 => Nl <| sq ?_
 obtain ⟨j5, hj5, j6, hj6, j7, hj7, x8, hx8, h⟩ := bs4 h
 obtain ⟨x9, hx9, h⟩ := Za h
 refine AR Zz (by kernel_rfl) <| Zg rfl <| Sd (lo [1, 5] [] rfl fun S hs hr => Z6b rfl rfl Z1d (vh hs 1 rfl rfl) (vh hs 5 rfl rfl) hj5) <| SFp lTern_0 Z1y rfl <| SLp Zs rfl <| Zg rfl <| Sd (lo [1, 9] [] rfl fun S hs hr => Z6b rfl rfl Z1d (vh hs 1 rfl rfl) (vh hs 9 rfl rfl) hj6) <| SFp lTern_1 Z1h rfl <| SLp Zs rfl <| Zg rfl <| Sd (lo [2, 13] [] rfl fun S hs hr => Z6b rfl rfl Z3h (vh hs 2 rfl rfl) (vh hs 13 rfl rfl) hj7) <| SFp lTern_1 Z1h rfl <| SLp Zs rfl <| SCl [12, 16] (Zh1 _ _ _ hx8) Zhi rfl <| Sd (lo [8, 17] [] rfl fun S hs hr => opb (⟨(Vector.get x2 j5).Value, x8⟩ : Tern) Z17 rfl Z3r (pc Z4y (vh hs 8 rfl rfl) <| pc Z51 (vh hs 17 rfl rfl) <| pn rfl)) <| SCl [18] (Z88 _ _ hx9) Z7l rfl <| SSt Zw 5 rfl <| Sn <| rt ?_
 cases h; exact Zc Tryz.results261 rfl (Zx rfl (i := 5) rfl Zw)
def Z8k (x1 : (Int → Option Tern)) : Nat → Nat → Z5 → Option Z5
 | 0, i6, b5 => some b5
 | m7 + 1, i6, b5 => (x1 (i6 : Int)).bind fun x8 => (chk 24 (i6 : Int)).bind fun j9 => (Z8k x1 m7) (i6 + 1) (Vector.set b5 j9.1 x8 j9.2)
def Ziu (x1 : (Int → Option Tern)) : Option Z5 :=
 Z8k x1 (24 : Int).toNat 0 (Vector.replicate 24 zTern)
theorem Y8g : Q1 Tryz.prog 260 (fn1 Tryz.prog (Z0 .i64) Z2) (rd (Z1 24 Z2)) Ziu := fun x1 r h => I0 Tryz.func260 rfl Tryz.ntmps260 rfl fun w H => by
 unfold Ziu at h
 refine SR <| Cv rfl (Zo 3 rfl rfl Z0n) fun g2 => Nl <| SR <| Cv rfl (Zo 4 rfl rfl Z0n) fun g3 => Nl <| sq <| SR <| Mk rfl <| Nl <| bk <| LG (d := []) (ν := Nat × Nat × Z5) (fun (m7, i6, b5) => (Cnt 24 i6 m7 ∧ Z8k x1 m7 i6 b5 = some r, m7, [(0, fn1 Tryz.prog (Z0 .i64) Z2 x1), (2, Ze g2 (Lens.id (Z1 24 Z2))), (3, Ze g3 (Lens.id (Z1 24 Z2))), (5, rd (Z0 .i64) (i6 : Int))], [(3, Zf g2 87 (Z1 24 Z2) (Vector.replicate 24 zTern)), (4, Zf g3 87 (Z1 24 Z2) b5)])) ((24 : Int).toNat, 0, (Vector.replicate 24 zTern)) ⟨Cnt.start _, h⟩ (FX rfl) ?_
 rintro ⟨m7, i6, b5⟩ ⟨hsf1, h⟩
 dsimp only at hsf1 h ⊢
 cases m7 with
 | zero =>
  unfold Z8k at h
  refine SR <| Ac (Zl rfl rfl (vt rfl) (vk rfl)) rfl <| Nl <| sq <| Cn rfl (fun hc => absurd (of_decide_eq_true hc) hsf1.zero) (fun hc => ?_)
  refine xt <| SR <| Ld Zv 4 rfl <| Zd Zv 3 rfl <| Nl <| rt ?_
  cases h; exact Zc Tryz.results260 rfl (Zx rfl (i := 3) rfl Zv)
 | succ m7 =>
  unfold Z8k at h
  refine SR <| Ac (Zl rfl rfl (vt rfl) (vk rfl)) rfl <| Nl <| sq <| Cn rfl (fun hc => ?_) (fun hc => absurd hsf1.succ (of_decide_eq_false hc))
  have hlti6 := of_decide_eq_true hc
  refine sk <| sq <| bk <| SR <| Md rfl <| As rfl <| Nl ?_
  obtain ⟨x8, hx8, j9, hj9, h⟩ := bs2 h
  refine Rg <| Md rfl <| Ac (Zk (A := fn1 Tryz.prog (Z0 .i64) Z2 x1) rfl rfl (vt rfl)) rfl <| Md rfl <| Ac (Za0 hx8 rfl rfl (vt rfl) (vt rfl)) rfl <| Ac (Z0v rfl rfl Z1d (vt rfl) (vt rfl) hj9) rfl <| Zd Zw 4 rfl <| Nl <| Rg <| Ac (Z70 rfl rfl (vt rfl) (vk rfl) rfl hlti6) rfl <| Md rfl <| Nl ?_
  exact ⟨(_, _, _), Nat.lt_succ_self _, ⟨hsf1.next, h⟩, FX rfl⟩
def Zaf (x2 : Z5) (x1 : Z5) : (List Tern) → Nat → Option (Z5 × Bool)
 | [], i6 => (Ziu (fun x => Zj8 x x2 x1)).bind fun x8 => some (x8, true)
 | x9 :: l7, i6 => (chk 24 (i6 : Int)).bind fun j11 => (Zf4 x9 (Vector.get x2 j11)).bind fun x12 => (bif (!x12.2) then some ((Vector.replicate 24 zTern), false) else (Zaf x2 x1 l7) (i6 + 1))
def Zh7 (x1 : Z5) (x2 : Z5) : Option (Z5 × Bool) :=
 Zaf x2 x1 (Vector.toList x1) 0
theorem Y9p : Q2 Tryz.prog 202 (rd (Z1 24 Z2)) (rd (Z1 24 Z2)) (fun r => Z1c (rd (Z1 24 Z2) r.1) (rd Z7 r.2)) Zh7 := fun x1 x2 r h => I0 Tryz.func202 rfl Tryz.ntmps202 rfl fun w H => by
 unfold Zh7 at h
 refine SR <| Cv rfl (Zn 3 rfl rfl (vt rfl)) fun g3 => Cv rfl (Zn 4 rfl rfl (vt rfl)) fun g4 => Cv rfl (Zo 5 rfl rfl Z0n) fun g5 => Ab rfl <| Nl <| sq <| SR <| Ld Z01 3 rfl <| Mk rfl <| Nl <| bk <| LG (d := []) (ν := (List Tern) × Nat) (fun (l7, i6) => (Sfx (Vector.toList x1) i6 l7 ∧ Zaf x2 x1 l7 i6 = some r, l7.length, [(2, Ze g3 (Lens.id (Z1 24 Z2))), (3, Ze g4 (Lens.id (Z1 24 Z2))), (4, Ze g5 (Lens.id (Z1 24 Z2))), (10, rd (Z1 24 Z2) x1), (11, rd (Z0 .i64) (i6 : Int))], [(3, Zf g3 101 (Z1 24 Z2) x1), (4, Zf g4 87 (Z1 24 Z2) x2), (5, Zf g5 87 (Z1 24 Z2) (Vector.replicate 24 zTern))])) ((Vector.toList x1), 0) ⟨Sfx.start _, h⟩ (FX rfl) ?_
 rintro ⟨l7, i6⟩ ⟨hsf1, h⟩
 dsimp only at hsf1 h ⊢
 cases l7 with
 | nil =>
  unfold Zaf at h
  refine SR <| Ac (Zl rfl rfl (vt rfl) (vk rfl)) rfl <| Nl <| sq <| Cn rfl (fun hc => absurd (of_decide_eq_true hc) (hsf1.niln (by simp))) (fun hc => ?_)
  refine xt <| sq <| AW.freezeB 3 4 rfl rfl rfl <| AW.freezeB 2 3 rfl rfl rfl ?_
  obtain ⟨x8, hx8, h⟩ := Za h
  refine Rg <| Ac (Zad (cs := [.tmp 3, .tmp 2]) (CAs := [rp (Z1 24 Z2) x2, rp (Z1 24 Z2) x1]) (fun x => Zj8 x x2 x1) rfl rfl Yfq ⟨vt rfl, vt rfl, trivial⟩ (fun x y h => Y32 _ _ _ y h)) rfl <| Cl [27] (Y8g _ _ hx8) Yce rfl <| Zd Zv 5 rfl <| Ab rfl <| Nl <| rt ?_
  cases h; exact Z1x Tryz.results202 rfl (Zx rfl (i := 5) rfl Zv) (Z4 rfl)
 | cons x9 l7 =>
  unfold Zaf at h
  refine SR <| Ac (Zl rfl rfl (vt rfl) (vk rfl)) rfl <| Nl <| sq <| Cn rfl (fun hc => ?_) (fun hc => absurd (hsf1.consn (by simp)) (of_decide_eq_false hc))
  have hlti6 := of_decide_eq_true hc
  refine sk <| sq <| bk <| SR <| Md rfl <| Ac (Zdd rfl rfl Z3h Zw (vt rfl) (vt rfl) hsf1.lget) rfl <| Cv rfl (Zo 8 rfl rfl Z17) fun g10 => As rfl <| Zd Zw 8 rfl <| Nl <| sq ?_
  obtain ⟨j11, hj11, x12, hx12, h⟩ := bs2 h
  refine AR Zz (by kernel_rfl) <| Zu Zw 8 rfl <| Zg rfl <| Sd (lo [3, 17] [] rfl fun S hs hr => Z0v rfl rfl Z1d (vh hs 3 rfl rfl) (vh hs 17 rfl rfl) hj11) <| Zu Zw 4 rfl <| SCl [16, 19] (Y1r _ _ _ hx12) Zzn rfl <| Sd (lo [20] [] rfl fun S hs hr => Zk (A := Z1c (rd Z2 x12.1) (rd Z7 x12.2)) rfl rfl (vh hs 20 rfl rfl)) <| Sd (lo [15] [] rfl fun S hs hr => Z1j rfl rfl (vh hs 15 rfl rfl)) <| Sd (lo [15] [] rfl fun S hs hr => Z1i rfl rfl (vh hs 15 rfl rfl)) <| Sd (Z11 (us := [(8, Z1u 85 Z2 zTern)]) (ur := []) [] [] rfl fun S hs hr => Z4t rfl rfl rfl Z17) <| Sd (Z11 (us := [(8, Z1u 85 Z2 x12.1)]) (ur := []) [8, 21] [] rfl fun S hs hr => Z54 rfl rfl Zw ((hs 8 rfl).trans rfl) (vh hs 21 rfl rfl)) <| SAs rfl <| Sn <| AW.unpackP 8 9 rfl rfl fun g13 => SR <| Md rfl <| Ac (Z0s rfl rfl (vt rfl)) rfl <| Nl <| Cq rfl h (fun h => ?_) (fun h => ?_)
  ·refine SR <| Ac (Z13 (ps := []) (x := (Vector.replicate 24 zTern)) rfl rfl rfl (by kernel_rfl) Z0n rfl) rfl <| Zd Zv 5 rfl <| Ab rfl <| Nl <| rt ?_
   cases h; exact Z1x Tryz.results202 rfl (Zx rfl (i := 5) rfl Zv) (Z4 rfl)
  ·refine sk <| Rg <| Ac (Z70 rfl rfl (vt rfl) (vk rfl) rfl hlti6) rfl <| Md rfl <| Nl ?_
   exact ⟨(_, _), Nat.lt_succ_self _, ⟨hsf1.next, h⟩, FX rfl⟩
def Zjt (i1 : Int) (x2 : Z5) (x3 : Z5) : Option (Tern × Bool) :=
 (chk 24 i1).bind fun j5 => (chk 24 i1).bind fun j6 => (Zf4 (Vector.get x2 j5) (Vector.get x3 j6)).bind fun x7 => some (x7.1, x7.2)
theorem Yb0 : Q3 Tryz.prog 262 (rd (Z0 .i64)) (rp (Z1 24 Z2)) (rp (Z1 24 Z2)) (fun r => Z1c (rd Z2 r.1) (rd Z7 r.2)) Zjt := fun i1 x2 x3 r h => I0 Tryz.func262 rfl Tryz.ntmps262 rfl fun w H => by
 unfold Zjt at h
 refine SR <| Cv rfl (Zo 5 rfl rfl Z17) fun g4 => Ab rfl <| Nl <| sq ?_
 obtain ⟨j5, hj5, j6, hj6, x7, hx7, h⟩ := bs3 h
 refine AR Zz (by kernel_rfl) <| Zg rfl <| Sd (lo [1, 6] [] rfl fun S hs hr => Z6b rfl rfl Z1d (vh hs 1 rfl rfl) (vh hs 6 rfl rfl) hj5) <| SLp Zw rfl <| Zg rfl <| Sd (lo [2, 9] [] rfl fun S hs hr => Z6b rfl rfl Z1d (vh hs 2 rfl rfl) (vh hs 9 rfl rfl) hj6) <| SLp Zw rfl <| SCl [8, 11] (Y1r _ _ _ hx7) Zzn rfl <| Sd (lo [12] [] rfl fun S hs hr => Z1j rfl rfl (vh hs 12 rfl rfl)) <| Sd (lo [12] [] rfl fun S hs hr => Z1i rfl rfl (vh hs 12 rfl rfl)) <| SSt Zw 5 rfl <| SAs rfl <| Sn <| rt ?_
 cases h; exact Z1x Tryz.results262 rfl (Zx rfl (i := 5) rfl Zw) (Z4 rfl)
def Z7s (a1 : Z5) (b2 : Z5) : Option (Z5 × Bool) :=
 (Zc5 (fun x => Zjt x a1 b2)).bind fun x6 => some (x6.1, x6.2)
theorem Zot : Q2 Tryz.prog 203 (rd (Z1 24 Z2)) (rd (Z1 24 Z2)) (fun r => Z1c (rd (Z1 24 Z2) r.1) (rd Z7 r.2)) Z7s := fun a1 b2 r h => I0 Tryz.func203 rfl Tryz.ntmps203 rfl fun w H => by
 unfold Z7s at h
 refine SR <| Cv rfl (Zn 3 rfl rfl (vt rfl)) fun g3 => Cv rfl (Zn 4 rfl rfl (vt rfl)) fun g4 => Cv rfl (Zo 5 rfl rfl Z0n) fun g5 => Ab rfl <| Nl <| sq <| AW.freezeB 2 3 rfl rfl rfl <| AW.freezeB 3 4 rfl rfl rfl ?_
 obtain ⟨x6, hx6, h⟩ := Za h
 refine Rg <| Ac (Ztu (fs := []) (FAs := []) (cs := [.tmp 2, .tmp 3]) (CAs := [rp (Z1 24 Z2) a1, rp (Z1 24 Z2) b2]) (kx := (Z0 .i64)) (B := (fun (y : (Tern × Bool)) => Z1c (rd Z2 y.1) (rd Z7 y.2))) (fun x => Zjt x a1 b2) rfl rfl Ycf trivial ⟨vt rfl, vt rfl, trivial⟩ (fun x y h => Yb0 _ _ _ y h)) rfl <| Cl [6] (Zyy _ _ hx6) Zuh rfl <| Ac (Z1j rfl rfl (vt rfl)) rfl <| Ac (Z1i rfl rfl (vt rfl)) rfl <| Zd Zv 5 rfl <| As rfl <| Nl <| rt ?_
 cases h; exact Z1x Tryz.results203 rfl (Zx rfl (i := 5) rfl Zv) (Z4 rfl)
end Go.Proofs.YtknpgojdkobgjaaGreat.W
set_option maxRecDepth 4000
namespace Go.Proofs.YtknpgojdkobgjaaGreat.W
open Go Go.Wb
theorem Y70 : Ent Tryz.prog 157 := Ent.mk Tryz.func157 rfl rfl
theorem Y5p : Ent Tryz.prog 202 := Ent.mk Tryz.func202 rfl rfl
theorem Zn9 : Ent Tryz.prog 203 := Ent.mk Tryz.func203 rfl rfl
theorem Yei : Ent Tryz.prog 264 := Ent.mk Tryz.func264 rfl rfl
theorem Zui : Ent Tryz.prog 263 := Ent.mk Tryz.func263 rfl rfl
theorem Zp5 : Ent Tryz.prog 216 := Ent.mk Tryz.func216 rfl rfl
theorem Yb5 : Ent Tryz.prog 306 := Ent.mk Tryz.func306 rfl rfl
theorem Zvu : Ent Tryz.prog 305 := Ent.mk Tryz.func305 rfl rfl
def Zil (w1 : walk_way) (x2 : Flow) : Option (walk_way × Bool) :=
 (Zhn x2).bind fun x6 => (Zh7 w1.got x6).bind fun x7 => (bif (!x7.2) then some ((⟨(Vector.replicate 24 zTern), (Vector.replicate 24 zTern), [], []⟩ : walk_way), false) else (Z7s x7.1 w1.cube).bind fun x9 => some ({ w1 with cube := x9.1 }, x9.2))
theorem Yft : Q2 Tryz.prog 136 (rd Z1l) (rd Z0k) (fun r => Z1c (rd Z1l r.1) (rd Z7 r.2)) Zil := fun w1 x2 r h => I0 Tryz.func136 rfl Tryz.ntmps136 rfl fun w H => by
 unfold Zil at h
 refine SR <| Cv rfl (Zn 3 rfl rfl (vt rfl)) fun g3 => Cv rfl (Zn 4 rfl rfl (vt rfl)) fun g4 => Cv rfl (Zo 5 rfl rfl Zey) fun g5 => Ab rfl <| Nl <| sq ?_
 obtain ⟨x6, hx6, x7, hx7, h⟩ := bs2 h
 refine AR Zz (by kernel_rfl) <| SFd lwalk_way_1 Zh8 rfl <| Zu Z01 3 rfl <| Zu Z71 4 rfl <| SCl [11] (Y3v _ _ hx6) Y70 rfl <| SCl [10, 12] (Y9p _ _ _ hx7) Y5p rfl <| Sd (lo [13] [] rfl fun S hs hr => Zk (A := Z1c (rd (Z1 24 Z2) x7.1) (rd Z7 x7.2)) rfl rfl (vh hs 13 rfl rfl)) <| Sd (lo [8] [] rfl fun S hs hr => Z1j rfl rfl (vh hs 8 rfl rfl)) <| Sd (lo [8] [] rfl fun S hs hr => Z1i rfl rfl (vh hs 8 rfl rfl)) <| Sd (Z11 (us := [(6, Z1u 87 (Z1 24 Z2) (Vector.replicate 24 zTern))]) (ur := []) [] [] rfl fun S hs hr => Z4t rfl rfl rfl Z0n) <| Sd (Z11 (us := [(6, Z1u 87 (Z1 24 Z2) x7.1)]) (ur := []) [6, 14] [] rfl fun S hs hr => Z54 rfl rfl Zv ((hs 6 rfl).trans rfl) (vh hs 14 rfl rfl)) <| SAs rfl <| Sn <| AW.unpackP 6 7 rfl rfl fun g8 => sq <| SR <| Md rfl <| Ac (Z0s rfl rfl (vt rfl)) rfl <| Nl <| Cq rfl h (fun h => ?_) (fun h => ?_)
 ·refine SR <| Ac (opb (⟨(Vector.replicate 24 zTern), (Vector.replicate 24 zTern), [], []⟩ : walk_way) Zey rfl Zwi (pn rfl)) rfl <| Zd Z31 5 rfl <| Ab rfl <| Nl <| rt ?_
  cases h; exact Z1x Tryz.results136 rfl (Zx rfl (i := 5) rfl Z31) (Z4 rfl)
 ·refine sk <| sq ?_
  obtain ⟨x9, hx9, h⟩ := Za h
  refine Rg <| Ld Zv 7 rfl <| Zt lwalk_way_0 Zte rfl <| Ld Zv 3 rfl <| Cl [20, 22] (Zot _ _ _ hx9) Zn9 rfl <| Mt2 rfl <| Ac (Z1j rfl rfl (vt rfl)) rfl <| Ac (Z1i rfl rfl (vt rfl)) rfl <| Zt lwalk_way_0 Zte rfl <| Zd Zv 3 rfl <| As rfl <| Nl <| SR <| Ld Z31 3 rfl <| Md rfl <| Zd Z31 5 rfl <| As rfl <| Nl <| rt ?_
  cases h; exact Z1x Tryz.results136 rfl (Zx rfl (i := 5) rfl Z31) (Z4 rfl)
def Zl2 (i1 : Inst) (x2 : Int) : Option Bool :=
 some (decide (i1.Kind = x2))
theorem Y8a : Q2 Tryz.prog 264 (rd Z1a) (rp (Z0 .i64)) (rd Z7) Zl2 := fun i1 x2 r h => I0 Tryz.func264 rfl Tryz.ntmps264 rfl fun w H => by
 unfold Zl2 at h
 refine SR <| Cv rfl (Zn 3 rfl rfl (vt rfl)) fun g3 => Ab rfl <| Nl <| SR <| Zt lInst_0 Zyn rfl <| Ld Zq 3 rfl <| Lp1 Zq rfl <| Ac (Z0f rfl rfl (vt rfl) (vt rfl)) rfl <| As rfl <| Nl <| rt ?_
 cases h; exact Zc Tryz.results264 rfl (Z4 rfl)
def Zc6 (s1 : (List Inst)) (x2 : (Inst → Option Bool)) : Nat → Nat → Option Int
 | 0, i3 => some (-1)
 | m4 + 1, i3 => (lget s1 (i3 : Int)).bind fun x5 => (x2 x5).bind fun x6 => (bif x6 then some (i3 : Int) else (Zc6 s1 x2 m4) (i3 + 1))
def Zdh (s1 : (List Inst)) (x2 : (Inst → Option Bool)) : Option Int :=
 Zc6 s1 x2 ((s1.length : Int) : Int).toNat 0
theorem Y0o : Q2 Tryz.prog 263 (rd (Z3 Z1a)) (fn1 Tryz.prog Z1a Z7) (rd (Z0 .i64)) Zdh := fun s1 x2 r h => I0 Tryz.func263 rfl Tryz.ntmps263 rfl fun w H => by
 unfold Zdh at h
 refine SR <| Ak rfl <| Nl <| sq <| SR <| Md rfl <| Ac (Z09 rfl rfl Z8n (vt rfl)) rfl <| Mk rfl <| Nl <| bk <| LG (d := []) (ν := Nat × Nat) (fun (m4, i3) => (Cnt (s1.length : Int) i3 m4 ∧ Zc6 s1 x2 m4 i3 = some r, m4, [(0, rd (Z3 Z1a) s1), (1, fn1 Tryz.prog Z1a Z7 x2), (7, rd (Z0 .i64) (s1.length : Int)), (8, rd (Z0 .i64) (i3 : Int))], [])) (((s1.length : Int) : Int).toNat, 0) ⟨Cnt.start _, h⟩ (FX rfl) ?_
 rintro ⟨m4, i3⟩ ⟨hsf1, h⟩
 dsimp only at hsf1 h ⊢
 cases m4 with
 | zero =>
  unfold Zc6 at h
  refine SR <| Ac (Zl rfl rfl (vt rfl) (vt rfl)) rfl <| Nl <| sq <| Cn rfl (fun hc => absurd (of_decide_eq_true hc) hsf1.zero) (fun hc => ?_)
  refine xt <| SR <| Ak rfl <| Nl <| rt ?_
  cases h; exact Zc Tryz.results263 rfl (Z4 rfl)
 | succ m4 =>
  unfold Zc6 at h
  refine SR <| Ac (Zl rfl rfl (vt rfl) (vt rfl)) rfl <| Nl <| sq <| Cn rfl (fun hc => ?_) (fun hc => absurd hsf1.succ (of_decide_eq_false hc))
  have hlti3 := of_decide_eq_true hc
  refine sk <| sq <| bk <| SR <| Md rfl <| As rfl <| Nl <| sq ?_
  obtain ⟨x5, hx5, x6, hx6, h⟩ := bs2 h
  refine Rg <| Ac (Zk (A := fn1 Tryz.prog Z1a Z7 x2) rfl rfl (vt rfl)) rfl <| Md rfl <| Md rfl <| Ac (Z03 rfl rfl Z8n (vt rfl) (vt rfl) hx5) rfl <| Lp1 Z32 rfl <| Ac (Za0 hx6 rfl rfl (vt rfl) (vt rfl)) rfl <| Nl <| Cq rfl h (fun h => ?_) (fun h => ?_)
  ·refine SR <| Md rfl <| As rfl <| Nl <| rt ?_
   cases h; exact Zc Tryz.results263 rfl (Z4 rfl)
  ·refine sk <| Rg <| Ac (Z21 (t := 7) rfl rfl (vt rfl) (vk rfl) (vt rfl) hlti3) rfl <| Md rfl <| Nl ?_
   exact ⟨(_, _), Nat.lt_succ_self _, ⟨hsf1.next, h⟩, FX rfl⟩
def Z6g (s : List Action) : Option (List Action) := Z0y [] s
theorem Ztf (s : List Action) (r : List Action) (h : Z6g s = some r) : Con Tryz.prog 216 [rd (Z3 Z8) s] emp (fun v => Zj v) (fun v => Zh v 121 Z8 r) := by
 refine Con.intro0 Tryz.func216 rfl Tryz.ntmps216 rfl fun w H => ?_
 unfold Z6g at h
 refine AW.newnil 1001 121 Z8 <| SR <| Ac (Z04 (A := Zj (.slice none 0 0)) rfl rfl vc) rfl <| Nl <| sq <| SR <| Md rfl <| Ct rfl (Zl3 rfl rfl Z08 (vt rfl)) ?_
 rintro _ ⟨b, hb, rfl⟩
 refine Nl <| Cn rfl (fun hc => ?_) (fun hc => ?_)
 ·obtain rfl := hb hc
  refine SR <| Ac (Z04 (A := Zj (.slice none 0 0)) rfl rfl vc) rfl <| Nl <| rt ?_
  obtain rfl := (Z9v h).2
  exact Z50 (i := 1001) Tryz.results216 rfl rfl rfl
 ·refine sk <| SR <| Cv rfl (Z43 1002 (ps := []) (l := []) rfl rfl Z08 Z4e rfl rfl rfl rfl) fun v1 => Md rfl <| Cv rfl (Z29 1002 h rfl rfl Z7d (vt rfl) rfl (vt rfl)) fun v2 => Aw rfl <| Nl <| rt ?_
  exact Z50 (i := 1002) Tryz.results216 rfl rfl rfl
theorem Zwm (s : List Action) (r : List Action) (h : Z6g s = some r) : PCon Tryz.prog 216 [rd (Z3 Z8) s] (rd (Z3 Z8) r) := PCon.of_row (Ztf s r h)
def Z8o (l1 : (List Inst)) (k2 : Int) : Option (Inst × Bool) :=
 (Zdh l1 (fun x => Zl2 x k2)).bind fun x5 => (bif (decide (x5 < 0)) then some ((⟨0, 0, Z00, Z00, []⟩ : Inst), false) else (lget l1 x5).bind fun x6 => (Z6g x6.Acts).bind fun x8 => some ({ x6 with Acts := x8 }, true))
theorem Zib : Q2 Tryz.prog 204 (rd (Z3 Z1a)) (rd (Z0 .i64)) (fun r => Z1c (rd Z1a r.1) (rd Z7 r.2)) Z8o := fun l1 k2 r h => I0 Tryz.func204 rfl Tryz.ntmps204 rfl fun w H => by
 unfold Z8o at h
 refine SR <| Cv rfl (Zn 4 rfl rfl (vt rfl)) fun g3 => Cv rfl (Zo 5 rfl rfl Z3s) fun g4 => Ab rfl <| Nl <| sq <| AW.freezeB 3 4 rfl rfl rfl ?_
 obtain ⟨x5, hx5, h⟩ := Za h
 refine Rg <| Md rfl <| Ac (Zad (cs := [.tmp 3]) (CAs := [rp (Z0 .i64) k2]) (fun x => Zl2 x k2) rfl rfl Yei ⟨vt rfl, trivial⟩ (fun x y h => Y8a _ _ y h)) rfl <| Cl [8, 9] (Y0o _ _ _ hx5) Zui rfl <| As rfl <| Nl <| sq <| SR <| Md rfl <| Ac (Zl rfl rfl (vt rfl) (vk rfl)) rfl <| Nl <| Cq rfl h (fun h => ?_) (fun h => ?_)
 ·refine SR <| Ac (opb (⟨0, 0, Z00, Z00, []⟩ : Inst) Z3s rfl Zln (pn rfl)) rfl <| Zd Z32 5 rfl <| Ab rfl <| Nl <| rt ?_
  cases h; exact Z1x Tryz.results204 rfl (Zx rfl (i := 5) rfl Z32) (Z4 rfl)
 ·refine sk <| sq ?_
  obtain ⟨x6, hx6, h⟩ := Za h
  refine Rg <| Md rfl <| Md rfl <| Ac (Z03 rfl rfl Z8n (vt rfl) (vt rfl) hx6) rfl <| Lp1 Z32 rfl <| Cv rfl (Zo 8 rfl rfl Z3s) fun g7 => Zd Z32 8 rfl <| Nl <| sq ?_
  obtain ⟨x8, hx8, h⟩ := Za h
  refine Rg <| Zt lInst_4 Zcy rfl <| Ld Z42 8 rfl <| Cl [19] (Zwm _ _ hx8) Zp5 rfl <| Zt lInst_4 Zcy rfl <| Zd Z42 8 rfl <| Nl <| SR <| Ld Z32 8 rfl <| Zd Z32 5 rfl <| Ab rfl <| Nl <| rt ?_
  cases h; exact Z1x Tryz.results204 rfl (Zx rfl (i := 5) rfl Z32) (Z4 rfl)
def Zgf (i1 : Int) (x2 : Z5) : Option Tern :=
 (chk 24 i1).bind fun j4 => (Z5x (Vector.get x2 j4)).bind fun x5 => some x5
theorem Yf4 : Q2 Tryz.prog 306 (rd (Z0 .i64)) (rp (Z1 24 Z2)) (rd Z2) Zgf := fun i1 x2 r h => I0 Tryz.func306 rfl Tryz.ntmps306 rfl fun w H => by
 unfold Zgf at h
 refine SR <| Cv rfl (Zo 4 rfl rfl Z17) fun g3 => Nl <| sq ?_
 obtain ⟨j4, hj4, x5, hx5, h⟩ := bs2 h
 refine Rg <| Md rfl <| Ac (Z6b rfl rfl Z3h (vt rfl) (vt rfl) hj4) rfl <| Lp1 Zw rfl <| Cl [6] (Z88 _ _ hx5) Z7l rfl <| Zd Zw 4 rfl <| Nl <| rt ?_
 cases h; exact Zc Tryz.results306 rfl (Zx rfl (i := 4) rfl Zw)
def Z8w (x1 : (Int → Option Tern)) : Nat → Nat → Z5 → Option Z5
 | 0, i6, b5 => some b5
 | m7 + 1, i6, b5 => (x1 (i6 : Int)).bind fun x8 => (chk 24 (i6 : Int)).bind fun j9 => (Z8w x1 m7) (i6 + 1) (Vector.set b5 j9.1 x8 j9.2)
def Zfv (x1 : (Int → Option Tern)) : Option Z5 :=
 Z8w x1 (24 : Int).toNat 0 (Vector.replicate 24 zTern)
theorem Zu4 : Q1 Tryz.prog 305 (fn1 Tryz.prog (Z0 .i64) Z2) (rd (Z1 24 Z2)) Zfv := fun x1 r h => I0 Tryz.func305 rfl Tryz.ntmps305 rfl fun w H => by
 unfold Zfv at h
 refine SR <| Cv rfl (Zo 3 rfl rfl Z30) fun g2 => Nl <| SR <| Cv rfl (Zo 4 rfl rfl Z30) fun g3 => Nl <| sq <| SR <| Mk rfl <| Nl <| bk <| LG (d := []) (ν := Nat × Nat × Z5) (fun (m7, i6, b5) => (Cnt 24 i6 m7 ∧ Z8w x1 m7 i6 b5 = some r, m7, [(0, fn1 Tryz.prog (Z0 .i64) Z2 x1), (2, Ze g2 (Lens.id (Z1 24 Z2))), (3, Ze g3 (Lens.id (Z1 24 Z2))), (5, rd (Z0 .i64) (i6 : Int))], [(3, Zf g2 101 (Z1 24 Z2) (Vector.replicate 24 zTern)), (4, Zf g3 101 (Z1 24 Z2) b5)])) ((24 : Int).toNat, 0, (Vector.replicate 24 zTern)) ⟨Cnt.start _, h⟩ (FX rfl) ?_
 rintro ⟨m7, i6, b5⟩ ⟨hsf1, h⟩
 dsimp only at hsf1 h ⊢
 cases m7 with
 | zero =>
  unfold Z8w at h
  refine SR <| Ac (Zl rfl rfl (vt rfl) (vk rfl)) rfl <| Nl <| sq <| Cn rfl (fun hc => absurd (of_decide_eq_true hc) hsf1.zero) (fun hc => ?_)
  refine xt <| SR <| Ld Z01 4 rfl <| Zd Z01 3 rfl <| Nl <| rt ?_
  cases h; exact Zc Tryz.results305 rfl (Zx rfl (i := 3) rfl Z01)
 | succ m7 =>
  unfold Z8w at h
  refine SR <| Ac (Zl rfl rfl (vt rfl) (vk rfl)) rfl <| Nl <| sq <| Cn rfl (fun hc => ?_) (fun hc => absurd hsf1.succ (of_decide_eq_false hc))
  have hlti6 := of_decide_eq_true hc
  refine sk <| sq <| bk <| SR <| Md rfl <| As rfl <| Nl ?_
  obtain ⟨x8, hx8, j9, hj9, h⟩ := bs2 h
  refine Rg <| Md rfl <| Ac (Zk (A := fn1 Tryz.prog (Z0 .i64) Z2 x1) rfl rfl (vt rfl)) rfl <| Md rfl <| Ac (Za0 hx8 rfl rfl (vt rfl) (vt rfl)) rfl <| Ac (Z0v rfl rfl Z3h (vt rfl) (vt rfl) hj9) rfl <| Zd Zw 4 rfl <| Nl <| Rg <| Ac (Z70 rfl rfl (vt rfl) (vk rfl) rfl hlti6) rfl <| Md rfl <| Nl ?_
  exact ⟨(_, _, _), Nat.lt_succ_self _, ⟨hsf1.next, h⟩, FX rfl⟩
def Z99 (x1 : Z5) : Option Z5 :=
 (Zfv (fun x => Zgf x x1)).bind fun x4 => some x4
theorem Znx : Q1 Tryz.prog 268 (rd (Z1 24 Z2)) (rd (Z1 24 Z2)) Z99 := fun x1 r h => I0 Tryz.func268 rfl Tryz.ntmps268 rfl fun w H => by
 unfold Z99 at h
 refine SR <| Cv rfl (Zn 2 rfl rfl (vt rfl)) fun g2 => Cv rfl (Zo 3 rfl rfl Z30) fun g3 => Nl <| sq <| AW.freezeB 1 2 rfl rfl rfl ?_
 obtain ⟨x4, hx4, h⟩ := Za h
 refine Rg <| Ac (Zad (cs := [.tmp 1]) (CAs := [rp (Z1 24 Z2) x1]) (fun x => Zgf x x1) rfl rfl Yb5 ⟨vt rfl, trivial⟩ (fun x y h => Yf4 _ _ y h)) rfl <| Cl [3] (Zu4 _ _ hx4) Zvu rfl <| Zd Z01 3 rfl <| Nl <| rt ?_
 cases h; exact Zc Tryz.results268 rfl (Zx rfl (i := 3) rfl Z01)
def Zje (a1 : Tern) (b2 : Tern) : Option Tern :=
 (Z5x a1).bind fun x6 => (Z5x b2).bind fun x7 => (Zal x6.Value x7.Mask).bind fun x8 => (Z7t x8 x7.Value).bind fun x9 => (Z7t x6.Mask x7.Mask).bind fun x10 => some (⟨x9, x10⟩ : Tern)
theorem Y06 : Q2 Tryz.prog 270 (rd Z2) (rd Z2) (rd Z2) Zje := fun a1 b2 r h => I0 Tryz.func270 rfl Tryz.ntmps270 rfl fun w H => by
 unfold Zje at h
 refine SR <| Cv rfl (Zn 3 rfl rfl (vt rfl)) fun g3 => Cv rfl (Zn 4 rfl rfl (vt rfl)) fun g4 => Cv rfl (Zo 5 rfl rfl Z17) fun g5 => Nl <| sq ?_
 obtain ⟨x6, hx6, x7, hx7, h⟩ := bs2 h
 refine AR Zz (by kernel_rfl) <| Zu Zw 3 rfl <| SCl [5] (Z88 _ _ hx6) Z7l rfl <| Zu Zw 4 rfl <| SCl [7] (Z88 _ _ hx7) Z7l rfl <| SSt Zw 3 rfl <| SSt Zw 4 rfl <| Sn <| sq ?_
 obtain ⟨x8, hx8, x9, hx9, x10, hx10, h⟩ := bs3 h
 refine AR Zz (by kernel_rfl) <| SFd lTern_0 Z1y rfl <| Zu Zs 3 rfl <| SFd lTern_1 Z1h rfl <| Zu Zs 4 rfl <| SCl [10, 12] (Zh1 _ _ _ hx8) Zhi rfl <| SFd lTern_0 Z1y rfl <| Zu Zs 4 rfl <| SCl [13, 15] (Zf0 _ _ _ hx9) Zdv rfl <| SFd lTern_1 Z1h rfl <| Zu Zs 3 rfl <| SFd lTern_1 Z1h rfl <| Zu Zs 4 rfl <| SCl [18, 20] (Zf0 _ _ _ hx10) Zdv rfl <| Sd (lo [16, 21] [] rfl fun S hs hr => opb (⟨x9, x10⟩ : Tern) Z17 rfl Z3r (pc Z4y (vh hs 16 rfl rfl) <| pc Z51 (vh hs 21 rfl rfl) <| pn rfl)) <| SSt Zw 5 rfl <| Sn <| rt ?_
 cases h; exact Zc Tryz.results270 rfl (Zx rfl (i := 5) rfl Zw)
end Go.Proofs.YtknpgojdkobgjaaGreat.W
set_option maxRecDepth 4000
namespace Go.Proofs.YtknpgojdkobgjaaGreat.W
open Go Go.Wb
theorem Znj : Ent Tryz.prog 268 := Ent.mk Tryz.func268 rfl rfl
theorem Zw3 : Ent Tryz.prog 270 := Ent.mk Tryz.func270 rfl rfl
theorem e77 : Ent Tryz.prog 77 := Ent.mk Tryz.func77 rfl rfl
theorem Zkv : Ent Tryz.prog 207 := Ent.mk Tryz.func207 rfl rfl
theorem Zp6 : Ent Tryz.prog 327 := Ent.mk Tryz.func327 rfl rfl
theorem Y4i : Ent Tryz.prog 332 := Ent.mk Tryz.func332 rfl rfl
theorem Y7j : Ent Tryz.prog 287 := Ent.mk Tryz.func287 rfl rfl
theorem Y6c : Ent Tryz.prog 298 := Ent.mk Tryz.func298 rfl rfl
theorem Yd0 : Ent Tryz.prog 304 := Ent.mk Tryz.func304 rfl rfl
theorem Y8i : Ent Tryz.prog 303 := Ent.mk Tryz.func303 rfl rfl
theorem Y3e : Ent Tryz.prog 265 := Ent.mk Tryz.func265 rfl rfl
def Z8g (x1 : Z5) (x2 : Int) (x3 : Wide) (m4 : Wide) : Option Z5 :=
 (Z99 x1).bind fun x9 => (Z7a x2).bind fun x10 => (bif x10 then (chk 24 x2).bind fun j11 => (Zje (Vector.get x9 j11) (⟨x3, m4⟩ : Tern)).bind fun x12 => (chk 24 x2).bind fun j13 => some (Vector.set x9 j13.1 x12 j13.2) else some x9)
theorem Zjh : Q4 Tryz.prog 207 (rd (Z1 24 Z2)) (rd (Z0 .i64)) (rd Zp) (rd Zp) (rd (Z1 24 Z2)) Z8g := fun x1 x2 x3 m4 r h => I0 Tryz.func207 rfl Tryz.ntmps207 rfl fun w H => by
 unfold Z8g at h
 refine SR <| Cv rfl (Zn 5 rfl rfl (vt rfl)) fun g5 => Cv rfl (Zn 7 rfl rfl (vt rfl)) fun g6 => Cv rfl (Zn 8 rfl rfl (vt rfl)) fun g7 => Cv rfl (Zo 9 rfl rfl Z30) fun g8 => Nl <| sq ?_
 obtain ⟨x9, hx9, h⟩ := Za h
 refine Rg <| Ld Z01 5 rfl <| Cl [9] (Znx _ _ hx9) Znj rfl <| Zd Z01 5 rfl <| Nl <| sq <| sq ?_
 obtain ⟨x10, hx10, h⟩ := Za h
 refine Rg <| Md rfl <| Cl [11] (Zmh _ _ hx10) Zno rfl <| Nl <| Cq rfl h (fun h => ?_) (fun h => ?_)
 ·obtain ⟨j11, hj11, x12, hx12, j13, hj13, h⟩ := bs3 h
  refine AR Zz (by kernel_rfl) <| Zg rfl <| Zg rfl <| Sd (lo [4, 14] [] rfl fun S hs hr => Z0v rfl rfl Z3h (vh hs 4 rfl rfl) (vh hs 14 rfl rfl) hj11) <| Zu Zw 5 rfl <| Zu Zs 7 rfl <| Zu Zs 8 rfl <| Sd (lo [17, 18] [] rfl fun S hs hr => opb (⟨x3, m4⟩ : Tern) Z17 rfl Z3r (pc Z4y (vh hs 17 rfl rfl) <| pc Z51 (vh hs 18 rfl rfl) <| pn rfl)) <| SCl [16, 19] (Y06 _ _ _ hx12) Zw3 rfl <| Sd (lo [4, 13] [] rfl fun S hs hr => Z0v rfl rfl Z3h (vh hs 4 rfl rfl) (vh hs 13 rfl rfl) hj13) <| SSt Zw 5 rfl <| Sn <| SR <| Ld Z01 5 rfl <| Zd Z01 9 rfl <| Nl <| rt ?_
  cases h; exact Zc Tryz.results207 rfl (Zx rfl (i := 9) rfl Z01)
 ·refine sk <| SR <| Ld Z01 5 rfl <| Zd Z01 9 rfl <| Nl <| rt ?_
  cases h; exact Zc Tryz.results207 rfl (Zx rfl (i := 9) rfl Z01)
def Z9o (i1 : Int) : Option Wide :=
 (bif ((decide (i1 < 0)) || (decide (i1 > 127))) then some (⟨0, 0⟩ : Wide) else (Zec .i64 i1 64).bind fun q4 => (Zcl i1 64).bind fun q5 => (Z86 (1 : BitVec 64) q5).bind fun q6 => (chk 2 q4).bind fun j7 => some (⟨(Vector.get (Vector.set (Vector.replicate 2 0) j7.1 q6 j7.2) (⟨1, by decide⟩ : _root_.Fin 2)), (Vector.get (Vector.set (Vector.replicate 2 0) j7.1 q6 j7.2) (⟨0, by decide⟩ : _root_.Fin 2))⟩ : Wide))
theorem Zlu : Q1 Tryz.prog 327 (rd (Z0 .i64)) (rd Zp) Z9o := fun i1 r h => I0 Tryz.func327 rfl Tryz.ntmps327 rfl fun w H => by
 unfold Z9o at h
 refine SR <| Cv rfl (Zo 3 rfl rfl Z1n) fun g2 => Nl <| SR <| Cv rfl (Zo 4 rfl rfl Y5s) fun g3 => Nl <| sq <| SR <| Md rfl <| Ac (Zl rfl rfl (vt rfl) (vk rfl)) rfl <| Md rfl <| Gd rfl (fun hq => Zk (A := rd (Z0 .i64) i1) rfl rfl (vt rfl)) <| Gd rfl (fun hq => Z3j rfl rfl (Z6 rfl hq) (vk rfl)) <| Ac (Z4g rfl rfl (vt rfl) (vt rfl)) rfl <| Nl <| Cq rfl h (fun h => ?_) (fun h => ?_)
 ·refine SR <| Ac (opb (⟨0, 0⟩ : Wide) Z1n rfl Z3o (pn rfl)) rfl <| Zd Zs 3 rfl <| Nl <| rt ?_
  cases h; exact Zc Tryz.results327 rfl (Zx rfl (i := 3) rfl Zs)
 ·refine sk <| sq ?_
  obtain ⟨q4, hq4, q5, hq5, q6, hq6, j7, hj7, h⟩ := bs4 h
  refine Rg <| Md rfl <| Ac (Y6u rfl rfl (vt rfl) (vk rfl) hq4) rfl <| Md rfl <| Ac (Ygz rfl rfl (vt rfl) (vk rfl) hq5) rfl <| Ac (Znr rfl rfl (vku (1 : BitVec 64) rfl) (vt rfl) hq6) rfl <| Ac (Z0v rfl rfl Zt3 (vt rfl) (vt rfl) hj7) rfl <| Zd Z19 4 rfl <| Nl <| SR <| Ac (Z0v rfl rfl Zt3 (vt rfl) (vk rfl) rfl) rfl <| Ld Z19 4 rfl <| Ac (Z0v rfl rfl Zt3 (vt rfl) (vk rfl) rfl) rfl <| Ld Z19 4 rfl <| Ac (opb (⟨(Vector.get (Vector.set (Vector.replicate 2 0) j7.1 q6 j7.2) (⟨1, by decide⟩ : _root_.Fin 2)), (Vector.get (Vector.set (Vector.replicate 2 0) j7.1 q6 j7.2) (⟨0, by decide⟩ : _root_.Fin 2))⟩ : Wide) Z1n rfl Z3o (pc Z6m (vt rfl) <| pc Z6c (vt rfl) <| pn rfl)) rfl <| Zd Zs 3 rfl <| Nl <| rt ?_
  cases h; exact Zc Tryz.results327 rfl (Zx rfl (i := 3) rfl Zs)
def Zkc (a1 : Action) : Option Z5 :=
 (Zgm).bind fun x4 => (bif (decide (a1.Kind = 25)) then (Zfg a1.Oxm).bind fun x6 => (Z8g x4 a1.Oxm.Field x6.Value x6.Mask).bind fun x8 => some x8 else (bif (decide (a1.Kind = 17)) then (Z9o 12).bind fun x9 => (Z9o 12).bind fun x10 => (Z8g x4 5 x9 x10).bind fun x11 => some x11 else (bif (decide (a1.Kind = 18)) then (Z7x 13).bind fun x12 => (Z8g x4 5 (⟨0, 0⟩ : Wide) x12).bind fun x13 => (Z7x 3).bind fun x14 => (Z8g x13 6 (⟨0, 0⟩ : Wide) x14).bind fun x15 => some x15 else some x4)))
theorem Ycg : Q1 Tryz.prog 287 (rd Z8) (rd (Z1 24 Z2)) Zkc := fun a1 r h => I0 Tryz.func287 rfl Tryz.ntmps287 rfl fun w H => by
 unfold Zkc at h
 refine SR <| Cv rfl (Zn 2 rfl rfl (vt rfl)) fun g2 => Cv rfl (Zo 3 rfl rfl Z30) fun g3 => Nl <| sq ?_
 obtain ⟨x4, hx4, h⟩ := Za h
 refine Rg <| Cl [] (Ztt _ hx4) e77 rfl <| Cv rfl (Zo 4 rfl rfl Z30) fun g5 => Zd Z01 4 rfl <| Nl <| sq <| SR <| Zt lAction_0 Z4o rfl <| Ld Zq 2 rfl <| Nl <| bk <| SR <| Ac (Z0f rfl rfl (vt rfl) (vk rfl)) rfl <| As rfl <| Nl <| Cq rfl h (fun h => ?_) (fun h => ?_)
 ·refine sq ?_
  obtain ⟨x6, hx6, h⟩ := Za h
  refine Rg <| Zt Z5r Z6u rfl <| Ld Z8m 2 rfl <| Cl [11] (Zxr _ _ hx6) Zyx rfl <| Cv rfl (Zo 5 rfl rfl Z17) fun g7 => Zd Zw 5 rfl <| Nl ?_
  obtain ⟨x8, hx8, h⟩ := Za h
  refine Rg <| Ld Z01 4 rfl <| Zt Z5r Z6u rfl <| Zt Z40 Z49 rfl <| Ld Zq 2 rfl <| Zt lTern_0 Z1y rfl <| Ld Zs 5 rfl <| Zt lTern_1 Z1h rfl <| Ld Zs 5 rfl <| Cl [13, 16, 18, 20] (Zjh _ _ _ _ _ hx8) Zkv rfl <| Zd Z01 4 rfl <| Nl <| SR <| Ld Z01 4 rfl <| Zd Z01 3 rfl <| Nl <| rt ?_
  cases h; exact Zc Tryz.results287 rfl (Zx rfl (i := 3) rfl Z01)
 ·refine SR <| Ac (Z0f rfl rfl (vt rfl) (vk rfl)) rfl <| As rfl <| Nl <| Cq rfl h (fun h => ?_) (fun h => ?_)
  ·obtain ⟨x9, hx9, x10, hx10, x11, hx11, h⟩ := bs3 h
   refine AR Zz (by kernel_rfl) <| Zu Z01 4 rfl <| Sd (lo [] [] rfl fun S hs hr => Z0b (xs := [.const (Value.int IntKind.i64 12)]) (Zlu _ _ hx9) Zp6 rfl rfl ⟨vk rfl, trivial⟩) <| Sd (lo [] [] rfl fun S hs hr => Z0b (xs := [.const (Value.int IntKind.i64 12)]) (Zlu _ _ hx10) Zp6 rfl rfl ⟨vk rfl, trivial⟩) <| Sd (lo [24, 25, 26] [] rfl fun S hs hr => Z0b (xs := [.tmp 24, .const (Value.int IntKind.i64 5), .tmp 25, .tmp 26]) (Zjh _ _ _ _ _ hx11) Zkv rfl rfl ⟨vt ((hs 24 rfl).trans rfl), vk rfl, vt ((hs 25 rfl).trans rfl), vt ((hs 26 rfl).trans rfl), trivial⟩) <| SSt Z01 4 rfl <| Sn <| SR <| Ld Z01 4 rfl <| Zd Z01 3 rfl <| Nl <| rt ?_
   cases h; exact Zc Tryz.results287 rfl (Zx rfl (i := 3) rfl Z01)
  ·refine SR <| Ac (Z0f rfl rfl (vt rfl) (vk rfl)) rfl <| As rfl <| Nl <| Cq rfl h (fun h => ?_) (fun h => ?_)
   ·refine sq ?_
    obtain ⟨x12, hx12, x13, hx13, h⟩ := bs2 h
    refine AR Zz (by kernel_rfl) <| Zu Z01 4 rfl <| Sd (lo [] [] rfl fun S hs hr => opb (⟨0, 0⟩ : Wide) Z1n rfl Z3o (pn rfl)) <| Sd (lo [] [] rfl fun S hs hr => Z0b (xs := [.const (Value.int IntKind.i64 13)]) (Zpw _ _ hx12) Zrq rfl rfl ⟨vk rfl, trivial⟩) <| Sd (lo [30, 31, 32] [] rfl fun S hs hr => Z0b (xs := [.tmp 30, .const (Value.int IntKind.i64 5), .tmp 31, .tmp 32]) (Zjh _ _ _ _ _ hx13) Zkv rfl rfl ⟨vt ((hs 30 rfl).trans rfl), vk rfl, vt ((hs 31 rfl).trans rfl), vt ((hs 32 rfl).trans rfl), trivial⟩) <| SSt Z01 4 rfl <| Sn ?_
    obtain ⟨x14, hx14, x15, hx15, h⟩ := bs2 h
    refine AR Zz (by kernel_rfl) <| Zu Z01 4 rfl <| Sd (lo [] [] rfl fun S hs hr => opb (⟨0, 0⟩ : Wide) Z1n rfl Z3o (pn rfl)) <| Sd (lo [] [] rfl fun S hs hr => Z0b (xs := [.const (Value.int IntKind.i64 3)]) (Zpw _ _ hx14) Zrq rfl rfl ⟨vk rfl, trivial⟩) <| Sd (lo [34, 35, 36] [] rfl fun S hs hr => Z0b (xs := [.tmp 34, .const (Value.int IntKind.i64 6), .tmp 35, .tmp 36]) (Zjh _ _ _ _ _ hx15) Zkv rfl rfl ⟨vt ((hs 34 rfl).trans rfl), vk rfl, vt ((hs 35 rfl).trans rfl), vt ((hs 36 rfl).trans rfl), trivial⟩) <| SSt Z01 4 rfl <| Sn <| SR <| Ld Z01 4 rfl <| Zd Z01 3 rfl <| Nl <| rt ?_
    cases h; exact Zc Tryz.results287 rfl (Zx rfl (i := 3) rfl Z01)
   ·refine sk <| SR <| Ld Z01 4 rfl <| Zd Z01 3 rfl <| Nl <| rt ?_
    cases h; exact Zc Tryz.results287 rfl (Zx rfl (i := 3) rfl Z01)
def Zdp (i1 : Int) (x2 : Z5) (x3 : Z5) : Option Tern :=
 (chk 24 i1).bind fun j5 => (chk 24 i1).bind fun j6 => (Zje (Vector.get x2 j5) (Vector.get x3 j6)).bind fun x7 => some x7
theorem Yeo : Q3 Tryz.prog 332 (rd (Z0 .i64)) (rp (Z1 24 Z2)) (rp (Z1 24 Z2)) (rd Z2) Zdp := fun i1 x2 x3 r h => I0 Tryz.func332 rfl Tryz.ntmps332 rfl fun w H => by
 unfold Zdp at h
 refine SR <| Cv rfl (Zo 5 rfl rfl Z17) fun g4 => Nl <| sq ?_
 obtain ⟨j5, hj5, j6, hj6, x7, hx7, h⟩ := bs3 h
 refine AR Zz (by kernel_rfl) <| Zg rfl <| Sd (lo [1, 5] [] rfl fun S hs hr => Z6b rfl rfl Z3h (vh hs 1 rfl rfl) (vh hs 5 rfl rfl) hj5) <| SLp Zw rfl <| Zg rfl <| Sd (lo [2, 8] [] rfl fun S hs hr => Z6b rfl rfl Z3h (vh hs 2 rfl rfl) (vh hs 8 rfl rfl) hj6) <| SLp Zw rfl <| SCl [7, 10] (Y06 _ _ _ hx7) Zw3 rfl <| SSt Zw 5 rfl <| Sn <| rt ?_
 cases h; exact Zc Tryz.results332 rfl (Zx rfl (i := 5) rfl Zw)
def Zkx (a1 : Z5) (b2 : Z5) : Option Z5 :=
 (Zfv (fun x => Zdp x a1 b2)).bind fun x6 => some x6
theorem Y9i : Q2 Tryz.prog 298 (rd (Z1 24 Z2)) (rd (Z1 24 Z2)) (rd (Z1 24 Z2)) Zkx := fun a1 b2 r h => I0 Tryz.func298 rfl Tryz.ntmps298 rfl fun w H => by
 unfold Zkx at h
 refine SR <| Cv rfl (Zn 3 rfl rfl (vt rfl)) fun g3 => Cv rfl (Zn 4 rfl rfl (vt rfl)) fun g4 => Cv rfl (Zo 5 rfl rfl Z30) fun g5 => Nl <| sq <| AW.freezeB 2 3 rfl rfl rfl <| AW.freezeB 3 4 rfl rfl rfl ?_
 obtain ⟨x6, hx6, h⟩ := Za h
 refine Rg <| Ac (Zad (cs := [.tmp 2, .tmp 3]) (CAs := [rp (Z1 24 Z2) a1, rp (Z1 24 Z2) b2]) (fun x => Zdp x a1 b2) rfl rfl Y4i ⟨vt rfl, vt rfl, trivial⟩ (fun x y h => Yeo _ _ _ y h)) rfl <| Cl [5] (Zu4 _ _ hx6) Zvu rfl <| Zd Z01 5 rfl <| Nl <| rt ?_
 cases h; exact Zc Tryz.results298 rfl (Zx rfl (i := 5) rfl Z01)
def Zcw (t1 : Z5e) (b7 : Atom) : Option Z5e :=
 (Z0y t1.atoms [b7]).bind fun l8 => some (⟨t1.got, l8⟩ : Z5e)
def Zca (t1 : Z5e) (a4 : Action) : Option Z5e :=
 (bif (decide (a4.Kind = 0)) then (bif (decide (a4.Port = 4294967293)) then Zcw t1 { { (⟨t1.got, false, 0, 0⟩ : Atom) with Port := a4.Port } with Max := a4.Max } else Zcw t1 { (⟨t1.got, false, 0, 0⟩ : Atom) with Port := a4.Port }) else (bif (decide (a4.Kind = 22)) then Zcw t1 { { (⟨t1.got, false, 0, 0⟩ : Atom) with Group := true } with Port := a4.Group } else (Zkc a4).bind fun x10 => (Zkx t1.got x10).bind fun x11 => some (⟨x11, t1.atoms⟩ : Z5e)))
theorem Ydp (g2 gT : Nat) (t1 : Z5e) (a4 : Action) (r : Z5e) (h : Zca t1 a4 = some r) : Con Tryz.prog 304 [Ze g2 (Lens.id Z53), rd Z8 a4] (Z4x g2 gT Z53 (fun v => (⟨t1.got, v⟩ : atom_trace_o1)) 126 Z05 t1.atoms) (fun _ : Unit => top) (fun _ => Z4x g2 gT Z53 (fun v => (⟨r.got, v⟩ : atom_trace_o1)) 126 Z05 r.atoms) := by
 refine Con.intro Tryz.func304 rfl Tryz.ntmps304 rfl fun w H X => ?_
 unfold Zca at h
 refine AW.unboxF 0 2001 (by decide) rfl rfl fun v3 => SR <| Cv rfl (Zn 4 rfl rfl (vt rfl)) fun g5 => Nl <| SR <| Mp rfl <| Nc rfl <| Zt latom_trace_o1_0 Zm5 rfl <| Ld Z01 0 rfl <| Ac (opb (⟨t1.got, false, 0, 0⟩ : Atom) Z55 rfl Zta (pc Zs3 (vt rfl) <| pn rfl)) rfl <| Cv rfl (Zo 5 rfl rfl Z55) fun g6 => Zd Z5w 5 rfl <| Nl ?_
 refine JN (d := []) (ν := Atom) (fun b7 => (Zcw t1 b7 = some r, [(0, Ze g2 (Lens.id Z53)), (4, Ze g6 (Lens.id Z05))], [(0, Zf g2 gT Z53 (⟨t1.got, v3⟩ : atom_trace_o1)), (5, Zf g6 126 Z05 b7), (2001, Zh v3 126 Z05 t1.atoms)])) ?hx1 ?hy1
 case hy1 =>
  intro b7 h
  dsimp only at h ⊢
  unfold Zcw at h
  obtain ⟨l8, hl8, h⟩ := Za h
  refine AW.endT <| AR Zz (by kernel_rfl) <| SMp rfl <| SMp rfl <| SNc rfl <| SFd Zgv Zpx rfl <| Sd (lo [42] [0] rfl fun S hs hr => Zz4 v3 rfl rfl Zs2 (vh hs 42 rfl rfl) (i := 0) ((hr 0 rfl).trans rfl) rfl) <| Zu Z5w 5 rfl <| Sd (lo [44] [] rfl fun S hs hr => osl Z28 Z55 rfl (vh hs 44 rfl rfl)) <| Sd (Z11 (us := [(46, Z23 126 Z05 l8)]) (ur := [(2001, emp)]) [43, 45] [2001] rfl fun S hs hr => Z98 2001 hl8 rfl rfl rfl Z7u (vh hs 43 rfl rfl) ((hr 2001 rfl).trans rfl) (vh hs 45 rfl rfl)) <| SNc rfl <| SFd Zgv Zpx rfl <| Sd (Z11 (us := [(46, top)]) (ur := [(0, Z4x g2 gT Z53 (fun v => ((Lens.comp (Lens.id Z53) Zgv)).set (⟨t1.got, v3⟩ : atom_trace_o1) v) 126 Z05 l8)]) [48, 46] [0] rfl fun S hs hr => Y45 rfl rfl Zs2 (vh hs 48 rfl rfl) ((hr 0 rfl).trans rfl) ((hs 46 rfl).trans rfl)) <| Sn <| EndT.unboxF 0 2001 (by decide) rfl rfl fun v9 => EndT.done ?_
  cases h; exact RetOK.turn (Turn.packF 0 2001 (fun v => (⟨t1.got, v⟩ : atom_trace_o1)) (by decide) rfl rfl) (Z2q (i := 0) Tryz.results304 rfl rfl)
 case hx1 =>
  refine SR <| Zt lAction_0 Z4o rfl <| Ld Zq 4 rfl <| Nl <| bk <| SR <| Ac (Z0f rfl rfl (vt rfl) (vk rfl)) rfl <| As rfl <| Nl <| Cq rfl h (fun h => ?_) (fun h => ?_)
  ·refine SR <| Zt lAction_1 Zia rfl <| Ld Zq 4 rfl <| Zt lAtom_2 Zix rfl <| Zd Zq 5 rfl <| Nl <| SR <| Zt lAction_1 Zia rfl <| Ld Zq 4 rfl <| Ac (Z0f rfl rfl (vt rfl) (vk rfl)) rfl <| Nl <| Cq rfl h (fun h => ?_) (fun h => ?_)
   ·refine Rg <| Zt Zjk Zo5 rfl <| Ld Zq 4 rfl <| Zt Zky Zon rfl <| Zd Zq 5 rfl <| Nl ?_
    exact ⟨_, h, FX rfl⟩
   ·refine sk ?_
    exact ⟨_, h, FX rfl⟩
  ·refine SR <| Ac (Z0f rfl rfl (vt rfl) (vk rfl)) rfl <| As rfl <| Nl <| Cq rfl h (fun h => ?_) (fun h => ?_)
   ·refine AR Zz (by kernel_rfl) <| SFd Zim Zmy rfl <| Zu Zq 4 rfl <| SFd lAtom_1 Zr3 rfl <| Sd (Z41 [37] [5] rfl fun S hs hr => Zbz rfl rfl ty4 (vh hs 37 rfl rfl) (i := 5) ((hr 5 rfl).trans rfl) vb) <| SFd lAtom_2 Zix rfl <| SSt Zq 5 rfl <| Sn ?_
    exact ⟨_, h, FX rfl⟩
   ·refine sq ?_
    obtain ⟨x10, hx10, x11, hx11, h⟩ := bs2 h
    refine AR Zz (by kernel_rfl) <| SMp rfl <| SMp rfl <| SNc rfl <| SFd latom_trace_o1_0 Zm5 rfl <| Zu Z01 0 rfl <| Zu Z0h 4 rfl <| SCl [17] (Ycg _ _ hx10) Y7j rfl <| SCl [16, 18] (Y9i _ _ _ hx11) Y6c rfl <| SNc rfl <| SFd latom_trace_o1_0 Zm5 rfl <| SSt Z01 0 rfl <| Sn <| rt ?_
    cases h; exact RetOK.turn (Turn.packF 0 2001 (fun v => (⟨x11, v⟩ : atom_trace_o1)) (by decide) rfl rfl) (Z2q (i := 0) Tryz.results304 rfl rfl)
def Z9z (sg : Type) (d2 : (sg → Action → Option sg)) : (List Action) → Nat → sg → Option sg
 | [], i6, s5 => some s5
 | x8 :: l7, i6, s5 => (d2 s5 x8).bind fun s10 => (Z9z sg d2 l7) (i6 + 1) s10
def Znh (l1 : (List Action)) (sg : Type) (d2 : (sg → Action → Option sg)) (s3 : sg) : Option sg :=
 Z9z sg d2 l1 0 s3
theorem Yir (l1 : (List Action)) (sg : Type) (d2 : (sg → Action → Option sg)) (L : sg → Res) (s3 : sg) (r : sg) (h : Znh l1 sg d2 s3 = some r) : Con Tryz.prog 303 [rd (Z3 Z8) l1, stA Tryz.prog Z8 d2 L] (L s3) (fun _ : Unit => top) (fun _ => L r) := by
 refine Con.intro Tryz.func303 rfl Tryz.ntmps303 rfl fun w H X => ?_
 unfold Znh at h
 refine SR <| Md rfl <| Ac (Z09 rfl rfl Z08 (vt rfl)) rfl <| Mk rfl <| Nl <| bk <| LG (d := []) (ν := (List Action) × Nat × sg) (fun (l7, i6, s5) => (Sfx l1 i6 l7 ∧ Z9z sg d2 l7 i6 s5 = some r, l7.length, [(1, stA Tryz.prog Z8 d2 L), (6, rd (Z3 Z8) l1), (7, rd (Z0 .i64) (l1.length : Int)), (8, rd (Z0 .i64) (i6 : Int))], [(0, L s5)])) (l1, 0, s3) ⟨Sfx.start _, h⟩ (FX rfl) ?_
 rintro ⟨l7, i6, s5⟩ ⟨hsf1, h⟩
 dsimp only at hsf1 h ⊢
 cases l7 with
 | nil =>
  unfold Z9z at h
  refine SR <| Ac (Zl rfl rfl (vt rfl) (vt rfl)) rfl <| Nl <| sq <| Cn rfl (fun hc => absurd (of_decide_eq_true hc) hsf1.nil) (fun hc => ?_)
  refine xt ?_
  cases h; exact Z2q (i := 0) Tryz.results303 rfl rfl
 | cons x8 l7 =>
  unfold Z9z at h
  refine SR <| Ac (Zl rfl rfl (vt rfl) (vt rfl)) rfl <| Nl <| sq <| Cn rfl (fun hc => ?_) (fun hc => absurd hsf1.cons (of_decide_eq_false hc))
  have hlti6 := of_decide_eq_true hc
  refine sk <| sq <| bk <| SR <| Ac (Z03 rfl rfl Z08 (vt rfl) (vt rfl) hsf1.lget) rfl <| Lp1 Z0h rfl <| Cv rfl (Zo 6 rfl rfl Z4e) fun g9 => Zd Z0h 6 rfl <| Nl ?_
  obtain ⟨s10, hs10, h⟩ := Za h
  refine Rg <| Ac (Zk (A := stA Tryz.prog Z8 d2 L) rfl rfl (vt rfl)) rfl <| Ld Z0h 6 rfl <| Ac (Y4o 0 hs10 rfl rfl (vt rfl) (vt rfl) rfl) rfl <| Nl <| Rg <| Ac (Z21 (t := 7) rfl rfl (vt rfl) (vk rfl) (vt rfl) hlti6) rfl <| Md rfl <| Nl ?_
  exact ⟨(_, _, _), Nat.lt_succ_self _, ⟨hsf1.next, h⟩, FX rfl⟩
def Zka (a1 : (List Action)) (x2 : Z5) : Option ((List Atom) × Z5) :=
 (Z99 x2).bind fun x5 => (Znh a1 Z5e (fun s x => Zca s x) (⟨x5, []⟩ : Z5e)).bind fun b7 => some (b7.atoms, b7.got)
theorem Y63 : Q2 Tryz.prog 265 (rd (Z3 Z8)) (rd (Z1 24 Z2)) (fun r => Z1c (rd (Z3 Z05) r.1) (rd (Z1 24 Z2) r.2)) Zka := fun a1 x2 r h => I0 Tryz.func265 rfl Tryz.ntmps265 rfl fun w H => by
 unfold Zka at h
 refine SR <| Cv rfl (Zn 4 rfl rfl (vt rfl)) fun g3 => Ac (Z04 (A := rd (Z3 Z05) []) rfl rfl Z26) rfl <| Cv rfl (Zo 6 rfl rfl Z30) fun g4 => Nl <| sq <| AW.newnil 2221 126 Z05 ?_
 obtain ⟨x5, hx5, h⟩ := Za h
 refine Rg <| Ld Z01 4 rfl <| Cl [7] (Znx _ _ hx5) Znj rfl <| Ac (opb (⟨x5, (.slice none 0 0)⟩ : atom_trace_o1) Ybz rfl Yh9 (pc Yj3 (vt rfl) <| pn rfl)) rfl <| Cv rfl (Zn 11 rfl rfl (vt rfl)) fun g6 => Ac (Z04 (A := Ze g6 (Lens.id Z53)) rfl rfl (vt rfl)) rfl <| Nl <| sq ?_
 obtain ⟨b7, hb7, h⟩ := Za h
 refine Rg <| Md rfl <| Mp rfl <| Ac (Yc1 (fs := [.tmp 12]) (cs := []) (FAs := [Ze g6 (Lens.id Z53)]) (CAs := []) (k := Z8) (fun s x => Zca s x) (fun (s : Z5e) => Z4x g6 346 Z53 (fun v => (⟨s.got, v⟩ : atom_trace_o1)) 126 Z05 s.atoms) rfl rfl Yd0 ⟨vt rfl, trivial⟩ trivial (fun s x s2 h => Ydp _ _ s x s2 h)) rfl <| AOps.packF 11 2221 (fun v => (⟨x5, v⟩ : atom_trace_o1)) (by decide) rfl rfl <| Cv rfl (Z1o 11 (xs := [.tmp 11, .tmp 13]) (Yir _ Z5e _ (fun (s : Z5e) => Z4x g6 346 Z53 (fun v => (⟨s.got, v⟩ : atom_trace_o1)) 126 Z05 s.atoms) _ _ hb7) Y8i rfl rfl ⟨vt rfl, vt rfl, trivial⟩ rfl) fun _u => AOps.unboxF 11 2221 (by decide) rfl rfl fun v8 => Nl <| sq <| AR Zz (by kernel_rfl) <| SMp rfl <| SNc rfl <| SFd Zgv Zpx rfl <| Sd (lo [17] [11] rfl fun S hs hr => Zz4 v8 rfl rfl Zs2 (vh hs 17 rfl rfl) (i := 11) ((hr 11 rfl).trans rfl) rfl) <| SMp rfl <| SNc rfl <| SFd latom_trace_o1_0 Zm5 rfl <| Zu Z01 11 rfl <| Sd (lo [18] [] rfl fun S hs hr => Z04 (A := Zj v8) rfl rfl (vh hs 18 rfl rfl)) <| SSt Z01 6 rfl <| Sn <| AW.freezes [4, 18] 2221 rfl ⟨rfl, rfl, trivial⟩ rfl <| rt ?_
 cases h; exact Z1x Tryz.results265 rfl (Z4 rfl) (Zx rfl (i := 6) rfl Z01)
def Zdc (w1 : walk_way) (l2 : (List Action)) : Option walk_way :=
 (Zka l2 w1.got).bind fun x5 => (Z4m w1.atoms (w1.atoms.length : Int)).bind fun s7 => (Z0y s7 x5.1).bind fun l8 => some { { w1 with atoms := l8 } with got := x5.2 }
theorem Zw0 : Q2 Tryz.prog 205 (rd Z1l) (rd (Z3 Z8)) (rd Z1l) Zdc := fun w1 l2 r h => I0 Tryz.func205 rfl Tryz.ntmps205 rfl fun w H => by
 unfold Zdc at h
 refine SR <| Cv rfl (Zn 3 rfl rfl (vt rfl)) fun g3 => Cv rfl (Zo 5 rfl rfl Zey) fun g4 => Nl <| sq ?_
 obtain ⟨x5, hx5, h⟩ := Za h
 refine Rg <| Md rfl <| Zt lwalk_way_1 Zh8 rfl <| Ld Z01 3 rfl <| Cl [8, 10] (Y63 _ _ _ hx5) Y3e rfl <| Mt2 rfl <| Ac (Z1j rfl rfl (vt rfl)) rfl <| Ac (Z1i rfl rfl (vt rfl)) rfl <| Cv rfl (Zo 7 rfl rfl Z30) fun g6 => As rfl <| Zd Z01 7 rfl <| Nl <| sq ?_
 obtain ⟨s7, hs7, l8, hl8, h⟩ := bs2 h
 refine AR Zz (by kernel_rfl) <| SFd Zdm Zh9 rfl <| Zu Z5z 3 rfl <| SFd Zdm Zh9 rfl <| Zu Z5z 3 rfl <| Sd (lo [17] [] rfl fun S hs hr => Z09 rfl rfl Z28 (vh hs 17 rfl rfl)) <| SFd Zdm Zh9 rfl <| Zu Z5z 3 rfl <| Sd (lo [20] [] rfl fun S hs hr => Z09 rfl rfl Z28 (vh hs 20 rfl rfl)) <| Sd (lo [15, 18, 21] [] rfl fun S hs hr => Yj1 hs7 rfl rfl Z28 (vh hs 15 rfl rfl) (vh hs 18 rfl rfl) (vh hs 21 rfl rfl)) <| Zg rfl <| Sd (lo [22, 23] [] rfl fun S hs hr => Ye3 hl8 rfl rfl Z7u (vh hs 22 rfl rfl) (vh hs 23 rfl rfl)) <| Zu Z01 7 rfl <| SFd Zdm Zh9 rfl <| SSt Z5z 3 rfl <| SFd lwalk_way_1 Zh8 rfl <| SSt Z01 3 rfl <| Sn <| SR <| Ld Z31 3 rfl <| Zd Z31 5 rfl <| Nl <| rt ?_
 cases h; exact Zc Tryz.results205 rfl (Zx rfl (i := 5) rfl Z31)
end Go.Proofs.YtknpgojdkobgjaaGreat.W
set_option maxRecDepth 4000
namespace Go.Proofs.YtknpgojdkobgjaaGreat.W
open Go Go.Wb
theorem Zn7 : Ent Tryz.prog 221 := Ent.mk Tryz.func221 rfl rfl
theorem Ya3 : Ent Tryz.prog 267 := Ent.mk Tryz.func267 rfl rfl
theorem Zq0 : Ent Tryz.prog 266 := Ent.mk Tryz.func266 rfl rfl
theorem Ye5 : Ent Tryz.prog 273 := Ent.mk Tryz.func273 rfl rfl
theorem Zsz : Ent Tryz.prog 218 := Ent.mk Tryz.func218 rfl rfl
def Zam (a1 : Action) : Option aset_spot :=
 (bif (decide (a1.Kind = 25)) then some (⟨a1.Kind, a1.Oxm.Field⟩ : aset_spot) else some (⟨a1.Kind, 0⟩ : aset_spot))
theorem Zos : Q1 Tryz.prog 221 (rd Z8) (rd Z61) Zam := fun a1 r h => I0 Tryz.func221 rfl Tryz.ntmps221 rfl fun w H => by
 unfold Zam at h
 refine SR <| Cv rfl (Zn 2 rfl rfl (vt rfl)) fun g2 => Cv rfl (Zo 3 rfl rfl Zi0) fun g3 => Nl <| sq <| SR <| Zt lAction_0 Z4o rfl <| Ld Zq 2 rfl <| Ac (Z0f rfl rfl (vt rfl) (vk rfl)) rfl <| Nl <| Cq rfl h (fun h => ?_) (fun h => ?_)
 ·refine SR <| Zt lAction_0 Z4o rfl <| Ld Zq 2 rfl <| Zt Z5r Z6u rfl <| Zt Z40 Z49 rfl <| Ld Zq 2 rfl <| Ac (opb (⟨a1.Kind, a1.Oxm.Field⟩ : aset_spot) Zi0 rfl Y01 (pc Y2h (vt rfl) <| pc Ydf (vt rfl) <| pn rfl)) rfl <| Zd Zex 3 rfl <| Nl <| rt ?_
  cases h; exact Zc Tryz.results221 rfl (Zx rfl (i := 3) rfl Zex)
 ·refine sk <| SR <| Zt lAction_0 Z4o rfl <| Ld Zq 2 rfl <| Ac (opb (⟨a1.Kind, 0⟩ : aset_spot) Zi0 rfl Y01 (pc Y2h (vt rfl) <| pn rfl)) rfl <| Zd Zex 3 rfl <| Nl <| rt ?_
  cases h; exact Zc Tryz.results221 rfl (Zx rfl (i := 3) rfl Zex)
def Zd4 (b1 : Action) (x2 : Action) : Option Bool :=
 (Zam x2).bind fun x4 => (Zam b1).bind fun x5 => some (decide (x4 = x5))
theorem Y8t : Q2 Tryz.prog 267 (rd Z8) (rp Z8) (rd Z7) Zd4 := fun b1 x2 r h => I0 Tryz.func267 rfl Tryz.ntmps267 rfl fun w H => by
 unfold Zd4 at h
 refine SR <| Cv rfl (Zn 3 rfl rfl (vt rfl)) fun g3 => Ab rfl <| Nl <| sq ?_
 obtain ⟨x4, hx4, x5, hx5, h⟩ := bs2 h
 refine AR Zz (by kernel_rfl) <| SLp Z0h rfl <| SCl [4] (Zos _ _ hx4) Zn7 rfl <| Zu Z0h 3 rfl <| SCl [6] (Zos _ _ hx5) Zn7 rfl <| Sd (lo [5, 7] [] rfl fun S hs hr => Zgd rfl rfl Y88 (by decide) rfl Yjw (vh hs 5 rfl rfl) (vh hs 7 rfl rfl)) <| SAs rfl <| Sn <| rt ?_
 cases h; exact Zc Tryz.results267 rfl (Z4 rfl)
def Zb8 (s1 : (List Action)) (x2 : (Action → Option Bool)) : Nat → Nat → Option Int
 | 0, i3 => some (-1)
 | m4 + 1, i3 => (lget s1 (i3 : Int)).bind fun x5 => (x2 x5).bind fun x6 => (bif x6 then some (i3 : Int) else (Zb8 s1 x2 m4) (i3 + 1))
def Zb9 (s1 : (List Action)) (x2 : (Action → Option Bool)) : Option Int :=
 Zb8 s1 x2 ((s1.length : Int) : Int).toNat 0
theorem Zsn : Q2 Tryz.prog 266 (rd (Z3 Z8)) (fn1 Tryz.prog Z8 Z7) (rd (Z0 .i64)) Zb9 := fun s1 x2 r h => I0 Tryz.func266 rfl Tryz.ntmps266 rfl fun w H => by
 unfold Zb9 at h
 refine SR <| Ak rfl <| Nl <| sq <| SR <| Md rfl <| Ac (Z09 rfl rfl Z08 (vt rfl)) rfl <| Mk rfl <| Nl <| bk <| LG (d := []) (ν := Nat × Nat) (fun (m4, i3) => (Cnt (s1.length : Int) i3 m4 ∧ Zb8 s1 x2 m4 i3 = some r, m4, [(0, rd (Z3 Z8) s1), (1, fn1 Tryz.prog Z8 Z7 x2), (7, rd (Z0 .i64) (s1.length : Int)), (8, rd (Z0 .i64) (i3 : Int))], [])) (((s1.length : Int) : Int).toNat, 0) ⟨Cnt.start _, h⟩ (FX rfl) ?_
 rintro ⟨m4, i3⟩ ⟨hsf1, h⟩
 dsimp only at hsf1 h ⊢
 cases m4 with
 | zero =>
  unfold Zb8 at h
  refine SR <| Ac (Zl rfl rfl (vt rfl) (vt rfl)) rfl <| Nl <| sq <| Cn rfl (fun hc => absurd (of_decide_eq_true hc) hsf1.zero) (fun hc => ?_)
  refine xt <| SR <| Ak rfl <| Nl <| rt ?_
  cases h; exact Zc Tryz.results266 rfl (Z4 rfl)
 | succ m4 =>
  unfold Zb8 at h
  refine SR <| Ac (Zl rfl rfl (vt rfl) (vt rfl)) rfl <| Nl <| sq <| Cn rfl (fun hc => ?_) (fun hc => absurd hsf1.succ (of_decide_eq_false hc))
  have hlti3 := of_decide_eq_true hc
  refine sk <| sq <| bk <| SR <| Md rfl <| As rfl <| Nl <| sq ?_
  obtain ⟨x5, hx5, x6, hx6, h⟩ := bs2 h
  refine Rg <| Ac (Zk (A := fn1 Tryz.prog Z8 Z7 x2) rfl rfl (vt rfl)) rfl <| Md rfl <| Md rfl <| Ac (Z03 rfl rfl Z08 (vt rfl) (vt rfl) hx5) rfl <| Lp1 Z0h rfl <| Ac (Za0 hx6 rfl rfl (vt rfl) (vt rfl)) rfl <| Nl <| Cq rfl h (fun h => ?_) (fun h => ?_)
  ·refine SR <| Md rfl <| As rfl <| Nl <| rt ?_
   cases h; exact Zc Tryz.results266 rfl (Z4 rfl)
  ·refine sk <| Rg <| Ac (Z21 (t := 7) rfl rfl (vt rfl) (vk rfl) (vt rfl) hlti3) rfl <| Md rfl <| Nl ?_
   exact ⟨(_, _), Nat.lt_succ_self _, ⟨hsf1.next, h⟩, FX rfl⟩
def Z8h : (List Action) → Nat → (List Action) → Option (List Action)
 | [], i9, l7 => some l7
 | x11 :: l10, i9, l7 => (Zb9 l7 (fun x => Zd4 x x11)).bind fun x13 => (bif (decide (x13 < 0)) then (Z0y l7 [x11]).bind fun l14 => (Z8h l10) (i9 + 1) l14 else (lget l7 x13).bind fun x16 => (Z8h l10) (i9 + 1) (List.set l7 x13.toNat x11))
def Zi1 (s1 : (List Action)) (l2 : (List Action)) : Option (List Action) :=
 (Z6g s1).bind fun x3 => Z8h l2 0 x3
theorem Y4k : Q2 Tryz.prog 206 (rd (Z3 Z8)) (rd (Z3 Z8)) (rd (Z3 Z8)) Zi1 := fun s1 l2 r h => I0 Tryz.func206 rfl Tryz.ntmps206 rfl fun w H => by
 unfold Zi1 at h
 refine SR <| Ac (Z04 (A := rd (Z3 Z8) []) rfl rfl Z26) rfl <| Nl <| sq ?_
 obtain ⟨x3, hx3, h⟩ := Za h
 refine Rg <| Md rfl <| Cv rfl (Z1o 1001 (xs := [.tmp 9]) (Ztf _ _ hx3) Zp5 rfl rfl ⟨vt rfl, trivial⟩ rfl) fun v4 => Aw rfl <| Nl <| sq <| SR <| Md rfl <| Ac (Z09 rfl rfl Z08 (vt rfl)) rfl <| Mk rfl <| Nl <| bk <| LG (d := []) (ν := (List Action) × Nat × (List Action) × Value) (fun (l10, i9, l7, v8) => (Sfx l2 i9 l10 ∧ Z8h l10 i9 l7 = some r, l10.length, [(5, Zj v8), (11, rd (Z3 Z8) l2), (12, rd (Z0 .i64) (l2.length : Int)), (13, rd (Z0 .i64) (i9 : Int))], [(1001, Zh v8 121 Z8 l7)])) (l2, 0, x3, v4) ⟨Sfx.start _, h⟩ (FX rfl) ?_
 rintro ⟨l10, i9, l7, v8⟩ ⟨hsf1, h⟩
 dsimp only at hsf1 h ⊢
 cases l10 with
 | nil =>
  unfold Z8h at h
  refine SR <| Ac (Zl rfl rfl (vt rfl) (vt rfl)) rfl <| Nl <| sq <| Cn rfl (fun hc => absurd (of_decide_eq_true hc) hsf1.nil) (fun hc => ?_)
  refine xt <| SR <| Mw rfl <| Aw rfl <| Nl <| AW.freezes [4, 5, 31] 1001 rfl ⟨rfl, rfl, rfl, trivial⟩ rfl <| rt ?_
  cases h; exact Zc Tryz.results206 rfl (Z4 rfl)
 | cons x11 l10 =>
  unfold Z8h at h
  refine SR <| Ac (Zl rfl rfl (vt rfl) (vt rfl)) rfl <| Nl <| sq <| Cn rfl (fun hc => ?_) (fun hc => absurd hsf1.cons (of_decide_eq_false hc))
  have hlti9 := of_decide_eq_true hc
  refine sk <| sq <| bk <| SR <| Ac (Z03 rfl rfl Z08 (vt rfl) (vt rfl) hsf1.lget) rfl <| Lp1 Z0h rfl <| Cv rfl (Zo 8 rfl rfl Z4e) fun g12 => Zd Z0h 8 rfl <| Nl <| sq <| AW.freezeB 7 8 rfl rfl rfl ?_
  obtain ⟨x13, hx13, h⟩ := Za h
  refine Rg <| Mw rfl <| Ac (Zad (cs := [.tmp 7]) (CAs := [rp Z8 x11]) (fun x => Zd4 x x11) rfl rfl Ya3 ⟨vt rfl, trivial⟩ (fun x y h => Y8t _ _ y h)) rfl <| Ac (Zse (xs := [.tmp 17, .tmp 18]) 1001 (Zsn _ _ _ hx13) Zq0 rfl rfl ⟨vL rfl rfl, vB (vt rfl), trivial⟩) rfl <| As rfl <| Nl <| SR <| Md rfl <| Ac (Zl rfl rfl (vt rfl) (vk rfl)) rfl <| Nl <| Cq rfl h (fun h => ?_) (fun h => ?_)
  ·obtain ⟨l14, hl14, h⟩ := Za h
   refine Rg <| Mw rfl <| Lp1 Z0h rfl <| Ac (osl Z08 Z4e rfl (vt rfl)) rfl <| Cv rfl (Z29 1001 hl14 rfl rfl Z7d (vt rfl) rfl (vt rfl)) fun v15 => Aw rfl <| Nl <| Rg <| Ac (Z21 (t := 12) rfl rfl (vt rfl) (vk rfl) (vt rfl) hlti9) rfl <| Md rfl <| Nl ?_
   exact ⟨(_, _, _, _), Nat.lt_succ_self _, ⟨hsf1.next, h⟩, FX rfl⟩
  ·obtain ⟨x16, hx16, h⟩ := Za h
   refine Rg <| Mw rfl <| Md rfl <| Lp1 Z0h rfl <| Ac (Z1r 1001 rfl rfl Z08 (vt rfl) rfl (vt rfl) hx16) rfl <| Ac (Z2d 1001 rfl rfl Z0h (vt rfl) rfl (Z0e hx16).2 (vt rfl)) rfl <| Nl <| Rg <| Ac (Z21 (t := 12) rfl rfl (vt rfl) (vk rfl) (vt rfl) hlti9) rfl <| Md rfl <| Nl ?_
   exact ⟨(_, _, _, _), Nat.lt_succ_self _, ⟨hsf1.next, h⟩, FX rfl⟩
def Zgz (s1 : (List Action)) (x2 : (Action → Option Bool)) : Option Bool :=
 (Zb9 s1 x2).bind fun x3 => some (decide (x3 ≥ 0))
theorem Ygu : Q2 Tryz.prog 213 (rd (Z3 Z8)) (fn1 Tryz.prog Z8 Z7) (rd Z7) Zgz := fun s1 x2 r h => I0 Tryz.func213 rfl Tryz.ntmps213 rfl fun w H => by
 unfold Zgz at h
 refine SR <| Ab rfl <| Nl <| sq ?_
 obtain ⟨x3, hx3, h⟩ := Za h
 refine Rg <| Md rfl <| Ac (Zk (A := fn1 Tryz.prog Z8 Z7 x2) rfl rfl (vt rfl)) rfl <| Cl [5, 6] (Zsn _ _ _ hx3) Zq0 rfl <| Ac (Z57 rfl rfl (vt rfl) (vk rfl)) rfl <| As rfl <| Nl <| rt ?_
 cases h; exact Zc Tryz.results213 rfl (Z4 rfl)
def Zop (a1 : Action) : Option Bool :=
 some (decide (a1.Kind = 22))
theorem Y8k : Q1 Tryz.prog 214 (rd Z8) (rd Z7) Zop := fun a1 r h => I0 Tryz.func214 rfl Tryz.ntmps214 rfl fun w H => by
 unfold Zop at h
 refine SR <| Cv rfl (Zn 2 rfl rfl (vt rfl)) fun g2 => Ab rfl <| Nl <| SR <| Zt lAction_0 Z4o rfl <| Ld Zq 2 rfl <| Ac (Z0f rfl rfl (vt rfl) (vk rfl)) rfl <| As rfl <| Nl <| rt ?_
 cases h; exact Zc Tryz.results214 rfl (Z4 rfl)
def Zbx (s1 : (List Int)) (x2 : Int) : Nat → Nat → Option Int
 | 0, i3 => some (-1)
 | m4 + 1, i3 => (lget s1 (i3 : Int)).bind fun x5 => (bif (decide (x2 = x5)) then some (i3 : Int) else (Zbx s1 x2 m4) (i3 + 1))
def Zkt (s1 : (List Int)) (x2 : Int) : Option Int :=
 Zbx s1 x2 ((s1.length : Int) : Int).toNat 0
theorem Y89 : Q2 Tryz.prog 273 (rd (Z3 (Z0 .i64))) (rd (Z0 .i64)) (rd (Z0 .i64)) Zkt := fun s1 x2 r h => I0 Tryz.func273 rfl Tryz.ntmps273 rfl fun w H => by
 unfold Zkt at h
 refine SR <| Ak rfl <| Nl <| sq <| SR <| Md rfl <| Ac (Z09 rfl rfl Z0x (vt rfl)) rfl <| Mk rfl <| Nl <| bk <| LG (d := []) (ν := Nat × Nat) (fun (m4, i3) => (Cnt (s1.length : Int) i3 m4 ∧ Zbx s1 x2 m4 i3 = some r, m4, [(0, rd (Z3 (Z0 .i64)) s1), (1, rd (Z0 .i64) x2), (7, rd (Z0 .i64) (s1.length : Int)), (8, rd (Z0 .i64) (i3 : Int))], [])) (((s1.length : Int) : Int).toNat, 0) ⟨Cnt.start _, h⟩ (FX rfl) ?_
 rintro ⟨m4, i3⟩ ⟨hsf1, h⟩
 dsimp only at hsf1 h ⊢
 cases m4 with
 | zero =>
  unfold Zbx at h
  refine SR <| Ac (Zl rfl rfl (vt rfl) (vt rfl)) rfl <| Nl <| sq <| Cn rfl (fun hc => absurd (of_decide_eq_true hc) hsf1.zero) (fun hc => ?_)
  refine xt <| SR <| Ak rfl <| Nl <| rt ?_
  cases h; exact Zc Tryz.results273 rfl (Z4 rfl)
 | succ m4 =>
  unfold Zbx at h
  refine SR <| Ac (Zl rfl rfl (vt rfl) (vt rfl)) rfl <| Nl <| sq <| Cn rfl (fun hc => ?_) (fun hc => absurd hsf1.succ (of_decide_eq_false hc))
  have hlti3 := of_decide_eq_true hc
  refine sk <| sq <| bk <| SR <| Md rfl <| As rfl <| Nl <| sq ?_
  obtain ⟨x5, hx5, h⟩ := Za h
  refine Rg <| Md rfl <| Md rfl <| Md rfl <| Ac (Z03 rfl rfl Z0x (vt rfl) (vt rfl) hx5) rfl <| Lp1 Zq rfl <| Ac (Z0f rfl rfl (vt rfl) (vt rfl)) rfl <| Nl <| Cq rfl h (fun h => ?_) (fun h => ?_)
  ·refine SR <| Md rfl <| As rfl <| Nl <| rt ?_
   cases h; exact Zc Tryz.results273 rfl (Z4 rfl)
  ·refine sk <| Rg <| Ac (Z21 (t := 7) rfl rfl (vt rfl) (vk rfl) (vt rfl) hlti3) rfl <| Md rfl <| Nl ?_
   exact ⟨(_, _), Nat.lt_succ_self _, ⟨hsf1.next, h⟩, FX rfl⟩
def Zda (k1 : Int) : Option Int :=
 (Zkt [18, 17, 25, 22, 0] k1).bind fun x2 => some x2
theorem Zpk : Q1 Tryz.prog 218 (rd (Z0 .i64)) (rd (Z0 .i64)) Zda := fun k1 r h => I0 Tryz.func218 rfl Tryz.ntmps218 rfl fun w H => by
 unfold Zda at h
 refine SR <| Ak rfl <| Nl <| sq ?_
 obtain ⟨x2, hx2, h⟩ := Za h
 refine Rg <| Ac (Zp0 (ps := [(0, .const (Value.int IntKind.i64 18)), (1, .const (Value.int IntKind.i64 17)), (2, .const (Value.int IntKind.i64 25)), (3, .const (Value.int IntKind.i64 22)), (4, .const (Value.int IntKind.i64 0))]) (l := [18, 17, 25, 22, 0]) rfl rfl Z0x zr3 rfl rfl ⟨_, _, Lens.idx 5 (Z0 .i64) 0 (by decide), _, rfl, (vk rfl), _, _, Lens.idx 5 (Z0 .i64) 1 (by decide), _, rfl, (vk rfl), _, _, Lens.idx 5 (Z0 .i64) 2 (by decide), _, rfl, (vk rfl), _, _, Lens.idx 5 (Z0 .i64) 3 (by decide), _, rfl, (vk rfl), _, _, Lens.idx 5 (Z0 .i64) 4 (by decide), _, rfl, (vk rfl), rfl⟩ rfl) rfl <| Md rfl <| Cl [3, 4] (Y89 _ _ _ hx2) Ye5 rfl <| As rfl <| Nl <| rt ?_
 cases h; exact Zc Tryz.results218 rfl (Z4 rfl)
def Ze2 (a1 : Action) (x2 : Bool) : Option Bool :=
 (Zda a1.Kind).bind fun x4 => some ((decide (x4 < 0)) || (x2 && (decide (a1.Kind = 0))))
theorem Y9o : Q2 Tryz.prog 217 (rd Z8) (rp Z7) (rd Z7) Ze2 := fun a1 x2 r h => I0 Tryz.func217 rfl Tryz.ntmps217 rfl fun w H => by
 unfold Ze2 at h
 refine SR <| Cv rfl (Zn 3 rfl rfl (vt rfl)) fun g3 => Ab rfl <| Nl <| sq ?_
 obtain ⟨x4, hx4, h⟩ := Za h
 refine Rg <| Zt lAction_0 Z4o rfl <| Ld Zq 3 rfl <| Cl [5] (Zpk _ _ hx4) Zsz rfl <| Ac (Zl rfl rfl (vt rfl) (vk rfl)) rfl <| Md rfl <| Gd rfl (fun hq => Z2e rfl rfl ty4 (vt rfl)) <| AOps.consG (OpG.guardX rfl rfl rfl rfl rfl fun hq => Zk (A := rd Z7 x2) rfl rfl (Z6 rfl hq)) <| AOps.consG (OpG.guardN rfl rfl rfl rfl rfl fun hq => Z0t lAction_0 rfl rfl Z4o (vt rfl)) <| AOps.consG (OpG.guardN rfl rfl rfl rfl rfl fun hq => Z0g rfl rfl Zq (Z6 rfl hq) (i := 3) rfl) <| AOps.consG (OpG.guardN rfl rfl rfl rfl rfl fun hq => Z0f rfl rfl (Z6 rfl hq) (vk rfl)) <| Gd rfl (fun hq => Z0o rfl rfl (vgx rfl hq) (vgw rfl hq)) <| Ac (Z4g rfl rfl (vt rfl) (vt rfl)) rfl <| As rfl <| Nl <| rt ?_
 cases h; exact Zc Tryz.results217 rfl (Z4 rfl)
end Go.Proofs.YtknpgojdkobgjaaGreat.W
