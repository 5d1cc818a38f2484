/- GbT: a part of the proof. -/
import Derived.Test.YtokmmcflinnfiabProg
import Derived.KernelRfl
import Derived.Test.YtokmmcflinnfiabWbZC
set_option linter.unusedVariables false
set_option maxRecDepth 4000
set_option linter.unusedSimpArgs false
namespace Go.Proofs.Ytokmmcflinnfiab.W
open Go Go.Wb
structure Wide where
  Hi : (BitVec 64)
  Lo : (BitVec 64)
  deriving DecidableEq, Inhabited
def kWide : Kd Wide := kiso (kpair ku64 ku64) (fun x => (x.Hi, x.Lo))
def lWide_0 : Lens kWide ku64 := Lens.iso (k := (kpair ku64 ku64)) (Lens.fst _ _) Wide.Hi (fun x y => { x with Hi := y }) (fun _ => rfl) (fun _ _ => rfl)
def lWide_1 : Lens kWide ku64 := Lens.iso (k := (kpair ku64 ku64)) (Lens.snd _ _) Wide.Lo (fun x y => { x with Lo := y }) (fun _ => rfl) (fun _ _ => rfl)
def zWide : Wide := ⟨0, 0⟩
theorem kzWide : KZ kWide zWide [(Value.int IntKind.u64 0), (Value.int IntKind.u64 0)] := kz_iso (kz_pair kz_u64 kz_u64)
structure Tern where
  Value : Wide
  Mask : Wide
  deriving DecidableEq, Inhabited
def kTern : Kd Tern := kiso (kpair kWide kWide) (fun x => (x.Value, x.Mask))
def lTern_0 : Lens kTern kWide := Lens.iso (k := (kpair kWide kWide)) (Lens.fst _ _) Tern.Value (fun x y => { x with Value := y }) (fun _ => rfl) (fun _ _ => rfl)
def lTern_1 : Lens kTern kWide := Lens.iso (k := (kpair kWide kWide)) (Lens.snd _ _) Tern.Mask (fun x y => { x with Mask := y }) (fun _ => rfl) (fun _ _ => rfl)
def zTern : Tern := ⟨zWide, zWide⟩
theorem kzTern : KZ kTern zTern [(Value.int IntKind.u64 0), (Value.int IntKind.u64 0), (Value.int IntKind.u64 0), (Value.int IntKind.u64 0)] := kz_iso (kz_pair kzWide kzWide)
structure field_row where
  name : ByteArray
  id : Int
  bits : Int
  masks : Bool
  deriving DecidableEq, Inhabited
def kfield_row : Kd field_row := kiso (kpair kstr (kpair (kint .i64) (kpair (kint .i64) kbool))) (fun x => (x.name, (x.id, (x.bits, x.masks))))
def lfield_row_0 : Lens kfield_row kstr := Lens.iso (k := (kpair kstr (kpair (kint .i64) (kpair (kint .i64) kbool)))) (Lens.fst _ _) field_row.name (fun x y => { x with name := y }) (fun _ => rfl) (fun _ _ => rfl)
def lfield_row_1 : Lens kfield_row (kint .i64) := Lens.iso (k := (kpair kstr (kpair (kint .i64) (kpair (kint .i64) kbool)))) (Lens.comp (Lens.snd _ _) (Lens.fst _ _)) field_row.id (fun x y => { x with id := y }) (fun _ => rfl) (fun _ _ => rfl)
def lfield_row_2 : Lens kfield_row (kint .i64) := Lens.iso (k := (kpair kstr (kpair (kint .i64) (kpair (kint .i64) kbool)))) (Lens.comp (Lens.comp (Lens.snd _ _) (Lens.snd _ _)) (Lens.fst _ _)) field_row.bits (fun x y => { x with bits := y }) (fun _ => rfl) (fun _ _ => rfl)
def lfield_row_3 : Lens kfield_row kbool := Lens.iso (k := (kpair kstr (kpair (kint .i64) (kpair (kint .i64) kbool)))) (Lens.comp (Lens.comp (Lens.snd _ _) (Lens.snd _ _)) (Lens.snd _ _)) field_row.masks (fun x y => { x with masks := y }) (fun _ => rfl) (fun _ _ => rfl)
def zfield_row : field_row := ⟨(⟨#[]⟩ : ByteArray), 0, 0, false⟩
theorem kzfield_row : KZ kfield_row zfield_row [(Value.string { data := #[] }), (Value.int IntKind.i64 0), (Value.int IntKind.i64 0), (Value.bool false)] := kz_iso (kz_pair kz_str (kz_pair kz_i64 (kz_pair kz_i64 kz_bool)))
structure Oxm where
  Field : Int
  Masked : Bool
  Value : Wide
  Mask : Wide
  deriving DecidableEq, Inhabited
def kOxm : Kd Oxm := kiso (kpair (kint .i64) (kpair kbool (kpair kWide kWide))) (fun x => (x.Field, (x.Masked, (x.Value, x.Mask))))
def lOxm_0 : Lens kOxm (kint .i64) := Lens.iso (k := (kpair (kint .i64) (kpair kbool (kpair kWide kWide)))) (Lens.fst _ _) Oxm.Field (fun x y => { x with Field := y }) (fun _ => rfl) (fun _ _ => rfl)
def lOxm_1 : Lens kOxm kbool := Lens.iso (k := (kpair (kint .i64) (kpair kbool (kpair kWide kWide)))) (Lens.comp (Lens.snd _ _) (Lens.fst _ _)) Oxm.Masked (fun x y => { x with Masked := y }) (fun _ => rfl) (fun _ _ => rfl)
def lOxm_2 : Lens kOxm kWide := Lens.iso (k := (kpair (kint .i64) (kpair kbool (kpair kWide kWide)))) (Lens.comp (Lens.comp (Lens.snd _ _) (Lens.snd _ _)) (Lens.fst _ _)) Oxm.Value (fun x y => { x with Value := y }) (fun _ => rfl) (fun _ _ => rfl)
def lOxm_3 : Lens kOxm kWide := Lens.iso (k := (kpair (kint .i64) (kpair kbool (kpair kWide kWide)))) (Lens.comp (Lens.comp (Lens.snd _ _) (Lens.snd _ _)) (Lens.snd _ _)) Oxm.Mask (fun x y => { x with Mask := y }) (fun _ => rfl) (fun _ _ => rfl)
def zOxm : Oxm := ⟨0, false, zWide, zWide⟩
theorem kzOxm : KZ kOxm zOxm [(Value.int IntKind.i64 0), (Value.bool false), (Value.int IntKind.u64 0), (Value.int IntKind.u64 0), (Value.int IntKind.u64 0), (Value.int IntKind.u64 0)] := kz_iso (kz_pair kz_i64 (kz_pair kz_bool (kz_pair kzWide kzWide)))
structure Action where
  Kind : Int
  Port : Int
  Max : Int
  Group : Int
  Ether : Int
  Oxm : Oxm
  deriving DecidableEq, Inhabited
def kAction : Kd Action := kiso (kpair (kint .i64) (kpair (kint .i64) (kpair (kint .i64) (kpair (kint .i64) (kpair (kint .i64) kOxm))))) (fun x => (x.Kind, (x.Port, (x.Max, (x.Group, (x.Ether, x.Oxm))))))
def lAction_0 : Lens kAction (kint .i64) := Lens.iso (k := (kpair (kint .i64) (kpair (kint .i64) (kpair (kint .i64) (kpair (kint .i64) (kpair (kint .i64) kOxm)))))) (Lens.fst _ _) Action.Kind (fun x y => { x with Kind := y }) (fun _ => rfl) (fun _ _ => rfl)
def lAction_1 : Lens kAction (kint .i64) := Lens.iso (k := (kpair (kint .i64) (kpair (kint .i64) (kpair (kint .i64) (kpair (kint .i64) (kpair (kint .i64) kOxm)))))) (Lens.comp (Lens.snd _ _) (Lens.fst _ _)) Action.Port (fun x y => { x with Port := y }) (fun _ => rfl) (fun _ _ => rfl)
def lAction_2 : Lens kAction (kint .i64) := Lens.iso (k := (kpair (kint .i64) (kpair (kint .i64) (kpair (kint .i64) (kpair (kint .i64) (kpair (kint .i64) kOxm)))))) (Lens.comp (Lens.comp (Lens.snd _ _) (Lens.snd _ _)) (Lens.fst _ _)) Action.Max (fun x y => { x with Max := y }) (fun _ => rfl) (fun _ _ => rfl)
def lAction_3 : Lens kAction (kint .i64) := Lens.iso (k := (kpair (kint .i64) (kpair (kint .i64) (kpair (kint .i64) (kpair (kint .i64) (kpair (kint .i64) kOxm)))))) (Lens.comp (Lens.comp (Lens.comp (Lens.snd _ _) (Lens.snd _ _)) (Lens.snd _ _)) (Lens.fst _ _)) Action.Group (fun x y => { x with Group := y }) (fun _ => rfl) (fun _ _ => rfl)
def lAction_4 : Lens kAction (kint .i64) := Lens.iso (k := (kpair (kint .i64) (kpair (kint .i64) (kpair (kint .i64) (kpair (kint .i64) (kpair (kint .i64) kOxm)))))) (Lens.comp (Lens.comp (Lens.comp (Lens.comp (Lens.snd _ _) (Lens.snd _ _)) (Lens.snd _ _)) (Lens.snd _ _)) (Lens.fst _ _)) Action.Ether (fun x y => { x with Ether := y }) (fun _ => rfl) (fun _ _ => rfl)
def lAction_5 : Lens kAction kOxm := Lens.iso (k := (kpair (kint .i64) (kpair (kint .i64) (kpair (kint .i64) (kpair (kint .i64) (kpair (kint .i64) kOxm)))))) (Lens.comp (Lens.comp (Lens.comp (Lens.comp (Lens.snd _ _) (Lens.snd _ _)) (Lens.snd _ _)) (Lens.snd _ _)) (Lens.snd _ _)) Action.Oxm (fun x y => { x with Oxm := y }) (fun _ => rfl) (fun _ _ => rfl)
def zAction : Action := ⟨0, 0, 0, 0, 0, zOxm⟩
theorem kzAction : KZ kAction zAction [(Value.int IntKind.i64 0), (Value.int IntKind.i64 0), (Value.int IntKind.i64 0), (Value.int IntKind.i64 0), (Value.int IntKind.i64 0), (Value.int IntKind.i64 0), (Value.bool false), (Value.int IntKind.u64 0), (Value.int IntKind.u64 0), (Value.int IntKind.u64 0), (Value.int IntKind.u64 0)] := kz_iso (kz_pair kz_i64 (kz_pair kz_i64 (kz_pair kz_i64 (kz_pair kz_i64 (kz_pair kz_i64 kzOxm)))))
structure Atom where
  Rewrite : (Vector Tern 24)
  Group : Bool
  Port : Int
  Max : Int
  deriving DecidableEq, Inhabited
def kAtom : Kd Atom := kiso (kpair (karr 24 kTern) (kpair kbool (kpair (kint .i64) (kint .i64)))) (fun x => (x.Rewrite, (x.Group, (x.Port, x.Max))))
def lAtom_0 : Lens kAtom (karr 24 kTern) := Lens.iso (k := (kpair (karr 24 kTern) (kpair kbool (kpair (kint .i64) (kint .i64))))) (Lens.fst _ _) Atom.Rewrite (fun x y => { x with Rewrite := y }) (fun _ => rfl) (fun _ _ => rfl)
def lAtom_1 : Lens kAtom kbool := Lens.iso (k := (kpair (karr 24 kTern) (kpair kbool (kpair (kint .i64) (kint .i64))))) (Lens.comp (Lens.snd _ _) (Lens.fst _ _)) Atom.Group (fun x y => { x with Group := y }) (fun _ => rfl) (fun _ _ => rfl)
def lAtom_2 : Lens kAtom (kint .i64) := Lens.iso (k := (kpair (karr 24 kTern) (kpair kbool (kpair (kint .i64) (kint .i64))))) (Lens.comp (Lens.comp (Lens.snd _ _) (Lens.snd _ _)) (Lens.fst _ _)) Atom.Port (fun x y => { x with Port := y }) (fun _ => rfl) (fun _ _ => rfl)
def lAtom_3 : Lens kAtom (kint .i64) := Lens.iso (k := (kpair (karr 24 kTern) (kpair kbool (kpair (kint .i64) (kint .i64))))) (Lens.comp (Lens.comp (Lens.snd _ _) (Lens.snd _ _)) (Lens.snd _ _)) Atom.Max (fun x y => { x with Max := y }) (fun _ => rfl) (fun _ _ => rfl)
def zAtom : Atom := ⟨(Vector.replicate 24 zTern), false, 0, 0⟩
theorem kzAtom : KZ kAtom zAtom [(Value.int IntKind.u64 0), (Value.int IntKind.u64 0), (Value.int IntKind.u64 0), (Value.int IntKind.u64 0), (Value.int IntKind.u64 0), (Value.int IntKind.u64 0), (Value.int IntKind.u64 0), (Value.int IntKind.u64 0), (Value.int IntKind.u64 0), (Value.int IntKind.u64 0), (Value.int IntKind.u64 0), (Value.int IntKind.u64 0), (Value.int IntKind.u64 0), (Value.int IntKind.u64 0), (Value.int IntKind.u64 0), (Value.int IntKind.u64 0), (Value.int IntKind.u64 0), (Value.int IntKind.u64 0), (Value.int IntKind.u64 0), (Value.int IntKind.u64 0), (Value.int IntKind.u64 0), (Value.int IntKind.u64 0), (Value.int IntKind.u64 0), (Value.int IntKind.u64 0), (Value.int IntKind.u64 0), (Value.int IntKind.u64 0), (Value.int IntKind.u64 0), (Value.int IntKind.u64 0), (Value.int IntKind.u64 0), (Value.int IntKind.u64 0), (Value.int IntKind.u64 0), (Value.int IntKind.u64 0), (Value.int IntKind.u64 0), (Value.int IntKind.u64 0), (Value.int IntKind.u64 0), (Value.int IntKind.u64 0), (Value.int IntKind.u64 0), (Value.int IntKind.u64 0), (Value.int IntKind.u64 0), (Value.int IntKind.u64 0), (Value.int IntKind.u64 0), (Value.int IntKind.u64 0), (Value.int IntKind.u64 0), (Value.int IntKind.u64 0), (Value.int IntKind.u64 0), (Value.int IntKind.u64 0), (Value.int IntKind.u64 0), (Value.int IntKind.u64 0), (Value.int IntKind.u64 0), (Value.int IntKind.u64 0), (Value.int IntKind.u64 0), (Value.int IntKind.u64 0), (Value.int IntKind.u64 0), (Value.int IntKind.u64 0), (Value.int IntKind.u64 0), (Value.int IntKind.u64 0), (Value.int IntKind.u64 0), (Value.int IntKind.u64 0), (Value.int IntKind.u64 0), (Value.int IntKind.u64 0), (Value.int IntKind.u64 0), (Value.int IntKind.u64 0), (Value.int IntKind.u64 0), (Value.int IntKind.u64 0), (Value.int IntKind.u64 0), (Value.int IntKind.u64 0), (Value.int IntKind.u64 0), (Value.int IntKind.u64 0), (Value.int IntKind.u64 0), (Value.int IntKind.u64 0), (Value.int IntKind.u64 0), (Value.int IntKind.u64 0), (Value.int IntKind.u64 0), (Value.int IntKind.u64 0), (Value.int IntKind.u64 0), (Value.int IntKind.u64 0), (Value.int IntKind.u64 0), (Value.int IntKind.u64 0), (Value.int IntKind.u64 0), (Value.int IntKind.u64 0), (Value.int IntKind.u64 0), (Value.int IntKind.u64 0), (Value.int IntKind.u64 0), (Value.int IntKind.u64 0), (Value.int IntKind.u64 0), (Value.int IntKind.u64 0), (Value.int IntKind.u64 0), (Value.int IntKind.u64 0), (Value.int IntKind.u64 0), (Value.int IntKind.u64 0), (Value.int IntKind.u64 0), (Value.int IntKind.u64 0), (Value.int IntKind.u64 0), (Value.int IntKind.u64 0), (Value.int IntKind.u64 0), (Value.int IntKind.u64 0), (Value.bool false), (Value.int IntKind.i64 0), (Value.int IntKind.i64 0)] := kz_iso (kz_pair (kz_arr 24 kzTern) (kz_pair kz_bool (kz_pair kz_i64 kz_i64)))
structure atom_trace where
  got : (Vector Tern 24)
  atoms : (List Atom)
  deriving DecidableEq, Inhabited
def katom_trace : Kd atom_trace := kiso (kpair (karr 24 kTern) (ksl kAtom)) (fun x => (x.got, x.atoms))
def latom_trace_0 : Lens katom_trace (karr 24 kTern) := Lens.iso (k := (kpair (karr 24 kTern) (ksl kAtom))) (Lens.fst _ _) atom_trace.got (fun x y => { x with got := y }) (fun _ => rfl) (fun _ _ => rfl)
def latom_trace_1 : Lens katom_trace (ksl kAtom) := Lens.iso (k := (kpair (karr 24 kTern) (ksl kAtom))) (Lens.snd _ _) atom_trace.atoms (fun x y => { x with atoms := y }) (fun _ => rfl) (fun _ _ => rfl)
def zatom_trace : atom_trace := ⟨(Vector.replicate 24 zTern), []⟩
theorem kzatom_trace : KZ katom_trace zatom_trace [(Value.int IntKind.u64 0), (Value.int IntKind.u64 0), (Value.int IntKind.u64 0), (Value.int IntKind.u64 0), (Value.int IntKind.u64 0), (Value.int IntKind.u64 0), (Value.int IntKind.u64 0), (Value.int IntKind.u64 0), (Value.int IntKind.u64 0), (Value.int IntKind.u64 0), (Value.int IntKind.u64 0), (Value.int IntKind.u64 0), (Value.int IntKind.u64 0), (Value.int IntKind.u64 0), (Value.int IntKind.u64 0), (Value.int IntKind.u64 0), (Value.int IntKind.u64 0), (Value.int IntKind.u64 0), (Value.int IntKind.u64 0), (Value.int IntKind.u64 0), (Value.int IntKind.u64 0), (Value.int IntKind.u64 0), (Value.int IntKind.u64 0), (Value.int IntKind.u64 0), (Value.int IntKind.u64 0), (Value.int IntKind.u64 0), (Value.int IntKind.u64 0), (Value.int IntKind.u64 0), (Value.int IntKind.u64 0), (Value.int IntKind.u64 0), (Value.int IntKind.u64 0), (Value.int IntKind.u64 0), (Value.int IntKind.u64 0), (Value.int IntKind.u64 0), (Value.int IntKind.u64 0), (Value.int IntKind.u64 0), (Value.int IntKind.u64 0), (Value.int IntKind.u64 0), (Value.int IntKind.u64 0), (Value.int IntKind.u64 0), (Value.int IntKind.u64 0), (Value.int IntKind.u64 0), (Value.int IntKind.u64 0), (Value.int IntKind.u64 0), (Value.int IntKind.u64 0), (Value.int IntKind.u64 0), (Value.int IntKind.u64 0), (Value.int IntKind.u64 0), (Value.int IntKind.u64 0), (Value.int IntKind.u64 0), (Value.int IntKind.u64 0), (Value.int IntKind.u64 0), (Value.int IntKind.u64 0), (Value.int IntKind.u64 0), (Value.int IntKind.u64 0), (Value.int IntKind.u64 0), (Value.int IntKind.u64 0), (Value.int IntKind.u64 0), (Value.int IntKind.u64 0), (Value.int IntKind.u64 0), (Value.int IntKind.u64 0), (Value.int IntKind.u64 0), (Value.int IntKind.u64 0), (Value.int IntKind.u64 0), (Value.int IntKind.u64 0), (Value.int IntKind.u64 0), (Value.int IntKind.u64 0), (Value.int IntKind.u64 0), (Value.int IntKind.u64 0), (Value.int IntKind.u64 0), (Value.int IntKind.u64 0), (Value.int IntKind.u64 0), (Value.int IntKind.u64 0), (Value.int IntKind.u64 0), (Value.int IntKind.u64 0), (Value.int IntKind.u64 0), (Value.int IntKind.u64 0), (Value.int IntKind.u64 0), (Value.int IntKind.u64 0), (Value.int IntKind.u64 0), (Value.int IntKind.u64 0), (Value.int IntKind.u64 0), (Value.int IntKind.u64 0), (Value.int IntKind.u64 0), (Value.int IntKind.u64 0), (Value.int IntKind.u64 0), (Value.int IntKind.u64 0), (Value.int IntKind.u64 0), (Value.int IntKind.u64 0), (Value.int IntKind.u64 0), (Value.int IntKind.u64 0), (Value.int IntKind.u64 0), (Value.int IntKind.u64 0), (Value.int IntKind.u64 0), (Value.int IntKind.u64 0), (Value.int IntKind.u64 0), (Value.slice none 0 0)] := kz_iso (kz_pair (kz_arr 24 kzTern) (kz_sl _))
structure atom_trace_o1 where
  got : (Vector Tern 24)
  atoms : Value
def katom_trace_o1 : Kd atom_trace_o1 := kiso (kpair (karr 24 kTern) kraw) (fun x => (x.got, x.atoms))
def latom_trace_o1_0 : Lens katom_trace_o1 (karr 24 kTern) := Lens.iso (k := (kpair (karr 24 kTern) kraw)) (Lens.fst _ _) atom_trace_o1.got (fun x y => { x with got := y }) (fun _ => rfl) (fun _ _ => rfl)
def latom_trace_o1_1 : Lens katom_trace_o1 kraw := Lens.iso (k := (kpair (karr 24 kTern) kraw)) (Lens.snd _ _) atom_trace_o1.atoms (fun x y => { x with atoms := y }) (fun _ => rfl) (fun _ _ => rfl)
def zatom_trace_o1 : atom_trace_o1 := ⟨(Vector.replicate 24 zTern), (.slice none 0 0)⟩
theorem kzatom_trace_o1 : KZ katom_trace_o1 zatom_trace_o1 [(Value.int IntKind.u64 0), (Value.int IntKind.u64 0), (Value.int IntKind.u64 0), (Value.int IntKind.u64 0), (Value.int IntKind.u64 0), (Value.int IntKind.u64 0), (Value.int IntKind.u64 0), (Value.int IntKind.u64 0), (Value.int IntKind.u64 0), (Value.int IntKind.u64 0), (Value.int IntKind.u64 0), (Value.int IntKind.u64 0), (Value.int IntKind.u64 0), (Value.int IntKind.u64 0), (Value.int IntKind.u64 0), (Value.int IntKind.u64 0), (Value.int IntKind.u64 0), (Value.int IntKind.u64 0), (Value.int IntKind.u64 0), (Value.int IntKind.u64 0), (Value.int IntKind.u64 0), (Value.int IntKind.u64 0), (Value.int IntKind.u64 0), (Value.int IntKind.u64 0), (Value.int IntKind.u64 0), (Value.int IntKind.u64 0), (Value.int IntKind.u64 0), (Value.int IntKind.u64 0), (Value.int IntKind.u64 0), (Value.int IntKind.u64 0), (Value.int IntKind.u64 0), (Value.int IntKind.u64 0), (Value.int IntKind.u64 0), (Value.int IntKind.u64 0), (Value.int IntKind.u64 0), (Value.int IntKind.u64 0), (Value.int IntKind.u64 0), (Value.int IntKind.u64 0), (Value.int IntKind.u64 0), (Value.int IntKind.u64 0), (Value.int IntKind.u64 0), (Value.int IntKind.u64 0), (Value.int IntKind.u64 0), (Value.int IntKind.u64 0), (Value.int IntKind.u64 0), (Value.int IntKind.u64 0), (Value.int IntKind.u64 0), (Value.int IntKind.u64 0), (Value.int IntKind.u64 0), (Value.int IntKind.u64 0), (Value.int IntKind.u64 0), (Value.int IntKind.u64 0), (Value.int IntKind.u64 0), (Value.int IntKind.u64 0), (Value.int IntKind.u64 0), (Value.int IntKind.u64 0), (Value.int IntKind.u64 0), (Value.int IntKind.u64 0), (Value.int IntKind.u64 0), (Value.int IntKind.u64 0), (Value.int IntKind.u64 0), (Value.int IntKind.u64 0), (Value.int IntKind.u64 0), (Value.int IntKind.u64 0), (Value.int IntKind.u64 0), (Value.int IntKind.u64 0), (Value.int IntKind.u64 0), (Value.int IntKind.u64 0), (Value.int IntKind.u64 0), (Value.int IntKind.u64 0), (Value.int IntKind.u64 0), (Value.int IntKind.u64 0), (Value.int IntKind.u64 0), (Value.int IntKind.u64 0), (Value.int IntKind.u64 0), (Value.int IntKind.u64 0), (Value.int IntKind.u64 0), (Value.int IntKind.u64 0), (Value.int IntKind.u64 0), (Value.int IntKind.u64 0), (Value.int IntKind.u64 0), (Value.int IntKind.u64 0), (Value.int IntKind.u64 0), (Value.int IntKind.u64 0), (Value.int IntKind.u64 0), (Value.int IntKind.u64 0), (Value.int IntKind.u64 0), (Value.int IntKind.u64 0), (Value.int IntKind.u64 0), (Value.int IntKind.u64 0), (Value.int IntKind.u64 0), (Value.int IntKind.u64 0), (Value.int IntKind.u64 0), (Value.int IntKind.u64 0), (Value.int IntKind.u64 0), (Value.int IntKind.u64 0), (Value.slice none 0 0)] := kz_iso (kz_pair (kz_arr 24 kzTern) (kz_raw rfl))
theorem cvatom_trace_o1 (x : atom_trace_o1) (l : (List Atom)) : ∀ w H cs, katom_trace_o1.C w H x cs → SlC kAtom w H l x.atoms → katom_trace.C w H ⟨x.got, l⟩ cs := by
  rintro w H cs ⟨c0, r0, rfl, h0, h1⟩ hs
  exact ⟨_, _, rfl, h0, ⟨_, h1.1, hs⟩⟩
structure Bucket where
  Weight : Int
  Watch : Int
  WatchGroup : Int
  Acts : (List Action)
  deriving DecidableEq, Inhabited
def kBucket : Kd Bucket := kiso (kpair (kint .i64) (kpair (kint .i64) (kpair (kint .i64) (ksl kAction)))) (fun x => (x.Weight, (x.Watch, (x.WatchGroup, x.Acts))))
def lBucket_0 : Lens kBucket (kint .i64) := Lens.iso (k := (kpair (kint .i64) (kpair (kint .i64) (kpair (kint .i64) (ksl kAction))))) (Lens.fst _ _) Bucket.Weight (fun x y => { x with Weight := y }) (fun _ => rfl) (fun _ _ => rfl)
def lBucket_1 : Lens kBucket (kint .i64) := Lens.iso (k := (kpair (kint .i64) (kpair (kint .i64) (kpair (kint .i64) (ksl kAction))))) (Lens.comp (Lens.snd _ _) (Lens.fst _ _)) Bucket.Watch (fun x y => { x with Watch := y }) (fun _ => rfl) (fun _ _ => rfl)
def lBucket_2 : Lens kBucket (kint .i64) := Lens.iso (k := (kpair (kint .i64) (kpair (kint .i64) (kpair (kint .i64) (ksl kAction))))) (Lens.comp (Lens.comp (Lens.snd _ _) (Lens.snd _ _)) (Lens.fst _ _)) Bucket.WatchGroup (fun x y => { x with WatchGroup := y }) (fun _ => rfl) (fun _ _ => rfl)
def lBucket_3 : Lens kBucket (ksl kAction) := Lens.iso (k := (kpair (kint .i64) (kpair (kint .i64) (kpair (kint .i64) (ksl kAction))))) (Lens.comp (Lens.comp (Lens.snd _ _) (Lens.snd _ _)) (Lens.snd _ _)) Bucket.Acts (fun x y => { x with Acts := y }) (fun _ => rfl) (fun _ _ => rfl)
def zBucket : Bucket := ⟨0, 0, 0, []⟩
theorem kzBucket : KZ kBucket zBucket [(Value.int IntKind.i64 0), (Value.int IntKind.i64 0), (Value.int IntKind.i64 0), (Value.slice none 0 0)] := kz_iso (kz_pair kz_i64 (kz_pair kz_i64 (kz_pair kz_i64 (kz_sl _))))
structure Group where
  ID : Int
  Kind : Int
  Buckets : (List Bucket)
  deriving DecidableEq, Inhabited
def kGroup : Kd Group := kiso (kpair (kint .i64) (kpair (kint .i64) (ksl kBucket))) (fun x => (x.ID, (x.Kind, x.Buckets)))
def lGroup_0 : Lens kGroup (kint .i64) := Lens.iso (k := (kpair (kint .i64) (kpair (kint .i64) (ksl kBucket)))) (Lens.fst _ _) Group.ID (fun x y => { x with ID := y }) (fun _ => rfl) (fun _ _ => rfl)
def lGroup_1 : Lens kGroup (kint .i64) := Lens.iso (k := (kpair (kint .i64) (kpair (kint .i64) (ksl kBucket)))) (Lens.comp (Lens.snd _ _) (Lens.fst _ _)) Group.Kind (fun x y => { x with Kind := y }) (fun _ => rfl) (fun _ _ => rfl)
def lGroup_2 : Lens kGroup (ksl kBucket) := Lens.iso (k := (kpair (kint .i64) (kpair (kint .i64) (ksl kBucket)))) (Lens.comp (Lens.snd _ _) (Lens.snd _ _)) Group.Buckets (fun x y => { x with Buckets := y }) (fun _ => rfl) (fun _ _ => rfl)
def zGroup : Group := ⟨0, 0, []⟩
theorem kzGroup : KZ kGroup zGroup [(Value.int IntKind.i64 0), (Value.int IntKind.i64 0), (Value.slice none 0 0)] := kz_iso (kz_pair kz_i64 (kz_pair kz_i64 (kz_sl _)))
structure Env where
  Turn : Int
  Down : (List Int)
  deriving DecidableEq, Inhabited
def kEnv : Kd Env := kiso (kpair (kint .i64) (ksl (kint .i64))) (fun x => (x.Turn, x.Down))
def lEnv_0 : Lens kEnv (kint .i64) := Lens.iso (k := (kpair (kint .i64) (ksl (kint .i64)))) (Lens.fst _ _) Env.Turn (fun x y => { x with Turn := y }) (fun _ => rfl) (fun _ _ => rfl)
def lEnv_1 : Lens kEnv (ksl (kint .i64)) := Lens.iso (k := (kpair (kint .i64) (ksl (kint .i64)))) (Lens.snd _ _) Env.Down (fun x y => { x with Down := y }) (fun _ => rfl) (fun _ _ => rfl)
def zEnv : Env := ⟨0, []⟩
theorem kzEnv : KZ kEnv zEnv [(Value.int IntKind.i64 0), (Value.slice none 0 0)] := kz_iso (kz_pair kz_i64 (kz_sl _))
structure env_world where
  Env : Env
  Group : Group
  deriving DecidableEq, Inhabited
def kenv_world : Kd env_world := kiso (kpair kEnv kGroup) (fun x => (x.Env, x.Group))
def lenv_world_0 : Lens kenv_world kEnv := Lens.iso (k := (kpair kEnv kGroup)) (Lens.fst _ _) env_world.Env (fun x y => { x with Env := y }) (fun _ => rfl) (fun _ _ => rfl)
def lenv_world_1 : Lens kenv_world kGroup := Lens.iso (k := (kpair kEnv kGroup)) (Lens.snd _ _) env_world.Group (fun x y => { x with Group := y }) (fun _ => rfl) (fun _ _ => rfl)
def zenv_world : env_world := ⟨zEnv, zGroup⟩
theorem kzenv_world : KZ kenv_world zenv_world [(Value.int IntKind.i64 0), (Value.slice none 0 0), (Value.int IntKind.i64 0), (Value.int IntKind.i64 0), (Value.slice none 0 0)] := kz_iso (kz_pair kzEnv kzGroup)
structure aset_spot where
  kind : Int
  field : Int
  deriving DecidableEq, Inhabited
def kaset_spot : Kd aset_spot := kiso (kpair (kint .i64) (kint .i64)) (fun x => (x.kind, x.field))
def laset_spot_0 : Lens kaset_spot (kint .i64) := Lens.iso (k := (kpair (kint .i64) (kint .i64))) (Lens.fst _ _) aset_spot.kind (fun x y => { x with kind := y }) (fun _ => rfl) (fun _ _ => rfl)
def laset_spot_1 : Lens kaset_spot (kint .i64) := Lens.iso (k := (kpair (kint .i64) (kint .i64))) (Lens.snd _ _) aset_spot.field (fun x y => { x with field := y }) (fun _ => rfl) (fun _ _ => rfl)
def zaset_spot : aset_spot := ⟨0, 0⟩
theorem kzaset_spot : KZ kaset_spot zaset_spot [(Value.int IntKind.i64 0), (Value.int IntKind.i64 0)] := kz_iso (kz_pair kz_i64 kz_i64)
structure Out where
  Port : Int
  Max : Int
  Header : (Vector Wide 24)
  deriving DecidableEq, Inhabited
def kOut : Kd Out := kiso (kpair (kint .i64) (kpair (kint .i64) (karr 24 kWide))) (fun x => (x.Port, (x.Max, x.Header)))
def lOut_0 : Lens kOut (kint .i64) := Lens.iso (k := (kpair (kint .i64) (kpair (kint .i64) (karr 24 kWide)))) (Lens.fst _ _) Out.Port (fun x y => { x with Port := y }) (fun _ => rfl) (fun _ _ => rfl)
def lOut_1 : Lens kOut (kint .i64) := Lens.iso (k := (kpair (kint .i64) (kpair (kint .i64) (karr 24 kWide)))) (Lens.comp (Lens.snd _ _) (Lens.fst _ _)) Out.Max (fun x y => { x with Max := y }) (fun _ => rfl) (fun _ _ => rfl)
def lOut_2 : Lens kOut (karr 24 kWide) := Lens.iso (k := (kpair (kint .i64) (kpair (kint .i64) (karr 24 kWide)))) (Lens.comp (Lens.snd _ _) (Lens.snd _ _)) Out.Header (fun x y => { x with Header := y }) (fun _ => rfl) (fun _ _ => rfl)
def zOut : Out := ⟨0, 0, (Vector.replicate 24 zWide)⟩
theorem kzOut : KZ kOut zOut [(Value.int IntKind.i64 0), (Value.int IntKind.i64 0), (Value.int IntKind.u64 0), (Value.int IntKind.u64 0), (Value.int IntKind.u64 0), (Value.int IntKind.u64 0), (Value.int IntKind.u64 0), (Value.int IntKind.u64 0), (Value.int IntKind.u64 0), (Value.int IntKind.u64 0), (Value.int IntKind.u64 0), (Value.int IntKind.u64 0), (Value.int IntKind.u64 0), (Value.int IntKind.u64 0), (Value.int IntKind.u64 0), (Value.int IntKind.u64 0), (Value.int IntKind.u64 0), (Value.int IntKind.u64 0), (Value.int IntKind.u64 0), (Value.int IntKind.u64 0), (Value.int IntKind.u64 0), (Value.int IntKind.u64 0), (Value.int IntKind.u64 0), (Value.int IntKind.u64 0), (Value.int IntKind.u64 0), (Value.int IntKind.u64 0), (Value.int IntKind.u64 0), (Value.int IntKind.u64 0), (Value.int IntKind.u64 0), (Value.int IntKind.u64 0), (Value.int IntKind.u64 0), (Value.int IntKind.u64 0), (Value.int IntKind.u64 0), (Value.int IntKind.u64 0), (Value.int IntKind.u64 0), (Value.int IntKind.u64 0), (Value.int IntKind.u64 0), (Value.int IntKind.u64 0), (Value.int IntKind.u64 0), (Value.int IntKind.u64 0), (Value.int IntKind.u64 0), (Value.int IntKind.u64 0), (Value.int IntKind.u64 0), (Value.int IntKind.u64 0), (Value.int IntKind.u64 0), (Value.int IntKind.u64 0), (Value.int IntKind.u64 0), (Value.int IntKind.u64 0), (Value.int IntKind.u64 0), (Value.int IntKind.u64 0)] := kz_iso (kz_pair kz_i64 (kz_pair kz_i64 (kz_arr 24 kzWide)))
structure exec_run where
  Env : Env
  groups : (List Group)
  out : (List Out)
  header : (Vector Wide 24)
  depth : Int
  deriving DecidableEq, Inhabited
def kexec_run : Kd exec_run := kiso (kpair kEnv (kpair (ksl kGroup) (kpair (ksl kOut) (kpair (karr 24 kWide) (kint .i64))))) (fun x => (x.Env, (x.groups, (x.out, (x.header, x.depth)))))
def lexec_run_0 : Lens kexec_run kEnv := Lens.iso (k := (kpair kEnv (kpair (ksl kGroup) (kpair (ksl kOut) (kpair (karr 24 kWide) (kint .i64)))))) (Lens.fst _ _) exec_run.Env (fun x y => { x with Env := y }) (fun _ => rfl) (fun _ _ => rfl)
def lexec_run_1 : Lens kexec_run (ksl kGroup) := Lens.iso (k := (kpair kEnv (kpair (ksl kGroup) (kpair (ksl kOut) (kpair (karr 24 kWide) (kint .i64)))))) (Lens.comp (Lens.snd _ _) (Lens.fst _ _)) exec_run.groups (fun x y => { x with groups := y }) (fun _ => rfl) (fun _ _ => rfl)
def lexec_run_2 : Lens kexec_run (ksl kOut) := Lens.iso (k := (kpair kEnv (kpair (ksl kGroup) (kpair (ksl kOut) (kpair (karr 24 kWide) (kint .i64)))))) (Lens.comp (Lens.comp (Lens.snd _ _) (Lens.snd _ _)) (Lens.fst _ _)) exec_run.out (fun x y => { x with out := y }) (fun _ => rfl) (fun _ _ => rfl)
def lexec_run_3 : Lens kexec_run (karr 24 kWide) := Lens.iso (k := (kpair kEnv (kpair (ksl kGroup) (kpair (ksl kOut) (kpair (karr 24 kWide) (kint .i64)))))) (Lens.comp (Lens.comp (Lens.comp (Lens.snd _ _) (Lens.snd _ _)) (Lens.snd _ _)) (Lens.fst _ _)) exec_run.header (fun x y => { x with header := y }) (fun _ => rfl) (fun _ _ => rfl)
def lexec_run_4 : Lens kexec_run (kint .i64) := Lens.iso (k := (kpair kEnv (kpair (ksl kGroup) (kpair (ksl kOut) (kpair (karr 24 kWide) (kint .i64)))))) (Lens.comp (Lens.comp (Lens.comp (Lens.snd _ _) (Lens.snd _ _)) (Lens.snd _ _)) (Lens.snd _ _)) exec_run.depth (fun x y => { x with depth := y }) (fun _ => rfl) (fun _ _ => rfl)
def zexec_run : exec_run := ⟨zEnv, [], [], (Vector.replicate 24 zWide), 0⟩
theorem kzexec_run : KZ kexec_run zexec_run [(Value.int IntKind.i64 0), (Value.slice none 0 0), (Value.slice none 0 0), (Value.slice none 0 0), (Value.int IntKind.u64 0), (Value.int IntKind.u64 0), (Value.int IntKind.u64 0), (Value.int IntKind.u64 0), (Value.int IntKind.u64 0), (Value.int IntKind.u64 0), (Value.int IntKind.u64 0), (Value.int IntKind.u64 0), (Value.int IntKind.u64 0), (Value.int IntKind.u64 0), (Value.int IntKind.u64 0), (Value.int IntKind.u64 0), (Value.int IntKind.u64 0), (Value.int IntKind.u64 0), (Value.int IntKind.u64 0), (Value.int IntKind.u64 0), (Value.int IntKind.u64 0), (Value.int IntKind.u64 0), (Value.int IntKind.u64 0), (Value.int IntKind.u64 0), (Value.int IntKind.u64 0), (Value.int IntKind.u64 0), (Value.int IntKind.u64 0), (Value.int IntKind.u64 0), (Value.int IntKind.u64 0), (Value.int IntKind.u64 0), (Value.int IntKind.u64 0), (Value.int IntKind.u64 0), (Value.int IntKind.u64 0), (Value.int IntKind.u64 0), (Value.int IntKind.u64 0), (Value.int IntKind.u64 0), (Value.int IntKind.u64 0), (Value.int IntKind.u64 0), (Value.int IntKind.u64 0), (Value.int IntKind.u64 0), (Value.int IntKind.u64 0), (Value.int IntKind.u64 0), (Value.int IntKind.u64 0), (Value.int IntKind.u64 0), (Value.int IntKind.u64 0), (Value.int IntKind.u64 0), (Value.int IntKind.u64 0), (Value.int IntKind.u64 0), (Value.int IntKind.u64 0), (Value.int IntKind.u64 0), (Value.int IntKind.u64 0), (Value.int IntKind.u64 0), (Value.int IntKind.i64 0)] := kz_iso (kz_pair kzEnv (kz_pair (kz_sl _) (kz_pair (kz_sl _) (kz_pair (kz_arr 24 kzWide) kz_i64))))
structure exec_run_o2 where
  Env : Env
  groups : (List Group)
  out : Value
  header : (Vector Wide 24)
  depth : Int
def kexec_run_o2 : Kd exec_run_o2 := kiso (kpair kEnv (kpair (ksl kGroup) (kpair kraw (kpair (karr 24 kWide) (kint .i64))))) (fun x => (x.Env, (x.groups, (x.out, (x.header, x.depth)))))
def lexec_run_o2_0 : Lens kexec_run_o2 kEnv := Lens.iso (k := (kpair kEnv (kpair (ksl kGroup) (kpair kraw (kpair (karr 24 kWide) (kint .i64)))))) (Lens.fst _ _) exec_run_o2.Env (fun x y => { x with Env := y }) (fun _ => rfl) (fun _ _ => rfl)
def lexec_run_o2_1 : Lens kexec_run_o2 (ksl kGroup) := Lens.iso (k := (kpair kEnv (kpair (ksl kGroup) (kpair kraw (kpair (karr 24 kWide) (kint .i64)))))) (Lens.comp (Lens.snd _ _) (Lens.fst _ _)) exec_run_o2.groups (fun x y => { x with groups := y }) (fun _ => rfl) (fun _ _ => rfl)
def lexec_run_o2_2 : Lens kexec_run_o2 kraw := Lens.iso (k := (kpair kEnv (kpair (ksl kGroup) (kpair kraw (kpair (karr 24 kWide) (kint .i64)))))) (Lens.comp (Lens.comp (Lens.snd _ _) (Lens.snd _ _)) (Lens.fst _ _)) exec_run_o2.out (fun x y => { x with out := y }) (fun _ => rfl) (fun _ _ => rfl)
def lexec_run_o2_3 : Lens kexec_run_o2 (karr 24 kWide) := Lens.iso (k := (kpair kEnv (kpair (ksl kGroup) (kpair kraw (kpair (karr 24 kWide) (kint .i64)))))) (Lens.comp (Lens.comp (Lens.comp (Lens.snd _ _) (Lens.snd _ _)) (Lens.snd _ _)) (Lens.fst _ _)) exec_run_o2.header (fun x y => { x with header := y }) (fun _ => rfl) (fun _ _ => rfl)
def lexec_run_o2_4 : Lens kexec_run_o2 (kint .i64) := Lens.iso (k := (kpair kEnv (kpair (ksl kGroup) (kpair kraw (kpair (karr 24 kWide) (kint .i64)))))) (Lens.comp (Lens.comp (Lens.comp (Lens.snd _ _) (Lens.snd _ _)) (Lens.snd _ _)) (Lens.snd _ _)) exec_run_o2.depth (fun x y => { x with depth := y }) (fun _ => rfl) (fun _ _ => rfl)
def zexec_run_o2 : exec_run_o2 := ⟨zEnv, [], (.slice none 0 0), (Vector.replicate 24 zWide), 0⟩
theorem kzexec_run_o2 : KZ kexec_run_o2 zexec_run_o2 [(Value.int IntKind.i64 0), (Value.slice none 0 0), (Value.slice none 0 0), (Value.slice none 0 0), (Value.int IntKind.u64 0), (Value.int IntKind.u64 0), (Value.int IntKind.u64 0), (Value.int IntKind.u64 0), (Value.int IntKind.u64 0), (Value.int IntKind.u64 0), (Value.int IntKind.u64 0), (Value.int IntKind.u64 0), (Value.int IntKind.u64 0), (Value.int IntKind.u64 0), (Value.int IntKind.u64 0), (Value.int IntKind.u64 0), (Value.int IntKind.u64 0), (Value.int IntKind.u64 0), (Value.int IntKind.u64 0), (Value.int IntKind.u64 0), (Value.int IntKind.u64 0), (Value.int IntKind.u64 0), (Value.int IntKind.u64 0), (Value.int IntKind.u64 0), (Value.int IntKind.u64 0), (Value.int IntKind.u64 0), (Value.int IntKind.u64 0), (Value.int IntKind.u64 0), (Value.int IntKind.u64 0), (Value.int IntKind.u64 0), (Value.int IntKind.u64 0), (Value.int IntKind.u64 0), (Value.int IntKind.u64 0), (Value.int IntKind.u64 0), (Value.int IntKind.u64 0), (Value.int IntKind.u64 0), (Value.int IntKind.u64 0), (Value.int IntKind.u64 0), (Value.int IntKind.u64 0), (Value.int IntKind.u64 0), (Value.int IntKind.u64 0), (Value.int IntKind.u64 0), (Value.int IntKind.u64 0), (Value.int IntKind.u64 0), (Value.int IntKind.u64 0), (Value.int IntKind.u64 0), (Value.int IntKind.u64 0), (Value.int IntKind.u64 0), (Value.int IntKind.u64 0), (Value.int IntKind.u64 0), (Value.int IntKind.u64 0), (Value.int IntKind.u64 0), (Value.int IntKind.i64 0)] := kz_iso (kz_pair kzEnv (kz_pair (kz_sl _) (kz_pair (kz_raw rfl) (kz_pair (kz_arr 24 kzWide) kz_i64))))
theorem cvexec_run_o2 (x : exec_run_o2) (l : (List Out)) : ∀ w H cs, kexec_run_o2.C w H x cs → SlC kOut w H l x.out → kexec_run.C w H ⟨x.Env, x.groups, l, x.header, x.depth⟩ cs := by
  rintro w H cs ⟨c0, r0, rfl, h0, ⟨c1, r1, rfl, h1, ⟨c2, r2, rfl, h2, ⟨c3, r3, rfl, h3, h4⟩⟩⟩⟩ hs
  exact ⟨_, _, rfl, h0, ⟨_, _, rfl, h1, ⟨_, _, rfl, ⟨_, h2.1, hs⟩, ⟨_, _, rfl, h3, h4⟩⟩⟩⟩
theorem zr29 : Zr Try.prog 29 (karr 24 kTern) (Vector.replicate 24 zTern) := ⟨_, (kz_arr 24 kzTern), by kernel_rfl⟩
theorem ty29 : Ty Try.prog 29 (karr 24 kTern) := ⟨by kernel_rfl, by kernel_rfl⟩
theorem zr25 : Zr Try.prog 25 kWide zWide := ⟨_, kzWide, by kernel_rfl⟩
theorem fl25_0 : Fl Try.prog 25 0 lWide_0 := ⟨by kernel_rfl, rfl⟩
theorem ty23 : Ty Try.prog 23 ku64 := ⟨by kernel_rfl, by kernel_rfl⟩
theorem fl25_1 : Fl Try.prog 25 1 lWide_1 := ⟨by kernel_rfl, rfl⟩
theorem ty25 : Ty Try.prog 25 kWide := ⟨by kernel_rfl, by kernel_rfl⟩
theorem zr27 : Zr Try.prog 27 kTern zTern := ⟨_, kzTern, by kernel_rfl⟩
theorem fl27_0 : Fl Try.prog 27 0 lTern_0 := ⟨by kernel_rfl, rfl⟩
theorem fl27_1 : Fl Try.prog 27 1 lTern_1 := ⟨by kernel_rfl, rfl⟩
theorem ty27 : Ty Try.prog 27 kTern := ⟨by kernel_rfl, by kernel_rfl⟩
theorem ar29 : Ar Try.prog 29 27 24 kTern := ⟨by kernel_rfl, by kernel_rfl⟩
theorem zr133 : Zr Try.prog 133 (karr 24 kfield_row) (Vector.replicate 24 zfield_row) := ⟨_, (kz_arr 24 kzfield_row), by kernel_rfl⟩
theorem zr127 : Zr Try.prog 127 kfield_row zfield_row := ⟨_, kzfield_row, by kernel_rfl⟩
theorem ty133 : Ty Try.prog 133 (karr 24 kfield_row) := ⟨by kernel_rfl, by kernel_rfl⟩
theorem ty127 : Ty Try.prog 127 kfield_row := ⟨by kernel_rfl, by kernel_rfl⟩
theorem ar133 : Ar Try.prog 133 127 24 kfield_row := ⟨by kernel_rfl, by kernel_rfl⟩
theorem ft127_2 : fieldTy Try.prog 127 2 = some 3 := by kernel_rfl
theorem fl127_2 : Fl Try.prog 127 2 lfield_row_2 := ⟨by kernel_rfl, rfl⟩
theorem ty3 : Ty Try.prog 3 (kint .i64) := ⟨by kernel_rfl, by kernel_rfl⟩
theorem fl54_0 : Fl Try.prog 54 0 lOxm_0 := ⟨by kernel_rfl, rfl⟩
theorem fl54_1 : Fl Try.prog 54 1 lOxm_1 := ⟨by kernel_rfl, rfl⟩
theorem ty4 : Ty Try.prog 4 kbool := ⟨by kernel_rfl, by kernel_rfl⟩
theorem fl54_2 : Fl Try.prog 54 2 lOxm_2 := ⟨by kernel_rfl, rfl⟩
theorem fl54_3 : Fl Try.prog 54 3 lOxm_3 := ⟨by kernel_rfl, rfl⟩
theorem zr107 : Zr Try.prog 107 (karr 2 ku64) (Vector.replicate 2 0) := ⟨_, (kz_arr 2 kz_u64), by kernel_rfl⟩
theorem ar107 : Ar Try.prog 107 23 2 ku64 := ⟨by kernel_rfl, by kernel_rfl⟩
theorem fl56_0 : Fl Try.prog 56 0 lAction_0 := ⟨by kernel_rfl, rfl⟩
theorem fl56_5 : Fl Try.prog 56 5 lAction_5 := ⟨by kernel_rfl, rfl⟩
theorem ty54 : Ty Try.prog 54 kOxm := ⟨by kernel_rfl, by kernel_rfl⟩
theorem flv63_0_1 : Fl Try.prog 63 0 latom_trace_o1_0 := ⟨by kernel_rfl, rfl⟩
theorem zr36 : Zr Try.prog 36 kAtom zAtom := ⟨_, kzAtom, by kernel_rfl⟩
theorem ty36 : Ty Try.prog 36 kAtom := ⟨by kernel_rfl, by kernel_rfl⟩
theorem fl56_1 : Fl Try.prog 56 1 lAction_1 := ⟨by kernel_rfl, rfl⟩
theorem fl36_2 : Fl Try.prog 36 2 lAtom_2 := ⟨by kernel_rfl, rfl⟩
theorem fl56_2 : Fl Try.prog 56 2 lAction_2 := ⟨by kernel_rfl, rfl⟩
theorem fl36_3 : Fl Try.prog 36 3 lAtom_3 := ⟨by kernel_rfl, rfl⟩
theorem fl56_3 : Fl Try.prog 56 3 lAction_3 := ⟨by kernel_rfl, rfl⟩
theorem fl36_1 : Fl Try.prog 36 1 lAtom_1 := ⟨by kernel_rfl, rfl⟩
theorem ty56 : Ty Try.prog 56 kAction := ⟨by kernel_rfl, by kernel_rfl⟩
theorem flv63_1_1 : Fl Try.prog 63 1 latom_trace_o1_1 := ⟨by kernel_rfl, rfl⟩
theorem tyr30 : Ty Try.prog 30 kraw := ⟨by kernel_rfl, by kernel_rfl⟩
theorem sl30 : Sl Try.prog 30 36 kAtom := ⟨by kernel_rfl, by kernel_rfl⟩
theorem el30 : El Try.prog 30 36 kAtom := ⟨by kernel_rfl, by kernel_rfl, by kernel_rfl, by kernel_rfl, by kernel_rfl⟩
theorem sl22 : Sl Try.prog 22 56 kAction := ⟨by kernel_rfl, by kernel_rfl⟩
theorem zr56 : Zr Try.prog 56 kAction zAction := ⟨_, kzAction, by kernel_rfl⟩
theorem zrv63_1 : Zr Try.prog 63 katom_trace_o1 zatom_trace_o1 := ⟨_, kzatom_trace_o1, by kernel_rfl⟩
theorem zr43 : Zr Try.prog 43 (karr 24 kWide) (Vector.replicate 24 zWide) := ⟨_, (kz_arr 24 kzWide), by kernel_rfl⟩
theorem ty43 : Ty Try.prog 43 (karr 24 kWide) := ⟨by kernel_rfl, by kernel_rfl⟩
theorem ar43 : Ar Try.prog 43 25 24 kWide := ⟨by kernel_rfl, by kernel_rfl⟩
theorem fl73_0 : Fl Try.prog 73 0 lGroup_0 := ⟨by kernel_rfl, rfl⟩
theorem sl38 : Sl Try.prog 38 73 kGroup := ⟨by kernel_rfl, by kernel_rfl⟩
theorem ty73 : Ty Try.prog 73 kGroup := ⟨by kernel_rfl, by kernel_rfl⟩
theorem el38 : El Try.prog 38 73 kGroup := ⟨by kernel_rfl, by kernel_rfl, by kernel_rfl, by kernel_rfl, by kernel_rfl⟩
theorem zr73 : Zr Try.prog 73 kGroup zGroup := ⟨_, kzGroup, by kernel_rfl⟩
theorem sl71 : Sl Try.prog 71 93 kBucket := ⟨by kernel_rfl, by kernel_rfl⟩
theorem el71 : El Try.prog 71 93 kBucket := ⟨by kernel_rfl, by kernel_rfl, by kernel_rfl, by kernel_rfl, by kernel_rfl⟩
theorem zr93 : Zr Try.prog 93 kBucket zBucket := ⟨_, kzBucket, by kernel_rfl⟩
theorem el22 : El Try.prog 22 56 kAction := ⟨by kernel_rfl, by kernel_rfl, by kernel_rfl, by kernel_rfl, by kernel_rfl⟩
theorem fl93_3 : Fl Try.prog 93 3 lBucket_3 := ⟨by kernel_rfl, rfl⟩
theorem ty22 : Ty Try.prog 22 (ksl kAction) := ⟨by kernel_rfl, by kernel_rfl⟩
theorem fl73_2 : Fl Try.prog 73 2 lGroup_2 := ⟨by kernel_rfl, rfl⟩
theorem ty71 : Ty Try.prog 71 (ksl kBucket) := ⟨by kernel_rfl, by kernel_rfl⟩
theorem fl41_0 : Fl Try.prog 41 0 lEnv_0 := ⟨by kernel_rfl, rfl⟩
theorem sl39 : Sl Try.prog 39 3 (kint .i64) := ⟨by kernel_rfl, by kernel_rfl⟩
theorem fl41_1 : Fl Try.prog 41 1 lEnv_1 := ⟨by kernel_rfl, rfl⟩
theorem ty39 : Ty Try.prog 39 (ksl (kint .i64)) := ⟨by kernel_rfl, by kernel_rfl⟩
theorem fl114_0 : Fl Try.prog 114 0 lenv_world_0 := ⟨by kernel_rfl, rfl⟩
theorem ty41 : Ty Try.prog 41 kEnv := ⟨by kernel_rfl, by kernel_rfl⟩
theorem fl93_1 : Fl Try.prog 93 1 lBucket_1 := ⟨by kernel_rfl, rfl⟩
theorem ty93 : Ty Try.prog 93 kBucket := ⟨by kernel_rfl, by kernel_rfl⟩
theorem fl114_1 : Fl Try.prog 114 1 lenv_world_1 := ⟨by kernel_rfl, rfl⟩
theorem zr114 : Zr Try.prog 114 kenv_world zenv_world := ⟨_, kzenv_world, by kernel_rfl⟩
theorem ty114 : Ty Try.prog 114 kenv_world := ⟨by kernel_rfl, by kernel_rfl⟩
theorem fl73_1 : Fl Try.prog 73 1 lGroup_1 := ⟨by kernel_rfl, rfl⟩
theorem zr3 : Zr Try.prog 3 (kint .i64) 0 := ⟨_, kz_i64, by kernel_rfl⟩
theorem el39 : El Try.prog 39 3 (kint .i64) := ⟨by kernel_rfl, by kernel_rfl, by kernel_rfl, by kernel_rfl, by kernel_rfl⟩
theorem zr122 : Zr Try.prog 122 kaset_spot zaset_spot := ⟨_, kzaset_spot, by kernel_rfl⟩
theorem ty122 : Ty Try.prog 122 kaset_spot := ⟨by kernel_rfl, by kernel_rfl⟩
theorem eqk3 : EqK Try.prog 1 3 (kint .i64) := eqk_int (by kernel_rfl)
theorem eqk122 : EqK Try.prog 2 122 kaset_spot := eqk_st (fun x y e => by cases x; cases y; simp only [Prod.mk.injEq] at e; simp [e]) (l := _) (by kernel_rfl) (by kernel_rfl) (eqf_cons eqk3 ty3 (eqf_one eqk3 ty3))
theorem eg122 : Try.prog.eqGuardType Try.prog.depth 122 = false := by kernel_rfl
theorem fl122_0 : Fl Try.prog 122 0 laset_spot_0 := ⟨by kernel_rfl, rfl⟩
theorem fl122_1 : Fl Try.prog 122 1 laset_spot_1 := ⟨by kernel_rfl, rfl⟩
theorem zr4 : Zr Try.prog 4 kbool false := ⟨_, kz_bool, by kernel_rfl⟩
theorem flv78_2_2 : Fl Try.prog 78 2 lexec_run_o2_2 := ⟨by kernel_rfl, rfl⟩
theorem tyr46 : Ty Try.prog 46 kraw := ⟨by kernel_rfl, by kernel_rfl⟩
theorem flv78_3_2 : Fl Try.prog 78 3 lexec_run_o2_3 := ⟨by kernel_rfl, rfl⟩
theorem zr59 : Zr Try.prog 59 kOut zOut := ⟨_, kzOut, by kernel_rfl⟩
theorem sl46 : Sl Try.prog 46 59 kOut := ⟨by kernel_rfl, by kernel_rfl⟩
theorem el46 : El Try.prog 46 59 kOut := ⟨by kernel_rfl, by kernel_rfl, by kernel_rfl, by kernel_rfl, by kernel_rfl⟩
theorem flv78_1_2 : Fl Try.prog 78 1 lexec_run_o2_1 := ⟨by kernel_rfl, rfl⟩
theorem ty38 : Ty Try.prog 38 (ksl kGroup) := ⟨by kernel_rfl, by kernel_rfl⟩
theorem flv78_4_2 : Fl Try.prog 78 4 lexec_run_o2_4 := ⟨by kernel_rfl, rfl⟩
theorem flv78_0_2 : Fl Try.prog 78 0 lexec_run_o2_0 := ⟨by kernel_rfl, rfl⟩
theorem zrv78_2 : Zr Try.prog 78 kexec_run_o2 zexec_run_o2 := ⟨_, kzexec_run_o2, by kernel_rfl⟩
theorem fl36_0 : Fl Try.prog 36 0 lAtom_0 := ⟨by kernel_rfl, rfl⟩
theorem zrr46 : Zr Try.prog 46 kraw (.slice none 0 0) := ⟨_, kz_raw rfl, by kernel_rfl⟩
theorem eqk23 : EqK Try.prog 1 23 ku64 := eqk_u64 (by kernel_rfl)
theorem eqk25 : EqK Try.prog 2 25 kWide := eqk_st (fun x y e => by cases x; cases y; simp only [Prod.mk.injEq] at e; simp [e]) (l := _) (by kernel_rfl) (by kernel_rfl) (eqf_cons eqk23 ty23 (eqf_one eqk23 ty23))
theorem eqk27 : EqK Try.prog 3 27 kTern := eqk_st (fun x y e => by cases x; cases y; simp only [Prod.mk.injEq] at e; simp [e]) (l := _) (by kernel_rfl) (by kernel_rfl) (eqf_cons eqk25 ty25 (eqf_one eqk25 ty25))
theorem eqk29 : EqK Try.prog 4 29 (karr 24 kTern) := eqk_arr eqk27 ty27 ar29
theorem eqk4 : EqK Try.prog 1 4 kbool := eqk_bool (by kernel_rfl)
theorem eqk36 : EqK Try.prog 5 36 kAtom := eqk_st (fun x y e => by cases x; cases y; simp only [Prod.mk.injEq] at e; simp [e]) (l := _) (by kernel_rfl) (by kernel_rfl) (eqf_cons eqk29 ty29 (eqf_cons (eqk4.le (by decide)) ty4 (eqf_cons (eqk3.le (by decide)) ty3 (eqf_one (eqk3.le (by decide)) ty3))))
theorem eg36 : Try.prog.eqGuardType Try.prog.depth 36 = false := by kernel_rfl
theorem zr41 : Zr Try.prog 41 kEnv zEnv := ⟨_, kzEnv, by kernel_rfl⟩
theorem fl59_2 : Fl Try.prog 59 2 lOut_2 := ⟨by kernel_rfl, rfl⟩
theorem us3 : (Try.prog.underlying 3).isSome = true := by kernel_rfl
theorem un100 : Try.prog.underlying 100 = some (.int .u64) := by kernel_rfl
theorem un4 : Try.prog.underlying 4 = some (.bool) := by kernel_rfl
theorem eg29 : Try.prog.eqGuardType Try.prog.depth 29 = false := by kernel_rfl
theorem ty59 : Ty Try.prog 59 kOut := ⟨by kernel_rfl, by kernel_rfl⟩
theorem eqk43 : EqK Try.prog 3 43 (karr 24 kWide) := eqk_arr eqk25 ty25 ar43
theorem eqk59 : EqK Try.prog 4 59 kOut := eqk_st (fun x y e => by cases x; cases y; simp only [Prod.mk.injEq] at e; simp [e]) (l := _) (by kernel_rfl) (by kernel_rfl) (eqf_cons (eqk3.le (by decide)) ty3 (eqf_cons (eqk3.le (by decide)) ty3 (eqf_one eqk43 ty43)))
theorem eg59 : Try.prog.eqGuardType Try.prog.depth 59 = false := by kernel_rfl
theorem eg43 : Try.prog.eqGuardType Try.prog.depth 43 = false := by kernel_rfl
theorem mixed : Try.prog.follows .mixedOrders = true := by kernel_rfl
end Go.Proofs.Ytokmmcflinnfiab.W
