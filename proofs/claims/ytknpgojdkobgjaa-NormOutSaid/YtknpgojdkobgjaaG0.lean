/- A part of the proof. -/
import Derived.Test.YtknpgojdkobgjaaL1
import Derived.Test.YtknpgojdkobgjaaProg
import Derived.KernelRfl
set_option linter.unusedVariables false
set_option maxRecDepth 4000
set_option linter.unusedSimpArgs false
namespace Go.Proofs.Ytknpgojdkobgjaa.W
open Go Go.Wb
structure Wide where
  Hi : (BitVec 64)
  Lo : (BitVec 64)
  deriving DecidableEq, Inhabited
def kWide : Kd Wide := kiso (kpair ku64 ku64) (fun x => (x.Hi, x.Lo))
def lWide_0 : Lens kWide ku64 := Lens.iso (k := (kpair ku64 ku64)) (Lens.fst _ _) Wide.Hi (fun x y => { x with Hi := y }) (fun _ => rfl) (fun _ _ => rfl)
def lWide_1 : Lens kWide ku64 := Lens.iso (k := (kpair ku64 ku64)) (Lens.snd _ _) Wide.Lo (fun x y => { x with Lo := y }) (fun _ => rfl) (fun _ _ => rfl)
def zWide : Wide := ⟨0, 0⟩
theorem kzWide : KZ kWide zWide [(Value.int IntKind.u64 0), (Value.int IntKind.u64 0)] := kz_iso (kz_pair kz_u64 kz_u64)
structure Oxm where
  Field : Int
  Masked : Bool
  Value : Wide
  Mask : Wide
  deriving DecidableEq, Inhabited
def kOxm : Kd Oxm := kiso (kpair (kint .i64) (kpair kbool (kpair kWide kWide))) (fun x => (x.Field, (x.Masked, (x.Value, x.Mask))))
def lOxm_0 : Lens kOxm (kint .i64) := Lens.iso (k := (kpair (kint .i64) (kpair kbool (kpair kWide kWide)))) (Lens.fst _ _) Oxm.Field (fun x y => { x with Field := y }) (fun _ => rfl) (fun _ _ => rfl)
def lOxm_1 : Lens kOxm kbool := Lens.iso (k := (kpair (kint .i64) (kpair kbool (kpair kWide kWide)))) (Lens.comp (Lens.snd _ _) (Lens.fst _ _)) Oxm.Masked (fun x y => { x with Masked := y }) (fun _ => rfl) (fun _ _ => rfl)
def lOxm_2 : Lens kOxm kWide := Lens.iso (k := (kpair (kint .i64) (kpair kbool (kpair kWide kWide)))) (Lens.comp (Lens.comp (Lens.snd _ _) (Lens.snd _ _)) (Lens.fst _ _)) Oxm.Value (fun x y => { x with Value := y }) (fun _ => rfl) (fun _ _ => rfl)
def lOxm_3 : Lens kOxm kWide := Lens.iso (k := (kpair (kint .i64) (kpair kbool (kpair kWide kWide)))) (Lens.comp (Lens.comp (Lens.snd _ _) (Lens.snd _ _)) (Lens.snd _ _)) Oxm.Mask (fun x y => { x with Mask := y }) (fun _ => rfl) (fun _ _ => rfl)
def zOxm : Oxm := ⟨0, false, zWide, zWide⟩
theorem kzOxm : KZ kOxm zOxm [(Value.int IntKind.i64 0), (Value.bool false), (Value.int IntKind.u64 0), (Value.int IntKind.u64 0), (Value.int IntKind.u64 0), (Value.int IntKind.u64 0)] := kz_iso (kz_pair kz_i64 (kz_pair kz_bool (kz_pair kzWide kzWide)))
structure Action where
  Kind : Int
  Port : Int
  Max : Int
  Group : Int
  Ether : Int
  Oxm : Oxm
  deriving DecidableEq, Inhabited
def kAction : Kd Action := kiso (kpair (kint .i64) (kpair (kint .i64) (kpair (kint .i64) (kpair (kint .i64) (kpair (kint .i64) kOxm))))) (fun x => (x.Kind, (x.Port, (x.Max, (x.Group, (x.Ether, x.Oxm))))))
def lAction_0 : Lens kAction (kint .i64) := Lens.iso (k := (kpair (kint .i64) (kpair (kint .i64) (kpair (kint .i64) (kpair (kint .i64) (kpair (kint .i64) kOxm)))))) (Lens.fst _ _) Action.Kind (fun x y => { x with Kind := y }) (fun _ => rfl) (fun _ _ => rfl)
def lAction_1 : Lens kAction (kint .i64) := Lens.iso (k := (kpair (kint .i64) (kpair (kint .i64) (kpair (kint .i64) (kpair (kint .i64) (kpair (kint .i64) kOxm)))))) (Lens.comp (Lens.snd _ _) (Lens.fst _ _)) Action.Port (fun x y => { x with Port := y }) (fun _ => rfl) (fun _ _ => rfl)
def lAction_2 : Lens kAction (kint .i64) := Lens.iso (k := (kpair (kint .i64) (kpair (kint .i64) (kpair (kint .i64) (kpair (kint .i64) (kpair (kint .i64) kOxm)))))) (Lens.comp (Lens.comp (Lens.snd _ _) (Lens.snd _ _)) (Lens.fst _ _)) Action.Max (fun x y => { x with Max := y }) (fun _ => rfl) (fun _ _ => rfl)
def lAction_3 : Lens kAction (kint .i64) := Lens.iso (k := (kpair (kint .i64) (kpair (kint .i64) (kpair (kint .i64) (kpair (kint .i64) (kpair (kint .i64) kOxm)))))) (Lens.comp (Lens.comp (Lens.comp (Lens.snd _ _) (Lens.snd _ _)) (Lens.snd _ _)) (Lens.fst _ _)) Action.Group (fun x y => { x with Group := y }) (fun _ => rfl) (fun _ _ => rfl)
def lAction_4 : Lens kAction (kint .i64) := Lens.iso (k := (kpair (kint .i64) (kpair (kint .i64) (kpair (kint .i64) (kpair (kint .i64) (kpair (kint .i64) kOxm)))))) (Lens.comp (Lens.comp (Lens.comp (Lens.comp (Lens.snd _ _) (Lens.snd _ _)) (Lens.snd _ _)) (Lens.snd _ _)) (Lens.fst _ _)) Action.Ether (fun x y => { x with Ether := y }) (fun _ => rfl) (fun _ _ => rfl)
def lAction_5 : Lens kAction kOxm := Lens.iso (k := (kpair (kint .i64) (kpair (kint .i64) (kpair (kint .i64) (kpair (kint .i64) (kpair (kint .i64) kOxm)))))) (Lens.comp (Lens.comp (Lens.comp (Lens.comp (Lens.snd _ _) (Lens.snd _ _)) (Lens.snd _ _)) (Lens.snd _ _)) (Lens.snd _ _)) Action.Oxm (fun x y => { x with Oxm := y }) (fun _ => rfl) (fun _ _ => rfl)
def zAction : Action := ⟨0, 0, 0, 0, 0, zOxm⟩
theorem kzAction : KZ kAction zAction [(Value.int IntKind.i64 0), (Value.int IntKind.i64 0), (Value.int IntKind.i64 0), (Value.int IntKind.i64 0), (Value.int IntKind.i64 0), (Value.int IntKind.i64 0), (Value.bool false), (Value.int IntKind.u64 0), (Value.int IntKind.u64 0), (Value.int IntKind.u64 0), (Value.int IntKind.u64 0)] := kz_iso (kz_pair kz_i64 (kz_pair kz_i64 (kz_pair kz_i64 (kz_pair kz_i64 (kz_pair kz_i64 kzOxm)))))
structure Bucket where
  Weight : Int
  Watch : Int
  WatchGroup : Int
  Acts : (List Action)
  deriving DecidableEq, Inhabited
def kBucket : Kd Bucket := kiso (kpair (kint .i64) (kpair (kint .i64) (kpair (kint .i64) (ksl kAction)))) (fun x => (x.Weight, (x.Watch, (x.WatchGroup, x.Acts))))
def lBucket_0 : Lens kBucket (kint .i64) := Lens.iso (k := (kpair (kint .i64) (kpair (kint .i64) (kpair (kint .i64) (ksl kAction))))) (Lens.fst _ _) Bucket.Weight (fun x y => { x with Weight := y }) (fun _ => rfl) (fun _ _ => rfl)
def lBucket_1 : Lens kBucket (kint .i64) := Lens.iso (k := (kpair (kint .i64) (kpair (kint .i64) (kpair (kint .i64) (ksl kAction))))) (Lens.comp (Lens.snd _ _) (Lens.fst _ _)) Bucket.Watch (fun x y => { x with Watch := y }) (fun _ => rfl) (fun _ _ => rfl)
def lBucket_2 : Lens kBucket (kint .i64) := Lens.iso (k := (kpair (kint .i64) (kpair (kint .i64) (kpair (kint .i64) (ksl kAction))))) (Lens.comp (Lens.comp (Lens.snd _ _) (Lens.snd _ _)) (Lens.fst _ _)) Bucket.WatchGroup (fun x y => { x with WatchGroup := y }) (fun _ => rfl) (fun _ _ => rfl)
def lBucket_3 : Lens kBucket (ksl kAction) := Lens.iso (k := (kpair (kint .i64) (kpair (kint .i64) (kpair (kint .i64) (ksl kAction))))) (Lens.comp (Lens.comp (Lens.snd _ _) (Lens.snd _ _)) (Lens.snd _ _)) Bucket.Acts (fun x y => { x with Acts := y }) (fun _ => rfl) (fun _ _ => rfl)
def zBucket : Bucket := ⟨0, 0, 0, []⟩
theorem kzBucket : KZ kBucket zBucket [(Value.int IntKind.i64 0), (Value.int IntKind.i64 0), (Value.int IntKind.i64 0), (Value.slice none 0 0)] := kz_iso (kz_pair kz_i64 (kz_pair kz_i64 (kz_pair kz_i64 (kz_sl _))))
structure Group where
  ID : Int
  Kind : Int
  Buckets : (List Bucket)
  deriving DecidableEq, Inhabited
def kGroup : Kd Group := kiso (kpair (kint .i64) (kpair (kint .i64) (ksl kBucket))) (fun x => (x.ID, (x.Kind, x.Buckets)))
def lGroup_0 : Lens kGroup (kint .i64) := Lens.iso (k := (kpair (kint .i64) (kpair (kint .i64) (ksl kBucket)))) (Lens.fst _ _) Group.ID (fun x y => { x with ID := y }) (fun _ => rfl) (fun _ _ => rfl)
def lGroup_1 : Lens kGroup (kint .i64) := Lens.iso (k := (kpair (kint .i64) (kpair (kint .i64) (ksl kBucket)))) (Lens.comp (Lens.snd _ _) (Lens.fst _ _)) Group.Kind (fun x y => { x with Kind := y }) (fun _ => rfl) (fun _ _ => rfl)
def lGroup_2 : Lens kGroup (ksl kBucket) := Lens.iso (k := (kpair (kint .i64) (kpair (kint .i64) (ksl kBucket)))) (Lens.comp (Lens.snd _ _) (Lens.snd _ _)) Group.Buckets (fun x y => { x with Buckets := y }) (fun _ => rfl) (fun _ _ => rfl)
def zGroup : Group := ⟨0, 0, []⟩
theorem kzGroup : KZ kGroup zGroup [(Value.int IntKind.i64 0), (Value.int IntKind.i64 0), (Value.slice none 0 0)] := kz_iso (kz_pair kz_i64 (kz_pair kz_i64 (kz_sl _)))
structure Tern where
  Value : Wide
  Mask : Wide
  deriving DecidableEq, Inhabited
def kTern : Kd Tern := kiso (kpair kWide kWide) (fun x => (x.Value, x.Mask))
def lTern_0 : Lens kTern kWide := Lens.iso (k := (kpair kWide kWide)) (Lens.fst _ _) Tern.Value (fun x y => { x with Value := y }) (fun _ => rfl) (fun _ _ => rfl)
def lTern_1 : Lens kTern kWide := Lens.iso (k := (kpair kWide kWide)) (Lens.snd _ _) Tern.Mask (fun x y => { x with Mask := y }) (fun _ => rfl) (fun _ _ => rfl)
def zTern : Tern := ⟨zWide, zWide⟩
theorem kzTern : KZ kTern zTern [(Value.int IntKind.u64 0), (Value.int IntKind.u64 0), (Value.int IntKind.u64 0), (Value.int IntKind.u64 0)] := kz_iso (kz_pair kzWide kzWide)
structure Atom where
  Rewrite : (Vector Tern 24)
  Group : Bool
  Port : Int
  Max : Int
  deriving DecidableEq, Inhabited
def kAtom : Kd Atom := kiso (kpair (karr 24 kTern) (kpair kbool (kpair (kint .i64) (kint .i64)))) (fun x => (x.Rewrite, (x.Group, (x.Port, x.Max))))
def lAtom_0 : Lens kAtom (karr 24 kTern) := Lens.iso (k := (kpair (karr 24 kTern) (kpair kbool (kpair (kint .i64) (kint .i64))))) (Lens.fst _ _) Atom.Rewrite (fun x y => { x with Rewrite := y }) (fun _ => rfl) (fun _ _ => rfl)
def lAtom_1 : Lens kAtom kbool := Lens.iso (k := (kpair (karr 24 kTern) (kpair kbool (kpair (kint .i64) (kint .i64))))) (Lens.comp (Lens.snd _ _) (Lens.fst _ _)) Atom.Group (fun x y => { x with Group := y }) (fun _ => rfl) (fun _ _ => rfl)
def lAtom_2 : Lens kAtom (kint .i64) := Lens.iso (k := (kpair (karr 24 kTern) (kpair kbool (kpair (kint .i64) (kint .i64))))) (Lens.comp (Lens.comp (Lens.snd _ _) (Lens.snd _ _)) (Lens.fst _ _)) Atom.Port (fun x y => { x with Port := y }) (fun _ => rfl) (fun _ _ => rfl)
def lAtom_3 : Lens kAtom (kint .i64) := Lens.iso (k := (kpair (karr 24 kTern) (kpair kbool (kpair (kint .i64) (kint .i64))))) (Lens.comp (Lens.comp (Lens.snd _ _) (Lens.snd _ _)) (Lens.snd _ _)) Atom.Max (fun x y => { x with Max := y }) (fun _ => rfl) (fun _ _ => rfl)
def zAtom : Atom := ⟨(Vector.replicate 24 zTern), false, 0, 0⟩
theorem kzAtom : KZ kAtom zAtom [(Value.int IntKind.u64 0), (Value.int IntKind.u64 0), (Value.int IntKind.u64 0), (Value.int IntKind.u64 0), (Value.int IntKind.u64 0), (Value.int IntKind.u64 0), (Value.int IntKind.u64 0), (Value.int IntKind.u64 0), (Value.int IntKind.u64 0), (Value.int IntKind.u64 0), (Value.int IntKind.u64 0), (Value.int IntKind.u64 0), (Value.int IntKind.u64 0), (Value.int IntKind.u64 0), (Value.int IntKind.u64 0), (Value.int IntKind.u64 0), (Value.int IntKind.u64 0), (Value.int IntKind.u64 0), (Value.int IntKind.u64 0), (Value.int IntKind.u64 0), (Value.int IntKind.u64 0), (Value.int IntKind.u64 0), (Value.int IntKind.u64 0), (Value.int IntKind.u64 0), (Value.int IntKind.u64 0), (Value.int IntKind.u64 0), (Value.int IntKind.u64 0), (Value.int IntKind.u64 0), (Value.int IntKind.u64 0), (Value.int IntKind.u64 0), (Value.int IntKind.u64 0), (Value.int IntKind.u64 0), (Value.int IntKind.u64 0), (Value.int IntKind.u64 0), (Value.int IntKind.u64 0), (Value.int IntKind.u64 0), (Value.int IntKind.u64 0), (Value.int IntKind.u64 0), (Value.int IntKind.u64 0), (Value.int IntKind.u64 0), (Value.int IntKind.u64 0), (Value.int IntKind.u64 0), (Value.int IntKind.u64 0), (Value.int IntKind.u64 0), (Value.int IntKind.u64 0), (Value.int IntKind.u64 0), (Value.int IntKind.u64 0), (Value.int IntKind.u64 0), (Value.int IntKind.u64 0), (Value.int IntKind.u64 0), (Value.int IntKind.u64 0), (Value.int IntKind.u64 0), (Value.int IntKind.u64 0), (Value.int IntKind.u64 0), (Value.int IntKind.u64 0), (Value.int IntKind.u64 0), (Value.int IntKind.u64 0), (Value.int IntKind.u64 0), (Value.int IntKind.u64 0), (Value.int IntKind.u64 0), (Value.int IntKind.u64 0), (Value.int IntKind.u64 0), (Value.int IntKind.u64 0), (Value.int IntKind.u64 0), (Value.int IntKind.u64 0), (Value.int IntKind.u64 0), (Value.int IntKind.u64 0), (Value.int IntKind.u64 0), (Value.int IntKind.u64 0), (Value.int IntKind.u64 0), (Value.int IntKind.u64 0), (Value.int IntKind.u64 0), (Value.int IntKind.u64 0), (Value.int IntKind.u64 0), (Value.int IntKind.u64 0), (Value.int IntKind.u64 0), (Value.int IntKind.u64 0), (Value.int IntKind.u64 0), (Value.int IntKind.u64 0), (Value.int IntKind.u64 0), (Value.int IntKind.u64 0), (Value.int IntKind.u64 0), (Value.int IntKind.u64 0), (Value.int IntKind.u64 0), (Value.int IntKind.u64 0), (Value.int IntKind.u64 0), (Value.int IntKind.u64 0), (Value.int IntKind.u64 0), (Value.int IntKind.u64 0), (Value.int IntKind.u64 0), (Value.int IntKind.u64 0), (Value.int IntKind.u64 0), (Value.int IntKind.u64 0), (Value.int IntKind.u64 0), (Value.int IntKind.u64 0), (Value.int IntKind.u64 0), (Value.bool false), (Value.int IntKind.i64 0), (Value.int IntKind.i64 0)] := kz_iso (kz_pair (kz_arr 24 kzTern) (kz_pair kz_bool (kz_pair kz_i64 kz_i64)))
structure Env where
  Turn : Int
  Down : (List Int)
  deriving DecidableEq, Inhabited
def kEnv : Kd Env := kiso (kpair (kint .i64) (ksl (kint .i64))) (fun x => (x.Turn, x.Down))
def lEnv_0 : Lens kEnv (kint .i64) := Lens.iso (k := (kpair (kint .i64) (ksl (kint .i64)))) (Lens.fst _ _) Env.Turn (fun x y => { x with Turn := y }) (fun _ => rfl) (fun _ _ => rfl)
def lEnv_1 : Lens kEnv (ksl (kint .i64)) := Lens.iso (k := (kpair (kint .i64) (ksl (kint .i64)))) (Lens.snd _ _) Env.Down (fun x y => { x with Down := y }) (fun _ => rfl) (fun _ _ => rfl)
def zEnv : Env := ⟨0, []⟩
theorem kzEnv : KZ kEnv zEnv [(Value.int IntKind.i64 0), (Value.slice none 0 0)] := kz_iso (kz_pair kz_i64 (kz_sl _))
structure env_world where
  Env : Env
  Group : Group
  deriving DecidableEq, Inhabited
def kenv_world : Kd env_world := kiso (kpair kEnv kGroup) (fun x => (x.Env, x.Group))
def lenv_world_0 : Lens kenv_world kEnv := Lens.iso (k := (kpair kEnv kGroup)) (Lens.fst _ _) env_world.Env (fun x y => { x with Env := y }) (fun _ => rfl) (fun _ _ => rfl)
def lenv_world_1 : Lens kenv_world kGroup := Lens.iso (k := (kpair kEnv kGroup)) (Lens.snd _ _) env_world.Group (fun x y => { x with Group := y }) (fun _ => rfl) (fun _ _ => rfl)
def zenv_world : env_world := ⟨zEnv, zGroup⟩
theorem kzenv_world : KZ kenv_world zenv_world [(Value.int IntKind.i64 0), (Value.slice none 0 0), (Value.int IntKind.i64 0), (Value.int IntKind.i64 0), (Value.slice none 0 0)] := kz_iso (kz_pair kzEnv kzGroup)
structure aset_spot where
  kind : Int
  field : Int
  deriving DecidableEq, Inhabited
def kaset_spot : Kd aset_spot := kiso (kpair (kint .i64) (kint .i64)) (fun x => (x.kind, x.field))
def laset_spot_0 : Lens kaset_spot (kint .i64) := Lens.iso (k := (kpair (kint .i64) (kint .i64))) (Lens.fst _ _) aset_spot.kind (fun x y => { x with kind := y }) (fun _ => rfl) (fun _ _ => rfl)
def laset_spot_1 : Lens kaset_spot (kint .i64) := Lens.iso (k := (kpair (kint .i64) (kint .i64))) (Lens.snd _ _) aset_spot.field (fun x y => { x with field := y }) (fun _ => rfl) (fun _ _ => rfl)
def zaset_spot : aset_spot := ⟨0, 0⟩
theorem kzaset_spot : KZ kaset_spot zaset_spot [(Value.int IntKind.i64 0), (Value.int IntKind.i64 0)] := kz_iso (kz_pair kz_i64 kz_i64)
structure field_row where
  name : ByteArray
  id : Int
  bits : Int
  masks : Bool
  deriving DecidableEq, Inhabited
def kfield_row : Kd field_row := kiso (kpair kstr (kpair (kint .i64) (kpair (kint .i64) kbool))) (fun x => (x.name, (x.id, (x.bits, x.masks))))
def lfield_row_0 : Lens kfield_row kstr := Lens.iso (k := (kpair kstr (kpair (kint .i64) (kpair (kint .i64) kbool)))) (Lens.fst _ _) field_row.name (fun x y => { x with name := y }) (fun _ => rfl) (fun _ _ => rfl)
def lfield_row_1 : Lens kfield_row (kint .i64) := Lens.iso (k := (kpair kstr (kpair (kint .i64) (kpair (kint .i64) kbool)))) (Lens.comp (Lens.snd _ _) (Lens.fst _ _)) field_row.id (fun x y => { x with id := y }) (fun _ => rfl) (fun _ _ => rfl)
def lfield_row_2 : Lens kfield_row (kint .i64) := Lens.iso (k := (kpair kstr (kpair (kint .i64) (kpair (kint .i64) kbool)))) (Lens.comp (Lens.comp (Lens.snd _ _) (Lens.snd _ _)) (Lens.fst _ _)) field_row.bits (fun x y => { x with bits := y }) (fun _ => rfl) (fun _ _ => rfl)
def lfield_row_3 : Lens kfield_row kbool := Lens.iso (k := (kpair kstr (kpair (kint .i64) (kpair (kint .i64) kbool)))) (Lens.comp (Lens.comp (Lens.snd _ _) (Lens.snd _ _)) (Lens.snd _ _)) field_row.masks (fun x y => { x with masks := y }) (fun _ => rfl) (fun _ _ => rfl)
def zfield_row : field_row := ⟨(⟨#[]⟩ : ByteArray), 0, 0, false⟩
theorem kzfield_row : KZ kfield_row zfield_row [(Value.string { data := #[] }), (Value.int IntKind.i64 0), (Value.int IntKind.i64 0), (Value.bool false)] := kz_iso (kz_pair kz_str (kz_pair kz_i64 (kz_pair kz_i64 kz_bool)))
structure atom_trace where
  got : (Vector Tern 24)
  atoms : (List Atom)
  deriving DecidableEq, Inhabited
def katom_trace : Kd atom_trace := kiso (kpair (karr 24 kTern) (ksl kAtom)) (fun x => (x.got, x.atoms))
def latom_trace_0 : Lens katom_trace (karr 24 kTern) := Lens.iso (k := (kpair (karr 24 kTern) (ksl kAtom))) (Lens.fst _ _) atom_trace.got (fun x y => { x with got := y }) (fun _ => rfl) (fun _ _ => rfl)
def latom_trace_1 : Lens katom_trace (ksl kAtom) := Lens.iso (k := (kpair (karr 24 kTern) (ksl kAtom))) (Lens.snd _ _) atom_trace.atoms (fun x y => { x with atoms := y }) (fun _ => rfl) (fun _ _ => rfl)
def zatom_trace : atom_trace := ⟨(Vector.replicate 24 zTern), []⟩
theorem kzatom_trace : KZ katom_trace zatom_trace [(Value.int IntKind.u64 0), (Value.int IntKind.u64 0), (Value.int IntKind.u64 0), (Value.int IntKind.u64 0), (Value.int IntKind.u64 0), (Value.int IntKind.u64 0), (Value.int IntKind.u64 0), (Value.int IntKind.u64 0), (Value.int IntKind.u64 0), (Value.int IntKind.u64 0), (Value.int IntKind.u64 0), (Value.int IntKind.u64 0), (Value.int IntKind.u64 0), (Value.int IntKind.u64 0), (Value.int IntKind.u64 0), (Value.int IntKind.u64 0), (Value.int IntKind.u64 0), (Value.int IntKind.u64 0), (Value.int IntKind.u64 0), (Value.int IntKind.u64 0), (Value.int IntKind.u64 0), (Value.int IntKind.u64 0), (Value.int IntKind.u64 0), (Value.int IntKind.u64 0), (Value.int IntKind.u64 0), (Value.int IntKind.u64 0), (Value.int IntKind.u64 0), (Value.int IntKind.u64 0), (Value.int IntKind.u64 0), (Value.int IntKind.u64 0), (Value.int IntKind.u64 0), (Value.int IntKind.u64 0), (Value.int IntKind.u64 0), (Value.int IntKind.u64 0), (Value.int IntKind.u64 0), (Value.int IntKind.u64 0), (Value.int IntKind.u64 0), (Value.int IntKind.u64 0), (Value.int IntKind.u64 0), (Value.int IntKind.u64 0), (Value.int IntKind.u64 0), (Value.int IntKind.u64 0), (Value.int IntKind.u64 0), (Value.int IntKind.u64 0), (Value.int IntKind.u64 0), (Value.int IntKind.u64 0), (Value.int IntKind.u64 0), (Value.int IntKind.u64 0), (Value.int IntKind.u64 0), (Value.int IntKind.u64 0), (Value.int IntKind.u64 0), (Value.int IntKind.u64 0), (Value.int IntKind.u64 0), (Value.int IntKind.u64 0), (Value.int IntKind.u64 0), (Value.int IntKind.u64 0), (Value.int IntKind.u64 0), (Value.int IntKind.u64 0), (Value.int IntKind.u64 0), (Value.int IntKind.u64 0), (Value.int IntKind.u64 0), (Value.int IntKind.u64 0), (Value.int IntKind.u64 0), (Value.int IntKind.u64 0), (Value.int IntKind.u64 0), (Value.int IntKind.u64 0), (Value.int IntKind.u64 0), (Value.int IntKind.u64 0), (Value.int IntKind.u64 0), (Value.int IntKind.u64 0), (Value.int IntKind.u64 0), (Value.int IntKind.u64 0), (Value.int IntKind.u64 0), (Value.int IntKind.u64 0), (Value.int IntKind.u64 0), (Value.int IntKind.u64 0), (Value.int IntKind.u64 0), (Value.int IntKind.u64 0), (Value.int IntKind.u64 0), (Value.int IntKind.u64 0), (Value.int IntKind.u64 0), (Value.int IntKind.u64 0), (Value.int IntKind.u64 0), (Value.int IntKind.u64 0), (Value.int IntKind.u64 0), (Value.int IntKind.u64 0), (Value.int IntKind.u64 0), (Value.int IntKind.u64 0), (Value.int IntKind.u64 0), (Value.int IntKind.u64 0), (Value.int IntKind.u64 0), (Value.int IntKind.u64 0), (Value.int IntKind.u64 0), (Value.int IntKind.u64 0), (Value.int IntKind.u64 0), (Value.int IntKind.u64 0), (Value.slice none 0 0)] := kz_iso (kz_pair (kz_arr 24 kzTern) (kz_sl _))
structure atom_trace_o1 where
  got : (Vector Tern 24)
  atoms : Value
def katom_trace_o1 : Kd atom_trace_o1 := kiso (kpair (karr 24 kTern) kraw) (fun x => (x.got, x.atoms))
def latom_trace_o1_0 : Lens katom_trace_o1 (karr 24 kTern) := Lens.iso (k := (kpair (karr 24 kTern) kraw)) (Lens.fst _ _) atom_trace_o1.got (fun x y => { x with got := y }) (fun _ => rfl) (fun _ _ => rfl)
def latom_trace_o1_1 : Lens katom_trace_o1 kraw := Lens.iso (k := (kpair (karr 24 kTern) kraw)) (Lens.snd _ _) atom_trace_o1.atoms (fun x y => { x with atoms := y }) (fun _ => rfl) (fun _ _ => rfl)
def zatom_trace_o1 : atom_trace_o1 := ⟨(Vector.replicate 24 zTern), (.slice none 0 0)⟩
theorem kzatom_trace_o1 : KZ katom_trace_o1 zatom_trace_o1 [(Value.int IntKind.u64 0), (Value.int IntKind.u64 0), (Value.int IntKind.u64 0), (Value.int IntKind.u64 0), (Value.int IntKind.u64 0), (Value.int IntKind.u64 0), (Value.int IntKind.u64 0), (Value.int IntKind.u64 0), (Value.int IntKind.u64 0), (Value.int IntKind.u64 0), (Value.int IntKind.u64 0), (Value.int IntKind.u64 0), (Value.int IntKind.u64 0), (Value.int IntKind.u64 0), (Value.int IntKind.u64 0), (Value.int IntKind.u64 0), (Value.int IntKind.u64 0), (Value.int IntKind.u64 0), (Value.int IntKind.u64 0), (Value.int IntKind.u64 0), (Value.int IntKind.u64 0), (Value.int IntKind.u64 0), (Value.int IntKind.u64 0), (Value.int IntKind.u64 0), (Value.int IntKind.u64 0), (Value.int IntKind.u64 0), (Value.int IntKind.u64 0), (Value.int IntKind.u64 0), (Value.int IntKind.u64 0), (Value.int IntKind.u64 0), (Value.int IntKind.u64 0), (Value.int IntKind.u64 0), (Value.int IntKind.u64 0), (Value.int IntKind.u64 0), (Value.int IntKind.u64 0), (Value.int IntKind.u64 0), (Value.int IntKind.u64 0), (Value.int IntKind.u64 0), (Value.int IntKind.u64 0), (Value.int IntKind.u64 0), (Value.int IntKind.u64 0), (Value.int IntKind.u64 0), (Value.int IntKind.u64 0), (Value.int IntKind.u64 0), (Value.int IntKind.u64 0), (Value.int IntKind.u64 0), (Value.int IntKind.u64 0), (Value.int IntKind.u64 0), (Value.int IntKind.u64 0), (Value.int IntKind.u64 0), (Value.int IntKind.u64 0), (Value.int IntKind.u64 0), (Value.int IntKind.u64 0), (Value.int IntKind.u64 0), (Value.int IntKind.u64 0), (Value.int IntKind.u64 0), (Value.int IntKind.u64 0), (Value.int IntKind.u64 0), (Value.int IntKind.u64 0), (Value.int IntKind.u64 0), (Value.int IntKind.u64 0), (Value.int IntKind.u64 0), (Value.int IntKind.u64 0), (Value.int IntKind.u64 0), (Value.int IntKind.u64 0), (Value.int IntKind.u64 0), (Value.int IntKind.u64 0), (Value.int IntKind.u64 0), (Value.int IntKind.u64 0), (Value.int IntKind.u64 0), (Value.int IntKind.u64 0), (Value.int IntKind.u64 0), (Value.int IntKind.u64 0), (Value.int IntKind.u64 0), (Value.int IntKind.u64 0), (Value.int IntKind.u64 0), (Value.int IntKind.u64 0), (Value.int IntKind.u64 0), (Value.int IntKind.u64 0), (Value.int IntKind.u64 0), (Value.int IntKind.u64 0), (Value.int IntKind.u64 0), (Value.int IntKind.u64 0), (Value.int IntKind.u64 0), (Value.int IntKind.u64 0), (Value.int IntKind.u64 0), (Value.int IntKind.u64 0), (Value.int IntKind.u64 0), (Value.int IntKind.u64 0), (Value.int IntKind.u64 0), (Value.int IntKind.u64 0), (Value.int IntKind.u64 0), (Value.int IntKind.u64 0), (Value.int IntKind.u64 0), (Value.int IntKind.u64 0), (Value.int IntKind.u64 0), (Value.slice none 0 0)] := kz_iso (kz_pair (kz_arr 24 kzTern) (kz_raw rfl))
theorem cvatom_trace_o1 (x : atom_trace_o1) (l : (List Atom)) : ∀ w H cs, katom_trace_o1.C w H x cs → SlC kAtom w H l x.atoms → katom_trace.C w H ⟨x.got, l⟩ cs := by
  rintro w H cs ⟨c0, r0, rfl, h0, h1⟩ hs
  exact ⟨_, _, rfl, h0, ⟨_, h1.1, hs⟩⟩
structure norm_world where
  Env : Env
  groups : (List Group)
  depth : Int
  deriving DecidableEq, Inhabited
def knorm_world : Kd norm_world := kiso (kpair kEnv (kpair (ksl kGroup) (kint .i64))) (fun x => (x.Env, (x.groups, x.depth)))
def lnorm_world_0 : Lens knorm_world kEnv := Lens.iso (k := (kpair kEnv (kpair (ksl kGroup) (kint .i64)))) (Lens.fst _ _) norm_world.Env (fun x y => { x with Env := y }) (fun _ => rfl) (fun _ _ => rfl)
def lnorm_world_1 : Lens knorm_world (ksl kGroup) := Lens.iso (k := (kpair kEnv (kpair (ksl kGroup) (kint .i64)))) (Lens.comp (Lens.snd _ _) (Lens.fst _ _)) norm_world.groups (fun x y => { x with groups := y }) (fun _ => rfl) (fun _ _ => rfl)
def lnorm_world_2 : Lens knorm_world (kint .i64) := Lens.iso (k := (kpair kEnv (kpair (ksl kGroup) (kint .i64)))) (Lens.comp (Lens.snd _ _) (Lens.snd _ _)) norm_world.depth (fun x y => { x with depth := y }) (fun _ => rfl) (fun _ _ => rfl)
def znorm_world : norm_world := ⟨zEnv, [], 0⟩
theorem kznorm_world : KZ knorm_world znorm_world [(Value.int IntKind.i64 0), (Value.slice none 0 0), (Value.slice none 0 0), (Value.int IntKind.i64 0)] := kz_iso (kz_pair kzEnv (kz_pair (kz_sl _) kz_i64))
structure Out where
  Port : Int
  Max : Int
  Header : (Vector Wide 24)
  deriving DecidableEq, Inhabited
def kOut : Kd Out := kiso (kpair (kint .i64) (kpair (kint .i64) (karr 24 kWide))) (fun x => (x.Port, (x.Max, x.Header)))
def lOut_0 : Lens kOut (kint .i64) := Lens.iso (k := (kpair (kint .i64) (kpair (kint .i64) (karr 24 kWide)))) (Lens.fst _ _) Out.Port (fun x y => { x with Port := y }) (fun _ => rfl) (fun _ _ => rfl)
def lOut_1 : Lens kOut (kint .i64) := Lens.iso (k := (kpair (kint .i64) (kpair (kint .i64) (karr 24 kWide)))) (Lens.comp (Lens.snd _ _) (Lens.fst _ _)) Out.Max (fun x y => { x with Max := y }) (fun _ => rfl) (fun _ _ => rfl)
def lOut_2 : Lens kOut (karr 24 kWide) := Lens.iso (k := (kpair (kint .i64) (kpair (kint .i64) (karr 24 kWide)))) (Lens.comp (Lens.snd _ _) (Lens.snd _ _)) Out.Header (fun x y => { x with Header := y }) (fun _ => rfl) (fun _ _ => rfl)
def zOut : Out := ⟨0, 0, (Vector.replicate 24 zWide)⟩
theorem kzOut : KZ kOut zOut [(Value.int IntKind.i64 0), (Value.int IntKind.i64 0), (Value.int IntKind.u64 0), (Value.int IntKind.u64 0), (Value.int IntKind.u64 0), (Value.int IntKind.u64 0), (Value.int IntKind.u64 0), (Value.int IntKind.u64 0), (Value.int IntKind.u64 0), (Value.int IntKind.u64 0), (Value.int IntKind.u64 0), (Value.int IntKind.u64 0), (Value.int IntKind.u64 0), (Value.int IntKind.u64 0), (Value.int IntKind.u64 0), (Value.int IntKind.u64 0), (Value.int IntKind.u64 0), (Value.int IntKind.u64 0), (Value.int IntKind.u64 0), (Value.int IntKind.u64 0), (Value.int IntKind.u64 0), (Value.int IntKind.u64 0), (Value.int IntKind.u64 0), (Value.int IntKind.u64 0), (Value.int IntKind.u64 0), (Value.int IntKind.u64 0), (Value.int IntKind.u64 0), (Value.int IntKind.u64 0), (Value.int IntKind.u64 0), (Value.int IntKind.u64 0), (Value.int IntKind.u64 0), (Value.int IntKind.u64 0), (Value.int IntKind.u64 0), (Value.int IntKind.u64 0), (Value.int IntKind.u64 0), (Value.int IntKind.u64 0), (Value.int IntKind.u64 0), (Value.int IntKind.u64 0), (Value.int IntKind.u64 0), (Value.int IntKind.u64 0), (Value.int IntKind.u64 0), (Value.int IntKind.u64 0), (Value.int IntKind.u64 0), (Value.int IntKind.u64 0), (Value.int IntKind.u64 0), (Value.int IntKind.u64 0), (Value.int IntKind.u64 0), (Value.int IntKind.u64 0), (Value.int IntKind.u64 0), (Value.int IntKind.u64 0)] := kz_iso (kz_pair kz_i64 (kz_pair kz_i64 (kz_arr 24 kzWide)))
structure exec_run where
  Env : Env
  groups : (List Group)
  out : (List Out)
  header : (Vector Wide 24)
  depth : Int
  deriving DecidableEq, Inhabited
def kexec_run : Kd exec_run := kiso (kpair kEnv (kpair (ksl kGroup) (kpair (ksl kOut) (kpair (karr 24 kWide) (kint .i64))))) (fun x => (x.Env, (x.groups, (x.out, (x.header, x.depth)))))
def lexec_run_0 : Lens kexec_run kEnv := Lens.iso (k := (kpair kEnv (kpair (ksl kGroup) (kpair (ksl kOut) (kpair (karr 24 kWide) (kint .i64)))))) (Lens.fst _ _) exec_run.Env (fun x y => { x with Env := y }) (fun _ => rfl) (fun _ _ => rfl)
def lexec_run_1 : Lens kexec_run (ksl kGroup) := Lens.iso (k := (kpair kEnv (kpair (ksl kGroup) (kpair (ksl kOut) (kpair (karr 24 kWide) (kint .i64)))))) (Lens.comp (Lens.snd _ _) (Lens.fst _ _)) exec_run.groups (fun x y => { x with groups := y }) (fun _ => rfl) (fun _ _ => rfl)
def lexec_run_2 : Lens kexec_run (ksl kOut) := Lens.iso (k := (kpair kEnv (kpair (ksl kGroup) (kpair (ksl kOut) (kpair (karr 24 kWide) (kint .i64)))))) (Lens.comp (Lens.comp (Lens.snd _ _) (Lens.snd _ _)) (Lens.fst _ _)) exec_run.out (fun x y => { x with out := y }) (fun _ => rfl) (fun _ _ => rfl)
def lexec_run_3 : Lens kexec_run (karr 24 kWide) := Lens.iso (k := (kpair kEnv (kpair (ksl kGroup) (kpair (ksl kOut) (kpair (karr 24 kWide) (kint .i64)))))) (Lens.comp (Lens.comp (Lens.comp (Lens.snd _ _) (Lens.snd _ _)) (Lens.snd _ _)) (Lens.fst _ _)) exec_run.header (fun x y => { x with header := y }) (fun _ => rfl) (fun _ _ => rfl)
def lexec_run_4 : Lens kexec_run (kint .i64) := Lens.iso (k := (kpair kEnv (kpair (ksl kGroup) (kpair (ksl kOut) (kpair (karr 24 kWide) (kint .i64)))))) (Lens.comp (Lens.comp (Lens.comp (Lens.snd _ _) (Lens.snd _ _)) (Lens.snd _ _)) (Lens.snd _ _)) exec_run.depth (fun x y => { x with depth := y }) (fun _ => rfl) (fun _ _ => rfl)
def zexec_run : exec_run := ⟨zEnv, [], [], (Vector.replicate 24 zWide), 0⟩
theorem kzexec_run : KZ kexec_run zexec_run [(Value.int IntKind.i64 0), (Value.slice none 0 0), (Value.slice none 0 0), (Value.slice none 0 0), (Value.int IntKind.u64 0), (Value.int IntKind.u64 0), (Value.int IntKind.u64 0), (Value.int IntKind.u64 0), (Value.int IntKind.u64 0), (Value.int IntKind.u64 0), (Value.int IntKind.u64 0), (Value.int IntKind.u64 0), (Value.int IntKind.u64 0), (Value.int IntKind.u64 0), (Value.int IntKind.u64 0), (Value.int IntKind.u64 0), (Value.int IntKind.u64 0), (Value.int IntKind.u64 0), (Value.int IntKind.u64 0), (Value.int IntKind.u64 0), (Value.int IntKind.u64 0), (Value.int IntKind.u64 0), (Value.int IntKind.u64 0), (Value.int IntKind.u64 0), (Value.int IntKind.u64 0), (Value.int IntKind.u64 0), (Value.int IntKind.u64 0), (Value.int IntKind.u64 0), (Value.int IntKind.u64 0), (Value.int IntKind.u64 0), (Value.int IntKind.u64 0), (Value.int IntKind.u64 0), (Value.int IntKind.u64 0), (Value.int IntKind.u64 0), (Value.int IntKind.u64 0), (Value.int IntKind.u64 0), (Value.int IntKind.u64 0), (Value.int IntKind.u64 0), (Value.int IntKind.u64 0), (Value.int IntKind.u64 0), (Value.int IntKind.u64 0), (Value.int IntKind.u64 0), (Value.int IntKind.u64 0), (Value.int IntKind.u64 0), (Value.int IntKind.u64 0), (Value.int IntKind.u64 0), (Value.int IntKind.u64 0), (Value.int IntKind.u64 0), (Value.int IntKind.u64 0), (Value.int IntKind.u64 0), (Value.int IntKind.u64 0), (Value.int IntKind.u64 0), (Value.int IntKind.i64 0)] := kz_iso (kz_pair kzEnv (kz_pair (kz_sl _) (kz_pair (kz_sl _) (kz_pair (kz_arr 24 kzWide) kz_i64))))
structure exec_run_o2 where
  Env : Env
  groups : (List Group)
  out : Value
  header : (Vector Wide 24)
  depth : Int
def kexec_run_o2 : Kd exec_run_o2 := kiso (kpair kEnv (kpair (ksl kGroup) (kpair kraw (kpair (karr 24 kWide) (kint .i64))))) (fun x => (x.Env, (x.groups, (x.out, (x.header, x.depth)))))
def lexec_run_o2_0 : Lens kexec_run_o2 kEnv := Lens.iso (k := (kpair kEnv (kpair (ksl kGroup) (kpair kraw (kpair (karr 24 kWide) (kint .i64)))))) (Lens.fst _ _) exec_run_o2.Env (fun x y => { x with Env := y }) (fun _ => rfl) (fun _ _ => rfl)
def lexec_run_o2_1 : Lens kexec_run_o2 (ksl kGroup) := Lens.iso (k := (kpair kEnv (kpair (ksl kGroup) (kpair kraw (kpair (karr 24 kWide) (kint .i64)))))) (Lens.comp (Lens.snd _ _) (Lens.fst _ _)) exec_run_o2.groups (fun x y => { x with groups := y }) (fun _ => rfl) (fun _ _ => rfl)
def lexec_run_o2_2 : Lens kexec_run_o2 kraw := Lens.iso (k := (kpair kEnv (kpair (ksl kGroup) (kpair kraw (kpair (karr 24 kWide) (kint .i64)))))) (Lens.comp (Lens.comp (Lens.snd _ _) (Lens.snd _ _)) (Lens.fst _ _)) exec_run_o2.out (fun x y => { x with out := y }) (fun _ => rfl) (fun _ _ => rfl)
def lexec_run_o2_3 : Lens kexec_run_o2 (karr 24 kWide) := Lens.iso (k := (kpair kEnv (kpair (ksl kGroup) (kpair kraw (kpair (karr 24 kWide) (kint .i64)))))) (Lens.comp (Lens.comp (Lens.comp (Lens.snd _ _) (Lens.snd _ _)) (Lens.snd _ _)) (Lens.fst _ _)) exec_run_o2.header (fun x y => { x with header := y }) (fun _ => rfl) (fun _ _ => rfl)
def lexec_run_o2_4 : Lens kexec_run_o2 (kint .i64) := Lens.iso (k := (kpair kEnv (kpair (ksl kGroup) (kpair kraw (kpair (karr 24 kWide) (kint .i64)))))) (Lens.comp (Lens.comp (Lens.comp (Lens.snd _ _) (Lens.snd _ _)) (Lens.snd _ _)) (Lens.snd _ _)) exec_run_o2.depth (fun x y => { x with depth := y }) (fun _ => rfl) (fun _ _ => rfl)
def zexec_run_o2 : exec_run_o2 := ⟨zEnv, [], (.slice none 0 0), (Vector.replicate 24 zWide), 0⟩
theorem kzexec_run_o2 : KZ kexec_run_o2 zexec_run_o2 [(Value.int IntKind.i64 0), (Value.slice none 0 0), (Value.slice none 0 0), (Value.slice none 0 0), (Value.int IntKind.u64 0), (Value.int IntKind.u64 0), (Value.int IntKind.u64 0), (Value.int IntKind.u64 0), (Value.int IntKind.u64 0), (Value.int IntKind.u64 0), (Value.int IntKind.u64 0), (Value.int IntKind.u64 0), (Value.int IntKind.u64 0), (Value.int IntKind.u64 0), (Value.int IntKind.u64 0), (Value.int IntKind.u64 0), (Value.int IntKind.u64 0), (Value.int IntKind.u64 0), (Value.int IntKind.u64 0), (Value.int IntKind.u64 0), (Value.int IntKind.u64 0), (Value.int IntKind.u64 0), (Value.int IntKind.u64 0), (Value.int IntKind.u64 0), (Value.int IntKind.u64 0), (Value.int IntKind.u64 0), (Value.int IntKind.u64 0), (Value.int IntKind.u64 0), (Value.int IntKind.u64 0), (Value.int IntKind.u64 0), (Value.int IntKind.u64 0), (Value.int IntKind.u64 0), (Value.int IntKind.u64 0), (Value.int IntKind.u64 0), (Value.int IntKind.u64 0), (Value.int IntKind.u64 0), (Value.int IntKind.u64 0), (Value.int IntKind.u64 0), (Value.int IntKind.u64 0), (Value.int IntKind.u64 0), (Value.int IntKind.u64 0), (Value.int IntKind.u64 0), (Value.int IntKind.u64 0), (Value.int IntKind.u64 0), (Value.int IntKind.u64 0), (Value.int IntKind.u64 0), (Value.int IntKind.u64 0), (Value.int IntKind.u64 0), (Value.int IntKind.u64 0), (Value.int IntKind.u64 0), (Value.int IntKind.u64 0), (Value.int IntKind.u64 0), (Value.int IntKind.i64 0)] := kz_iso (kz_pair kzEnv (kz_pair (kz_sl _) (kz_pair (kz_raw rfl) (kz_pair (kz_arr 24 kzWide) kz_i64))))
theorem cvexec_run_o2 (x : exec_run_o2) (l : (List Out)) : ∀ w H cs, kexec_run_o2.C w H x cs → SlC kOut w H l x.out → kexec_run.C w H ⟨x.Env, x.groups, l, x.header, x.depth⟩ cs := by
  rintro w H cs ⟨c0, r0, rfl, h0, ⟨c1, r1, rfl, h1, ⟨c2, r2, rfl, h2, ⟨c3, r3, rfl, h3, h4⟩⟩⟩⟩ hs
  exact ⟨_, _, rfl, h0, ⟨_, _, rfl, h1, ⟨_, _, rfl, ⟨_, h2.1, hs⟩, ⟨_, _, rfl, h3, h4⟩⟩⟩⟩
structure differ_single where
  field : Int
  bit : Int
  on : Bool
  deriving DecidableEq, Inhabited
def kdiffer_single : Kd differ_single := kiso (kpair (kint .i64) (kpair (kint .i64) kbool)) (fun x => (x.field, (x.bit, x.on)))
def ldiffer_single_0 : Lens kdiffer_single (kint .i64) := Lens.iso (k := (kpair (kint .i64) (kpair (kint .i64) kbool))) (Lens.fst _ _) differ_single.field (fun x y => { x with field := y }) (fun _ => rfl) (fun _ _ => rfl)
def ldiffer_single_1 : Lens kdiffer_single (kint .i64) := Lens.iso (k := (kpair (kint .i64) (kpair (kint .i64) kbool))) (Lens.comp (Lens.snd _ _) (Lens.fst _ _)) differ_single.bit (fun x y => { x with bit := y }) (fun _ => rfl) (fun _ _ => rfl)
def ldiffer_single_2 : Lens kdiffer_single kbool := Lens.iso (k := (kpair (kint .i64) (kpair (kint .i64) kbool))) (Lens.comp (Lens.snd _ _) (Lens.snd _ _)) differ_single.on (fun x y => { x with on := y }) (fun _ => rfl) (fun _ _ => rfl)
def zdiffer_single : differ_single := ⟨0, 0, false⟩
theorem kzdiffer_single : KZ kdiffer_single zdiffer_single [(Value.int IntKind.i64 0), (Value.int IntKind.i64 0), (Value.bool false)] := kz_iso (kz_pair kz_i64 (kz_pair kz_i64 kz_bool))
theorem sl61 : Sl Try.prog 61 68 kBucket := ⟨by kernel_rfl, by kernel_rfl⟩
theorem ty68 : Ty Try.prog 68 kBucket := ⟨by kernel_rfl, by kernel_rfl⟩
theorem sl66 : Sl Try.prog 66 95 kAction := ⟨by kernel_rfl, by kernel_rfl⟩
theorem fl68_3 : Fl Try.prog 68 3 lBucket_3 := ⟨by kernel_rfl, rfl⟩
theorem ty66 : Ty Try.prog 66 (ksl kAction) := ⟨by kernel_rfl, by kernel_rfl⟩
theorem fl63_2 : Fl Try.prog 63 2 lGroup_2 := ⟨by kernel_rfl, rfl⟩
theorem ty61 : Ty Try.prog 61 (ksl kBucket) := ⟨by kernel_rfl, by kernel_rfl⟩
theorem ty3 : Ty Try.prog 3 (kint .i64) := ⟨by kernel_rfl, by kernel_rfl⟩
theorem sl22 : Sl Try.prog 22 63 kGroup := ⟨by kernel_rfl, by kernel_rfl⟩
theorem ty63 : Ty Try.prog 63 kGroup := ⟨by kernel_rfl, by kernel_rfl⟩
theorem sl44 : Sl Try.prog 44 53 kAtom := ⟨by kernel_rfl, by kernel_rfl⟩
theorem fl25_1 : Fl Try.prog 25 1 lEnv_1 := ⟨by kernel_rfl, rfl⟩
theorem ty23 : Ty Try.prog 23 (ksl (kint .i64)) := ⟨by kernel_rfl, by kernel_rfl⟩
theorem sl23 : Sl Try.prog 23 3 (kint .i64) := ⟨by kernel_rfl, by kernel_rfl⟩
theorem fl63_0 : Fl Try.prog 63 0 lGroup_0 := ⟨by kernel_rfl, rfl⟩
theorem el22 : El Try.prog 22 63 kGroup := ⟨by kernel_rfl, by kernel_rfl, by kernel_rfl, by kernel_rfl, by kernel_rfl⟩
theorem zr63 : Zr Try.prog 63 kGroup zGroup := ⟨_, kzGroup, by kernel_rfl⟩
theorem el61 : El Try.prog 61 68 kBucket := ⟨by kernel_rfl, by kernel_rfl, by kernel_rfl, by kernel_rfl, by kernel_rfl⟩
theorem zr68 : Zr Try.prog 68 kBucket zBucket := ⟨_, kzBucket, by kernel_rfl⟩
theorem el66 : El Try.prog 66 95 kAction := ⟨by kernel_rfl, by kernel_rfl, by kernel_rfl, by kernel_rfl, by kernel_rfl⟩
theorem zr95 : Zr Try.prog 95 kAction zAction := ⟨_, kzAction, by kernel_rfl⟩
theorem fl25_0 : Fl Try.prog 25 0 lEnv_0 := ⟨by kernel_rfl, rfl⟩
theorem fl159_0 : Fl Try.prog 159 0 lenv_world_0 := ⟨by kernel_rfl, rfl⟩
theorem ty25 : Ty Try.prog 25 kEnv := ⟨by kernel_rfl, by kernel_rfl⟩
theorem fl68_1 : Fl Try.prog 68 1 lBucket_1 := ⟨by kernel_rfl, rfl⟩
theorem fl159_1 : Fl Try.prog 159 1 lenv_world_1 := ⟨by kernel_rfl, rfl⟩
theorem zr159 : Zr Try.prog 159 kenv_world zenv_world := ⟨_, kzenv_world, by kernel_rfl⟩
theorem ty159 : Ty Try.prog 159 kenv_world := ⟨by kernel_rfl, by kernel_rfl⟩
theorem fl63_1 : Fl Try.prog 63 1 lGroup_1 := ⟨by kernel_rfl, rfl⟩
theorem zr3 : Zr Try.prog 3 (kint .i64) 0 := ⟨_, kz_i64, by kernel_rfl⟩
theorem el23 : El Try.prog 23 3 (kint .i64) := ⟨by kernel_rfl, by kernel_rfl, by kernel_rfl, by kernel_rfl, by kernel_rfl⟩
theorem zr169 : Zr Try.prog 169 kaset_spot zaset_spot := ⟨_, kzaset_spot, by kernel_rfl⟩
theorem fl95_0 : Fl Try.prog 95 0 lAction_0 := ⟨by kernel_rfl, rfl⟩
theorem fl95_5 : Fl Try.prog 95 5 lAction_5 := ⟨by kernel_rfl, rfl⟩
theorem fl93_0 : Fl Try.prog 93 0 lOxm_0 := ⟨by kernel_rfl, rfl⟩
theorem ty169 : Ty Try.prog 169 kaset_spot := ⟨by kernel_rfl, by kernel_rfl⟩
theorem ty95 : Ty Try.prog 95 kAction := ⟨by kernel_rfl, by kernel_rfl⟩
theorem eqk3 : EqK Try.prog 1 3 (kint .i64) := eqk_int (by kernel_rfl)
theorem eqk169 : EqK Try.prog 2 169 kaset_spot := eqk_st (fun x y e => by cases x; cases y; simp only [Prod.mk.injEq] at e; simp [e]) (l := _) (by kernel_rfl) (by kernel_rfl) (eqf_cons eqk3 ty3 (eqf_one eqk3 ty3))
theorem eg169 : Try.prog.eqGuardType Try.prog.depth 169 = false := by kernel_rfl
theorem ty4 : Ty Try.prog 4 kbool := ⟨by kernel_rfl, by kernel_rfl⟩
theorem us3 : (Try.prog.underlying 3).isSome = true := by kernel_rfl
theorem un201 : Try.prog.underlying 201 = some (.int .u64) := by kernel_rfl
theorem us201 : (Try.prog.underlying 201).isSome = true := by kernel_rfl
theorem un3 : Try.prog.underlying 3 = some (.int .i64) := by kernel_rfl
theorem fl169_0 : Fl Try.prog 169 0 laset_spot_0 := ⟨by kernel_rfl, rfl⟩
theorem fl169_1 : Fl Try.prog 169 1 laset_spot_1 := ⟨by kernel_rfl, rfl⟩
theorem zr4 : Zr Try.prog 4 kbool false := ⟨_, kz_bool, by kernel_rfl⟩
theorem zr28 : Zr Try.prog 28 kWide zWide := ⟨_, kzWide, by kernel_rfl⟩
theorem fl28_0 : Fl Try.prog 28 0 lWide_0 := ⟨by kernel_rfl, rfl⟩
theorem ty26 : Ty Try.prog 26 ku64 := ⟨by kernel_rfl, by kernel_rfl⟩
theorem fl28_1 : Fl Try.prog 28 1 lWide_1 := ⟨by kernel_rfl, rfl⟩
theorem ty28 : Ty Try.prog 28 kWide := ⟨by kernel_rfl, by kernel_rfl⟩
theorem zr49 : Zr Try.prog 49 kTern zTern := ⟨_, kzTern, by kernel_rfl⟩
theorem fl49_0 : Fl Try.prog 49 0 lTern_0 := ⟨by kernel_rfl, rfl⟩
theorem fl49_1 : Fl Try.prog 49 1 lTern_1 := ⟨by kernel_rfl, rfl⟩
theorem ty49 : Ty Try.prog 49 kTern := ⟨by kernel_rfl, by kernel_rfl⟩
theorem ar51 : Ar Try.prog 51 49 24 kTern := ⟨by kernel_rfl, by kernel_rfl⟩
theorem zr51 : Zr Try.prog 51 (karr 24 kTern) (Vector.replicate 24 zTern) := ⟨_, (kz_arr 24 kzTern), by kernel_rfl⟩
theorem ty51 : Ty Try.prog 51 (karr 24 kTern) := ⟨by kernel_rfl, by kernel_rfl⟩
theorem zr205 : Zr Try.prog 205 (karr 24 kfield_row) (Vector.replicate 24 zfield_row) := ⟨_, (kz_arr 24 kzfield_row), by kernel_rfl⟩
theorem zr203 : Zr Try.prog 203 kfield_row zfield_row := ⟨_, kzfield_row, by kernel_rfl⟩
theorem ty205 : Ty Try.prog 205 (karr 24 kfield_row) := ⟨by kernel_rfl, by kernel_rfl⟩
theorem ty203 : Ty Try.prog 203 kfield_row := ⟨by kernel_rfl, by kernel_rfl⟩
theorem ar205 : Ar Try.prog 205 203 24 kfield_row := ⟨by kernel_rfl, by kernel_rfl⟩
theorem ft203_2 : fieldTy Try.prog 203 2 = some 3 := by kernel_rfl
theorem fl203_2 : Fl Try.prog 203 2 lfield_row_2 := ⟨by kernel_rfl, rfl⟩
theorem fl93_1 : Fl Try.prog 93 1 lOxm_1 := ⟨by kernel_rfl, rfl⟩
theorem fl93_2 : Fl Try.prog 93 2 lOxm_2 := ⟨by kernel_rfl, rfl⟩
theorem fl93_3 : Fl Try.prog 93 3 lOxm_3 := ⟨by kernel_rfl, rfl⟩
theorem zr184 : Zr Try.prog 184 (karr 2 ku64) (Vector.replicate 2 0) := ⟨_, (kz_arr 2 kz_u64), by kernel_rfl⟩
theorem ar184 : Ar Try.prog 184 26 2 ku64 := ⟨by kernel_rfl, by kernel_rfl⟩
theorem ty93 : Ty Try.prog 93 kOxm := ⟨by kernel_rfl, by kernel_rfl⟩
theorem flv191_0_1 : Fl Try.prog 191 0 latom_trace_o1_0 := ⟨by kernel_rfl, rfl⟩
theorem zr53 : Zr Try.prog 53 kAtom zAtom := ⟨_, kzAtom, by kernel_rfl⟩
theorem ty53 : Ty Try.prog 53 kAtom := ⟨by kernel_rfl, by kernel_rfl⟩
theorem fl95_1 : Fl Try.prog 95 1 lAction_1 := ⟨by kernel_rfl, rfl⟩
theorem fl53_2 : Fl Try.prog 53 2 lAtom_2 := ⟨by kernel_rfl, rfl⟩
theorem fl95_2 : Fl Try.prog 95 2 lAction_2 := ⟨by kernel_rfl, rfl⟩
theorem fl53_3 : Fl Try.prog 53 3 lAtom_3 := ⟨by kernel_rfl, rfl⟩
theorem fl95_3 : Fl Try.prog 95 3 lAction_3 := ⟨by kernel_rfl, rfl⟩
theorem fl53_1 : Fl Try.prog 53 1 lAtom_1 := ⟨by kernel_rfl, rfl⟩
theorem flv191_1_1 : Fl Try.prog 191 1 latom_trace_o1_1 := ⟨by kernel_rfl, rfl⟩
theorem tyr44 : Ty Try.prog 44 kraw := ⟨by kernel_rfl, by kernel_rfl⟩
theorem el44 : El Try.prog 44 53 kAtom := ⟨by kernel_rfl, by kernel_rfl, by kernel_rfl, by kernel_rfl, by kernel_rfl⟩
theorem zrv191_1 : Zr Try.prog 191 katom_trace_o1 zatom_trace_o1 := ⟨_, kzatom_trace_o1, by kernel_rfl⟩
theorem ty99 : Ty Try.prog 99 knorm_world := ⟨by kernel_rfl, by kernel_rfl⟩
theorem fl53_0 : Fl Try.prog 53 0 lAtom_0 := ⟨by kernel_rfl, rfl⟩
theorem fl99_1 : Fl Try.prog 99 1 lnorm_world_1 := ⟨by kernel_rfl, rfl⟩
theorem ty22 : Ty Try.prog 22 (ksl kGroup) := ⟨by kernel_rfl, by kernel_rfl⟩
theorem fl99_2 : Fl Try.prog 99 2 lnorm_world_2 := ⟨by kernel_rfl, rfl⟩
theorem fl99_0 : Fl Try.prog 99 0 lnorm_world_0 := ⟨by kernel_rfl, rfl⟩
theorem zr99 : Zr Try.prog 99 knorm_world znorm_world := ⟨_, kznorm_world, by kernel_rfl⟩
theorem zr25 : Zr Try.prog 25 kEnv zEnv := ⟨_, kzEnv, by kernel_rfl⟩
theorem zr30 : Zr Try.prog 30 (karr 24 kWide) (Vector.replicate 24 zWide) := ⟨_, (kz_arr 24 kzWide), by kernel_rfl⟩
theorem ty30 : Ty Try.prog 30 (karr 24 kWide) := ⟨by kernel_rfl, by kernel_rfl⟩
theorem ar30 : Ar Try.prog 30 28 24 kWide := ⟨by kernel_rfl, by kernel_rfl⟩
theorem flv90_1_2 : Fl Try.prog 90 1 lexec_run_o2_1 := ⟨by kernel_rfl, rfl⟩
theorem flv90_4_2 : Fl Try.prog 90 4 lexec_run_o2_4 := ⟨by kernel_rfl, rfl⟩
theorem flv90_3_2 : Fl Try.prog 90 3 lexec_run_o2_3 := ⟨by kernel_rfl, rfl⟩
theorem flv90_0_2 : Fl Try.prog 90 0 lexec_run_o2_0 := ⟨by kernel_rfl, rfl⟩
theorem flv90_2_2 : Fl Try.prog 90 2 lexec_run_o2_2 := ⟨by kernel_rfl, rfl⟩
theorem tyr41 : Ty Try.prog 41 kraw := ⟨by kernel_rfl, by kernel_rfl⟩
theorem zr87 : Zr Try.prog 87 kOut zOut := ⟨_, kzOut, by kernel_rfl⟩
theorem sl41 : Sl Try.prog 41 87 kOut := ⟨by kernel_rfl, by kernel_rfl⟩
theorem el41 : El Try.prog 41 87 kOut := ⟨by kernel_rfl, by kernel_rfl, by kernel_rfl, by kernel_rfl, by kernel_rfl⟩
theorem zrv90_2 : Zr Try.prog 90 kexec_run_o2 zexec_run_o2 := ⟨_, kzexec_run_o2, by kernel_rfl⟩
theorem zrr41 : Zr Try.prog 41 kraw (.slice none 0 0) := ⟨_, kz_raw rfl, by kernel_rfl⟩
theorem ty87 : Ty Try.prog 87 kOut := ⟨by kernel_rfl, by kernel_rfl⟩
theorem eqk26 : EqK Try.prog 1 26 ku64 := eqk_u64 (by kernel_rfl)
theorem eqk28 : EqK Try.prog 2 28 kWide := eqk_st (fun x y e => by cases x; cases y; simp only [Prod.mk.injEq] at e; simp [e]) (l := _) (by kernel_rfl) (by kernel_rfl) (eqf_cons eqk26 ty26 (eqf_one eqk26 ty26))
theorem eqk30 : EqK Try.prog 3 30 (karr 24 kWide) := eqk_arr eqk28 ty28 ar30
theorem eqk87 : EqK Try.prog 4 87 kOut := eqk_st (fun x y e => by cases x; cases y; simp only [Prod.mk.injEq] at e; simp [e]) (l := _) (by kernel_rfl) (by kernel_rfl) (eqf_cons (eqk3.le (by decide)) ty3 (eqf_cons (eqk3.le (by decide)) ty3 (eqf_one eqk30 ty30)))
theorem eg87 : Try.prog.eqGuardType Try.prog.depth 87 = false := by kernel_rfl
theorem zr106 : Zr Try.prog 106 (karr 24 kTern) (Vector.replicate 24 zTern) := ⟨_, (kz_arr 24 kzTern), by kernel_rfl⟩
theorem ty106 : Ty Try.prog 106 (karr 24 kTern) := ⟨by kernel_rfl, by kernel_rfl⟩
theorem ar106 : Ar Try.prog 106 49 24 kTern := ⟨by kernel_rfl, by kernel_rfl⟩
theorem un4 : Try.prog.underlying 4 = some (.bool) := by kernel_rfl
theorem us26 : (Try.prog.underlying 26).isSome = true := by kernel_rfl
theorem ty44 : Ty Try.prog 44 (ksl kAtom) := ⟨by kernel_rfl, by kernel_rfl⟩
theorem zr116 : Zr Try.prog 116 kdiffer_single zdiffer_single := ⟨_, kzdiffer_single, by kernel_rfl⟩
theorem tyr146 : Ty Try.prog 146 kraw := ⟨by kernel_rfl, by kernel_rfl⟩
theorem tyk146 (A : Asrt) : Ty Try.prog 146 (kas A) := ⟨tyr146.sz, tyr146.ag⟩
theorem ty116 : Ty Try.prog 116 kdiffer_single := ⟨by kernel_rfl, by kernel_rfl⟩
theorem fl116_0 : Fl Try.prog 116 0 ldiffer_single_0 := ⟨by kernel_rfl, rfl⟩
theorem fl116_1 : Fl Try.prog 116 1 ldiffer_single_1 := ⟨by kernel_rfl, rfl⟩
theorem fl116_2 : Fl Try.prog 116 2 ldiffer_single_2 := ⟨by kernel_rfl, rfl⟩
theorem sl104 : Sl Try.prog 104 106 (karr 24 kTern) := ⟨by kernel_rfl, by kernel_rfl⟩
theorem el104 : El Try.prog 104 106 (karr 24 kTern) := ⟨by kernel_rfl, by kernel_rfl, by kernel_rfl, by kernel_rfl, by kernel_rfl⟩
theorem tyr104 : Ty Try.prog 104 kraw := ⟨by kernel_rfl, by kernel_rfl⟩
theorem uf110 : isFuncD (Try.prog.underlying 110) = true := by kernel_rfl
theorem mixed : Try.prog.follows .mixedOrders = true := by kernel_rfl
end Go.Proofs.Ytknpgojdkobgjaa.W
set_option linter.unusedVariables false
set_option maxRecDepth 4000
set_option linter.unusedSimpArgs false
namespace Go.Proofs.Ytknpgojdkobgjaa.W
open Go Go.Wb
def F_slices_IndexFunc_Bucket_l1 (s1 : (List Bucket)) (f2 : (Bucket → Option Bool)) : Nat → Nat → Option Int
  | 0, i3 => some (-1)
  | m4 + 1, i3 => (lget s1 (i3 : Int)).bind fun e5 => (f2 e5).bind fun x6 => (bif x6 then some (i3 : Int) else (F_slices_IndexFunc_Bucket_l1 s1 f2 m4) (i3 + 1))
def F_slices_IndexFunc_Bucket (s1 : (List Bucket)) (f2 : (Bucket → Option Bool)) : Option Int :=
  F_slices_IndexFunc_Bucket_l1 s1 f2 ((s1.length : Int) : Int).toNat 0
theorem c_slices_IndexFunc_Bucket (s1 : (List Bucket)) (f2 : (Bucket → Option Bool)) (r : Int) (h : F_slices_IndexFunc_Bucket s1 f2 = some r) : PCon Try.prog 97 [rd (ksl kBucket) s1, fn1 Try.prog kBucket kbool f2] (rd (kint .i64) r) := by
  refine PCon.of (Con.intro0 Try.func97 rfl Try.ntmps97 rfl fun w H => ?_)
  unfold F_slices_IndexFunc_Bucket at h
  refine AW.seq ?_
  refine AW.region ?_
  refine AOps.cons (op_assign (A := rd (kint .i64) 0) rfl rfl (vk rfl)) rfl ?_
  refine AOps.nil ?_
  refine AW.seq ?_
  refine AW.seq ?_
  refine AW.region ?_
  refine AOps.cons (op_move (A := rd (ksl kBucket) s1) rfl rfl (vt rfl)) rfl ?_
  refine AOps.cons (op_len' rfl rfl sl61 (vt rfl)) rfl ?_
  refine AOps.cons (op_move (A := rd (kint .i64) 0) rfl rfl (vk rfl)) rfl ?_
  refine AOps.nil ?_
  refine AW.block ?_
  refine AW.loopG (d := []) (ν := Nat × Nat) (fun n => Cnt (s1.length : Int) n.2 n.1 ∧ F_slices_IndexFunc_Bucket_l1 s1 f2 n.1 n.2 = some r) (fun n => n.1) (fun n => [(0, rd (ksl kBucket) s1), (1, fn1 Try.prog kBucket kbool f2), (7, rd (kint .i64) (s1.length : Int)), (8, rd (kint .i64) (n.2 : Int))]) (fun n => []) (((s1.length : Int) : Int).toNat, 0) ⟨Cnt.start _, h⟩ ⟨rfl, ⟨rfl, rfl, rfl, rfl, trivial⟩, trivial⟩ ?_
  rintro ⟨m4, i3⟩ ⟨hsf1, h⟩
  change Cnt (s1.length : Int) i3 m4 at hsf1
  change F_slices_IndexFunc_Bucket_l1 s1 f2 m4 i3 = some r at h
  change AW _ _ _ ⟨slots [(0, rd (ksl kBucket) s1), (1, fn1 Try.prog kBucket kbool f2), (7, rd (kint .i64) (s1.length : Int)), (8, rd (kint .i64) (i3 : Int))], ress [], _⟩
  cases m4 with
  | zero =>
    unfold F_slices_IndexFunc_Bucket_l1 at h
    refine AW.seq ?_
    refine AW.region ?_
    refine AOps.cons (op_lss rfl rfl (vt rfl) (vt rfl)) rfl ?_
    refine AOps.nil ?_
    refine AW.seq ?_
    refine AW.cond (vt rfl) (fun hc => absurd (of_decide_eq_true hc) hsf1.zero) (fun hc => ?_)
    refine AW.exit ?_
    refine AW.seq ?_
    refine AW.region ?_
    refine AOps.cons (op_assign (A := rd (kint .i64) (-1)) rfl rfl (vk rfl)) rfl ?_
    refine AOps.nil ?_
    refine AW.ret ?_
    obtain rfl := Option.some.inj h
    exact ret1 Try.results97 rfl (out_tmp rfl)
  | succ m4 =>
    unfold F_slices_IndexFunc_Bucket_l1 at h
    generalize hgo1 : F_slices_IndexFunc_Bucket_l1 s1 f2 m4 = go1 at h
    refine AW.seq ?_
    refine AW.region ?_
    refine AOps.cons (op_lss rfl rfl (vt rfl) (vt rfl)) rfl ?_
    refine AOps.nil ?_
    refine AW.seq ?_
    refine AW.cond (vt rfl) (fun hc => ?_) (fun hc => absurd hsf1.succ (of_decide_eq_false hc))
    have hlti3 := of_decide_eq_true hc
    refine AW.skip ?_
    refine AW.seq ?_
    refine AW.block ?_
    refine AW.seq ?_
    refine AW.region ?_
    refine AOps.cons (op_move (A := rd (kint .i64) (i3 : Int)) rfl rfl (vt rfl)) rfl ?_
    refine AOps.cons (op_assign (A := rd (kint .i64) (i3 : Int)) rfl rfl (vt rfl)) rfl ?_
    refine AOps.nil ?_
    refine AW.seq ?_
    obtain ⟨e5, he5, h⟩ := bsome h
    obtain ⟨x6, hx6, h⟩ := bsome h
    refine AW.region ?_
    refine AOps.cons (op_move (A := fn1 Try.prog kBucket kbool f2) rfl rfl (vt rfl)) rfl ?_
    refine AOps.cons (op_move (A := rd (ksl kBucket) s1) rfl rfl (vt rfl)) rfl ?_
    refine AOps.cons (op_move (A := rd (kint .i64) (i3 : Int)) rfl rfl (vt rfl)) rfl ?_
    refine AOps.cons (op_indexs' rfl rfl sl61 (vt rfl) (vt rfl) he5) rfl ?_
    refine AOps.cons (op_loadp rfl rfl ty68 (vt rfl)) rfl ?_
    refine AOps.cons (op_call1 hx6 rfl rfl (vt rfl) (vt rfl)) rfl ?_
    refine AOps.nil ?_
    refine AW.cond (vt rfl) (fun hc => ?_) (fun hc => ?_)
    · have h := cond_t hc h
      refine AW.seq ?_
      refine AW.region ?_
      refine AOps.cons (op_move (A := rd (kint .i64) (i3 : Int)) rfl rfl (vt rfl)) rfl ?_
      refine AOps.cons (op_assign (A := rd (kint .i64) (i3 : Int)) rfl rfl (vt rfl)) rfl ?_
      refine AOps.nil ?_
      refine AW.ret ?_
      obtain rfl := Option.some.inj h
      exact ret1 Try.results97 rfl (out_tmp rfl)
    · have h := cond_f hc h
      refine AW.skip ?_
      refine AW.region ?_
      refine AOps.cons (op_incr (t := 7) rfl rfl (vt rfl) (vk rfl) (vt rfl) hlti3) rfl ?_
      refine AOps.cons (op_move (A := rd (kint .i64) ((i3 + 1 : Nat) : Int)) rfl rfl (vt rfl)) rfl ?_
      refine AOps.nil ?_
      subst hgo1
      exact ⟨(m4, i3 + 1), Nat.lt_succ_self _, ⟨hsf1.next, h⟩, ⟨rfl, ⟨rfl, rfl, rfl, rfl, trivial⟩, trivial⟩⟩
def F_slices_ContainsFunc_Bucket (s1 : (List Bucket)) (f2 : (Bucket → Option Bool)) : Option Bool :=
  (F_slices_IndexFunc_Bucket s1 f2).bind fun x3 => some (decide (x3 ≥ 0))
theorem c_slices_ContainsFunc_Bucket (s1 : (List Bucket)) (f2 : (Bucket → Option Bool)) (r : Bool) (h : F_slices_ContainsFunc_Bucket s1 f2 = some r) : PCon Try.prog 61 [rd (ksl kBucket) s1, fn1 Try.prog kBucket kbool f2] (rd kbool r) := by
  refine PCon.of (Con.intro0 Try.func61 rfl Try.ntmps61 rfl fun w H => ?_)
  unfold F_slices_ContainsFunc_Bucket at h
  refine AW.seq ?_
  refine AW.region ?_
  refine AOps.cons (op_assign (A := rd kbool false) rfl rfl vb) rfl ?_
  refine AOps.nil ?_
  refine AW.seq ?_
  obtain ⟨x3, hx3, h⟩ := bsome h
  refine AW.region ?_
  refine AOps.cons (op_move (A := rd (ksl kBucket) s1) rfl rfl (vt rfl)) rfl ?_
  refine AOps.cons (op_move (A := fn1 Try.prog kBucket kbool f2) rfl rfl (vt rfl)) rfl ?_
  refine AOps.cons (op_call (xs := [.tmp 5, .tmp 6]) (c_slices_IndexFunc_Bucket _ _ _ hx3) (Ent.mk Try.func97 rfl rfl) rfl rfl ⟨vt rfl, vt rfl, trivial⟩) rfl ?_
  refine AOps.cons (op_geq rfl rfl (vt rfl) (vk rfl)) rfl ?_
  refine AOps.cons (op_assign (A := rd kbool (decide (x3 ≥ 0))) rfl rfl (vt rfl)) rfl ?_
  refine AOps.nil ?_
  refine AW.ret ?_
  obtain rfl := Option.some.inj h
  exact ret1 Try.results61 rfl (out_tmp rfl)
def F_pl_Acts (l1 : (List Action)) : Option Bool :=
  some (decide ((l1.length : Int) ≤ 12))
theorem c_pl_Acts (l1 : (List Action)) (r : Bool) (h : F_pl_Acts l1 = some r) : PCon Try.prog 63 [rd (ksl kAction) l1] (rd kbool r) := by
  refine PCon.of (Con.intro0 Try.func63 rfl Try.ntmps63 rfl fun w H => ?_)
  unfold F_pl_Acts at h
  refine AW.seq ?_
  refine AW.region ?_
  refine AOps.cons (op_assign (A := rd kbool false) rfl rfl vb) rfl ?_
  refine AOps.nil ?_
  refine AW.seq ?_
  refine AW.region ?_
  refine AOps.cons (op_move (A := rd (ksl kAction) l1) rfl rfl (vt rfl)) rfl ?_
  refine AOps.cons (op_len' rfl rfl sl66 (vt rfl)) rfl ?_
  refine AOps.cons (op_leq rfl rfl (vt rfl) (vk rfl)) rfl ?_
  refine AOps.cons (op_assign (A := rd kbool (decide ((l1.length : Int) ≤ 12))) rfl rfl (vt rfl)) rfl ?_
  refine AOps.nil ?_
  refine AW.ret ?_
  obtain rfl := Option.some.inj h
  exact ret1 Try.results63 rfl (out_tmp rfl)
def F_pl_Buckets_1 (x1 : Bucket) : Option Bool :=
  (F_pl_Acts x1.Acts).bind fun x3 => some (!x3)
theorem c_pl_Buckets_1 (x1 : Bucket) (r : Bool) (h : F_pl_Buckets_1 x1 = some r) : PCon Try.prog 62 [rd kBucket x1] (rd kbool r) := by
  refine PCon.of (Con.intro0 Try.func62 rfl Try.ntmps62 rfl fun w H => ?_)
  unfold F_pl_Buckets_1 at h
  refine AW.seq ?_
  refine AW.region ?_
  refine AOps.consT rfl (op_box 2 rfl rfl (vt rfl)) ?_
  rintro _ ⟨g2, rfl⟩
  refine AOps.cons (op_assign (A := rd kbool false) rfl rfl vb) rfl ?_
  refine AOps.nil ?_
  refine AW.seq ?_
  obtain ⟨x3, hx3, h⟩ := bsome h
  refine AW.region ?_
  refine AOps.cons (op_field lBucket_3 rfl rfl fl68_3 (vt rfl)) rfl ?_
  refine AOps.cons (op_load rfl rfl ty66 (vt rfl) (i := 2) rfl) rfl ?_
  refine AOps.cons (op_call (xs := [.tmp 4]) (c_pl_Acts _ _ hx3) (Ent.mk Try.func63 rfl rfl) rfl rfl ⟨vt rfl, trivial⟩) rfl ?_
  refine AOps.cons (op_not rfl rfl (vt rfl)) rfl ?_
  refine AOps.cons (op_assign (A := rd kbool (!x3)) rfl rfl (vt rfl)) rfl ?_
  refine AOps.nil ?_
  refine AW.ret ?_
  obtain rfl := Option.some.inj h
  exact ret1 Try.results62 rfl (out_tmp rfl)
def F_pl_Buckets (l1 : (List Bucket)) (many2 : Int) : Option Bool :=
  (opt (decide ((l1.length : Int) ≤ many2)) (F_slices_ContainsFunc_Bucket l1 F_pl_Buckets_1)).bind fun x3 => some ((decide ((l1.length : Int) ≤ many2)) && (!x3))
theorem c_pl_Buckets (l1 : (List Bucket)) (many2 : Int) (r : Bool) (h : F_pl_Buckets l1 many2 = some r) : PCon Try.prog 29 [rd (ksl kBucket) l1, rd (kint .i64) many2] (rd kbool r) := by
  refine PCon.of (Con.intro0 Try.func29 rfl Try.ntmps29 rfl fun w H => ?_)
  unfold F_pl_Buckets at h
  refine AW.seq ?_
  refine AW.region ?_
  refine AOps.cons (op_assign (A := rd kbool false) rfl rfl vb) rfl ?_
  refine AOps.nil ?_
  refine AW.seq ?_
  obtain ⟨x3, hx3, h⟩ := bsome h
  refine AW.region ?_
  refine AOps.cons (op_move (A := rd (ksl kBucket) l1) rfl rfl (vt rfl)) rfl ?_
  refine AOps.cons (op_len' rfl rfl sl61 (vt rfl)) rfl ?_
  refine AOps.cons (op_move (A := rd (kint .i64) many2) rfl rfl (vt rfl)) rfl ?_
  refine AOps.cons (op_leq rfl rfl (vt rfl) (vt rfl)) rfl ?_
  refine AOps.cons (op_move (A := rd kbool (decide ((l1.length : Int) ≤ many2))) rfl rfl (vt rfl)) rfl ?_
  refine AOps.consG (OpG.guard rfl rfl rfl rfl rfl fun hq => op_move (A := rd (ksl kBucket) l1) rfl rfl (vt rfl)) ?_
  refine AOps.consG (OpG.guard rfl rfl rfl rfl rfl fun hq => op_call (xs := [.tmp 10, .func 62]) (c_slices_ContainsFunc_Bucket _ _ _ (opt_t hx3 hq)) (Ent.mk Try.func61 rfl rfl) rfl rfl ⟨vgt rfl hq, vf1 (Ent.mk Try.func62 rfl rfl) c_pl_Buckets_1, trivial⟩) ?_
  refine AOps.consG (OpG.guard rfl rfl rfl rfl rfl fun hq => op_not rfl rfl (vgt rfl hq)) ?_
  refine AOps.cons (op_all rfl rfl (vt rfl) (vt rfl)) rfl ?_
  refine AOps.cons (op_assign (A := rd kbool ((decide ((l1.length : Int) ≤ many2)) && (!x3))) rfl rfl (vt rfl)) rfl ?_
  refine AOps.nil ?_
  refine AW.ret ?_
  obtain rfl := Option.some.inj h
  exact ret1 Try.results29 rfl (out_tmp rfl)
def F_pl_Groups_1 (g1 : Group) (cp2 : Int) : Option Bool :=
  (F_pl_Buckets g1.Buckets cp2).bind fun x4 => some (!x4)
theorem c_pl_Groups_1 (g1 : Group) (cp2 : Int) (r : Bool) (h : F_pl_Groups_1 g1 cp2 = some r) : PCon Try.prog 28 [rd kGroup g1, rp (kint .i64) cp2] (rd kbool r) := by
  refine PCon.of (Con.intro0 Try.func28 rfl Try.ntmps28 rfl fun w H => ?_)
  unfold F_pl_Groups_1 at h
  refine AW.seq ?_
  refine AW.region ?_
  refine AOps.consT rfl (op_box 3 rfl rfl (vt rfl)) ?_
  rintro _ ⟨g3, rfl⟩
  refine AOps.cons (op_assign (A := rd kbool false) rfl rfl vb) rfl ?_
  refine AOps.nil ?_
  refine AW.seq ?_
  obtain ⟨x4, hx4, h⟩ := bsome h
  refine AW.region ?_
  refine AOps.cons (op_field lGroup_2 rfl rfl fl63_2 (vt rfl)) rfl ?_
  refine AOps.cons (op_load rfl rfl ty61 (vt rfl) (i := 3) rfl) rfl ?_
  refine AOps.cons (op_loadp rfl rfl ty3 (vt rfl)) rfl ?_
  refine AOps.cons (op_call (xs := [.tmp 5, .tmp 6]) (c_pl_Buckets _ _ _ hx4) (Ent.mk Try.func29 rfl rfl) rfl rfl ⟨vt rfl, vt rfl, trivial⟩) rfl ?_
  refine AOps.cons (op_not rfl rfl (vt rfl)) rfl ?_
  refine AOps.cons (op_assign (A := rd kbool (!x4)) rfl rfl (vt rfl)) rfl ?_
  refine AOps.nil ?_
  refine AW.ret ?_
  obtain rfl := Option.some.inj h
  exact ret1 Try.results28 rfl (out_tmp rfl)
def F_slices_IndexFunc_Group_l1 (s1 : (List Group)) (f2 : (Group → Option Bool)) : Nat → Nat → Option Int
  | 0, i3 => some (-1)
  | m4 + 1, i3 => (lget s1 (i3 : Int)).bind fun e5 => (f2 e5).bind fun x6 => (bif x6 then some (i3 : Int) else (F_slices_IndexFunc_Group_l1 s1 f2 m4) (i3 + 1))
def F_slices_IndexFunc_Group (s1 : (List Group)) (f2 : (Group → Option Bool)) : Option Int :=
  F_slices_IndexFunc_Group_l1 s1 f2 ((s1.length : Int) : Int).toNat 0
theorem c_slices_IndexFunc_Group (s1 : (List Group)) (f2 : (Group → Option Bool)) (r : Int) (h : F_slices_IndexFunc_Group s1 f2 = some r) : PCon Try.prog 60 [rd (ksl kGroup) s1, fn1 Try.prog kGroup kbool f2] (rd (kint .i64) r) := by
  refine PCon.of (Con.intro0 Try.func60 rfl Try.ntmps60 rfl fun w H => ?_)
  unfold F_slices_IndexFunc_Group at h
  refine AW.seq ?_
  refine AW.region ?_
  refine AOps.cons (op_assign (A := rd (kint .i64) 0) rfl rfl (vk rfl)) rfl ?_
  refine AOps.nil ?_
  refine AW.seq ?_
  refine AW.seq ?_
  refine AW.region ?_
  refine AOps.cons (op_move (A := rd (ksl kGroup) s1) rfl rfl (vt rfl)) rfl ?_
  refine AOps.cons (op_len' rfl rfl sl22 (vt rfl)) rfl ?_
  refine AOps.cons (op_move (A := rd (kint .i64) 0) rfl rfl (vk rfl)) rfl ?_
  refine AOps.nil ?_
  refine AW.block ?_
  refine AW.loopG (d := []) (ν := Nat × Nat) (fun n => Cnt (s1.length : Int) n.2 n.1 ∧ F_slices_IndexFunc_Group_l1 s1 f2 n.1 n.2 = some r) (fun n => n.1) (fun n => [(0, rd (ksl kGroup) s1), (1, fn1 Try.prog kGroup kbool f2), (7, rd (kint .i64) (s1.length : Int)), (8, rd (kint .i64) (n.2 : Int))]) (fun n => []) (((s1.length : Int) : Int).toNat, 0) ⟨Cnt.start _, h⟩ ⟨rfl, ⟨rfl, rfl, rfl, rfl, trivial⟩, trivial⟩ ?_
  rintro ⟨m4, i3⟩ ⟨hsf1, h⟩
  change Cnt (s1.length : Int) i3 m4 at hsf1
  change F_slices_IndexFunc_Group_l1 s1 f2 m4 i3 = some r at h
  change AW _ _ _ ⟨slots [(0, rd (ksl kGroup) s1), (1, fn1 Try.prog kGroup kbool f2), (7, rd (kint .i64) (s1.length : Int)), (8, rd (kint .i64) (i3 : Int))], ress [], _⟩
  cases m4 with
  | zero =>
    unfold F_slices_IndexFunc_Group_l1 at h
    refine AW.seq ?_
    refine AW.region ?_
    refine AOps.cons (op_lss rfl rfl (vt rfl) (vt rfl)) rfl ?_
    refine AOps.nil ?_
    refine AW.seq ?_
    refine AW.cond (vt rfl) (fun hc => absurd (of_decide_eq_true hc) hsf1.zero) (fun hc => ?_)
    refine AW.exit ?_
    refine AW.seq ?_
    refine AW.region ?_
    refine AOps.cons (op_assign (A := rd (kint .i64) (-1)) rfl rfl (vk rfl)) rfl ?_
    refine AOps.nil ?_
    refine AW.ret ?_
    obtain rfl := Option.some.inj h
    exact ret1 Try.results60 rfl (out_tmp rfl)
  | succ m4 =>
    unfold F_slices_IndexFunc_Group_l1 at h
    generalize hgo1 : F_slices_IndexFunc_Group_l1 s1 f2 m4 = go1 at h
    refine AW.seq ?_
    refine AW.region ?_
    refine AOps.cons (op_lss rfl rfl (vt rfl) (vt rfl)) rfl ?_
    refine AOps.nil ?_
    refine AW.seq ?_
    refine AW.cond (vt rfl) (fun hc => ?_) (fun hc => absurd hsf1.succ (of_decide_eq_false hc))
    have hlti3 := of_decide_eq_true hc
    refine AW.skip ?_
    refine AW.seq ?_
    refine AW.block ?_
    refine AW.seq ?_
    refine AW.region ?_
    refine AOps.cons (op_move (A := rd (kint .i64) (i3 : Int)) rfl rfl (vt rfl)) rfl ?_
    refine AOps.cons (op_assign (A := rd (kint .i64) (i3 : Int)) rfl rfl (vt rfl)) rfl ?_
    refine AOps.nil ?_
    refine AW.seq ?_
    obtain ⟨e5, he5, h⟩ := bsome h
    obtain ⟨x6, hx6, h⟩ := bsome h
    refine AW.region ?_
    refine AOps.cons (op_move (A := fn1 Try.prog kGroup kbool f2) rfl rfl (vt rfl)) rfl ?_
    refine AOps.cons (op_move (A := rd (ksl kGroup) s1) rfl rfl (vt rfl)) rfl ?_
    refine AOps.cons (op_move (A := rd (kint .i64) (i3 : Int)) rfl rfl (vt rfl)) rfl ?_
    refine AOps.cons (op_indexs' rfl rfl sl22 (vt rfl) (vt rfl) he5) rfl ?_
    refine AOps.cons (op_loadp rfl rfl ty63 (vt rfl)) rfl ?_
    refine AOps.cons (op_call1 hx6 rfl rfl (vt rfl) (vt rfl)) rfl ?_
    refine AOps.nil ?_
    refine AW.cond (vt rfl) (fun hc => ?_) (fun hc => ?_)
    · have h := cond_t hc h
      refine AW.seq ?_
      refine AW.region ?_
      refine AOps.cons (op_move (A := rd (kint .i64) (i3 : Int)) rfl rfl (vt rfl)) rfl ?_
      refine AOps.cons (op_assign (A := rd (kint .i64) (i3 : Int)) rfl rfl (vt rfl)) rfl ?_
      refine AOps.nil ?_
      refine AW.ret ?_
      obtain rfl := Option.some.inj h
      exact ret1 Try.results60 rfl (out_tmp rfl)
    · have h := cond_f hc h
      refine AW.skip ?_
      refine AW.region ?_
      refine AOps.cons (op_incr (t := 7) rfl rfl (vt rfl) (vk rfl) (vt rfl) hlti3) rfl ?_
      refine AOps.cons (op_move (A := rd (kint .i64) ((i3 + 1 : Nat) : Int)) rfl rfl (vt rfl)) rfl ?_
      refine AOps.nil ?_
      subst hgo1
      exact ⟨(m4, i3 + 1), Nat.lt_succ_self _, ⟨hsf1.next, h⟩, ⟨rfl, ⟨rfl, rfl, rfl, rfl, trivial⟩, trivial⟩⟩
def F_slices_ContainsFunc_Group (s1 : (List Group)) (f2 : (Group → Option Bool)) : Option Bool :=
  (F_slices_IndexFunc_Group s1 f2).bind fun x3 => some (decide (x3 ≥ 0))
theorem c_slices_ContainsFunc_Group (s1 : (List Group)) (f2 : (Group → Option Bool)) (r : Bool) (h : F_slices_ContainsFunc_Group s1 f2 = some r) : PCon Try.prog 27 [rd (ksl kGroup) s1, fn1 Try.prog kGroup kbool f2] (rd kbool r) := by
  refine PCon.of (Con.intro0 Try.func27 rfl Try.ntmps27 rfl fun w H => ?_)
  unfold F_slices_ContainsFunc_Group at h
  refine AW.seq ?_
  refine AW.region ?_
  refine AOps.cons (op_assign (A := rd kbool false) rfl rfl vb) rfl ?_
  refine AOps.nil ?_
  refine AW.seq ?_
  obtain ⟨x3, hx3, h⟩ := bsome h
  refine AW.region ?_
  refine AOps.cons (op_move (A := rd (ksl kGroup) s1) rfl rfl (vt rfl)) rfl ?_
  refine AOps.cons (op_move (A := fn1 Try.prog kGroup kbool f2) rfl rfl (vt rfl)) rfl ?_
  refine AOps.cons (op_call (xs := [.tmp 5, .tmp 6]) (c_slices_IndexFunc_Group _ _ _ hx3) (Ent.mk Try.func60 rfl rfl) rfl rfl ⟨vt rfl, vt rfl, trivial⟩) rfl ?_
  refine AOps.cons (op_geq rfl rfl (vt rfl) (vk rfl)) rfl ?_
  refine AOps.cons (op_assign (A := rd kbool (decide (x3 ≥ 0))) rfl rfl (vt rfl)) rfl ?_
  refine AOps.nil ?_
  refine AW.ret ?_
  obtain rfl := Option.some.inj h
  exact ret1 Try.results27 rfl (out_tmp rfl)
def F_pl_Groups (l1 : (List Group)) (many2 : Int) (buckets3 : Int) : Option Bool :=
  (opt (decide ((l1.length : Int) ≤ many2)) (F_slices_ContainsFunc_Group l1 (fun x => F_pl_Groups_1 x buckets3))).bind fun x5 => some ((decide ((l1.length : Int) ≤ many2)) && (!x5))
theorem c_pl_Groups (l1 : (List Group)) (many2 : Int) (buckets3 : Int) (r : Bool) (h : F_pl_Groups l1 many2 buckets3 = some r) : PCon Try.prog 6 [rd (ksl kGroup) l1, rd (kint .i64) many2, rd (kint .i64) buckets3] (rd kbool r) := by
  refine PCon.of (Con.intro0 Try.func6 rfl Try.ntmps6 rfl fun w H => ?_)
  unfold F_pl_Groups at h
  refine AW.seq ?_
  refine AW.region ?_
  refine AOps.consT rfl (op_box 6 rfl rfl (vt rfl)) ?_
  rintro _ ⟨g4, rfl⟩
  refine AOps.cons (op_assign (A := rd kbool false) rfl rfl vb) rfl ?_
  refine AOps.nil ?_
  refine AW.seq ?_
  refine AW.freezeB 5 6 rfl rfl rfl ?_
  obtain ⟨x5, hx5, h⟩ := bsome h
  refine AW.region ?_
  refine AOps.cons (op_move (A := rd (ksl kGroup) l1) rfl rfl (vt rfl)) rfl ?_
  refine AOps.cons (op_len' rfl rfl sl22 (vt rfl)) rfl ?_
  refine AOps.cons (op_move (A := rd (kint .i64) many2) rfl rfl (vt rfl)) rfl ?_
  refine AOps.cons (op_leq rfl rfl (vt rfl) (vt rfl)) rfl ?_
  refine AOps.cons (op_move (A := rd kbool (decide ((l1.length : Int) ≤ many2))) rfl rfl (vt rfl)) rfl ?_
  refine AOps.consG (OpG.guard rfl rfl rfl rfl rfl fun hq => op_move (A := rd (ksl kGroup) l1) rfl rfl (vt rfl)) ?_
  refine AOps.consG (OpG.guard rfl rfl rfl rfl rfl fun hq => op_fn1 (cs := [.tmp 5]) (CAs := [rp (kint .i64) buckets3]) (fun x => F_pl_Groups_1 x buckets3) rfl rfl (Ent.mk Try.func28 rfl rfl) ⟨vt rfl, trivial⟩ (fun x y h => c_pl_Groups_1 _ _ y h)) ?_
  refine AOps.consG (OpG.guard rfl rfl rfl rfl rfl fun hq => op_call (xs := [.tmp 12, .tmp 13]) (c_slices_ContainsFunc_Group _ _ _ (opt_t hx5 hq)) (Ent.mk Try.func27 rfl rfl) rfl rfl ⟨vgt rfl hq, vgt rfl hq, trivial⟩) ?_
  refine AOps.consG (OpG.guard rfl rfl rfl rfl rfl fun hq => op_not rfl rfl (vgt rfl hq)) ?_
  refine AOps.cons (op_all rfl rfl (vt rfl) (vt rfl)) rfl ?_
  refine AOps.cons (op_assign (A := rd kbool ((decide ((l1.length : Int) ≤ many2)) && (!x5))) rfl rfl (vt rfl)) rfl ?_
  refine AOps.nil ?_
  refine AW.ret ?_
  obtain rfl := Option.some.inj h
  exact ret1 Try.results6 rfl (out_tmp rfl)
end Go.Proofs.Ytknpgojdkobgjaa.W
set_option linter.unusedVariables false
set_option maxRecDepth 4000
set_option linter.unusedSimpArgs false
namespace Go.Proofs.Ytknpgojdkobgjaa.W
open Go Go.Wb
def F_pl_Atoms (l1 : (List Atom)) : Option Bool :=
  some (decide ((l1.length : Int) ≤ 12))
theorem c_pl_Atoms (l1 : (List Atom)) (r : Bool) (h : F_pl_Atoms l1 = some r) : PCon Try.prog 23 [rd (ksl kAtom) l1] (rd kbool r) := by
  refine PCon.of (Con.intro0 Try.func23 rfl Try.ntmps23 rfl fun w H => ?_)
  unfold F_pl_Atoms at h
  refine AW.seq ?_
  refine AW.region ?_
  refine AOps.cons (op_assign (A := rd kbool false) rfl rfl vb) rfl ?_
  refine AOps.nil ?_
  refine AW.seq ?_
  refine AW.region ?_
  refine AOps.cons (op_move (A := rd (ksl kAtom) l1) rfl rfl (vt rfl)) rfl ?_
  refine AOps.cons (op_len' rfl rfl sl44 (vt rfl)) rfl ?_
  refine AOps.cons (op_leq rfl rfl (vt rfl) (vk rfl)) rfl ?_
  refine AOps.cons (op_assign (A := rd kbool (decide ((l1.length : Int) ≤ 12))) rfl rfl (vt rfl)) rfl ?_
  refine AOps.nil ?_
  refine AW.ret ?_
  obtain rfl := Option.some.inj h
  exact ret1 Try.results23 rfl (out_tmp rfl)
def F_l38_light (l1 : (List Group)) (e2 : Env) (a3 : (List Atom)) : Option Bool :=
  (F_pl_Groups l1 9 3).bind fun x5 => (opt x5 (F_pl_Atoms a3)).bind fun x6 => some ((x5 && x6) && (decide ((e2.Down.length : Int) ≤ 20)))
theorem c_l38_light (l1 : (List Group)) (e2 : Env) (a3 : (List Atom)) (r : Bool) (h : F_l38_light l1 e2 a3 = some r) : PCon Try.prog 16 [rd (ksl kGroup) l1, rd kEnv e2, rd (ksl kAtom) a3] (rd kbool r) := by
  refine PCon.of (Con.intro0 Try.func16 rfl Try.ntmps16 rfl fun w H => ?_)
  unfold F_l38_light at h
  refine AW.seq ?_
  refine AW.region ?_
  refine AOps.consT rfl (op_box 5 rfl rfl (vt rfl)) ?_
  rintro _ ⟨g4, rfl⟩
  refine AOps.cons (op_assign (A := rd kbool false) rfl rfl vb) rfl ?_
  refine AOps.nil ?_
  refine AW.seq ?_
  obtain ⟨x5, hx5, h⟩ := bsome h
  obtain ⟨x6, hx6, h⟩ := bsome h
  refine AW.region ?_
  refine AOps.cons (op_move (A := rd (ksl kGroup) l1) rfl rfl (vt rfl)) rfl ?_
  refine AOps.cons (op_call (xs := [.tmp 7, .const (Value.int IntKind.i64 9), .const (Value.int IntKind.i64 3)]) (c_pl_Groups _ _ _ _ hx5) (Ent.mk Try.func6 rfl rfl) rfl rfl ⟨vt rfl, vk rfl, vk rfl, trivial⟩) rfl ?_
  refine AOps.cons (op_move (A := rd kbool x5) rfl rfl (vt rfl)) rfl ?_
  refine AOps.consG (OpG.guard rfl rfl rfl rfl rfl fun hq => op_move (A := rd (ksl kAtom) a3) rfl rfl (vt rfl)) ?_
  refine AOps.consG (OpG.guard rfl rfl rfl rfl rfl fun hq => op_call (xs := [.tmp 10]) (c_pl_Atoms _ _ (opt_t hx6 hq)) (Ent.mk Try.func23 rfl rfl) rfl rfl ⟨vgt rfl hq, trivial⟩) ?_
  refine AOps.cons (op_all rfl rfl (vt rfl) (vt rfl)) rfl ?_
  refine AOps.cons (op_move (A := rd kbool (x5 && x6)) rfl rfl (vt rfl)) rfl ?_
  refine AOps.consG (OpG.guard rfl rfl rfl rfl rfl fun hq => op_field lEnv_1 rfl rfl fl25_1 (vt rfl)) ?_
  refine AOps.consG (OpG.guard rfl rfl rfl rfl rfl fun hq => op_load rfl rfl ty23 (vgt rfl hq) (i := 5) rfl) ?_
  refine AOps.consG (OpG.guard rfl rfl rfl rfl rfl fun hq => op_len' rfl rfl sl23 (vgt rfl hq)) ?_
  refine AOps.consG (OpG.guard rfl rfl rfl rfl rfl fun hq => op_leq rfl rfl (vgt rfl hq) (vk rfl)) ?_
  refine AOps.cons (op_all rfl rfl (vt rfl) (vt rfl)) rfl ?_
  refine AOps.cons (op_assign (A := rd kbool ((x5 && x6) && (decide ((e2.Down.length : Int) ≤ 20)))) rfl rfl (vt rfl)) rfl ?_
  refine AOps.nil ?_
  refine AW.ret ?_
  obtain rfl := Option.some.inj h
  exact ret1 Try.results16 rfl (out_tmp rfl)
def F_group_place_1 (g1 : Group) (cp2 : Int) : Option Bool :=
  some (decide (g1.ID = cp2))
theorem c_group_place_1 (g1 : Group) (cp2 : Int) (r : Bool) (h : F_group_place_1 g1 cp2 = some r) : PCon Try.prog 128 [rd kGroup g1, rp (kint .i64) cp2] (rd kbool r) := by
  refine PCon.of (Con.intro0 Try.func128 rfl Try.ntmps128 rfl fun w H => ?_)
  unfold F_group_place_1 at h
  refine AW.seq ?_
  refine AW.region ?_
  refine AOps.consT rfl (op_box 3 rfl rfl (vt rfl)) ?_
  rintro _ ⟨g3, rfl⟩
  refine AOps.cons (op_assign (A := rd kbool false) rfl rfl vb) rfl ?_
  refine AOps.nil ?_
  refine AW.seq ?_
  refine AW.region ?_
  refine AOps.cons (op_field lGroup_0 rfl rfl fl63_0 (vt rfl)) rfl ?_
  refine AOps.cons (op_load rfl rfl ty3 (vt rfl) (i := 3) rfl) rfl ?_
  refine AOps.cons (op_loadp rfl rfl ty3 (vt rfl)) rfl ?_
  refine AOps.cons (op_eql rfl rfl (vt rfl) (vt rfl)) rfl ?_
  refine AOps.cons (op_assign (A := rd kbool (decide (g1.ID = cp2))) rfl rfl (vt rfl)) rfl ?_
  refine AOps.nil ?_
  refine AW.ret ?_
  obtain rfl := Option.some.inj h
  exact ret1 Try.results128 rfl (out_tmp rfl)
def F_group_place (l1 : (List Group)) (id2 : Int) : Option Int :=
  (F_slices_IndexFunc_Group l1 (fun x => F_group_place_1 x id2)).bind fun x4 => some x4
theorem c_group_place (l1 : (List Group)) (id2 : Int) (r : Int) (h : F_group_place l1 id2 = some r) : PCon Try.prog 103 [rd (ksl kGroup) l1, rd (kint .i64) id2] (rd (kint .i64) r) := by
  refine PCon.of (Con.intro0 Try.func103 rfl Try.ntmps103 rfl fun w H => ?_)
  unfold F_group_place at h
  refine AW.seq ?_
  refine AW.region ?_
  refine AOps.consT rfl (op_box 4 rfl rfl (vt rfl)) ?_
  rintro _ ⟨g3, rfl⟩
  refine AOps.cons (op_assign (A := rd (kint .i64) 0) rfl rfl (vk rfl)) rfl ?_
  refine AOps.nil ?_
  refine AW.seq ?_
  refine AW.freezeB 3 4 rfl rfl rfl ?_
  obtain ⟨x4, hx4, h⟩ := bsome h
  refine AW.region ?_
  refine AOps.cons (op_move (A := rd (ksl kGroup) l1) rfl rfl (vt rfl)) rfl ?_
  refine AOps.cons (op_fn1 (cs := [.tmp 3]) (CAs := [rp (kint .i64) id2]) (fun x => F_group_place_1 x id2) rfl rfl (Ent.mk Try.func128 rfl rfl) ⟨vt rfl, trivial⟩ (fun x y h => c_group_place_1 _ _ y h)) rfl ?_
  refine AOps.cons (op_call (xs := [.tmp 5, .tmp 6]) (c_slices_IndexFunc_Group _ _ _ hx4) (Ent.mk Try.func60 rfl rfl) rfl rfl ⟨vt rfl, vt rfl, trivial⟩) rfl ?_
  refine AOps.cons (op_assign (A := rd (kint .i64) x4) rfl rfl (vt rfl)) rfl ?_
  refine AOps.nil ?_
  refine AW.ret ?_
  obtain rfl := Option.some.inj h
  exact ret1 Try.results103 rfl (out_tmp rfl)
def F_slices_Clone_Group (s : List Group) : Option (List Group) := appd [] s
theorem c_slices_Clone_Group_o (s : List Group) (r : List Group) (h : F_slices_Clone_Group s = some r) : Con Try.prog 99 [rd (ksl kGroup) s] emp (fun v => raw v) (fun v => Row v 63 kGroup r) := by
  refine Con.intro0 Try.func99 rfl Try.ntmps99 rfl fun w H => ?_
  unfold F_slices_Clone_Group at h
  refine AW.newnil 1001 63 kGroup ?_
  refine AW.seq ?_
  refine AW.region ?_
  refine AOps.cons (op_assign (A := raw (.slice none 0 0)) rfl rfl vc) rfl ?_
  refine AOps.nil ?_
  refine AW.seq ?_
  refine AW.seq ?_
  refine AW.region ?_
  refine AOps.cons (op_move (A := rd (ksl kGroup) s) rfl rfl (vt rfl)) rfl ?_
  refine AOps.consT rfl (op_eqnil rfl rfl sl22 (vt rfl)) ?_
  rintro _ ⟨b, hb, rfl⟩
  refine AOps.nil ?_
  refine AW.cond (vt rfl) (fun hc => ?_) (fun hc => ?_)
  · obtain rfl := hb hc
    refine AW.seq ?_
    refine AW.region ?_
    refine AOps.cons (op_assign (A := raw (.slice none 0 0)) rfl rfl vc) rfl ?_
    refine AOps.nil ?_
    refine AW.ret ?_
    obtain rfl := (appd_of h).2
    exact ret1R (i := 1001) Try.results99 rfl rfl rfl
  · refine AW.skip ?_
    refine AW.seq ?_
    refine AW.region ?_
    refine AOps.consT rfl (op_buildSlice 1002 (ps := []) (l := []) rfl rfl sl22 zr63 rfl rfl rfl rfl) ?_
    rintro _ ⟨v1, rfl⟩
    refine AOps.cons (op_move (A := rd (ksl kGroup) s) rfl rfl (vt rfl)) rfl ?_
    refine AOps.consT rfl (op_append' 1002 h rfl rfl el22 (vt rfl) rfl (vt rfl)) ?_
    rintro _ ⟨v2, rfl⟩
    refine AOps.cons (op_assign (A := raw v2) rfl rfl (vt rfl)) rfl ?_
    refine AOps.nil ?_
    refine AW.ret ?_
    exact ret1R (i := 1002) Try.results99 rfl rfl rfl
theorem c_slices_Clone_Group (s : List Group) (r : List Group) (h : F_slices_Clone_Group s = some r) : PCon Try.prog 99 [rd (ksl kGroup) s] (rd (ksl kGroup) r) := PCon.of_row (c_slices_Clone_Group_o s r h)
def F_slices_Clone_Bucket (s : List Bucket) : Option (List Bucket) := appd [] s
theorem c_slices_Clone_Bucket_o (s : List Bucket) (r : List Bucket) (h : F_slices_Clone_Bucket s = some r) : Con Try.prog 138 [rd (ksl kBucket) s] emp (fun v => raw v) (fun v => Row v 68 kBucket r) := by
  refine Con.intro0 Try.func138 rfl Try.ntmps138 rfl fun w H => ?_
  unfold F_slices_Clone_Bucket at h
  refine AW.newnil 1001 68 kBucket ?_
  refine AW.seq ?_
  refine AW.region ?_
  refine AOps.cons (op_assign (A := raw (.slice none 0 0)) rfl rfl vc) rfl ?_
  refine AOps.nil ?_
  refine AW.seq ?_
  refine AW.seq ?_
  refine AW.region ?_
  refine AOps.cons (op_move (A := rd (ksl kBucket) s) rfl rfl (vt rfl)) rfl ?_
  refine AOps.consT rfl (op_eqnil rfl rfl sl61 (vt rfl)) ?_
  rintro _ ⟨b, hb, rfl⟩
  refine AOps.nil ?_
  refine AW.cond (vt rfl) (fun hc => ?_) (fun hc => ?_)
  · obtain rfl := hb hc
    refine AW.seq ?_
    refine AW.region ?_
    refine AOps.cons (op_assign (A := raw (.slice none 0 0)) rfl rfl vc) rfl ?_
    refine AOps.nil ?_
    refine AW.ret ?_
    obtain rfl := (appd_of h).2
    exact ret1R (i := 1001) Try.results138 rfl rfl rfl
  · refine AW.skip ?_
    refine AW.seq ?_
    refine AW.region ?_
    refine AOps.consT rfl (op_buildSlice 1002 (ps := []) (l := []) rfl rfl sl61 zr68 rfl rfl rfl rfl) ?_
    rintro _ ⟨v1, rfl⟩
    refine AOps.cons (op_move (A := rd (ksl kBucket) s) rfl rfl (vt rfl)) rfl ?_
    refine AOps.consT rfl (op_append' 1002 h rfl rfl el61 (vt rfl) rfl (vt rfl)) ?_
    rintro _ ⟨v2, rfl⟩
    refine AOps.cons (op_assign (A := raw v2) rfl rfl (vt rfl)) rfl ?_
    refine AOps.nil ?_
    refine AW.ret ?_
    exact ret1R (i := 1002) Try.results138 rfl rfl rfl
theorem c_slices_Clone_Bucket (s : List Bucket) (r : List Bucket) (h : F_slices_Clone_Bucket s = some r) : PCon Try.prog 138 [rd (ksl kBucket) s] (rd (ksl kBucket) r) := PCon.of_row (c_slices_Clone_Bucket_o s r h)
def F_slices_Clone_Action (s : List Action) : Option (List Action) := appd [] s
theorem c_slices_Clone_Action_o (s : List Action) (r : List Action) (h : F_slices_Clone_Action s = some r) : Con Try.prog 111 [rd (ksl kAction) s] emp (fun v => raw v) (fun v => Row v 95 kAction r) := by
  refine Con.intro0 Try.func111 rfl Try.ntmps111 rfl fun w H => ?_
  unfold F_slices_Clone_Action at h
  refine AW.newnil 1001 95 kAction ?_
  refine AW.seq ?_
  refine AW.region ?_
  refine AOps.cons (op_assign (A := raw (.slice none 0 0)) rfl rfl vc) rfl ?_
  refine AOps.nil ?_
  refine AW.seq ?_
  refine AW.seq ?_
  refine AW.region ?_
  refine AOps.cons (op_move (A := rd (ksl kAction) s) rfl rfl (vt rfl)) rfl ?_
  refine AOps.consT rfl (op_eqnil rfl rfl sl66 (vt rfl)) ?_
  rintro _ ⟨b, hb, rfl⟩
  refine AOps.nil ?_
  refine AW.cond (vt rfl) (fun hc => ?_) (fun hc => ?_)
  · obtain rfl := hb hc
    refine AW.seq ?_
    refine AW.region ?_
    refine AOps.cons (op_assign (A := raw (.slice none 0 0)) rfl rfl vc) rfl ?_
    refine AOps.nil ?_
    refine AW.ret ?_
    obtain rfl := (appd_of h).2
    exact ret1R (i := 1001) Try.results111 rfl rfl rfl
  · refine AW.skip ?_
    refine AW.seq ?_
    refine AW.region ?_
    refine AOps.consT rfl (op_buildSlice 1002 (ps := []) (l := []) rfl rfl sl66 zr95 rfl rfl rfl rfl) ?_
    rintro _ ⟨v1, rfl⟩
    refine AOps.cons (op_move (A := rd (ksl kAction) s) rfl rfl (vt rfl)) rfl ?_
    refine AOps.consT rfl (op_append' 1002 h rfl rfl el66 (vt rfl) rfl (vt rfl)) ?_
    rintro _ ⟨v2, rfl⟩
    refine AOps.cons (op_assign (A := raw v2) rfl rfl (vt rfl)) rfl ?_
    refine AOps.nil ?_
    refine AW.ret ?_
    exact ret1R (i := 1002) Try.results111 rfl rfl rfl
theorem c_slices_Clone_Action (s : List Action) (r : List Action) (h : F_slices_Clone_Action s = some r) : PCon Try.prog 111 [rd (ksl kAction) s] (rd (ksl kAction) r) := PCon.of_row (c_slices_Clone_Action_o s r h)
def F_group_copies_l1 : Nat → Nat → (List Bucket) → Option (List Bucket)
  | 0, i6, l5 => some l5
  | m7 + 1, i6, l5 => (lget l5 (i6 : Int)).bind fun e8 => (F_slices_Clone_Action e8.Acts).bind fun x9 => (lget l5 (i6 : Int)).bind fun e10 => (F_group_copies_l1 m7) (i6 + 1) (List.set l5 (i6 : Int).toNat { e10 with Acts := x9 })
def F_group_copies (l1 : (List Bucket)) : Option (List Bucket) :=
  (F_slices_Clone_Bucket l1).bind fun x2 => F_group_copies_l1 ((x2.length : Int) : Int).toNat 0 x2
theorem c_group_copies (l1 : (List Bucket)) (r : (List Bucket)) (h : F_group_copies l1 = some r) : PCon Try.prog 129 [rd (ksl kBucket) l1] (rd (ksl kBucket) r) := by
  refine PCon.of (Con.intro0 Try.func129 rfl Try.ntmps129 rfl fun w H => ?_)
  unfold F_group_copies at h
  refine AW.seq ?_
  refine AW.region ?_
  refine AOps.cons (op_assign (A := rd (ksl kBucket) []) rfl rfl vnil) rfl ?_
  refine AOps.nil ?_
  refine AW.seq ?_
  obtain ⟨x2, hx2, h⟩ := bsome h
  refine AW.region ?_
  refine AOps.cons (op_move (A := rd (ksl kBucket) l1) rfl rfl (vt rfl)) rfl ?_
  refine AOps.consT rfl (op_callR 1001 (xs := [.tmp 5]) (c_slices_Clone_Bucket_o _ _ hx2) (Ent.mk Try.func138 rfl rfl) rfl rfl ⟨vt rfl, trivial⟩ rfl) ?_
  rintro _ ⟨v3, rfl⟩
  refine AOps.cons (op_assign (A := raw v3) rfl rfl (vt rfl)) rfl ?_
  refine AOps.nil ?_
  refine AW.seq ?_
  refine AW.seq ?_
  refine AW.region ?_
  refine AOps.cons (op_move (A := raw v3) rfl rfl (vt rfl)) rfl ?_
  refine AOps.cons (op_leno 1001 rfl rfl sl61 (vt rfl) rfl) rfl ?_
  refine AOps.cons (op_move (A := rd (kint .i64) 0) rfl rfl (vk rfl)) rfl ?_
  refine AOps.nil ?_
  refine AW.block ?_
  refine AW.loopG (d := []) (ν := Nat × Nat × (List Bucket)) (fun n => Cnt (x2.length : Int) n.2.1 n.1 ∧ F_group_copies_l1 n.1 n.2.1 n.2.2 = some r) (fun n => n.1) (fun n => [(3, raw v3), (8, rd (kint .i64) (x2.length : Int)), (9, rd (kint .i64) (n.2.1 : Int))]) (fun n => [(1001, Row v3 68 kBucket n.2.2)]) (((x2.length : Int) : Int).toNat, 0, x2) ⟨Cnt.start _, h⟩ ⟨rfl, ⟨rfl, rfl, rfl, trivial⟩, ⟨rfl, trivial⟩⟩ ?_
  rintro ⟨m7, i6, l5⟩ ⟨hsf1, h⟩
  change Cnt (x2.length : Int) i6 m7 at hsf1
  change F_group_copies_l1 m7 i6 l5 = some r at h
  change AW _ _ _ ⟨slots [(3, raw v3), (8, rd (kint .i64) (x2.length : Int)), (9, rd (kint .i64) (i6 : Int))], ress [(1001, Row v3 68 kBucket l5)], _⟩
  cases m7 with
  | zero =>
    unfold F_group_copies_l1 at h
    refine AW.seq ?_
    refine AW.region ?_
    refine AOps.cons (op_lss rfl rfl (vt rfl) (vt rfl)) rfl ?_
    refine AOps.nil ?_
    refine AW.seq ?_
    refine AW.cond (vt rfl) (fun hc => absurd (of_decide_eq_true hc) hsf1.zero) (fun hc => ?_)
    refine AW.exit ?_
    refine AW.seq ?_
    refine AW.region ?_
    refine AOps.cons (op_move (A := raw v3) rfl rfl (vt rfl)) rfl ?_
    refine AOps.cons (op_assign (A := raw v3) rfl rfl (vt rfl)) rfl ?_
    refine AOps.nil ?_
    refine AW.freezes [2, 3, 23] 1001 rfl ⟨rfl, rfl, rfl, trivial⟩ rfl ?_
    refine AW.ret ?_
    obtain rfl := Option.some.inj h
    exact ret1 Try.results129 rfl (out_tmp rfl)
  | succ m7 =>
    unfold F_group_copies_l1 at h
    generalize hgo1 : F_group_copies_l1 m7 = go1 at h
    refine AW.seq ?_
    refine AW.region ?_
    refine AOps.cons (op_lss rfl rfl (vt rfl) (vt rfl)) rfl ?_
    refine AOps.nil ?_
    refine AW.seq ?_
    refine AW.cond (vt rfl) (fun hc => ?_) (fun hc => absurd hsf1.succ (of_decide_eq_false hc))
    have hlti6 := of_decide_eq_true hc
    refine AW.skip ?_
    refine AW.seq ?_
    refine AW.block ?_
    refine AW.seq ?_
    refine AW.region ?_
    refine AOps.cons (op_move (A := rd (kint .i64) (i6 : Int)) rfl rfl (vt rfl)) rfl ?_
    refine AOps.cons (op_assign (A := rd (kint .i64) (i6 : Int)) rfl rfl (vt rfl)) rfl ?_
    refine AOps.nil ?_
    obtain ⟨e8, he8, h⟩ := bsome h
    obtain ⟨x9, hx9, h⟩ := bsome h
    obtain ⟨e10, he10, h⟩ := bsome h
    refine AW.region ?_
    refine AOps.cons (op_move (A := raw v3) rfl rfl (vt rfl)) rfl ?_
    refine AOps.cons (op_move (A := rd (kint .i64) (i6 : Int)) rfl rfl (vt rfl)) rfl ?_
    refine AOps.cons (op_move (A := raw v3) rfl rfl (vt rfl)) rfl ?_
    refine AOps.cons (op_move (A := rd (kint .i64) (i6 : Int)) rfl rfl (vt rfl)) rfl ?_
    refine AOps.cons (op_indexo' 1001 rfl rfl sl61 (vt rfl) rfl (vt rfl) he8) rfl ?_
    refine AOps.cons (op_fieldo lBucket_3 rfl rfl fl68_3 (vt rfl)) rfl ?_
    refine AOps.cons (op_loado' 1001 rfl rfl ty66 (vt rfl) rfl (lget_of he8).2) rfl ?_
    refine AOps.cons (op_call (xs := [.tmp 18]) (c_slices_Clone_Action _ _ hx9) (Ent.mk Try.func111 rfl rfl) rfl rfl ⟨vt rfl, trivial⟩) rfl ?_
    refine AOps.cons (op_indexo' 1001 rfl rfl sl61 (vt rfl) rfl (vt rfl) he10) rfl ?_
    refine AOps.cons (op_fieldo lBucket_3 rfl rfl fl68_3 (vt rfl)) rfl ?_
    refine AOps.cons (op_storeo' 1001 rfl rfl ty66 (vt rfl) rfl (lget_of he10).2 (vt rfl)) rfl ?_
    refine AOps.nil ?_
    refine AW.region ?_
    refine AOps.cons (op_incr (t := 8) rfl rfl (vt rfl) (vk rfl) (vt rfl) hlti6) rfl ?_
    refine AOps.cons (op_move (A := rd (kint .i64) ((i6 + 1 : Nat) : Int)) rfl rfl (vt rfl)) rfl ?_
    refine AOps.nil ?_
    subst hgo1
    exact ⟨(m7, i6 + 1, (List.set l5 (i6 : Int).toNat { e10 with Acts := x9 })), Nat.lt_succ_self _, ⟨hsf1.next, h⟩, ⟨rfl, ⟨rfl, rfl, rfl, trivial⟩, ⟨rfl, trivial⟩⟩⟩
def F_group_fresh_l1 : Nat → Nat → (List Group) → Option (List Group)
  | 0, i6, l5 => some l5
  | m7 + 1, i6, l5 => (lget l5 (i6 : Int)).bind fun e8 => (F_group_copies e8.Buckets).bind fun x9 => (lget l5 (i6 : Int)).bind fun e10 => (F_group_fresh_l1 m7) (i6 + 1) (List.set l5 (i6 : Int).toNat { e10 with Buckets := x9 })
def F_group_fresh (l1 : (List Group)) : Option (List Group) :=
  (F_slices_Clone_Group l1).bind fun x2 => F_group_fresh_l1 ((x2.length : Int) : Int).toNat 0 x2
theorem c_group_fresh (l1 : (List Group)) (r : (List Group)) (h : F_group_fresh l1 = some r) : PCon Try.prog 104 [rd (ksl kGroup) l1] (rd (ksl kGroup) r) := by
  refine PCon.of (Con.intro0 Try.func104 rfl Try.ntmps104 rfl fun w H => ?_)
  unfold F_group_fresh at h
  refine AW.seq ?_
  refine AW.region ?_
  refine AOps.cons (op_assign (A := rd (ksl kGroup) []) rfl rfl vnil) rfl ?_
  refine AOps.nil ?_
  refine AW.seq ?_
  obtain ⟨x2, hx2, h⟩ := bsome h
  refine AW.region ?_
  refine AOps.cons (op_move (A := rd (ksl kGroup) l1) rfl rfl (vt rfl)) rfl ?_
  refine AOps.consT rfl (op_callR 1001 (xs := [.tmp 5]) (c_slices_Clone_Group_o _ _ hx2) (Ent.mk Try.func99 rfl rfl) rfl rfl ⟨vt rfl, trivial⟩ rfl) ?_
  rintro _ ⟨v3, rfl⟩
  refine AOps.cons (op_assign (A := raw v3) rfl rfl (vt rfl)) rfl ?_
  refine AOps.nil ?_
  refine AW.seq ?_
  refine AW.seq ?_
  refine AW.region ?_
  refine AOps.cons (op_move (A := raw v3) rfl rfl (vt rfl)) rfl ?_
  refine AOps.cons (op_leno 1001 rfl rfl sl22 (vt rfl) rfl) rfl ?_
  refine AOps.cons (op_move (A := rd (kint .i64) 0) rfl rfl (vk rfl)) rfl ?_
  refine AOps.nil ?_
  refine AW.block ?_
  refine AW.loopG (d := []) (ν := Nat × Nat × (List Group)) (fun n => Cnt (x2.length : Int) n.2.1 n.1 ∧ F_group_fresh_l1 n.1 n.2.1 n.2.2 = some r) (fun n => n.1) (fun n => [(3, raw v3), (8, rd (kint .i64) (x2.length : Int)), (9, rd (kint .i64) (n.2.1 : Int))]) (fun n => [(1001, Row v3 63 kGroup n.2.2)]) (((x2.length : Int) : Int).toNat, 0, x2) ⟨Cnt.start _, h⟩ ⟨rfl, ⟨rfl, rfl, rfl, trivial⟩, ⟨rfl, trivial⟩⟩ ?_
  rintro ⟨m7, i6, l5⟩ ⟨hsf1, h⟩
  change Cnt (x2.length : Int) i6 m7 at hsf1
  change F_group_fresh_l1 m7 i6 l5 = some r at h
  change AW _ _ _ ⟨slots [(3, raw v3), (8, rd (kint .i64) (x2.length : Int)), (9, rd (kint .i64) (i6 : Int))], ress [(1001, Row v3 63 kGroup l5)], _⟩
  cases m7 with
  | zero =>
    unfold F_group_fresh_l1 at h
    refine AW.seq ?_
    refine AW.region ?_
    refine AOps.cons (op_lss rfl rfl (vt rfl) (vt rfl)) rfl ?_
    refine AOps.nil ?_
    refine AW.seq ?_
    refine AW.cond (vt rfl) (fun hc => absurd (of_decide_eq_true hc) hsf1.zero) (fun hc => ?_)
    refine AW.exit ?_
    refine AW.seq ?_
    refine AW.region ?_
    refine AOps.cons (op_move (A := raw v3) rfl rfl (vt rfl)) rfl ?_
    refine AOps.cons (op_assign (A := raw v3) rfl rfl (vt rfl)) rfl ?_
    refine AOps.nil ?_
    refine AW.freezes [2, 3, 23] 1001 rfl ⟨rfl, rfl, rfl, trivial⟩ rfl ?_
    refine AW.ret ?_
    obtain rfl := Option.some.inj h
    exact ret1 Try.results104 rfl (out_tmp rfl)
  | succ m7 =>
    unfold F_group_fresh_l1 at h
    generalize hgo1 : F_group_fresh_l1 m7 = go1 at h
    refine AW.seq ?_
    refine AW.region ?_
    refine AOps.cons (op_lss rfl rfl (vt rfl) (vt rfl)) rfl ?_
    refine AOps.nil ?_
    refine AW.seq ?_
    refine AW.cond (vt rfl) (fun hc => ?_) (fun hc => absurd hsf1.succ (of_decide_eq_false hc))
    have hlti6 := of_decide_eq_true hc
    refine AW.skip ?_
    refine AW.seq ?_
    refine AW.block ?_
    refine AW.seq ?_
    refine AW.region ?_
    refine AOps.cons (op_move (A := rd (kint .i64) (i6 : Int)) rfl rfl (vt rfl)) rfl ?_
    refine AOps.cons (op_assign (A := rd (kint .i64) (i6 : Int)) rfl rfl (vt rfl)) rfl ?_
    refine AOps.nil ?_
    obtain ⟨e8, he8, h⟩ := bsome h
    obtain ⟨x9, hx9, h⟩ := bsome h
    obtain ⟨e10, he10, h⟩ := bsome h
    refine AW.region ?_
    refine AOps.cons (op_move (A := raw v3) rfl rfl (vt rfl)) rfl ?_
    refine AOps.cons (op_move (A := rd (kint .i64) (i6 : Int)) rfl rfl (vt rfl)) rfl ?_
    refine AOps.cons (op_move (A := raw v3) rfl rfl (vt rfl)) rfl ?_
    refine AOps.cons (op_move (A := rd (kint .i64) (i6 : Int)) rfl rfl (vt rfl)) rfl ?_
    refine AOps.cons (op_indexo' 1001 rfl rfl sl22 (vt rfl) rfl (vt rfl) he8) rfl ?_
    refine AOps.cons (op_fieldo lGroup_2 rfl rfl fl63_2 (vt rfl)) rfl ?_
    refine AOps.cons (op_loado' 1001 rfl rfl ty61 (vt rfl) rfl (lget_of he8).2) rfl ?_
    refine AOps.cons (op_call (xs := [.tmp 18]) (c_group_copies _ _ hx9) (Ent.mk Try.func129 rfl rfl) rfl rfl ⟨vt rfl, trivial⟩) rfl ?_
    refine AOps.cons (op_indexo' 1001 rfl rfl sl22 (vt rfl) rfl (vt rfl) he10) rfl ?_
    refine AOps.cons (op_fieldo lGroup_2 rfl rfl fl63_2 (vt rfl)) rfl ?_
    refine AOps.cons (op_storeo' 1001 rfl rfl ty61 (vt rfl) rfl (lget_of he10).2 (vt rfl)) rfl ?_
    refine AOps.nil ?_
    refine AW.region ?_
    refine AOps.cons (op_incr (t := 8) rfl rfl (vt rfl) (vk rfl) (vt rfl) hlti6) rfl ?_
    refine AOps.cons (op_move (A := rd (kint .i64) ((i6 + 1 : Nat) : Int)) rfl rfl (vt rfl)) rfl ?_
    refine AOps.nil ?_
    subst hgo1
    exact ⟨(m7, i6 + 1, (List.set l5 (i6 : Int).toNat { e10 with Buckets := x9 })), Nat.lt_succ_self _, ⟨hsf1.next, h⟩, ⟨rfl, ⟨rfl, rfl, rfl, trivial⟩, ⟨rfl, trivial⟩⟩⟩
end Go.Proofs.Ytknpgojdkobgjaa.W
set_option linter.unusedVariables false
set_option maxRecDepth 4000
set_option linter.unusedSimpArgs false
namespace Go.Proofs.Ytknpgojdkobgjaa.W
open Go Go.Wb
def F_group_Find (l1 : (List Group)) (id2 : Int) : Option (Group × Bool) :=
  (F_group_place l1 id2).bind fun x4 => (bif (decide (x4 < 0)) then some ((⟨0, 0, []⟩ : Group), false) else (oslice l1 x4 (IntKind.i64.wrap (x4 + 1))).bind fun s5 => (F_group_fresh s5).bind fun x6 => (lget x6 0).bind fun e7 => some (e7, true))
theorem c_group_Find (l1 : (List Group)) (id2 : Int) (r : (Group × Bool)) (h : F_group_Find l1 id2 = some r) : PCon Try.prog 75 [rd (ksl kGroup) l1, rd (kint .i64) id2] (tup2 (rd kGroup r.1) (rd kbool r.2)) := by
  refine PCon.of (Con.intro0 Try.func75 rfl Try.ntmps75 rfl fun w H => ?_)
  unfold F_group_Find at h
  refine AW.seq ?_
  refine AW.region ?_
  refine AOps.consT rfl (op_alloc 5 rfl rfl zr63) ?_
  rintro _ ⟨g3, rfl⟩
  refine AOps.cons (op_assign (A := rd kbool false) rfl rfl vb) rfl ?_
  refine AOps.nil ?_
  refine AW.seq ?_
  obtain ⟨x4, hx4, h⟩ := bsome h
  refine AW.region ?_
  refine AOps.cons (op_move (A := rd (ksl kGroup) l1) rfl rfl (vt rfl)) rfl ?_
  refine AOps.cons (op_move (A := rd (kint .i64) id2) rfl rfl (vt rfl)) rfl ?_
  refine AOps.cons (op_call (xs := [.tmp 7, .tmp 8]) (c_group_place _ _ _ hx4) (Ent.mk Try.func103 rfl rfl) rfl rfl ⟨vt rfl, vt rfl, trivial⟩) rfl ?_
  refine AOps.cons (op_assign (A := rd (kint .i64) x4) rfl rfl (vt rfl)) rfl ?_
  refine AOps.nil ?_
  refine AW.seq ?_
  refine AW.seq ?_
  refine AW.region ?_
  refine AOps.cons (op_move (A := rd (kint .i64) x4) rfl rfl (vt rfl)) rfl ?_
  refine AOps.cons (op_lss rfl rfl (vt rfl) (vk rfl)) rfl ?_
  refine AOps.nil ?_
  refine AW.cond (vt rfl) (fun hc => ?_) (fun hc => ?_)
  · have h := cond_t hc h
    refine AW.seq ?_
    refine AW.region ?_
    refine AOps.cons (op_build (ps := []) (x := (⟨0, 0, []⟩ : Group)) rfl rfl rfl (by kernel_rfl) zr63 rfl) rfl ?_
    refine AOps.cons (op_store rfl rfl ty63 (vt rfl) (i := 5) rfl (vt rfl)) rfl ?_
    refine AOps.cons (op_assign (A := rd kbool false) rfl rfl vb) rfl ?_
    refine AOps.nil ?_
    refine AW.ret ?_
    obtain rfl := Option.some.inj h
    exact ret2 Try.results75 rfl (out_cell rfl (i := 5) rfl ty63) (out_tmp rfl)
  · have h := cond_f hc h
    refine AW.skip ?_
    refine AW.seq ?_
    obtain ⟨s5, hs5, h⟩ := bsome h
    obtain ⟨x6, hx6, h⟩ := bsome h
    obtain ⟨e7, he7, h⟩ := bsome h
    refine AW.region ?_
    refine AOps.cons (op_move (A := rd (ksl kGroup) l1) rfl rfl (vt rfl)) rfl ?_
    refine AOps.cons (op_move (A := rd (kint .i64) x4) rfl rfl (vt rfl)) rfl ?_
    refine AOps.cons (op_move (A := rd (kint .i64) x4) rfl rfl (vt rfl)) rfl ?_
    refine AOps.cons (op_add rfl rfl (vt rfl) (vk rfl)) rfl ?_
    refine AOps.cons (op_slice_lh' hs5 rfl rfl sl22 (vt rfl) (vt rfl) (vt rfl)) rfl ?_
    refine AOps.cons (op_call (xs := [.tmp 17]) (c_group_fresh _ _ hx6) (Ent.mk Try.func104 rfl rfl) rfl rfl ⟨vt rfl, trivial⟩) rfl ?_
    refine AOps.cons (op_indexs' rfl rfl sl22 (vt rfl) (vk rfl) he7) rfl ?_
    refine AOps.cons (op_loadp rfl rfl ty63 (vt rfl)) rfl ?_
    refine AOps.cons (op_store rfl rfl ty63 (vt rfl) (i := 5) rfl (vt rfl)) rfl ?_
    refine AOps.cons (op_assign (A := rd kbool true) rfl rfl vb) rfl ?_
    refine AOps.nil ?_
    refine AW.ret ?_
    obtain rfl := Option.some.inj h
    exact ret2 Try.results75 rfl (out_cell rfl (i := 5) rfl ty63) (out_tmp rfl)
def F_env_Which (e1 : Env) (n2 : Int) : Option Int :=
  (bif (decide (n2 < 1)) then some 0 else (omod e1.Turn n2).bind fun q4 => (bif (decide (q4 < 0)) then some (IntKind.i64.wrap (q4 + n2)) else some q4))
theorem c_env_Which (e1 : Env) (n2 : Int) (r : Int) (h : F_env_Which e1 n2 = some r) : PCon Try.prog 37 [rd kEnv e1, rd (kint .i64) n2] (rd (kint .i64) r) := by
  refine PCon.of (Con.intro0 Try.func37 rfl Try.ntmps37 rfl fun w H => ?_)
  unfold F_env_Which at h
  refine AW.seq ?_
  refine AW.region ?_
  refine AOps.consT rfl (op_box 3 rfl rfl (vt rfl)) ?_
  rintro _ ⟨g3, rfl⟩
  refine AOps.cons (op_assign (A := rd (kint .i64) 0) rfl rfl (vk rfl)) rfl ?_
  refine AOps.nil ?_
  refine AW.seq ?_
  refine AW.seq ?_
  refine AW.region ?_
  refine AOps.cons (op_move (A := rd (kint .i64) n2) rfl rfl (vt rfl)) rfl ?_
  refine AOps.cons (op_lss rfl rfl (vt rfl) (vk rfl)) rfl ?_
  refine AOps.nil ?_
  refine AW.cond (vt rfl) (fun hc => ?_) (fun hc => ?_)
  · have h := cond_t hc h
    refine AW.seq ?_
    refine AW.region ?_
    refine AOps.cons (op_assign (A := rd (kint .i64) 0) rfl rfl (vk rfl)) rfl ?_
    refine AOps.nil ?_
    refine AW.ret ?_
    obtain rfl := Option.some.inj h
    exact ret1 Try.results37 rfl (out_tmp rfl)
  · have h := cond_f hc h
    refine AW.skip ?_
    refine AW.seq ?_
    obtain ⟨q4, hq4, h⟩ := bsome h
    refine AW.region ?_
    refine AOps.cons (op_field lEnv_0 rfl rfl fl25_0 (vt rfl)) rfl ?_
    refine AOps.cons (op_load rfl rfl ty3 (vt rfl) (i := 3) rfl) rfl ?_
    refine AOps.cons (op_move (A := rd (kint .i64) n2) rfl rfl (vt rfl)) rfl ?_
    refine AOps.cons (op_rem rfl rfl (vt rfl) (vt rfl) hq4) rfl ?_
    refine AOps.cons (op_assign (A := rd (kint .i64) q4) rfl rfl (vt rfl)) rfl ?_
    refine AOps.nil ?_
    refine AW.seq ?_
    refine AW.seq ?_
    refine AW.region ?_
    refine AOps.cons (op_move (A := rd (kint .i64) q4) rfl rfl (vt rfl)) rfl ?_
    refine AOps.cons (op_lss rfl rfl (vt rfl) (vk rfl)) rfl ?_
    refine AOps.nil ?_
    refine AW.cond (vt rfl) (fun hc => ?_) (fun hc => ?_)
    · have h := cond_t hc h
      refine AW.region ?_
      refine AOps.cons (op_move (A := rd (kint .i64) q4) rfl rfl (vt rfl)) rfl ?_
      refine AOps.cons (op_move (A := rd (kint .i64) n2) rfl rfl (vt rfl)) rfl ?_
      refine AOps.cons (op_add rfl rfl (vt rfl) (vt rfl)) rfl ?_
      refine AOps.cons (op_assign (A := rd (kint .i64) (IntKind.i64.wrap (q4 + n2))) rfl rfl (vt rfl)) rfl ?_
      refine AOps.nil ?_
      refine AW.seq ?_
      refine AW.region ?_
      refine AOps.cons (op_move (A := rd (kint .i64) (IntKind.i64.wrap (q4 + n2))) rfl rfl (vt rfl)) rfl ?_
      refine AOps.cons (op_assign (A := rd (kint .i64) (IntKind.i64.wrap (q4 + n2))) rfl rfl (vt rfl)) rfl ?_
      refine AOps.nil ?_
      refine AW.ret ?_
      obtain rfl := Option.some.inj h
      exact ret1 Try.results37 rfl (out_tmp rfl)
    · have h := cond_f hc h
      refine AW.skip ?_
      refine AW.seq ?_
      refine AW.region ?_
      refine AOps.cons (op_move (A := rd (kint .i64) q4) rfl rfl (vt rfl)) rfl ?_
      refine AOps.cons (op_assign (A := rd (kint .i64) q4) rfl rfl (vt rfl)) rfl ?_
      refine AOps.nil ?_
      refine AW.ret ?_
      obtain rfl := Option.some.inj h
      exact ret1 Try.results37 rfl (out_tmp rfl)
def F_slices_Index_int_l1 (s1 : (List Int)) (v2 : Int) : Nat → Nat → Option Int
  | 0, i3 => some (-1)
  | m4 + 1, i3 => (lget s1 (i3 : Int)).bind fun e5 => (bif (decide (v2 = e5)) then some (i3 : Int) else (F_slices_Index_int_l1 s1 v2 m4) (i3 + 1))
def F_slices_Index_int (s1 : (List Int)) (v2 : Int) : Option Int :=
  F_slices_Index_int_l1 s1 v2 ((s1.length : Int) : Int).toNat 0
theorem c_slices_Index_int (s1 : (List Int)) (v2 : Int) (r : Int) (h : F_slices_Index_int s1 v2 = some r) : PCon Try.prog 101 [rd (ksl (kint .i64)) s1, rd (kint .i64) v2] (rd (kint .i64) r) := by
  refine PCon.of (Con.intro0 Try.func101 rfl Try.ntmps101 rfl fun w H => ?_)
  unfold F_slices_Index_int at h
  refine AW.seq ?_
  refine AW.region ?_
  refine AOps.cons (op_assign (A := rd (kint .i64) 0) rfl rfl (vk rfl)) rfl ?_
  refine AOps.nil ?_
  refine AW.seq ?_
  refine AW.seq ?_
  refine AW.region ?_
  refine AOps.cons (op_move (A := rd (ksl (kint .i64)) s1) rfl rfl (vt rfl)) rfl ?_
  refine AOps.cons (op_len' rfl rfl sl23 (vt rfl)) rfl ?_
  refine AOps.cons (op_move (A := rd (kint .i64) 0) rfl rfl (vk rfl)) rfl ?_
  refine AOps.nil ?_
  refine AW.block ?_
  refine AW.loopG (d := []) (ν := Nat × Nat) (fun n => Cnt (s1.length : Int) n.2 n.1 ∧ F_slices_Index_int_l1 s1 v2 n.1 n.2 = some r) (fun n => n.1) (fun n => [(0, rd (ksl (kint .i64)) s1), (1, rd (kint .i64) v2), (7, rd (kint .i64) (s1.length : Int)), (8, rd (kint .i64) (n.2 : Int))]) (fun n => []) (((s1.length : Int) : Int).toNat, 0) ⟨Cnt.start _, h⟩ ⟨rfl, ⟨rfl, rfl, rfl, rfl, trivial⟩, trivial⟩ ?_
  rintro ⟨m4, i3⟩ ⟨hsf1, h⟩
  change Cnt (s1.length : Int) i3 m4 at hsf1
  change F_slices_Index_int_l1 s1 v2 m4 i3 = some r at h
  change AW _ _ _ ⟨slots [(0, rd (ksl (kint .i64)) s1), (1, rd (kint .i64) v2), (7, rd (kint .i64) (s1.length : Int)), (8, rd (kint .i64) (i3 : Int))], ress [], _⟩
  cases m4 with
  | zero =>
    unfold F_slices_Index_int_l1 at h
    refine AW.seq ?_
    refine AW.region ?_
    refine AOps.cons (op_lss rfl rfl (vt rfl) (vt rfl)) rfl ?_
    refine AOps.nil ?_
    refine AW.seq ?_
    refine AW.cond (vt rfl) (fun hc => absurd (of_decide_eq_true hc) hsf1.zero) (fun hc => ?_)
    refine AW.exit ?_
    refine AW.seq ?_
    refine AW.region ?_
    refine AOps.cons (op_assign (A := rd (kint .i64) (-1)) rfl rfl (vk rfl)) rfl ?_
    refine AOps.nil ?_
    refine AW.ret ?_
    obtain rfl := Option.some.inj h
    exact ret1 Try.results101 rfl (out_tmp rfl)
  | succ m4 =>
    unfold F_slices_Index_int_l1 at h
    generalize hgo1 : F_slices_Index_int_l1 s1 v2 m4 = go1 at h
    refine AW.seq ?_
    refine AW.region ?_
    refine AOps.cons (op_lss rfl rfl (vt rfl) (vt rfl)) rfl ?_
    refine AOps.nil ?_
    refine AW.seq ?_
    refine AW.cond (vt rfl) (fun hc => ?_) (fun hc => absurd hsf1.succ (of_decide_eq_false hc))
    have hlti3 := of_decide_eq_true hc
    refine AW.skip ?_
    refine AW.seq ?_
    refine AW.block ?_
    refine AW.seq ?_
    refine AW.region ?_
    refine AOps.cons (op_move (A := rd (kint .i64) (i3 : Int)) rfl rfl (vt rfl)) rfl ?_
    refine AOps.cons (op_assign (A := rd (kint .i64) (i3 : Int)) rfl rfl (vt rfl)) rfl ?_
    refine AOps.nil ?_
    refine AW.seq ?_
    obtain ⟨e5, he5, h⟩ := bsome h
    refine AW.region ?_
    refine AOps.cons (op_move (A := rd (kint .i64) v2) rfl rfl (vt rfl)) rfl ?_
    refine AOps.cons (op_move (A := rd (ksl (kint .i64)) s1) rfl rfl (vt rfl)) rfl ?_
    refine AOps.cons (op_move (A := rd (kint .i64) (i3 : Int)) rfl rfl (vt rfl)) rfl ?_
    refine AOps.cons (op_indexs' rfl rfl sl23 (vt rfl) (vt rfl) he5) rfl ?_
    refine AOps.cons (op_loadp rfl rfl ty3 (vt rfl)) rfl ?_
    refine AOps.cons (op_eql rfl rfl (vt rfl) (vt rfl)) rfl ?_
    refine AOps.nil ?_
    refine AW.cond (vt rfl) (fun hc => ?_) (fun hc => ?_)
    · have h := cond_t hc h
      refine AW.seq ?_
      refine AW.region ?_
      refine AOps.cons (op_move (A := rd (kint .i64) (i3 : Int)) rfl rfl (vt rfl)) rfl ?_
      refine AOps.cons (op_assign (A := rd (kint .i64) (i3 : Int)) rfl rfl (vt rfl)) rfl ?_
      refine AOps.nil ?_
      refine AW.ret ?_
      obtain rfl := Option.some.inj h
      exact ret1 Try.results101 rfl (out_tmp rfl)
    · have h := cond_f hc h
      refine AW.skip ?_
      refine AW.region ?_
      refine AOps.cons (op_incr (t := 7) rfl rfl (vt rfl) (vk rfl) (vt rfl) hlti3) rfl ?_
      refine AOps.cons (op_move (A := rd (kint .i64) ((i3 + 1 : Nat) : Int)) rfl rfl (vt rfl)) rfl ?_
      refine AOps.nil ?_
      subst hgo1
      exact ⟨(m4, i3 + 1), Nat.lt_succ_self _, ⟨hsf1.next, h⟩, ⟨rfl, ⟨rfl, rfl, rfl, rfl, trivial⟩, trivial⟩⟩
def F_slices_Contains_int (s1 : (List Int)) (v2 : Int) : Option Bool :=
  (F_slices_Index_int s1 v2).bind fun x3 => some (decide (x3 ≥ 0))
theorem c_slices_Contains_int (s1 : (List Int)) (v2 : Int) (r : Bool) (h : F_slices_Contains_int s1 v2 = some r) : PCon Try.prog 69 [rd (ksl (kint .i64)) s1, rd (kint .i64) v2] (rd kbool r) := by
  refine PCon.of (Con.intro0 Try.func69 rfl Try.ntmps69 rfl fun w H => ?_)
  unfold F_slices_Contains_int at h
  refine AW.seq ?_
  refine AW.region ?_
  refine AOps.cons (op_assign (A := rd kbool false) rfl rfl vb) rfl ?_
  refine AOps.nil ?_
  refine AW.seq ?_
  obtain ⟨x3, hx3, h⟩ := bsome h
  refine AW.region ?_
  refine AOps.cons (op_move (A := rd (ksl (kint .i64)) s1) rfl rfl (vt rfl)) rfl ?_
  refine AOps.cons (op_move (A := rd (kint .i64) v2) rfl rfl (vt rfl)) rfl ?_
  refine AOps.cons (op_call (xs := [.tmp 5, .tmp 6]) (c_slices_Index_int _ _ _ hx3) (Ent.mk Try.func101 rfl rfl) rfl rfl ⟨vt rfl, vt rfl, trivial⟩) rfl ?_
  refine AOps.cons (op_geq rfl rfl (vt rfl) (vk rfl)) rfl ?_
  refine AOps.cons (op_assign (A := rd kbool (decide (x3 ≥ 0))) rfl rfl (vt rfl)) rfl ?_
  refine AOps.nil ?_
  refine AW.ret ?_
  obtain rfl := Option.some.inj h
  exact ret1 Try.results69 rfl (out_tmp rfl)
def F_env_Up (e1 : Env) (port2 : Int) : Option Bool :=
  (F_slices_Contains_int e1.Down port2).bind fun x4 => some (!x4)
theorem c_env_Up (e1 : Env) (port2 : Int) (r : Bool) (h : F_env_Up e1 port2 = some r) : PCon Try.prog 36 [rd kEnv e1, rd (kint .i64) port2] (rd kbool r) := by
  refine PCon.of (Con.intro0 Try.func36 rfl Try.ntmps36 rfl fun w H => ?_)
  unfold F_env_Up at h
  refine AW.seq ?_
  refine AW.region ?_
  refine AOps.consT rfl (op_box 3 rfl rfl (vt rfl)) ?_
  rintro _ ⟨g3, rfl⟩
  refine AOps.cons (op_assign (A := rd kbool false) rfl rfl vb) rfl ?_
  refine AOps.nil ?_
  refine AW.seq ?_
  obtain ⟨x4, hx4, h⟩ := bsome h
  refine AW.region ?_
  refine AOps.cons (op_field lEnv_1 rfl rfl fl25_1 (vt rfl)) rfl ?_
  refine AOps.cons (op_load rfl rfl ty23 (vt rfl) (i := 3) rfl) rfl ?_
  refine AOps.cons (op_move (A := rd (kint .i64) port2) rfl rfl (vt rfl)) rfl ?_
  refine AOps.cons (op_call (xs := [.tmp 6, .tmp 7]) (c_slices_Contains_int _ _ _ hx4) (Ent.mk Try.func69 rfl rfl) rfl rfl ⟨vt rfl, vt rfl, trivial⟩) rfl ?_
  refine AOps.cons (op_not rfl rfl (vt rfl)) rfl ?_
  refine AOps.cons (op_assign (A := rd kbool (!x4)) rfl rfl (vt rfl)) rfl ?_
  refine AOps.nil ?_
  refine AW.ret ?_
  obtain rfl := Option.some.inj h
  exact ret1 Try.results36 rfl (out_tmp rfl)
def F_env_world_up_1 (x1 : Bucket) (cp2 : env_world) : Option Bool :=
  (F_env_Up cp2.Env x1.Watch).bind fun x4 => some x4
theorem c_env_world_up_1 (x1 : Bucket) (cp2 : env_world) (r : Bool) (h : F_env_world_up_1 x1 cp2 = some r) : PCon Try.prog 130 [rd kBucket x1, rp kenv_world cp2] (rd kbool r) := by
  refine PCon.of (Con.intro0 Try.func130 rfl Try.ntmps130 rfl fun w H => ?_)
  unfold F_env_world_up_1 at h
  refine AW.seq ?_
  refine AW.region ?_
  refine AOps.consT rfl (op_box 3 rfl rfl (vt rfl)) ?_
  rintro _ ⟨g3, rfl⟩
  refine AOps.cons (op_assign (A := rd kbool false) rfl rfl vb) rfl ?_
  refine AOps.nil ?_
  refine AW.seq ?_
  obtain ⟨x4, hx4, h⟩ := bsome h
  refine AW.region ?_
  refine AOps.cons (op_fieldp lenv_world_0 rfl rfl fl159_0 (vt rfl)) rfl ?_
  refine AOps.cons (op_loadp rfl rfl ty25 (vt rfl)) rfl ?_
  refine AOps.cons (op_field lBucket_1 rfl rfl fl68_1 (vt rfl)) rfl ?_
  refine AOps.cons (op_load rfl rfl ty3 (vt rfl) (i := 3) rfl) rfl ?_
  refine AOps.cons (op_call (xs := [.tmp 5, .tmp 7]) (c_env_Up _ _ _ hx4) (Ent.mk Try.func36 rfl rfl) rfl rfl ⟨vt rfl, vt rfl, trivial⟩) rfl ?_
  refine AOps.cons (op_assign (A := rd kbool x4) rfl rfl (vt rfl)) rfl ?_
  refine AOps.nil ?_
  refine AW.ret ?_
  obtain rfl := Option.some.inj h
  exact ret1 Try.results130 rfl (out_tmp rfl)
def F_env_world_up (w1 : env_world) : Option Int :=
  (F_slices_IndexFunc_Bucket w1.Group.Buckets (fun x => F_env_world_up_1 x w1)).bind fun x3 => some x3
theorem c_env_world_up (w1 : env_world) (r : Int) (h : F_env_world_up w1 = some r) : PCon Try.prog 105 [rd kenv_world w1] (rd (kint .i64) r) := by
  refine PCon.of (Con.intro0 Try.func105 rfl Try.ntmps105 rfl fun w H => ?_)
  unfold F_env_world_up at h
  refine AW.seq ?_
  refine AW.region ?_
  refine AOps.consT rfl (op_box 2 rfl rfl (vt rfl)) ?_
  rintro _ ⟨g2, rfl⟩
  refine AOps.cons (op_assign (A := rd (kint .i64) 0) rfl rfl (vk rfl)) rfl ?_
  refine AOps.nil ?_
  refine AW.seq ?_
  refine AW.freezeB 1 2 rfl rfl rfl ?_
  obtain ⟨x3, hx3, h⟩ := bsome h
  refine AW.region ?_
  refine AOps.cons (op_fieldp lenv_world_1 rfl rfl fl159_1 (vt rfl)) rfl ?_
  refine AOps.cons (op_fieldp lGroup_2 rfl rfl fl63_2 (vt rfl)) rfl ?_
  refine AOps.cons (op_loadp rfl rfl ty61 (vt rfl)) rfl ?_
  refine AOps.cons (op_fn1 (cs := [.tmp 1]) (CAs := [rp kenv_world w1]) (fun x => F_env_world_up_1 x w1) rfl rfl (Ent.mk Try.func130 rfl rfl) ⟨vt rfl, trivial⟩ (fun x y h => c_env_world_up_1 _ _ y h)) rfl ?_
  refine AOps.cons (op_call (xs := [.tmp 5, .tmp 6]) (c_slices_IndexFunc_Bucket _ _ _ hx3) (Ent.mk Try.func97 rfl rfl) rfl rfl ⟨vt rfl, vt rfl, trivial⟩) rfl ?_
  refine AOps.cons (op_assign (A := rd (kint .i64) x3) rfl rfl (vt rfl)) rfl ?_
  refine AOps.nil ?_
  refine AW.ret ?_
  obtain rfl := Option.some.inj h
  exact ret1 Try.results105 rfl (out_tmp rfl)
def F_env_Takes_l1 : Nat → Nat → (List Int) → Option (List Int)
  | 0, i10, l8 => some l8
  | m11 + 1, i10, l8 => (appd l8 [(i10 : Int)]).bind fun l12 => (F_env_Takes_l1 m11) (i10 + 1) l12
def F_env_Takes (e1 : Env) (g2 : Group) : Option (List Int) :=
  (bif (decide (((((⟨e1, g2⟩ : env_world).Group).Buckets).length : Int) = 0)) then some [] else (bif (decide ((((⟨e1, g2⟩ : env_world).Group).Kind) = 0)) then F_env_Takes_l1 (((((⟨e1, g2⟩ : env_world).Group).Buckets).length : Int) : Int).toNat 0 [] else (bif (decide ((((⟨e1, g2⟩ : env_world).Group).Kind) = 1)) then (F_env_Which ((⟨e1, g2⟩ : env_world).Env) ((((⟨e1, g2⟩ : env_world).Group).Buckets).length : Int)).bind fun x14 => some [x14] else (bif (decide ((((⟨e1, g2⟩ : env_world).Group).Kind) = 2)) then some [0] else (bif (decide ((((⟨e1, g2⟩ : env_world).Group).Kind) = 3)) then (F_env_world_up (⟨e1, g2⟩ : env_world)).bind fun x15 => (bif (decide (x15 ≥ 0)) then some [x15] else some []) else some [])))))
theorem c_env_Takes (e1 : Env) (g2 : Group) (r : (List Int)) (h : F_env_Takes e1 g2 = some r) : PCon Try.prog 76 [rd kEnv e1, rd kGroup g2] (rd (ksl (kint .i64)) r) := by
  refine PCon.of (Con.intro0 Try.func76 rfl Try.ntmps76 rfl fun w H => ?_)
  unfold F_env_Takes at h
  refine AW.seq ?_
  refine AW.region ?_
  refine AOps.consT rfl (op_box 3 rfl rfl (vt rfl)) ?_
  rintro _ ⟨g3, rfl⟩
  refine AOps.consT rfl (op_box 4 rfl rfl (vt rfl)) ?_
  rintro _ ⟨g4, rfl⟩
  refine AOps.cons (op_assign (A := rd (ksl (kint .i64)) []) rfl rfl vnil) rfl ?_
  refine AOps.nil ?_
  refine AW.seq ?_
  refine AW.region ?_
  refine AOps.cons (op_load rfl rfl ty25 (vt rfl) (i := 3) rfl) rfl ?_
  refine AOps.cons (op_load rfl rfl ty63 (vt rfl) (i := 4) rfl) rfl ?_
  refine AOps.cons (op_build (ps := [(0, .tmp 9), (1, .tmp 10)]) (x := (⟨e1, g2⟩ : env_world)) rfl rfl rfl (by kernel_rfl) zr159 ⟨_, _, lenv_world_0, _, by kernel_rfl, (vt rfl), _, _, lenv_world_1, _, by kernel_rfl, (vt rfl), rfl⟩) rfl ?_
  refine AOps.consT rfl (op_alloc 6 rfl rfl zr159) ?_
  rintro _ ⟨g5, rfl⟩
  refine AOps.cons (op_store rfl rfl ty159 (vt rfl) (i := 6) rfl (vt rfl)) rfl ?_
  refine AOps.nil ?_
  refine AW.seq ?_
  refine AW.seq ?_
  refine AW.region ?_
  refine AOps.cons (op_field lenv_world_1 rfl rfl fl159_1 (vt rfl)) rfl ?_
  refine AOps.cons (op_field lGroup_2 rfl rfl fl63_2 (vt rfl)) rfl ?_
  refine AOps.cons (op_load rfl rfl ty61 (vt rfl) (i := 6) rfl) rfl ?_
  refine AOps.cons (op_len' rfl rfl sl61 (vt rfl)) rfl ?_
  refine AOps.cons (op_eql rfl rfl (vt rfl) (vk rfl)) rfl ?_
  refine AOps.nil ?_
  refine AW.cond (vt rfl) (fun hc => ?_) (fun hc => ?_)
  · have h := cond_t hc h
    refine AW.seq ?_
    refine AW.region ?_
    refine AOps.cons (op_assign (A := rd (ksl (kint .i64)) []) rfl rfl vnil) rfl ?_
    refine AOps.nil ?_
    refine AW.ret ?_
    obtain rfl := Option.some.inj h
    exact ret1 Try.results76 rfl (out_tmp rfl)
  · have h := cond_f hc h
    refine AW.skip ?_
    refine AW.seq ?_
    refine AW.seq ?_
    refine AW.region ?_
    refine AOps.cons (op_field lenv_world_1 rfl rfl fl159_1 (vt rfl)) rfl ?_
    refine AOps.cons (op_field lGroup_1 rfl rfl fl63_1 (vt rfl)) rfl ?_
    refine AOps.cons (op_load rfl rfl ty3 (vt rfl) (i := 6) rfl) rfl ?_
    refine AOps.nil ?_
    refine AW.block ?_
    refine AW.seq ?_
    refine AW.region ?_
    refine AOps.cons (op_eql rfl rfl (vt rfl) (vk rfl)) rfl ?_
    refine AOps.cons (op_assign (A := rd kbool (decide ((((⟨e1, g2⟩ : env_world).Group).Kind) = 0))) rfl rfl (vt rfl)) rfl ?_
    refine AOps.nil ?_
    refine AW.cond (vt rfl) (fun hc => ?_) (fun hc => ?_)
    · have h := cond_t hc h
      refine AW.seq ?_
      refine AW.newnil 1001 3 (kint .i64) ?_
      refine AW.region ?_
      refine AOps.cons (op_assign rfl rfl vc) rfl ?_
      refine AOps.nil ?_
      refine AW.seq ?_
      refine AW.seq ?_
      refine AW.region ?_
      refine AOps.cons (op_field lenv_world_1 rfl rfl fl159_1 (vt rfl)) rfl ?_
      refine AOps.cons (op_field lGroup_2 rfl rfl fl63_2 (vt rfl)) rfl ?_
      refine AOps.cons (op_load rfl rfl ty61 (vt rfl) (i := 6) rfl) rfl ?_
      refine AOps.cons (op_len' rfl rfl sl61 (vt rfl)) rfl ?_
      refine AOps.cons (op_move (A := rd (kint .i64) 0) rfl rfl (vk rfl)) rfl ?_
      refine AOps.nil ?_
      refine AW.block ?_
      refine AW.loopG (d := []) (ν := Nat × Nat × (List Int) × Value) (fun n => Cnt ((((⟨e1, g2⟩ : env_world).Group).Buckets).length : Int) n.2.1 n.1 ∧ F_env_Takes_l1 n.1 n.2.1 n.2.2.1 = some r) (fun n => n.1) (fun n => [(6, raw n.2.2.2), (25, rd (kint .i64) ((((⟨e1, g2⟩ : env_world).Group).Buckets).length : Int)), (26, rd (kint .i64) (n.2.1 : Int))]) (fun n => [(1001, Row n.2.2.2 3 (kint .i64) n.2.2.1)]) ((((((⟨e1, g2⟩ : env_world).Group).Buckets).length : Int) : Int).toNat, 0, [], (.slice none 0 0)) ⟨Cnt.start _, h⟩ ⟨rfl, ⟨rfl, rfl, rfl, trivial⟩, ⟨rfl, trivial⟩⟩ ?_
      rintro ⟨m11, i10, l8, v9⟩ ⟨hsf1, h⟩
      change Cnt ((((⟨e1, g2⟩ : env_world).Group).Buckets).length : Int) i10 m11 at hsf1
      change F_env_Takes_l1 m11 i10 l8 = some r at h
      change AW _ _ _ ⟨slots [(6, raw v9), (25, rd (kint .i64) ((((⟨e1, g2⟩ : env_world).Group).Buckets).length : Int)), (26, rd (kint .i64) (i10 : Int))], ress [(1001, Row v9 3 (kint .i64) l8)], _⟩
      cases m11 with
      | zero =>
        unfold F_env_Takes_l1 at h
        refine AW.seq ?_
        refine AW.region ?_
        refine AOps.cons (op_lss rfl rfl (vt rfl) (vt rfl)) rfl ?_
        refine AOps.nil ?_
        refine AW.seq ?_
        refine AW.cond (vt rfl) (fun hc => absurd (of_decide_eq_true hc) hsf1.zero) (fun hc => ?_)
        refine AW.exit ?_
        refine AW.seq ?_
        refine AW.region ?_
        refine AOps.cons (op_move (A := raw v9) rfl rfl (vt rfl)) rfl ?_
        refine AOps.cons (op_assign (A := raw v9) rfl rfl (vt rfl)) rfl ?_
        refine AOps.nil ?_
        refine AW.freezes [4, 6, 34] 1001 rfl ⟨rfl, rfl, rfl, trivial⟩ rfl ?_
        refine AW.ret ?_
        obtain rfl := Option.some.inj h
        exact ret1 Try.results76 rfl (out_tmp rfl)
      | succ m11 =>
        unfold F_env_Takes_l1 at h
        generalize hgo1 : F_env_Takes_l1 m11 = go1 at h
        refine AW.seq ?_
        refine AW.region ?_
        refine AOps.cons (op_lss rfl rfl (vt rfl) (vt rfl)) rfl ?_
        refine AOps.nil ?_
        refine AW.seq ?_
        refine AW.cond (vt rfl) (fun hc => ?_) (fun hc => absurd hsf1.succ (of_decide_eq_false hc))
        have hlti10 := of_decide_eq_true hc
        refine AW.skip ?_
        refine AW.seq ?_
        refine AW.block ?_
        refine AW.seq ?_
        refine AW.region ?_
        refine AOps.cons (op_move (A := rd (kint .i64) (i10 : Int)) rfl rfl (vt rfl)) rfl ?_
        refine AOps.cons (op_assign (A := rd (kint .i64) (i10 : Int)) rfl rfl (vt rfl)) rfl ?_
        refine AOps.nil ?_
        obtain ⟨l12, hl12, h⟩ := bsome h
        refine AW.region ?_
        refine AOps.cons (op_move (A := raw v9) rfl rfl (vt rfl)) rfl ?_
        refine AOps.cons (op_move (A := rd (kint .i64) (i10 : Int)) rfl rfl (vt rfl)) rfl ?_
        refine AOps.cons (op_buildSliceR (ps := [(0, .tmp 30)]) (l := [(i10 : Int)]) rfl rfl sl23 zr3 rfl rfl ⟨_, _, Lens.idx 1 (kint .i64) 0 (by decide), _, rfl, (vt rfl), rfl⟩ rfl) rfl ?_
        refine AOps.consT rfl (op_append' 1001 hl12 rfl rfl el23 (vt rfl) rfl (vt rfl)) ?_
        rintro _ ⟨v13, rfl⟩
        refine AOps.cons (op_assign (A := raw v13) rfl rfl (vt rfl)) rfl ?_
        refine AOps.nil ?_
        refine AW.region ?_
        refine AOps.cons (op_incr (t := 25) rfl rfl (vt rfl) (vk rfl) (vt rfl) hlti10) rfl ?_
        refine AOps.cons (op_move (A := rd (kint .i64) ((i10 + 1 : Nat) : Int)) rfl rfl (vt rfl)) rfl ?_
        refine AOps.nil ?_
        subst hgo1
        exact ⟨(m11, i10 + 1, l12, v13), Nat.lt_succ_self _, ⟨hsf1.next, h⟩, ⟨rfl, ⟨rfl, rfl, rfl, trivial⟩, ⟨rfl, trivial⟩⟩⟩
    · have h := cond_f hc h
      refine AW.seq ?_
      refine AW.region ?_
      refine AOps.cons (op_eql rfl rfl (vt rfl) (vk rfl)) rfl ?_
      refine AOps.cons (op_assign (A := rd kbool (decide ((((⟨e1, g2⟩ : env_world).Group).Kind) = 1))) rfl rfl (vt rfl)) rfl ?_
      refine AOps.nil ?_
      refine AW.cond (vt rfl) (fun hc => ?_) (fun hc => ?_)
      · have h := cond_t hc h
        refine AW.seq ?_
        obtain ⟨x14, hx14, h⟩ := bsome h
        refine AW.region ?_
        refine AOps.cons (op_field lenv_world_0 rfl rfl fl159_0 (vt rfl)) rfl ?_
        refine AOps.cons (op_load rfl rfl ty25 (vt rfl) (i := 6) rfl) rfl ?_
        refine AOps.cons (op_field lenv_world_1 rfl rfl fl159_1 (vt rfl)) rfl ?_
        refine AOps.cons (op_field lGroup_2 rfl rfl fl63_2 (vt rfl)) rfl ?_
        refine AOps.cons (op_load rfl rfl ty61 (vt rfl) (i := 6) rfl) rfl ?_
        refine AOps.cons (op_len' rfl rfl sl61 (vt rfl)) rfl ?_
        refine AOps.cons (op_call (xs := [.tmp 38, .tmp 42]) (c_env_Which _ _ _ hx14) (Ent.mk Try.func37 rfl rfl) rfl rfl ⟨vt rfl, vt rfl, trivial⟩) rfl ?_
        refine AOps.cons (op_buildSliceR (ps := [(0, .tmp 43)]) (l := [x14]) rfl rfl sl23 zr3 rfl rfl ⟨_, _, Lens.idx 1 (kint .i64) 0 (by decide), _, rfl, (vt rfl), rfl⟩ rfl) rfl ?_
        refine AOps.cons (op_assign (A := rd (ksl (kint .i64)) [x14]) rfl rfl (vt rfl)) rfl ?_
        refine AOps.nil ?_
        refine AW.ret ?_
        obtain rfl := Option.some.inj h
        exact ret1 Try.results76 rfl (out_tmp rfl)
      · have h := cond_f hc h
        refine AW.seq ?_
        refine AW.region ?_
        refine AOps.cons (op_eql rfl rfl (vt rfl) (vk rfl)) rfl ?_
        refine AOps.cons (op_assign (A := rd kbool (decide ((((⟨e1, g2⟩ : env_world).Group).Kind) = 2))) rfl rfl (vt rfl)) rfl ?_
        refine AOps.nil ?_
        refine AW.cond (vt rfl) (fun hc => ?_) (fun hc => ?_)
        · have h := cond_t hc h
          refine AW.seq ?_
          refine AW.region ?_
          refine AOps.cons (op_buildSliceR (ps := [(0, .const (Value.int IntKind.i64 0))]) (l := [0]) rfl rfl sl23 zr3 rfl rfl ⟨_, _, Lens.idx 1 (kint .i64) 0 (by decide), _, rfl, (vk rfl), rfl⟩ rfl) rfl ?_
          refine AOps.cons (op_assign (A := rd (ksl (kint .i64)) [0]) rfl rfl (vt rfl)) rfl ?_
          refine AOps.nil ?_
          refine AW.ret ?_
          obtain rfl := Option.some.inj h
          exact ret1 Try.results76 rfl (out_tmp rfl)
        · have h := cond_f hc h
          refine AW.seq ?_
          refine AW.region ?_
          refine AOps.cons (op_eql rfl rfl (vt rfl) (vk rfl)) rfl ?_
          refine AOps.cons (op_assign (A := rd kbool (decide ((((⟨e1, g2⟩ : env_world).Group).Kind) = 3))) rfl rfl (vt rfl)) rfl ?_
          refine AOps.nil ?_
          refine AW.cond (vt rfl) (fun hc => ?_) (fun hc => ?_)
          · have h := cond_t hc h
            refine AW.seq ?_
            obtain ⟨x15, hx15, h⟩ := bsome h
            refine AW.region ?_
            refine AOps.cons (op_load rfl rfl ty159 (vt rfl) (i := 6) rfl) rfl ?_
            refine AOps.cons (op_call (xs := [.tmp 50]) (c_env_world_up _ _ hx15) (Ent.mk Try.func105 rfl rfl) rfl rfl ⟨vt rfl, trivial⟩) rfl ?_
            refine AOps.cons (op_assign (A := rd (kint .i64) x15) rfl rfl (vt rfl)) rfl ?_
            refine AOps.nil ?_
            refine AW.seq ?_
            refine AW.region ?_
            refine AOps.cons (op_move (A := rd (kint .i64) x15) rfl rfl (vt rfl)) rfl ?_
            refine AOps.cons (op_geq rfl rfl (vt rfl) (vk rfl)) rfl ?_
            refine AOps.nil ?_
            refine AW.cond (vt rfl) (fun hc => ?_) (fun hc => ?_)
            · have h := cond_t hc h
              refine AW.seq ?_
              refine AW.region ?_
              refine AOps.cons (op_move (A := rd (kint .i64) x15) rfl rfl (vt rfl)) rfl ?_
              refine AOps.cons (op_buildSliceR (ps := [(0, .tmp 54)]) (l := [x15]) rfl rfl sl23 zr3 rfl rfl ⟨_, _, Lens.idx 1 (kint .i64) 0 (by decide), _, rfl, (vt rfl), rfl⟩ rfl) rfl ?_
              refine AOps.cons (op_assign (A := rd (ksl (kint .i64)) [x15]) rfl rfl (vt rfl)) rfl ?_
              refine AOps.nil ?_
              refine AW.ret ?_
              obtain rfl := Option.some.inj h
              exact ret1 Try.results76 rfl (out_tmp rfl)
            · have h := cond_f hc h
              refine AW.skip ?_
              refine AW.seq ?_
              refine AW.region ?_
              refine AOps.cons (op_assign (A := rd (ksl (kint .i64)) []) rfl rfl vnil) rfl ?_
              refine AOps.nil ?_
              refine AW.ret ?_
              obtain rfl := Option.some.inj h
              exact ret1 Try.results76 rfl (out_tmp rfl)
          · have h := cond_f hc h
            refine AW.skip ?_
            refine AW.seq ?_
            refine AW.region ?_
            refine AOps.cons (op_assign (A := rd (ksl (kint .i64)) []) rfl rfl vnil) rfl ?_
            refine AOps.nil ?_
            refine AW.ret ?_
            obtain rfl := Option.some.inj h
            exact ret1 Try.results76 rfl (out_tmp rfl)
def F_aset_at (a1 : Action) : Option aset_spot :=
  (bif (decide (a1.Kind = 25)) then some (⟨a1.Kind, a1.Oxm.Field⟩ : aset_spot) else some (⟨a1.Kind, 0⟩ : aset_spot))
theorem c_aset_at (a1 : Action) (r : aset_spot) (h : F_aset_at a1 = some r) : PCon Try.prog 116 [rd kAction a1] (rd kaset_spot r) := by
  refine PCon.of (Con.intro0 Try.func116 rfl Try.ntmps116 rfl fun w H => ?_)
  unfold F_aset_at at h
  refine AW.seq ?_
  refine AW.region ?_
  refine AOps.consT rfl (op_box 2 rfl rfl (vt rfl)) ?_
  rintro _ ⟨g2, rfl⟩
  refine AOps.consT rfl (op_alloc 3 rfl rfl zr169) ?_
  rintro _ ⟨g3, rfl⟩
  refine AOps.nil ?_
  refine AW.seq ?_
  refine AW.seq ?_
  refine AW.region ?_
  refine AOps.cons (op_field lAction_0 rfl rfl fl95_0 (vt rfl)) rfl ?_
  refine AOps.cons (op_load rfl rfl ty3 (vt rfl) (i := 2) rfl) rfl ?_
  refine AOps.cons (op_eql rfl rfl (vt rfl) (vk rfl)) rfl ?_
  refine AOps.nil ?_
  refine AW.cond (vt rfl) (fun hc => ?_) (fun hc => ?_)
  · have h := cond_t hc h
    refine AW.seq ?_
    refine AW.region ?_
    refine AOps.cons (op_field lAction_0 rfl rfl fl95_0 (vt rfl)) rfl ?_
    refine AOps.cons (op_load rfl rfl ty3 (vt rfl) (i := 2) rfl) rfl ?_
    refine AOps.cons (op_field lAction_5 rfl rfl fl95_5 (vt rfl)) rfl ?_
    refine AOps.cons (op_field lOxm_0 rfl rfl fl93_0 (vt rfl)) rfl ?_
    refine AOps.cons (op_load rfl rfl ty3 (vt rfl) (i := 2) rfl) rfl ?_
    refine AOps.cons (op_build (ps := [(0, .tmp 7), (1, .tmp 10)]) (x := (⟨a1.Kind, a1.Oxm.Field⟩ : aset_spot)) rfl rfl rfl (by kernel_rfl) zr169 ⟨_, _, laset_spot_0, _, by kernel_rfl, (vt rfl), _, _, laset_spot_1, _, by kernel_rfl, (vt rfl), rfl⟩) rfl ?_
    refine AOps.cons (op_store rfl rfl ty169 (vt rfl) (i := 3) rfl (vt rfl)) rfl ?_
    refine AOps.nil ?_
    refine AW.ret ?_
    obtain rfl := Option.some.inj h
    exact ret1 Try.results116 rfl (out_cell rfl (i := 3) rfl ty169)
  · have h := cond_f hc h
    refine AW.skip ?_
    refine AW.seq ?_
    refine AW.region ?_
    refine AOps.cons (op_field lAction_0 rfl rfl fl95_0 (vt rfl)) rfl ?_
    refine AOps.cons (op_load rfl rfl ty3 (vt rfl) (i := 2) rfl) rfl ?_
    refine AOps.cons (op_build (ps := [(0, .tmp 13)]) (x := (⟨a1.Kind, 0⟩ : aset_spot)) rfl rfl rfl (by kernel_rfl) zr169 ⟨_, _, laset_spot_0, _, by kernel_rfl, (vt rfl), rfl⟩) rfl ?_
    refine AOps.cons (op_store rfl rfl ty169 (vt rfl) (i := 3) rfl (vt rfl)) rfl ?_
    refine AOps.nil ?_
    refine AW.ret ?_
    obtain rfl := Option.some.inj h
    exact ret1 Try.results116 rfl (out_cell rfl (i := 3) rfl ty169)
end Go.Proofs.Ytknpgojdkobgjaa.W
set_option linter.unusedVariables false
set_option maxRecDepth 4000
set_option linter.unusedSimpArgs false
namespace Go.Proofs.Ytknpgojdkobgjaa.W
open Go Go.Wb
def F_aset_Write_1 (b1 : Action) (cp2 : Action) : Option Bool :=
  (F_aset_at cp2).bind fun x4 => (F_aset_at b1).bind fun x5 => some (decide (x4 = x5))
theorem c_aset_Write_1 (b1 : Action) (cp2 : Action) (r : Bool) (h : F_aset_Write_1 b1 cp2 = some r) : PCon Try.prog 118 [rd kAction b1, rp kAction cp2] (rd kbool r) := by
  refine PCon.of (Con.intro0 Try.func118 rfl Try.ntmps118 rfl fun w H => ?_)
  unfold F_aset_Write_1 at h
  refine AW.seq ?_
  refine AW.region ?_
  refine AOps.consT rfl (op_box 3 rfl rfl (vt rfl)) ?_
  rintro _ ⟨g3, rfl⟩
  refine AOps.cons (op_assign (A := rd kbool false) rfl rfl vb) rfl ?_
  refine AOps.nil ?_
  refine AW.seq ?_
  obtain ⟨x4, hx4, h⟩ := bsome h
  obtain ⟨x5, hx5, h⟩ := bsome h
  refine AW.regionAny [⟨[1], [4], [], []⟩, ⟨[4], [5], [], []⟩, ⟨[2], [6], [3], []⟩, ⟨[6], [7], [], []⟩, ⟨[5, 7], [8], [], []⟩, ⟨[8], [3], [], []⟩] mixed (by kernel_rfl) ?_
  refine SeqA.cons (loc [1] [] rfl rfl fun S hs hr => op_loadp rfl rfl ty95 (vt ((hs 1 rfl).trans rfl))) ⟨rfl, rfl, rfl, rfl⟩ ?_
  refine SeqA.cons (loc [4] [] rfl rfl fun S hs hr => op_call (xs := [.tmp 4]) (c_aset_at _ _ hx4) (Ent.mk Try.func116 rfl rfl) rfl rfl ⟨vt ((hs 4 rfl).trans rfl), trivial⟩) ⟨rfl, rfl, rfl, rfl⟩ ?_
  refine SeqA.cons (loc [2] [3] rfl rfl fun S hs hr => op_load rfl rfl ty95 (vt ((hs 2 rfl).trans rfl)) (i := 3) ((hr 3 rfl).trans rfl)) ⟨rfl, rfl, rfl, rfl⟩ ?_
  refine SeqA.cons (loc [6] [] rfl rfl fun S hs hr => op_call (xs := [.tmp 6]) (c_aset_at _ _ hx5) (Ent.mk Try.func116 rfl rfl) rfl rfl ⟨vt ((hs 6 rfl).trans rfl), trivial⟩) ⟨rfl, rfl, rfl, rfl⟩ ?_
  refine SeqA.cons (loc [5, 7] [] rfl rfl fun S hs hr => op_eqlk rfl rfl eqk169 (by decide) rfl eg169 (vt ((hs 5 rfl).trans rfl)) (vt ((hs 7 rfl).trans rfl))) ⟨rfl, rfl, rfl, rfl⟩ ?_
  refine SeqA.cons (loc [8] [] rfl rfl fun S hs hr => op_assign (A := rd kbool (decide (x4 = x5))) rfl rfl (vt ((hs 8 rfl).trans rfl))) ⟨rfl, rfl, rfl, rfl⟩ ?_
  refine AW.ret ?_
  obtain rfl := Option.some.inj h
  exact ret1 Try.results118 rfl (out_tmp rfl)
def F_slices_IndexFunc_Action_l1 (s1 : (List Action)) (f2 : (Action → Option Bool)) : Nat → Nat → Option Int
  | 0, i3 => some (-1)
  | m4 + 1, i3 => (lget s1 (i3 : Int)).bind fun e5 => (f2 e5).bind fun x6 => (bif x6 then some (i3 : Int) else (F_slices_IndexFunc_Action_l1 s1 f2 m4) (i3 + 1))
def F_slices_IndexFunc_Action (s1 : (List Action)) (f2 : (Action → Option Bool)) : Option Int :=
  F_slices_IndexFunc_Action_l1 s1 f2 ((s1.length : Int) : Int).toNat 0
theorem c_slices_IndexFunc_Action (s1 : (List Action)) (f2 : (Action → Option Bool)) (r : Int) (h : F_slices_IndexFunc_Action s1 f2 = some r) : PCon Try.prog 117 [rd (ksl kAction) s1, fn1 Try.prog kAction kbool f2] (rd (kint .i64) r) := by
  refine PCon.of (Con.intro0 Try.func117 rfl Try.ntmps117 rfl fun w H => ?_)
  unfold F_slices_IndexFunc_Action at h
  refine AW.seq ?_
  refine AW.region ?_
  refine AOps.cons (op_assign (A := rd (kint .i64) 0) rfl rfl (vk rfl)) rfl ?_
  refine AOps.nil ?_
  refine AW.seq ?_
  refine AW.seq ?_
  refine AW.region ?_
  refine AOps.cons (op_move (A := rd (ksl kAction) s1) rfl rfl (vt rfl)) rfl ?_
  refine AOps.cons (op_len' rfl rfl sl66 (vt rfl)) rfl ?_
  refine AOps.cons (op_move (A := rd (kint .i64) 0) rfl rfl (vk rfl)) rfl ?_
  refine AOps.nil ?_
  refine AW.block ?_
  refine AW.loopG (d := []) (ν := Nat × Nat) (fun n => Cnt (s1.length : Int) n.2 n.1 ∧ F_slices_IndexFunc_Action_l1 s1 f2 n.1 n.2 = some r) (fun n => n.1) (fun n => [(0, rd (ksl kAction) s1), (1, fn1 Try.prog kAction kbool f2), (7, rd (kint .i64) (s1.length : Int)), (8, rd (kint .i64) (n.2 : Int))]) (fun n => []) (((s1.length : Int) : Int).toNat, 0) ⟨Cnt.start _, h⟩ ⟨rfl, ⟨rfl, rfl, rfl, rfl, trivial⟩, trivial⟩ ?_
  rintro ⟨m4, i3⟩ ⟨hsf1, h⟩
  change Cnt (s1.length : Int) i3 m4 at hsf1
  change F_slices_IndexFunc_Action_l1 s1 f2 m4 i3 = some r at h
  change AW _ _ _ ⟨slots [(0, rd (ksl kAction) s1), (1, fn1 Try.prog kAction kbool f2), (7, rd (kint .i64) (s1.length : Int)), (8, rd (kint .i64) (i3 : Int))], ress [], _⟩
  cases m4 with
  | zero =>
    unfold F_slices_IndexFunc_Action_l1 at h
    refine AW.seq ?_
    refine AW.region ?_
    refine AOps.cons (op_lss rfl rfl (vt rfl) (vt rfl)) rfl ?_
    refine AOps.nil ?_
    refine AW.seq ?_
    refine AW.cond (vt rfl) (fun hc => absurd (of_decide_eq_true hc) hsf1.zero) (fun hc => ?_)
    refine AW.exit ?_
    refine AW.seq ?_
    refine AW.region ?_
    refine AOps.cons (op_assign (A := rd (kint .i64) (-1)) rfl rfl (vk rfl)) rfl ?_
    refine AOps.nil ?_
    refine AW.ret ?_
    obtain rfl := Option.some.inj h
    exact ret1 Try.results117 rfl (out_tmp rfl)
  | succ m4 =>
    unfold F_slices_IndexFunc_Action_l1 at h
    generalize hgo1 : F_slices_IndexFunc_Action_l1 s1 f2 m4 = go1 at h
    refine AW.seq ?_
    refine AW.region ?_
    refine AOps.cons (op_lss rfl rfl (vt rfl) (vt rfl)) rfl ?_
    refine AOps.nil ?_
    refine AW.seq ?_
    refine AW.cond (vt rfl) (fun hc => ?_) (fun hc => absurd hsf1.succ (of_decide_eq_false hc))
    have hlti3 := of_decide_eq_true hc
    refine AW.skip ?_
    refine AW.seq ?_
    refine AW.block ?_
    refine AW.seq ?_
    refine AW.region ?_
    refine AOps.cons (op_move (A := rd (kint .i64) (i3 : Int)) rfl rfl (vt rfl)) rfl ?_
    refine AOps.cons (op_assign (A := rd (kint .i64) (i3 : Int)) rfl rfl (vt rfl)) rfl ?_
    refine AOps.nil ?_
    refine AW.seq ?_
    obtain ⟨e5, he5, h⟩ := bsome h
    obtain ⟨x6, hx6, h⟩ := bsome h
    refine AW.region ?_
    refine AOps.cons (op_move (A := fn1 Try.prog kAction kbool f2) rfl rfl (vt rfl)) rfl ?_
    refine AOps.cons (op_move (A := rd (ksl kAction) s1) rfl rfl (vt rfl)) rfl ?_
    refine AOps.cons (op_move (A := rd (kint .i64) (i3 : Int)) rfl rfl (vt rfl)) rfl ?_
    refine AOps.cons (op_indexs' rfl rfl sl66 (vt rfl) (vt rfl) he5) rfl ?_
    refine AOps.cons (op_loadp rfl rfl ty95 (vt rfl)) rfl ?_
    refine AOps.cons (op_call1 hx6 rfl rfl (vt rfl) (vt rfl)) rfl ?_
    refine AOps.nil ?_
    refine AW.cond (vt rfl) (fun hc => ?_) (fun hc => ?_)
    · have h := cond_t hc h
      refine AW.seq ?_
      refine AW.region ?_
      refine AOps.cons (op_move (A := rd (kint .i64) (i3 : Int)) rfl rfl (vt rfl)) rfl ?_
      refine AOps.cons (op_assign (A := rd (kint .i64) (i3 : Int)) rfl rfl (vt rfl)) rfl ?_
      refine AOps.nil ?_
      refine AW.ret ?_
      obtain rfl := Option.some.inj h
      exact ret1 Try.results117 rfl (out_tmp rfl)
    · have h := cond_f hc h
      refine AW.skip ?_
      refine AW.region ?_
      refine AOps.cons (op_incr (t := 7) rfl rfl (vt rfl) (vk rfl) (vt rfl) hlti3) rfl ?_
      refine AOps.cons (op_move (A := rd (kint .i64) ((i3 + 1 : Nat) : Int)) rfl rfl (vt rfl)) rfl ?_
      refine AOps.nil ?_
      subst hgo1
      exact ⟨(m4, i3 + 1), Nat.lt_succ_self _, ⟨hsf1.next, h⟩, ⟨rfl, ⟨rfl, rfl, rfl, rfl, trivial⟩, trivial⟩⟩
def F_aset_Write_l1 : (List Action) → Nat → (List Action) → Option (List Action)
  | [], i9, l7 => some l7
  | x11 :: l10, i9, l7 => (F_slices_IndexFunc_Action l7 (fun x => F_aset_Write_1 x x11)).bind fun x13 => (bif (decide (x13 < 0)) then (appd l7 [x11]).bind fun l14 => (F_aset_Write_l1 l10) (i9 + 1) l14 else (lget l7 x13).bind fun e16 => (F_aset_Write_l1 l10) (i9 + 1) (List.set l7 x13.toNat x11))
def F_aset_Write (set1 : (List Action)) (l2 : (List Action)) : Option (List Action) :=
  (F_slices_Clone_Action set1).bind fun x3 => F_aset_Write_l1 l2 0 x3
theorem c_aset_Write (set1 : (List Action)) (l2 : (List Action)) (r : (List Action)) (h : F_aset_Write set1 l2 = some r) : PCon Try.prog 79 [rd (ksl kAction) set1, rd (ksl kAction) l2] (rd (ksl kAction) r) := by
  refine PCon.of (Con.intro0 Try.func79 rfl Try.ntmps79 rfl fun w H => ?_)
  unfold F_aset_Write at h
  refine AW.seq ?_
  refine AW.region ?_
  refine AOps.cons (op_assign (A := rd (ksl kAction) []) rfl rfl vnil) rfl ?_
  refine AOps.nil ?_
  refine AW.seq ?_
  obtain ⟨x3, hx3, h⟩ := bsome h
  refine AW.region ?_
  refine AOps.cons (op_move (A := rd (ksl kAction) set1) rfl rfl (vt rfl)) rfl ?_
  refine AOps.consT rfl (op_callR 1001 (xs := [.tmp 9]) (c_slices_Clone_Action_o _ _ hx3) (Ent.mk Try.func111 rfl rfl) rfl rfl ⟨vt rfl, trivial⟩ rfl) ?_
  rintro _ ⟨v4, rfl⟩
  refine AOps.cons (op_assign (A := raw v4) rfl rfl (vt rfl)) rfl ?_
  refine AOps.nil ?_
  refine AW.seq ?_
  refine AW.seq ?_
  refine AW.region ?_
  refine AOps.cons (op_move (A := rd (ksl kAction) l2) rfl rfl (vt rfl)) rfl ?_
  refine AOps.cons (op_len' rfl rfl sl66 (vt rfl)) rfl ?_
  refine AOps.cons (op_move (A := rd (kint .i64) 0) rfl rfl (vk rfl)) rfl ?_
  refine AOps.nil ?_
  refine AW.block ?_
  refine AW.loopG (d := []) (ν := (List Action) × Nat × (List Action) × Value) (fun n => Sfx l2 n.2.1 n.1 ∧ F_aset_Write_l1 n.1 n.2.1 n.2.2.1 = some r) (fun n => n.1.length) (fun n => [(5, raw n.2.2.2), (11, rd (ksl kAction) l2), (12, rd (kint .i64) (l2.length : Int)), (13, rd (kint .i64) (n.2.1 : Int))]) (fun n => [(1001, Row n.2.2.2 95 kAction n.2.2.1)]) (l2, 0, x3, v4) ⟨Sfx.start _, h⟩ ⟨rfl, ⟨rfl, rfl, rfl, rfl, trivial⟩, ⟨rfl, trivial⟩⟩ ?_
  rintro ⟨l10, i9, l7, v8⟩ ⟨hsf1, h⟩
  change Sfx l2 i9 l10 at hsf1
  change F_aset_Write_l1 l10 i9 l7 = some r at h
  change AW _ _ _ ⟨slots [(5, raw v8), (11, rd (ksl kAction) l2), (12, rd (kint .i64) (l2.length : Int)), (13, rd (kint .i64) (i9 : Int))], ress [(1001, Row v8 95 kAction l7)], _⟩
  cases l10 with
  | nil =>
    unfold F_aset_Write_l1 at h
    refine AW.seq ?_
    refine AW.region ?_
    refine AOps.cons (op_lss rfl rfl (vt rfl) (vt rfl)) rfl ?_
    refine AOps.nil ?_
    refine AW.seq ?_
    refine AW.cond (vt rfl) (fun hc => absurd (of_decide_eq_true hc) hsf1.nil) (fun hc => ?_)
    refine AW.exit ?_
    refine AW.seq ?_
    refine AW.region ?_
    refine AOps.cons (op_move (A := raw v8) rfl rfl (vt rfl)) rfl ?_
    refine AOps.cons (op_assign (A := raw v8) rfl rfl (vt rfl)) rfl ?_
    refine AOps.nil ?_
    refine AW.freezes [4, 5, 31] 1001 rfl ⟨rfl, rfl, rfl, trivial⟩ rfl ?_
    refine AW.ret ?_
    obtain rfl := Option.some.inj h
    exact ret1 Try.results79 rfl (out_tmp rfl)
  | cons x11 l10 =>
    unfold F_aset_Write_l1 at h
    generalize hgo1 : F_aset_Write_l1 l10 = go1 at h
    refine AW.seq ?_
    refine AW.region ?_
    refine AOps.cons (op_lss rfl rfl (vt rfl) (vt rfl)) rfl ?_
    refine AOps.nil ?_
    refine AW.seq ?_
    refine AW.cond (vt rfl) (fun hc => ?_) (fun hc => absurd hsf1.cons (of_decide_eq_false hc))
    have hlti9 := of_decide_eq_true hc
    refine AW.skip ?_
    refine AW.seq ?_
    refine AW.block ?_
    refine AW.seq ?_
    refine AW.region ?_
    refine AOps.cons (op_indexs' rfl rfl sl66 (vt rfl) (vt rfl) hsf1.lget) rfl ?_
    refine AOps.cons (op_loadp rfl rfl ty95 (vt rfl)) rfl ?_
    refine AOps.consT rfl (op_alloc 8 rfl rfl zr95) ?_
    rintro _ ⟨g12, rfl⟩
    refine AOps.cons (op_store rfl rfl ty95 (vt rfl) (i := 8) rfl (vt rfl)) rfl ?_
    refine AOps.nil ?_
    refine AW.seq ?_
    refine AW.freezeB 7 8 rfl rfl rfl ?_
    obtain ⟨x13, hx13, h⟩ := bsome h
    refine AW.region ?_
    refine AOps.cons (op_move (A := raw v8) rfl rfl (vt rfl)) rfl ?_
    refine AOps.cons (op_fn1 (cs := [.tmp 7]) (CAs := [rp kAction x11]) (fun x => F_aset_Write_1 x x11) rfl rfl (Ent.mk Try.func118 rfl rfl) ⟨vt rfl, trivial⟩ (fun x y h => c_aset_Write_1 _ _ y h)) rfl ?_
    refine AOps.cons (op_callB (xs := [.tmp 17, .tmp 18]) 1001 (c_slices_IndexFunc_Action _ _ _ hx13) (Ent.mk Try.func117 rfl rfl) rfl rfl ⟨vL rfl rfl, vB (vt rfl), trivial⟩) rfl ?_
    refine AOps.cons (op_assign (A := rd (kint .i64) x13) rfl rfl (vt rfl)) rfl ?_
    refine AOps.nil ?_
    refine AW.seq ?_
    refine AW.region ?_
    refine AOps.cons (op_move (A := rd (kint .i64) x13) rfl rfl (vt rfl)) rfl ?_
    refine AOps.cons (op_lss rfl rfl (vt rfl) (vk rfl)) rfl ?_
    refine AOps.nil ?_
    refine AW.cond (vt rfl) (fun hc => ?_) (fun hc => ?_)
    · have h := cond_t hc h
      obtain ⟨l14, hl14, h⟩ := bsome h
      refine AW.region ?_
      refine AOps.cons (op_move (A := raw v8) rfl rfl (vt rfl)) rfl ?_
      refine AOps.cons (op_loadp rfl rfl ty95 (vt rfl)) rfl ?_
      refine AOps.cons (op_buildSliceR (ps := [(0, .tmp 23)]) (l := [x11]) rfl rfl sl66 zr95 rfl rfl ⟨_, _, Lens.idx 1 kAction 0 (by decide), _, rfl, (vt rfl), rfl⟩ rfl) rfl ?_
      refine AOps.consT rfl (op_append' 1001 hl14 rfl rfl el66 (vt rfl) rfl (vt rfl)) ?_
      rintro _ ⟨v15, rfl⟩
      refine AOps.cons (op_assign (A := raw v15) rfl rfl (vt rfl)) rfl ?_
      refine AOps.nil ?_
      refine AW.region ?_
      refine AOps.cons (op_incr (t := 12) rfl rfl (vt rfl) (vk rfl) (vt rfl) hlti9) rfl ?_
      refine AOps.cons (op_move (A := rd (kint .i64) ((i9 + 1 : Nat) : Int)) rfl rfl (vt rfl)) rfl ?_
      refine AOps.nil ?_
      subst hgo1
      exact ⟨(l10, i9 + 1, l14, v15), Nat.lt_succ_self _, ⟨hsf1.next, h⟩, ⟨rfl, ⟨rfl, rfl, rfl, rfl, trivial⟩, ⟨rfl, trivial⟩⟩⟩
    · have h := cond_f hc h
      obtain ⟨e16, he16, h⟩ := bsome h
      refine AW.region ?_
      refine AOps.cons (op_move (A := raw v8) rfl rfl (vt rfl)) rfl ?_
      refine AOps.cons (op_move (A := rd (kint .i64) x13) rfl rfl (vt rfl)) rfl ?_
      refine AOps.cons (op_loadp rfl rfl ty95 (vt rfl)) rfl ?_
      refine AOps.cons (op_indexo' 1001 rfl rfl sl66 (vt rfl) rfl (vt rfl) he16) rfl ?_
      refine AOps.cons (op_storeo' 1001 rfl rfl ty95 (vt rfl) rfl (lget_of he16).2 (vt rfl)) rfl ?_
      refine AOps.nil ?_
      refine AW.region ?_
      refine AOps.cons (op_incr (t := 12) rfl rfl (vt rfl) (vk rfl) (vt rfl) hlti9) rfl ?_
      refine AOps.cons (op_move (A := rd (kint .i64) ((i9 + 1 : Nat) : Int)) rfl rfl (vt rfl)) rfl ?_
      refine AOps.nil ?_
      subst hgo1
      exact ⟨(l10, i9 + 1, (List.set l7 x13.toNat x11), v8), Nat.lt_succ_self _, ⟨hsf1.next, h⟩, ⟨rfl, ⟨rfl, rfl, rfl, rfl, trivial⟩, ⟨rfl, trivial⟩⟩⟩
def F_slices_ContainsFunc_Action (s1 : (List Action)) (f2 : (Action → Option Bool)) : Option Bool :=
  (F_slices_IndexFunc_Action s1 f2).bind fun x3 => some (decide (x3 ≥ 0))
theorem c_slices_ContainsFunc_Action (s1 : (List Action)) (f2 : (Action → Option Bool)) (r : Bool) (h : F_slices_ContainsFunc_Action s1 f2 = some r) : PCon Try.prog 108 [rd (ksl kAction) s1, fn1 Try.prog kAction kbool f2] (rd kbool r) := by
  refine PCon.of (Con.intro0 Try.func108 rfl Try.ntmps108 rfl fun w H => ?_)
  unfold F_slices_ContainsFunc_Action at h
  refine AW.seq ?_
  refine AW.region ?_
  refine AOps.cons (op_assign (A := rd kbool false) rfl rfl vb) rfl ?_
  refine AOps.nil ?_
  refine AW.seq ?_
  obtain ⟨x3, hx3, h⟩ := bsome h
  refine AW.region ?_
  refine AOps.cons (op_move (A := rd (ksl kAction) s1) rfl rfl (vt rfl)) rfl ?_
  refine AOps.cons (op_move (A := fn1 Try.prog kAction kbool f2) rfl rfl (vt rfl)) rfl ?_
  refine AOps.cons (op_call (xs := [.tmp 5, .tmp 6]) (c_slices_IndexFunc_Action _ _ _ hx3) (Ent.mk Try.func117 rfl rfl) rfl rfl ⟨vt rfl, vt rfl, trivial⟩) rfl ?_
  refine AOps.cons (op_geq rfl rfl (vt rfl) (vk rfl)) rfl ?_
  refine AOps.cons (op_assign (A := rd kbool (decide (x3 ≥ 0))) rfl rfl (vt rfl)) rfl ?_
  refine AOps.nil ?_
  refine AW.ret ?_
  obtain rfl := Option.some.inj h
  exact ret1 Try.results108 rfl (out_tmp rfl)
def F_aset_List_1 (a1 : Action) : Option Bool :=
  some (decide (a1.Kind = 22))
theorem c_aset_List_1 (a1 : Action) (r : Bool) (h : F_aset_List_1 a1 = some r) : PCon Try.prog 109 [rd kAction a1] (rd kbool r) := by
  refine PCon.of (Con.intro0 Try.func109 rfl Try.ntmps109 rfl fun w H => ?_)
  unfold F_aset_List_1 at h
  refine AW.seq ?_
  refine AW.region ?_
  refine AOps.consT rfl (op_box 2 rfl rfl (vt rfl)) ?_
  rintro _ ⟨g2, rfl⟩
  refine AOps.cons (op_assign (A := rd kbool false) rfl rfl vb) rfl ?_
  refine AOps.nil ?_
  refine AW.seq ?_
  refine AW.region ?_
  refine AOps.cons (op_field lAction_0 rfl rfl fl95_0 (vt rfl)) rfl ?_
  refine AOps.cons (op_load rfl rfl ty3 (vt rfl) (i := 2) rfl) rfl ?_
  refine AOps.cons (op_eql rfl rfl (vt rfl) (vk rfl)) rfl ?_
  refine AOps.cons (op_assign (A := rd kbool (decide (a1.Kind = 22))) rfl rfl (vt rfl)) rfl ?_
  refine AOps.nil ?_
  refine AW.ret ?_
  obtain rfl := Option.some.inj h
  exact ret1 Try.results109 rfl (out_tmp rfl)
def F_aset_turn (kind1 : Int) : Option Int :=
  (F_slices_Index_int [18, 17, 25, 22, 0] kind1).bind fun x2 => some x2
theorem c_aset_turn (kind1 : Int) (r : Int) (h : F_aset_turn kind1 = some r) : PCon Try.prog 113 [rd (kint .i64) kind1] (rd (kint .i64) r) := by
  refine PCon.of (Con.intro0 Try.func113 rfl Try.ntmps113 rfl fun w H => ?_)
  unfold F_aset_turn at h
  refine AW.seq ?_
  refine AW.region ?_
  refine AOps.cons (op_assign (A := rd (kint .i64) 0) rfl rfl (vk rfl)) rfl ?_
  refine AOps.nil ?_
  refine AW.seq ?_
  obtain ⟨x2, hx2, h⟩ := bsome h
  refine AW.region ?_
  refine AOps.cons (op_buildSliceR (ps := [(0, .const (Value.int IntKind.i64 18)), (1, .const (Value.int IntKind.i64 17)), (2, .const (Value.int IntKind.i64 25)), (3, .const (Value.int IntKind.i64 22)), (4, .const (Value.int IntKind.i64 0))]) (l := [18, 17, 25, 22, 0]) rfl rfl sl23 zr3 rfl rfl ⟨_, _, Lens.idx 5 (kint .i64) 0 (by decide), _, rfl, (vk rfl), _, _, Lens.idx 5 (kint .i64) 1 (by decide), _, rfl, (vk rfl), _, _, Lens.idx 5 (kint .i64) 2 (by decide), _, rfl, (vk rfl), _, _, Lens.idx 5 (kint .i64) 3 (by decide), _, rfl, (vk rfl), _, _, Lens.idx 5 (kint .i64) 4 (by decide), _, rfl, (vk rfl), rfl⟩ rfl) rfl ?_
  refine AOps.cons (op_move (A := rd (kint .i64) kind1) rfl rfl (vt rfl)) rfl ?_
  refine AOps.cons (op_call (xs := [.tmp 3, .tmp 4]) (c_slices_Index_int _ _ _ hx2) (Ent.mk Try.func101 rfl rfl) rfl rfl ⟨vt rfl, vt rfl, trivial⟩) rfl ?_
  refine AOps.cons (op_assign (A := rd (kint .i64) x2) rfl rfl (vt rfl)) rfl ?_
  refine AOps.nil ?_
  refine AW.ret ?_
  obtain rfl := Option.some.inj h
  exact ret1 Try.results113 rfl (out_tmp rfl)
def F_aset_List_2 (a1 : Action) (cp2 : Bool) : Option Bool :=
  (F_aset_turn a1.Kind).bind fun x4 => some ((decide (x4 < 0)) || (cp2 && (decide (a1.Kind = 0))))
theorem c_aset_List_2 (a1 : Action) (cp2 : Bool) (r : Bool) (h : F_aset_List_2 a1 cp2 = some r) : PCon Try.prog 112 [rd kAction a1, rp kbool cp2] (rd kbool r) := by
  refine PCon.of (Con.intro0 Try.func112 rfl Try.ntmps112 rfl fun w H => ?_)
  unfold F_aset_List_2 at h
  refine AW.seq ?_
  refine AW.region ?_
  refine AOps.consT rfl (op_box 3 rfl rfl (vt rfl)) ?_
  rintro _ ⟨g3, rfl⟩
  refine AOps.cons (op_assign (A := rd kbool false) rfl rfl vb) rfl ?_
  refine AOps.nil ?_
  refine AW.seq ?_
  obtain ⟨x4, hx4, h⟩ := bsome h
  refine AW.region ?_
  refine AOps.cons (op_field lAction_0 rfl rfl fl95_0 (vt rfl)) rfl ?_
  refine AOps.cons (op_load rfl rfl ty3 (vt rfl) (i := 3) rfl) rfl ?_
  refine AOps.cons (op_call (xs := [.tmp 5]) (c_aset_turn _ _ hx4) (Ent.mk Try.func113 rfl rfl) rfl rfl ⟨vt rfl, trivial⟩) rfl ?_
  refine AOps.cons (op_lss rfl rfl (vt rfl) (vk rfl)) rfl ?_
  refine AOps.cons (op_move (A := rd kbool (decide (x4 < 0))) rfl rfl (vt rfl)) rfl ?_
  refine AOps.consG (OpG.guard rfl rfl rfl rfl rfl fun hq => op_loadp rfl rfl ty4 (vt rfl)) ?_
  refine AOps.consG (OpG.guardX rfl rfl rfl rfl rfl fun hq => op_move (A := rd kbool cp2) rfl rfl (vgt rfl hq)) ?_
  refine AOps.consG (OpG.guardN rfl rfl rfl rfl rfl fun hq => op_field lAction_0 rfl rfl fl95_0 (vt rfl)) ?_
  refine AOps.consG (OpG.guardN rfl rfl rfl rfl rfl fun hq => op_load rfl rfl ty3 (vgt rfl hq) (i := 3) rfl) ?_
  refine AOps.consG (OpG.guardN rfl rfl rfl rfl rfl fun hq => op_eql rfl rfl (vgt rfl hq) (vk rfl)) ?_
  refine AOps.consG (OpG.guard rfl rfl rfl rfl rfl fun hq => op_all rfl rfl (vgx rfl hq) (vgw rfl hq)) ?_
  refine AOps.cons (op_any rfl rfl (vt rfl) (vt rfl)) rfl ?_
  refine AOps.cons (op_assign (A := rd kbool ((decide (x4 < 0)) || (cp2 && (decide (a1.Kind = 0))))) rfl rfl (vt rfl)) rfl ?_
  refine AOps.nil ?_
  refine AW.ret ?_
  obtain rfl := Option.some.inj h
  exact ret1 Try.results112 rfl (out_tmp rfl)
def F_slices_DeleteFunc_Action_l1 (del3 : (Action → Option Bool)) : Nat → (List Action) → Int → Int → Option (List Action)
  | 0, _, _, _ => none
  | m11 + 1, l8, i9, j10 => (bif (decide (j10 < (l8.length : Int))) then (lget l8 j10).bind fun e12 => (del3 e12).bind fun x14 => (bif (!x14) then (lget l8 i9).bind fun e15 => (F_slices_DeleteFunc_Action_l1 del3 m11) (List.set l8 i9.toNat e12) (IntKind.i64.wrap (i9 + 1)) (IntKind.i64.wrap (j10 + 1)) else (F_slices_DeleteFunc_Action_l1 del3 m11) l8 i9 (IntKind.i64.wrap (j10 + 1))) else (odrop l8 i9).bind fun s16 => (otake (List.take i9.toNat l8 ++ List.replicate (l8.length - i9.toNat) zAction) i9).bind fun s17 => some s17)
def F_slices_DeleteFunc_Action (s1 : (List Action)) (del3 : (Action → Option Bool)) : Option (List Action) :=
  (F_slices_IndexFunc_Action s1 del3).bind fun x4 => (bif (decide (x4 = (-1))) then some s1 else F_slices_DeleteFunc_Action_l1 del3 ((((s1.length : Int) : Int) - (IntKind.i64.wrap (x4 + 1))).toNat + 1) s1 x4 (IntKind.i64.wrap (x4 + 1)))
theorem c_slices_DeleteFunc_Action_o (v2 : Value) (s1 : (List Action)) (del3 : (Action → Option Bool)) (r : (List Action)) (h : F_slices_DeleteFunc_Action s1 del3 = some r) : Con Try.prog 110 [raw v2, fn1 Try.prog kAction kbool del3] (Row v2 95 kAction s1) (fun v => raw v) (fun v => Row v 95 kAction r) := by
  refine Con.intro Try.func110 rfl Try.ntmps110 rfl fun w H X => ?_
  unfold F_slices_DeleteFunc_Action at h
  refine AW.seq ?_
  refine AW.newnil 1001 95 kAction ?_
  refine AW.region ?_
  refine AOps.cons (op_assign rfl rfl vc) rfl ?_
  refine AOps.nil ?_
  refine AW.seq ?_
  obtain ⟨x4, hx4, h⟩ := bsome h
  refine AW.region ?_
  refine AOps.cons (op_move (A := raw v2) rfl rfl (vt rfl)) rfl ?_
  refine AOps.cons (op_move (A := fn1 Try.prog kAction kbool del3) rfl rfl (vt rfl)) rfl ?_
  refine AOps.cons (op_callB (xs := [.tmp 8, .tmp 9]) 0 (c_slices_IndexFunc_Action _ _ _ hx4) (Ent.mk Try.func117 rfl rfl) rfl rfl ⟨vL rfl rfl, vB (vt rfl), trivial⟩) rfl ?_
  refine AOps.cons (op_assign (A := rd (kint .i64) x4) rfl rfl (vt rfl)) rfl ?_
  refine AOps.nil ?_
  refine AW.seq ?_
  refine AW.seq ?_
  refine AW.region ?_
  refine AOps.cons (op_move (A := rd (kint .i64) x4) rfl rfl (vt rfl)) rfl ?_
  refine AOps.cons (op_eql rfl rfl (vt rfl) (vk rfl)) rfl ?_
  refine AOps.nil ?_
  refine AW.cond (vt rfl) (fun hc => ?_) (fun hc => ?_)
  · have h := cond_t hc h
    refine AW.seq ?_
    refine AW.region ?_
    refine AOps.cons (op_move (A := raw v2) rfl rfl (vt rfl)) rfl ?_
    refine AOps.cons (op_assign (A := raw v2) rfl rfl (vt rfl)) rfl ?_
    refine AOps.nil ?_
    refine AW.ret ?_
    obtain rfl := Option.some.inj h
    exact ret1R (i := 0) Try.results110 rfl rfl rfl
  · have h := cond_f hc h
    refine AW.skip ?_
    refine AW.seq ?_
    refine AW.seq ?_
    refine AW.region ?_
    refine AOps.cons (op_move (A := rd (kint .i64) x4) rfl rfl (vt rfl)) rfl ?_
    refine AOps.cons (op_add rfl rfl (vt rfl) (vk rfl)) rfl ?_
    refine AOps.cons (op_assign (A := rd (kint .i64) (IntKind.i64.wrap (x4 + 1))) rfl rfl (vt rfl)) rfl ?_
    refine AOps.nil ?_
    refine AW.block ?_
    refine AW.loopG (d := []) (ν := Nat × (List Action) × Int × Int) (fun n => True ∧ F_slices_DeleteFunc_Action_l1 del3 n.1 n.2.1 n.2.2.1 n.2.2.2 = some r) (fun n => n.1) (fun n => [(0, raw v2), (1, fn1 Try.prog kAction kbool del3), (5, rd (kint .i64) n.2.2.1), (6, rd (kint .i64) n.2.2.2)]) (fun n => [(0, Row v2 95 kAction n.2.1)]) (((((s1.length : Int) : Int) - (IntKind.i64.wrap (x4 + 1))).toNat + 1), s1, x4, (IntKind.i64.wrap (x4 + 1))) ⟨trivial, h⟩ ⟨rfl, ⟨rfl, rfl, rfl, rfl, trivial⟩, ⟨rfl, trivial⟩⟩ ?_
    rintro ⟨m11, l8, i9, j10⟩ ⟨hsf1, h⟩
    change True at hsf1
    change F_slices_DeleteFunc_Action_l1 del3 m11 l8 i9 j10 = some r at h
    change AW _ _ _ ⟨slots [(0, raw v2), (1, fn1 Try.prog kAction kbool del3), (5, rd (kint .i64) i9), (6, rd (kint .i64) j10)], ress [(0, Row v2 95 kAction l8)], _⟩
    cases m11 with
    | zero => cases h
    | succ m11 =>
      unfold F_slices_DeleteFunc_Action_l1 at h
      generalize hgo1 : F_slices_DeleteFunc_Action_l1 del3 m11 = go1 at h
      refine AW.seq ?_
      refine AW.seq ?_
      refine AW.region ?_
      refine AOps.cons (op_move (A := rd (kint .i64) j10) rfl rfl (vt rfl)) rfl ?_
      refine AOps.cons (op_move (A := raw v2) rfl rfl (vt rfl)) rfl ?_
      refine AOps.cons (op_leno 0 rfl rfl sl66 (vt rfl) rfl) rfl ?_
      refine AOps.cons (op_lss rfl rfl (vt rfl) (vt rfl)) rfl ?_
      refine AOps.nil ?_
      refine AW.cond (vt rfl) (fun hc => ?_) (fun hc => ?_)
      · have h := cond_t hc h
        refine AW.skip ?_
        refine AW.seq ?_
        refine AW.block ?_
        refine AW.seq ?_
        obtain ⟨e12, he12, h⟩ := bsome h
        refine AW.region ?_
        refine AOps.cons (op_move (A := raw v2) rfl rfl (vt rfl)) rfl ?_
        refine AOps.cons (op_move (A := rd (kint .i64) j10) rfl rfl (vt rfl)) rfl ?_
        refine AOps.cons (op_indexo' 0 rfl rfl sl66 (vt rfl) rfl (vt rfl) he12) rfl ?_
        refine AOps.cons (op_loado' 0 rfl rfl ty95 (vt rfl) rfl (lget_of he12).2) rfl ?_
        refine AOps.consT rfl (op_alloc 8 rfl rfl zr95) ?_
        rintro _ ⟨g13, rfl⟩
        refine AOps.cons (op_store rfl rfl ty95 (vt rfl) (i := 8) rfl (vt rfl)) rfl ?_
        refine AOps.nil ?_
        refine AW.seq ?_
        obtain ⟨x14, hx14, h⟩ := bsome h
        refine AW.region ?_
        refine AOps.cons (op_move (A := fn1 Try.prog kAction kbool del3) rfl rfl (vt rfl)) rfl ?_
        refine AOps.cons (op_load rfl rfl ty95 (vt rfl) (i := 8) rfl) rfl ?_
        refine AOps.cons (op_call1 hx14 rfl rfl (vt rfl) (vt rfl)) rfl ?_
        refine AOps.cons (op_not rfl rfl (vt rfl)) rfl ?_
        refine AOps.nil ?_
        refine AW.cond (vt rfl) (fun hc => ?_) (fun hc => ?_)
        · have h := cond_t hc h
          refine AW.seq ?_
          obtain ⟨e15, he15, h⟩ := bsome h
          refine AW.region ?_
          refine AOps.cons (op_move (A := raw v2) rfl rfl (vt rfl)) rfl ?_
          refine AOps.cons (op_move (A := rd (kint .i64) i9) rfl rfl (vt rfl)) rfl ?_
          refine AOps.cons (op_load rfl rfl ty95 (vt rfl) (i := 8) rfl) rfl ?_
          refine AOps.cons (op_indexo' 0 rfl rfl sl66 (vt rfl) rfl (vt rfl) he15) rfl ?_
          refine AOps.cons (op_storeo' 0 rfl rfl ty95 (vt rfl) rfl (lget_of he15).2 (vt rfl)) rfl ?_
          refine AOps.nil ?_
          refine AW.region ?_
          refine AOps.cons (op_move (A := rd (kint .i64) i9) rfl rfl (vt rfl)) rfl ?_
          refine AOps.cons (op_add rfl rfl (vt rfl) (vk rfl)) rfl ?_
          refine AOps.cons (op_assign (A := rd (kint .i64) (IntKind.i64.wrap (i9 + 1))) rfl rfl (vt rfl)) rfl ?_
          refine AOps.nil ?_
          refine AW.region ?_
          refine AOps.cons (op_move (A := rd (kint .i64) j10) rfl rfl (vt rfl)) rfl ?_
          refine AOps.cons (op_add rfl rfl (vt rfl) (vk rfl)) rfl ?_
          refine AOps.cons (op_assign (A := rd (kint .i64) (IntKind.i64.wrap (j10 + 1))) rfl rfl (vt rfl)) rfl ?_
          refine AOps.nil ?_
          subst hgo1
          exact ⟨(m11, (List.set l8 i9.toNat e12), (IntKind.i64.wrap (i9 + 1)), (IntKind.i64.wrap (j10 + 1))), Nat.lt_succ_self _, ⟨trivial, h⟩, ⟨rfl, ⟨rfl, rfl, rfl, rfl, trivial⟩, ⟨rfl, trivial⟩⟩⟩
        · have h := cond_f hc h
          refine AW.skip ?_
          refine AW.region ?_
          refine AOps.cons (op_move (A := rd (kint .i64) j10) rfl rfl (vt rfl)) rfl ?_
          refine AOps.cons (op_add rfl rfl (vt rfl) (vk rfl)) rfl ?_
          refine AOps.cons (op_assign (A := rd (kint .i64) (IntKind.i64.wrap (j10 + 1))) rfl rfl (vt rfl)) rfl ?_
          refine AOps.nil ?_
          subst hgo1
          exact ⟨(m11, l8, i9, (IntKind.i64.wrap (j10 + 1))), Nat.lt_succ_self _, ⟨trivial, h⟩, ⟨rfl, ⟨rfl, rfl, rfl, rfl, trivial⟩, ⟨rfl, trivial⟩⟩⟩
      · have h := cond_f hc h
        refine AW.exit ?_
        refine AW.seq ?_
        obtain ⟨s16, hs16, h⟩ := bsome h
        refine AW.region ?_
        refine AOps.cons (op_move (A := raw v2) rfl rfl (vt rfl)) rfl ?_
        refine AOps.cons (op_move (A := rd (kint .i64) i9) rfl rfl (vt rfl)) rfl ?_
        refine AOps.cons (op_sliceo_l 0 hs16 rfl rfl sl66 (vt rfl) rfl (vt rfl)) rfl ?_
        refine AOps.cons (op_clearo 0 rfl rfl sl66 zr95 rfl (vt rfl) rfl (odrop_of hs16).2.1) rfl ?_
        refine AOps.nil ?_
        refine AW.seq ?_
        obtain ⟨s17, hs17, h⟩ := bsome h
        refine AW.region ?_
        refine AOps.cons (op_move (A := raw v2) rfl rfl (vt rfl)) rfl ?_
        refine AOps.cons (op_move (A := rd (kint .i64) i9) rfl rfl (vt rfl)) rfl ?_
        refine AOps.consT rfl (op_sliceo_h 0 hs17 rfl rfl sl66 (vt rfl) rfl (vt rfl)) ?_
        rintro _ ⟨v18, rfl⟩
        refine AOps.cons (op_assign (A := raw v18) rfl rfl (vt rfl)) rfl ?_
        refine AOps.nil ?_
        refine AW.ret ?_
        obtain rfl := Option.some.inj h
        exact ret1R (i := 0) Try.results110 rfl rfl rfl
def F_slices_insertionSortCmpFunc_Action_l2 (a3 : Int) (cmp5 : (Action → Action → Option Int)) (go1 : (List Action) → Int → Option (List Action)) (i9 : Int) : Nat → (List Action) → Int → Option (List Action)
  | 0, _, _ => none
  | m15 + 1, l13, j14 => (opt (decide (j14 > a3)) (lget l13 j14)).bind fun e16 => (opt (decide (j14 > a3)) (lget l13 (IntKind.i64.wrap (j14 - 1)))).bind fun e17 => (opt (decide (j14 > a3)) (cmp5 e16 e17)).bind fun x18 => (bif ((decide (j14 > a3)) && (decide (x18 < 0))) then (lget l13 (IntKind.i64.wrap (j14 - 1))).bind fun e19 => (lget l13 j14).bind fun e20 => (lget l13 j14).bind fun e21 => (lget (List.set l13 j14.toNat e19) (IntKind.i64.wrap (j14 - 1))).bind fun e22 => (F_slices_insertionSortCmpFunc_Action_l2 a3 cmp5 go1 i9 m15) (List.set (List.set l13 j14.toNat e19) (IntKind.i64.wrap (j14 - 1)).toNat e20) (IntKind.i64.wrap (j14 - 1)) else go1 l13 (IntKind.i64.wrap (i9 + 1)))
def F_slices_insertionSortCmpFunc_Action_l1 (b4 : Int) (a3 : Int) (cmp5 : (Action → Action → Option Int)) : Nat → (List Action) → Int → Option (List Action)
  | 0, _, _ => none
  | m10 + 1, l8, i9 => (bif (decide (i9 < b4)) then F_slices_insertionSortCmpFunc_Action_l2 a3 cmp5 (F_slices_insertionSortCmpFunc_Action_l1 b4 a3 cmp5 m10) i9 fuel0 l8 i9 else some l8)
def F_slices_insertionSortCmpFunc_Action (data1 : (List Action)) (a3 : Int) (b4 : Int) (cmp5 : (Action → Action → Option Int)) : Option (List Action) :=
  F_slices_insertionSortCmpFunc_Action_l1 b4 a3 cmp5 (((b4 : Int) - (IntKind.i64.wrap (a3 + 1))).toNat + 1) data1 (IntKind.i64.wrap (a3 + 1))
theorem c_slices_insertionSortCmpFunc_Action_o (v2 : Value) (data1 : (List Action)) (a3 : Int) (b4 : Int) (cmp5 : (Action → Action → Option Int)) (r : (List Action)) (h : F_slices_insertionSortCmpFunc_Action data1 a3 b4 cmp5 = some r) : Con Try.prog 143 [raw v2, rd (kint .i64) a3, rd (kint .i64) b4, fn2 Try.prog kAction kAction (kint .i64) cmp5] (Row v2 95 kAction data1) (fun _ : Unit => top) (fun _ => Row v2 95 kAction r) := by
  refine Con.intro Try.func143 rfl Try.ntmps143 rfl fun w H X => ?_
  unfold F_slices_insertionSortCmpFunc_Action at h
  refine AW.seq ?_
  refine AW.region ?_
  refine AOps.cons (op_move (A := rd (kint .i64) a3) rfl rfl (vt rfl)) rfl ?_
  refine AOps.cons (op_add rfl rfl (vt rfl) (vk rfl)) rfl ?_
  refine AOps.cons (op_assign (A := rd (kint .i64) (IntKind.i64.wrap (a3 + 1))) rfl rfl (vt rfl)) rfl ?_
  refine AOps.nil ?_
  refine AW.block ?_
  refine AW.loopG (d := []) (ν := Nat × (List Action) × Int) (fun n => True ∧ F_slices_insertionSortCmpFunc_Action_l1 b4 a3 cmp5 n.1 n.2.1 n.2.2 = some r) (fun n => n.1) (fun n => [(0, raw v2), (1, rd (kint .i64) a3), (2, rd (kint .i64) b4), (3, fn2 Try.prog kAction kAction (kint .i64) cmp5), (8, rd (kint .i64) n.2.2)]) (fun n => [(0, Row v2 95 kAction n.2.1)]) ((((b4 : Int) - (IntKind.i64.wrap (a3 + 1))).toNat + 1), data1, (IntKind.i64.wrap (a3 + 1))) ⟨trivial, h⟩ ⟨rfl, ⟨rfl, rfl, rfl, rfl, rfl, trivial⟩, ⟨rfl, trivial⟩⟩ ?_
  rintro ⟨m10, l8, i9⟩ ⟨hsf1, h⟩
  change True at hsf1
  change F_slices_insertionSortCmpFunc_Action_l1 b4 a3 cmp5 m10 l8 i9 = some r at h
  change AW _ _ _ ⟨slots [(0, raw v2), (1, rd (kint .i64) a3), (2, rd (kint .i64) b4), (3, fn2 Try.prog kAction kAction (kint .i64) cmp5), (8, rd (kint .i64) i9)], ress [(0, Row v2 95 kAction l8)], _⟩
  cases m10 with
  | zero => cases h
  | succ m10 =>
    unfold F_slices_insertionSortCmpFunc_Action_l1 at h
    generalize hgo1 : F_slices_insertionSortCmpFunc_Action_l1 b4 a3 cmp5 m10 = go1 at h
    refine AW.seq ?_
    refine AW.seq ?_
    refine AW.region ?_
    refine AOps.cons (op_move (A := rd (kint .i64) i9) rfl rfl (vt rfl)) rfl ?_
    refine AOps.cons (op_move (A := rd (kint .i64) b4) rfl rfl (vt rfl)) rfl ?_
    refine AOps.cons (op_lss rfl rfl (vt rfl) (vt rfl)) rfl ?_
    refine AOps.nil ?_
    refine AW.cond (vt rfl) (fun hc => ?_) (fun hc => ?_)
    · have h := cond_t hc h
      refine AW.skip ?_
      refine AW.seq ?_
      refine AW.block ?_
      refine AW.seq ?_
      refine AW.region ?_
      refine AOps.cons (op_move (A := rd (kint .i64) i9) rfl rfl (vt rfl)) rfl ?_
      refine AOps.cons (op_assign (A := rd (kint .i64) i9) rfl rfl (vt rfl)) rfl ?_
      refine AOps.nil ?_
      refine AW.block ?_
      refine AW.loopG (d := []) (ν := Nat × (List Action) × Int) (fun n => True ∧ F_slices_insertionSortCmpFunc_Action_l2 a3 cmp5 go1 i9 n.1 n.2.1 n.2.2 = some r) (fun n => n.1) (fun n => [(0, raw v2), (1, rd (kint .i64) a3), (2, rd (kint .i64) b4), (3, fn2 Try.prog kAction kAction (kint .i64) cmp5), (8, rd (kint .i64) i9), (9, rd (kint .i64) n.2.2)]) (fun n => [(0, Row v2 95 kAction n.2.1)]) (fuel0, l8, i9) ⟨trivial, h⟩ ⟨rfl, ⟨rfl, rfl, rfl, rfl, rfl, rfl, trivial⟩, ⟨rfl, trivial⟩⟩ ?_
      rintro ⟨m15, l13, j14⟩ ⟨hsf2, h⟩
      change True at hsf2
      change F_slices_insertionSortCmpFunc_Action_l2 a3 cmp5 go1 i9 m15 l13 j14 = some r at h
      change AW _ _ _ ⟨slots [(0, raw v2), (1, rd (kint .i64) a3), (2, rd (kint .i64) b4), (3, fn2 Try.prog kAction kAction (kint .i64) cmp5), (8, rd (kint .i64) i9), (9, rd (kint .i64) j14)], ress [(0, Row v2 95 kAction l13)], _⟩
      cases m15 with
      | zero => cases h
      | succ m15 =>
        unfold F_slices_insertionSortCmpFunc_Action_l2 at h
        generalize hgo2 : F_slices_insertionSortCmpFunc_Action_l2 a3 cmp5 go1 i9 m15 = go2 at h
        refine AW.seq ?_
        refine AW.seq ?_
        obtain ⟨e16, he16, h⟩ := bsome h
        obtain ⟨e17, he17, h⟩ := bsome h
        obtain ⟨x18, hx18, h⟩ := bsome h
        refine AW.regionAny [⟨[9], [18], [], []⟩, ⟨[1], [19], [], []⟩, ⟨[18, 19], [20], [], []⟩, ⟨[20], [21], [], []⟩, ⟨[3, 21], [22], [], []⟩, ⟨[0, 21], [23], [], []⟩, ⟨[9, 21], [24], [], []⟩, ⟨[23, 24, 21], [25], [0], []⟩, ⟨[25, 21], [26], [0], []⟩, ⟨[0, 21], [27], [], []⟩, ⟨[9, 21], [28], [], []⟩, ⟨[28, 21], [29], [], []⟩, ⟨[27, 29, 21], [30], [0], []⟩, ⟨[30, 21], [31], [0], []⟩, ⟨[22, 26, 31, 21], [32], [], []⟩, ⟨[32, 21], [33], [], []⟩, ⟨[33, 21], [34], [], []⟩] mixed (by kernel_rfl) ?_
        refine SeqA.cons (loc [9] [] rfl rfl fun S hs hr => op_move (A := rd (kint .i64) j14) rfl rfl (vt ((hs 9 rfl).trans rfl))) ⟨rfl, rfl, rfl, rfl⟩ ?_
        refine SeqA.cons (loc [1] [] rfl rfl fun S hs hr => op_move (A := rd (kint .i64) a3) rfl rfl (vt ((hs 1 rfl).trans rfl))) ⟨rfl, rfl, rfl, rfl⟩ ?_
        refine SeqA.cons (loc [18, 19] [] rfl rfl fun S hs hr => op_gtr rfl rfl (vt ((hs 18 rfl).trans rfl)) (vt ((hs 19 rfl).trans rfl))) ⟨rfl, rfl, rfl, rfl⟩ ?_
        refine SeqA.cons (loc [20] [] rfl rfl fun S hs hr => op_move (A := rd kbool (decide (j14 > a3))) rfl rfl (vt ((hs 20 rfl).trans rfl))) ⟨rfl, rfl, rfl, rfl⟩ ?_
        refine SeqA.cons (locg [3, 21] [] rfl rfl rfl rfl rfl rfl rfl fun hq S hs hr => op_move (A := fn2 Try.prog kAction kAction (kint .i64) cmp5) rfl rfl (vt ((hs 3 rfl).trans rfl))) ⟨rfl, rfl, rfl, rfl⟩ ?_
        refine SeqA.cons (locg [0, 21] [] rfl rfl rfl rfl rfl rfl rfl fun hq S hs hr => op_move (A := raw v2) rfl rfl (vt ((hs 0 rfl).trans rfl))) ⟨rfl, rfl, rfl, rfl⟩ ?_
        refine SeqA.cons (locg [9, 21] [] rfl rfl rfl rfl rfl rfl rfl fun hq S hs hr => op_move (A := rd (kint .i64) j14) rfl rfl (vt ((hs 9 rfl).trans rfl))) ⟨rfl, rfl, rfl, rfl⟩ ?_
        refine SeqA.cons (locg [23, 24, 21] [0] rfl rfl rfl rfl rfl rfl rfl fun hq S hs hr => op_indexo' 0 rfl rfl sl66 (vgt ((hs 23 rfl).trans rfl) hq) ((hr 0 rfl).trans rfl) (vgt ((hs 24 rfl).trans rfl) hq) (opt_t he16 hq)) ⟨rfl, rfl, rfl, rfl⟩ ?_
        refine SeqA.cons (locg [25, 21] [0] rfl rfl rfl rfl rfl rfl rfl fun hq S hs hr => op_loado' 0 rfl rfl ty95 (vgt ((hs 25 rfl).trans rfl) hq) ((hr 0 rfl).trans rfl) (lget_of (opt_t he16 hq)).2) ⟨rfl, rfl, rfl, rfl⟩ ?_
        refine SeqA.cons (locg [0, 21] [] rfl rfl rfl rfl rfl rfl rfl fun hq S hs hr => op_move (A := raw v2) rfl rfl (vt ((hs 0 rfl).trans rfl))) ⟨rfl, rfl, rfl, rfl⟩ ?_
        refine SeqA.cons (locg [9, 21] [] rfl rfl rfl rfl rfl rfl rfl fun hq S hs hr => op_move (A := rd (kint .i64) j14) rfl rfl (vt ((hs 9 rfl).trans rfl))) ⟨rfl, rfl, rfl, rfl⟩ ?_
        refine SeqA.cons (locg [28, 21] [] rfl rfl rfl rfl rfl rfl rfl fun hq S hs hr => op_sub rfl rfl (vgt ((hs 28 rfl).trans rfl) hq) (vk rfl)) ⟨rfl, rfl, rfl, rfl⟩ ?_
        refine SeqA.cons (locg [27, 29, 21] [0] rfl rfl rfl rfl rfl rfl rfl fun hq S hs hr => op_indexo' 0 rfl rfl sl66 (vgt ((hs 27 rfl).trans rfl) hq) ((hr 0 rfl).trans rfl) (vgt ((hs 29 rfl).trans rfl) hq) (opt_t he17 hq)) ⟨rfl, rfl, rfl, rfl⟩ ?_
        refine SeqA.cons (locg [30, 21] [0] rfl rfl rfl rfl rfl rfl rfl fun hq S hs hr => op_loado' 0 rfl rfl ty95 (vgt ((hs 30 rfl).trans rfl) hq) ((hr 0 rfl).trans rfl) (lget_of (opt_t he17 hq)).2) ⟨rfl, rfl, rfl, rfl⟩ ?_
        refine SeqA.cons (locg [22, 26, 31, 21] [] rfl rfl rfl rfl rfl rfl rfl fun hq S hs hr => op_call2 (opt_t hx18 hq) rfl rfl (vgt ((hs 22 rfl).trans rfl) hq) (vgt ((hs 26 rfl).trans rfl) hq) (vgt ((hs 31 rfl).trans rfl) hq)) ⟨rfl, rfl, rfl, rfl⟩ ?_
        refine SeqA.cons (locg [32, 21] [] rfl rfl rfl rfl rfl rfl rfl fun hq S hs hr => op_lss rfl rfl (vgt ((hs 32 rfl).trans rfl) hq) (vk rfl)) ⟨rfl, rfl, rfl, rfl⟩ ?_
        refine SeqA.cons (loc [33, 21] [] rfl rfl fun S hs hr => op_all rfl rfl (vt ((hs 21 rfl).trans rfl)) (vt ((hs 33 rfl).trans rfl))) ⟨rfl, rfl, rfl, rfl⟩ ?_
        refine AW.cond (vt rfl) (fun hc => ?_) (fun hc => ?_)
        · have h := cond_t hc h
          refine AW.skip ?_
          refine AW.seq ?_
          refine AW.block ?_
          refine AW.vlen 0 rfl fun hvl0_273 => ?_
          obtain ⟨e19, he19, h⟩ := bsome h
          obtain ⟨e20, he20, h⟩ := bsome h
          obtain ⟨e21, he21, h⟩ := bsome h
          obtain ⟨e22, he22, h⟩ := bsome h
          refine AW.regionAny [⟨[0], [37], [], []⟩, ⟨[9], [38], [], []⟩, ⟨[0], [39], [], []⟩, ⟨[9], [40], [], []⟩, ⟨[40], [41], [], []⟩, ⟨[0], [42], [], []⟩, ⟨[9], [43], [], []⟩, ⟨[43], [44], [], []⟩, ⟨[42, 44], [45], [], []⟩, ⟨[45], [46], [0], []⟩, ⟨[0], [47], [], []⟩, ⟨[9], [48], [], []⟩, ⟨[47, 48], [49], [], []⟩, ⟨[49], [50], [0], []⟩, ⟨[37, 38], [51], [], []⟩, ⟨[51, 46], [], [0], [0]⟩, ⟨[39, 41], [52], [], []⟩, ⟨[52, 50], [], [0], [0]⟩] mixed (by kernel_rfl) ?_
          refine SeqA.cons (loc [0] [] rfl rfl fun S hs hr => op_move (A := raw v2) rfl rfl (vt ((hs 0 rfl).trans rfl))) ⟨rfl, rfl, rfl, rfl⟩ ?_
          refine SeqA.cons (loc [9] [] rfl rfl fun S hs hr => op_move (A := rd (kint .i64) j14) rfl rfl (vt ((hs 9 rfl).trans rfl))) ⟨rfl, rfl, rfl, rfl⟩ ?_
          refine SeqA.cons (loc [0] [] rfl rfl fun S hs hr => op_move (A := raw v2) rfl rfl (vt ((hs 0 rfl).trans rfl))) ⟨rfl, rfl, rfl, rfl⟩ ?_
          refine SeqA.cons (loc [9] [] rfl rfl fun S hs hr => op_move (A := rd (kint .i64) j14) rfl rfl (vt ((hs 9 rfl).trans rfl))) ⟨rfl, rfl, rfl, rfl⟩ ?_
          refine SeqA.cons (loc [40] [] rfl rfl fun S hs hr => op_sub rfl rfl (vt ((hs 40 rfl).trans rfl)) (vk rfl)) ⟨rfl, rfl, rfl, rfl⟩ ?_
          refine SeqA.cons (loc [0] [] rfl rfl fun S hs hr => op_move (A := raw v2) rfl rfl (vt ((hs 0 rfl).trans rfl))) ⟨rfl, rfl, rfl, rfl⟩ ?_
          refine SeqA.cons (loc [9] [] rfl rfl fun S hs hr => op_move (A := rd (kint .i64) j14) rfl rfl (vt ((hs 9 rfl).trans rfl))) ⟨rfl, rfl, rfl, rfl⟩ ?_
          refine SeqA.cons (loc [43] [] rfl rfl fun S hs hr => op_sub rfl rfl (vt ((hs 43 rfl).trans rfl)) (vk rfl)) ⟨rfl, rfl, rfl, rfl⟩ ?_
          refine SeqA.cons (loc [42, 44] [] rfl rfl fun S hs hr => op_indexoP (l := l13) hvl0_273 rfl rfl rfl sl66 (vt ((hs 42 rfl).trans rfl)) (vt ((hs 44 rfl).trans rfl)) he19) ⟨rfl, rfl, rfl, rfl⟩ ?_
          refine SeqA.cons (loc [45] [0] rfl rfl fun S hs hr => op_loado' 0 rfl rfl ty95 (vt ((hs 45 rfl).trans rfl)) ((hr 0 rfl).trans rfl) (lget_of he19).2) ⟨rfl, rfl, rfl, rfl⟩ ?_
          refine SeqA.cons (loc [0] [] rfl rfl fun S hs hr => op_move (A := raw v2) rfl rfl (vt ((hs 0 rfl).trans rfl))) ⟨rfl, rfl, rfl, rfl⟩ ?_
          refine SeqA.cons (loc [9] [] rfl rfl fun S hs hr => op_move (A := rd (kint .i64) j14) rfl rfl (vt ((hs 9 rfl).trans rfl))) ⟨rfl, rfl, rfl, rfl⟩ ?_
          refine SeqA.cons (loc [47, 48] [] rfl rfl fun S hs hr => op_indexoP (l := l13) hvl0_273 rfl rfl rfl sl66 (vt ((hs 47 rfl).trans rfl)) (vt ((hs 48 rfl).trans rfl)) he20) ⟨rfl, rfl, rfl, rfl⟩ ?_
          refine SeqA.cons (loc [49] [0] rfl rfl fun S hs hr => op_loado' 0 rfl rfl ty95 (vt ((hs 49 rfl).trans rfl)) ((hr 0 rfl).trans rfl) (lget_of he20).2) ⟨rfl, rfl, rfl, rfl⟩ ?_
          refine SeqA.cons (loc [37, 38] [] rfl rfl fun S hs hr => op_indexoP (l := l13) hvl0_273 rfl rfl rfl sl66 (vt ((hs 37 rfl).trans rfl)) (vt ((hs 38 rfl).trans rfl)) he21) ⟨rfl, rfl, rfl, rfl⟩ ?_
          refine SeqA.cons (locr [51, 46] [0] rfl fun S hs hr => op_storeo' 0 rfl rfl ty95 (vt ((hs 51 rfl).trans rfl)) ((hr 0 rfl).trans rfl) (lget_of he21).2 (vt ((hs 46 rfl).trans rfl))) ⟨rfl, rfl, rfl, rfl⟩ ?_
          refine SeqA.cons (loc [39, 41] [] rfl rfl fun S hs hr => op_indexoP (l := (List.set l13 j14.toNat e19)) hvl0_273 (by simp) rfl rfl sl66 (vt ((hs 39 rfl).trans rfl)) (vt ((hs 41 rfl).trans rfl)) he22) ⟨rfl, rfl, rfl, rfl⟩ ?_
          refine SeqA.cons (locr [52, 50] [0] rfl fun S hs hr => op_storeo' 0 rfl rfl ty95 (vt ((hs 52 rfl).trans rfl)) ((hr 0 rfl).trans rfl) (lget_of he22).2 (vt ((hs 50 rfl).trans rfl))) ⟨rfl, rfl, rfl, rfl⟩ ?_
          refine AW.region ?_
          refine AOps.cons (op_move (A := rd (kint .i64) j14) rfl rfl (vt rfl)) rfl ?_
          refine AOps.cons (op_sub rfl rfl (vt rfl) (vk rfl)) rfl ?_
          refine AOps.cons (op_assign (A := rd (kint .i64) (IntKind.i64.wrap (j14 - 1))) rfl rfl (vt rfl)) rfl ?_
          refine AOps.nil ?_
          subst hgo2
          exact ⟨(m15, (List.set (List.set l13 j14.toNat e19) (IntKind.i64.wrap (j14 - 1)).toNat e20), (IntKind.i64.wrap (j14 - 1))), Nat.lt_succ_self _, ⟨trivial, h⟩, ⟨rfl, ⟨rfl, rfl, rfl, rfl, rfl, rfl, trivial⟩, ⟨rfl, trivial⟩⟩⟩
        · have h := cond_f hc h
          refine AW.exit ?_
          refine AW.region ?_
          refine AOps.cons (op_move (A := rd (kint .i64) i9) rfl rfl (vt rfl)) rfl ?_
          refine AOps.cons (op_add rfl rfl (vt rfl) (vk rfl)) rfl ?_
          refine AOps.cons (op_assign (A := rd (kint .i64) (IntKind.i64.wrap (i9 + 1))) rfl rfl (vt rfl)) rfl ?_
          refine AOps.nil ?_
          subst hgo1
          exact ⟨(m10, l13, (IntKind.i64.wrap (i9 + 1))), Nat.lt_succ_self _, ⟨trivial, h⟩, ⟨rfl, ⟨rfl, rfl, rfl, rfl, rfl, trivial⟩, ⟨rfl, trivial⟩⟩⟩
    · have h := cond_f hc h
      refine AW.exit ?_
      obtain rfl := Option.some.inj h
      exact ret0Y (i := 0) Try.results143 rfl rfl
end Go.Proofs.Ytknpgojdkobgjaa.W
