/- A part of the proof. -/
import Derived.Test.YtknpgojdkobgjaaGreatL1
import Derived.Test.YtknpgojdkobgjaaGreatProg
import Derived.KernelRfl
set_option linter.unusedVariables false
set_option maxRecDepth 4000
set_option linter.unusedSimpArgs false
namespace Go.Proofs.YtknpgojdkobgjaaGreat.W
open Go Go.Wb
structure Wide where
  Hi : (BitVec 64)
  Lo : (BitVec 64)
  deriving DecidableEq, Inhabited
def kWide : Kd Wide := kiso (kpair ku64 ku64) (fun x => (x.Hi, x.Lo))
instance : PureK kWide := inferInstanceAs (PureK (kiso (kpair ku64 ku64) (fun (x : Wide) => (x.Hi, x.Lo))))
def lWide_0 : Lens kWide ku64 := Lens.iso (k := (kpair ku64 ku64)) (Lens.fst _ _) Wide.Hi (fun x y => { x with Hi := y }) (fun _ => rfl) (fun _ _ => rfl)
def lWide_1 : Lens kWide ku64 := Lens.iso (k := (kpair ku64 ku64)) (Lens.snd _ _) Wide.Lo (fun x y => { x with Lo := y }) (fun _ => rfl) (fun _ _ => rfl)
def zWide : Wide := ⟨0, 0⟩
theorem kzWide : KZ kWide zWide [(Value.int IntKind.u64 0), (Value.int IntKind.u64 0)] := kz_iso (kz_pair kz_u64 kz_u64)
structure Oxm where
  Field : Int
  Masked : Bool
  Value : Wide
  Mask : Wide
  deriving DecidableEq, Inhabited
def kOxm : Kd Oxm := kiso (kpair (kint .i64) (kpair kbool (kpair kWide kWide))) (fun x => (x.Field, (x.Masked, (x.Value, x.Mask))))
instance : PureK kOxm := inferInstanceAs (PureK (kiso (kpair (kint .i64) (kpair kbool (kpair kWide kWide))) (fun (x : Oxm) => (x.Field, (x.Masked, (x.Value, x.Mask))))))
def lOxm_0 : Lens kOxm (kint .i64) := Lens.iso (k := (kpair (kint .i64) (kpair kbool (kpair kWide kWide)))) (Lens.fst _ _) Oxm.Field (fun x y => { x with Field := y }) (fun _ => rfl) (fun _ _ => rfl)
def lOxm_1 : Lens kOxm kbool := Lens.iso (k := (kpair (kint .i64) (kpair kbool (kpair kWide kWide)))) (Lens.comp (Lens.snd _ _) (Lens.fst _ _)) Oxm.Masked (fun x y => { x with Masked := y }) (fun _ => rfl) (fun _ _ => rfl)
def lOxm_2 : Lens kOxm kWide := Lens.iso (k := (kpair (kint .i64) (kpair kbool (kpair kWide kWide)))) (Lens.comp (Lens.comp (Lens.snd _ _) (Lens.snd _ _)) (Lens.fst _ _)) Oxm.Value (fun x y => { x with Value := y }) (fun _ => rfl) (fun _ _ => rfl)
def lOxm_3 : Lens kOxm kWide := Lens.iso (k := (kpair (kint .i64) (kpair kbool (kpair kWide kWide)))) (Lens.comp (Lens.comp (Lens.snd _ _) (Lens.snd _ _)) (Lens.snd _ _)) Oxm.Mask (fun x y => { x with Mask := y }) (fun _ => rfl) (fun _ _ => rfl)
def zOxm : Oxm := ⟨0, false, zWide, zWide⟩
theorem kzOxm : KZ kOxm zOxm [(Value.int IntKind.i64 0), (Value.bool false), (Value.int IntKind.u64 0), (Value.int IntKind.u64 0), (Value.int IntKind.u64 0), (Value.int IntKind.u64 0)] := kz_iso (kz_pair kz_i64 (kz_pair kz_bool (kz_pair kzWide kzWide)))
structure Action where
  Kind : Int
  Port : Int
  Max : Int
  Group : Int
  Ether : Int
  Oxm : Oxm
  deriving DecidableEq, Inhabited
def kAction : Kd Action := kiso (kpair (kint .i64) (kpair (kint .i64) (kpair (kint .i64) (kpair (kint .i64) (kpair (kint .i64) kOxm))))) (fun x => (x.Kind, (x.Port, (x.Max, (x.Group, (x.Ether, x.Oxm))))))
instance : PureK kAction := inferInstanceAs (PureK (kiso (kpair (kint .i64) (kpair (kint .i64) (kpair (kint .i64) (kpair (kint .i64) (kpair (kint .i64) kOxm))))) (fun (x : Action) => (x.Kind, (x.Port, (x.Max, (x.Group, (x.Ether, x.Oxm))))))))
def lAction_0 : Lens kAction (kint .i64) := Lens.iso (k := (kpair (kint .i64) (kpair (kint .i64) (kpair (kint .i64) (kpair (kint .i64) (kpair (kint .i64) kOxm)))))) (Lens.fst _ _) Action.Kind (fun x y => { x with Kind := y }) (fun _ => rfl) (fun _ _ => rfl)
def lAction_1 : Lens kAction (kint .i64) := Lens.iso (k := (kpair (kint .i64) (kpair (kint .i64) (kpair (kint .i64) (kpair (kint .i64) (kpair (kint .i64) kOxm)))))) (Lens.comp (Lens.snd _ _) (Lens.fst _ _)) Action.Port (fun x y => { x with Port := y }) (fun _ => rfl) (fun _ _ => rfl)
def lAction_2 : Lens kAction (kint .i64) := Lens.iso (k := (kpair (kint .i64) (kpair (kint .i64) (kpair (kint .i64) (kpair (kint .i64) (kpair (kint .i64) kOxm)))))) (Lens.comp (Lens.comp (Lens.snd _ _) (Lens.snd _ _)) (Lens.fst _ _)) Action.Max (fun x y => { x with Max := y }) (fun _ => rfl) (fun _ _ => rfl)
def lAction_3 : Lens kAction (kint .i64) := Lens.iso (k := (kpair (kint .i64) (kpair (kint .i64) (kpair (kint .i64) (kpair (kint .i64) (kpair (kint .i64) kOxm)))))) (Lens.comp (Lens.comp (Lens.comp (Lens.snd _ _) (Lens.snd _ _)) (Lens.snd _ _)) (Lens.fst _ _)) Action.Group (fun x y => { x with Group := y }) (fun _ => rfl) (fun _ _ => rfl)
def lAction_5 : Lens kAction kOxm := Lens.iso (k := (kpair (kint .i64) (kpair (kint .i64) (kpair (kint .i64) (kpair (kint .i64) (kpair (kint .i64) kOxm)))))) (Lens.comp (Lens.comp (Lens.comp (Lens.comp (Lens.snd _ _) (Lens.snd _ _)) (Lens.snd _ _)) (Lens.snd _ _)) (Lens.snd _ _)) Action.Oxm (fun x y => { x with Oxm := y }) (fun _ => rfl) (fun _ _ => rfl)
def zAction : Action := ⟨0, 0, 0, 0, 0, zOxm⟩
theorem kzAction : KZ kAction zAction [(Value.int IntKind.i64 0), (Value.int IntKind.i64 0), (Value.int IntKind.i64 0), (Value.int IntKind.i64 0), (Value.int IntKind.i64 0), (Value.int IntKind.i64 0), (Value.bool false), (Value.int IntKind.u64 0), (Value.int IntKind.u64 0), (Value.int IntKind.u64 0), (Value.int IntKind.u64 0)] := kz_iso (kz_pair kz_i64 (kz_pair kz_i64 (kz_pair kz_i64 (kz_pair kz_i64 (kz_pair kz_i64 kzOxm)))))
structure Inst where
  Kind : Int
  Table : Int
  Value : Wide
  Mask : Wide
  Acts : (List Action)
  deriving DecidableEq, Inhabited
def kInst : Kd Inst := kiso (kpair (kint .i64) (kpair (kint .i64) (kpair kWide (kpair kWide (ksl kAction))))) (fun x => (x.Kind, (x.Table, (x.Value, (x.Mask, x.Acts)))))
def lInst_0 : Lens kInst (kint .i64) := Lens.iso (k := (kpair (kint .i64) (kpair (kint .i64) (kpair kWide (kpair kWide (ksl kAction)))))) (Lens.fst _ _) Inst.Kind (fun x y => { x with Kind := y }) (fun _ => rfl) (fun _ _ => rfl)
def lInst_1 : Lens kInst (kint .i64) := Lens.iso (k := (kpair (kint .i64) (kpair (kint .i64) (kpair kWide (kpair kWide (ksl kAction)))))) (Lens.comp (Lens.snd _ _) (Lens.fst _ _)) Inst.Table (fun x y => { x with Table := y }) (fun _ => rfl) (fun _ _ => rfl)
def lInst_2 : Lens kInst kWide := Lens.iso (k := (kpair (kint .i64) (kpair (kint .i64) (kpair kWide (kpair kWide (ksl kAction)))))) (Lens.comp (Lens.comp (Lens.snd _ _) (Lens.snd _ _)) (Lens.fst _ _)) Inst.Value (fun x y => { x with Value := y }) (fun _ => rfl) (fun _ _ => rfl)
def lInst_3 : Lens kInst kWide := Lens.iso (k := (kpair (kint .i64) (kpair (kint .i64) (kpair kWide (kpair kWide (ksl kAction)))))) (Lens.comp (Lens.comp (Lens.comp (Lens.snd _ _) (Lens.snd _ _)) (Lens.snd _ _)) (Lens.fst _ _)) Inst.Mask (fun x y => { x with Mask := y }) (fun _ => rfl) (fun _ _ => rfl)
def lInst_4 : Lens kInst (ksl kAction) := Lens.iso (k := (kpair (kint .i64) (kpair (kint .i64) (kpair kWide (kpair kWide (ksl kAction)))))) (Lens.comp (Lens.comp (Lens.comp (Lens.snd _ _) (Lens.snd _ _)) (Lens.snd _ _)) (Lens.snd _ _)) Inst.Acts (fun x y => { x with Acts := y }) (fun _ => rfl) (fun _ _ => rfl)
def zInst : Inst := ⟨0, 0, zWide, zWide, []⟩
theorem kzInst : KZ kInst zInst [(Value.int IntKind.i64 0), (Value.int IntKind.i64 0), (Value.int IntKind.u64 0), (Value.int IntKind.u64 0), (Value.int IntKind.u64 0), (Value.int IntKind.u64 0), (Value.slice none 0 0)] := kz_iso (kz_pair kz_i64 (kz_pair kz_i64 (kz_pair kzWide (kz_pair kzWide (kz_sl _)))))
structure Flow where
  Cookie : (BitVec 64)
  Priority : Int
  Idle : Int
  Hard : Int
  Flags : Int
  Match : (List Oxm)
  Insts : (List Inst)
  deriving DecidableEq, Inhabited
def kFlow : Kd Flow := kiso (kpair ku64 (kpair (kint .i64) (kpair (kint .i64) (kpair (kint .i64) (kpair (kint .i64) (kpair (ksl kOxm) (ksl kInst))))))) (fun x => (x.Cookie, (x.Priority, (x.Idle, (x.Hard, (x.Flags, (x.Match, x.Insts)))))))
def lFlow_1 : Lens kFlow (kint .i64) := Lens.iso (k := (kpair ku64 (kpair (kint .i64) (kpair (kint .i64) (kpair (kint .i64) (kpair (kint .i64) (kpair (ksl kOxm) (ksl kInst)))))))) (Lens.comp (Lens.snd _ _) (Lens.fst _ _)) Flow.Priority (fun x y => { x with Priority := y }) (fun _ => rfl) (fun _ _ => rfl)
def lFlow_5 : Lens kFlow (ksl kOxm) := Lens.iso (k := (kpair ku64 (kpair (kint .i64) (kpair (kint .i64) (kpair (kint .i64) (kpair (kint .i64) (kpair (ksl kOxm) (ksl kInst)))))))) (Lens.comp (Lens.comp (Lens.comp (Lens.comp (Lens.comp (Lens.snd _ _) (Lens.snd _ _)) (Lens.snd _ _)) (Lens.snd _ _)) (Lens.snd _ _)) (Lens.fst _ _)) Flow.Match (fun x y => { x with Match := y }) (fun _ => rfl) (fun _ _ => rfl)
def lFlow_6 : Lens kFlow (ksl kInst) := Lens.iso (k := (kpair ku64 (kpair (kint .i64) (kpair (kint .i64) (kpair (kint .i64) (kpair (kint .i64) (kpair (ksl kOxm) (ksl kInst)))))))) (Lens.comp (Lens.comp (Lens.comp (Lens.comp (Lens.comp (Lens.snd _ _) (Lens.snd _ _)) (Lens.snd _ _)) (Lens.snd _ _)) (Lens.snd _ _)) (Lens.snd _ _)) Flow.Insts (fun x y => { x with Insts := y }) (fun _ => rfl) (fun _ _ => rfl)
def zFlow : Flow := ⟨0, 0, 0, 0, 0, [], []⟩
theorem kzFlow : KZ kFlow zFlow [(Value.int IntKind.u64 0), (Value.int IntKind.i64 0), (Value.int IntKind.i64 0), (Value.int IntKind.i64 0), (Value.int IntKind.i64 0), (Value.slice none 0 0), (Value.slice none 0 0)] := kz_iso (kz_pair kz_u64 (kz_pair kz_i64 (kz_pair kz_i64 (kz_pair kz_i64 (kz_pair kz_i64 (kz_pair (kz_sl _) (kz_sl _)))))))
structure Bucket where
  Weight : Int
  Watch : Int
  WatchGroup : Int
  Acts : (List Action)
  deriving DecidableEq, Inhabited
def kBucket : Kd Bucket := kiso (kpair (kint .i64) (kpair (kint .i64) (kpair (kint .i64) (ksl kAction)))) (fun x => (x.Weight, (x.Watch, (x.WatchGroup, x.Acts))))
def lBucket_1 : Lens kBucket (kint .i64) := Lens.iso (k := (kpair (kint .i64) (kpair (kint .i64) (kpair (kint .i64) (ksl kAction))))) (Lens.comp (Lens.snd _ _) (Lens.fst _ _)) Bucket.Watch (fun x y => { x with Watch := y }) (fun _ => rfl) (fun _ _ => rfl)
def lBucket_3 : Lens kBucket (ksl kAction) := Lens.iso (k := (kpair (kint .i64) (kpair (kint .i64) (kpair (kint .i64) (ksl kAction))))) (Lens.comp (Lens.comp (Lens.snd _ _) (Lens.snd _ _)) (Lens.snd _ _)) Bucket.Acts (fun x y => { x with Acts := y }) (fun _ => rfl) (fun _ _ => rfl)
def zBucket : Bucket := ⟨0, 0, 0, []⟩
theorem kzBucket : KZ kBucket zBucket [(Value.int IntKind.i64 0), (Value.int IntKind.i64 0), (Value.int IntKind.i64 0), (Value.slice none 0 0)] := kz_iso (kz_pair kz_i64 (kz_pair kz_i64 (kz_pair kz_i64 (kz_sl _))))
structure Group where
  ID : Int
  Kind : Int
  Buckets : (List Bucket)
  deriving DecidableEq, Inhabited
def kGroup : Kd Group := kiso (kpair (kint .i64) (kpair (kint .i64) (ksl kBucket))) (fun x => (x.ID, (x.Kind, x.Buckets)))
def lGroup_0 : Lens kGroup (kint .i64) := Lens.iso (k := (kpair (kint .i64) (kpair (kint .i64) (ksl kBucket)))) (Lens.fst _ _) Group.ID (fun x y => { x with ID := y }) (fun _ => rfl) (fun _ _ => rfl)
def lGroup_1 : Lens kGroup (kint .i64) := Lens.iso (k := (kpair (kint .i64) (kpair (kint .i64) (ksl kBucket)))) (Lens.comp (Lens.snd _ _) (Lens.fst _ _)) Group.Kind (fun x y => { x with Kind := y }) (fun _ => rfl) (fun _ _ => rfl)
def lGroup_2 : Lens kGroup (ksl kBucket) := Lens.iso (k := (kpair (kint .i64) (kpair (kint .i64) (ksl kBucket)))) (Lens.comp (Lens.snd _ _) (Lens.snd _ _)) Group.Buckets (fun x y => { x with Buckets := y }) (fun _ => rfl) (fun _ _ => rfl)
def zGroup : Group := ⟨0, 0, []⟩
theorem kzGroup : KZ kGroup zGroup [(Value.int IntKind.i64 0), (Value.int IntKind.i64 0), (Value.slice none 0 0)] := kz_iso (kz_pair kz_i64 (kz_pair kz_i64 (kz_sl _)))
structure Switch where
  Tables : (Vector (List Flow) 4)
  Groups : (List Group)
  deriving DecidableEq, Inhabited
def kSwitch : Kd Switch := kiso (kpair (karr 4 (ksl kFlow)) (ksl kGroup)) (fun x => (x.Tables, x.Groups))
def lSwitch_0 : Lens kSwitch (karr 4 (ksl kFlow)) := Lens.iso (k := (kpair (karr 4 (ksl kFlow)) (ksl kGroup))) (Lens.fst _ _) Switch.Tables (fun x y => { x with Tables := y }) (fun _ => rfl) (fun _ _ => rfl)
def lSwitch_1 : Lens kSwitch (ksl kGroup) := Lens.iso (k := (kpair (karr 4 (ksl kFlow)) (ksl kGroup))) (Lens.snd _ _) Switch.Groups (fun x y => { x with Groups := y }) (fun _ => rfl) (fun _ _ => rfl)
def zSwitch : Switch := ⟨(Vector.replicate 4 []), []⟩
theorem kzSwitch : KZ kSwitch zSwitch [(Value.slice none 0 0), (Value.slice none 0 0), (Value.slice none 0 0), (Value.slice none 0 0), (Value.slice none 0 0)] := kz_iso (kz_pair (kz_arr 4 (kz_sl _)) (kz_sl _))
structure Tern where
  Value : Wide
  Mask : Wide
  deriving DecidableEq, Inhabited
def kTern : Kd Tern := kiso (kpair kWide kWide) (fun x => (x.Value, x.Mask))
instance : PureK kTern := inferInstanceAs (PureK (kiso (kpair kWide kWide) (fun (x : Tern) => (x.Value, x.Mask))))
def lTern_0 : Lens kTern kWide := Lens.iso (k := (kpair kWide kWide)) (Lens.fst _ _) Tern.Value (fun x y => { x with Value := y }) (fun _ => rfl) (fun _ _ => rfl)
def lTern_1 : Lens kTern kWide := Lens.iso (k := (kpair kWide kWide)) (Lens.snd _ _) Tern.Mask (fun x y => { x with Mask := y }) (fun _ => rfl) (fun _ _ => rfl)
def zTern : Tern := ⟨zWide, zWide⟩
theorem kzTern : KZ kTern zTern [(Value.int IntKind.u64 0), (Value.int IntKind.u64 0), (Value.int IntKind.u64 0), (Value.int IntKind.u64 0)] := kz_iso (kz_pair kzWide kzWide)
structure field_row where
  name : ByteArray
  id : Int
  bits : Int
  masks : Bool
  deriving DecidableEq, Inhabited
def kfield_row : Kd field_row := kiso (kpair kstr (kpair (kint .i64) (kpair (kint .i64) kbool))) (fun x => (x.name, (x.id, (x.bits, x.masks))))
instance : PureK kfield_row := inferInstanceAs (PureK (kiso (kpair kstr (kpair (kint .i64) (kpair (kint .i64) kbool))) (fun (x : field_row) => (x.name, (x.id, (x.bits, x.masks))))))
def lfield_row_0 : Lens kfield_row kstr := Lens.iso (k := (kpair kstr (kpair (kint .i64) (kpair (kint .i64) kbool)))) (Lens.fst _ _) field_row.name (fun x y => { x with name := y }) (fun _ => rfl) (fun _ _ => rfl)
def lfield_row_1 : Lens kfield_row (kint .i64) := Lens.iso (k := (kpair kstr (kpair (kint .i64) (kpair (kint .i64) kbool)))) (Lens.comp (Lens.snd _ _) (Lens.fst _ _)) field_row.id (fun x y => { x with id := y }) (fun _ => rfl) (fun _ _ => rfl)
def lfield_row_2 : Lens kfield_row (kint .i64) := Lens.iso (k := (kpair kstr (kpair (kint .i64) (kpair (kint .i64) kbool)))) (Lens.comp (Lens.comp (Lens.snd _ _) (Lens.snd _ _)) (Lens.fst _ _)) field_row.bits (fun x y => { x with bits := y }) (fun _ => rfl) (fun _ _ => rfl)
def lfield_row_3 : Lens kfield_row kbool := Lens.iso (k := (kpair kstr (kpair (kint .i64) (kpair (kint .i64) kbool)))) (Lens.comp (Lens.comp (Lens.snd _ _) (Lens.snd _ _)) (Lens.snd _ _)) field_row.masks (fun x y => { x with masks := y }) (fun _ => rfl) (fun _ _ => rfl)
def zfield_row : field_row := ⟨(⟨#[]⟩ : ByteArray), 0, 0, false⟩
theorem kzfield_row : KZ kfield_row zfield_row [(Value.string { data := #[] }), (Value.int IntKind.i64 0), (Value.int IntKind.i64 0), (Value.bool false)] := kz_iso (kz_pair kz_str (kz_pair kz_i64 (kz_pair kz_i64 kz_bool)))
structure Env where
  Turn : Int
  Down : (List Int)
  deriving DecidableEq, Inhabited
def kEnv : Kd Env := kiso (kpair (kint .i64) (ksl (kint .i64))) (fun x => (x.Turn, x.Down))
def lEnv_0 : Lens kEnv (kint .i64) := Lens.iso (k := (kpair (kint .i64) (ksl (kint .i64)))) (Lens.fst _ _) Env.Turn (fun x y => { x with Turn := y }) (fun _ => rfl) (fun _ _ => rfl)
def lEnv_1 : Lens kEnv (ksl (kint .i64)) := Lens.iso (k := (kpair (kint .i64) (ksl (kint .i64)))) (Lens.snd _ _) Env.Down (fun x y => { x with Down := y }) (fun _ => rfl) (fun _ _ => rfl)
def zEnv : Env := ⟨0, []⟩
theorem kzEnv : KZ kEnv zEnv [(Value.int IntKind.i64 0), (Value.slice none 0 0)] := kz_iso (kz_pair kz_i64 (kz_sl _))
structure env_world where
  Env : Env
  Group : Group
  deriving DecidableEq, Inhabited
def kenv_world : Kd env_world := kiso (kpair kEnv kGroup) (fun x => (x.Env, x.Group))
def lenv_world_0 : Lens kenv_world kEnv := Lens.iso (k := (kpair kEnv kGroup)) (Lens.fst _ _) env_world.Env (fun x y => { x with Env := y }) (fun _ => rfl) (fun _ _ => rfl)
def lenv_world_1 : Lens kenv_world kGroup := Lens.iso (k := (kpair kEnv kGroup)) (Lens.snd _ _) env_world.Group (fun x y => { x with Group := y }) (fun _ => rfl) (fun _ _ => rfl)
def zenv_world : env_world := ⟨zEnv, zGroup⟩
theorem kzenv_world : KZ kenv_world zenv_world [(Value.int IntKind.i64 0), (Value.slice none 0 0), (Value.int IntKind.i64 0), (Value.int IntKind.i64 0), (Value.slice none 0 0)] := kz_iso (kz_pair kzEnv kzGroup)
structure aset_spot where
  kind : Int
  field : Int
  deriving DecidableEq, Inhabited
def kaset_spot : Kd aset_spot := kiso (kpair (kint .i64) (kint .i64)) (fun x => (x.kind, x.field))
instance : PureK kaset_spot := inferInstanceAs (PureK (kiso (kpair (kint .i64) (kint .i64)) (fun (x : aset_spot) => (x.kind, x.field))))
def laset_spot_0 : Lens kaset_spot (kint .i64) := Lens.iso (k := (kpair (kint .i64) (kint .i64))) (Lens.fst _ _) aset_spot.kind (fun x y => { x with kind := y }) (fun _ => rfl) (fun _ _ => rfl)
def laset_spot_1 : Lens kaset_spot (kint .i64) := Lens.iso (k := (kpair (kint .i64) (kint .i64))) (Lens.snd _ _) aset_spot.field (fun x y => { x with field := y }) (fun _ => rfl) (fun _ _ => rfl)
def zaset_spot : aset_spot := ⟨0, 0⟩
theorem kzaset_spot : KZ kaset_spot zaset_spot [(Value.int IntKind.i64 0), (Value.int IntKind.i64 0)] := kz_iso (kz_pair kz_i64 kz_i64)
structure Out where
  Port : Int
  Max : Int
  Header : (Vector Wide 24)
  deriving DecidableEq, Inhabited
def kOut : Kd Out := kiso (kpair (kint .i64) (kpair (kint .i64) (karr 24 kWide))) (fun x => (x.Port, (x.Max, x.Header)))
instance : PureK kOut := inferInstanceAs (PureK (kiso (kpair (kint .i64) (kpair (kint .i64) (karr 24 kWide))) (fun (x : Out) => (x.Port, (x.Max, x.Header)))))
def lOut_0 : Lens kOut (kint .i64) := Lens.iso (k := (kpair (kint .i64) (kpair (kint .i64) (karr 24 kWide)))) (Lens.fst _ _) Out.Port (fun x y => { x with Port := y }) (fun _ => rfl) (fun _ _ => rfl)
def lOut_1 : Lens kOut (kint .i64) := Lens.iso (k := (kpair (kint .i64) (kpair (kint .i64) (karr 24 kWide)))) (Lens.comp (Lens.snd _ _) (Lens.fst _ _)) Out.Max (fun x y => { x with Max := y }) (fun _ => rfl) (fun _ _ => rfl)
def lOut_2 : Lens kOut (karr 24 kWide) := Lens.iso (k := (kpair (kint .i64) (kpair (kint .i64) (karr 24 kWide)))) (Lens.comp (Lens.snd _ _) (Lens.snd _ _)) Out.Header (fun x y => { x with Header := y }) (fun _ => rfl) (fun _ _ => rfl)
def zOut : Out := ⟨0, 0, (Vector.replicate 24 zWide)⟩
theorem kzOut : KZ kOut zOut [(Value.int IntKind.i64 0), (Value.int IntKind.i64 0), (Value.int IntKind.u64 0), (Value.int IntKind.u64 0), (Value.int IntKind.u64 0), (Value.int IntKind.u64 0), (Value.int IntKind.u64 0), (Value.int IntKind.u64 0), (Value.int IntKind.u64 0), (Value.int IntKind.u64 0), (Value.int IntKind.u64 0), (Value.int IntKind.u64 0), (Value.int IntKind.u64 0), (Value.int IntKind.u64 0), (Value.int IntKind.u64 0), (Value.int IntKind.u64 0), (Value.int IntKind.u64 0), (Value.int IntKind.u64 0), (Value.int IntKind.u64 0), (Value.int IntKind.u64 0), (Value.int IntKind.u64 0), (Value.int IntKind.u64 0), (Value.int IntKind.u64 0), (Value.int IntKind.u64 0), (Value.int IntKind.u64 0), (Value.int IntKind.u64 0), (Value.int IntKind.u64 0), (Value.int IntKind.u64 0), (Value.int IntKind.u64 0), (Value.int IntKind.u64 0), (Value.int IntKind.u64 0), (Value.int IntKind.u64 0), (Value.int IntKind.u64 0), (Value.int IntKind.u64 0), (Value.int IntKind.u64 0), (Value.int IntKind.u64 0), (Value.int IntKind.u64 0), (Value.int IntKind.u64 0), (Value.int IntKind.u64 0), (Value.int IntKind.u64 0), (Value.int IntKind.u64 0), (Value.int IntKind.u64 0), (Value.int IntKind.u64 0), (Value.int IntKind.u64 0), (Value.int IntKind.u64 0), (Value.int IntKind.u64 0), (Value.int IntKind.u64 0), (Value.int IntKind.u64 0), (Value.int IntKind.u64 0), (Value.int IntKind.u64 0)] := kz_iso (kz_pair kz_i64 (kz_pair kz_i64 (kz_arr 24 kzWide)))
structure exec_run where
  Env : Env
  groups : (List Group)
  out : (List Out)
  header : (Vector Wide 24)
  depth : Int
  deriving DecidableEq, Inhabited
structure exec_run_o2 where
  Env : Env
  groups : (List Group)
  out : Value
  header : (Vector Wide 24)
  depth : Int
def kexec_run_o2 : Kd exec_run_o2 := kiso (kpair kEnv (kpair (ksl kGroup) (kpair kraw (kpair (karr 24 kWide) (kint .i64))))) (fun x => (x.Env, (x.groups, (x.out, (x.header, x.depth)))))
def lexec_run_o2_0 : Lens kexec_run_o2 kEnv := Lens.iso (k := (kpair kEnv (kpair (ksl kGroup) (kpair kraw (kpair (karr 24 kWide) (kint .i64)))))) (Lens.fst _ _) exec_run_o2.Env (fun x y => { x with Env := y }) (fun _ => rfl) (fun _ _ => rfl)
def lexec_run_o2_1 : Lens kexec_run_o2 (ksl kGroup) := Lens.iso (k := (kpair kEnv (kpair (ksl kGroup) (kpair kraw (kpair (karr 24 kWide) (kint .i64)))))) (Lens.comp (Lens.snd _ _) (Lens.fst _ _)) exec_run_o2.groups (fun x y => { x with groups := y }) (fun _ => rfl) (fun _ _ => rfl)
def lexec_run_o2_2 : Lens kexec_run_o2 kraw := Lens.iso (k := (kpair kEnv (kpair (ksl kGroup) (kpair kraw (kpair (karr 24 kWide) (kint .i64)))))) (Lens.comp (Lens.comp (Lens.snd _ _) (Lens.snd _ _)) (Lens.fst _ _)) exec_run_o2.out (fun x y => { x with out := y }) (fun _ => rfl) (fun _ _ => rfl)
def lexec_run_o2_3 : Lens kexec_run_o2 (karr 24 kWide) := Lens.iso (k := (kpair kEnv (kpair (ksl kGroup) (kpair kraw (kpair (karr 24 kWide) (kint .i64)))))) (Lens.comp (Lens.comp (Lens.comp (Lens.snd _ _) (Lens.snd _ _)) (Lens.snd _ _)) (Lens.fst _ _)) exec_run_o2.header (fun x y => { x with header := y }) (fun _ => rfl) (fun _ _ => rfl)
def lexec_run_o2_4 : Lens kexec_run_o2 (kint .i64) := Lens.iso (k := (kpair kEnv (kpair (ksl kGroup) (kpair kraw (kpair (karr 24 kWide) (kint .i64)))))) (Lens.comp (Lens.comp (Lens.comp (Lens.snd _ _) (Lens.snd _ _)) (Lens.snd _ _)) (Lens.snd _ _)) exec_run_o2.depth (fun x y => { x with depth := y }) (fun _ => rfl) (fun _ _ => rfl)
def zexec_run_o2 : exec_run_o2 := ⟨zEnv, [], (.slice none 0 0), (Vector.replicate 24 zWide), 0⟩
theorem kzexec_run_o2 : KZ kexec_run_o2 zexec_run_o2 [(Value.int IntKind.i64 0), (Value.slice none 0 0), (Value.slice none 0 0), (Value.slice none 0 0), (Value.int IntKind.u64 0), (Value.int IntKind.u64 0), (Value.int IntKind.u64 0), (Value.int IntKind.u64 0), (Value.int IntKind.u64 0), (Value.int IntKind.u64 0), (Value.int IntKind.u64 0), (Value.int IntKind.u64 0), (Value.int IntKind.u64 0), (Value.int IntKind.u64 0), (Value.int IntKind.u64 0), (Value.int IntKind.u64 0), (Value.int IntKind.u64 0), (Value.int IntKind.u64 0), (Value.int IntKind.u64 0), (Value.int IntKind.u64 0), (Value.int IntKind.u64 0), (Value.int IntKind.u64 0), (Value.int IntKind.u64 0), (Value.int IntKind.u64 0), (Value.int IntKind.u64 0), (Value.int IntKind.u64 0), (Value.int IntKind.u64 0), (Value.int IntKind.u64 0), (Value.int IntKind.u64 0), (Value.int IntKind.u64 0), (Value.int IntKind.u64 0), (Value.int IntKind.u64 0), (Value.int IntKind.u64 0), (Value.int IntKind.u64 0), (Value.int IntKind.u64 0), (Value.int IntKind.u64 0), (Value.int IntKind.u64 0), (Value.int IntKind.u64 0), (Value.int IntKind.u64 0), (Value.int IntKind.u64 0), (Value.int IntKind.u64 0), (Value.int IntKind.u64 0), (Value.int IntKind.u64 0), (Value.int IntKind.u64 0), (Value.int IntKind.u64 0), (Value.int IntKind.u64 0), (Value.int IntKind.u64 0), (Value.int IntKind.u64 0), (Value.int IntKind.u64 0), (Value.int IntKind.u64 0), (Value.int IntKind.u64 0), (Value.int IntKind.u64 0), (Value.int IntKind.i64 0)] := kz_iso (kz_pair kzEnv (kz_pair (kz_sl _) (kz_pair (kz_raw rfl) (kz_pair (kz_arr 24 kzWide) kz_i64))))
structure Place where
  Table : Int
  Flow : Int
  deriving DecidableEq, Inhabited
def kPlace : Kd Place := kiso (kpair (kint .i64) (kint .i64)) (fun x => (x.Table, x.Flow))
instance : PureK kPlace := inferInstanceAs (PureK (kiso (kpair (kint .i64) (kint .i64)) (fun (x : Place) => (x.Table, x.Flow))))
def lPlace_0 : Lens kPlace (kint .i64) := Lens.iso (k := (kpair (kint .i64) (kint .i64))) (Lens.fst _ _) Place.Table (fun x y => { x with Table := y }) (fun _ => rfl) (fun _ _ => rfl)
def lPlace_1 : Lens kPlace (kint .i64) := Lens.iso (k := (kpair (kint .i64) (kint .i64))) (Lens.snd _ _) Place.Flow (fun x y => { x with Flow := y }) (fun _ => rfl) (fun _ _ => rfl)
def zPlace : Place := ⟨0, 0⟩
theorem kzPlace : KZ kPlace zPlace [(Value.int IntKind.i64 0), (Value.int IntKind.i64 0)] := kz_iso (kz_pair kz_i64 kz_i64)
structure sem_packet where
  Switch : Switch
  env : Env
  header : (Vector Wide 24)
  set : (List Action)
  out : (List Out)
  path : (List Place)
  deriving DecidableEq, Inhabited
structure sem_packet_o4_5 where
  Switch : Switch
  env : Env
  header : (Vector Wide 24)
  set : (List Action)
  out : Value
  path : Value
def ksem_packet_o4_5 : Kd sem_packet_o4_5 := kiso (kpair kSwitch (kpair kEnv (kpair (karr 24 kWide) (kpair (ksl kAction) (kpair kraw kraw))))) (fun x => (x.Switch, (x.env, (x.header, (x.set, (x.out, x.path))))))
def lsem_packet_o4_5_0 : Lens ksem_packet_o4_5 kSwitch := Lens.iso (k := (kpair kSwitch (kpair kEnv (kpair (karr 24 kWide) (kpair (ksl kAction) (kpair kraw kraw)))))) (Lens.fst _ _) sem_packet_o4_5.Switch (fun x y => { x with Switch := y }) (fun _ => rfl) (fun _ _ => rfl)
def lsem_packet_o4_5_1 : Lens ksem_packet_o4_5 kEnv := Lens.iso (k := (kpair kSwitch (kpair kEnv (kpair (karr 24 kWide) (kpair (ksl kAction) (kpair kraw kraw)))))) (Lens.comp (Lens.snd _ _) (Lens.fst _ _)) sem_packet_o4_5.env (fun x y => { x with env := y }) (fun _ => rfl) (fun _ _ => rfl)
def lsem_packet_o4_5_2 : Lens ksem_packet_o4_5 (karr 24 kWide) := Lens.iso (k := (kpair kSwitch (kpair kEnv (kpair (karr 24 kWide) (kpair (ksl kAction) (kpair kraw kraw)))))) (Lens.comp (Lens.comp (Lens.snd _ _) (Lens.snd _ _)) (Lens.fst _ _)) sem_packet_o4_5.header (fun x y => { x with header := y }) (fun _ => rfl) (fun _ _ => rfl)
def lsem_packet_o4_5_3 : Lens ksem_packet_o4_5 (ksl kAction) := Lens.iso (k := (kpair kSwitch (kpair kEnv (kpair (karr 24 kWide) (kpair (ksl kAction) (kpair kraw kraw)))))) (Lens.comp (Lens.comp (Lens.comp (Lens.snd _ _) (Lens.snd _ _)) (Lens.snd _ _)) (Lens.fst _ _)) sem_packet_o4_5.set (fun x y => { x with set := y }) (fun _ => rfl) (fun _ _ => rfl)
def lsem_packet_o4_5_4 : Lens ksem_packet_o4_5 kraw := Lens.iso (k := (kpair kSwitch (kpair kEnv (kpair (karr 24 kWide) (kpair (ksl kAction) (kpair kraw kraw)))))) (Lens.comp (Lens.comp (Lens.comp (Lens.comp (Lens.snd _ _) (Lens.snd _ _)) (Lens.snd _ _)) (Lens.snd _ _)) (Lens.fst _ _)) sem_packet_o4_5.out (fun x y => { x with out := y }) (fun _ => rfl) (fun _ _ => rfl)
def lsem_packet_o4_5_5 : Lens ksem_packet_o4_5 kraw := Lens.iso (k := (kpair kSwitch (kpair kEnv (kpair (karr 24 kWide) (kpair (ksl kAction) (kpair kraw kraw)))))) (Lens.comp (Lens.comp (Lens.comp (Lens.comp (Lens.snd _ _) (Lens.snd _ _)) (Lens.snd _ _)) (Lens.snd _ _)) (Lens.snd _ _)) sem_packet_o4_5.path (fun x y => { x with path := y }) (fun _ => rfl) (fun _ _ => rfl)
def zsem_packet_o4_5 : sem_packet_o4_5 := ⟨zSwitch, zEnv, (Vector.replicate 24 zWide), [], (.slice none 0 0), (.slice none 0 0)⟩
theorem kzsem_packet_o4_5 : KZ ksem_packet_o4_5 zsem_packet_o4_5 [(Value.slice none 0 0), (Value.slice none 0 0), (Value.slice none 0 0), (Value.slice none 0 0), (Value.slice none 0 0), (Value.int IntKind.i64 0), (Value.slice none 0 0), (Value.int IntKind.u64 0), (Value.int IntKind.u64 0), (Value.int IntKind.u64 0), (Value.int IntKind.u64 0), (Value.int IntKind.u64 0), (Value.int IntKind.u64 0), (Value.int IntKind.u64 0), (Value.int IntKind.u64 0), (Value.int IntKind.u64 0), (Value.int IntKind.u64 0), (Value.int IntKind.u64 0), (Value.int IntKind.u64 0), (Value.int IntKind.u64 0), (Value.int IntKind.u64 0), (Value.int IntKind.u64 0), (Value.int IntKind.u64 0), (Value.int IntKind.u64 0), (Value.int IntKind.u64 0), (Value.int IntKind.u64 0), (Value.int IntKind.u64 0), (Value.int IntKind.u64 0), (Value.int IntKind.u64 0), (Value.int IntKind.u64 0), (Value.int IntKind.u64 0), (Value.int IntKind.u64 0), (Value.int IntKind.u64 0), (Value.int IntKind.u64 0), (Value.int IntKind.u64 0), (Value.int IntKind.u64 0), (Value.int IntKind.u64 0), (Value.int IntKind.u64 0), (Value.int IntKind.u64 0), (Value.int IntKind.u64 0), (Value.int IntKind.u64 0), (Value.int IntKind.u64 0), (Value.int IntKind.u64 0), (Value.int IntKind.u64 0), (Value.int IntKind.u64 0), (Value.int IntKind.u64 0), (Value.int IntKind.u64 0), (Value.int IntKind.u64 0), (Value.int IntKind.u64 0), (Value.int IntKind.u64 0), (Value.int IntKind.u64 0), (Value.int IntKind.u64 0), (Value.int IntKind.u64 0), (Value.int IntKind.u64 0), (Value.int IntKind.u64 0), (Value.slice none 0 0), (Value.slice none 0 0), (Value.slice none 0 0)] := kz_iso (kz_pair kzSwitch (kz_pair kzEnv (kz_pair (kz_arr 24 kzWide) (kz_pair (kz_sl _) (kz_pair (kz_raw rfl) (kz_raw rfl))))))
structure Link where
  From : Int
  Out : Int
  To : Int
  In : Int
  deriving DecidableEq, Inhabited
def kLink : Kd Link := kiso (kpair (kint .i64) (kpair (kint .i64) (kpair (kint .i64) (kint .i64)))) (fun x => (x.From, (x.Out, (x.To, x.In))))
instance : PureK kLink := inferInstanceAs (PureK (kiso (kpair (kint .i64) (kpair (kint .i64) (kpair (kint .i64) (kint .i64)))) (fun (x : Link) => (x.From, (x.Out, (x.To, x.In))))))
def lLink_0 : Lens kLink (kint .i64) := Lens.iso (k := (kpair (kint .i64) (kpair (kint .i64) (kpair (kint .i64) (kint .i64))))) (Lens.fst _ _) Link.From (fun x y => { x with From := y }) (fun _ => rfl) (fun _ _ => rfl)
def lLink_1 : Lens kLink (kint .i64) := Lens.iso (k := (kpair (kint .i64) (kpair (kint .i64) (kpair (kint .i64) (kint .i64))))) (Lens.comp (Lens.snd _ _) (Lens.fst _ _)) Link.Out (fun x y => { x with Out := y }) (fun _ => rfl) (fun _ _ => rfl)
def lLink_2 : Lens kLink (kint .i64) := Lens.iso (k := (kpair (kint .i64) (kpair (kint .i64) (kpair (kint .i64) (kint .i64))))) (Lens.comp (Lens.comp (Lens.snd _ _) (Lens.snd _ _)) (Lens.fst _ _)) Link.To (fun x y => { x with To := y }) (fun _ => rfl) (fun _ _ => rfl)
def lLink_3 : Lens kLink (kint .i64) := Lens.iso (k := (kpair (kint .i64) (kpair (kint .i64) (kpair (kint .i64) (kint .i64))))) (Lens.comp (Lens.comp (Lens.snd _ _) (Lens.snd _ _)) (Lens.snd _ _)) Link.In (fun x y => { x with In := y }) (fun _ => rfl) (fun _ _ => rfl)
def zLink : Link := ⟨0, 0, 0, 0⟩
theorem kzLink : KZ kLink zLink [(Value.int IntKind.i64 0), (Value.int IntKind.i64 0), (Value.int IntKind.i64 0), (Value.int IntKind.i64 0)] := kz_iso (kz_pair kz_i64 (kz_pair kz_i64 (kz_pair kz_i64 kz_i64)))
structure Net where
  Switches : (List Switch)
  Links : (List Link)
  deriving DecidableEq, Inhabited
def kNet : Kd Net := kiso (kpair (ksl kSwitch) (ksl kLink)) (fun x => (x.Switches, x.Links))
def lNet_0 : Lens kNet (ksl kSwitch) := Lens.iso (k := (kpair (ksl kSwitch) (ksl kLink))) (Lens.fst _ _) Net.Switches (fun x y => { x with Switches := y }) (fun _ => rfl) (fun _ _ => rfl)
def lNet_1 : Lens kNet (ksl kLink) := Lens.iso (k := (kpair (ksl kSwitch) (ksl kLink))) (Lens.snd _ _) Net.Links (fun x y => { x with Links := y }) (fun _ => rfl) (fun _ _ => rfl)
def zNet : Net := ⟨[], []⟩
theorem kzNet : KZ kNet zNet [(Value.slice none 0 0), (Value.slice none 0 0)] := kz_iso (kz_pair (kz_sl _) (kz_sl _))
structure End where
  At : Int
  Port : Int
  Max : Int
  Left : Bool
  Header : (Vector Wide 24)
  deriving DecidableEq, Inhabited
def kEnd : Kd End := kiso (kpair (kint .i64) (kpair (kint .i64) (kpair (kint .i64) (kpair kbool (karr 24 kWide))))) (fun x => (x.At, (x.Port, (x.Max, (x.Left, x.Header)))))
instance : PureK kEnd := inferInstanceAs (PureK (kiso (kpair (kint .i64) (kpair (kint .i64) (kpair (kint .i64) (kpair kbool (karr 24 kWide))))) (fun (x : End) => (x.At, (x.Port, (x.Max, (x.Left, x.Header)))))))
def lEnd_0 : Lens kEnd (kint .i64) := Lens.iso (k := (kpair (kint .i64) (kpair (kint .i64) (kpair (kint .i64) (kpair kbool (karr 24 kWide)))))) (Lens.fst _ _) End.At (fun x y => { x with At := y }) (fun _ => rfl) (fun _ _ => rfl)
def lEnd_1 : Lens kEnd (kint .i64) := Lens.iso (k := (kpair (kint .i64) (kpair (kint .i64) (kpair (kint .i64) (kpair kbool (karr 24 kWide)))))) (Lens.comp (Lens.snd _ _) (Lens.fst _ _)) End.Port (fun x y => { x with Port := y }) (fun _ => rfl) (fun _ _ => rfl)
def lEnd_2 : Lens kEnd (kint .i64) := Lens.iso (k := (kpair (kint .i64) (kpair (kint .i64) (kpair (kint .i64) (kpair kbool (karr 24 kWide)))))) (Lens.comp (Lens.comp (Lens.snd _ _) (Lens.snd _ _)) (Lens.fst _ _)) End.Max (fun x y => { x with Max := y }) (fun _ => rfl) (fun _ _ => rfl)
def lEnd_3 : Lens kEnd kbool := Lens.iso (k := (kpair (kint .i64) (kpair (kint .i64) (kpair (kint .i64) (kpair kbool (karr 24 kWide)))))) (Lens.comp (Lens.comp (Lens.comp (Lens.snd _ _) (Lens.snd _ _)) (Lens.snd _ _)) (Lens.fst _ _)) End.Left (fun x y => { x with Left := y }) (fun _ => rfl) (fun _ _ => rfl)
def lEnd_4 : Lens kEnd (karr 24 kWide) := Lens.iso (k := (kpair (kint .i64) (kpair (kint .i64) (kpair (kint .i64) (kpair kbool (karr 24 kWide)))))) (Lens.comp (Lens.comp (Lens.comp (Lens.snd _ _) (Lens.snd _ _)) (Lens.snd _ _)) (Lens.snd _ _)) End.Header (fun x y => { x with Header := y }) (fun _ => rfl) (fun _ _ => rfl)
def zEnd : End := ⟨0, 0, 0, false, (Vector.replicate 24 zWide)⟩
theorem kzEnd : KZ kEnd zEnd [(Value.int IntKind.i64 0), (Value.int IntKind.i64 0), (Value.int IntKind.i64 0), (Value.bool false), (Value.int IntKind.u64 0), (Value.int IntKind.u64 0), (Value.int IntKind.u64 0), (Value.int IntKind.u64 0), (Value.int IntKind.u64 0), (Value.int IntKind.u64 0), (Value.int IntKind.u64 0), (Value.int IntKind.u64 0), (Value.int IntKind.u64 0), (Value.int IntKind.u64 0), (Value.int IntKind.u64 0), (Value.int IntKind.u64 0), (Value.int IntKind.u64 0), (Value.int IntKind.u64 0), (Value.int IntKind.u64 0), (Value.int IntKind.u64 0), (Value.int IntKind.u64 0), (Value.int IntKind.u64 0), (Value.int IntKind.u64 0), (Value.int IntKind.u64 0), (Value.int IntKind.u64 0), (Value.int IntKind.u64 0), (Value.int IntKind.u64 0), (Value.int IntKind.u64 0), (Value.int IntKind.u64 0), (Value.int IntKind.u64 0), (Value.int IntKind.u64 0), (Value.int IntKind.u64 0), (Value.int IntKind.u64 0), (Value.int IntKind.u64 0), (Value.int IntKind.u64 0), (Value.int IntKind.u64 0), (Value.int IntKind.u64 0), (Value.int IntKind.u64 0), (Value.int IntKind.u64 0), (Value.int IntKind.u64 0), (Value.int IntKind.u64 0), (Value.int IntKind.u64 0), (Value.int IntKind.u64 0), (Value.int IntKind.u64 0), (Value.int IntKind.u64 0), (Value.int IntKind.u64 0), (Value.int IntKind.u64 0), (Value.int IntKind.u64 0), (Value.int IntKind.u64 0), (Value.int IntKind.u64 0), (Value.int IntKind.u64 0), (Value.int IntKind.u64 0)] := kz_iso (kz_pair kz_i64 (kz_pair kz_i64 (kz_pair kz_i64 (kz_pair kz_bool (kz_arr 24 kzWide)))))
structure trace_trip where
  Net : Net
  env : Env
  ends : (List End)
  deriving DecidableEq, Inhabited
structure trace_trip_o2 where
  Net : Net
  env : Env
  ends : Value
def ktrace_trip_o2 : Kd trace_trip_o2 := kiso (kpair kNet (kpair kEnv kraw)) (fun x => (x.Net, (x.env, x.ends)))
def ltrace_trip_o2_0 : Lens ktrace_trip_o2 kNet := Lens.iso (k := (kpair kNet (kpair kEnv kraw))) (Lens.fst _ _) trace_trip_o2.Net (fun x y => { x with Net := y }) (fun _ => rfl) (fun _ _ => rfl)
def ltrace_trip_o2_1 : Lens ktrace_trip_o2 kEnv := Lens.iso (k := (kpair kNet (kpair kEnv kraw))) (Lens.comp (Lens.snd _ _) (Lens.fst _ _)) trace_trip_o2.env (fun x y => { x with env := y }) (fun _ => rfl) (fun _ _ => rfl)
def ltrace_trip_o2_2 : Lens ktrace_trip_o2 kraw := Lens.iso (k := (kpair kNet (kpair kEnv kraw))) (Lens.comp (Lens.snd _ _) (Lens.snd _ _)) trace_trip_o2.ends (fun x y => { x with ends := y }) (fun _ => rfl) (fun _ _ => rfl)
def ztrace_trip_o2 : trace_trip_o2 := ⟨zNet, zEnv, (.slice none 0 0)⟩
theorem kztrace_trip_o2 : KZ ktrace_trip_o2 ztrace_trip_o2 [(Value.slice none 0 0), (Value.slice none 0 0), (Value.int IntKind.i64 0), (Value.slice none 0 0), (Value.slice none 0 0)] := kz_iso (kz_pair kzNet (kz_pair kzEnv (kz_raw rfl)))
theorem sl22 : Sl Tryz.prog 22 61 kFlow := ⟨by kernel_rfl, by kernel_rfl⟩
theorem ty61 : Ty Tryz.prog 61 kFlow := ⟨by kernel_rfl, by kernel_rfl⟩
theorem sl59 : Sl Tryz.prog 59 124 kInst := ⟨by kernel_rfl, by kernel_rfl⟩
theorem ty124 : Ty Tryz.prog 124 kInst := ⟨by kernel_rfl, by kernel_rfl⟩
theorem sl122 : Sl Tryz.prog 122 121 kAction := ⟨by kernel_rfl, by kernel_rfl⟩
theorem fl124_4 : Fl Tryz.prog 124 4 lInst_4 := ⟨by kernel_rfl, rfl⟩
theorem ty122 : Ty Tryz.prog 122 (ksl kAction) := ⟨by kernel_rfl, by kernel_rfl⟩
theorem fl61_5 : Fl Tryz.prog 61 5 lFlow_5 := ⟨by kernel_rfl, rfl⟩
theorem ty58 : Ty Tryz.prog 58 (ksl kOxm) := ⟨by kernel_rfl, by kernel_rfl⟩
theorem sl58 : Sl Tryz.prog 58 119 kOxm := ⟨by kernel_rfl, by kernel_rfl⟩
theorem fl61_6 : Fl Tryz.prog 61 6 lFlow_6 := ⟨by kernel_rfl, rfl⟩
theorem ty59 : Ty Tryz.prog 59 (ksl kInst) := ⟨by kernel_rfl, by kernel_rfl⟩
theorem sl162 : Sl Tryz.prog 162 226 kBucket := ⟨by kernel_rfl, by kernel_rfl⟩
theorem ty226 : Ty Tryz.prog 226 kBucket := ⟨by kernel_rfl, by kernel_rfl⟩
theorem fl226_3 : Fl Tryz.prog 226 3 lBucket_3 := ⟨by kernel_rfl, rfl⟩
theorem fl164_2 : Fl Tryz.prog 164 2 lGroup_2 := ⟨by kernel_rfl, rfl⟩
theorem ty162 : Ty Tryz.prog 162 (ksl kBucket) := ⟨by kernel_rfl, by kernel_rfl⟩
theorem ty3 : Ty Tryz.prog 3 (kint .i64) := ⟨by kernel_rfl, by kernel_rfl⟩
theorem sl24 : Sl Tryz.prog 24 164 kGroup := ⟨by kernel_rfl, by kernel_rfl⟩
theorem ty164 : Ty Tryz.prog 164 kGroup := ⟨by kernel_rfl, by kernel_rfl⟩
theorem fl26_0 : Fl Tryz.prog 26 0 lSwitch_0 := ⟨by kernel_rfl, rfl⟩
theorem ty23 : Ty Tryz.prog 23 (karr 4 (ksl kFlow)) := ⟨by kernel_rfl, by kernel_rfl⟩
theorem fl26_1 : Fl Tryz.prog 26 1 lSwitch_1 := ⟨by kernel_rfl, rfl⟩
theorem ty24 : Ty Tryz.prog 24 (ksl kGroup) := ⟨by kernel_rfl, by kernel_rfl⟩
theorem ar23 : Ar Tryz.prog 23 22 4 (ksl kFlow) := ⟨by kernel_rfl, by kernel_rfl⟩
theorem ty22 : Ty Tryz.prog 22 (ksl kFlow) := ⟨by kernel_rfl, by kernel_rfl⟩
theorem zr26 : Zr Tryz.prog 26 kSwitch zSwitch := ⟨_, kzSwitch, by kernel_rfl⟩
theorem ty26 : Ty Tryz.prog 26 kSwitch := ⟨by kernel_rfl, by kernel_rfl⟩
theorem zr121 : Zr Tryz.prog 121 kAction zAction := ⟨_, kzAction, by kernel_rfl⟩
theorem zr124 : Zr Tryz.prog 124 kInst zInst := ⟨_, kzInst, by kernel_rfl⟩
theorem zr61 : Zr Tryz.prog 61 kFlow zFlow := ⟨_, kzFlow, by kernel_rfl⟩
theorem fl61_1 : Fl Tryz.prog 61 1 lFlow_1 := ⟨by kernel_rfl, rfl⟩
theorem sl37 : Sl Tryz.prog 37 3 (kint .i64) := ⟨by kernel_rfl, by kernel_rfl⟩
theorem us3 : (Tryz.prog.underlying 3).isSome = true := by kernel_rfl
theorem un360 : Tryz.prog.underlying 360 = some (.int .u64) := by kernel_rfl
theorem us360 : (Tryz.prog.underlying 360).isSome = true := by kernel_rfl
theorem un3 : Tryz.prog.underlying 3 = some (.int .i64) := by kernel_rfl
theorem el37 : El Tryz.prog 37 3 (kint .i64) := ⟨by kernel_rfl, by kernel_rfl, by kernel_rfl, by kernel_rfl, by kernel_rfl⟩
theorem zr3 : Zr Tryz.prog 3 (kint .i64) 0 := ⟨_, kz_i64, by kernel_rfl⟩
theorem zr87 : Zr Tryz.prog 87 (karr 24 kTern) (Vector.replicate 24 zTern) := ⟨_, (kz_arr 24 kzTern), by kernel_rfl⟩
theorem ty87 : Ty Tryz.prog 87 (karr 24 kTern) := ⟨by kernel_rfl, by kernel_rfl⟩
theorem zr369 : Zr Tryz.prog 369 (karr 24 kfield_row) (Vector.replicate 24 zfield_row) := ⟨_, (kz_arr 24 kzfield_row), by kernel_rfl⟩
theorem zr364 : Zr Tryz.prog 364 kfield_row zfield_row := ⟨_, kzfield_row, by kernel_rfl⟩
theorem ty369 : Ty Tryz.prog 369 (karr 24 kfield_row) := ⟨by kernel_rfl, by kernel_rfl⟩
theorem ty364 : Ty Tryz.prog 364 kfield_row := ⟨by kernel_rfl, by kernel_rfl⟩
theorem ar369 : Ar Tryz.prog 369 364 24 kfield_row := ⟨by kernel_rfl, by kernel_rfl⟩
theorem ft364_2 : fieldTy Tryz.prog 364 2 = some 3 := by kernel_rfl
theorem fl364_2 : Fl Tryz.prog 364 2 lfield_row_2 := ⟨by kernel_rfl, rfl⟩
theorem zr42 : Zr Tryz.prog 42 kWide zWide := ⟨_, kzWide, by kernel_rfl⟩
theorem ty42 : Ty Tryz.prog 42 kWide := ⟨by kernel_rfl, by kernel_rfl⟩
theorem zr85 : Zr Tryz.prog 85 kTern zTern := ⟨_, kzTern, by kernel_rfl⟩
theorem fl119_0 : Fl Tryz.prog 119 0 lOxm_0 := ⟨by kernel_rfl, rfl⟩
theorem ty85 : Ty Tryz.prog 85 kTern := ⟨by kernel_rfl, by kernel_rfl⟩
theorem fl119_1 : Fl Tryz.prog 119 1 lOxm_1 := ⟨by kernel_rfl, rfl⟩
theorem ty4 : Ty Tryz.prog 4 kbool := ⟨by kernel_rfl, by kernel_rfl⟩
theorem fl119_2 : Fl Tryz.prog 119 2 lOxm_2 := ⟨by kernel_rfl, rfl⟩
theorem fl119_3 : Fl Tryz.prog 119 3 lOxm_3 := ⟨by kernel_rfl, rfl⟩
theorem ty119 : Ty Tryz.prog 119 kOxm := ⟨by kernel_rfl, by kernel_rfl⟩
theorem zr119 : Zr Tryz.prog 119 kOxm zOxm := ⟨_, kzOxm, by kernel_rfl⟩
theorem ar87 : Ar Tryz.prog 87 85 24 kTern := ⟨by kernel_rfl, by kernel_rfl⟩
theorem fl42_0 : Fl Tryz.prog 42 0 lWide_0 := ⟨by kernel_rfl, rfl⟩
theorem ty40 : Ty Tryz.prog 40 ku64 := ⟨by kernel_rfl, by kernel_rfl⟩
theorem fl42_1 : Fl Tryz.prog 42 1 lWide_1 := ⟨by kernel_rfl, rfl⟩
theorem fl85_0 : Fl Tryz.prog 85 0 lTern_0 := ⟨by kernel_rfl, rfl⟩
theorem fl85_1 : Fl Tryz.prog 85 1 lTern_1 := ⟨by kernel_rfl, rfl⟩
theorem ar44 : Ar Tryz.prog 44 42 24 kWide := ⟨by kernel_rfl, by kernel_rfl⟩
theorem ty44 : Ty Tryz.prog 44 (karr 24 kWide) := ⟨by kernel_rfl, by kernel_rfl⟩
theorem zr4 : Zr Tryz.prog 4 kbool false := ⟨_, kz_bool, by kernel_rfl⟩
theorem fl124_0 : Fl Tryz.prog 124 0 lInst_0 := ⟨by kernel_rfl, rfl⟩
theorem el122 : El Tryz.prog 122 121 kAction := ⟨by kernel_rfl, by kernel_rfl, by kernel_rfl, by kernel_rfl, by kernel_rfl⟩
theorem fl121_1 : Fl Tryz.prog 121 1 lAction_1 := ⟨by kernel_rfl, rfl⟩
theorem fl121_2 : Fl Tryz.prog 121 2 lAction_2 := ⟨by kernel_rfl, rfl⟩
theorem fl164_0 : Fl Tryz.prog 164 0 lGroup_0 := ⟨by kernel_rfl, rfl⟩
theorem el24 : El Tryz.prog 24 164 kGroup := ⟨by kernel_rfl, by kernel_rfl, by kernel_rfl, by kernel_rfl, by kernel_rfl⟩
theorem zr164 : Zr Tryz.prog 164 kGroup zGroup := ⟨_, kzGroup, by kernel_rfl⟩
theorem el162 : El Tryz.prog 162 226 kBucket := ⟨by kernel_rfl, by kernel_rfl, by kernel_rfl, by kernel_rfl, by kernel_rfl⟩
theorem zr226 : Zr Tryz.prog 226 kBucket zBucket := ⟨_, kzBucket, by kernel_rfl⟩
theorem fl39_0 : Fl Tryz.prog 39 0 lEnv_0 := ⟨by kernel_rfl, rfl⟩
theorem fl39_1 : Fl Tryz.prog 39 1 lEnv_1 := ⟨by kernel_rfl, rfl⟩
theorem ty37 : Ty Tryz.prog 37 (ksl (kint .i64)) := ⟨by kernel_rfl, by kernel_rfl⟩
theorem fl328_0 : Fl Tryz.prog 328 0 lenv_world_0 := ⟨by kernel_rfl, rfl⟩
theorem ty39 : Ty Tryz.prog 39 kEnv := ⟨by kernel_rfl, by kernel_rfl⟩
theorem fl226_1 : Fl Tryz.prog 226 1 lBucket_1 := ⟨by kernel_rfl, rfl⟩
theorem fl328_1 : Fl Tryz.prog 328 1 lenv_world_1 := ⟨by kernel_rfl, rfl⟩
theorem zr328 : Zr Tryz.prog 328 kenv_world zenv_world := ⟨_, kzenv_world, by kernel_rfl⟩
theorem ty328 : Ty Tryz.prog 328 kenv_world := ⟨by kernel_rfl, by kernel_rfl⟩
theorem fl164_1 : Fl Tryz.prog 164 1 lGroup_1 := ⟨by kernel_rfl, rfl⟩
theorem zr275 : Zr Tryz.prog 275 kaset_spot zaset_spot := ⟨_, kzaset_spot, by kernel_rfl⟩
theorem fl121_0 : Fl Tryz.prog 121 0 lAction_0 := ⟨by kernel_rfl, rfl⟩
theorem fl121_5 : Fl Tryz.prog 121 5 lAction_5 := ⟨by kernel_rfl, rfl⟩
theorem ty275 : Ty Tryz.prog 275 kaset_spot := ⟨by kernel_rfl, by kernel_rfl⟩
theorem ty121 : Ty Tryz.prog 121 kAction := ⟨by kernel_rfl, by kernel_rfl⟩
theorem eqk3 : EqK Tryz.prog 1 3 (kint .i64) := eqk_int (by kernel_rfl)
theorem eqk275 : EqK Tryz.prog 2 275 kaset_spot := eqk_st (fun x y e => by cases x; cases y; simp only [Prod.mk.injEq] at e; simp [e]) (l := _) (by kernel_rfl) (by kernel_rfl) (eqf_cons eqk3 ty3 (eqf_one eqk3 ty3))
theorem eg275 : Tryz.prog.eqGuardType Tryz.prog.depth 275 = false := by kernel_rfl
theorem fl275_0 : Fl Tryz.prog 275 0 laset_spot_0 := ⟨by kernel_rfl, rfl⟩
theorem fl275_1 : Fl Tryz.prog 275 1 laset_spot_1 := ⟨by kernel_rfl, rfl⟩
theorem zr101 : Zr Tryz.prog 101 (karr 24 kTern) (Vector.replicate 24 zTern) := ⟨_, (kz_arr 24 kzTern), by kernel_rfl⟩
theorem ty101 : Ty Tryz.prog 101 (karr 24 kTern) := ⟨by kernel_rfl, by kernel_rfl⟩
theorem ar101 : Ar Tryz.prog 101 85 24 kTern := ⟨by kernel_rfl, by kernel_rfl⟩
theorem zr367 : Zr Tryz.prog 367 (karr 2 ku64) (Vector.replicate 2 0) := ⟨_, (kz_arr 2 kz_u64), by kernel_rfl⟩
theorem ar367 : Ar Tryz.prog 367 40 2 ku64 := ⟨by kernel_rfl, by kernel_rfl⟩
theorem zr44 : Zr Tryz.prog 44 (karr 24 kWide) (Vector.replicate 24 zWide) := ⟨_, (kz_arr 24 kzWide), by kernel_rfl⟩
theorem flv237_1_2 : Fl Tryz.prog 237 1 lexec_run_o2_1 := ⟨by kernel_rfl, rfl⟩
theorem flv237_4_2 : Fl Tryz.prog 237 4 lexec_run_o2_4 := ⟨by kernel_rfl, rfl⟩
theorem flv237_3_2 : Fl Tryz.prog 237 3 lexec_run_o2_3 := ⟨by kernel_rfl, rfl⟩
theorem flv237_0_2 : Fl Tryz.prog 237 0 lexec_run_o2_0 := ⟨by kernel_rfl, rfl⟩
theorem flv237_2_2 : Fl Tryz.prog 237 2 lexec_run_o2_2 := ⟨by kernel_rfl, rfl⟩
theorem tyr46 : Ty Tryz.prog 46 kraw := ⟨by kernel_rfl, by kernel_rfl⟩
theorem zr71 : Zr Tryz.prog 71 kOut zOut := ⟨_, kzOut, by kernel_rfl⟩
theorem sl46 : Sl Tryz.prog 46 71 kOut := ⟨by kernel_rfl, by kernel_rfl⟩
theorem el46 : El Tryz.prog 46 71 kOut := ⟨by kernel_rfl, by kernel_rfl, by kernel_rfl, by kernel_rfl, by kernel_rfl⟩
theorem fl121_3 : Fl Tryz.prog 121 3 lAction_3 := ⟨by kernel_rfl, rfl⟩
theorem zrv237_2 : Zr Tryz.prog 237 kexec_run_o2 zexec_run_o2 := ⟨_, kzexec_run_o2, by kernel_rfl⟩
theorem flv144_0_4_5 : Fl Tryz.prog 144 0 lsem_packet_o4_5_0 := ⟨by kernel_rfl, rfl⟩
theorem flv144_1_4_5 : Fl Tryz.prog 144 1 lsem_packet_o4_5_1 := ⟨by kernel_rfl, rfl⟩
theorem flv144_2_4_5 : Fl Tryz.prog 144 2 lsem_packet_o4_5_2 := ⟨by kernel_rfl, rfl⟩
theorem flv144_4_4_5 : Fl Tryz.prog 144 4 lsem_packet_o4_5_4 := ⟨by kernel_rfl, rfl⟩
theorem flv144_3_4_5 : Fl Tryz.prog 144 3 lsem_packet_o4_5_3 := ⟨by kernel_rfl, rfl⟩
theorem fl124_2 : Fl Tryz.prog 124 2 lInst_2 := ⟨by kernel_rfl, rfl⟩
theorem fl124_3 : Fl Tryz.prog 124 3 lInst_3 := ⟨by kernel_rfl, rfl⟩
theorem fl124_1 : Fl Tryz.prog 124 1 lInst_1 := ⟨by kernel_rfl, rfl⟩
theorem flv144_5_4_5 : Fl Tryz.prog 144 5 lsem_packet_o4_5_5 := ⟨by kernel_rfl, rfl⟩
theorem tyr49 : Ty Tryz.prog 49 kraw := ⟨by kernel_rfl, by kernel_rfl⟩
theorem zr51 : Zr Tryz.prog 51 kPlace zPlace := ⟨_, kzPlace, by kernel_rfl⟩
theorem sl49 : Sl Tryz.prog 49 51 kPlace := ⟨by kernel_rfl, by kernel_rfl⟩
theorem el49 : El Tryz.prog 49 51 kPlace := ⟨by kernel_rfl, by kernel_rfl, by kernel_rfl, by kernel_rfl, by kernel_rfl⟩
theorem zrv144_4_5 : Zr Tryz.prog 144 ksem_packet_o4_5 zsem_packet_o4_5 := ⟨_, kzsem_packet_o4_5, by kernel_rfl⟩
theorem fl67_0 : Fl Tryz.prog 67 0 lNet_0 := ⟨by kernel_rfl, rfl⟩
theorem ty64 : Ty Tryz.prog 64 (ksl kSwitch) := ⟨by kernel_rfl, by kernel_rfl⟩
theorem sl64 : Sl Tryz.prog 64 26 kSwitch := ⟨by kernel_rfl, by kernel_rfl⟩
theorem fl152_0 : Fl Tryz.prog 152 0 lLink_0 := ⟨by kernel_rfl, rfl⟩
theorem fl152_1 : Fl Tryz.prog 152 1 lLink_1 := ⟨by kernel_rfl, rfl⟩
theorem ty67 : Ty Tryz.prog 67 kNet := ⟨by kernel_rfl, by kernel_rfl⟩
theorem fl152_2 : Fl Tryz.prog 152 2 lLink_2 := ⟨by kernel_rfl, rfl⟩
theorem sl65 : Sl Tryz.prog 65 152 kLink := ⟨by kernel_rfl, by kernel_rfl⟩
theorem ty152 : Ty Tryz.prog 152 kLink := ⟨by kernel_rfl, by kernel_rfl⟩
theorem fl67_1 : Fl Tryz.prog 67 1 lNet_1 := ⟨by kernel_rfl, rfl⟩
theorem ty65 : Ty Tryz.prog 65 (ksl kLink) := ⟨by kernel_rfl, by kernel_rfl⟩
theorem fl152_3 : Fl Tryz.prog 152 3 lLink_3 := ⟨by kernel_rfl, rfl⟩
theorem flv156_2_2 : Fl Tryz.prog 156 2 ltrace_trip_o2_2 := ⟨by kernel_rfl, rfl⟩
theorem tyr62 : Ty Tryz.prog 62 kraw := ⟨by kernel_rfl, by kernel_rfl⟩
theorem zr69 : Zr Tryz.prog 69 kEnd zEnd := ⟨_, kzEnd, by kernel_rfl⟩
theorem sl62 : Sl Tryz.prog 62 69 kEnd := ⟨by kernel_rfl, by kernel_rfl⟩
theorem el62 : El Tryz.prog 62 69 kEnd := ⟨by kernel_rfl, by kernel_rfl, by kernel_rfl, by kernel_rfl, by kernel_rfl⟩
theorem flv156_0_2 : Fl Tryz.prog 156 0 ltrace_trip_o2_0 := ⟨by kernel_rfl, rfl⟩
theorem flv156_1_2 : Fl Tryz.prog 156 1 ltrace_trip_o2_1 := ⟨by kernel_rfl, rfl⟩
theorem ty71 : Ty Tryz.prog 71 kOut := ⟨by kernel_rfl, by kernel_rfl⟩
theorem fl71_0 : Fl Tryz.prog 71 0 lOut_0 := ⟨by kernel_rfl, rfl⟩
theorem fl71_1 : Fl Tryz.prog 71 1 lOut_1 := ⟨by kernel_rfl, rfl⟩
theorem fl71_2 : Fl Tryz.prog 71 2 lOut_2 := ⟨by kernel_rfl, rfl⟩
theorem un40 : Tryz.prog.underlying 40 = some (.int .u64) := by kernel_rfl
theorem zrv156_2 : Zr Tryz.prog 156 ktrace_trip_o2 ztrace_trip_o2 := ⟨_, kztrace_trip_o2, by kernel_rfl⟩
theorem ty69 : Ty Tryz.prog 69 kEnd := ⟨by kernel_rfl, by kernel_rfl⟩
theorem eqk4 : EqK Tryz.prog 1 4 kbool := eqk_bool (by kernel_rfl)
theorem eqk40 : EqK Tryz.prog 1 40 ku64 := eqk_u64 (by kernel_rfl)
theorem eqk42 : EqK Tryz.prog 2 42 kWide := eqk_st (fun x y e => by cases x; cases y; simp only [Prod.mk.injEq] at e; simp [e]) (l := _) (by kernel_rfl) (by kernel_rfl) (eqf_cons eqk40 ty40 (eqf_one eqk40 ty40))
theorem eqk44 : EqK Tryz.prog 3 44 (karr 24 kWide) := eqk_arr eqk42 ty42 ar44
theorem eqk69 : EqK Tryz.prog 4 69 kEnd := eqk_st (fun x y e => by cases x; cases y; simp only [Prod.mk.injEq] at e; simp [e]) (l := _) (by kernel_rfl) (by kernel_rfl) (eqf_cons (eqk3.le (by decide)) ty3 (eqf_cons (eqk3.le (by decide)) ty3 (eqf_cons (eqk3.le (by decide)) ty3 (eqf_cons (eqk4.le (by decide)) ty4 (eqf_one eqk44 ty44)))))
theorem eg69 : Tryz.prog.eqGuardType Tryz.prog.depth 69 = false := by kernel_rfl
theorem fl69_3 : Fl Tryz.prog 69 3 lEnd_3 := ⟨by kernel_rfl, rfl⟩
theorem fl69_0 : Fl Tryz.prog 69 0 lEnd_0 := ⟨by kernel_rfl, rfl⟩
theorem fl69_1 : Fl Tryz.prog 69 1 lEnd_1 := ⟨by kernel_rfl, rfl⟩
theorem zr152 : Zr Tryz.prog 152 kLink zLink := ⟨_, kzLink, by kernel_rfl⟩
theorem zr67 : Zr Tryz.prog 67 kNet zNet := ⟨_, kzNet, by kernel_rfl⟩
theorem zr39 : Zr Tryz.prog 39 kEnv zEnv := ⟨_, kzEnv, by kernel_rfl⟩
theorem fl69_4 : Fl Tryz.prog 69 4 lEnd_4 := ⟨by kernel_rfl, rfl⟩
theorem eqk71 : EqK Tryz.prog 4 71 kOut := eqk_st (fun x y e => by cases x; cases y; simp only [Prod.mk.injEq] at e; simp [e]) (l := _) (by kernel_rfl) (by kernel_rfl) (eqf_cons (eqk3.le (by decide)) ty3 (eqf_cons (eqk3.le (by decide)) ty3 (eqf_one eqk44 ty44)))
theorem eg71 : Tryz.prog.eqGuardType Tryz.prog.depth 71 = false := by kernel_rfl
theorem fl69_2 : Fl Tryz.prog 69 2 lEnd_2 := ⟨by kernel_rfl, rfl⟩
theorem mixed : Tryz.prog.follows .mixedOrders = true := by kernel_rfl
end Go.Proofs.YtknpgojdkobgjaaGreat.W
set_option linter.unusedVariables false
set_option maxRecDepth 4000
set_option linter.unusedSimpArgs false
namespace Go.Proofs.YtknpgojdkobgjaaGreat.W
open Go Go.Wb
theorem e198 : Ent Tryz.prog 198 := Ent.mk Tryz.func198 rfl rfl
theorem e263 : Ent Tryz.prog 263 := Ent.mk Tryz.func263 rfl rfl
theorem e165 : Ent Tryz.prog 165 := Ent.mk Tryz.func165 rfl rfl
theorem e256 : Ent Tryz.prog 256 := Ent.mk Tryz.func256 rfl rfl
theorem e257 : Ent Tryz.prog 257 := Ent.mk Tryz.func257 rfl rfl
theorem e199 : Ent Tryz.prog 199 := Ent.mk Tryz.func199 rfl rfl
theorem e134 : Ent Tryz.prog 134 := Ent.mk Tryz.func134 rfl rfl
def F_slices_IndexFunc_Flow_l1 (s1 : (List Flow)) (f2 : (Flow → Option Bool)) : Nat → Nat → Option Int
  | 0, i3 => some (-1)
  | m4 + 1, i3 => (lget s1 (i3 : Int)).bind fun e5 => (f2 e5).bind fun x6 => (bif x6 then some (i3 : Int) else (F_slices_IndexFunc_Flow_l1 s1 f2 m4) (i3 + 1))
def F_slices_IndexFunc_Flow (s1 : (List Flow)) (f2 : (Flow → Option Bool)) : Option Int :=
  F_slices_IndexFunc_Flow_l1 s1 f2 ((s1.length : Int) : Int).toNat 0
theorem c_slices_IndexFunc_Flow (s1 : (List Flow)) (f2 : (Flow → Option Bool)) (r : Int) (h : F_slices_IndexFunc_Flow s1 f2 = some r) : PCon Tryz.prog 198 [rd (ksl kFlow) s1, fn1 Tryz.prog kFlow kbool f2] (rd (kint .i64) r) := by
  refine PCon.of (Con.intro0 Tryz.func198 rfl Tryz.ntmps198 rfl fun w H => ?_)
  unfold F_slices_IndexFunc_Flow at h
  refine SR <| Ak rfl <| Nl <| AW.seq <| SR <| Md rfl <| Ac (op_len' rfl rfl sl22 (vt rfl)) rfl <| Mk rfl <| Nl <| AW.block <| AW.loopG (d := []) (ν := Nat × Nat) (fun n => Cnt (s1.length : Int) n.2 n.1 ∧ F_slices_IndexFunc_Flow_l1 s1 f2 n.1 n.2 = some r) (fun n => n.1) (fun n => [(0, rd (ksl kFlow) s1), (1, fn1 Tryz.prog kFlow kbool f2), (7, rd (kint .i64) (s1.length : Int)), (8, rd (kint .i64) (n.2 : Int))]) (fun n => []) (((s1.length : Int) : Int).toNat, 0) ⟨Cnt.start _, h⟩ ⟨rfl, ⟨rfl, rfl, rfl, rfl, trivial⟩, trivial⟩ ?_
  rintro ⟨m4, i3⟩ ⟨hsf1, h⟩
  change Cnt (s1.length : Int) i3 m4 at hsf1
  change F_slices_IndexFunc_Flow_l1 s1 f2 m4 i3 = some r at h
  change AW _ _ _ ⟨slots [(0, rd (ksl kFlow) s1), (1, fn1 Tryz.prog kFlow kbool f2), (7, rd (kint .i64) (s1.length : Int)), (8, rd (kint .i64) (i3 : Int))], ress [], _⟩
  cases m4 with
  | zero =>
    unfold F_slices_IndexFunc_Flow_l1 at h
    refine SR <| Ac (op_lss rfl rfl (vt rfl) (vt rfl)) rfl <| Nl <| AW.seq <| Cn rfl (fun hc => absurd (of_decide_eq_true hc) hsf1.zero) (fun hc => ?_)
    refine AW.exit <| SR <| Ak rfl <| Nl <| AW.ret ?_
    obtain rfl := si h
    exact ret1 Tryz.results198 rfl (out_tmp rfl)
  | succ m4 =>
    unfold F_slices_IndexFunc_Flow_l1 at h
    generalize hgo1 : F_slices_IndexFunc_Flow_l1 s1 f2 m4 = go1 at h
    refine SR <| Ac (op_lss rfl rfl (vt rfl) (vt rfl)) rfl <| Nl <| AW.seq <| Cn rfl (fun hc => ?_) (fun hc => absurd hsf1.succ (of_decide_eq_false hc))
    have hlti3 := of_decide_eq_true hc
    refine AW.skip <| AW.seq <| AW.block <| SR <| Md rfl <| As rfl <| Nl <| AW.seq ?_
    obtain ⟨e5, he5, h⟩ := bsome h
    obtain ⟨x6, hx6, h⟩ := bsome h
    refine Rg <| Ac (op_move (A := fn1 Tryz.prog kFlow kbool f2) rfl rfl (vt rfl)) rfl <| Md rfl <| Md rfl <| Ac (op_indexs' rfl rfl sl22 (vt rfl) (vt rfl) he5) rfl <| Lp1 ty61 rfl <| Ac (op_call1 hx6 rfl rfl (vt rfl) (vt rfl)) rfl <| Nl <| Cn rfl (fun hc => ?_) (fun hc => ?_)
    · have h := cond_t hc h
      refine SR <| Md rfl <| As rfl <| Nl <| AW.ret ?_
      obtain rfl := si h
      exact ret1 Tryz.results198 rfl (out_tmp rfl)
    · have h := cond_f hc h
      refine AW.skip <| Rg <| Ac (op_incr (t := 7) rfl rfl (vt rfl) (vk rfl) (vt rfl) hlti3) rfl <| Md rfl <| Nl ?_
      subst hgo1
      exact ⟨(m4, i3 + 1), Nat.lt_succ_self _, ⟨hsf1.next, h⟩, ⟨rfl, ⟨rfl, rfl, rfl, rfl, trivial⟩, trivial⟩⟩
def F_slices_ContainsFunc_Flow (s1 : (List Flow)) (f2 : (Flow → Option Bool)) : Option Bool :=
  (F_slices_IndexFunc_Flow s1 f2).bind fun x3 => some (decide (x3 ≥ 0))
theorem c_slices_ContainsFunc_Flow (s1 : (List Flow)) (f2 : (Flow → Option Bool)) (r : Bool) (h : F_slices_ContainsFunc_Flow s1 f2 = some r) : PCon Tryz.prog 132 [rd (ksl kFlow) s1, fn1 Tryz.prog kFlow kbool f2] (rd kbool r) := by
  refine PCon.of (Con.intro0 Tryz.func132 rfl Tryz.ntmps132 rfl fun w H => ?_)
  unfold F_slices_ContainsFunc_Flow at h
  refine SR <| Ab rfl <| Nl <| AW.seq ?_
  obtain ⟨x3, hx3, h⟩ := bsome h
  refine Rg <| Md rfl <| Ac (op_move (A := fn1 Tryz.prog kFlow kbool f2) rfl rfl (vt rfl)) rfl <| Cl [5, 6] (c_slices_IndexFunc_Flow _ _ _ hx3) e198 rfl <| Ac (op_geq rfl rfl (vt rfl) (vk rfl)) rfl <| As rfl <| Nl <| AW.ret ?_
  obtain rfl := si h
  exact ret1 Tryz.results132 rfl (out_tmp rfl)
def F_slices_IndexFunc_Inst_l1 (s1 : (List Inst)) (f2 : (Inst → Option Bool)) : Nat → Nat → Option Int
  | 0, i3 => some (-1)
  | m4 + 1, i3 => (lget s1 (i3 : Int)).bind fun e5 => (f2 e5).bind fun x6 => (bif x6 then some (i3 : Int) else (F_slices_IndexFunc_Inst_l1 s1 f2 m4) (i3 + 1))
def F_slices_IndexFunc_Inst (s1 : (List Inst)) (f2 : (Inst → Option Bool)) : Option Int :=
  F_slices_IndexFunc_Inst_l1 s1 f2 ((s1.length : Int) : Int).toNat 0
theorem c_slices_IndexFunc_Inst (s1 : (List Inst)) (f2 : (Inst → Option Bool)) (r : Int) (h : F_slices_IndexFunc_Inst s1 f2 = some r) : PCon Tryz.prog 263 [rd (ksl kInst) s1, fn1 Tryz.prog kInst kbool f2] (rd (kint .i64) r) := by
  refine PCon.of (Con.intro0 Tryz.func263 rfl Tryz.ntmps263 rfl fun w H => ?_)
  unfold F_slices_IndexFunc_Inst at h
  refine SR <| Ak rfl <| Nl <| AW.seq <| SR <| Md rfl <| Ac (op_len' rfl rfl sl59 (vt rfl)) rfl <| Mk rfl <| Nl <| AW.block <| AW.loopG (d := []) (ν := Nat × Nat) (fun n => Cnt (s1.length : Int) n.2 n.1 ∧ F_slices_IndexFunc_Inst_l1 s1 f2 n.1 n.2 = some r) (fun n => n.1) (fun n => [(0, rd (ksl kInst) s1), (1, fn1 Tryz.prog kInst kbool f2), (7, rd (kint .i64) (s1.length : Int)), (8, rd (kint .i64) (n.2 : Int))]) (fun n => []) (((s1.length : Int) : Int).toNat, 0) ⟨Cnt.start _, h⟩ ⟨rfl, ⟨rfl, rfl, rfl, rfl, trivial⟩, trivial⟩ ?_
  rintro ⟨m4, i3⟩ ⟨hsf1, h⟩
  change Cnt (s1.length : Int) i3 m4 at hsf1
  change F_slices_IndexFunc_Inst_l1 s1 f2 m4 i3 = some r at h
  change AW _ _ _ ⟨slots [(0, rd (ksl kInst) s1), (1, fn1 Tryz.prog kInst kbool f2), (7, rd (kint .i64) (s1.length : Int)), (8, rd (kint .i64) (i3 : Int))], ress [], _⟩
  cases m4 with
  | zero =>
    unfold F_slices_IndexFunc_Inst_l1 at h
    refine SR <| Ac (op_lss rfl rfl (vt rfl) (vt rfl)) rfl <| Nl <| AW.seq <| Cn rfl (fun hc => absurd (of_decide_eq_true hc) hsf1.zero) (fun hc => ?_)
    refine AW.exit <| SR <| Ak rfl <| Nl <| AW.ret ?_
    obtain rfl := si h
    exact ret1 Tryz.results263 rfl (out_tmp rfl)
  | succ m4 =>
    unfold F_slices_IndexFunc_Inst_l1 at h
    generalize hgo1 : F_slices_IndexFunc_Inst_l1 s1 f2 m4 = go1 at h
    refine SR <| Ac (op_lss rfl rfl (vt rfl) (vt rfl)) rfl <| Nl <| AW.seq <| Cn rfl (fun hc => ?_) (fun hc => absurd hsf1.succ (of_decide_eq_false hc))
    have hlti3 := of_decide_eq_true hc
    refine AW.skip <| AW.seq <| AW.block <| SR <| Md rfl <| As rfl <| Nl <| AW.seq ?_
    obtain ⟨e5, he5, h⟩ := bsome h
    obtain ⟨x6, hx6, h⟩ := bsome h
    refine Rg <| Ac (op_move (A := fn1 Tryz.prog kInst kbool f2) rfl rfl (vt rfl)) rfl <| Md rfl <| Md rfl <| Ac (op_indexs' rfl rfl sl59 (vt rfl) (vt rfl) he5) rfl <| Lp1 ty124 rfl <| Ac (op_call1 hx6 rfl rfl (vt rfl) (vt rfl)) rfl <| Nl <| Cn rfl (fun hc => ?_) (fun hc => ?_)
    · have h := cond_t hc h
      refine SR <| Md rfl <| As rfl <| Nl <| AW.ret ?_
      obtain rfl := si h
      exact ret1 Tryz.results263 rfl (out_tmp rfl)
    · have h := cond_f hc h
      refine AW.skip <| Rg <| Ac (op_incr (t := 7) rfl rfl (vt rfl) (vk rfl) (vt rfl) hlti3) rfl <| Md rfl <| Nl ?_
      subst hgo1
      exact ⟨(m4, i3 + 1), Nat.lt_succ_self _, ⟨hsf1.next, h⟩, ⟨rfl, ⟨rfl, rfl, rfl, rfl, trivial⟩, trivial⟩⟩
def F_slices_ContainsFunc_Inst (s1 : (List Inst)) (f2 : (Inst → Option Bool)) : Option Bool :=
  (F_slices_IndexFunc_Inst s1 f2).bind fun x3 => some (decide (x3 ≥ 0))
theorem c_slices_ContainsFunc_Inst (s1 : (List Inst)) (f2 : (Inst → Option Bool)) (r : Bool) (h : F_slices_ContainsFunc_Inst s1 f2 = some r) : PCon Tryz.prog 256 [rd (ksl kInst) s1, fn1 Tryz.prog kInst kbool f2] (rd kbool r) := by
  refine PCon.of (Con.intro0 Tryz.func256 rfl Tryz.ntmps256 rfl fun w H => ?_)
  unfold F_slices_ContainsFunc_Inst at h
  refine SR <| Ab rfl <| Nl <| AW.seq ?_
  obtain ⟨x3, hx3, h⟩ := bsome h
  refine Rg <| Md rfl <| Ac (op_move (A := fn1 Tryz.prog kInst kbool f2) rfl rfl (vt rfl)) rfl <| Cl [5, 6] (c_slices_IndexFunc_Inst _ _ _ hx3) e263 rfl <| Ac (op_geq rfl rfl (vt rfl) (vk rfl)) rfl <| As rfl <| Nl <| AW.ret ?_
  obtain rfl := si h
  exact ret1 Tryz.results256 rfl (out_tmp rfl)
def F_pl_Acts (l1 : (List Action)) : Option Bool :=
  some (decide ((l1.length : Int) ≤ 12))
theorem c_pl_Acts (l1 : (List Action)) (r : Bool) (h : F_pl_Acts l1 = some r) : PCon Tryz.prog 165 [rd (ksl kAction) l1] (rd kbool r) := by
  refine PCon.of (Con.intro0 Tryz.func165 rfl Tryz.ntmps165 rfl fun w H => ?_)
  unfold F_pl_Acts at h
  refine SR <| Ab rfl <| Nl <| SR <| Md rfl <| Ac (op_len' rfl rfl sl122 (vt rfl)) rfl <| Ac (op_leq rfl rfl (vt rfl) (vk rfl)) rfl <| As rfl <| Nl <| AW.ret ?_
  obtain rfl := si h
  exact ret1 Tryz.results165 rfl (out_tmp rfl)
def F_pl_Insts_1 (i1 : Inst) : Option Bool :=
  (F_pl_Acts i1.Acts).bind fun x3 => some (!x3)
theorem c_pl_Insts_1 (i1 : Inst) (r : Bool) (h : F_pl_Insts_1 i1 = some r) : PCon Tryz.prog 257 [rd kInst i1] (rd kbool r) := by
  refine PCon.of (Con.intro0 Tryz.func257 rfl Tryz.ntmps257 rfl fun w H => ?_)
  unfold F_pl_Insts_1 at h
  refine SR <| Ct rfl (op_box 2 rfl rfl (vt rfl)) ?_
  rintro _ ⟨g2, rfl⟩
  refine Ab rfl <| Nl <| AW.seq ?_
  obtain ⟨x3, hx3, h⟩ := bsome h
  refine Rg <| FdA lInst_4 fl124_4 rfl <| Ld ty122 2 rfl <| Cl [4] (c_pl_Acts _ _ hx3) e165 rfl <| Ac (op_not rfl rfl (vt rfl)) rfl <| As rfl <| Nl <| AW.ret ?_
  obtain rfl := si h
  exact ret1 Tryz.results257 rfl (out_tmp rfl)
def F_pl_Insts (l1 : (List Inst)) : Option Bool :=
  (opt (decide ((l1.length : Int) ≤ 8)) (F_slices_ContainsFunc_Inst l1 F_pl_Insts_1)).bind fun x2 => some ((decide ((l1.length : Int) ≤ 8)) && (!x2))
theorem c_pl_Insts (l1 : (List Inst)) (r : Bool) (h : F_pl_Insts l1 = some r) : PCon Tryz.prog 199 [rd (ksl kInst) l1] (rd kbool r) := by
  refine PCon.of (Con.intro0 Tryz.func199 rfl Tryz.ntmps199 rfl fun w H => ?_)
  unfold F_pl_Insts at h
  refine SR <| Ab rfl <| Nl <| AW.seq ?_
  obtain ⟨x2, hx2, h⟩ := bsome h
  refine Rg <| Md rfl <| Ac (op_len' rfl rfl sl59 (vt rfl)) rfl <| Ac (op_leq rfl rfl (vt rfl) (vk rfl)) rfl <| Md rfl <| Gd rfl (fun hq => op_move (A := rd (ksl kInst) l1) rfl rfl (vt rfl)) <| Gd rfl (fun hq => op_call (xs := [.tmp 7, .func 257]) (c_slices_ContainsFunc_Inst _ _ _ (opt_t hx2 hq)) e256 rfl rfl ⟨vgt rfl hq, vf1 e257 c_pl_Insts_1, trivial⟩) <| Gd rfl (fun hq => op_not rfl rfl (vgt rfl hq)) <| Ac (op_all rfl rfl (vt rfl) (vt rfl)) rfl <| As rfl <| Nl <| AW.ret ?_
  obtain rfl := si h
  exact ret1 Tryz.results199 rfl (out_tmp rfl)
def F_pl_Flow (f1 : Flow) : Option Bool :=
  (opt (decide ((f1.Match.length : Int) ≤ 30)) (F_pl_Insts f1.Insts)).bind fun x3 => some ((decide ((f1.Match.length : Int) ≤ 30)) && x3)
theorem c_pl_Flow (f1 : Flow) (r : Bool) (h : F_pl_Flow f1 = some r) : PCon Tryz.prog 134 [rd kFlow f1] (rd kbool r) := by
  refine PCon.of (Con.intro0 Tryz.func134 rfl Tryz.ntmps134 rfl fun w H => ?_)
  unfold F_pl_Flow at h
  refine SR <| Ct rfl (op_box 2 rfl rfl (vt rfl)) ?_
  rintro _ ⟨g2, rfl⟩
  refine Ab rfl <| Nl <| AW.seq ?_
  obtain ⟨x3, hx3, h⟩ := bsome h
  refine Rg <| FdA lFlow_5 fl61_5 rfl <| Ld ty58 2 rfl <| Ac (op_len' rfl rfl sl58 (vt rfl)) rfl <| Ac (op_leq rfl rfl (vt rfl) (vk rfl)) rfl <| Md rfl <| Gd rfl (fun hq => op_field lFlow_6 rfl rfl fl61_6 (vt rfl)) <| Gd rfl (fun hq => op_load rfl rfl ty59 (vgt rfl hq) (i := 2) rfl) <| Gd rfl (fun hq => op_call (xs := [.tmp 9]) (c_pl_Insts _ _ (opt_t hx3 hq)) e199 rfl rfl ⟨vgt rfl hq, trivial⟩) <| Ac (op_all rfl rfl (vt rfl) (vt rfl)) rfl <| As rfl <| Nl <| AW.ret ?_
  obtain rfl := si h
  exact ret1 Tryz.results134 rfl (out_tmp rfl)
def F_pl_Flows_1 (f1 : Flow) : Option Bool :=
  (F_pl_Flow f1).bind fun x3 => some (!x3)
theorem c_pl_Flows_1 (f1 : Flow) (r : Bool) (h : F_pl_Flows_1 f1 = some r) : PCon Tryz.prog 133 [rd kFlow f1] (rd kbool r) := by
  refine PCon.of (Con.intro0 Tryz.func133 rfl Tryz.ntmps133 rfl fun w H => ?_)
  unfold F_pl_Flows_1 at h
  refine SR <| Ct rfl (op_box 2 rfl rfl (vt rfl)) ?_
  rintro _ ⟨g2, rfl⟩
  refine Ab rfl <| Nl <| AW.seq ?_
  obtain ⟨x3, hx3, h⟩ := bsome h
  refine Rg <| Ld ty61 2 rfl <| Cl [3] (c_pl_Flow _ _ hx3) e134 rfl <| Ac (op_not rfl rfl (vt rfl)) rfl <| As rfl <| Nl <| AW.ret ?_
  obtain rfl := si h
  exact ret1 Tryz.results133 rfl (out_tmp rfl)
end Go.Proofs.YtknpgojdkobgjaaGreat.W
set_option linter.unusedVariables false
set_option maxRecDepth 4000
set_option linter.unusedSimpArgs false
namespace Go.Proofs.YtknpgojdkobgjaaGreat.W
open Go Go.Wb
theorem e132 : Ent Tryz.prog 132 := Ent.mk Tryz.func132 rfl rfl
theorem e133 : Ent Tryz.prog 133 := Ent.mk Tryz.func133 rfl rfl
theorem e231 : Ent Tryz.prog 231 := Ent.mk Tryz.func231 rfl rfl
theorem e163 : Ent Tryz.prog 163 := Ent.mk Tryz.func163 rfl rfl
theorem e164 : Ent Tryz.prog 164 := Ent.mk Tryz.func164 rfl rfl
theorem e100 : Ent Tryz.prog 100 := Ent.mk Tryz.func100 rfl rfl
theorem e162 : Ent Tryz.prog 162 := Ent.mk Tryz.func162 rfl rfl
theorem e99 : Ent Tryz.prog 99 := Ent.mk Tryz.func99 rfl rfl
theorem e98 : Ent Tryz.prog 98 := Ent.mk Tryz.func98 rfl rfl
def F_pl_Flows (l1 : (List Flow)) (many2 : Int) : Option Bool :=
  (opt (decide ((l1.length : Int) ≤ many2)) (F_slices_ContainsFunc_Flow l1 F_pl_Flows_1)).bind fun x3 => some ((decide ((l1.length : Int) ≤ many2)) && (!x3))
theorem c_pl_Flows (l1 : (List Flow)) (many2 : Int) (r : Bool) (h : F_pl_Flows l1 many2 = some r) : PCon Tryz.prog 74 [rd (ksl kFlow) l1, rd (kint .i64) many2] (rd kbool r) := by
  refine PCon.of (Con.intro0 Tryz.func74 rfl Tryz.ntmps74 rfl fun w H => ?_)
  unfold F_pl_Flows at h
  refine SR <| Ab rfl <| Nl <| AW.seq ?_
  obtain ⟨x3, hx3, h⟩ := bsome h
  refine Rg <| Md rfl <| Ac (op_len' rfl rfl sl22 (vt rfl)) rfl <| Md rfl <| Ac (op_leq rfl rfl (vt rfl) (vt rfl)) rfl <| Md rfl <| Gd rfl (fun hq => op_move (A := rd (ksl kFlow) l1) rfl rfl (vt rfl)) <| Gd rfl (fun hq => op_call (xs := [.tmp 10, .func 133]) (c_slices_ContainsFunc_Flow _ _ _ (opt_t hx3 hq)) e132 rfl rfl ⟨vgt rfl hq, vf1 e133 c_pl_Flows_1, trivial⟩) <| Gd rfl (fun hq => op_not rfl rfl (vgt rfl hq)) <| Ac (op_all rfl rfl (vt rfl) (vt rfl)) rfl <| As rfl <| Nl <| AW.ret ?_
  obtain rfl := si h
  exact ret1 Tryz.results74 rfl (out_tmp rfl)
def F_slices_IndexFunc_Bucket_l1 (s1 : (List Bucket)) (f2 : (Bucket → Option Bool)) : Nat → Nat → Option Int
  | 0, i3 => some (-1)
  | m4 + 1, i3 => (lget s1 (i3 : Int)).bind fun e5 => (f2 e5).bind fun x6 => (bif x6 then some (i3 : Int) else (F_slices_IndexFunc_Bucket_l1 s1 f2 m4) (i3 + 1))
def F_slices_IndexFunc_Bucket (s1 : (List Bucket)) (f2 : (Bucket → Option Bool)) : Option Int :=
  F_slices_IndexFunc_Bucket_l1 s1 f2 ((s1.length : Int) : Int).toNat 0
theorem c_slices_IndexFunc_Bucket (s1 : (List Bucket)) (f2 : (Bucket → Option Bool)) (r : Int) (h : F_slices_IndexFunc_Bucket s1 f2 = some r) : PCon Tryz.prog 231 [rd (ksl kBucket) s1, fn1 Tryz.prog kBucket kbool f2] (rd (kint .i64) r) := by
  refine PCon.of (Con.intro0 Tryz.func231 rfl Tryz.ntmps231 rfl fun w H => ?_)
  unfold F_slices_IndexFunc_Bucket at h
  refine SR <| Ak rfl <| Nl <| AW.seq <| SR <| Md rfl <| Ac (op_len' rfl rfl sl162 (vt rfl)) rfl <| Mk rfl <| Nl <| AW.block <| AW.loopG (d := []) (ν := Nat × Nat) (fun n => Cnt (s1.length : Int) n.2 n.1 ∧ F_slices_IndexFunc_Bucket_l1 s1 f2 n.1 n.2 = some r) (fun n => n.1) (fun n => [(0, rd (ksl kBucket) s1), (1, fn1 Tryz.prog kBucket kbool f2), (7, rd (kint .i64) (s1.length : Int)), (8, rd (kint .i64) (n.2 : Int))]) (fun n => []) (((s1.length : Int) : Int).toNat, 0) ⟨Cnt.start _, h⟩ ⟨rfl, ⟨rfl, rfl, rfl, rfl, trivial⟩, trivial⟩ ?_
  rintro ⟨m4, i3⟩ ⟨hsf1, h⟩
  change Cnt (s1.length : Int) i3 m4 at hsf1
  change F_slices_IndexFunc_Bucket_l1 s1 f2 m4 i3 = some r at h
  change AW _ _ _ ⟨slots [(0, rd (ksl kBucket) s1), (1, fn1 Tryz.prog kBucket kbool f2), (7, rd (kint .i64) (s1.length : Int)), (8, rd (kint .i64) (i3 : Int))], ress [], _⟩
  cases m4 with
  | zero =>
    unfold F_slices_IndexFunc_Bucket_l1 at h
    refine SR <| Ac (op_lss rfl rfl (vt rfl) (vt rfl)) rfl <| Nl <| AW.seq <| Cn rfl (fun hc => absurd (of_decide_eq_true hc) hsf1.zero) (fun hc => ?_)
    refine AW.exit <| SR <| Ak rfl <| Nl <| AW.ret ?_
    obtain rfl := si h
    exact ret1 Tryz.results231 rfl (out_tmp rfl)
  | succ m4 =>
    unfold F_slices_IndexFunc_Bucket_l1 at h
    generalize hgo1 : F_slices_IndexFunc_Bucket_l1 s1 f2 m4 = go1 at h
    refine SR <| Ac (op_lss rfl rfl (vt rfl) (vt rfl)) rfl <| Nl <| AW.seq <| Cn rfl (fun hc => ?_) (fun hc => absurd hsf1.succ (of_decide_eq_false hc))
    have hlti3 := of_decide_eq_true hc
    refine AW.skip <| AW.seq <| AW.block <| SR <| Md rfl <| As rfl <| Nl <| AW.seq ?_
    obtain ⟨e5, he5, h⟩ := bsome h
    obtain ⟨x6, hx6, h⟩ := bsome h
    refine Rg <| Ac (op_move (A := fn1 Tryz.prog kBucket kbool f2) rfl rfl (vt rfl)) rfl <| Md rfl <| Md rfl <| Ac (op_indexs' rfl rfl sl162 (vt rfl) (vt rfl) he5) rfl <| Lp1 ty226 rfl <| Ac (op_call1 hx6 rfl rfl (vt rfl) (vt rfl)) rfl <| Nl <| Cn rfl (fun hc => ?_) (fun hc => ?_)
    · have h := cond_t hc h
      refine SR <| Md rfl <| As rfl <| Nl <| AW.ret ?_
      obtain rfl := si h
      exact ret1 Tryz.results231 rfl (out_tmp rfl)
    · have h := cond_f hc h
      refine AW.skip <| Rg <| Ac (op_incr (t := 7) rfl rfl (vt rfl) (vk rfl) (vt rfl) hlti3) rfl <| Md rfl <| Nl ?_
      subst hgo1
      exact ⟨(m4, i3 + 1), Nat.lt_succ_self _, ⟨hsf1.next, h⟩, ⟨rfl, ⟨rfl, rfl, rfl, rfl, trivial⟩, trivial⟩⟩
def F_slices_ContainsFunc_Bucket (s1 : (List Bucket)) (f2 : (Bucket → Option Bool)) : Option Bool :=
  (F_slices_IndexFunc_Bucket s1 f2).bind fun x3 => some (decide (x3 ≥ 0))
theorem c_slices_ContainsFunc_Bucket (s1 : (List Bucket)) (f2 : (Bucket → Option Bool)) (r : Bool) (h : F_slices_ContainsFunc_Bucket s1 f2 = some r) : PCon Tryz.prog 163 [rd (ksl kBucket) s1, fn1 Tryz.prog kBucket kbool f2] (rd kbool r) := by
  refine PCon.of (Con.intro0 Tryz.func163 rfl Tryz.ntmps163 rfl fun w H => ?_)
  unfold F_slices_ContainsFunc_Bucket at h
  refine SR <| Ab rfl <| Nl <| AW.seq ?_
  obtain ⟨x3, hx3, h⟩ := bsome h
  refine Rg <| Md rfl <| Ac (op_move (A := fn1 Tryz.prog kBucket kbool f2) rfl rfl (vt rfl)) rfl <| Cl [5, 6] (c_slices_IndexFunc_Bucket _ _ _ hx3) e231 rfl <| Ac (op_geq rfl rfl (vt rfl) (vk rfl)) rfl <| As rfl <| Nl <| AW.ret ?_
  obtain rfl := si h
  exact ret1 Tryz.results163 rfl (out_tmp rfl)
def F_pl_Buckets_1 (x1 : Bucket) : Option Bool :=
  (F_pl_Acts x1.Acts).bind fun x3 => some (!x3)
theorem c_pl_Buckets_1 (x1 : Bucket) (r : Bool) (h : F_pl_Buckets_1 x1 = some r) : PCon Tryz.prog 164 [rd kBucket x1] (rd kbool r) := by
  refine PCon.of (Con.intro0 Tryz.func164 rfl Tryz.ntmps164 rfl fun w H => ?_)
  unfold F_pl_Buckets_1 at h
  refine SR <| Ct rfl (op_box 2 rfl rfl (vt rfl)) ?_
  rintro _ ⟨g2, rfl⟩
  refine Ab rfl <| Nl <| AW.seq ?_
  obtain ⟨x3, hx3, h⟩ := bsome h
  refine Rg <| FdA lBucket_3 fl226_3 rfl <| Ld ty122 2 rfl <| Cl [4] (c_pl_Acts _ _ hx3) e165 rfl <| Ac (op_not rfl rfl (vt rfl)) rfl <| As rfl <| Nl <| AW.ret ?_
  obtain rfl := si h
  exact ret1 Tryz.results164 rfl (out_tmp rfl)
def F_pl_Buckets (l1 : (List Bucket)) (many2 : Int) : Option Bool :=
  (opt (decide ((l1.length : Int) ≤ many2)) (F_slices_ContainsFunc_Bucket l1 F_pl_Buckets_1)).bind fun x3 => some ((decide ((l1.length : Int) ≤ many2)) && (!x3))
theorem c_pl_Buckets (l1 : (List Bucket)) (many2 : Int) (r : Bool) (h : F_pl_Buckets l1 many2 = some r) : PCon Tryz.prog 100 [rd (ksl kBucket) l1, rd (kint .i64) many2] (rd kbool r) := by
  refine PCon.of (Con.intro0 Tryz.func100 rfl Tryz.ntmps100 rfl fun w H => ?_)
  unfold F_pl_Buckets at h
  refine SR <| Ab rfl <| Nl <| AW.seq ?_
  obtain ⟨x3, hx3, h⟩ := bsome h
  refine Rg <| Md rfl <| Ac (op_len' rfl rfl sl162 (vt rfl)) rfl <| Md rfl <| Ac (op_leq rfl rfl (vt rfl) (vt rfl)) rfl <| Md rfl <| Gd rfl (fun hq => op_move (A := rd (ksl kBucket) l1) rfl rfl (vt rfl)) <| Gd rfl (fun hq => op_call (xs := [.tmp 10, .func 164]) (c_slices_ContainsFunc_Bucket _ _ _ (opt_t hx3 hq)) e163 rfl rfl ⟨vgt rfl hq, vf1 e164 c_pl_Buckets_1, trivial⟩) <| Gd rfl (fun hq => op_not rfl rfl (vgt rfl hq)) <| Ac (op_all rfl rfl (vt rfl) (vt rfl)) rfl <| As rfl <| Nl <| AW.ret ?_
  obtain rfl := si h
  exact ret1 Tryz.results100 rfl (out_tmp rfl)
def F_pl_Groups_1 (g1 : Group) (cp2 : Int) : Option Bool :=
  (F_pl_Buckets g1.Buckets cp2).bind fun x4 => some (!x4)
theorem c_pl_Groups_1 (g1 : Group) (cp2 : Int) (r : Bool) (h : F_pl_Groups_1 g1 cp2 = some r) : PCon Tryz.prog 99 [rd kGroup g1, rp (kint .i64) cp2] (rd kbool r) := by
  refine PCon.of (Con.intro0 Tryz.func99 rfl Tryz.ntmps99 rfl fun w H => ?_)
  unfold F_pl_Groups_1 at h
  refine SR <| Ct rfl (op_box 3 rfl rfl (vt rfl)) ?_
  rintro _ ⟨g3, rfl⟩
  refine Ab rfl <| Nl <| AW.seq ?_
  obtain ⟨x4, hx4, h⟩ := bsome h
  refine Rg <| FdA lGroup_2 fl164_2 rfl <| Ld ty162 3 rfl <| Lp1 ty3 rfl <| Cl [5, 6] (c_pl_Buckets _ _ _ hx4) e100 rfl <| Ac (op_not rfl rfl (vt rfl)) rfl <| As rfl <| Nl <| AW.ret ?_
  obtain rfl := si h
  exact ret1 Tryz.results99 rfl (out_tmp rfl)
def F_slices_IndexFunc_Group_l1 (s1 : (List Group)) (f2 : (Group → Option Bool)) : Nat → Nat → Option Int
  | 0, i3 => some (-1)
  | m4 + 1, i3 => (lget s1 (i3 : Int)).bind fun e5 => (f2 e5).bind fun x6 => (bif x6 then some (i3 : Int) else (F_slices_IndexFunc_Group_l1 s1 f2 m4) (i3 + 1))
def F_slices_IndexFunc_Group (s1 : (List Group)) (f2 : (Group → Option Bool)) : Option Int :=
  F_slices_IndexFunc_Group_l1 s1 f2 ((s1.length : Int) : Int).toNat 0
theorem c_slices_IndexFunc_Group (s1 : (List Group)) (f2 : (Group → Option Bool)) (r : Int) (h : F_slices_IndexFunc_Group s1 f2 = some r) : PCon Tryz.prog 162 [rd (ksl kGroup) s1, fn1 Tryz.prog kGroup kbool f2] (rd (kint .i64) r) := by
  refine PCon.of (Con.intro0 Tryz.func162 rfl Tryz.ntmps162 rfl fun w H => ?_)
  unfold F_slices_IndexFunc_Group at h
  refine SR <| Ak rfl <| Nl <| AW.seq <| SR <| Md rfl <| Ac (op_len' rfl rfl sl24 (vt rfl)) rfl <| Mk rfl <| Nl <| AW.block <| AW.loopG (d := []) (ν := Nat × Nat) (fun n => Cnt (s1.length : Int) n.2 n.1 ∧ F_slices_IndexFunc_Group_l1 s1 f2 n.1 n.2 = some r) (fun n => n.1) (fun n => [(0, rd (ksl kGroup) s1), (1, fn1 Tryz.prog kGroup kbool f2), (7, rd (kint .i64) (s1.length : Int)), (8, rd (kint .i64) (n.2 : Int))]) (fun n => []) (((s1.length : Int) : Int).toNat, 0) ⟨Cnt.start _, h⟩ ⟨rfl, ⟨rfl, rfl, rfl, rfl, trivial⟩, trivial⟩ ?_
  rintro ⟨m4, i3⟩ ⟨hsf1, h⟩
  change Cnt (s1.length : Int) i3 m4 at hsf1
  change F_slices_IndexFunc_Group_l1 s1 f2 m4 i3 = some r at h
  change AW _ _ _ ⟨slots [(0, rd (ksl kGroup) s1), (1, fn1 Tryz.prog kGroup kbool f2), (7, rd (kint .i64) (s1.length : Int)), (8, rd (kint .i64) (i3 : Int))], ress [], _⟩
  cases m4 with
  | zero =>
    unfold F_slices_IndexFunc_Group_l1 at h
    refine SR <| Ac (op_lss rfl rfl (vt rfl) (vt rfl)) rfl <| Nl <| AW.seq <| Cn rfl (fun hc => absurd (of_decide_eq_true hc) hsf1.zero) (fun hc => ?_)
    refine AW.exit <| SR <| Ak rfl <| Nl <| AW.ret ?_
    obtain rfl := si h
    exact ret1 Tryz.results162 rfl (out_tmp rfl)
  | succ m4 =>
    unfold F_slices_IndexFunc_Group_l1 at h
    generalize hgo1 : F_slices_IndexFunc_Group_l1 s1 f2 m4 = go1 at h
    refine SR <| Ac (op_lss rfl rfl (vt rfl) (vt rfl)) rfl <| Nl <| AW.seq <| Cn rfl (fun hc => ?_) (fun hc => absurd hsf1.succ (of_decide_eq_false hc))
    have hlti3 := of_decide_eq_true hc
    refine AW.skip <| AW.seq <| AW.block <| SR <| Md rfl <| As rfl <| Nl <| AW.seq ?_
    obtain ⟨e5, he5, h⟩ := bsome h
    obtain ⟨x6, hx6, h⟩ := bsome h
    refine Rg <| Ac (op_move (A := fn1 Tryz.prog kGroup kbool f2) rfl rfl (vt rfl)) rfl <| Md rfl <| Md rfl <| Ac (op_indexs' rfl rfl sl24 (vt rfl) (vt rfl) he5) rfl <| Lp1 ty164 rfl <| Ac (op_call1 hx6 rfl rfl (vt rfl) (vt rfl)) rfl <| Nl <| Cn rfl (fun hc => ?_) (fun hc => ?_)
    · have h := cond_t hc h
      refine SR <| Md rfl <| As rfl <| Nl <| AW.ret ?_
      obtain rfl := si h
      exact ret1 Tryz.results162 rfl (out_tmp rfl)
    · have h := cond_f hc h
      refine AW.skip <| Rg <| Ac (op_incr (t := 7) rfl rfl (vt rfl) (vk rfl) (vt rfl) hlti3) rfl <| Md rfl <| Nl ?_
      subst hgo1
      exact ⟨(m4, i3 + 1), Nat.lt_succ_self _, ⟨hsf1.next, h⟩, ⟨rfl, ⟨rfl, rfl, rfl, rfl, trivial⟩, trivial⟩⟩
def F_slices_ContainsFunc_Group (s1 : (List Group)) (f2 : (Group → Option Bool)) : Option Bool :=
  (F_slices_IndexFunc_Group s1 f2).bind fun x3 => some (decide (x3 ≥ 0))
theorem c_slices_ContainsFunc_Group (s1 : (List Group)) (f2 : (Group → Option Bool)) (r : Bool) (h : F_slices_ContainsFunc_Group s1 f2 = some r) : PCon Tryz.prog 98 [rd (ksl kGroup) s1, fn1 Tryz.prog kGroup kbool f2] (rd kbool r) := by
  refine PCon.of (Con.intro0 Tryz.func98 rfl Tryz.ntmps98 rfl fun w H => ?_)
  unfold F_slices_ContainsFunc_Group at h
  refine SR <| Ab rfl <| Nl <| AW.seq ?_
  obtain ⟨x3, hx3, h⟩ := bsome h
  refine Rg <| Md rfl <| Ac (op_move (A := fn1 Tryz.prog kGroup kbool f2) rfl rfl (vt rfl)) rfl <| Cl [5, 6] (c_slices_IndexFunc_Group _ _ _ hx3) e162 rfl <| Ac (op_geq rfl rfl (vt rfl) (vk rfl)) rfl <| As rfl <| Nl <| AW.ret ?_
  obtain rfl := si h
  exact ret1 Tryz.results98 rfl (out_tmp rfl)
def F_pl_Groups (l1 : (List Group)) (many2 : Int) (buckets3 : Int) : Option Bool :=
  (opt (decide ((l1.length : Int) ≤ many2)) (F_slices_ContainsFunc_Group l1 (fun x => F_pl_Groups_1 x buckets3))).bind fun x5 => some ((decide ((l1.length : Int) ≤ many2)) && (!x5))
theorem c_pl_Groups (l1 : (List Group)) (many2 : Int) (buckets3 : Int) (r : Bool) (h : F_pl_Groups l1 many2 buckets3 = some r) : PCon Tryz.prog 40 [rd (ksl kGroup) l1, rd (kint .i64) many2, rd (kint .i64) buckets3] (rd kbool r) := by
  refine PCon.of (Con.intro0 Tryz.func40 rfl Tryz.ntmps40 rfl fun w H => ?_)
  unfold F_pl_Groups at h
  refine SR <| Ct rfl (op_box 6 rfl rfl (vt rfl)) ?_
  rintro _ ⟨g4, rfl⟩
  refine Ab rfl <| Nl <| AW.seq <| AW.freezeB 5 6 rfl rfl rfl ?_
  obtain ⟨x5, hx5, h⟩ := bsome h
  refine Rg <| Md rfl <| Ac (op_len' rfl rfl sl24 (vt rfl)) rfl <| Md rfl <| Ac (op_leq rfl rfl (vt rfl) (vt rfl)) rfl <| Md rfl <| Gd rfl (fun hq => op_move (A := rd (ksl kGroup) l1) rfl rfl (vt rfl)) <| Gd rfl (fun hq => op_fn1 (cs := [.tmp 5]) (CAs := [rp (kint .i64) buckets3]) (fun x => F_pl_Groups_1 x buckets3) rfl rfl e99 ⟨vt rfl, trivial⟩ (fun x y h => c_pl_Groups_1 _ _ y h)) <| Gd rfl (fun hq => op_call (xs := [.tmp 12, .tmp 13]) (c_slices_ContainsFunc_Group _ _ _ (opt_t hx5 hq)) e98 rfl rfl ⟨vgt rfl hq, vgt rfl hq, trivial⟩) <| Gd rfl (fun hq => op_not rfl rfl (vgt rfl hq)) <| Ac (op_all rfl rfl (vt rfl) (vt rfl)) rfl <| As rfl <| Nl <| AW.ret ?_
  obtain rfl := si h
  exact ret1 Tryz.results40 rfl (out_tmp rfl)
end Go.Proofs.YtknpgojdkobgjaaGreat.W
set_option linter.unusedVariables false
set_option maxRecDepth 4000
set_option linter.unusedSimpArgs false
namespace Go.Proofs.YtknpgojdkobgjaaGreat.W
open Go Go.Wb
theorem e40 : Ent Tryz.prog 40 := Ent.mk Tryz.func40 rfl rfl
theorem e74 : Ent Tryz.prog 74 := Ent.mk Tryz.func74 rfl rfl
theorem e341 : Ent Tryz.prog 341 := Ent.mk Tryz.func341 rfl rfl
theorem e302 : Ent Tryz.prog 302 := Ent.mk Tryz.func302 rfl rfl
theorem e333 : Ent Tryz.prog 333 := Ent.mk Tryz.func333 rfl rfl
theorem e301 : Ent Tryz.prog 301 := Ent.mk Tryz.func301 rfl rfl
def F_pl_Switch_l1 (s1 : Switch) (many2 : Int) : (List (List Flow)) → Nat → Option Bool
  | [], i4 => (F_pl_Groups s1.Groups 9 3).bind fun x6 => some x6
  | x7 :: l5, i4 => (F_pl_Flows x7 many2).bind fun x8 => (bif (!x8) then some false else (F_pl_Switch_l1 s1 many2 l5) (i4 + 1))
def F_pl_Switch (s1 : Switch) (many2 : Int) : Option Bool :=
  F_pl_Switch_l1 s1 many2 (Vector.toList s1.Tables) 0
theorem c_pl_Switch (s1 : Switch) (many2 : Int) (r : Bool) (h : F_pl_Switch s1 many2 = some r) : PCon Tryz.prog 21 [rd kSwitch s1, rd (kint .i64) many2] (rd kbool r) := by
  refine PCon.of (Con.intro0 Tryz.func21 rfl Tryz.ntmps21 rfl fun w H => ?_)
  unfold F_pl_Switch at h
  refine SR <| Ct rfl (op_box 3 rfl rfl (vt rfl)) ?_
  rintro _ ⟨g3, rfl⟩
  refine Ab rfl <| Nl <| AW.seq <| SR <| FdA lSwitch_0 fl26_0 rfl <| Ld ty23 3 rfl <| Mk rfl <| Nl <| AW.block <| AW.loopG (d := []) (ν := (List (List Flow)) × Nat) (fun n => Sfx (Vector.toList s1.Tables) n.2 n.1 ∧ F_pl_Switch_l1 s1 many2 n.1 n.2 = some r) (fun n => n.1.length) (fun n => [(1, rd (kint .i64) many2), (2, ptrL g3 (Lens.id kSwitch)), (8, rd (karr 4 (ksl kFlow)) s1.Tables), (9, rd (kint .i64) (n.2 : Int))]) (fun n => [(3, Blk g3 26 kSwitch s1)]) ((Vector.toList s1.Tables), 0) ⟨Sfx.start _, h⟩ ⟨rfl, ⟨rfl, rfl, rfl, rfl, trivial⟩, ⟨rfl, trivial⟩⟩ ?_
  rintro ⟨l5, i4⟩ ⟨hsf1, h⟩
  change Sfx (Vector.toList s1.Tables) i4 l5 at hsf1
  change F_pl_Switch_l1 s1 many2 l5 i4 = some r at h
  change AW _ _ _ ⟨slots [(1, rd (kint .i64) many2), (2, ptrL g3 (Lens.id kSwitch)), (8, rd (karr 4 (ksl kFlow)) s1.Tables), (9, rd (kint .i64) (i4 : Int))], ress [(3, Blk g3 26 kSwitch s1)], _⟩
  cases l5 with
  | nil =>
    unfold F_pl_Switch_l1 at h
    refine SR <| Ac (op_lss rfl rfl (vt rfl) (vk rfl)) rfl <| Nl <| AW.seq <| Cn rfl (fun hc => absurd (of_decide_eq_true hc) (hsf1.niln (by simp))) (fun hc => ?_)
    refine AW.exit <| AW.seq ?_
    obtain ⟨x6, hx6, h⟩ := bsome h
    refine Rg <| FdA lSwitch_1 fl26_1 rfl <| Ld ty24 3 rfl <| Ac (op_call (xs := [.tmp 18, .const (Value.int IntKind.i64 9), .const (Value.int IntKind.i64 3)]) (c_pl_Groups _ _ _ _ hx6) e40 rfl rfl ⟨vt rfl, vk rfl, vk rfl, trivial⟩) rfl <| As rfl <| Nl <| AW.ret ?_
    obtain rfl := si h
    exact ret1 Tryz.results21 rfl (out_tmp rfl)
  | cons x7 l5 =>
    unfold F_pl_Switch_l1 at h
    generalize hgo1 : F_pl_Switch_l1 s1 many2 l5 = go1 at h
    refine SR <| Ac (op_lss rfl rfl (vt rfl) (vk rfl)) rfl <| Nl <| AW.seq <| Cn rfl (fun hc => ?_) (fun hc => absurd (hsf1.consn (by simp)) (of_decide_eq_false hc))
    have hlti4 := of_decide_eq_true hc
    refine AW.skip <| AW.seq <| AW.block <| SR <| Ac (op_indexv rfl rfl ar23 ty22 (vt rfl) (vt rfl) hsf1.lget) rfl <| As rfl <| Nl <| AW.seq ?_
    obtain ⟨x8, hx8, h⟩ := bsome h
    refine Rg <| Md rfl <| Md rfl <| Cl [12, 13] (c_pl_Flows _ _ _ hx8) e74 rfl <| Ac (op_not rfl rfl (vt rfl)) rfl <| Nl <| Cn rfl (fun hc => ?_) (fun hc => ?_)
    · have h := cond_t hc h
      refine SR <| Ab rfl <| Nl <| AW.ret ?_
      obtain rfl := si h
      exact ret1 Tryz.results21 rfl (out_tmp rfl)
    · have h := cond_f hc h
      refine AW.skip <| Rg <| Ac (op_incrc rfl rfl (vt rfl) (vk rfl) rfl hlti4) rfl <| Md rfl <| Nl ?_
      subst hgo1
      exact ⟨(l5, i4 + 1), Nat.lt_succ_self _, ⟨hsf1.next, h⟩, ⟨rfl, ⟨rfl, rfl, rfl, rfl, trivial⟩, ⟨rfl, trivial⟩⟩⟩
def F_l48_flood (port1 : Int) : Option Switch :=
  some { (⟨(Vector.replicate 4 []), []⟩ : Switch) with Tables := (Vector.set ((⟨(Vector.replicate 4 []), []⟩ : Switch).Tables) (⟨0, by decide⟩ : _root_.Fin 4).1 [(⟨0, 0, 0, 0, 0, [], [(⟨4, 0, zWide, zWide, [(⟨0, port1, 0, 0, 0, zOxm⟩ : Action)]⟩ : Inst)]⟩ : Flow)] (⟨0, by decide⟩ : _root_.Fin 4).2) }
theorem c_l48_flood (port1 : Int) (r : Switch) (h : F_l48_flood port1 = some r) : PCon Tryz.prog 89 [rd (kint .i64) port1] (rd kSwitch r) := by
  refine PCon.of (Con.intro0 Tryz.func89 rfl Tryz.ntmps89 rfl fun w H => ?_)
  unfold F_l48_flood at h
  refine SR <| Ct rfl (op_alloc 3 rfl rfl zr26) ?_
  rintro _ ⟨g2, rfl⟩
  refine Nl <| SR <| Ac (op_build (ps := []) (x := (⟨(Vector.replicate 4 []), []⟩ : Switch)) rfl rfl rfl (by kernel_rfl) zr26 rfl) rfl <| Ct rfl (op_alloc 4 rfl rfl zr26) ?_
  rintro _ ⟨g3, rfl⟩
  refine Sto ty26 4 rfl <| Nl <| SR <| Md rfl <| Ac (op_build (ps := [(0, .const (Value.int IntKind.i64 0)), (1, .tmp 5)]) (x := (⟨0, port1, 0, 0, 0, zOxm⟩ : Action)) rfl rfl rfl (by kernel_rfl) zr121 ⟨_, _, lAction_0, _, by kernel_rfl, (vk rfl), _, _, lAction_1, _, by kernel_rfl, (vt rfl), rfl⟩) rfl <| Ac (op_buildSliceR (ps := [(0, .tmp 6)]) (l := [(⟨0, port1, 0, 0, 0, zOxm⟩ : Action)]) rfl rfl sl122 zr121 rfl rfl ⟨_, _, Lens.idx 1 kAction 0 (by decide), _, rfl, (vt rfl), rfl⟩ rfl) rfl <| Ac (op_build (ps := [(0, .const (Value.int IntKind.i64 4)), (4, .tmp 7)]) (x := (⟨4, 0, zWide, zWide, [(⟨0, port1, 0, 0, 0, zOxm⟩ : Action)]⟩ : Inst)) rfl rfl rfl (by kernel_rfl) zr124 ⟨_, _, lInst_0, _, by kernel_rfl, (vk rfl), _, _, lInst_4, _, by kernel_rfl, (vt rfl), rfl⟩) rfl <| Ac (op_buildSliceR (ps := [(0, .tmp 8)]) (l := [(⟨4, 0, zWide, zWide, [(⟨0, port1, 0, 0, 0, zOxm⟩ : Action)]⟩ : Inst)]) rfl rfl sl59 zr124 rfl rfl ⟨_, _, Lens.idx 1 kInst 0 (by decide), _, rfl, (vt rfl), rfl⟩ rfl) rfl <| Ac (op_build (ps := [(6, .tmp 9)]) (x := (⟨0, 0, 0, 0, 0, [], [(⟨4, 0, zWide, zWide, [(⟨0, port1, 0, 0, 0, zOxm⟩ : Action)]⟩ : Inst)]⟩ : Flow)) rfl rfl rfl (by kernel_rfl) zr61 ⟨_, _, lFlow_6, _, by kernel_rfl, (vt rfl), rfl⟩) rfl <| Ac (op_buildSliceR (ps := [(0, .tmp 10)]) (l := [(⟨0, 0, 0, 0, 0, [], [(⟨4, 0, zWide, zWide, [(⟨0, port1, 0, 0, 0, zOxm⟩ : Action)]⟩ : Inst)]⟩ : Flow)]) rfl rfl sl22 zr61 rfl rfl ⟨_, _, Lens.idx 1 kFlow 0 (by decide), _, rfl, (vt rfl), rfl⟩ rfl) rfl <| FdA lSwitch_0 fl26_0 rfl <| Ac (op_index' rfl rfl ar23 (vt rfl) (vk rfl) rfl) rfl <| Sto ty22 4 rfl <| Nl <| SR <| Ld ty26 4 rfl <| Sto ty26 3 rfl <| Nl <| AW.ret ?_
  obtain rfl := si h
  exact ret1 Tryz.results89 rfl (out_cell rfl (i := 3) rfl ty26)
def F_trace_hops (n1 : Int) : Option Int :=
  some (imin (imax n1 0) 8)
theorem c_trace_hops (n1 : Int) (r : Int) (h : F_trace_hops n1 = some r) : PCon Tryz.prog 93 [rd (kint .i64) n1] (rd (kint .i64) r) := by
  refine PCon.of (Con.intro0 Tryz.func93 rfl Tryz.ntmps93 rfl fun w H => ?_)
  unfold F_trace_hops at h
  refine SR <| Ak rfl <| Nl <| SR <| Md rfl <| Ac (op_max rfl rfl (vt rfl) (vk rfl)) rfl <| Ac (op_min rfl rfl (vt rfl) (vk rfl)) rfl <| As rfl <| Nl <| AW.ret ?_
  obtain rfl := si h
  exact ret1 Tryz.results93 rfl (out_tmp rfl)
def F_first_Order_1 (i1 : Int) (j2 : Int) (cp3 : (List Flow)) : Option Int :=
  (lget cp3 i1).bind fun e4 => (lget cp3 j2).bind fun e5 => (bif (decide (e4.Priority > e5.Priority)) then some (-1) else (lget cp3 i1).bind fun e6 => (lget cp3 j2).bind fun e7 => (bif (decide (e6.Priority < e7.Priority)) then some 1 else some 0))
theorem c_first_Order_1 (i1 : Int) (j2 : Int) (cp3 : (List Flow)) (r : Int) (h : F_first_Order_1 i1 j2 cp3 = some r) : PCon Tryz.prog 201 [rd (kint .i64) i1, rd (kint .i64) j2, rp (ksl kFlow) cp3] (rd (kint .i64) r) := by
  refine PCon.of (Con.intro0 Tryz.func201 rfl Tryz.ntmps201 rfl fun w H => ?_)
  unfold F_first_Order_1 at h
  refine SR <| Ak rfl <| Nl <| AW.seq <| AW.block <| AW.seq ?_
  obtain ⟨e4, he4, h⟩ := bsome h
  obtain ⟨e5, he5, h⟩ := bsome h
  refine AW.regionAny [⟨[2], [7], [], []⟩, ⟨[0], [8], [], []⟩, ⟨[7, 8], [9], [], []⟩, ⟨[9], [10], [], []⟩, ⟨[10], [11], [], []⟩, ⟨[2], [12], [], []⟩, ⟨[1], [13], [], []⟩, ⟨[12, 13], [14], [], []⟩, ⟨[14], [15], [], []⟩, ⟨[15], [16], [], []⟩, ⟨[11, 16], [17], [], []⟩, ⟨[17], [6], [], []⟩] mixed (by kernel_rfl) <| SLp ty22 rfl <| SMd rfl <| Sc (lo [7, 8] [] rfl fun S hs hr => op_indexs' rfl rfl sl22 (vh hs 7 rfl rfl) (vh hs 8 rfl rfl) he4) rfl <| SFp lFlow_1 fl61_1 rfl <| SLp ty3 rfl <| SLp ty22 rfl <| SMd rfl <| Sc (lo [12, 13] [] rfl fun S hs hr => op_indexs' rfl rfl sl22 (vh hs 12 rfl rfl) (vh hs 13 rfl rfl) he5) rfl <| SFp lFlow_1 fl61_1 rfl <| SLp ty3 rfl <| Sc (lo [11, 16] [] rfl fun S hs hr => op_gtr rfl rfl (vh hs 11 rfl rfl) (vh hs 16 rfl rfl)) rfl <| SAs rfl <| Cn rfl (fun hc => ?_) (fun hc => ?_)
  · have h := cond_t hc h
    refine SR <| Ak rfl <| Nl <| AW.ret ?_
    obtain rfl := si h
    exact ret1 Tryz.results201 rfl (out_tmp rfl)
  · have h := cond_f hc h
    refine AW.seq ?_
    obtain ⟨e6, he6, h⟩ := bsome h
    obtain ⟨e7, he7, h⟩ := bsome h
    refine AW.regionAny [⟨[2], [19], [], []⟩, ⟨[0], [20], [], []⟩, ⟨[19, 20], [21], [], []⟩, ⟨[21], [22], [], []⟩, ⟨[22], [23], [], []⟩, ⟨[2], [24], [], []⟩, ⟨[1], [25], [], []⟩, ⟨[24, 25], [26], [], []⟩, ⟨[26], [27], [], []⟩, ⟨[27], [28], [], []⟩, ⟨[23, 28], [29], [], []⟩, ⟨[29], [18], [], []⟩] mixed (by kernel_rfl) <| SLp ty22 rfl <| SMd rfl <| Sc (lo [19, 20] [] rfl fun S hs hr => op_indexs' rfl rfl sl22 (vh hs 19 rfl rfl) (vh hs 20 rfl rfl) he6) rfl <| SFp lFlow_1 fl61_1 rfl <| SLp ty3 rfl <| SLp ty22 rfl <| SMd rfl <| Sc (lo [24, 25] [] rfl fun S hs hr => op_indexs' rfl rfl sl22 (vh hs 24 rfl rfl) (vh hs 25 rfl rfl) he7) rfl <| SFp lFlow_1 fl61_1 rfl <| SLp ty3 rfl <| Sc (lo [23, 28] [] rfl fun S hs hr => op_lss rfl rfl (vh hs 23 rfl rfl) (vh hs 28 rfl rfl)) rfl <| SAs rfl <| Cn rfl (fun hc => ?_) (fun hc => ?_)
    · have h := cond_t hc h
      refine SR <| Ak rfl <| Nl <| AW.ret ?_
      obtain rfl := si h
      exact ret1 Tryz.results201 rfl (out_tmp rfl)
    · have h := cond_f hc h
      refine AW.skip <| SR <| Ak rfl <| Nl <| AW.ret ?_
      obtain rfl := si h
      exact ret1 Tryz.results201 rfl (out_tmp rfl)
def F_slices_insertionSortCmpFunc_int_l2 (a3 : Int) (cmp5 : (Int → Int → Option Int)) (go1 : (List Int) → Int → Option (List Int)) (i9 : Int) : Nat → (List Int) → Int → Option (List Int)
  | 0, _, _ => none
  | m15 + 1, l13, j14 => (opt (decide (j14 > a3)) (lget l13 j14)).bind fun e16 => (opt (decide (j14 > a3)) (lget l13 (IntKind.i64.wrap (j14 - 1)))).bind fun e17 => (opt (decide (j14 > a3)) (cmp5 e16 e17)).bind fun x18 => (bif ((decide (j14 > a3)) && (decide (x18 < 0))) then (lget l13 (IntKind.i64.wrap (j14 - 1))).bind fun e19 => (lget l13 j14).bind fun e20 => (lget l13 j14).bind fun e21 => (lget (List.set l13 j14.toNat e19) (IntKind.i64.wrap (j14 - 1))).bind fun e22 => (F_slices_insertionSortCmpFunc_int_l2 a3 cmp5 go1 i9 m15) (List.set (List.set l13 j14.toNat e19) (IntKind.i64.wrap (j14 - 1)).toNat e20) (IntKind.i64.wrap (j14 - 1)) else go1 l13 (IntKind.i64.wrap (i9 + 1)))
def F_slices_insertionSortCmpFunc_int_l1 (b4 : Int) (a3 : Int) (cmp5 : (Int → Int → Option Int)) : Nat → (List Int) → Int → Option (List Int)
  | 0, _, _ => none
  | m10 + 1, l8, i9 => (bif (decide (i9 < b4)) then F_slices_insertionSortCmpFunc_int_l2 a3 cmp5 (F_slices_insertionSortCmpFunc_int_l1 b4 a3 cmp5 m10) i9 fuel0 l8 i9 else some l8)
def F_slices_insertionSortCmpFunc_int (data1 : (List Int)) (a3 : Int) (b4 : Int) (cmp5 : (Int → Int → Option Int)) : Option (List Int) :=
  F_slices_insertionSortCmpFunc_int_l1 b4 a3 cmp5 (((b4 : Int) - (IntKind.i64.wrap (a3 + 1))).toNat + 1) data1 (IntKind.i64.wrap (a3 + 1))
theorem c_slices_insertionSortCmpFunc_int_o (v2 : Value) (data1 : (List Int)) (a3 : Int) (b4 : Int) (cmp5 : (Int → Int → Option Int)) (r : (List Int)) (h : F_slices_insertionSortCmpFunc_int data1 a3 b4 cmp5 = some r) : Con Tryz.prog 301 [raw v2, rd (kint .i64) a3, rd (kint .i64) b4, fn2 Tryz.prog (kint .i64) (kint .i64) (kint .i64) cmp5] (Row v2 3 (kint .i64) data1) (fun _ : Unit => top) (fun _ => Row v2 3 (kint .i64) r) := by
  refine Con.intro Tryz.func301 rfl Tryz.ntmps301 rfl fun w H X => ?_
  unfold F_slices_insertionSortCmpFunc_int at h
  refine SR <| Md rfl <| Ac (op_add rfl rfl (vt rfl) (vk rfl)) rfl <| As rfl <| Nl <| AW.block <| AW.loopG (d := []) (ν := Nat × (List Int) × Int) (fun n => True ∧ F_slices_insertionSortCmpFunc_int_l1 b4 a3 cmp5 n.1 n.2.1 n.2.2 = some r) (fun n => n.1) (fun n => [(0, raw v2), (1, rd (kint .i64) a3), (2, rd (kint .i64) b4), (3, fn2 Tryz.prog (kint .i64) (kint .i64) (kint .i64) cmp5), (8, rd (kint .i64) n.2.2)]) (fun n => [(0, Row v2 3 (kint .i64) n.2.1)]) ((((b4 : Int) - (IntKind.i64.wrap (a3 + 1))).toNat + 1), data1, (IntKind.i64.wrap (a3 + 1))) ⟨trivial, h⟩ ⟨rfl, ⟨rfl, rfl, rfl, rfl, rfl, trivial⟩, ⟨rfl, trivial⟩⟩ ?_
  rintro ⟨m10, l8, i9⟩ ⟨hsf1, h⟩
  change True at hsf1
  change F_slices_insertionSortCmpFunc_int_l1 b4 a3 cmp5 m10 l8 i9 = some r at h
  change AW _ _ _ ⟨slots [(0, raw v2), (1, rd (kint .i64) a3), (2, rd (kint .i64) b4), (3, fn2 Tryz.prog (kint .i64) (kint .i64) (kint .i64) cmp5), (8, rd (kint .i64) i9)], ress [(0, Row v2 3 (kint .i64) l8)], _⟩
  cases m10 with
  | zero => cases h
  | succ m10 =>
    unfold F_slices_insertionSortCmpFunc_int_l1 at h
    generalize hgo1 : F_slices_insertionSortCmpFunc_int_l1 b4 a3 cmp5 m10 = go1 at h
    refine AW.seq <| SR <| Md rfl <| Md rfl <| Ac (op_lss rfl rfl (vt rfl) (vt rfl)) rfl <| Nl <| Cn rfl (fun hc => ?_) (fun hc => ?_)
    · have h := cond_t hc h
      refine AW.skip <| AW.seq <| AW.block <| SR <| Md rfl <| As rfl <| Nl <| AW.block <| AW.loopG (d := []) (ν := Nat × (List Int) × Int) (fun n => True ∧ F_slices_insertionSortCmpFunc_int_l2 a3 cmp5 go1 i9 n.1 n.2.1 n.2.2 = some r) (fun n => n.1) (fun n => [(0, raw v2), (1, rd (kint .i64) a3), (2, rd (kint .i64) b4), (3, fn2 Tryz.prog (kint .i64) (kint .i64) (kint .i64) cmp5), (8, rd (kint .i64) i9), (9, rd (kint .i64) n.2.2)]) (fun n => [(0, Row v2 3 (kint .i64) n.2.1)]) (fuel0, l8, i9) ⟨trivial, h⟩ ⟨rfl, ⟨rfl, rfl, rfl, rfl, rfl, rfl, trivial⟩, ⟨rfl, trivial⟩⟩ ?_
      rintro ⟨m15, l13, j14⟩ ⟨hsf2, h⟩
      change True at hsf2
      change F_slices_insertionSortCmpFunc_int_l2 a3 cmp5 go1 i9 m15 l13 j14 = some r at h
      change AW _ _ _ ⟨slots [(0, raw v2), (1, rd (kint .i64) a3), (2, rd (kint .i64) b4), (3, fn2 Tryz.prog (kint .i64) (kint .i64) (kint .i64) cmp5), (8, rd (kint .i64) i9), (9, rd (kint .i64) j14)], ress [(0, Row v2 3 (kint .i64) l13)], _⟩
      cases m15 with
      | zero => cases h
      | succ m15 =>
        unfold F_slices_insertionSortCmpFunc_int_l2 at h
        generalize hgo2 : F_slices_insertionSortCmpFunc_int_l2 a3 cmp5 go1 i9 m15 = go2 at h
        refine AW.seq <| AW.seq ?_
        obtain ⟨e16, he16, h⟩ := bsome h
        obtain ⟨e17, he17, h⟩ := bsome h
        obtain ⟨x18, hx18, h⟩ := bsome h
        refine AW.regionAny [⟨[9], [18], [], []⟩, ⟨[1], [19], [], []⟩, ⟨[18, 19], [20], [], []⟩, ⟨[20], [21], [], []⟩, ⟨[3, 21], [22], [], []⟩, ⟨[0, 21], [23], [], []⟩, ⟨[9, 21], [24], [], []⟩, ⟨[23, 24, 21], [25], [0], []⟩, ⟨[25, 21], [26], [0], []⟩, ⟨[0, 21], [27], [], []⟩, ⟨[9, 21], [28], [], []⟩, ⟨[28, 21], [29], [], []⟩, ⟨[27, 29, 21], [30], [0], []⟩, ⟨[30, 21], [31], [0], []⟩, ⟨[22, 26, 31, 21], [32], [], []⟩, ⟨[32, 21], [33], [], []⟩, ⟨[33, 21], [34], [], []⟩] mixed (by kernel_rfl) <| SMd rfl <| SMd rfl <| Sc (lo [18, 19] [] rfl fun S hs hr => op_gtr rfl rfl (vh hs 18 rfl rfl) (vh hs 19 rfl rfl)) rfl <| SMd rfl <| Sc (lg [3, 21] [] rfl fun hq S hs hr => op_move (A := fn2 Tryz.prog (kint .i64) (kint .i64) (kint .i64) cmp5) rfl rfl (vh hs 3 rfl rfl)) rfl <| Sc (lg [0, 21] [] rfl fun hq S hs hr => op_move (A := raw v2) rfl rfl (vh hs 0 rfl rfl)) rfl <| Sc (lg [9, 21] [] rfl fun hq S hs hr => op_move (A := rd (kint .i64) j14) rfl rfl (vh hs 9 rfl rfl)) rfl <| Sc (lg [23, 24, 21] [0] rfl fun hq S hs hr => op_indexo' 0 rfl rfl sl37 (vgt ((hs 23 rfl).trans rfl) hq) ((hr 0 rfl).trans rfl) (vgt ((hs 24 rfl).trans rfl) hq) (opt_t he16 hq)) rfl <| Sc (lg [25, 21] [0] rfl fun hq S hs hr => op_loado' 0 rfl rfl ty3 (vgt ((hs 25 rfl).trans rfl) hq) ((hr 0 rfl).trans rfl) (lget_of (opt_t he16 hq)).2) rfl <| Sc (lg [0, 21] [] rfl fun hq S hs hr => op_move (A := raw v2) rfl rfl (vh hs 0 rfl rfl)) rfl <| Sc (lg [9, 21] [] rfl fun hq S hs hr => op_move (A := rd (kint .i64) j14) rfl rfl (vh hs 9 rfl rfl)) rfl <| Sc (lg [28, 21] [] rfl fun hq S hs hr => op_sub rfl rfl (vgt ((hs 28 rfl).trans rfl) hq) (vk rfl)) rfl <| Sc (lg [27, 29, 21] [0] rfl fun hq S hs hr => op_indexo' 0 rfl rfl sl37 (vgt ((hs 27 rfl).trans rfl) hq) ((hr 0 rfl).trans rfl) (vgt ((hs 29 rfl).trans rfl) hq) (opt_t he17 hq)) rfl <| Sc (lg [30, 21] [0] rfl fun hq S hs hr => op_loado' 0 rfl rfl ty3 (vgt ((hs 30 rfl).trans rfl) hq) ((hr 0 rfl).trans rfl) (lget_of (opt_t he17 hq)).2) rfl <| Sc (lg [22, 26, 31, 21] [] rfl fun hq S hs hr => op_call2 (opt_t hx18 hq) rfl rfl (vgt ((hs 22 rfl).trans rfl) hq) (vgt ((hs 26 rfl).trans rfl) hq) (vgt ((hs 31 rfl).trans rfl) hq)) rfl <| Sc (lg [32, 21] [] rfl fun hq S hs hr => op_lss rfl rfl (vgt ((hs 32 rfl).trans rfl) hq) (vk rfl)) rfl <| Sc (lo [33, 21] [] rfl fun S hs hr => op_all rfl rfl (vh hs 21 rfl rfl) (vh hs 33 rfl rfl)) rfl <| Cn rfl (fun hc => ?_) (fun hc => ?_)
        · have h := cond_t hc h
          refine AW.skip <| AW.seq <| AW.block <| AW.vlen 0 rfl fun hvl0_273 => ?_
          obtain ⟨e19, he19, h⟩ := bsome h
          obtain ⟨e20, he20, h⟩ := bsome h
          obtain ⟨e21, he21, h⟩ := bsome h
          obtain ⟨e22, he22, h⟩ := bsome h
          refine AW.regionAny [⟨[0], [37], [], []⟩, ⟨[9], [38], [], []⟩, ⟨[0], [39], [], []⟩, ⟨[9], [40], [], []⟩, ⟨[40], [41], [], []⟩, ⟨[0], [42], [], []⟩, ⟨[9], [43], [], []⟩, ⟨[43], [44], [], []⟩, ⟨[42, 44], [45], [], []⟩, ⟨[45], [46], [0], []⟩, ⟨[0], [47], [], []⟩, ⟨[9], [48], [], []⟩, ⟨[47, 48], [49], [], []⟩, ⟨[49], [50], [0], []⟩, ⟨[37, 38], [51], [], []⟩, ⟨[51, 46], [], [0], [0]⟩, ⟨[39, 41], [52], [], []⟩, ⟨[52, 50], [], [0], [0]⟩] mixed (by kernel_rfl) <| SMw rfl <| SMd rfl <| SMw rfl <| SMd rfl <| Sc (lo [40] [] rfl fun S hs hr => op_sub rfl rfl (vh hs 40 rfl rfl) (vk rfl)) rfl <| SMw rfl <| SMd rfl <| Sc (lo [43] [] rfl fun S hs hr => op_sub rfl rfl (vh hs 43 rfl rfl) (vk rfl)) rfl <| Sc (lo [42, 44] [] rfl fun S hs hr => op_indexoP (l := l13) hvl0_273 rfl rfl rfl sl37 (vh hs 42 rfl rfl) (vh hs 44 rfl rfl) he19) rfl <| Sc (lo [45] [0] rfl fun S hs hr => op_loado' 0 rfl rfl ty3 (vh hs 45 rfl rfl) ((hr 0 rfl).trans rfl) (lget_of he19).2) rfl <| SMw rfl <| SMd rfl <| Sc (lo [47, 48] [] rfl fun S hs hr => op_indexoP (l := l13) hvl0_273 rfl rfl rfl sl37 (vh hs 47 rfl rfl) (vh hs 48 rfl rfl) he20) rfl <| Sc (lo [49] [0] rfl fun S hs hr => op_loado' 0 rfl rfl ty3 (vh hs 49 rfl rfl) ((hr 0 rfl).trans rfl) (lget_of he20).2) rfl <| Sc (lo [37, 38] [] rfl fun S hs hr => op_indexoP (l := l13) hvl0_273 rfl rfl rfl sl37 (vh hs 37 rfl rfl) (vh hs 38 rfl rfl) he21) rfl <| Sc (locr [51, 46] [0] rfl fun S hs hr => op_storeo' 0 rfl rfl ty3 (vh hs 51 rfl rfl) ((hr 0 rfl).trans rfl) (lget_of he21).2 (vh hs 46 rfl rfl)) rfl <| Sc (lo [39, 41] [] rfl fun S hs hr => op_indexoP (l := (List.set l13 j14.toNat e19)) hvl0_273 (by simp) rfl rfl sl37 (vh hs 39 rfl rfl) (vh hs 41 rfl rfl) he22) rfl <| Sc (locr [52, 50] [0] rfl fun S hs hr => op_storeo' 0 rfl rfl ty3 (vh hs 52 rfl rfl) ((hr 0 rfl).trans rfl) (lget_of he22).2 (vh hs 50 rfl rfl)) rfl <| Rg <| Md rfl <| Ac (op_sub rfl rfl (vt rfl) (vk rfl)) rfl <| As rfl <| Nl ?_
          subst hgo2
          exact ⟨(m15, (List.set (List.set l13 j14.toNat e19) (IntKind.i64.wrap (j14 - 1)).toNat e20), (IntKind.i64.wrap (j14 - 1))), Nat.lt_succ_self _, ⟨trivial, h⟩, ⟨rfl, ⟨rfl, rfl, rfl, rfl, rfl, rfl, trivial⟩, ⟨rfl, trivial⟩⟩⟩
        · have h := cond_f hc h
          refine AW.exit <| Rg <| Md rfl <| Ac (op_add rfl rfl (vt rfl) (vk rfl)) rfl <| As rfl <| Nl ?_
          subst hgo1
          exact ⟨(m10, l13, (IntKind.i64.wrap (i9 + 1))), Nat.lt_succ_self _, ⟨trivial, h⟩, ⟨rfl, ⟨rfl, rfl, rfl, rfl, rfl, trivial⟩, ⟨rfl, trivial⟩⟩⟩
    · have h := cond_f hc h
      refine AW.exit ?_
      obtain rfl := si h
      exact ret0Y (i := 0) Tryz.results301 rfl rfl
def F_slices_swapRangeCmpFunc_int_l1 (n5 : Int) (b4 : Int) (a3 : Int) : Nat → (List Int) → Int → Option (List Int)
  | 0, _, _ => none
  | m11 + 1, l9, i10 => (bif (decide (i10 < n5)) then (lget l9 (IntKind.i64.wrap (b4 + i10))).bind fun e12 => (lget l9 (IntKind.i64.wrap (a3 + i10))).bind fun e13 => (lget l9 (IntKind.i64.wrap (a3 + i10))).bind fun e14 => (lget (List.set l9 (IntKind.i64.wrap (a3 + i10)).toNat e12) (IntKind.i64.wrap (b4 + i10))).bind fun e15 => (F_slices_swapRangeCmpFunc_int_l1 n5 b4 a3 m11) (List.set (List.set l9 (IntKind.i64.wrap (a3 + i10)).toNat e12) (IntKind.i64.wrap (b4 + i10)).toNat e13) (IntKind.i64.wrap (i10 + 1)) else some l9)
def F_slices_swapRangeCmpFunc_int (data1 : (List Int)) (a3 : Int) (b4 : Int) (n5 : Int) (cmp6 : (Int → Int → Option Int)) : Option (List Int) :=
  F_slices_swapRangeCmpFunc_int_l1 n5 b4 a3 (((n5 : Int) - 0).toNat + 1) data1 0
theorem c_slices_swapRangeCmpFunc_int_o (v2 : Value) (data1 : (List Int)) (a3 : Int) (b4 : Int) (n5 : Int) (cmp6 : (Int → Int → Option Int)) (r : (List Int)) (h : F_slices_swapRangeCmpFunc_int data1 a3 b4 n5 cmp6 = some r) : Con Tryz.prog 341 [raw v2, rd (kint .i64) a3, rd (kint .i64) b4, rd (kint .i64) n5, fn2 Tryz.prog (kint .i64) (kint .i64) (kint .i64) cmp6] (Row v2 3 (kint .i64) data1) (fun _ : Unit => top) (fun _ => Row v2 3 (kint .i64) r) := by
  refine Con.intro Tryz.func341 rfl Tryz.ntmps341 rfl fun w H X => ?_
  unfold F_slices_swapRangeCmpFunc_int at h
  refine SR <| Ak rfl <| Nl <| AW.block <| AW.loopG (d := []) (ν := Nat × (List Int) × Int) (fun n => True ∧ F_slices_swapRangeCmpFunc_int_l1 n5 b4 a3 n.1 n.2.1 n.2.2 = some r) (fun n => n.1) (fun n => [(0, raw v2), (1, rd (kint .i64) a3), (2, rd (kint .i64) b4), (3, rd (kint .i64) n5), (10, rd (kint .i64) n.2.2)]) (fun n => [(0, Row v2 3 (kint .i64) n.2.1)]) ((((n5 : Int) - 0).toNat + 1), data1, 0) ⟨trivial, h⟩ ⟨rfl, ⟨rfl, rfl, rfl, rfl, rfl, trivial⟩, ⟨rfl, trivial⟩⟩ ?_
  rintro ⟨m11, l9, i10⟩ ⟨hsf1, h⟩
  change True at hsf1
  change F_slices_swapRangeCmpFunc_int_l1 n5 b4 a3 m11 l9 i10 = some r at h
  change AW _ _ _ ⟨slots [(0, raw v2), (1, rd (kint .i64) a3), (2, rd (kint .i64) b4), (3, rd (kint .i64) n5), (10, rd (kint .i64) i10)], ress [(0, Row v2 3 (kint .i64) l9)], _⟩
  cases m11 with
  | zero => cases h
  | succ m11 =>
    unfold F_slices_swapRangeCmpFunc_int_l1 at h
    generalize hgo1 : F_slices_swapRangeCmpFunc_int_l1 n5 b4 a3 m11 = go1 at h
    refine AW.seq <| SR <| Md rfl <| Md rfl <| Ac (op_lss rfl rfl (vt rfl) (vt rfl)) rfl <| Nl <| Cn rfl (fun hc => ?_) (fun hc => ?_)
    · have h := cond_t hc h
      refine AW.skip <| AW.seq <| AW.block <| AW.vlen 0 rfl fun hvl0_127 => ?_
      obtain ⟨e12, he12, h⟩ := bsome h
      obtain ⟨e13, he13, h⟩ := bsome h
      obtain ⟨e14, he14, h⟩ := bsome h
      obtain ⟨e15, he15, h⟩ := bsome h
      refine AW.regionAny [⟨[0], [16], [], []⟩, ⟨[1], [17], [], []⟩, ⟨[10], [18], [], []⟩, ⟨[17, 18], [19], [], []⟩, ⟨[0], [20], [], []⟩, ⟨[2], [21], [], []⟩, ⟨[10], [22], [], []⟩, ⟨[21, 22], [23], [], []⟩, ⟨[0], [24], [], []⟩, ⟨[2], [25], [], []⟩, ⟨[10], [26], [], []⟩, ⟨[25, 26], [27], [], []⟩, ⟨[24, 27], [28], [], []⟩, ⟨[28], [29], [0], []⟩, ⟨[0], [30], [], []⟩, ⟨[1], [31], [], []⟩, ⟨[10], [32], [], []⟩, ⟨[31, 32], [33], [], []⟩, ⟨[30, 33], [34], [], []⟩, ⟨[34], [35], [0], []⟩, ⟨[16, 19], [36], [], []⟩, ⟨[36, 29], [], [0], [0]⟩, ⟨[20, 23], [37], [], []⟩, ⟨[37, 35], [], [0], [0]⟩] mixed (by kernel_rfl) <| SMw rfl <| SMd rfl <| SMd rfl <| Sc (lo [17, 18] [] rfl fun S hs hr => op_add rfl rfl (vh hs 17 rfl rfl) (vh hs 18 rfl rfl)) rfl <| SMw rfl <| SMd rfl <| SMd rfl <| Sc (lo [21, 22] [] rfl fun S hs hr => op_add rfl rfl (vh hs 21 rfl rfl) (vh hs 22 rfl rfl)) rfl <| SMw rfl <| SMd rfl <| SMd rfl <| Sc (lo [25, 26] [] rfl fun S hs hr => op_add rfl rfl (vh hs 25 rfl rfl) (vh hs 26 rfl rfl)) rfl <| Sc (lo [24, 27] [] rfl fun S hs hr => op_indexoP (l := l9) hvl0_127 rfl rfl rfl sl37 (vh hs 24 rfl rfl) (vh hs 27 rfl rfl) he12) rfl <| Sc (lo [28] [0] rfl fun S hs hr => op_loado' 0 rfl rfl ty3 (vh hs 28 rfl rfl) ((hr 0 rfl).trans rfl) (lget_of he12).2) rfl <| SMw rfl <| SMd rfl <| SMd rfl <| Sc (lo [31, 32] [] rfl fun S hs hr => op_add rfl rfl (vh hs 31 rfl rfl) (vh hs 32 rfl rfl)) rfl <| Sc (lo [30, 33] [] rfl fun S hs hr => op_indexoP (l := l9) hvl0_127 rfl rfl rfl sl37 (vh hs 30 rfl rfl) (vh hs 33 rfl rfl) he13) rfl <| Sc (lo [34] [0] rfl fun S hs hr => op_loado' 0 rfl rfl ty3 (vh hs 34 rfl rfl) ((hr 0 rfl).trans rfl) (lget_of he13).2) rfl <| Sc (lo [16, 19] [] rfl fun S hs hr => op_indexoP (l := l9) hvl0_127 rfl rfl rfl sl37 (vh hs 16 rfl rfl) (vh hs 19 rfl rfl) he14) rfl <| Sc (locr [36, 29] [0] rfl fun S hs hr => op_storeo' 0 rfl rfl ty3 (vh hs 36 rfl rfl) ((hr 0 rfl).trans rfl) (lget_of he14).2 (vh hs 29 rfl rfl)) rfl <| Sc (lo [20, 23] [] rfl fun S hs hr => op_indexoP (l := (List.set l9 (IntKind.i64.wrap (a3 + i10)).toNat e12)) hvl0_127 (by simp) rfl rfl sl37 (vh hs 20 rfl rfl) (vh hs 23 rfl rfl) he15) rfl <| Sc (locr [37, 35] [0] rfl fun S hs hr => op_storeo' 0 rfl rfl ty3 (vh hs 37 rfl rfl) ((hr 0 rfl).trans rfl) (lget_of he15).2 (vh hs 35 rfl rfl)) rfl <| Rg <| Md rfl <| Ac (op_add rfl rfl (vt rfl) (vk rfl)) rfl <| As rfl <| Nl ?_
      subst hgo1
      exact ⟨(m11, (List.set (List.set l9 (IntKind.i64.wrap (a3 + i10)).toNat e12) (IntKind.i64.wrap (b4 + i10)).toNat e13), (IntKind.i64.wrap (i10 + 1))), Nat.lt_succ_self _, ⟨trivial, h⟩, ⟨rfl, ⟨rfl, rfl, rfl, rfl, rfl, trivial⟩, ⟨rfl, trivial⟩⟩⟩
    · have h := cond_f hc h
      refine AW.exit ?_
      obtain rfl := si h
      exact ret0Y (i := 0) Tryz.results341 rfl rfl
def F_slices_rotateCmpFunc_int_l1 (m4 : Int) (cmp6 : (Int → Int → Option Int)) : Nat → (List Int) → Int → Int → Option (List Int)
  | 0, _, _, _ => none
  | m13 + 1, l10, i11, j12 => (bif (decide (i11 ≠ j12)) then (bif (decide (i11 > j12)) then (F_slices_swapRangeCmpFunc_int l10 (IntKind.i64.wrap (m4 - i11)) m4 j12 cmp6).bind fun l14 => (F_slices_rotateCmpFunc_int_l1 m4 cmp6 m13) l14 (IntKind.i64.wrap (i11 - j12)) j12 else (F_slices_swapRangeCmpFunc_int l10 (IntKind.i64.wrap (m4 - i11)) (IntKind.i64.wrap ((IntKind.i64.wrap (m4 + j12)) - i11)) i11 cmp6).bind fun l15 => (F_slices_rotateCmpFunc_int_l1 m4 cmp6 m13) l15 i11 (IntKind.i64.wrap (j12 - i11))) else (F_slices_swapRangeCmpFunc_int l10 (IntKind.i64.wrap (m4 - i11)) m4 i11 cmp6).bind fun l16 => some l16)
def F_slices_rotateCmpFunc_int (data1 : (List Int)) (a3 : Int) (m4 : Int) (b5 : Int) (cmp6 : (Int → Int → Option Int)) : Option (List Int) :=
  F_slices_rotateCmpFunc_int_l1 m4 cmp6 fuel0 data1 (IntKind.i64.wrap (m4 - a3)) (IntKind.i64.wrap (b5 - m4))
theorem c_slices_rotateCmpFunc_int_o (v2 : Value) (data1 : (List Int)) (a3 : Int) (m4 : Int) (b5 : Int) (cmp6 : (Int → Int → Option Int)) (r : (List Int)) (h : F_slices_rotateCmpFunc_int data1 a3 m4 b5 cmp6 = some r) : Con Tryz.prog 333 [raw v2, rd (kint .i64) a3, rd (kint .i64) m4, rd (kint .i64) b5, fn2 Tryz.prog (kint .i64) (kint .i64) (kint .i64) cmp6] (Row v2 3 (kint .i64) data1) (fun _ : Unit => top) (fun _ => Row v2 3 (kint .i64) r) := by
  refine Con.intro Tryz.func333 rfl Tryz.ntmps333 rfl fun w H X => ?_
  unfold F_slices_rotateCmpFunc_int at h
  refine SR <| Md rfl <| Md rfl <| Ac (op_sub rfl rfl (vt rfl) (vt rfl)) rfl <| As rfl <| Nl <| SR <| Md rfl <| Md rfl <| Ac (op_sub rfl rfl (vt rfl) (vt rfl)) rfl <| As rfl <| Nl <| AW.seq <| AW.block <| AW.loopG (d := []) (ν := Nat × (List Int) × Int × Int) (fun n => True ∧ F_slices_rotateCmpFunc_int_l1 m4 cmp6 n.1 n.2.1 n.2.2.1 n.2.2.2 = some r) (fun n => n.1) (fun n => [(0, raw v2), (2, rd (kint .i64) m4), (4, fn2 Tryz.prog (kint .i64) (kint .i64) (kint .i64) cmp6), (10, rd (kint .i64) n.2.2.1), (11, rd (kint .i64) n.2.2.2)]) (fun n => [(0, Row v2 3 (kint .i64) n.2.1)]) (fuel0, data1, (IntKind.i64.wrap (m4 - a3)), (IntKind.i64.wrap (b5 - m4))) ⟨trivial, h⟩ ⟨rfl, ⟨rfl, rfl, rfl, rfl, rfl, trivial⟩, ⟨rfl, trivial⟩⟩ ?_
  rintro ⟨m13, l10, i11, j12⟩ ⟨hsf1, h⟩
  change True at hsf1
  change F_slices_rotateCmpFunc_int_l1 m4 cmp6 m13 l10 i11 j12 = some r at h
  change AW _ _ _ ⟨slots [(0, raw v2), (2, rd (kint .i64) m4), (4, fn2 Tryz.prog (kint .i64) (kint .i64) (kint .i64) cmp6), (10, rd (kint .i64) i11), (11, rd (kint .i64) j12)], ress [(0, Row v2 3 (kint .i64) l10)], _⟩
  cases m13 with
  | zero => cases h
  | succ m13 =>
    unfold F_slices_rotateCmpFunc_int_l1 at h
    generalize hgo1 : F_slices_rotateCmpFunc_int_l1 m4 cmp6 m13 = go1 at h
    refine AW.seq <| SR <| Md rfl <| Md rfl <| Ac (op_neq rfl rfl (vt rfl) (vt rfl)) rfl <| Nl <| Cn rfl (fun hc => ?_) (fun hc => ?_)
    · have h := cond_t hc h
      refine AW.skip <| AW.block <| SR <| Md rfl <| Md rfl <| Ac (op_gtr rfl rfl (vt rfl) (vt rfl)) rfl <| Nl <| Cn rfl (fun hc => ?_) (fun hc => ?_)
      · have h := cond_t hc h
        refine AW.seq ?_
        obtain ⟨l14, hl14, h⟩ := bsome h
        refine Rg <| Mw rfl <| Md rfl <| Md rfl <| Ac (op_sub rfl rfl (vt rfl) (vt rfl)) rfl <| Md rfl <| Md rfl <| Ac (op_move (A := fn2 Tryz.prog (kint .i64) (kint .i64) (kint .i64) cmp6) rfl rfl (vt rfl)) rfl <| Ct rfl (op_callR 0 (xs := [.tmp 24, .tmp 27, .tmp 28, .tmp 29, .tmp 30]) (c_slices_swapRangeCmpFunc_int_o _ _ _ _ _ _ _ hl14) e341 rfl rfl ⟨vt rfl, vt rfl, vt rfl, vt rfl, vt rfl, trivial⟩ rfl) ?_
        rintro _ ⟨_u, rfl⟩
        refine Nl <| Rg <| Md rfl <| Md rfl <| Ac (op_sub rfl rfl (vt rfl) (vt rfl)) rfl <| As rfl <| Nl ?_
        subst hgo1
        exact ⟨(m13, l14, (IntKind.i64.wrap (i11 - j12)), j12), Nat.lt_succ_self _, ⟨trivial, h⟩, ⟨rfl, ⟨rfl, rfl, rfl, rfl, rfl, trivial⟩, ⟨rfl, trivial⟩⟩⟩
      · have h := cond_f hc h
        refine AW.seq ?_
        obtain ⟨l15, hl15, h⟩ := bsome h
        refine Rg <| Mw rfl <| Md rfl <| Md rfl <| Ac (op_sub rfl rfl (vt rfl) (vt rfl)) rfl <| Md rfl <| Md rfl <| Ac (op_add rfl rfl (vt rfl) (vt rfl)) rfl <| Md rfl <| Ac (op_sub rfl rfl (vt rfl) (vt rfl)) rfl <| Md rfl <| Ac (op_move (A := fn2 Tryz.prog (kint .i64) (kint .i64) (kint .i64) cmp6) rfl rfl (vt rfl)) rfl <| Ct rfl (op_callR 0 (xs := [.tmp 35, .tmp 38, .tmp 43, .tmp 44, .tmp 45]) (c_slices_swapRangeCmpFunc_int_o _ _ _ _ _ _ _ hl15) e341 rfl rfl ⟨vt rfl, vt rfl, vt rfl, vt rfl, vt rfl, trivial⟩ rfl) ?_
        rintro _ ⟨_u, rfl⟩
        refine Nl <| Rg <| Md rfl <| Md rfl <| Ac (op_sub rfl rfl (vt rfl) (vt rfl)) rfl <| As rfl <| Nl ?_
        subst hgo1
        exact ⟨(m13, l15, i11, (IntKind.i64.wrap (j12 - i11))), Nat.lt_succ_self _, ⟨trivial, h⟩, ⟨rfl, ⟨rfl, rfl, rfl, rfl, rfl, trivial⟩, ⟨rfl, trivial⟩⟩⟩
    · have h := cond_f hc h
      refine AW.exit ?_
      obtain ⟨l16, hl16, h⟩ := bsome h
      refine Rg <| Mw rfl <| Md rfl <| Md rfl <| Ac (op_sub rfl rfl (vt rfl) (vt rfl)) rfl <| Md rfl <| Md rfl <| Ac (op_move (A := fn2 Tryz.prog (kint .i64) (kint .i64) (kint .i64) cmp6) rfl rfl (vt rfl)) rfl <| Ct rfl (op_callR 0 (xs := [.tmp 50, .tmp 53, .tmp 54, .tmp 55, .tmp 56]) (c_slices_swapRangeCmpFunc_int_o _ _ _ _ _ _ _ hl16) e341 rfl rfl ⟨vt rfl, vt rfl, vt rfl, vt rfl, vt rfl, trivial⟩ rfl) ?_
      rintro _ ⟨_u, rfl⟩
      refine Nl ?_
      obtain rfl := si h
      exact ret0Y (i := 0) Tryz.results333 rfl rfl
def F_slices_symMergeCmpFunc_int_s_l2 (i9 : Int) : Nat → (List Int) → Int → Option (List Int)
  | 0, _, _ => none
  | m20 + 1, l18, k19 => (bif (decide (k19 < (IntKind.i64.wrap (i9 - 1)))) then (lget l18 (IntKind.i64.wrap (k19 + 1))).bind fun e21 => (lget l18 k19).bind fun e22 => (lget l18 k19).bind fun e23 => (lget (List.set l18 k19.toNat e21) (IntKind.i64.wrap (k19 + 1))).bind fun e24 => (F_slices_symMergeCmpFunc_int_s_l2 i9 m20) (List.set (List.set l18 k19.toNat e21) (IntKind.i64.wrap (k19 + 1)).toNat e22) (IntKind.i64.wrap (k19 + 1)) else some l18)
def F_slices_symMergeCmpFunc_int_s_l1 (data1 : (List Int)) (a3 : Int) (cmp6 : (Int → Int → Option Int)) : Nat → Int → Int → Option (List Int)
  | 0, _, _ => none
  | m11 + 1, i9, j10 => (bif (decide (i9 < j10)) then (oushr (BitVec.ofInt 64 (IntKind.i64.wrap (i9 + j10))) ((1 : BitVec 64).toNat : Int)).bind fun q12 => (lget data1 (IntKind.i64.wrap (q12.toNat : Int))).bind fun e13 => (lget data1 a3).bind fun e14 => (cmp6 e13 e14).bind fun x15 => (bif (decide (x15 < 0)) then (F_slices_symMergeCmpFunc_int_s_l1 data1 a3 cmp6 m11) (IntKind.i64.wrap ((IntKind.i64.wrap (q12.toNat : Int)) + 1)) j10 else (F_slices_symMergeCmpFunc_int_s_l1 data1 a3 cmp6 m11) i9 (IntKind.i64.wrap (q12.toNat : Int))) else F_slices_symMergeCmpFunc_int_s_l2 i9 ((((IntKind.i64.wrap (i9 - 1)) : Int) - a3).toNat + 1) data1 a3)
def F_slices_symMergeCmpFunc_int_s_l4 (i27 : Int) : Nat → (List Int) → Int → Option (List Int)
  | 0, _, _ => none
  | m38 + 1, l36, k37 => (bif (decide (k37 > i27)) then (lget l36 (IntKind.i64.wrap (k37 - 1))).bind fun e39 => (lget l36 k37).bind fun e40 => (lget l36 k37).bind fun e41 => (lget (List.set l36 k37.toNat e39) (IntKind.i64.wrap (k37 - 1))).bind fun e42 => (F_slices_symMergeCmpFunc_int_s_l4 i27 m38) (List.set (List.set l36 k37.toNat e39) (IntKind.i64.wrap (k37 - 1)).toNat e40) (IntKind.i64.wrap (k37 - 1)) else some l36)
def F_slices_symMergeCmpFunc_int_s_l3 (data1 : (List Int)) (m4 : Int) (cmp6 : (Int → Int → Option Int)) : Nat → Int → Int → Option (List Int)
  | 0, _, _ => none
  | m29 + 1, i27, j28 => (bif (decide (i27 < j28)) then (oushr (BitVec.ofInt 64 (IntKind.i64.wrap (i27 + j28))) ((1 : BitVec 64).toNat : Int)).bind fun q30 => (lget data1 m4).bind fun e31 => (lget data1 (IntKind.i64.wrap (q30.toNat : Int))).bind fun e32 => (cmp6 e31 e32).bind fun x33 => (bif (!(decide (x33 < 0))) then (F_slices_symMergeCmpFunc_int_s_l3 data1 m4 cmp6 m29) (IntKind.i64.wrap ((IntKind.i64.wrap (q30.toNat : Int)) + 1)) j28 else (F_slices_symMergeCmpFunc_int_s_l3 data1 m4 cmp6 m29) i27 (IntKind.i64.wrap (q30.toNat : Int))) else F_slices_symMergeCmpFunc_int_s_l4 i27 (((m4 : Int) - i27).toNat + 1) data1 m4)
def F_slices_symMergeCmpFunc_int_s_j8 (q43 : (BitVec 64)) (m4 : Int) (start48 : Int) (b5 : Int) (R_slices_symMergeCmpFunc_int : ((List Int) → Int → Int → Int → (Int → Int → Option Int) → Option (List Int))) (cmp6 : (Int → Int → Option Int)) (l56 : (List Int)) : Option (List Int) :=
  (bif ((decide ((IntKind.i64.wrap (q43.toNat : Int)) < (IntKind.i64.wrap ((IntKind.i64.wrap ((IntKind.i64.wrap (q43.toNat : Int)) + m4)) - start48)))) && (decide ((IntKind.i64.wrap ((IntKind.i64.wrap ((IntKind.i64.wrap (q43.toNat : Int)) + m4)) - start48)) < b5))) then (R_slices_symMergeCmpFunc_int l56 (IntKind.i64.wrap (q43.toNat : Int)) (IntKind.i64.wrap ((IntKind.i64.wrap ((IntKind.i64.wrap (q43.toNat : Int)) + m4)) - start48)) b5 cmp6).bind fun l57 => some l57 else some l56)
def F_slices_symMergeCmpFunc_int_s_j7 (a3 : Int) (start48 : Int) (q43 : (BitVec 64)) (R_slices_symMergeCmpFunc_int : ((List Int) → Int → Int → Int → (Int → Int → Option Int) → Option (List Int))) (cmp6 : (Int → Int → Option Int)) (m4 : Int) (b5 : Int) (l55 : (List Int)) : Option (List Int) :=
  (bif ((decide (a3 < start48)) && (decide (start48 < (IntKind.i64.wrap (q43.toNat : Int))))) then (R_slices_symMergeCmpFunc_int l55 a3 start48 (IntKind.i64.wrap (q43.toNat : Int)) cmp6).bind fun l58 => F_slices_symMergeCmpFunc_int_s_j8 q43 m4 start48 b5 R_slices_symMergeCmpFunc_int cmp6 l58 else F_slices_symMergeCmpFunc_int_s_j8 q43 m4 start48 b5 R_slices_symMergeCmpFunc_int cmp6 l55)
def F_slices_symMergeCmpFunc_int_s_l6 (data1 : (List Int)) (q43 : (BitVec 64)) (m4 : Int) (cmp6 : (Int → Int → Option Int)) (a3 : Int) (R_slices_symMergeCmpFunc_int : ((List Int) → Int → Int → Int → (Int → Int → Option Int) → Option (List Int))) (b5 : Int) : Nat → Int → Int → Option (List Int)
  | 0, _, _ => none
  | m50 + 1, start48, r49 => (bif (decide (start48 < r49)) then (oushr (BitVec.ofInt 64 (IntKind.i64.wrap (start48 + r49))) ((1 : BitVec 64).toNat : Int)).bind fun q51 => (lget data1 (IntKind.i64.wrap ((IntKind.i64.wrap ((IntKind.i64.wrap ((IntKind.i64.wrap (q43.toNat : Int)) + m4)) - 1)) - (IntKind.i64.wrap (q51.toNat : Int))))).bind fun e52 => (lget data1 (IntKind.i64.wrap (q51.toNat : Int))).bind fun e53 => (cmp6 e52 e53).bind fun x54 => (bif (!(decide (x54 < 0))) then (F_slices_symMergeCmpFunc_int_s_l6 data1 q43 m4 cmp6 a3 R_slices_symMergeCmpFunc_int b5 m50) (IntKind.i64.wrap ((IntKind.i64.wrap (q51.toNat : Int)) + 1)) r49 else (F_slices_symMergeCmpFunc_int_s_l6 data1 q43 m4 cmp6 a3 R_slices_symMergeCmpFunc_int b5 m50) start48 (IntKind.i64.wrap (q51.toNat : Int))) else (bif ((decide (start48 < m4)) && (decide (m4 < (IntKind.i64.wrap ((IntKind.i64.wrap ((IntKind.i64.wrap (q43.toNat : Int)) + m4)) - start48))))) then (F_slices_rotateCmpFunc_int data1 start48 m4 (IntKind.i64.wrap ((IntKind.i64.wrap ((IntKind.i64.wrap (q43.toNat : Int)) + m4)) - start48)) cmp6).bind fun l59 => F_slices_symMergeCmpFunc_int_s_j7 a3 start48 q43 R_slices_symMergeCmpFunc_int cmp6 m4 b5 l59 else F_slices_symMergeCmpFunc_int_s_j7 a3 start48 q43 R_slices_symMergeCmpFunc_int cmp6 m4 b5 data1))
def F_slices_symMergeCmpFunc_int_s_j5 (data1 : (List Int)) (q43 : (BitVec 64)) (m4 : Int) (cmp6 : (Int → Int → Option Int)) (a3 : Int) (R_slices_symMergeCmpFunc_int : ((List Int) → Int → Int → Int → (Int → Int → Option Int) → Option (List Int))) (b5 : Int) (start44 : Int) (r45 : Int) : Option (List Int) :=
  F_slices_symMergeCmpFunc_int_s_l6 data1 q43 m4 cmp6 a3 R_slices_symMergeCmpFunc_int b5 (((r45 : Int) - start44).toNat + 1) start44 r45
def F_slices_symMergeCmpFunc_int_s (R_slices_symMergeCmpFunc_int : ((List Int) → Int → Int → Int → (Int → Int → Option Int) → Option (List Int))) (data1 : (List Int)) (a3 : Int) (m4 : Int) (b5 : Int) (cmp6 : (Int → Int → Option Int)) : Option (List Int) :=
  (bif (decide ((IntKind.i64.wrap (m4 - a3)) = 1)) then F_slices_symMergeCmpFunc_int_s_l1 data1 a3 cmp6 (((b5 : Int) - m4).toNat + 1) m4 b5 else (bif (decide ((IntKind.i64.wrap (b5 - m4)) = 1)) then F_slices_symMergeCmpFunc_int_s_l3 data1 m4 cmp6 (((m4 : Int) - a3).toNat + 1) a3 m4 else (oushr (BitVec.ofInt 64 (IntKind.i64.wrap (a3 + b5))) ((1 : BitVec 64).toNat : Int)).bind fun q43 => (bif (decide (m4 > (IntKind.i64.wrap (q43.toNat : Int)))) then F_slices_symMergeCmpFunc_int_s_j5 data1 q43 m4 cmp6 a3 R_slices_symMergeCmpFunc_int b5 (IntKind.i64.wrap ((IntKind.i64.wrap ((IntKind.i64.wrap (q43.toNat : Int)) + m4)) - b5)) (IntKind.i64.wrap (q43.toNat : Int)) else F_slices_symMergeCmpFunc_int_s_j5 data1 q43 m4 cmp6 a3 R_slices_symMergeCmpFunc_int b5 a3 m4)))
theorem c_slices_symMergeCmpFunc_int_s (R_slices_symMergeCmpFunc_int : ((List Int) → Int → Int → Int → (Int → Int → Option Int) → Option (List Int))) (hR_slices_symMergeCmpFunc_int : ∀ (v2 : Value) (data1 : (List Int)) (a3 : Int) (m4 : Int) (b5 : Int) (cmp6 : (Int → Int → Option Int)) (r : (List Int)), R_slices_symMergeCmpFunc_int data1 a3 m4 b5 cmp6 = some r → Con Tryz.prog 302 [raw v2, rd (kint .i64) a3, rd (kint .i64) m4, rd (kint .i64) b5, fn2 Tryz.prog (kint .i64) (kint .i64) (kint .i64) cmp6] (Row v2 3 (kint .i64) data1) (fun _ : Unit => top) (fun _ => Row v2 3 (kint .i64) r)) (v2 : Value) (data1 : (List Int)) (a3 : Int) (m4 : Int) (b5 : Int) (cmp6 : (Int → Int → Option Int)) (r : (List Int)) (h : F_slices_symMergeCmpFunc_int_s R_slices_symMergeCmpFunc_int data1 a3 m4 b5 cmp6 = some r) : Con Tryz.prog 302 [raw v2, rd (kint .i64) a3, rd (kint .i64) m4, rd (kint .i64) b5, fn2 Tryz.prog (kint .i64) (kint .i64) (kint .i64) cmp6] (Row v2 3 (kint .i64) data1) (fun _ : Unit => top) (fun _ => Row v2 3 (kint .i64) r) := by
  refine Con.intro Tryz.func302 rfl Tryz.ntmps302 rfl fun w H X => ?_
  unfold F_slices_symMergeCmpFunc_int_s at h
  refine AW.seq <| SR <| Md rfl <| Md rfl <| Ac (op_sub rfl rfl (vt rfl) (vt rfl)) rfl <| Ac (op_eql rfl rfl (vt rfl) (vk rfl)) rfl <| Nl <| Cn rfl (fun hc => ?_) (fun hc => ?_)
  · have h := cond_t hc h
    refine SR <| Md rfl <| As rfl <| Nl <| SR <| Md rfl <| As rfl <| Nl <| AW.seq <| AW.block <| AW.loopG (d := []) (ν := Nat × Int × Int) (fun n => True ∧ F_slices_symMergeCmpFunc_int_s_l1 data1 a3 cmp6 n.1 n.2.1 n.2.2 = some r) (fun n => n.1) (fun n => [(0, raw v2), (1, rd (kint .i64) a3), (4, fn2 Tryz.prog (kint .i64) (kint .i64) (kint .i64) cmp6), (10, rd (kint .i64) n.2.1), (11, rd (kint .i64) n.2.2)]) (fun n => [(0, Row v2 3 (kint .i64) data1)]) ((((b5 : Int) - m4).toNat + 1), m4, b5) ⟨trivial, h⟩ ⟨rfl, ⟨rfl, rfl, rfl, rfl, rfl, trivial⟩, ⟨rfl, trivial⟩⟩ ?_
    rintro ⟨m11, i9, j10⟩ ⟨hsf1, h⟩
    change True at hsf1
    change F_slices_symMergeCmpFunc_int_s_l1 data1 a3 cmp6 m11 i9 j10 = some r at h
    change AW _ _ _ ⟨slots [(0, raw v2), (1, rd (kint .i64) a3), (4, fn2 Tryz.prog (kint .i64) (kint .i64) (kint .i64) cmp6), (10, rd (kint .i64) i9), (11, rd (kint .i64) j10)], ress [(0, Row v2 3 (kint .i64) data1)], _⟩
    cases m11 with
    | zero => cases h
    | succ m11 =>
      unfold F_slices_symMergeCmpFunc_int_s_l1 at h
      generalize hgo1 : F_slices_symMergeCmpFunc_int_s_l1 data1 a3 cmp6 m11 = go1 at h
      refine AW.seq <| SR <| Md rfl <| Md rfl <| Ac (op_lss rfl rfl (vt rfl) (vt rfl)) rfl <| Nl <| Cn rfl (fun hc => ?_) (fun hc => ?_)
      · have h := cond_t hc h
        refine AW.skip <| AW.block <| AW.seq ?_
        obtain ⟨q12, hq12, h⟩ := bsome h
        refine Rg <| Md rfl <| Md rfl <| Ac (op_add rfl rfl (vt rfl) (vt rfl)) rfl <| Ac (op_convu rfl rfl us3 un360 (vt rfl)) rfl <| Ac (op_ushr rfl rfl (vt rfl) (vu64 (vku (1 : BitVec 64) rfl)) hq12) rfl <| Ac (op_uconv rfl rfl us360 un3 (vt rfl)) rfl <| As rfl <| Nl <| AW.seq ?_
        obtain ⟨e13, he13, h⟩ := bsome h
        obtain ⟨e14, he14, h⟩ := bsome h
        obtain ⟨x15, hx15, h⟩ := bsome h
        refine AW.regionAny [⟨[4], [40], [], []⟩, ⟨[0], [41], [], []⟩, ⟨[12], [42], [], []⟩, ⟨[41, 42], [43], [0], []⟩, ⟨[43], [44], [0], []⟩, ⟨[0], [45], [], []⟩, ⟨[1], [46], [], []⟩, ⟨[45, 46], [47], [0], []⟩, ⟨[47], [48], [0], []⟩, ⟨[40, 44, 48], [49], [], []⟩, ⟨[49], [50], [], []⟩] mixed (by kernel_rfl) <| Sc (lo [4] [] rfl fun S hs hr => op_move (A := fn2 Tryz.prog (kint .i64) (kint .i64) (kint .i64) cmp6) rfl rfl (vh hs 4 rfl rfl)) rfl <| SMw rfl <| SMd rfl <| Sc (lo [41, 42] [0] rfl fun S hs hr => op_indexo' 0 rfl rfl sl37 (vh hs 41 rfl rfl) ((hr 0 rfl).trans rfl) (vh hs 42 rfl rfl) he13) rfl <| Sc (lo [43] [0] rfl fun S hs hr => op_loado' 0 rfl rfl ty3 (vh hs 43 rfl rfl) ((hr 0 rfl).trans rfl) (lget_of he13).2) rfl <| SMw rfl <| SMd rfl <| Sc (lo [45, 46] [0] rfl fun S hs hr => op_indexo' 0 rfl rfl sl37 (vh hs 45 rfl rfl) ((hr 0 rfl).trans rfl) (vh hs 46 rfl rfl) he14) rfl <| Sc (lo [47] [0] rfl fun S hs hr => op_loado' 0 rfl rfl ty3 (vh hs 47 rfl rfl) ((hr 0 rfl).trans rfl) (lget_of he14).2) rfl <| Sc (lo [40, 44, 48] [] rfl fun S hs hr => op_call2 hx15 rfl rfl (vh hs 40 rfl rfl) (vh hs 44 rfl rfl) (vh hs 48 rfl rfl)) rfl <| Sc (lo [49] [] rfl fun S hs hr => op_lss rfl rfl (vh hs 49 rfl rfl) (vk rfl)) rfl <| Cn rfl (fun hc => ?_) (fun hc => ?_)
        · have h := cond_t hc h
          refine Rg <| Md rfl <| Ac (op_add rfl rfl (vt rfl) (vk rfl)) rfl <| As rfl <| Nl ?_
          subst hgo1
          exact ⟨(m11, (IntKind.i64.wrap ((IntKind.i64.wrap (q12.toNat : Int)) + 1)), j10), Nat.lt_succ_self _, ⟨trivial, h⟩, ⟨rfl, ⟨rfl, rfl, rfl, rfl, rfl, trivial⟩, ⟨rfl, trivial⟩⟩⟩
        · have h := cond_f hc h
          refine Rg <| Md rfl <| As rfl <| Nl ?_
          subst hgo1
          exact ⟨(m11, i9, (IntKind.i64.wrap (q12.toNat : Int))), Nat.lt_succ_self _, ⟨trivial, h⟩, ⟨rfl, ⟨rfl, rfl, rfl, rfl, rfl, trivial⟩, ⟨rfl, trivial⟩⟩⟩
      · have h := cond_f hc h
        refine AW.exit <| AW.seq <| SR <| Md rfl <| As rfl <| Nl <| AW.block <| AW.loopG (d := []) (ν := Nat × (List Int) × Int) (fun n => True ∧ F_slices_symMergeCmpFunc_int_s_l2 i9 n.1 n.2.1 n.2.2 = some r) (fun n => n.1) (fun n => [(0, raw v2), (10, rd (kint .i64) i9), (13, rd (kint .i64) n.2.2)]) (fun n => [(0, Row v2 3 (kint .i64) n.2.1)]) (((((IntKind.i64.wrap (i9 - 1)) : Int) - a3).toNat + 1), data1, a3) ⟨trivial, h⟩ ⟨rfl, ⟨rfl, rfl, rfl, trivial⟩, ⟨rfl, trivial⟩⟩ ?_
        rintro ⟨m20, l18, k19⟩ ⟨hsf2, h⟩
        change True at hsf2
        change F_slices_symMergeCmpFunc_int_s_l2 i9 m20 l18 k19 = some r at h
        change AW _ _ _ ⟨slots [(0, raw v2), (10, rd (kint .i64) i9), (13, rd (kint .i64) k19)], ress [(0, Row v2 3 (kint .i64) l18)], _⟩
        cases m20 with
        | zero => cases h
        | succ m20 =>
          unfold F_slices_symMergeCmpFunc_int_s_l2 at h
          generalize hgo2 : F_slices_symMergeCmpFunc_int_s_l2 i9 m20 = go2 at h
          refine AW.seq <| SR <| Md rfl <| Md rfl <| Ac (op_sub rfl rfl (vt rfl) (vk rfl)) rfl <| Ac (op_lss rfl rfl (vt rfl) (vt rfl)) rfl <| Nl <| Cn rfl (fun hc => ?_) (fun hc => ?_)
          · have h := cond_t hc h
            refine AW.skip <| AW.seq <| AW.block <| AW.vlen 0 rfl fun hvl0_218 => ?_
            obtain ⟨e21, he21, h⟩ := bsome h
            obtain ⟨e22, he22, h⟩ := bsome h
            obtain ⟨e23, he23, h⟩ := bsome h
            obtain ⟨e24, he24, h⟩ := bsome h
            refine AW.regionAny [⟨[0], [61], [], []⟩, ⟨[13], [62], [], []⟩, ⟨[0], [63], [], []⟩, ⟨[13], [64], [], []⟩, ⟨[64], [65], [], []⟩, ⟨[0], [66], [], []⟩, ⟨[13], [67], [], []⟩, ⟨[67], [68], [], []⟩, ⟨[66, 68], [69], [], []⟩, ⟨[69], [70], [0], []⟩, ⟨[0], [71], [], []⟩, ⟨[13], [72], [], []⟩, ⟨[71, 72], [73], [], []⟩, ⟨[73], [74], [0], []⟩, ⟨[61, 62], [75], [], []⟩, ⟨[75, 70], [], [0], [0]⟩, ⟨[63, 65], [76], [], []⟩, ⟨[76, 74], [], [0], [0]⟩] mixed (by kernel_rfl) <| SMw rfl <| SMd rfl <| SMw rfl <| SMd rfl <| Sc (lo [64] [] rfl fun S hs hr => op_add rfl rfl (vh hs 64 rfl rfl) (vk rfl)) rfl <| SMw rfl <| SMd rfl <| Sc (lo [67] [] rfl fun S hs hr => op_add rfl rfl (vh hs 67 rfl rfl) (vk rfl)) rfl <| Sc (lo [66, 68] [] rfl fun S hs hr => op_indexoP (l := l18) hvl0_218 rfl rfl rfl sl37 (vh hs 66 rfl rfl) (vh hs 68 rfl rfl) he21) rfl <| Sc (lo [69] [0] rfl fun S hs hr => op_loado' 0 rfl rfl ty3 (vh hs 69 rfl rfl) ((hr 0 rfl).trans rfl) (lget_of he21).2) rfl <| SMw rfl <| SMd rfl <| Sc (lo [71, 72] [] rfl fun S hs hr => op_indexoP (l := l18) hvl0_218 rfl rfl rfl sl37 (vh hs 71 rfl rfl) (vh hs 72 rfl rfl) he22) rfl <| Sc (lo [73] [0] rfl fun S hs hr => op_loado' 0 rfl rfl ty3 (vh hs 73 rfl rfl) ((hr 0 rfl).trans rfl) (lget_of he22).2) rfl <| Sc (lo [61, 62] [] rfl fun S hs hr => op_indexoP (l := l18) hvl0_218 rfl rfl rfl sl37 (vh hs 61 rfl rfl) (vh hs 62 rfl rfl) he23) rfl <| Sc (locr [75, 70] [0] rfl fun S hs hr => op_storeo' 0 rfl rfl ty3 (vh hs 75 rfl rfl) ((hr 0 rfl).trans rfl) (lget_of he23).2 (vh hs 70 rfl rfl)) rfl <| Sc (lo [63, 65] [] rfl fun S hs hr => op_indexoP (l := (List.set l18 k19.toNat e21)) hvl0_218 (by simp) rfl rfl sl37 (vh hs 63 rfl rfl) (vh hs 65 rfl rfl) he24) rfl <| Sc (locr [76, 74] [0] rfl fun S hs hr => op_storeo' 0 rfl rfl ty3 (vh hs 76 rfl rfl) ((hr 0 rfl).trans rfl) (lget_of he24).2 (vh hs 74 rfl rfl)) rfl <| Rg <| Md rfl <| Ac (op_add rfl rfl (vt rfl) (vk rfl)) rfl <| As rfl <| Nl ?_
            subst hgo2
            exact ⟨(m20, (List.set (List.set l18 k19.toNat e21) (IntKind.i64.wrap (k19 + 1)).toNat e22), (IntKind.i64.wrap (k19 + 1))), Nat.lt_succ_self _, ⟨trivial, h⟩, ⟨rfl, ⟨rfl, rfl, rfl, trivial⟩, ⟨rfl, trivial⟩⟩⟩
          · have h := cond_f hc h
            refine AW.exit <| AW.ret ?_
            obtain rfl := si h
            exact ret0Y (i := 0) Tryz.results302 rfl rfl
  · have h := cond_f hc h
    refine AW.skip <| AW.seq <| SR <| Md rfl <| Md rfl <| Ac (op_sub rfl rfl (vt rfl) (vt rfl)) rfl <| Ac (op_eql rfl rfl (vt rfl) (vk rfl)) rfl <| Nl <| Cn rfl (fun hc => ?_) (fun hc => ?_)
    · have h := cond_t hc h
      refine SR <| Md rfl <| As rfl <| Nl <| SR <| Md rfl <| As rfl <| Nl <| AW.seq <| AW.block <| AW.loopG (d := []) (ν := Nat × Int × Int) (fun n => True ∧ F_slices_symMergeCmpFunc_int_s_l3 data1 m4 cmp6 n.1 n.2.1 n.2.2 = some r) (fun n => n.1) (fun n => [(0, raw v2), (2, rd (kint .i64) m4), (4, fn2 Tryz.prog (kint .i64) (kint .i64) (kint .i64) cmp6), (14, rd (kint .i64) n.2.1), (15, rd (kint .i64) n.2.2)]) (fun n => [(0, Row v2 3 (kint .i64) data1)]) ((((m4 : Int) - a3).toNat + 1), a3, m4) ⟨trivial, h⟩ ⟨rfl, ⟨rfl, rfl, rfl, rfl, rfl, trivial⟩, ⟨rfl, trivial⟩⟩ ?_
      rintro ⟨m29, i27, j28⟩ ⟨hsf3, h⟩
      change True at hsf3
      change F_slices_symMergeCmpFunc_int_s_l3 data1 m4 cmp6 m29 i27 j28 = some r at h
      change AW _ _ _ ⟨slots [(0, raw v2), (2, rd (kint .i64) m4), (4, fn2 Tryz.prog (kint .i64) (kint .i64) (kint .i64) cmp6), (14, rd (kint .i64) i27), (15, rd (kint .i64) j28)], ress [(0, Row v2 3 (kint .i64) data1)], _⟩
      cases m29 with
      | zero => cases h
      | succ m29 =>
        unfold F_slices_symMergeCmpFunc_int_s_l3 at h
        generalize hgo3 : F_slices_symMergeCmpFunc_int_s_l3 data1 m4 cmp6 m29 = go3 at h
        refine AW.seq <| SR <| Md rfl <| Md rfl <| Ac (op_lss rfl rfl (vt rfl) (vt rfl)) rfl <| Nl <| Cn rfl (fun hc => ?_) (fun hc => ?_)
        · have h := cond_t hc h
          refine AW.skip <| AW.block <| AW.seq ?_
          obtain ⟨q30, hq30, h⟩ := bsome h
          refine Rg <| Md rfl <| Md rfl <| Ac (op_add rfl rfl (vt rfl) (vt rfl)) rfl <| Ac (op_convu rfl rfl us3 un360 (vt rfl)) rfl <| Ac (op_ushr rfl rfl (vt rfl) (vu64 (vku (1 : BitVec 64) rfl)) hq30) rfl <| Ac (op_uconv rfl rfl us360 un3 (vt rfl)) rfl <| As rfl <| Nl <| AW.seq ?_
          obtain ⟨e31, he31, h⟩ := bsome h
          obtain ⟨e32, he32, h⟩ := bsome h
          obtain ⟨x33, hx33, h⟩ := bsome h
          refine AW.regionAny [⟨[4], [92], [], []⟩, ⟨[0], [93], [], []⟩, ⟨[2], [94], [], []⟩, ⟨[93, 94], [95], [0], []⟩, ⟨[95], [96], [0], []⟩, ⟨[0], [97], [], []⟩, ⟨[16], [98], [], []⟩, ⟨[97, 98], [99], [0], []⟩, ⟨[99], [100], [0], []⟩, ⟨[92, 96, 100], [101], [], []⟩, ⟨[101], [102], [], []⟩, ⟨[102], [103], [], []⟩] mixed (by kernel_rfl) <| Sc (lo [4] [] rfl fun S hs hr => op_move (A := fn2 Tryz.prog (kint .i64) (kint .i64) (kint .i64) cmp6) rfl rfl (vh hs 4 rfl rfl)) rfl <| SMw rfl <| SMd rfl <| Sc (lo [93, 94] [0] rfl fun S hs hr => op_indexo' 0 rfl rfl sl37 (vh hs 93 rfl rfl) ((hr 0 rfl).trans rfl) (vh hs 94 rfl rfl) he31) rfl <| Sc (lo [95] [0] rfl fun S hs hr => op_loado' 0 rfl rfl ty3 (vh hs 95 rfl rfl) ((hr 0 rfl).trans rfl) (lget_of he31).2) rfl <| SMw rfl <| SMd rfl <| Sc (lo [97, 98] [0] rfl fun S hs hr => op_indexo' 0 rfl rfl sl37 (vh hs 97 rfl rfl) ((hr 0 rfl).trans rfl) (vh hs 98 rfl rfl) he32) rfl <| Sc (lo [99] [0] rfl fun S hs hr => op_loado' 0 rfl rfl ty3 (vh hs 99 rfl rfl) ((hr 0 rfl).trans rfl) (lget_of he32).2) rfl <| Sc (lo [92, 96, 100] [] rfl fun S hs hr => op_call2 hx33 rfl rfl (vh hs 92 rfl rfl) (vh hs 96 rfl rfl) (vh hs 100 rfl rfl)) rfl <| Sc (lo [101] [] rfl fun S hs hr => op_lss rfl rfl (vh hs 101 rfl rfl) (vk rfl)) rfl <| Sc (lo [102] [] rfl fun S hs hr => op_not rfl rfl (vh hs 102 rfl rfl)) rfl <| Cn rfl (fun hc => ?_) (fun hc => ?_)
          · have h := cond_t hc h
            refine Rg <| Md rfl <| Ac (op_add rfl rfl (vt rfl) (vk rfl)) rfl <| As rfl <| Nl ?_
            subst hgo3
            exact ⟨(m29, (IntKind.i64.wrap ((IntKind.i64.wrap (q30.toNat : Int)) + 1)), j28), Nat.lt_succ_self _, ⟨trivial, h⟩, ⟨rfl, ⟨rfl, rfl, rfl, rfl, rfl, trivial⟩, ⟨rfl, trivial⟩⟩⟩
          · have h := cond_f hc h
            refine Rg <| Md rfl <| As rfl <| Nl ?_
            subst hgo3
            exact ⟨(m29, i27, (IntKind.i64.wrap (q30.toNat : Int))), Nat.lt_succ_self _, ⟨trivial, h⟩, ⟨rfl, ⟨rfl, rfl, rfl, rfl, rfl, trivial⟩, ⟨rfl, trivial⟩⟩⟩
        · have h := cond_f hc h
          refine AW.exit <| AW.seq <| SR <| Md rfl <| As rfl <| Nl <| AW.block <| AW.loopG (d := []) (ν := Nat × (List Int) × Int) (fun n => True ∧ F_slices_symMergeCmpFunc_int_s_l4 i27 n.1 n.2.1 n.2.2 = some r) (fun n => n.1) (fun n => [(0, raw v2), (14, rd (kint .i64) i27), (17, rd (kint .i64) n.2.2)]) (fun n => [(0, Row v2 3 (kint .i64) n.2.1)]) ((((m4 : Int) - i27).toNat + 1), data1, m4) ⟨trivial, h⟩ ⟨rfl, ⟨rfl, rfl, rfl, trivial⟩, ⟨rfl, trivial⟩⟩ ?_
          rintro ⟨m38, l36, k37⟩ ⟨hsf4, h⟩
          change True at hsf4
          change F_slices_symMergeCmpFunc_int_s_l4 i27 m38 l36 k37 = some r at h
          change AW _ _ _ ⟨slots [(0, raw v2), (14, rd (kint .i64) i27), (17, rd (kint .i64) k37)], ress [(0, Row v2 3 (kint .i64) l36)], _⟩
          cases m38 with
          | zero => cases h
          | succ m38 =>
            unfold F_slices_symMergeCmpFunc_int_s_l4 at h
            generalize hgo4 : F_slices_symMergeCmpFunc_int_s_l4 i27 m38 = go4 at h
            refine AW.seq <| SR <| Md rfl <| Md rfl <| Ac (op_gtr rfl rfl (vt rfl) (vt rfl)) rfl <| Nl <| Cn rfl (fun hc => ?_) (fun hc => ?_)
            · have h := cond_t hc h
              refine AW.skip <| AW.seq <| AW.block <| AW.vlen 0 rfl fun hvl0_474 => ?_
              obtain ⟨e39, he39, h⟩ := bsome h
              obtain ⟨e40, he40, h⟩ := bsome h
              obtain ⟨e41, he41, h⟩ := bsome h
              obtain ⟨e42, he42, h⟩ := bsome h
              refine AW.regionAny [⟨[0], [113], [], []⟩, ⟨[17], [114], [], []⟩, ⟨[0], [115], [], []⟩, ⟨[17], [116], [], []⟩, ⟨[116], [117], [], []⟩, ⟨[0], [118], [], []⟩, ⟨[17], [119], [], []⟩, ⟨[119], [120], [], []⟩, ⟨[118, 120], [121], [], []⟩, ⟨[121], [122], [0], []⟩, ⟨[0], [123], [], []⟩, ⟨[17], [124], [], []⟩, ⟨[123, 124], [125], [], []⟩, ⟨[125], [126], [0], []⟩, ⟨[113, 114], [127], [], []⟩, ⟨[127, 122], [], [0], [0]⟩, ⟨[115, 117], [128], [], []⟩, ⟨[128, 126], [], [0], [0]⟩] mixed (by kernel_rfl) <| SMw rfl <| SMd rfl <| SMw rfl <| SMd rfl <| Sc (lo [116] [] rfl fun S hs hr => op_sub rfl rfl (vh hs 116 rfl rfl) (vk rfl)) rfl <| SMw rfl <| SMd rfl <| Sc (lo [119] [] rfl fun S hs hr => op_sub rfl rfl (vh hs 119 rfl rfl) (vk rfl)) rfl <| Sc (lo [118, 120] [] rfl fun S hs hr => op_indexoP (l := l36) hvl0_474 rfl rfl rfl sl37 (vh hs 118 rfl rfl) (vh hs 120 rfl rfl) he39) rfl <| Sc (lo [121] [0] rfl fun S hs hr => op_loado' 0 rfl rfl ty3 (vh hs 121 rfl rfl) ((hr 0 rfl).trans rfl) (lget_of he39).2) rfl <| SMw rfl <| SMd rfl <| Sc (lo [123, 124] [] rfl fun S hs hr => op_indexoP (l := l36) hvl0_474 rfl rfl rfl sl37 (vh hs 123 rfl rfl) (vh hs 124 rfl rfl) he40) rfl <| Sc (lo [125] [0] rfl fun S hs hr => op_loado' 0 rfl rfl ty3 (vh hs 125 rfl rfl) ((hr 0 rfl).trans rfl) (lget_of he40).2) rfl <| Sc (lo [113, 114] [] rfl fun S hs hr => op_indexoP (l := l36) hvl0_474 rfl rfl rfl sl37 (vh hs 113 rfl rfl) (vh hs 114 rfl rfl) he41) rfl <| Sc (locr [127, 122] [0] rfl fun S hs hr => op_storeo' 0 rfl rfl ty3 (vh hs 127 rfl rfl) ((hr 0 rfl).trans rfl) (lget_of he41).2 (vh hs 122 rfl rfl)) rfl <| Sc (lo [115, 117] [] rfl fun S hs hr => op_indexoP (l := (List.set l36 k37.toNat e39)) hvl0_474 (by simp) rfl rfl sl37 (vh hs 115 rfl rfl) (vh hs 117 rfl rfl) he42) rfl <| Sc (locr [128, 126] [0] rfl fun S hs hr => op_storeo' 0 rfl rfl ty3 (vh hs 128 rfl rfl) ((hr 0 rfl).trans rfl) (lget_of he42).2 (vh hs 126 rfl rfl)) rfl <| Rg <| Md rfl <| Ac (op_sub rfl rfl (vt rfl) (vk rfl)) rfl <| As rfl <| Nl ?_
              subst hgo4
              exact ⟨(m38, (List.set (List.set l36 k37.toNat e39) (IntKind.i64.wrap (k37 - 1)).toNat e40), (IntKind.i64.wrap (k37 - 1))), Nat.lt_succ_self _, ⟨trivial, h⟩, ⟨rfl, ⟨rfl, rfl, rfl, trivial⟩, ⟨rfl, trivial⟩⟩⟩
            · have h := cond_f hc h
              refine AW.exit <| AW.ret ?_
              obtain rfl := si h
              exact ret0Y (i := 0) Tryz.results302 rfl rfl
    · have h := cond_f hc h
      refine AW.skip <| AW.seq ?_
      obtain ⟨q43, hq43, h⟩ := bsome h
      refine Rg <| Md rfl <| Md rfl <| Ac (op_add rfl rfl (vt rfl) (vt rfl)) rfl <| Ac (op_convu rfl rfl us3 un360 (vt rfl)) rfl <| Ac (op_ushr rfl rfl (vt rfl) (vu64 (vku (1 : BitVec 64) rfl)) hq43) rfl <| Ac (op_uconv rfl rfl us360 un3 (vt rfl)) rfl <| As rfl <| Nl <| SR <| Md rfl <| Md rfl <| Ac (op_add rfl rfl (vt rfl) (vt rfl)) rfl <| As rfl <| Nl <| SR <| Ak rfl <| Ak rfl <| Nl ?_
      refine AW.join (d := []) (ν := Int × Int) (fun n => F_slices_symMergeCmpFunc_int_s_j5 data1 q43 m4 cmp6 a3 R_slices_symMergeCmpFunc_int b5 n.1 n.2 = some r) (fun n => [(0, raw v2), (1, rd (kint .i64) a3), (2, rd (kint .i64) m4), (3, rd (kint .i64) b5), (4, fn2 Tryz.prog (kint .i64) (kint .i64) (kint .i64) cmp6), (18, rd (kint .i64) (IntKind.i64.wrap (q43.toNat : Int))), (19, rd (kint .i64) (IntKind.i64.wrap ((IntKind.i64.wrap (q43.toNat : Int)) + m4))), (20, rd (kint .i64) n.1), (21, rd (kint .i64) n.2)]) (fun n => [(0, Row v2 3 (kint .i64) data1)]) ?hx5 ?hy5
      case hy5 =>
        rintro ⟨start44, r45⟩ h
        unfold F_slices_symMergeCmpFunc_int_s_j5 at h
        change AW _ _ _ ⟨slots [(0, raw v2), (1, rd (kint .i64) a3), (2, rd (kint .i64) m4), (3, rd (kint .i64) b5), (4, fn2 Tryz.prog (kint .i64) (kint .i64) (kint .i64) cmp6), (18, rd (kint .i64) (IntKind.i64.wrap (q43.toNat : Int))), (19, rd (kint .i64) (IntKind.i64.wrap ((IntKind.i64.wrap (q43.toNat : Int)) + m4))), (20, rd (kint .i64) start44), (21, rd (kint .i64) r45)], ress [(0, Row v2 3 (kint .i64) data1)], _⟩
        refine SR <| Md rfl <| Ac (op_sub rfl rfl (vt rfl) (vk rfl)) rfl <| As rfl <| Nl <| AW.seq <| AW.block <| AW.loopG (d := []) (ν := Nat × Int × Int) (fun n => True ∧ F_slices_symMergeCmpFunc_int_s_l6 data1 q43 m4 cmp6 a3 R_slices_symMergeCmpFunc_int b5 n.1 n.2.1 n.2.2 = some r) (fun n => n.1) (fun n => [(0, raw v2), (1, rd (kint .i64) a3), (2, rd (kint .i64) m4), (3, rd (kint .i64) b5), (4, fn2 Tryz.prog (kint .i64) (kint .i64) (kint .i64) cmp6), (18, rd (kint .i64) (IntKind.i64.wrap (q43.toNat : Int))), (19, rd (kint .i64) (IntKind.i64.wrap ((IntKind.i64.wrap (q43.toNat : Int)) + m4))), (20, rd (kint .i64) n.2.1), (21, rd (kint .i64) n.2.2), (22, rd (kint .i64) (IntKind.i64.wrap ((IntKind.i64.wrap ((IntKind.i64.wrap (q43.toNat : Int)) + m4)) - 1)))]) (fun n => [(0, Row v2 3 (kint .i64) data1)]) ((((r45 : Int) - start44).toNat + 1), start44, r45) ⟨trivial, h⟩ ⟨rfl, ⟨rfl, rfl, rfl, rfl, rfl, rfl, rfl, rfl, rfl, rfl, trivial⟩, ⟨rfl, trivial⟩⟩ ?_
        rintro ⟨m50, start48, r49⟩ ⟨hsf6, h⟩
        change True at hsf6
        change F_slices_symMergeCmpFunc_int_s_l6 data1 q43 m4 cmp6 a3 R_slices_symMergeCmpFunc_int b5 m50 start48 r49 = some r at h
        change AW _ _ _ ⟨slots [(0, raw v2), (1, rd (kint .i64) a3), (2, rd (kint .i64) m4), (3, rd (kint .i64) b5), (4, fn2 Tryz.prog (kint .i64) (kint .i64) (kint .i64) cmp6), (18, rd (kint .i64) (IntKind.i64.wrap (q43.toNat : Int))), (19, rd (kint .i64) (IntKind.i64.wrap ((IntKind.i64.wrap (q43.toNat : Int)) + m4))), (20, rd (kint .i64) start48), (21, rd (kint .i64) r49), (22, rd (kint .i64) (IntKind.i64.wrap ((IntKind.i64.wrap ((IntKind.i64.wrap (q43.toNat : Int)) + m4)) - 1)))], ress [(0, Row v2 3 (kint .i64) data1)], _⟩
        cases m50 with
        | zero => cases h
        | succ m50 =>
          unfold F_slices_symMergeCmpFunc_int_s_l6 at h
          generalize hgo6 : F_slices_symMergeCmpFunc_int_s_l6 data1 q43 m4 cmp6 a3 R_slices_symMergeCmpFunc_int b5 m50 = go6 at h
          refine AW.seq <| SR <| Md rfl <| Md rfl <| Ac (op_lss rfl rfl (vt rfl) (vt rfl)) rfl <| Nl <| Cn rfl (fun hc => ?_) (fun hc => ?_)
          · have h := cond_t hc h
            refine AW.skip <| AW.block <| AW.seq ?_
            obtain ⟨q51, hq51, h⟩ := bsome h
            refine Rg <| Md rfl <| Md rfl <| Ac (op_add rfl rfl (vt rfl) (vt rfl)) rfl <| Ac (op_convu rfl rfl us3 un360 (vt rfl)) rfl <| Ac (op_ushr rfl rfl (vt rfl) (vu64 (vku (1 : BitVec 64) rfl)) hq51) rfl <| Ac (op_uconv rfl rfl us360 un3 (vt rfl)) rfl <| As rfl <| Nl <| AW.seq ?_
            obtain ⟨e52, he52, h⟩ := bsome h
            obtain ⟨e53, he53, h⟩ := bsome h
            obtain ⟨x54, hx54, h⟩ := bsome h
            refine AW.regionAny [⟨[4], [158], [], []⟩, ⟨[0], [159], [], []⟩, ⟨[22], [160], [], []⟩, ⟨[23], [161], [], []⟩, ⟨[160, 161], [162], [], []⟩, ⟨[159, 162], [163], [0], []⟩, ⟨[163], [164], [0], []⟩, ⟨[0], [165], [], []⟩, ⟨[23], [166], [], []⟩, ⟨[165, 166], [167], [0], []⟩, ⟨[167], [168], [0], []⟩, ⟨[158, 164, 168], [169], [], []⟩, ⟨[169], [170], [], []⟩, ⟨[170], [171], [], []⟩] mixed (by kernel_rfl) <| Sc (lo [4] [] rfl fun S hs hr => op_move (A := fn2 Tryz.prog (kint .i64) (kint .i64) (kint .i64) cmp6) rfl rfl (vh hs 4 rfl rfl)) rfl <| SMw rfl <| SMd rfl <| SMd rfl <| Sc (lo [160, 161] [] rfl fun S hs hr => op_sub rfl rfl (vh hs 160 rfl rfl) (vh hs 161 rfl rfl)) rfl <| Sc (lo [159, 162] [0] rfl fun S hs hr => op_indexo' 0 rfl rfl sl37 (vh hs 159 rfl rfl) ((hr 0 rfl).trans rfl) (vh hs 162 rfl rfl) he52) rfl <| Sc (lo [163] [0] rfl fun S hs hr => op_loado' 0 rfl rfl ty3 (vh hs 163 rfl rfl) ((hr 0 rfl).trans rfl) (lget_of he52).2) rfl <| SMw rfl <| SMd rfl <| Sc (lo [165, 166] [0] rfl fun S hs hr => op_indexo' 0 rfl rfl sl37 (vh hs 165 rfl rfl) ((hr 0 rfl).trans rfl) (vh hs 166 rfl rfl) he53) rfl <| Sc (lo [167] [0] rfl fun S hs hr => op_loado' 0 rfl rfl ty3 (vh hs 167 rfl rfl) ((hr 0 rfl).trans rfl) (lget_of he53).2) rfl <| Sc (lo [158, 164, 168] [] rfl fun S hs hr => op_call2 hx54 rfl rfl (vh hs 158 rfl rfl) (vh hs 164 rfl rfl) (vh hs 168 rfl rfl)) rfl <| Sc (lo [169] [] rfl fun S hs hr => op_lss rfl rfl (vh hs 169 rfl rfl) (vk rfl)) rfl <| Sc (lo [170] [] rfl fun S hs hr => op_not rfl rfl (vh hs 170 rfl rfl)) rfl <| Cn rfl (fun hc => ?_) (fun hc => ?_)
            · have h := cond_t hc h
              refine Rg <| Md rfl <| Ac (op_add rfl rfl (vt rfl) (vk rfl)) rfl <| As rfl <| Nl ?_
              subst hgo6
              exact ⟨(m50, (IntKind.i64.wrap ((IntKind.i64.wrap (q51.toNat : Int)) + 1)), r49), Nat.lt_succ_self _, ⟨trivial, h⟩, ⟨rfl, ⟨rfl, rfl, rfl, rfl, rfl, rfl, rfl, rfl, rfl, rfl, trivial⟩, ⟨rfl, trivial⟩⟩⟩
            · have h := cond_f hc h
              refine Rg <| Md rfl <| As rfl <| Nl ?_
              subst hgo6
              exact ⟨(m50, start48, (IntKind.i64.wrap (q51.toNat : Int))), Nat.lt_succ_self _, ⟨trivial, h⟩, ⟨rfl, ⟨rfl, rfl, rfl, rfl, rfl, rfl, rfl, rfl, rfl, rfl, trivial⟩, ⟨rfl, trivial⟩⟩⟩
          · have h := cond_f hc h
            refine AW.exit <| SR <| Md rfl <| Md rfl <| Ac (op_sub rfl rfl (vt rfl) (vt rfl)) rfl <| As rfl <| Nl ?_
            refine AW.join (d := []) (ν := (List Int)) (fun n => F_slices_symMergeCmpFunc_int_s_j7 a3 start48 q43 R_slices_symMergeCmpFunc_int cmp6 m4 b5 n = some r) (fun n => [(0, raw v2), (1, rd (kint .i64) a3), (3, rd (kint .i64) b5), (4, fn2 Tryz.prog (kint .i64) (kint .i64) (kint .i64) cmp6), (18, rd (kint .i64) (IntKind.i64.wrap (q43.toNat : Int))), (20, rd (kint .i64) start48), (24, rd (kint .i64) (IntKind.i64.wrap ((IntKind.i64.wrap ((IntKind.i64.wrap (q43.toNat : Int)) + m4)) - start48)))]) (fun n => [(0, Row v2 3 (kint .i64) n)]) ?hx7 ?hy7
            case hy7 =>
              intro l55 h
              unfold F_slices_symMergeCmpFunc_int_s_j7 at h
              change AW _ _ _ ⟨slots [(0, raw v2), (1, rd (kint .i64) a3), (3, rd (kint .i64) b5), (4, fn2 Tryz.prog (kint .i64) (kint .i64) (kint .i64) cmp6), (18, rd (kint .i64) (IntKind.i64.wrap (q43.toNat : Int))), (20, rd (kint .i64) start48), (24, rd (kint .i64) (IntKind.i64.wrap ((IntKind.i64.wrap ((IntKind.i64.wrap (q43.toNat : Int)) + m4)) - start48)))], ress [(0, Row v2 3 (kint .i64) l55)], _⟩
              refine AW.join (d := []) (ν := (List Int)) (fun n => F_slices_symMergeCmpFunc_int_s_j8 q43 m4 start48 b5 R_slices_symMergeCmpFunc_int cmp6 n = some r) (fun n => [(0, raw v2), (3, rd (kint .i64) b5), (4, fn2 Tryz.prog (kint .i64) (kint .i64) (kint .i64) cmp6), (18, rd (kint .i64) (IntKind.i64.wrap (q43.toNat : Int))), (24, rd (kint .i64) (IntKind.i64.wrap ((IntKind.i64.wrap ((IntKind.i64.wrap (q43.toNat : Int)) + m4)) - start48)))]) (fun n => [(0, Row v2 3 (kint .i64) n)]) ?hx8 ?hy8
              case hy8 =>
                intro l56 h
                unfold F_slices_symMergeCmpFunc_int_s_j8 at h
                change AW _ _ _ ⟨slots [(0, raw v2), (3, rd (kint .i64) b5), (4, fn2 Tryz.prog (kint .i64) (kint .i64) (kint .i64) cmp6), (18, rd (kint .i64) (IntKind.i64.wrap (q43.toNat : Int))), (24, rd (kint .i64) (IntKind.i64.wrap ((IntKind.i64.wrap ((IntKind.i64.wrap (q43.toNat : Int)) + m4)) - start48)))], ress [(0, Row v2 3 (kint .i64) l56)], _⟩
                refine SR <| Md rfl <| Md rfl <| Ac (op_lss rfl rfl (vt rfl) (vt rfl)) rfl <| Md rfl <| Gd rfl (fun hq => op_move (A := rd (kint .i64) (IntKind.i64.wrap ((IntKind.i64.wrap ((IntKind.i64.wrap (q43.toNat : Int)) + m4)) - start48))) rfl rfl (vt rfl)) <| Gd rfl (fun hq => op_move (A := rd (kint .i64) b5) rfl rfl (vt rfl)) <| Gd rfl (fun hq => op_lss rfl rfl (vgt rfl hq) (vgt rfl hq)) <| Ac (op_all rfl rfl (vt rfl) (vt rfl)) rfl <| Nl <| Cn rfl (fun hc => ?_) (fun hc => ?_)
                · have h := cond_t hc h
                  obtain ⟨l57, hl57, h⟩ := bsome h
                  refine Rg <| Mw rfl <| Md rfl <| Md rfl <| Md rfl <| Ac (op_move (A := fn2 Tryz.prog (kint .i64) (kint .i64) (kint .i64) cmp6) rfl rfl (vt rfl)) rfl <| Ct rfl (op_callR 0 (xs := [.tmp 214, .tmp 215, .tmp 216, .tmp 217, .tmp 218]) (hR_slices_symMergeCmpFunc_int _ _ _ _ _ _ _ hl57) e302 rfl rfl ⟨vt rfl, vt rfl, vt rfl, vt rfl, vt rfl, trivial⟩ rfl) ?_
                  rintro _ ⟨_u, rfl⟩
                  refine Nl ?_
                  obtain rfl := si h
                  exact ret0Y (i := 0) Tryz.results302 rfl rfl
                · have h := cond_f hc h
                  refine AW.skip ?_
                  obtain rfl := si h
                  exact ret0Y (i := 0) Tryz.results302 rfl rfl
              case hx8 =>
                refine SR <| Md rfl <| Md rfl <| Ac (op_lss rfl rfl (vt rfl) (vt rfl)) rfl <| Md rfl <| Gd rfl (fun hq => op_move (A := rd (kint .i64) start48) rfl rfl (vt rfl)) <| Gd rfl (fun hq => op_move (A := rd (kint .i64) (IntKind.i64.wrap (q43.toNat : Int))) rfl rfl (vt rfl)) <| Gd rfl (fun hq => op_lss rfl rfl (vgt rfl hq) (vgt rfl hq)) <| Ac (op_all rfl rfl (vt rfl) (vt rfl)) rfl <| Nl <| Cn rfl (fun hc => ?_) (fun hc => ?_)
                · have h := cond_t hc h
                  obtain ⟨l58, hl58, h⟩ := bsome h
                  refine Rg <| Mw rfl <| Md rfl <| Md rfl <| Md rfl <| Ac (op_move (A := fn2 Tryz.prog (kint .i64) (kint .i64) (kint .i64) cmp6) rfl rfl (vt rfl)) rfl <| Ct rfl (op_callR 0 (xs := [.tmp 200, .tmp 201, .tmp 202, .tmp 203, .tmp 204]) (hR_slices_symMergeCmpFunc_int _ _ _ _ _ _ _ hl58) e302 rfl rfl ⟨vt rfl, vt rfl, vt rfl, vt rfl, vt rfl, trivial⟩ rfl) ?_
                  rintro _ ⟨_u, rfl⟩
                  refine Nl ?_
                  exact ⟨l58, h, ⟨rfl, ⟨rfl, rfl, rfl, rfl, rfl, trivial⟩, ⟨rfl, trivial⟩⟩⟩
                · have h := cond_f hc h
                  refine AW.skip ?_
                  exact ⟨l55, h, ⟨rfl, ⟨rfl, rfl, rfl, rfl, rfl, trivial⟩, ⟨rfl, trivial⟩⟩⟩
            case hx7 =>
              refine SR <| Md rfl <| Md rfl <| Ac (op_lss rfl rfl (vt rfl) (vt rfl)) rfl <| Md rfl <| Gd rfl (fun hq => op_move (A := rd (kint .i64) m4) rfl rfl (vt rfl)) <| Gd rfl (fun hq => op_move (A := rd (kint .i64) (IntKind.i64.wrap ((IntKind.i64.wrap ((IntKind.i64.wrap (q43.toNat : Int)) + m4)) - start48))) rfl rfl (vt rfl)) <| Gd rfl (fun hq => op_lss rfl rfl (vgt rfl hq) (vgt rfl hq)) <| Ac (op_all rfl rfl (vt rfl) (vt rfl)) rfl <| Nl <| Cn rfl (fun hc => ?_) (fun hc => ?_)
              · have h := cond_t hc h
                obtain ⟨l59, hl59, h⟩ := bsome h
                refine Rg <| Mw rfl <| Md rfl <| Md rfl <| Md rfl <| Ac (op_move (A := fn2 Tryz.prog (kint .i64) (kint .i64) (kint .i64) cmp6) rfl rfl (vt rfl)) rfl <| Ct rfl (op_callR 0 (xs := [.tmp 186, .tmp 187, .tmp 188, .tmp 189, .tmp 190]) (c_slices_rotateCmpFunc_int_o _ _ _ _ _ _ _ hl59) e333 rfl rfl ⟨vt rfl, vt rfl, vt rfl, vt rfl, vt rfl, trivial⟩ rfl) ?_
                rintro _ ⟨_u, rfl⟩
                refine Nl ?_
                exact ⟨l59, h, ⟨rfl, ⟨rfl, rfl, rfl, rfl, rfl, rfl, rfl, trivial⟩, ⟨rfl, trivial⟩⟩⟩
              · have h := cond_f hc h
                refine AW.skip ?_
                exact ⟨data1, h, ⟨rfl, ⟨rfl, rfl, rfl, rfl, rfl, rfl, rfl, trivial⟩, ⟨rfl, trivial⟩⟩⟩
      case hx5 =>
        refine SR <| Md rfl <| Md rfl <| Ac (op_gtr rfl rfl (vt rfl) (vt rfl)) rfl <| Nl <| Cn rfl (fun hc => ?_) (fun hc => ?_)
        · have h := cond_t hc h
          refine SR <| Md rfl <| Md rfl <| Ac (op_sub rfl rfl (vt rfl) (vt rfl)) rfl <| As rfl <| Nl <| Rg <| Md rfl <| As rfl <| Nl ?_
          exact ⟨((IntKind.i64.wrap ((IntKind.i64.wrap ((IntKind.i64.wrap (q43.toNat : Int)) + m4)) - b5)), (IntKind.i64.wrap (q43.toNat : Int))), h, ⟨rfl, ⟨rfl, rfl, rfl, rfl, rfl, rfl, rfl, rfl, rfl, trivial⟩, ⟨rfl, trivial⟩⟩⟩
        · have h := cond_f hc h
          refine SR <| Md rfl <| As rfl <| Nl <| Rg <| Md rfl <| As rfl <| Nl ?_
          exact ⟨(a3, m4), h, ⟨rfl, ⟨rfl, rfl, rfl, rfl, rfl, rfl, rfl, rfl, rfl, trivial⟩, ⟨rfl, trivial⟩⟩⟩
def FR_slices_symMergeCmpFunc_int : Nat → ((List Int) → Int → Int → Int → (Int → Int → Option Int) → Option (List Int))
  | 0 => (fun _ _ _ _ _ => none)
  | n + 1 => (F_slices_symMergeCmpFunc_int_s (FR_slices_symMergeCmpFunc_int n))
theorem cR_slices_symMergeCmpFunc_int : ∀ n : Nat, (∀ (v2 : Value) (data1 : (List Int)) (a3 : Int) (m4 : Int) (b5 : Int) (cmp6 : (Int → Int → Option Int)) (r : (List Int)), (FR_slices_symMergeCmpFunc_int n) data1 a3 m4 b5 cmp6 = some r → Con Tryz.prog 302 [raw v2, rd (kint .i64) a3, rd (kint .i64) m4, rd (kint .i64) b5, fn2 Tryz.prog (kint .i64) (kint .i64) (kint .i64) cmp6] (Row v2 3 (kint .i64) data1) (fun _ : Unit => top) (fun _ => Row v2 3 (kint .i64) r))
  | 0 => (by intros; rename_i h; cases h)
  | n + 1 => by
    have ih := cR_slices_symMergeCmpFunc_int n
    exact (c_slices_symMergeCmpFunc_int_s (FR_slices_symMergeCmpFunc_int n) ih)
def F_slices_symMergeCmpFunc_int (data1 : (List Int)) (a3 : Int) (m4 : Int) (b5 : Int) (cmp6 : (Int → Int → Option Int)) : Option (List Int) := (FR_slices_symMergeCmpFunc_int fuel0) data1 a3 m4 b5 cmp6
theorem c_slices_symMergeCmpFunc_int_o : ∀ (v2 : Value) (data1 : (List Int)) (a3 : Int) (m4 : Int) (b5 : Int) (cmp6 : (Int → Int → Option Int)) (r : (List Int)), F_slices_symMergeCmpFunc_int data1 a3 m4 b5 cmp6 = some r → Con Tryz.prog 302 [raw v2, rd (kint .i64) a3, rd (kint .i64) m4, rd (kint .i64) b5, fn2 Tryz.prog (kint .i64) (kint .i64) (kint .i64) cmp6] (Row v2 3 (kint .i64) data1) (fun _ : Unit => top) (fun _ => Row v2 3 (kint .i64) r) := cR_slices_symMergeCmpFunc_int fuel0
def F_slices_stableCmpFunc_int_l3 (n3 : Int) (blockSize17 : Int) (cmp4 : (Int → Int → Option Int)) (go2 : (List Int) → Int → Option (List Int)) : Nat → (List Int) → Int → Int → Option (List Int)
  | 0, _, _, _ => none
  | m25 + 1, l22, a23, b24 => (bif (decide (b24 ≤ n3)) then (F_slices_symMergeCmpFunc_int l22 a23 (IntKind.i64.wrap (a23 + blockSize17)) b24 cmp4).bind fun l26 => (F_slices_stableCmpFunc_int_l3 n3 blockSize17 cmp4 go2 m25) l26 b24 (IntKind.i64.wrap (b24 + (IntKind.i64.wrap (2 * blockSize17)))) else (bif (decide ((IntKind.i64.wrap (a23 + blockSize17)) < n3)) then (F_slices_symMergeCmpFunc_int l22 a23 (IntKind.i64.wrap (a23 + blockSize17)) n3 cmp4).bind fun l27 => go2 l27 (IntKind.i64.wrap (blockSize17 * 2)) else go2 l22 (IntKind.i64.wrap (blockSize17 * 2))))
def F_slices_stableCmpFunc_int_l2 (n3 : Int) (cmp4 : (Int → Int → Option Int)) : Nat → (List Int) → Int → Option (List Int)
  | 0, _, _ => none
  | m18 + 1, l16, blockSize17 => (bif (decide (blockSize17 < n3)) then F_slices_stableCmpFunc_int_l3 n3 blockSize17 cmp4 (F_slices_stableCmpFunc_int_l2 n3 cmp4 m18) (((n3 : Int) - (IntKind.i64.wrap (2 * blockSize17))).toNat + 2) l16 0 (IntKind.i64.wrap (2 * blockSize17)) else some l16)
def F_slices_stableCmpFunc_int_l1 (n3 : Int) (cmp4 : (Int → Int → Option Int)) : Nat → (List Int) → Int → Int → Option (List Int)
  | 0, _, _, _ => none
  | m11 + 1, l8, a9, b10 => (bif (decide (b10 ≤ n3)) then (F_slices_insertionSortCmpFunc_int l8 a9 b10 cmp4).bind fun l12 => (F_slices_stableCmpFunc_int_l1 n3 cmp4 m11) l12 b10 (IntKind.i64.wrap (b10 + 20)) else (F_slices_insertionSortCmpFunc_int l8 a9 n3 cmp4).bind fun l13 => F_slices_stableCmpFunc_int_l2 n3 cmp4 (((n3 : Int) - 20).toNat + 1) l13 20)
def F_slices_stableCmpFunc_int (data1 : (List Int)) (n3 : Int) (cmp4 : (Int → Int → Option Int)) : Option (List Int) :=
  F_slices_stableCmpFunc_int_l1 n3 cmp4 (((n3 : Int) - 20).toNat + 2) data1 0 20
theorem c_slices_stableCmpFunc_int_o (v2 : Value) (data1 : (List Int)) (n3 : Int) (cmp4 : (Int → Int → Option Int)) (r : (List Int)) (h : F_slices_stableCmpFunc_int data1 n3 cmp4 = some r) : Con Tryz.prog 258 [raw v2, rd (kint .i64) n3, fn2 Tryz.prog (kint .i64) (kint .i64) (kint .i64) cmp4] (Row v2 3 (kint .i64) data1) (fun _ : Unit => top) (fun _ => Row v2 3 (kint .i64) r) := by
  refine Con.intro Tryz.func258 rfl Tryz.ntmps258 rfl fun w H X => ?_
  unfold F_slices_stableCmpFunc_int at h
  refine SR <| Ak rfl <| Nl <| SR <| Md rfl <| Ak rfl <| As rfl <| Nl <| AW.seq <| AW.block <| AW.loopG (d := []) (ν := Nat × (List Int) × Int × Int) (fun n => True ∧ F_slices_stableCmpFunc_int_l1 n3 cmp4 n.1 n.2.1 n.2.2.1 n.2.2.2 = some r) (fun n => n.1) (fun n => [(0, raw v2), (1, rd (kint .i64) n3), (2, fn2 Tryz.prog (kint .i64) (kint .i64) (kint .i64) cmp4), (6, rd (kint .i64) 20), (7, rd (kint .i64) n.2.2.1), (8, rd (kint .i64) n.2.2.2)]) (fun n => [(0, Row v2 3 (kint .i64) n.2.1)]) ((((n3 : Int) - 20).toNat + 2), data1, 0, 20) ⟨trivial, h⟩ ⟨rfl, ⟨rfl, rfl, rfl, rfl, rfl, rfl, trivial⟩, ⟨rfl, trivial⟩⟩ ?_
  rintro ⟨m11, l8, a9, b10⟩ ⟨hsf1, h⟩
  change True at hsf1
  change F_slices_stableCmpFunc_int_l1 n3 cmp4 m11 l8 a9 b10 = some r at h
  change AW _ _ _ ⟨slots [(0, raw v2), (1, rd (kint .i64) n3), (2, fn2 Tryz.prog (kint .i64) (kint .i64) (kint .i64) cmp4), (6, rd (kint .i64) 20), (7, rd (kint .i64) a9), (8, rd (kint .i64) b10)], ress [(0, Row v2 3 (kint .i64) l8)], _⟩
  cases m11 with
  | zero => cases h
  | succ m11 =>
    unfold F_slices_stableCmpFunc_int_l1 at h
    generalize hgo1 : F_slices_stableCmpFunc_int_l1 n3 cmp4 m11 = go1 at h
    refine AW.seq <| SR <| Md rfl <| Md rfl <| Ac (op_leq rfl rfl (vt rfl) (vt rfl)) rfl <| Nl <| Cn rfl (fun hc => ?_) (fun hc => ?_)
    · have h := cond_t hc h
      refine AW.skip <| AW.block <| AW.seq ?_
      obtain ⟨l12, hl12, h⟩ := bsome h
      refine Rg <| Mw rfl <| Md rfl <| Md rfl <| Ac (op_move (A := fn2 Tryz.prog (kint .i64) (kint .i64) (kint .i64) cmp4) rfl rfl (vt rfl)) rfl <| Ct rfl (op_callR 0 (xs := [.tmp 14, .tmp 15, .tmp 16, .tmp 17]) (c_slices_insertionSortCmpFunc_int_o _ _ _ _ _ _ hl12) e301 rfl rfl ⟨vt rfl, vt rfl, vt rfl, vt rfl, trivial⟩ rfl) ?_
      rintro _ ⟨_u, rfl⟩
      refine Nl <| SR <| Md rfl <| As rfl <| Nl <| Rg <| Md rfl <| Md rfl <| Ac (op_add rfl rfl (vt rfl) (vt rfl)) rfl <| As rfl <| Nl ?_
      subst hgo1
      exact ⟨(m11, l12, b10, (IntKind.i64.wrap (b10 + 20))), Nat.lt_succ_self _, ⟨trivial, h⟩, ⟨rfl, ⟨rfl, rfl, rfl, rfl, rfl, rfl, trivial⟩, ⟨rfl, trivial⟩⟩⟩
    · have h := cond_f hc h
      refine AW.exit <| AW.seq ?_
      obtain ⟨l13, hl13, h⟩ := bsome h
      refine Rg <| Mw rfl <| Md rfl <| Md rfl <| Ac (op_move (A := fn2 Tryz.prog (kint .i64) (kint .i64) (kint .i64) cmp4) rfl rfl (vt rfl)) rfl <| Ct rfl (op_callR 0 (xs := [.tmp 23, .tmp 24, .tmp 25, .tmp 26]) (c_slices_insertionSortCmpFunc_int_o _ _ _ _ _ _ hl13) e301 rfl rfl ⟨vt rfl, vt rfl, vt rfl, vt rfl, trivial⟩ rfl) ?_
      rintro _ ⟨_u, rfl⟩
      refine Nl <| AW.block <| AW.loopG (d := []) (ν := Nat × (List Int) × Int) (fun n => True ∧ F_slices_stableCmpFunc_int_l2 n3 cmp4 n.1 n.2.1 n.2.2 = some r) (fun n => n.1) (fun n => [(0, raw v2), (1, rd (kint .i64) n3), (2, fn2 Tryz.prog (kint .i64) (kint .i64) (kint .i64) cmp4), (6, rd (kint .i64) n.2.2)]) (fun n => [(0, Row v2 3 (kint .i64) n.2.1)]) ((((n3 : Int) - 20).toNat + 1), l13, 20) ⟨trivial, h⟩ ⟨rfl, ⟨rfl, rfl, rfl, rfl, trivial⟩, ⟨rfl, trivial⟩⟩ ?_
      rintro ⟨m18, l16, blockSize17⟩ ⟨hsf2, h⟩
      change True at hsf2
      change F_slices_stableCmpFunc_int_l2 n3 cmp4 m18 l16 blockSize17 = some r at h
      change AW _ _ _ ⟨slots [(0, raw v2), (1, rd (kint .i64) n3), (2, fn2 Tryz.prog (kint .i64) (kint .i64) (kint .i64) cmp4), (6, rd (kint .i64) blockSize17)], ress [(0, Row v2 3 (kint .i64) l16)], _⟩
      cases m18 with
      | zero => cases h
      | succ m18 =>
        unfold F_slices_stableCmpFunc_int_l2 at h
        generalize hgo2 : F_slices_stableCmpFunc_int_l2 n3 cmp4 m18 = go2 at h
        refine AW.seq <| SR <| Md rfl <| Md rfl <| Ac (op_lss rfl rfl (vt rfl) (vt rfl)) rfl <| Nl <| Cn rfl (fun hc => ?_) (fun hc => ?_)
        · have h := cond_t hc h
          refine AW.skip <| AW.block <| SR <| Md rfl <| Ac (op_mul rfl rfl (vk rfl) (vt rfl)) rfl <| Ak rfl <| As rfl <| Nl <| AW.seq <| AW.block <| AW.loopG (d := []) (ν := Nat × (List Int) × Int × Int) (fun n => True ∧ F_slices_stableCmpFunc_int_l3 n3 blockSize17 cmp4 go2 n.1 n.2.1 n.2.2.1 n.2.2.2 = some r) (fun n => n.1) (fun n => [(0, raw v2), (1, rd (kint .i64) n3), (2, fn2 Tryz.prog (kint .i64) (kint .i64) (kint .i64) cmp4), (6, rd (kint .i64) blockSize17), (7, rd (kint .i64) n.2.2.1), (8, rd (kint .i64) n.2.2.2)]) (fun n => [(0, Row v2 3 (kint .i64) n.2.1)]) ((((n3 : Int) - (IntKind.i64.wrap (2 * blockSize17))).toNat + 2), l16, 0, (IntKind.i64.wrap (2 * blockSize17))) ⟨trivial, h⟩ ⟨rfl, ⟨rfl, rfl, rfl, rfl, rfl, rfl, trivial⟩, ⟨rfl, trivial⟩⟩ ?_
          rintro ⟨m25, l22, a23, b24⟩ ⟨hsf3, h⟩
          change True at hsf3
          change F_slices_stableCmpFunc_int_l3 n3 blockSize17 cmp4 go2 m25 l22 a23 b24 = some r at h
          change AW _ _ _ ⟨slots [(0, raw v2), (1, rd (kint .i64) n3), (2, fn2 Tryz.prog (kint .i64) (kint .i64) (kint .i64) cmp4), (6, rd (kint .i64) blockSize17), (7, rd (kint .i64) a23), (8, rd (kint .i64) b24)], ress [(0, Row v2 3 (kint .i64) l22)], _⟩
          cases m25 with
          | zero => cases h
          | succ m25 =>
            unfold F_slices_stableCmpFunc_int_l3 at h
            generalize hgo3 : F_slices_stableCmpFunc_int_l3 n3 blockSize17 cmp4 go2 m25 = go3 at h
            refine AW.seq <| SR <| Md rfl <| Md rfl <| Ac (op_leq rfl rfl (vt rfl) (vt rfl)) rfl <| Nl <| Cn rfl (fun hc => ?_) (fun hc => ?_)
            · have h := cond_t hc h
              refine AW.skip <| AW.block <| AW.seq ?_
              obtain ⟨l26, hl26, h⟩ := bsome h
              refine Rg <| Mw rfl <| Md rfl <| Md rfl <| Md rfl <| Ac (op_add rfl rfl (vt rfl) (vt rfl)) rfl <| Md rfl <| Ac (op_move (A := fn2 Tryz.prog (kint .i64) (kint .i64) (kint .i64) cmp4) rfl rfl (vt rfl)) rfl <| Ct rfl (op_callR 0 (xs := [.tmp 36, .tmp 37, .tmp 40, .tmp 41, .tmp 42]) (c_slices_symMergeCmpFunc_int_o _ _ _ _ _ _ _ hl26) e302 rfl rfl ⟨vt rfl, vt rfl, vt rfl, vt rfl, vt rfl, trivial⟩ rfl) ?_
              rintro _ ⟨_u, rfl⟩
              refine Nl <| SR <| Md rfl <| As rfl <| Nl <| Rg <| Md rfl <| Md rfl <| Ac (op_mul rfl rfl (vk rfl) (vt rfl)) rfl <| Ac (op_add rfl rfl (vt rfl) (vt rfl)) rfl <| As rfl <| Nl ?_
              subst hgo3
              exact ⟨(m25, l26, b24, (IntKind.i64.wrap (b24 + (IntKind.i64.wrap (2 * blockSize17))))), Nat.lt_succ_self _, ⟨trivial, h⟩, ⟨rfl, ⟨rfl, rfl, rfl, rfl, rfl, rfl, trivial⟩, ⟨rfl, trivial⟩⟩⟩
            · have h := cond_f hc h
              refine AW.exit <| AW.seq <| SR <| Md rfl <| Md rfl <| Ac (op_add rfl rfl (vt rfl) (vt rfl)) rfl <| As rfl <| Nl <| SR <| Md rfl <| Md rfl <| Ac (op_lss rfl rfl (vt rfl) (vt rfl)) rfl <| Nl <| Cn rfl (fun hc => ?_) (fun hc => ?_)
              · have h := cond_t hc h
                obtain ⟨l27, hl27, h⟩ := bsome h
                refine Rg <| Mw rfl <| Md rfl <| Md rfl <| Md rfl <| Ac (op_move (A := fn2 Tryz.prog (kint .i64) (kint .i64) (kint .i64) cmp4) rfl rfl (vt rfl)) rfl <| Ct rfl (op_callR 0 (xs := [.tmp 55, .tmp 56, .tmp 57, .tmp 58, .tmp 59]) (c_slices_symMergeCmpFunc_int_o _ _ _ _ _ _ _ hl27) e302 rfl rfl ⟨vt rfl, vt rfl, vt rfl, vt rfl, vt rfl, trivial⟩ rfl) ?_
                rintro _ ⟨_u, rfl⟩
                refine Nl <| Rg <| Md rfl <| Ac (op_mul rfl rfl (vt rfl) (vk rfl)) rfl <| As rfl <| Nl ?_
                subst hgo2
                exact ⟨(m18, l27, (IntKind.i64.wrap (blockSize17 * 2))), Nat.lt_succ_self _, ⟨trivial, h⟩, ⟨rfl, ⟨rfl, rfl, rfl, rfl, trivial⟩, ⟨rfl, trivial⟩⟩⟩
              · have h := cond_f hc h
                refine AW.skip <| Rg <| Md rfl <| Ac (op_mul rfl rfl (vt rfl) (vk rfl)) rfl <| As rfl <| Nl ?_
                subst hgo2
                exact ⟨(m18, l22, (IntKind.i64.wrap (blockSize17 * 2))), Nat.lt_succ_self _, ⟨trivial, h⟩, ⟨rfl, ⟨rfl, rfl, rfl, rfl, trivial⟩, ⟨rfl, trivial⟩⟩⟩
        · have h := cond_f hc h
          refine AW.exit ?_
          obtain rfl := si h
          exact ret0Y (i := 0) Tryz.results258 rfl rfl
end Go.Proofs.YtknpgojdkobgjaaGreat.W
set_option linter.unusedVariables false
set_option maxRecDepth 4000
set_option linter.unusedSimpArgs false
namespace Go.Proofs.YtknpgojdkobgjaaGreat.W
open Go Go.Wb
theorem e258 : Ent Tryz.prog 258 := Ent.mk Tryz.func258 rfl rfl
theorem e201 : Ent Tryz.prog 201 := Ent.mk Tryz.func201 rfl rfl
theorem e200 : Ent Tryz.prog 200 := Ent.mk Tryz.func200 rfl rfl
theorem e269 : Ent Tryz.prog 269 := Ent.mk Tryz.func269 rfl rfl
theorem e344 : Ent Tryz.prog 344 := Ent.mk Tryz.func344 rfl rfl
theorem e336 : Ent Tryz.prog 336 := Ent.mk Tryz.func336 rfl rfl
theorem e299 : Ent Tryz.prog 299 := Ent.mk Tryz.func299 rfl rfl
def F_slices_SortStableFunc_int (x1 : (List Int)) (cmp3 : (Int → Int → Option Int)) : Option (List Int) :=
  (F_slices_stableCmpFunc_int x1 (x1.length : Int) cmp3).bind fun l4 => some l4
theorem c_slices_SortStableFunc_int_o (v2 : Value) (x1 : (List Int)) (cmp3 : (Int → Int → Option Int)) (r : (List Int)) (h : F_slices_SortStableFunc_int x1 cmp3 = some r) : Con Tryz.prog 200 [raw v2, fn2 Tryz.prog (kint .i64) (kint .i64) (kint .i64) cmp3] (Row v2 3 (kint .i64) x1) (fun _ : Unit => top) (fun _ => Row v2 3 (kint .i64) r) := by
  refine Con.intro Tryz.func200 rfl Tryz.ntmps200 rfl fun w H X => ?_
  unfold F_slices_SortStableFunc_int at h
  obtain ⟨l4, hl4, h⟩ := bsome h
  refine Rg <| Mw rfl <| Mw rfl <| Ac (op_leno 0 rfl rfl sl37 (vt rfl) rfl) rfl <| Ac (op_move (A := fn2 Tryz.prog (kint .i64) (kint .i64) (kint .i64) cmp3) rfl rfl (vt rfl)) rfl <| Ct rfl (op_callR 0 (xs := [.tmp 4, .tmp 6, .tmp 7]) (c_slices_stableCmpFunc_int_o _ _ _ _ _ hl4) e258 rfl rfl ⟨vt rfl, vt rfl, vt rfl, trivial⟩ rfl) ?_
  rintro _ ⟨_u, rfl⟩
  refine Nl ?_
  obtain rfl := si h
  exact ret0Y (i := 0) Tryz.results200 rfl rfl
def F_first_Order_l1 (t1 : (List Flow)) : Nat → Nat → (List Int) → Option (List Int)
  | 0, i9, l7 => (F_slices_SortStableFunc_int l7 (fun x z => F_first_Order_1 x z t1)).bind fun l11 => some l11
  | m10 + 1, i9, l7 => (appd l7 [(i9 : Int)]).bind fun l12 => (F_first_Order_l1 t1 m10) (i9 + 1) l12
def F_first_Order (t1 : (List Flow)) : Option (List Int) :=
  (omk (t1.length : Int)).bind fun u3 => F_first_Order_l1 t1 ((t1.length : Int) : Int).toNat 0 []
theorem c_first_Order (t1 : (List Flow)) (r : (List Int)) (h : F_first_Order t1 = some r) : PCon Tryz.prog 135 [rd (ksl kFlow) t1] (rd (ksl (kint .i64)) r) := by
  refine PCon.of (Con.intro0 Tryz.func135 rfl Tryz.ntmps135 rfl fun w H => ?_)
  unfold F_first_Order at h
  refine SR <| Ct rfl (op_box 2 rfl rfl (vt rfl)) ?_
  rintro _ ⟨g2, rfl⟩
  refine Ac (op_assign (A := rd (ksl (kint .i64)) []) rfl rfl vnil) rfl <| Nl <| AW.seq ?_
  obtain ⟨u3, hu3, h⟩ := bsome h
  refine Rg <| Ld ty22 2 rfl <| Ac (op_len' rfl rfl sl22 (vt rfl)) rfl <| Ct rfl (op_make0 1001 hu3 rfl rfl el37 zr3 (vt rfl)) ?_
  rintro _ ⟨v4, rfl⟩
  refine Aw rfl <| Nl <| AW.seq <| SR <| Ld ty22 2 rfl <| Ac (op_len' rfl rfl sl22 (vt rfl)) rfl <| Mk rfl <| Nl <| AW.block <| AW.loopG (d := []) (ν := Nat × Nat × (List Int) × Value) (fun n => Cnt (t1.length : Int) n.2.1 n.1 ∧ F_first_Order_l1 t1 n.1 n.2.1 n.2.2.1 = some r) (fun n => n.1) (fun n => [(1, ptrL g2 (Lens.id (ksl kFlow))), (3, raw n.2.2.2), (9, rd (kint .i64) (t1.length : Int)), (10, rd (kint .i64) (n.2.1 : Int))]) (fun n => [(2, Blk g2 22 (ksl kFlow) t1), (1001, Row n.2.2.2 3 (kint .i64) n.2.2.1)]) (((t1.length : Int) : Int).toNat, 0, [], v4) ⟨Cnt.start _, h⟩ ⟨rfl, ⟨rfl, rfl, rfl, rfl, trivial⟩, ⟨rfl, rfl, trivial⟩⟩ ?_
  rintro ⟨m10, i9, l7, v8⟩ ⟨hsf1, h⟩
  change Cnt (t1.length : Int) i9 m10 at hsf1
  change F_first_Order_l1 t1 m10 i9 l7 = some r at h
  change AW _ _ _ ⟨slots [(1, ptrL g2 (Lens.id (ksl kFlow))), (3, raw v8), (9, rd (kint .i64) (t1.length : Int)), (10, rd (kint .i64) (i9 : Int))], ress [(2, Blk g2 22 (ksl kFlow) t1), (1001, Row v8 3 (kint .i64) l7)], _⟩
  cases m10 with
  | zero =>
    unfold F_first_Order_l1 at h
    refine SR <| Ac (op_lss rfl rfl (vt rfl) (vt rfl)) rfl <| Nl <| AW.seq <| Cn rfl (fun hc => absurd (of_decide_eq_true hc) hsf1.zero) (fun hc => ?_)
    refine AW.exit <| AW.seq <| AW.freezeB 1 2 rfl rfl rfl ?_
    obtain ⟨l11, hl11, h⟩ := bsome h
    refine Rg <| Mw rfl <| Ac (op_fn2 (cs := [.tmp 1]) (CAs := [rp (ksl kFlow) t1]) (fun x z => F_first_Order_1 x z t1) rfl rfl e201 ⟨vt rfl, trivial⟩ (fun x z y h => c_first_Order_1 _ _ _ y h)) rfl <| Ct rfl (op_callR 1001 (xs := [.tmp 18, .tmp 19]) (c_slices_SortStableFunc_int_o _ _ _ _ hl11) e200 rfl rfl ⟨vt rfl, vt rfl, trivial⟩ rfl) ?_
    rintro _ ⟨_u, rfl⟩
    refine Nl <| SR <| Mw rfl <| Aw rfl <| Nl <| AW.freezes [2, 3, 18, 21] 1001 rfl ⟨rfl, rfl, rfl, rfl, trivial⟩ rfl <| AW.ret ?_
    obtain rfl := si h
    exact ret1 Tryz.results135 rfl (out_tmp rfl)
  | succ m10 =>
    unfold F_first_Order_l1 at h
    generalize hgo1 : F_first_Order_l1 t1 m10 = go1 at h
    refine SR <| Ac (op_lss rfl rfl (vt rfl) (vt rfl)) rfl <| Nl <| AW.seq <| Cn rfl (fun hc => ?_) (fun hc => absurd hsf1.succ (of_decide_eq_false hc))
    have hlti9 := of_decide_eq_true hc
    refine AW.skip <| AW.seq <| AW.block <| SR <| Md rfl <| As rfl <| Nl ?_
    obtain ⟨l12, hl12, h⟩ := bsome h
    refine Rg <| Mw rfl <| Md rfl <| Ac (op_buildSliceR (ps := [(0, .tmp 14)]) (l := [(i9 : Int)]) rfl rfl sl37 zr3 rfl rfl ⟨_, _, Lens.idx 1 (kint .i64) 0 (by decide), _, rfl, (vt rfl), rfl⟩ rfl) rfl <| Ct rfl (op_append' 1001 hl12 rfl rfl el37 (vt rfl) rfl (vt rfl)) ?_
    rintro _ ⟨v13, rfl⟩
    refine Aw rfl <| Nl <| Rg <| Ac (op_incr (t := 9) rfl rfl (vt rfl) (vk rfl) (vt rfl) hlti9) rfl <| Md rfl <| Nl ?_
    subst hgo1
    exact ⟨(m10, i9 + 1, l12, v13), Nat.lt_succ_self _, ⟨hsf1.next, h⟩, ⟨rfl, ⟨rfl, rfl, rfl, rfl, trivial⟩, ⟨rfl, rfl, trivial⟩⟩⟩
def F_cube_All : Option (Vector Tern 24) :=
  some (Vector.replicate 24 zTern)
theorem c_cube_All (r : (Vector Tern 24)) (h : F_cube_All = some r) : PCon Tryz.prog 73 [] (rd (karr 24 kTern) r) := by
  refine PCon.of (Con.intro0 Tryz.func73 rfl Tryz.ntmps73 rfl fun w H => ?_)
  unfold F_cube_All at h
  refine SR <| Ct rfl (op_alloc 1 rfl rfl zr87) ?_
  rintro _ ⟨g1, rfl⟩
  refine Nl <| SR <| Ac (op_build (ps := []) (x := (Vector.replicate 24 zTern)) rfl rfl rfl (by kernel_rfl) zr87 rfl) rfl <| Sto ty87 1 rfl <| Nl <| AW.ret ?_
  obtain rfl := si h
  exact ret1 Tryz.results73 rfl (out_cell rfl (i := 1) rfl ty87)
def F_field_Right (f1 : Int) : Option Bool :=
  some ((decide (f1 ≥ 0)) && (decide (f1 < 24)))
theorem c_field_Right (f1 : Int) (r : Bool) (h : F_field_Right f1 = some r) : PCon Tryz.prog 269 [rd (kint .i64) f1] (rd kbool r) := by
  refine PCon.of (Con.intro0 Tryz.func269 rfl Tryz.ntmps269 rfl fun w H => ?_)
  unfold F_field_Right at h
  refine SR <| Ab rfl <| Nl <| SR <| Md rfl <| Ac (op_geq rfl rfl (vt rfl) (vk rfl)) rfl <| Md rfl <| Gd rfl (fun hq => op_move (A := rd (kint .i64) f1) rfl rfl (vt rfl)) <| Gd rfl (fun hq => op_lss rfl rfl (vgt rfl hq) (vk rfl)) <| Ac (op_all rfl rfl (vt rfl) (vt rfl)) rfl <| As rfl <| Nl <| AW.ret ?_
  obtain rfl := si h
  exact ret1 Tryz.results269 rfl (out_tmp rfl)
def F_field_rows : Option (Vector field_row 24) :=
  some (Vector.set (Vector.set (Vector.set (Vector.set (Vector.set (Vector.set (Vector.set (Vector.set (Vector.set (Vector.set (Vector.set (Vector.set (Vector.set (Vector.set (Vector.set (Vector.set (Vector.set (Vector.set (Vector.set (Vector.set (Vector.set (Vector.set (Vector.set (Vector.set (Vector.replicate 24 zfield_row) 0 (⟨{ data := #[105, 110, 95, 112, 111, 114, 116] }, 0, 32, false⟩ : field_row) (by decide)) 1 (⟨{ data := #[109, 101, 116, 97, 100, 97, 116, 97] }, 2, 64, true⟩ : field_row) (by decide)) 2 (⟨{ data := #[101, 116, 104, 95, 100, 115, 116] }, 3, 48, true⟩ : field_row) (by decide)) 3 (⟨{ data := #[101, 116, 104, 95, 115, 114, 99] }, 4, 48, true⟩ : field_row) (by decide)) 4 (⟨{ data := #[101, 116, 104, 95, 116, 121, 112, 101] }, 5, 16, false⟩ : field_row) (by decide)) 5 (⟨{ data := #[118, 108, 97, 110, 95, 118, 105, 100] }, 6, 13, true⟩ : field_row) (by decide)) 6 (⟨{ data := #[118, 108, 97, 110, 95, 112, 99, 112] }, 7, 3, false⟩ : field_row) (by decide)) 7 (⟨{ data := #[105, 112, 95, 100, 115, 99, 112] }, 8, 6, false⟩ : field_row) (by decide)) 8 (⟨{ data := #[105, 112, 95, 101, 99, 110] }, 9, 2, false⟩ : field_row) (by decide)) 9 (⟨{ data := #[105, 112, 95, 112, 114, 111, 116, 111] }, 10, 8, false⟩ : field_row) (by decide)) 10 (⟨{ data := #[105, 112, 118, 52, 95, 115, 114, 99] }, 11, 32, true⟩ : field_row) (by decide)) 11 (⟨{ data := #[105, 112, 118, 52, 95, 100, 115, 116] }, 12, 32, true⟩ : field_row) (by decide)) 12 (⟨{ data := #[116, 99, 112, 95, 115, 114, 99] }, 13, 16, false⟩ : field_row) (by decide)) 13 (⟨{ data := #[116, 99, 112, 95, 100, 115, 116] }, 14, 16, false⟩ : field_row) (by decide)) 14 (⟨{ data := #[117, 100, 112, 95, 115, 114, 99] }, 15, 16, false⟩ : field_row) (by decide)) 15 (⟨{ data := #[117, 100, 112, 95, 100, 115, 116] }, 16, 16, false⟩ : field_row) (by decide)) 16 (⟨{ data := #[105, 99, 109, 112, 118, 52, 95, 116, 121, 112, 101] }, 19, 8, false⟩ : field_row) (by decide)) 17 (⟨{ data := #[105, 99, 109, 112, 118, 52, 95, 99, 111, 100, 101] }, 20, 8, false⟩ : field_row) (by decide)) 18 (⟨{ data := #[97, 114, 112, 95, 111, 112] }, 21, 16, false⟩ : field_row) (by decide)) 19 (⟨{ data := #[97, 114, 112, 95, 115, 112, 97] }, 22, 32, true⟩ : field_row) (by decide)) 20 (⟨{ data := #[97, 114, 112, 95, 116, 112, 97] }, 23, 32, true⟩ : field_row) (by decide)) 21 (⟨{ data := #[105, 112, 118, 54, 95, 115, 114, 99] }, 26, 128, true⟩ : field_row) (by decide)) 22 (⟨{ data := #[105, 112, 118, 54, 95, 100, 115, 116] }, 27, 128, true⟩ : field_row) (by decide)) 23 (⟨{ data := #[109, 112, 108, 115, 95, 108, 97, 98, 101, 108] }, 34, 20, false⟩ : field_row) (by decide))
theorem c_field_rows (r : (Vector field_row 24)) (h : F_field_rows = some r) : PCon Tryz.prog 344 [] (rd (karr 24 kfield_row) r) := by
  refine PCon.of (Con.intro0 Tryz.func344 rfl Tryz.ntmps344 rfl fun w H => ?_)
  unfold F_field_rows at h
  refine SR <| Ct rfl (op_alloc 1 rfl rfl zr369) ?_
  rintro _ ⟨g1, rfl⟩
  refine Nl <| SR <| Ac (op_build (ps := [(0, .const (Value.string { data := #[105, 110, 95, 112, 111, 114, 116] })), (1, .const (Value.int IntKind.i64 0)), (2, .const (Value.int IntKind.i64 32)), (3, .const (Value.bool false))]) (x := (⟨{ data := #[105, 110, 95, 112, 111, 114, 116] }, 0, 32, false⟩ : field_row)) rfl rfl rfl (by kernel_rfl) zr364 ⟨_, _, lfield_row_0, _, by kernel_rfl, (vs (by decide)), _, _, lfield_row_1, _, by kernel_rfl, (vk rfl), _, _, lfield_row_2, _, by kernel_rfl, (vk rfl), _, _, lfield_row_3, _, by kernel_rfl, vb, rfl⟩) rfl <| Ac (op_build (ps := [(0, .const (Value.string { data := #[109, 101, 116, 97, 100, 97, 116, 97] })), (1, .const (Value.int IntKind.i64 2)), (2, .const (Value.int IntKind.i64 64)), (3, .const (Value.bool true))]) (x := (⟨{ data := #[109, 101, 116, 97, 100, 97, 116, 97] }, 2, 64, true⟩ : field_row)) rfl rfl rfl (by kernel_rfl) zr364 ⟨_, _, lfield_row_0, _, by kernel_rfl, (vs (by decide)), _, _, lfield_row_1, _, by kernel_rfl, (vk rfl), _, _, lfield_row_2, _, by kernel_rfl, (vk rfl), _, _, lfield_row_3, _, by kernel_rfl, vb, rfl⟩) rfl <| Ac (op_build (ps := [(0, .const (Value.string { data := #[101, 116, 104, 95, 100, 115, 116] })), (1, .const (Value.int IntKind.i64 3)), (2, .const (Value.int IntKind.i64 48)), (3, .const (Value.bool true))]) (x := (⟨{ data := #[101, 116, 104, 95, 100, 115, 116] }, 3, 48, true⟩ : field_row)) rfl rfl rfl (by kernel_rfl) zr364 ⟨_, _, lfield_row_0, _, by kernel_rfl, (vs (by decide)), _, _, lfield_row_1, _, by kernel_rfl, (vk rfl), _, _, lfield_row_2, _, by kernel_rfl, (vk rfl), _, _, lfield_row_3, _, by kernel_rfl, vb, rfl⟩) rfl <| Ac (op_build (ps := [(0, .const (Value.string { data := #[101, 116, 104, 95, 115, 114, 99] })), (1, .const (Value.int IntKind.i64 4)), (2, .const (Value.int IntKind.i64 48)), (3, .const (Value.bool true))]) (x := (⟨{ data := #[101, 116, 104, 95, 115, 114, 99] }, 4, 48, true⟩ : field_row)) rfl rfl rfl (by kernel_rfl) zr364 ⟨_, _, lfield_row_0, _, by kernel_rfl, (vs (by decide)), _, _, lfield_row_1, _, by kernel_rfl, (vk rfl), _, _, lfield_row_2, _, by kernel_rfl, (vk rfl), _, _, lfield_row_3, _, by kernel_rfl, vb, rfl⟩) rfl <| Ac (op_build (ps := [(0, .const (Value.string { data := #[101, 116, 104, 95, 116, 121, 112, 101] })), (1, .const (Value.int IntKind.i64 5)), (2, .const (Value.int IntKind.i64 16)), (3, .const (Value.bool false))]) (x := (⟨{ data := #[101, 116, 104, 95, 116, 121, 112, 101] }, 5, 16, false⟩ : field_row)) rfl rfl rfl (by kernel_rfl) zr364 ⟨_, _, lfield_row_0, _, by kernel_rfl, (vs (by decide)), _, _, lfield_row_1, _, by kernel_rfl, (vk rfl), _, _, lfield_row_2, _, by kernel_rfl, (vk rfl), _, _, lfield_row_3, _, by kernel_rfl, vb, rfl⟩) rfl <| Ac (op_build (ps := [(0, .const (Value.string { data := #[118, 108, 97, 110, 95, 118, 105, 100] })), (1, .const (Value.int IntKind.i64 6)), (2, .const (Value.int IntKind.i64 13)), (3, .const (Value.bool true))]) (x := (⟨{ data := #[118, 108, 97, 110, 95, 118, 105, 100] }, 6, 13, true⟩ : field_row)) rfl rfl rfl (by kernel_rfl) zr364 ⟨_, _, lfield_row_0, _, by kernel_rfl, (vs (by decide)), _, _, lfield_row_1, _, by kernel_rfl, (vk rfl), _, _, lfield_row_2, _, by kernel_rfl, (vk rfl), _, _, lfield_row_3, _, by kernel_rfl, vb, rfl⟩) rfl ?_
  refine Ac (op_build (ps := [(0, .const (Value.string { data := #[118, 108, 97, 110, 95, 112, 99, 112] })), (1, .const (Value.int IntKind.i64 7)), (2, .const (Value.int IntKind.i64 3)), (3, .const (Value.bool false))]) (x := (⟨{ data := #[118, 108, 97, 110, 95, 112, 99, 112] }, 7, 3, false⟩ : field_row)) rfl rfl rfl (by kernel_rfl) zr364 ⟨_, _, lfield_row_0, _, by kernel_rfl, (vs (by decide)), _, _, lfield_row_1, _, by kernel_rfl, (vk rfl), _, _, lfield_row_2, _, by kernel_rfl, (vk rfl), _, _, lfield_row_3, _, by kernel_rfl, vb, rfl⟩) rfl <| Ac (op_build (ps := [(0, .const (Value.string { data := #[105, 112, 95, 100, 115, 99, 112] })), (1, .const (Value.int IntKind.i64 8)), (2, .const (Value.int IntKind.i64 6)), (3, .const (Value.bool false))]) (x := (⟨{ data := #[105, 112, 95, 100, 115, 99, 112] }, 8, 6, false⟩ : field_row)) rfl rfl rfl (by kernel_rfl) zr364 ⟨_, _, lfield_row_0, _, by kernel_rfl, (vs (by decide)), _, _, lfield_row_1, _, by kernel_rfl, (vk rfl), _, _, lfield_row_2, _, by kernel_rfl, (vk rfl), _, _, lfield_row_3, _, by kernel_rfl, vb, rfl⟩) rfl <| Ac (op_build (ps := [(0, .const (Value.string { data := #[105, 112, 95, 101, 99, 110] })), (1, .const (Value.int IntKind.i64 9)), (2, .const (Value.int IntKind.i64 2)), (3, .const (Value.bool false))]) (x := (⟨{ data := #[105, 112, 95, 101, 99, 110] }, 9, 2, false⟩ : field_row)) rfl rfl rfl (by kernel_rfl) zr364 ⟨_, _, lfield_row_0, _, by kernel_rfl, (vs (by decide)), _, _, lfield_row_1, _, by kernel_rfl, (vk rfl), _, _, lfield_row_2, _, by kernel_rfl, (vk rfl), _, _, lfield_row_3, _, by kernel_rfl, vb, rfl⟩) rfl <| Ac (op_build (ps := [(0, .const (Value.string { data := #[105, 112, 95, 112, 114, 111, 116, 111] })), (1, .const (Value.int IntKind.i64 10)), (2, .const (Value.int IntKind.i64 8)), (3, .const (Value.bool false))]) (x := (⟨{ data := #[105, 112, 95, 112, 114, 111, 116, 111] }, 10, 8, false⟩ : field_row)) rfl rfl rfl (by kernel_rfl) zr364 ⟨_, _, lfield_row_0, _, by kernel_rfl, (vs (by decide)), _, _, lfield_row_1, _, by kernel_rfl, (vk rfl), _, _, lfield_row_2, _, by kernel_rfl, (vk rfl), _, _, lfield_row_3, _, by kernel_rfl, vb, rfl⟩) rfl <| Ac (op_build (ps := [(0, .const (Value.string { data := #[105, 112, 118, 52, 95, 115, 114, 99] })), (1, .const (Value.int IntKind.i64 11)), (2, .const (Value.int IntKind.i64 32)), (3, .const (Value.bool true))]) (x := (⟨{ data := #[105, 112, 118, 52, 95, 115, 114, 99] }, 11, 32, true⟩ : field_row)) rfl rfl rfl (by kernel_rfl) zr364 ⟨_, _, lfield_row_0, _, by kernel_rfl, (vs (by decide)), _, _, lfield_row_1, _, by kernel_rfl, (vk rfl), _, _, lfield_row_2, _, by kernel_rfl, (vk rfl), _, _, lfield_row_3, _, by kernel_rfl, vb, rfl⟩) rfl <| Ac (op_build (ps := [(0, .const (Value.string { data := #[105, 112, 118, 52, 95, 100, 115, 116] })), (1, .const (Value.int IntKind.i64 12)), (2, .const (Value.int IntKind.i64 32)), (3, .const (Value.bool true))]) (x := (⟨{ data := #[105, 112, 118, 52, 95, 100, 115, 116] }, 12, 32, true⟩ : field_row)) rfl rfl rfl (by kernel_rfl) zr364 ⟨_, _, lfield_row_0, _, by kernel_rfl, (vs (by decide)), _, _, lfield_row_1, _, by kernel_rfl, (vk rfl), _, _, lfield_row_2, _, by kernel_rfl, (vk rfl), _, _, lfield_row_3, _, by kernel_rfl, vb, rfl⟩) rfl ?_
  refine Ac (op_build (ps := [(0, .const (Value.string { data := #[116, 99, 112, 95, 115, 114, 99] })), (1, .const (Value.int IntKind.i64 13)), (2, .const (Value.int IntKind.i64 16)), (3, .const (Value.bool false))]) (x := (⟨{ data := #[116, 99, 112, 95, 115, 114, 99] }, 13, 16, false⟩ : field_row)) rfl rfl rfl (by kernel_rfl) zr364 ⟨_, _, lfield_row_0, _, by kernel_rfl, (vs (by decide)), _, _, lfield_row_1, _, by kernel_rfl, (vk rfl), _, _, lfield_row_2, _, by kernel_rfl, (vk rfl), _, _, lfield_row_3, _, by kernel_rfl, vb, rfl⟩) rfl <| Ac (op_build (ps := [(0, .const (Value.string { data := #[116, 99, 112, 95, 100, 115, 116] })), (1, .const (Value.int IntKind.i64 14)), (2, .const (Value.int IntKind.i64 16)), (3, .const (Value.bool false))]) (x := (⟨{ data := #[116, 99, 112, 95, 100, 115, 116] }, 14, 16, false⟩ : field_row)) rfl rfl rfl (by kernel_rfl) zr364 ⟨_, _, lfield_row_0, _, by kernel_rfl, (vs (by decide)), _, _, lfield_row_1, _, by kernel_rfl, (vk rfl), _, _, lfield_row_2, _, by kernel_rfl, (vk rfl), _, _, lfield_row_3, _, by kernel_rfl, vb, rfl⟩) rfl <| Ac (op_build (ps := [(0, .const (Value.string { data := #[117, 100, 112, 95, 115, 114, 99] })), (1, .const (Value.int IntKind.i64 15)), (2, .const (Value.int IntKind.i64 16)), (3, .const (Value.bool false))]) (x := (⟨{ data := #[117, 100, 112, 95, 115, 114, 99] }, 15, 16, false⟩ : field_row)) rfl rfl rfl (by kernel_rfl) zr364 ⟨_, _, lfield_row_0, _, by kernel_rfl, (vs (by decide)), _, _, lfield_row_1, _, by kernel_rfl, (vk rfl), _, _, lfield_row_2, _, by kernel_rfl, (vk rfl), _, _, lfield_row_3, _, by kernel_rfl, vb, rfl⟩) rfl <| Ac (op_build (ps := [(0, .const (Value.string { data := #[117, 100, 112, 95, 100, 115, 116] })), (1, .const (Value.int IntKind.i64 16)), (2, .const (Value.int IntKind.i64 16)), (3, .const (Value.bool false))]) (x := (⟨{ data := #[117, 100, 112, 95, 100, 115, 116] }, 16, 16, false⟩ : field_row)) rfl rfl rfl (by kernel_rfl) zr364 ⟨_, _, lfield_row_0, _, by kernel_rfl, (vs (by decide)), _, _, lfield_row_1, _, by kernel_rfl, (vk rfl), _, _, lfield_row_2, _, by kernel_rfl, (vk rfl), _, _, lfield_row_3, _, by kernel_rfl, vb, rfl⟩) rfl <| Ac (op_build (ps := [(0, .const (Value.string { data := #[105, 99, 109, 112, 118, 52, 95, 116, 121, 112, 101] })), (1, .const (Value.int IntKind.i64 19)), (2, .const (Value.int IntKind.i64 8)), (3, .const (Value.bool false))]) (x := (⟨{ data := #[105, 99, 109, 112, 118, 52, 95, 116, 121, 112, 101] }, 19, 8, false⟩ : field_row)) rfl rfl rfl (by kernel_rfl) zr364 ⟨_, _, lfield_row_0, _, by kernel_rfl, (vs (by decide)), _, _, lfield_row_1, _, by kernel_rfl, (vk rfl), _, _, lfield_row_2, _, by kernel_rfl, (vk rfl), _, _, lfield_row_3, _, by kernel_rfl, vb, rfl⟩) rfl <| Ac (op_build (ps := [(0, .const (Value.string { data := #[105, 99, 109, 112, 118, 52, 95, 99, 111, 100, 101] })), (1, .const (Value.int IntKind.i64 20)), (2, .const (Value.int IntKind.i64 8)), (3, .const (Value.bool false))]) (x := (⟨{ data := #[105, 99, 109, 112, 118, 52, 95, 99, 111, 100, 101] }, 20, 8, false⟩ : field_row)) rfl rfl rfl (by kernel_rfl) zr364 ⟨_, _, lfield_row_0, _, by kernel_rfl, (vs (by decide)), _, _, lfield_row_1, _, by kernel_rfl, (vk rfl), _, _, lfield_row_2, _, by kernel_rfl, (vk rfl), _, _, lfield_row_3, _, by kernel_rfl, vb, rfl⟩) rfl ?_
  refine Ac (op_build (ps := [(0, .const (Value.string { data := #[97, 114, 112, 95, 111, 112] })), (1, .const (Value.int IntKind.i64 21)), (2, .const (Value.int IntKind.i64 16)), (3, .const (Value.bool false))]) (x := (⟨{ data := #[97, 114, 112, 95, 111, 112] }, 21, 16, false⟩ : field_row)) rfl rfl rfl (by kernel_rfl) zr364 ⟨_, _, lfield_row_0, _, by kernel_rfl, (vs (by decide)), _, _, lfield_row_1, _, by kernel_rfl, (vk rfl), _, _, lfield_row_2, _, by kernel_rfl, (vk rfl), _, _, lfield_row_3, _, by kernel_rfl, vb, rfl⟩) rfl <| Ac (op_build (ps := [(0, .const (Value.string { data := #[97, 114, 112, 95, 115, 112, 97] })), (1, .const (Value.int IntKind.i64 22)), (2, .const (Value.int IntKind.i64 32)), (3, .const (Value.bool true))]) (x := (⟨{ data := #[97, 114, 112, 95, 115, 112, 97] }, 22, 32, true⟩ : field_row)) rfl rfl rfl (by kernel_rfl) zr364 ⟨_, _, lfield_row_0, _, by kernel_rfl, (vs (by decide)), _, _, lfield_row_1, _, by kernel_rfl, (vk rfl), _, _, lfield_row_2, _, by kernel_rfl, (vk rfl), _, _, lfield_row_3, _, by kernel_rfl, vb, rfl⟩) rfl <| Ac (op_build (ps := [(0, .const (Value.string { data := #[97, 114, 112, 95, 116, 112, 97] })), (1, .const (Value.int IntKind.i64 23)), (2, .const (Value.int IntKind.i64 32)), (3, .const (Value.bool true))]) (x := (⟨{ data := #[97, 114, 112, 95, 116, 112, 97] }, 23, 32, true⟩ : field_row)) rfl rfl rfl (by kernel_rfl) zr364 ⟨_, _, lfield_row_0, _, by kernel_rfl, (vs (by decide)), _, _, lfield_row_1, _, by kernel_rfl, (vk rfl), _, _, lfield_row_2, _, by kernel_rfl, (vk rfl), _, _, lfield_row_3, _, by kernel_rfl, vb, rfl⟩) rfl <| Ac (op_build (ps := [(0, .const (Value.string { data := #[105, 112, 118, 54, 95, 115, 114, 99] })), (1, .const (Value.int IntKind.i64 26)), (2, .const (Value.int IntKind.i64 128)), (3, .const (Value.bool true))]) (x := (⟨{ data := #[105, 112, 118, 54, 95, 115, 114, 99] }, 26, 128, true⟩ : field_row)) rfl rfl rfl (by kernel_rfl) zr364 ⟨_, _, lfield_row_0, _, by kernel_rfl, (vs (by decide)), _, _, lfield_row_1, _, by kernel_rfl, (vk rfl), _, _, lfield_row_2, _, by kernel_rfl, (vk rfl), _, _, lfield_row_3, _, by kernel_rfl, vb, rfl⟩) rfl <| Ac (op_build (ps := [(0, .const (Value.string { data := #[105, 112, 118, 54, 95, 100, 115, 116] })), (1, .const (Value.int IntKind.i64 27)), (2, .const (Value.int IntKind.i64 128)), (3, .const (Value.bool true))]) (x := (⟨{ data := #[105, 112, 118, 54, 95, 100, 115, 116] }, 27, 128, true⟩ : field_row)) rfl rfl rfl (by kernel_rfl) zr364 ⟨_, _, lfield_row_0, _, by kernel_rfl, (vs (by decide)), _, _, lfield_row_1, _, by kernel_rfl, (vk rfl), _, _, lfield_row_2, _, by kernel_rfl, (vk rfl), _, _, lfield_row_3, _, by kernel_rfl, vb, rfl⟩) rfl <| Ac (op_build (ps := [(0, .const (Value.string { data := #[109, 112, 108, 115, 95, 108, 97, 98, 101, 108] })), (1, .const (Value.int IntKind.i64 34)), (2, .const (Value.int IntKind.i64 20)), (3, .const (Value.bool false))]) (x := (⟨{ data := #[109, 112, 108, 115, 95, 108, 97, 98, 101, 108] }, 34, 20, false⟩ : field_row)) rfl rfl rfl (by kernel_rfl) zr364 ⟨_, _, lfield_row_0, _, by kernel_rfl, (vs (by decide)), _, _, lfield_row_1, _, by kernel_rfl, (vk rfl), _, _, lfield_row_2, _, by kernel_rfl, (vk rfl), _, _, lfield_row_3, _, by kernel_rfl, vb, rfl⟩) rfl ?_
  refine Ac (op_build (ps := [(0, .tmp 1), (1, .tmp 2), (2, .tmp 3), (3, .tmp 4), (4, .tmp 5), (5, .tmp 6), (6, .tmp 7), (7, .tmp 8), (8, .tmp 9), (9, .tmp 10), (10, .tmp 11), (11, .tmp 12), (12, .tmp 13), (13, .tmp 14), (14, .tmp 15), (15, .tmp 16), (16, .tmp 17), (17, .tmp 18), (18, .tmp 19), (19, .tmp 20), (20, .tmp 21), (21, .tmp 22), (22, .tmp 23), (23, .tmp 24)]) (x := (Vector.set (Vector.set (Vector.set (Vector.set (Vector.set (Vector.set (Vector.set (Vector.set (Vector.set (Vector.set (Vector.set (Vector.set (Vector.set (Vector.set (Vector.set (Vector.set (Vector.set (Vector.set (Vector.set (Vector.set (Vector.set (Vector.set (Vector.set (Vector.set (Vector.replicate 24 zfield_row) 0 (⟨{ data := #[105, 110, 95, 112, 111, 114, 116] }, 0, 32, false⟩ : field_row) (by decide)) 1 (⟨{ data := #[109, 101, 116, 97, 100, 97, 116, 97] }, 2, 64, true⟩ : field_row) (by decide)) 2 (⟨{ data := #[101, 116, 104, 95, 100, 115, 116] }, 3, 48, true⟩ : field_row) (by decide)) 3 (⟨{ data := #[101, 116, 104, 95, 115, 114, 99] }, 4, 48, true⟩ : field_row) (by decide)) 4 (⟨{ data := #[101, 116, 104, 95, 116, 121, 112, 101] }, 5, 16, false⟩ : field_row) (by decide)) 5 (⟨{ data := #[118, 108, 97, 110, 95, 118, 105, 100] }, 6, 13, true⟩ : field_row) (by decide)) 6 (⟨{ data := #[118, 108, 97, 110, 95, 112, 99, 112] }, 7, 3, false⟩ : field_row) (by decide)) 7 (⟨{ data := #[105, 112, 95, 100, 115, 99, 112] }, 8, 6, false⟩ : field_row) (by decide)) 8 (⟨{ data := #[105, 112, 95, 101, 99, 110] }, 9, 2, false⟩ : field_row) (by decide)) 9 (⟨{ data := #[105, 112, 95, 112, 114, 111, 116, 111] }, 10, 8, false⟩ : field_row) (by decide)) 10 (⟨{ data := #[105, 112, 118, 52, 95, 115, 114, 99] }, 11, 32, true⟩ : field_row) (by decide)) 11 (⟨{ data := #[105, 112, 118, 52, 95, 100, 115, 116] }, 12, 32, true⟩ : field_row) (by decide)) 12 (⟨{ data := #[116, 99, 112, 95, 115, 114, 99] }, 13, 16, false⟩ : field_row) (by decide)) 13 (⟨{ data := #[116, 99, 112, 95, 100, 115, 116] }, 14, 16, false⟩ : field_row) (by decide)) 14 (⟨{ data := #[117, 100, 112, 95, 115, 114, 99] }, 15, 16, false⟩ : field_row) (by decide)) 15 (⟨{ data := #[117, 100, 112, 95, 100, 115, 116] }, 16, 16, false⟩ : field_row) (by decide)) 16 (⟨{ data := #[105, 99, 109, 112, 118, 52, 95, 116, 121, 112, 101] }, 19, 8, false⟩ : field_row) (by decide)) 17 (⟨{ data := #[105, 99, 109, 112, 118, 52, 95, 99, 111, 100, 101] }, 20, 8, false⟩ : field_row) (by decide)) 18 (⟨{ data := #[97, 114, 112, 95, 111, 112] }, 21, 16, false⟩ : field_row) (by decide)) 19 (⟨{ data := #[97, 114, 112, 95, 115, 112, 97] }, 22, 32, true⟩ : field_row) (by decide)) 20 (⟨{ data := #[97, 114, 112, 95, 116, 112, 97] }, 23, 32, true⟩ : field_row) (by decide)) 21 (⟨{ data := #[105, 112, 118, 54, 95, 115, 114, 99] }, 26, 128, true⟩ : field_row) (by decide)) 22 (⟨{ data := #[105, 112, 118, 54, 95, 100, 115, 116] }, 27, 128, true⟩ : field_row) (by decide)) 23 (⟨{ data := #[109, 112, 108, 115, 95, 108, 97, 98, 101, 108] }, 34, 20, false⟩ : field_row) (by decide))) rfl rfl rfl (by kernel_rfl) zr369 ⟨_, _, Lens.idx 24 kfield_row 0 (by decide), _, by kernel_rfl, (vt rfl), _, _, Lens.idx 24 kfield_row 1 (by decide), _, by kernel_rfl, (vt rfl), _, _, Lens.idx 24 kfield_row 2 (by decide), _, by kernel_rfl, (vt rfl), _, _, Lens.idx 24 kfield_row 3 (by decide), _, by kernel_rfl, (vt rfl), _, _, Lens.idx 24 kfield_row 4 (by decide), _, by kernel_rfl, (vt rfl), _, _, Lens.idx 24 kfield_row 5 (by decide), _, by kernel_rfl, (vt rfl), _, _, Lens.idx 24 kfield_row 6 (by decide), _, by kernel_rfl, (vt rfl), _, _, Lens.idx 24 kfield_row 7 (by decide), _, by kernel_rfl, (vt rfl), _, _, Lens.idx 24 kfield_row 8 (by decide), _, by kernel_rfl, (vt rfl), _, _, Lens.idx 24 kfield_row 9 (by decide), _, by kernel_rfl, (vt rfl), _, _, Lens.idx 24 kfield_row 10 (by decide), _, by kernel_rfl, (vt rfl), _, _, Lens.idx 24 kfield_row 11 (by decide), _, by kernel_rfl, (vt rfl), _, _, Lens.idx 24 kfield_row 12 (by decide), _, by kernel_rfl, (vt rfl), _, _, Lens.idx 24 kfield_row 13 (by decide), _, by kernel_rfl, (vt rfl), _, _, Lens.idx 24 kfield_row 14 (by decide), _, by kernel_rfl, (vt rfl), _, _, Lens.idx 24 kfield_row 15 (by decide), _, by kernel_rfl, (vt rfl), _, _, Lens.idx 24 kfield_row 16 (by decide), _, by kernel_rfl, (vt rfl), _, _, Lens.idx 24 kfield_row 17 (by decide), _, by kernel_rfl, (vt rfl), _, _, Lens.idx 24 kfield_row 18 (by decide), _, by kernel_rfl, (vt rfl), _, _, Lens.idx 24 kfield_row 19 (by decide), _, by kernel_rfl, (vt rfl), _, _, Lens.idx 24 kfield_row 20 (by decide), _, by kernel_rfl, (vt rfl), _, _, Lens.idx 24 kfield_row 21 (by decide), _, by kernel_rfl, (vt rfl), _, _, Lens.idx 24 kfield_row 22 (by decide), _, by kernel_rfl, (vt rfl), _, _, Lens.idx 24 kfield_row 23 (by decide), _, by kernel_rfl, (vt rfl), rfl⟩) rfl ?_
  refine Sto ty369 1 rfl <| Nl <| AW.ret ?_
  obtain rfl := si h
  exact ret1 Tryz.results344 rfl (out_cell rfl (i := 1) rfl ty369)
def F_field_at (f1 : Int) : Option field_row :=
  (F_field_Right f1).bind fun x3 => (bif (!x3) then some (⟨(⟨#[]⟩ : ByteArray), (-1), 0, false⟩ : field_row) else (F_field_rows).bind fun x4 => (lget (Vector.toList x4) f1).bind fun e5 => some e5)
theorem c_field_at (f1 : Int) (r : field_row) (h : F_field_at f1 = some r) : PCon Tryz.prog 336 [rd (kint .i64) f1] (rd kfield_row r) := by
  refine PCon.of (Con.intro0 Tryz.func336 rfl Tryz.ntmps336 rfl fun w H => ?_)
  unfold F_field_at at h
  refine SR <| Ct rfl (op_alloc 3 rfl rfl zr364) ?_
  rintro _ ⟨g2, rfl⟩
  refine Nl <| AW.seq <| AW.seq ?_
  obtain ⟨x3, hx3, h⟩ := bsome h
  refine Rg <| Md rfl <| Cl [3] (c_field_Right _ _ hx3) e269 rfl <| Ac (op_not rfl rfl (vt rfl)) rfl <| Nl <| Cn rfl (fun hc => ?_) (fun hc => ?_)
  · have h := cond_t hc h
    refine SR <| Ac (op_build (ps := [(1, .const (Value.int IntKind.i64 (-1)))]) (x := (⟨(⟨#[]⟩ : ByteArray), (-1), 0, false⟩ : field_row)) rfl rfl rfl (by kernel_rfl) zr364 ⟨_, _, lfield_row_1, _, by kernel_rfl, (vk rfl), rfl⟩) rfl <| Sto ty364 3 rfl <| Nl <| AW.ret ?_
    obtain rfl := si h
    exact ret1 Tryz.results336 rfl (out_cell rfl (i := 3) rfl ty364)
  · have h := cond_f hc h
    refine AW.skip <| AW.seq ?_
    obtain ⟨x4, hx4, h⟩ := bsome h
    obtain ⟨e5, he5, h⟩ := bsome h
    refine Rg <| Cl [] (c_field_rows _ hx4) e344 rfl <| Md rfl <| Ac (op_indexv rfl rfl ar369 ty364 (vt rfl) (vt rfl) he5) rfl <| Sto ty364 3 rfl <| Nl <| AW.ret ?_
    obtain rfl := si h
    exact ret1 Tryz.results336 rfl (out_cell rfl (i := 3) rfl ty364)
def F_field_Bits (f1 : Int) : Option Int :=
  (F_field_at f1).bind fun x2 => some x2.bits
theorem c_field_Bits (f1 : Int) (r : Int) (h : F_field_Bits f1 = some r) : PCon Tryz.prog 312 [rd (kint .i64) f1] (rd (kint .i64) r) := by
  refine PCon.of (Con.intro0 Tryz.func312 rfl Tryz.ntmps312 rfl fun w H => ?_)
  unfold F_field_Bits at h
  refine SR <| Ak rfl <| Nl <| AW.seq ?_
  obtain ⟨x2, hx2, h⟩ := bsome h
  refine Rg <| Md rfl <| Cl [3] (c_field_at _ _ hx2) e336 rfl <| Ac (op_fieldv lfield_row_2 rfl rfl fl364_2 ft364_2 ty3 rfl (vt rfl)) rfl <| As rfl <| Nl <| AW.ret ?_
  obtain rfl := si h
  exact ret1 Tryz.results312 rfl (out_tmp rfl)
def F_wide_low (n1 : Int) : Option (BitVec 64) :=
  (bif (decide (n1 ≥ 64)) then some (18446744073709551615 : BitVec 64) else (oushl (1 : BitVec 64) (imax n1 0)).bind fun q2 => some (q2 - (1 : BitVec 64)))
theorem c_wide_low (n1 : Int) (r : (BitVec 64)) (h : F_wide_low n1 = some r) : PCon Tryz.prog 299 [rd (kint .i64) n1] (rd ku64 r) := by
  refine PCon.of (Con.intro0 Tryz.func299 rfl Tryz.ntmps299 rfl fun w H => ?_)
  unfold F_wide_low at h
  refine SR <| Ac (op_assign (A := rd ku64 (0 : BitVec 64)) rfl rfl (vku (0 : BitVec 64) rfl)) rfl <| Nl <| AW.seq <| SR <| Md rfl <| Ac (op_geq rfl rfl (vt rfl) (vk rfl)) rfl <| Nl <| Cn rfl (fun hc => ?_) (fun hc => ?_)
  · have h := cond_t hc h
    refine SR <| Ac (op_assign (A := rd ku64 (18446744073709551615 : BitVec 64)) rfl rfl (vku (18446744073709551615 : BitVec 64) rfl)) rfl <| Nl <| AW.ret ?_
    obtain rfl := si h
    exact ret1 Tryz.results299 rfl (out_tmp rfl)
  · have h := cond_f hc h
    refine AW.skip <| AW.seq ?_
    obtain ⟨q2, hq2, h⟩ := bsome h
    refine Rg <| Md rfl <| Ac (op_max rfl rfl (vt rfl) (vk rfl)) rfl <| Ac (op_ushl rfl rfl (vku (1 : BitVec 64) rfl) (vt rfl) hq2) rfl <| Ac (op_usub rfl rfl (vt rfl) (vku (1 : BitVec 64) rfl)) rfl <| As rfl <| Nl <| AW.ret ?_
    obtain rfl := si h
    exact ret1 Tryz.results299 rfl (out_tmp rfl)
def F_wide_Low (n1 : Int) : Option Wide :=
  (F_wide_low (IntKind.i64.wrap ((imin (imax n1 0) 128) - 64))).bind fun x3 => (F_wide_low (imin (imax n1 0) 128)).bind fun x4 => some (⟨x3, x4⟩ : Wide)
theorem c_wide_Low (n1 : Int) (r : Wide) (h : F_wide_Low n1 = some r) : PCon Tryz.prog 254 [rd (kint .i64) n1] (rd kWide r) := by
  refine PCon.of (Con.intro0 Tryz.func254 rfl Tryz.ntmps254 rfl fun w H => ?_)
  unfold F_wide_Low at h
  refine SR <| Ct rfl (op_alloc 3 rfl rfl zr42) ?_
  rintro _ ⟨g2, rfl⟩
  refine Nl <| SR <| Md rfl <| Ac (op_max rfl rfl (vt rfl) (vk rfl)) rfl <| Ac (op_min rfl rfl (vt rfl) (vk rfl)) rfl <| As rfl <| Nl <| AW.seq ?_
  obtain ⟨x3, hx3, h⟩ := bsome h
  obtain ⟨x4, hx4, h⟩ := bsome h
  refine Rg <| Md rfl <| Ac (op_sub rfl rfl (vt rfl) (vk rfl)) rfl <| Cl [7] (c_wide_low _ _ hx3) e299 rfl <| Md rfl <| Cl [9] (c_wide_low _ _ hx4) e299 rfl <| Ac (op_build (ps := [(0, .tmp 8), (1, .tmp 10)]) (x := (⟨x3, x4⟩ : Wide)) rfl rfl rfl (by kernel_rfl) zr42 ⟨_, _, lWide_0, _, by kernel_rfl, (vt rfl), _, _, lWide_1, _, by kernel_rfl, (vt rfl), rfl⟩) rfl <| Sto ty42 3 rfl <| Nl <| AW.ret ?_
  obtain rfl := si h
  exact ret1 Tryz.results254 rfl (out_cell rfl (i := 3) rfl ty42)
end Go.Proofs.YtknpgojdkobgjaaGreat.W
set_option linter.unusedVariables false
set_option maxRecDepth 4000
set_option linter.unusedSimpArgs false
namespace Go.Proofs.YtknpgojdkobgjaaGreat.W
open Go Go.Wb
theorem e312 : Ent Tryz.prog 312 := Ent.mk Tryz.func312 rfl rfl
theorem e254 : Ent Tryz.prog 254 := Ent.mk Tryz.func254 rfl rfl
theorem e73 : Ent Tryz.prog 73 := Ent.mk Tryz.func73 rfl rfl
theorem e275 : Ent Tryz.prog 275 := Ent.mk Tryz.func275 rfl rfl
theorem e177 : Ent Tryz.prog 177 := Ent.mk Tryz.func177 rfl rfl
theorem e127 : Ent Tryz.prog 127 := Ent.mk Tryz.func127 rfl rfl
theorem e197 : Ent Tryz.prog 197 := Ent.mk Tryz.func197 rfl rfl
theorem e196 : Ent Tryz.prog 196 := Ent.mk Tryz.func196 rfl rfl
theorem e229 : Ent Tryz.prog 229 := Ent.mk Tryz.func229 rfl rfl
theorem e126 : Ent Tryz.prog 126 := Ent.mk Tryz.func126 rfl rfl
def F_oxm_Tern (o1 : Oxm) : Option Tern :=
  (F_field_Right o1.Field).bind fun x4 => (bif (!x4) then some (⟨zWide, zWide⟩ : Tern) else (bif o1.Masked then some (⟨o1.Value, o1.Mask⟩ : Tern) else (F_field_Bits o1.Field).bind fun x5 => (F_wide_Low x5).bind fun x6 => some (⟨o1.Value, x6⟩ : Tern)))
theorem c_oxm_Tern (o1 : Oxm) (r : Tern) (h : F_oxm_Tern o1 = some r) : PCon Tryz.prog 275 [rd kOxm o1] (rd kTern r) := by
  refine PCon.of (Con.intro0 Tryz.func275 rfl Tryz.ntmps275 rfl fun w H => ?_)
  unfold F_oxm_Tern at h
  refine SR <| Ct rfl (op_box 2 rfl rfl (vt rfl)) ?_
  rintro _ ⟨g2, rfl⟩
  refine Ct rfl (op_alloc 3 rfl rfl zr85) ?_
  rintro _ ⟨g3, rfl⟩
  refine Nl <| AW.seq <| AW.block <| AW.seq ?_
  obtain ⟨x4, hx4, h⟩ := bsome h
  refine Rg <| FdA lOxm_0 fl119_0 rfl <| Ld ty3 2 rfl <| Cl [5] (c_field_Right _ _ hx4) e269 rfl <| Ac (op_not rfl rfl (vt rfl)) rfl <| As rfl <| Nl <| Cn rfl (fun hc => ?_) (fun hc => ?_)
  · have h := cond_t hc h
    refine SR <| Ac (op_build (ps := []) (x := (⟨zWide, zWide⟩ : Tern)) rfl rfl rfl (by kernel_rfl) zr85 rfl) rfl <| Sto ty85 3 rfl <| Nl <| AW.ret ?_
    obtain rfl := si h
    exact ret1 Tryz.results275 rfl (out_cell rfl (i := 3) rfl ty85)
  · have h := cond_f hc h
    refine SR <| FdA lOxm_1 fl119_1 rfl <| Ld ty4 2 rfl <| As rfl <| Nl <| Cn rfl (fun hc => ?_) (fun hc => ?_)
    · have h := cond_t hc h
      refine SR <| FdA lOxm_2 fl119_2 rfl <| Ld ty42 2 rfl <| FdA lOxm_3 fl119_3 rfl <| Ld ty42 2 rfl <| Ac (op_build (ps := [(0, .tmp 13), (1, .tmp 15)]) (x := (⟨o1.Value, o1.Mask⟩ : Tern)) rfl rfl rfl (by kernel_rfl) zr85 ⟨_, _, lTern_0, _, by kernel_rfl, (vt rfl), _, _, lTern_1, _, by kernel_rfl, (vt rfl), rfl⟩) rfl <| Sto ty85 3 rfl <| Nl <| AW.ret ?_
      obtain rfl := si h
      exact ret1 Tryz.results275 rfl (out_cell rfl (i := 3) rfl ty85)
    · have h := cond_f hc h
      refine AW.skip <| AW.seq ?_
      obtain ⟨x5, hx5, h⟩ := bsome h
      obtain ⟨x6, hx6, h⟩ := bsome h
      refine AW.regionAny [⟨[1], [17], [], []⟩, ⟨[17], [18], [2], []⟩, ⟨[1], [19], [], []⟩, ⟨[19], [20], [2], []⟩, ⟨[20], [21], [], []⟩, ⟨[21], [22], [], []⟩, ⟨[18, 22], [23], [], []⟩, ⟨[2, 23], [], [3], [3]⟩] mixed (by kernel_rfl) <| SFd lOxm_2 fl119_2 rfl <| SLd ty42 2 rfl <| SFd lOxm_0 fl119_0 rfl <| SLd ty3 2 rfl <| SCl [20] (c_field_Bits _ _ hx5) e312 rfl <| SCl [21] (c_wide_Low _ _ hx6) e254 rfl <| Sc (lo [18, 22] [] rfl fun S hs hr => op_build (ps := [(0, .tmp 18), (1, .tmp 22)]) (x := (⟨o1.Value, x6⟩ : Tern)) rfl rfl rfl (by kernel_rfl) zr85 ⟨_, _, lTern_0, _, by kernel_rfl, (vh hs 18 rfl rfl), _, _, lTern_1, _, by kernel_rfl, (vh hs 22 rfl rfl), rfl⟩) rfl <| SSt ty85 3 rfl <| AW.ret ?_
      obtain rfl := si h
      exact ret1 Tryz.results275 rfl (out_cell rfl (i := 3) rfl ty85)
def F_match_Cube_l1 : (List Oxm) → Nat → (Vector Tern 24) → Option (Vector Tern 24)
  | [], i7, b6 => some b6
  | x9 :: l8, i7, b6 => (F_field_Right x9.Field).bind fun x11 => (bif x11 then (F_oxm_Tern x9).bind fun x12 => (chk 24 x9.Field).bind fun j13 => (F_match_Cube_l1 l8) (i7 + 1) (Vector.set b6 j13.1 x12 j13.2) else (F_match_Cube_l1 l8) (i7 + 1) b6)
def F_match_Cube (l1 : (List Oxm)) : Option (Vector Tern 24) :=
  (F_cube_All).bind fun x3 => F_match_Cube_l1 l1 0 x3
theorem c_match_Cube (l1 : (List Oxm)) (r : (Vector Tern 24)) (h : F_match_Cube l1 = some r) : PCon Tryz.prog 229 [rd (ksl kOxm) l1] (rd (karr 24 kTern) r) := by
  refine PCon.of (Con.intro0 Tryz.func229 rfl Tryz.ntmps229 rfl fun w H => ?_)
  unfold F_match_Cube at h
  refine SR <| Ct rfl (op_alloc 3 rfl rfl zr87) ?_
  rintro _ ⟨g2, rfl⟩
  refine Nl <| AW.seq ?_
  obtain ⟨x3, hx3, h⟩ := bsome h
  refine Rg <| Cl [] (c_cube_All _ hx3) e73 rfl <| Ct rfl (op_alloc 4 rfl rfl zr87) ?_
  rintro _ ⟨g4, rfl⟩
  refine Sto ty87 4 rfl <| Nl <| AW.seq <| SR <| Md rfl <| Ac (op_len' rfl rfl sl58 (vt rfl)) rfl <| Mk rfl <| Nl <| AW.block <| AW.loopG (d := []) (ν := (List Oxm) × Nat × (Vector Tern 24)) (fun n => Sfx l1 n.2.1 n.1 ∧ F_match_Cube_l1 n.1 n.2.1 n.2.2 = some r) (fun n => n.1.length) (fun n => [(2, ptrL g2 (Lens.id (karr 24 kTern))), (3, ptrL g4 (Lens.id (karr 24 kTern))), (7, rd (ksl kOxm) l1), (8, rd (kint .i64) (l1.length : Int)), (9, rd (kint .i64) (n.2.1 : Int))]) (fun n => [(3, Blk g2 87 (karr 24 kTern) (Vector.replicate 24 zTern)), (4, Blk g4 87 (karr 24 kTern) n.2.2)]) (l1, 0, x3) ⟨Sfx.start _, h⟩ ⟨rfl, ⟨rfl, rfl, rfl, rfl, rfl, trivial⟩, ⟨rfl, rfl, trivial⟩⟩ ?_
  rintro ⟨l8, i7, b6⟩ ⟨hsf1, h⟩
  change Sfx l1 i7 l8 at hsf1
  change F_match_Cube_l1 l8 i7 b6 = some r at h
  change AW _ _ _ ⟨slots [(2, ptrL g2 (Lens.id (karr 24 kTern))), (3, ptrL g4 (Lens.id (karr 24 kTern))), (7, rd (ksl kOxm) l1), (8, rd (kint .i64) (l1.length : Int)), (9, rd (kint .i64) (i7 : Int))], ress [(3, Blk g2 87 (karr 24 kTern) (Vector.replicate 24 zTern)), (4, Blk g4 87 (karr 24 kTern) b6)], _⟩
  cases l8 with
  | nil =>
    unfold F_match_Cube_l1 at h
    refine SR <| Ac (op_lss rfl rfl (vt rfl) (vt rfl)) rfl <| Nl <| AW.seq <| Cn rfl (fun hc => absurd (of_decide_eq_true hc) hsf1.nil) (fun hc => ?_)
    refine AW.exit <| SR <| Ld ty87 4 rfl <| Sto ty87 3 rfl <| Nl <| AW.ret ?_
    obtain rfl := si h
    exact ret1 Tryz.results229 rfl (out_cell rfl (i := 3) rfl ty87)
  | cons x9 l8 =>
    unfold F_match_Cube_l1 at h
    generalize hgo1 : F_match_Cube_l1 l8 = go1 at h
    refine SR <| Ac (op_lss rfl rfl (vt rfl) (vt rfl)) rfl <| Nl <| AW.seq <| Cn rfl (fun hc => ?_) (fun hc => absurd hsf1.cons (of_decide_eq_false hc))
    have hlti7 := of_decide_eq_true hc
    refine AW.skip <| AW.seq <| AW.block <| SR <| Ac (op_indexs' rfl rfl sl58 (vt rfl) (vt rfl) hsf1.lget) rfl <| Lp1 ty119 rfl <| Ct rfl (op_alloc 6 rfl rfl zr119) ?_
    rintro _ ⟨g10, rfl⟩
    refine Sto ty119 6 rfl <| Nl <| AW.seq ?_
    obtain ⟨x11, hx11, h⟩ := bsome h
    refine Rg <| FdA lOxm_0 fl119_0 rfl <| Ld ty3 6 rfl <| Cl [14] (c_field_Right _ _ hx11) e269 rfl <| Nl <| Cn rfl (fun hc => ?_) (fun hc => ?_)
    · have h := cond_t hc h
      obtain ⟨x12, hx12, h⟩ := bsome h
      obtain ⟨j13, hj13, h⟩ := bsome h
      refine AW.regionAny [⟨[5], [16], [], []⟩, ⟨[16], [17], [6], []⟩, ⟨[5], [18], [6], []⟩, ⟨[18], [19], [], []⟩, ⟨[3, 17], [20], [], []⟩, ⟨[20, 19], [], [4], [4]⟩] mixed (by kernel_rfl) <| SFd lOxm_0 fl119_0 rfl <| SLd ty3 6 rfl <| SLd ty119 6 rfl <| SCl [18] (c_oxm_Tern _ _ hx12) e275 rfl <| Sc (lo [3, 17] [] rfl fun S hs hr => op_index' rfl rfl ar87 (vh hs 3 rfl rfl) (vh hs 17 rfl rfl) hj13) rfl <| SSt ty85 4 rfl <| Rg <| Ac (op_incr (t := 8) rfl rfl (vt rfl) (vk rfl) (vt rfl) hlti7) rfl <| Md rfl <| Nl ?_
      subst hgo1
      exact ⟨(l8, i7 + 1, (Vector.set b6 j13.1 x12 j13.2)), Nat.lt_succ_self _, ⟨hsf1.next, h⟩, ⟨rfl, ⟨rfl, rfl, rfl, rfl, rfl, trivial⟩, ⟨rfl, rfl, trivial⟩⟩⟩
    · have h := cond_f hc h
      refine AW.skip <| Rg <| Ac (op_incr (t := 8) rfl rfl (vt rfl) (vk rfl) (vt rfl) hlti7) rfl <| Md rfl <| Nl ?_
      subst hgo1
      exact ⟨(l8, i7 + 1, b6), Nat.lt_succ_self _, ⟨hsf1.next, h⟩, ⟨rfl, ⟨rfl, rfl, rfl, rfl, rfl, trivial⟩, ⟨rfl, rfl, trivial⟩⟩⟩
def F_wide_And (a1 : Wide) (b2 : Wide) : Option Wide :=
  some (⟨(a1.Hi &&& b2.Hi), (a1.Lo &&& b2.Lo)⟩ : Wide)
theorem c_wide_And (a1 : Wide) (b2 : Wide) (r : Wide) (h : F_wide_And a1 b2 = some r) : PCon Tryz.prog 177 [rd kWide a1, rd kWide b2] (rd kWide r) := by
  refine PCon.of (Con.intro0 Tryz.func177 rfl Tryz.ntmps177 rfl fun w H => ?_)
  unfold F_wide_And at h
  refine SR <| Ct rfl (op_box 3 rfl rfl (vt rfl)) ?_
  rintro _ ⟨g3, rfl⟩
  refine Ct rfl (op_box 4 rfl rfl (vt rfl)) ?_
  rintro _ ⟨g4, rfl⟩
  refine Ct rfl (op_alloc 5 rfl rfl zr42) ?_
  rintro _ ⟨g5, rfl⟩
  refine Nl <| SR <| FdA lWide_0 fl42_0 rfl <| Ld ty40 3 rfl <| FdA lWide_0 fl42_0 rfl <| Ld ty40 4 rfl <| Ac (op_and rfl rfl (vt rfl) (vt rfl)) rfl <| FdA lWide_1 fl42_1 rfl <| Ld ty40 3 rfl <| FdA lWide_1 fl42_1 rfl <| Ld ty40 4 rfl <| Ac (op_and rfl rfl (vt rfl) (vt rfl)) rfl <| Ac (op_build (ps := [(0, .tmp 9), (1, .tmp 14)]) (x := (⟨(a1.Hi &&& b2.Hi), (a1.Lo &&& b2.Lo)⟩ : Wide)) rfl rfl rfl (by kernel_rfl) zr42 ⟨_, _, lWide_0, _, by kernel_rfl, (vt rfl), _, _, lWide_1, _, by kernel_rfl, (vt rfl), rfl⟩) rfl <| Sto ty42 5 rfl <| Nl <| AW.ret ?_
  obtain rfl := si h
  exact ret1 Tryz.results177 rfl (out_cell rfl (i := 5) rfl ty42)
def F_tern_Clean (t1 : Tern) : Option Tern :=
  (F_wide_And t1.Value t1.Mask).bind fun x4 => some (⟨x4, t1.Mask⟩ : Tern)
theorem c_tern_Clean (t1 : Tern) (r : Tern) (h : F_tern_Clean t1 = some r) : PCon Tryz.prog 127 [rd kTern t1] (rd kTern r) := by
  refine PCon.of (Con.intro0 Tryz.func127 rfl Tryz.ntmps127 rfl fun w H => ?_)
  unfold F_tern_Clean at h
  refine SR <| Ct rfl (op_box 2 rfl rfl (vt rfl)) ?_
  rintro _ ⟨g2, rfl⟩
  refine Ct rfl (op_alloc 3 rfl rfl zr85) ?_
  rintro _ ⟨g3, rfl⟩
  refine Nl <| AW.seq ?_
  obtain ⟨x4, hx4, h⟩ := bsome h
  refine AW.regionAny [⟨[1], [3], [], []⟩, ⟨[3], [4], [2], []⟩, ⟨[1], [5], [], []⟩, ⟨[5], [6], [2], []⟩, ⟨[4, 6], [7], [], []⟩, ⟨[1], [8], [], []⟩, ⟨[8], [9], [2], []⟩, ⟨[7, 9], [10], [], []⟩, ⟨[2, 10], [], [3], [3]⟩] mixed (by kernel_rfl) <| SFd lTern_0 fl85_0 rfl <| SLd ty42 2 rfl <| SFd lTern_1 fl85_1 rfl <| SLd ty42 2 rfl <| SCl [4, 6] (c_wide_And _ _ _ hx4) e177 rfl <| SFd lTern_1 fl85_1 rfl <| SLd ty42 2 rfl <| Sc (lo [7, 9] [] rfl fun S hs hr => op_build (ps := [(0, .tmp 7), (1, .tmp 9)]) (x := (⟨x4, t1.Mask⟩ : Tern)) rfl rfl rfl (by kernel_rfl) zr85 ⟨_, _, lTern_0, _, by kernel_rfl, (vh hs 7 rfl rfl), _, _, lTern_1, _, by kernel_rfl, (vh hs 9 rfl rfl), rfl⟩) rfl <| SSt ty85 3 rfl <| AW.ret ?_
  obtain rfl := si h
  exact ret1 Tryz.results127 rfl (out_cell rfl (i := 3) rfl ty85)
def F_cube_Clean_1 (i1 : Int) (cp2 : (Vector Tern 24)) : Option (Tern × Bool) :=
  (chk 24 i1).bind fun j4 => (F_tern_Clean (Vector.get cp2 j4)).bind fun x5 => some (x5, true)
theorem c_cube_Clean_1 (i1 : Int) (cp2 : (Vector Tern 24)) (r : (Tern × Bool)) (h : F_cube_Clean_1 i1 cp2 = some r) : PCon Tryz.prog 197 [rd (kint .i64) i1, rp (karr 24 kTern) cp2] (tup2 (rd kTern r.1) (rd kbool r.2)) := by
  refine PCon.of (Con.intro0 Tryz.func197 rfl Tryz.ntmps197 rfl fun w H => ?_)
  unfold F_cube_Clean_1 at h
  refine SR <| Ct rfl (op_alloc 4 rfl rfl zr85) ?_
  rintro _ ⟨g3, rfl⟩
  refine Ab rfl <| Nl <| AW.seq ?_
  obtain ⟨j4, hj4, h⟩ := bsome h
  obtain ⟨x5, hx5, h⟩ := bsome h
  refine Rg <| Md rfl <| Ac (op_indexp' rfl rfl ar87 (vt rfl) (vt rfl) hj4) rfl <| Lp1 ty85 rfl <| Cl [7] (c_tern_Clean _ _ hx5) e127 rfl <| Sto ty85 4 rfl <| Ab rfl <| Nl <| AW.ret ?_
  obtain rfl := si h
  exact ret2 Tryz.results197 rfl (out_cell rfl (i := 4) rfl ty85) (out_tmp rfl)
def F_cube_each_l1 (f1 : (Int → Option (Tern × Bool))) : Nat → Nat → (Vector Tern 24) → Option ((Vector Tern 24) × Bool)
  | 0, i6, b5 => some (b5, true)
  | m7 + 1, i6, b5 => (f1 (i6 : Int)).bind fun x8 => (bif (!x8.2) then some ((Vector.replicate 24 zTern), false) else (chk 24 (i6 : Int)).bind fun j10 => (F_cube_each_l1 f1 m7) (i6 + 1) (Vector.set b5 j10.1 x8.1 j10.2))
def F_cube_each (f1 : (Int → Option (Tern × Bool))) : Option ((Vector Tern 24) × Bool) :=
  F_cube_each_l1 f1 (24 : Int).toNat 0 (Vector.replicate 24 zTern)
theorem c_cube_each (f1 : (Int → Option (Tern × Bool))) (r : ((Vector Tern 24) × Bool)) (h : F_cube_each f1 = some r) : PCon Tryz.prog 196 [fa1 Tryz.prog (kint .i64) (fun (y : (Tern × Bool)) => tup2 (rd kTern y.1) (rd kbool y.2)) f1] (tup2 (rd (karr 24 kTern) r.1) (rd kbool r.2)) := by
  refine PCon.of (Con.intro0 Tryz.func196 rfl Tryz.ntmps196 rfl fun w H => ?_)
  unfold F_cube_each at h
  refine SR <| Ct rfl (op_alloc 3 rfl rfl zr87) ?_
  rintro _ ⟨g2, rfl⟩
  refine Ab rfl <| Nl <| SR <| Ct rfl (op_alloc 5 rfl rfl zr87) ?_
  rintro _ ⟨g3, rfl⟩
  refine Nl <| AW.seq <| SR <| Mk rfl <| Nl <| AW.block <| AW.loopG (d := []) (ν := Nat × Nat × (Vector Tern 24)) (fun n => Cnt 24 n.2.1 n.1 ∧ F_cube_each_l1 f1 n.1 n.2.1 n.2.2 = some r) (fun n => n.1) (fun n => [(0, fa1 Tryz.prog (kint .i64) (fun (y : (Tern × Bool)) => tup2 (rd kTern y.1) (rd kbool y.2)) f1), (2, ptrL g2 (Lens.id (karr 24 kTern))), (4, ptrL g3 (Lens.id (karr 24 kTern))), (8, rd (kint .i64) (n.2.1 : Int))]) (fun n => [(3, Blk g2 87 (karr 24 kTern) (Vector.replicate 24 zTern)), (5, Blk g3 87 (karr 24 kTern) n.2.2)]) ((24 : Int).toNat, 0, (Vector.replicate 24 zTern)) ⟨Cnt.start _, h⟩ ⟨rfl, ⟨rfl, rfl, rfl, rfl, trivial⟩, ⟨rfl, rfl, trivial⟩⟩ ?_
  rintro ⟨m7, i6, b5⟩ ⟨hsf1, h⟩
  change Cnt 24 i6 m7 at hsf1
  change F_cube_each_l1 f1 m7 i6 b5 = some r at h
  change AW _ _ _ ⟨slots [(0, fa1 Tryz.prog (kint .i64) (fun (y : (Tern × Bool)) => tup2 (rd kTern y.1) (rd kbool y.2)) f1), (2, ptrL g2 (Lens.id (karr 24 kTern))), (4, ptrL g3 (Lens.id (karr 24 kTern))), (8, rd (kint .i64) (i6 : Int))], ress [(3, Blk g2 87 (karr 24 kTern) (Vector.replicate 24 zTern)), (5, Blk g3 87 (karr 24 kTern) b5)], _⟩
  cases m7 with
  | zero =>
    unfold F_cube_each_l1 at h
    refine SR <| Ac (op_lss rfl rfl (vt rfl) (vk rfl)) rfl <| Nl <| AW.seq <| Cn rfl (fun hc => absurd (of_decide_eq_true hc) hsf1.zero) (fun hc => ?_)
    refine AW.exit <| SR <| Ld ty87 5 rfl <| Sto ty87 3 rfl <| Ab rfl <| Nl <| AW.ret ?_
    obtain rfl := si h
    exact ret2 Tryz.results196 rfl (out_cell rfl (i := 3) rfl ty87) (out_tmp rfl)
  | succ m7 =>
    unfold F_cube_each_l1 at h
    generalize hgo1 : F_cube_each_l1 f1 m7 = go1 at h
    refine SR <| Ac (op_lss rfl rfl (vt rfl) (vk rfl)) rfl <| Nl <| AW.seq <| Cn rfl (fun hc => ?_) (fun hc => absurd hsf1.succ (of_decide_eq_false hc))
    have hlti6 := of_decide_eq_true hc
    refine AW.skip <| AW.seq <| AW.block <| SR <| Md rfl <| As rfl <| Nl <| AW.seq ?_
    obtain ⟨x8, hx8, h⟩ := bsome h
    refine Rg <| Ac (op_move (A := fa1 Tryz.prog (kint .i64) (fun (y : (Tern × Bool)) => tup2 (rd kTern y.1) (rd kbool y.2)) f1) rfl rfl (vt rfl)) rfl <| Md rfl <| Ac (op_calla1 (B := (fun (y : (Tern × Bool)) => tup2 (rd kTern y.1) (rd kbool y.2))) hx8 rfl rfl (vt rfl) (vt rfl)) rfl <| Mt2 rfl <| Ac (op_fst rfl rfl (vt rfl)) rfl <| Ac (op_snd rfl rfl (vt rfl)) rfl <| Ct rfl (op_alloc 7 rfl rfl zr85) ?_
    rintro _ ⟨g9, rfl⟩
    refine Sto ty85 7 rfl <| As rfl <| Nl <| AW.seq <| SR <| Md rfl <| Ac (op_not rfl rfl (vt rfl)) rfl <| Nl <| Cn rfl (fun hc => ?_) (fun hc => ?_)
    · have h := cond_t hc h
      refine SR <| Ac (op_build (ps := []) (x := (Vector.replicate 24 zTern)) rfl rfl rfl (by kernel_rfl) zr87 rfl) rfl <| Sto ty87 3 rfl <| Ab rfl <| Nl <| AW.ret ?_
      obtain rfl := si h
      exact ret2 Tryz.results196 rfl (out_cell rfl (i := 3) rfl ty87) (out_tmp rfl)
    · have h := cond_f hc h
      refine AW.skip ?_
      obtain ⟨j10, hj10, h⟩ := bsome h
      refine Rg <| Md rfl <| Ld ty85 7 rfl <| Ac (op_index' rfl rfl ar87 (vt rfl) (vt rfl) hj10) rfl <| Sto ty85 5 rfl <| Nl <| Rg <| Ac (op_incrc rfl rfl (vt rfl) (vk rfl) rfl hlti6) rfl <| Md rfl <| Nl ?_
      subst hgo1
      exact ⟨(m7, i6 + 1, (Vector.set b5 j10.1 x8.1 j10.2)), Nat.lt_succ_self _, ⟨hsf1.next, h⟩, ⟨rfl, ⟨rfl, rfl, rfl, rfl, trivial⟩, ⟨rfl, rfl, trivial⟩⟩⟩
def F_cube_Clean (cu1 : (Vector Tern 24)) : Option (Vector Tern 24) :=
  (F_cube_each (fun x => F_cube_Clean_1 x cu1)).bind fun x4 => some x4.1
theorem c_cube_Clean (cu1 : (Vector Tern 24)) (r : (Vector Tern 24)) (h : F_cube_Clean cu1 = some r) : PCon Tryz.prog 126 [rd (karr 24 kTern) cu1] (rd (karr 24 kTern) r) := by
  refine PCon.of (Con.intro0 Tryz.func126 rfl Tryz.ntmps126 rfl fun w H => ?_)
  unfold F_cube_Clean at h
  refine SR <| Ct rfl (op_box 2 rfl rfl (vt rfl)) ?_
  rintro _ ⟨g2, rfl⟩
  refine Ct rfl (op_alloc 3 rfl rfl zr87) ?_
  rintro _ ⟨g3, rfl⟩
  refine Nl <| AW.seq <| AW.freezeB 1 2 rfl rfl rfl ?_
  obtain ⟨x4, hx4, h⟩ := bsome h
  refine Rg <| Ac (op_fa1 (fs := []) (FAs := []) (cs := [.tmp 1]) (CAs := [rp (karr 24 kTern) cu1]) (kx := (kint .i64)) (B := (fun (y : (Tern × Bool)) => tup2 (rd kTern y.1) (rd kbool y.2))) (fun x => F_cube_Clean_1 x cu1) rfl rfl e197 trivial ⟨vt rfl, trivial⟩ (fun x y h => c_cube_Clean_1 _ _ y h)) rfl <| Cl [6] (c_cube_each _ _ hx4) e196 rfl <| Mt2 rfl <| Ac (op_fst rfl rfl (vt rfl)) rfl <| Ac (op_snd rfl rfl (vt rfl)) rfl <| Ct rfl (op_alloc 4 rfl rfl zr87) ?_
  rintro _ ⟨g5, rfl⟩
  refine Sto ty87 4 rfl <| As rfl <| Nl <| SR <| Ld ty87 4 rfl <| Sto ty87 3 rfl <| Nl <| AW.ret ?_
  obtain rfl := si h
  exact ret1 Tryz.results126 rfl (out_cell rfl (i := 3) rfl ty87)
def F_flow_Cube (f1 : Flow) : Option (Vector Tern 24) :=
  (F_match_Cube f1.Match).bind fun x4 => (F_cube_Clean x4).bind fun x5 => some x5
theorem c_flow_Cube (f1 : Flow) (r : (Vector Tern 24)) (h : F_flow_Cube f1 = some r) : PCon Tryz.prog 157 [rd kFlow f1] (rd (karr 24 kTern) r) := by
  refine PCon.of (Con.intro0 Tryz.func157 rfl Tryz.ntmps157 rfl fun w H => ?_)
  unfold F_flow_Cube at h
  refine SR <| Ct rfl (op_box 2 rfl rfl (vt rfl)) ?_
  rintro _ ⟨g2, rfl⟩
  refine Ct rfl (op_alloc 3 rfl rfl zr87) ?_
  rintro _ ⟨g3, rfl⟩
  refine Nl <| AW.seq ?_
  obtain ⟨x4, hx4, h⟩ := bsome h
  obtain ⟨x5, hx5, h⟩ := bsome h
  refine Rg <| FdA lFlow_5 fl61_5 rfl <| Ld ty58 2 rfl <| Cl [4] (c_match_Cube _ _ hx4) e229 rfl <| Cl [5] (c_cube_Clean _ _ hx5) e126 rfl <| Sto ty87 3 rfl <| Nl <| AW.ret ?_
  obtain rfl := si h
  exact ret1 Tryz.results157 rfl (out_cell rfl (i := 3) rfl ty87)
def F_wide_Xor (a1 : Wide) (b2 : Wide) : Option Wide :=
  some (⟨(a1.Hi ^^^ b2.Hi), (a1.Lo ^^^ b2.Lo)⟩ : Wide)
theorem c_wide_Xor (a1 : Wide) (b2 : Wide) (r : Wide) (h : F_wide_Xor a1 b2 = some r) : PCon Tryz.prog 237 [rd kWide a1, rd kWide b2] (rd kWide r) := by
  refine PCon.of (Con.intro0 Tryz.func237 rfl Tryz.ntmps237 rfl fun w H => ?_)
  unfold F_wide_Xor at h
  refine SR <| Ct rfl (op_box 3 rfl rfl (vt rfl)) ?_
  rintro _ ⟨g3, rfl⟩
  refine Ct rfl (op_box 4 rfl rfl (vt rfl)) ?_
  rintro _ ⟨g4, rfl⟩
  refine Ct rfl (op_alloc 5 rfl rfl zr42) ?_
  rintro _ ⟨g5, rfl⟩
  refine Nl <| SR <| FdA lWide_0 fl42_0 rfl <| Ld ty40 3 rfl <| FdA lWide_0 fl42_0 rfl <| Ld ty40 4 rfl <| Ac (op_xor rfl rfl (vt rfl) (vt rfl)) rfl <| FdA lWide_1 fl42_1 rfl <| Ld ty40 3 rfl <| FdA lWide_1 fl42_1 rfl <| Ld ty40 4 rfl <| Ac (op_xor rfl rfl (vt rfl) (vt rfl)) rfl <| Ac (op_build (ps := [(0, .tmp 9), (1, .tmp 14)]) (x := (⟨(a1.Hi ^^^ b2.Hi), (a1.Lo ^^^ b2.Lo)⟩ : Wide)) rfl rfl rfl (by kernel_rfl) zr42 ⟨_, _, lWide_0, _, by kernel_rfl, (vt rfl), _, _, lWide_1, _, by kernel_rfl, (vt rfl), rfl⟩) rfl <| Sto ty42 5 rfl <| Nl <| AW.ret ?_
  obtain rfl := si h
  exact ret1 Tryz.results237 rfl (out_cell rfl (i := 5) rfl ty42)
end Go.Proofs.YtknpgojdkobgjaaGreat.W
set_option linter.unusedVariables false
set_option maxRecDepth 4000
set_option linter.unusedSimpArgs false
namespace Go.Proofs.YtknpgojdkobgjaaGreat.W
open Go Go.Wb
theorem e237 : Ent Tryz.prog 237 := Ent.mk Tryz.func237 rfl rfl
theorem e174 : Ent Tryz.prog 174 := Ent.mk Tryz.func174 rfl rfl
theorem e173 : Ent Tryz.prog 173 := Ent.mk Tryz.func173 rfl rfl
theorem e106 : Ent Tryz.prog 106 := Ent.mk Tryz.func106 rfl rfl
theorem e135 : Ent Tryz.prog 135 := Ent.mk Tryz.func135 rfl rfl
theorem e157 : Ent Tryz.prog 157 := Ent.mk Tryz.func157 rfl rfl
theorem e50 : Ent Tryz.prog 50 := Ent.mk Tryz.func50 rfl rfl
theorem e156 : Ent Tryz.prog 156 := Ent.mk Tryz.func156 rfl rfl
theorem e88 : Ent Tryz.prog 88 := Ent.mk Tryz.func88 rfl rfl
def F_tern_unlike (a1 : Wide) (b2 : Wide) (mask3 : Wide) : Option Wide :=
  (F_wide_Xor a1 b2).bind fun x8 => (F_wide_And x8 mask3).bind fun x9 => some x9
theorem c_tern_unlike (a1 : Wide) (b2 : Wide) (mask3 : Wide) (r : Wide) (h : F_tern_unlike a1 b2 mask3 = some r) : PCon Tryz.prog 174 [rd kWide a1, rd kWide b2, rd kWide mask3] (rd kWide r) := by
  refine PCon.of (Con.intro0 Tryz.func174 rfl Tryz.ntmps174 rfl fun w H => ?_)
  unfold F_tern_unlike at h
  refine SR <| Ct rfl (op_box 4 rfl rfl (vt rfl)) ?_
  rintro _ ⟨g4, rfl⟩
  refine Ct rfl (op_box 5 rfl rfl (vt rfl)) ?_
  rintro _ ⟨g5, rfl⟩
  refine Ct rfl (op_box 6 rfl rfl (vt rfl)) ?_
  rintro _ ⟨g6, rfl⟩
  refine Ct rfl (op_alloc 7 rfl rfl zr42) ?_
  rintro _ ⟨g7, rfl⟩
  refine Nl <| AW.seq ?_
  obtain ⟨x8, hx8, h⟩ := bsome h
  obtain ⟨x9, hx9, h⟩ := bsome h
  refine AW.regionAny [⟨[3], [7], [4], []⟩, ⟨[4], [8], [5], []⟩, ⟨[7, 8], [9], [], []⟩, ⟨[5], [10], [6], []⟩, ⟨[9, 10], [11], [], []⟩, ⟨[6, 11], [], [7], [7]⟩] mixed (by kernel_rfl) <| SLd ty42 4 rfl <| SLd ty42 5 rfl <| SCl [7, 8] (c_wide_Xor _ _ _ hx8) e237 rfl <| SLd ty42 6 rfl <| SCl [9, 10] (c_wide_And _ _ _ hx9) e177 rfl <| SSt ty42 7 rfl <| AW.ret ?_
  obtain rfl := si h
  exact ret1 Tryz.results174 rfl (out_cell rfl (i := 7) rfl ty42)
def F_wide_Zero (a1 : Wide) : Option Bool :=
  some (decide ((a1.Hi ||| a1.Lo) = (0 : BitVec 64)))
theorem c_wide_Zero (a1 : Wide) (r : Bool) (h : F_wide_Zero a1 = some r) : PCon Tryz.prog 173 [rd kWide a1] (rd kbool r) := by
  refine PCon.of (Con.intro0 Tryz.func173 rfl Tryz.ntmps173 rfl fun w H => ?_)
  unfold F_wide_Zero at h
  refine SR <| Ct rfl (op_box 2 rfl rfl (vt rfl)) ?_
  rintro _ ⟨g2, rfl⟩
  refine Ab rfl <| Nl <| SR <| FdA lWide_0 fl42_0 rfl <| Ld ty40 2 rfl <| FdA lWide_1 fl42_1 rfl <| Ld ty40 2 rfl <| Ac (op_or rfl rfl (vt rfl) (vt rfl)) rfl <| Ac (op_eqlu rfl rfl (vt rfl) (vku (0 : BitVec 64) rfl)) rfl <| As rfl <| Nl <| AW.ret ?_
  obtain rfl := si h
  exact ret1 Tryz.results173 rfl (out_tmp rfl)
def F_tern_Has (t1 : Tern) (v2 : Wide) : Option Bool :=
  (F_tern_unlike t1.Value v2 t1.Mask).bind fun x5 => (F_wide_Zero x5).bind fun x6 => some x6
theorem c_tern_Has (t1 : Tern) (v2 : Wide) (r : Bool) (h : F_tern_Has t1 v2 = some r) : PCon Tryz.prog 106 [rd kTern t1, rd kWide v2] (rd kbool r) := by
  refine PCon.of (Con.intro0 Tryz.func106 rfl Tryz.ntmps106 rfl fun w H => ?_)
  unfold F_tern_Has at h
  refine SR <| Ct rfl (op_box 3 rfl rfl (vt rfl)) ?_
  rintro _ ⟨g3, rfl⟩
  refine Ct rfl (op_box 4 rfl rfl (vt rfl)) ?_
  rintro _ ⟨g4, rfl⟩
  refine Ab rfl <| Nl <| AW.seq ?_
  obtain ⟨x5, hx5, h⟩ := bsome h
  obtain ⟨x6, hx6, h⟩ := bsome h
  refine Rg <| FdA lTern_0 fl85_0 rfl <| Ld ty42 3 rfl <| Ld ty42 4 rfl <| FdA lTern_1 fl85_1 rfl <| Ld ty42 3 rfl <| Cl [6, 7, 9] (c_tern_unlike _ _ _ _ hx5) e174 rfl <| Cl [10] (c_wide_Zero _ _ hx6) e173 rfl <| As rfl <| Nl <| AW.ret ?_
  obtain rfl := si h
  exact ret1 Tryz.results106 rfl (out_tmp rfl)
def F_cube_Has_l1 (h2 : (Vector Wide 24)) : (List Tern) → Nat → Option Bool
  | [], i5 => some true
  | x7 :: l6, i5 => (chk 24 (i5 : Int)).bind fun j9 => (F_tern_Has x7 (Vector.get h2 j9)).bind fun x10 => (bif (!x10) then some false else (F_cube_Has_l1 h2 l6) (i5 + 1))
def F_cube_Has (cu1 : (Vector Tern 24)) (h2 : (Vector Wide 24)) : Option Bool :=
  F_cube_Has_l1 h2 (Vector.toList cu1) 0
theorem c_cube_Has (cu1 : (Vector Tern 24)) (h2 : (Vector Wide 24)) (r : Bool) (h : F_cube_Has cu1 h2 = some r) : PCon Tryz.prog 50 [rd (karr 24 kTern) cu1, rd (karr 24 kWide) h2] (rd kbool r) := by
  refine PCon.of (Con.intro0 Tryz.func50 rfl Tryz.ntmps50 rfl fun w H => ?_)
  unfold F_cube_Has at h
  refine SR <| Ct rfl (op_box 3 rfl rfl (vt rfl)) ?_
  rintro _ ⟨g3, rfl⟩
  refine Ct rfl (op_box 4 rfl rfl (vt rfl)) ?_
  rintro _ ⟨g4, rfl⟩
  refine Ab rfl <| Nl <| AW.seq <| SR <| Ld ty87 3 rfl <| Mk rfl <| Nl <| AW.block <| AW.loopG (d := []) (ν := (List Tern) × Nat) (fun n => Sfx (Vector.toList cu1) n.2 n.1 ∧ F_cube_Has_l1 h2 n.1 n.2 = some r) (fun n => n.1.length) (fun n => [(3, ptrL g4 (Lens.id (karr 24 kWide))), (7, rd (karr 24 kTern) cu1), (8, rd (kint .i64) (n.2 : Int))]) (fun n => [(4, Blk g4 44 (karr 24 kWide) h2)]) ((Vector.toList cu1), 0) ⟨Sfx.start _, h⟩ ⟨rfl, ⟨rfl, rfl, rfl, trivial⟩, ⟨rfl, trivial⟩⟩ ?_
  rintro ⟨l6, i5⟩ ⟨hsf1, h⟩
  change Sfx (Vector.toList cu1) i5 l6 at hsf1
  change F_cube_Has_l1 h2 l6 i5 = some r at h
  change AW _ _ _ ⟨slots [(3, ptrL g4 (Lens.id (karr 24 kWide))), (7, rd (karr 24 kTern) cu1), (8, rd (kint .i64) (i5 : Int))], ress [(4, Blk g4 44 (karr 24 kWide) h2)], _⟩
  cases l6 with
  | nil =>
    unfold F_cube_Has_l1 at h
    refine SR <| Ac (op_lss rfl rfl (vt rfl) (vk rfl)) rfl <| Nl <| AW.seq <| Cn rfl (fun hc => absurd (of_decide_eq_true hc) (hsf1.niln (by simp))) (fun hc => ?_)
    refine AW.exit <| SR <| Ab rfl <| Nl <| AW.ret ?_
    obtain rfl := si h
    exact ret1 Tryz.results50 rfl (out_tmp rfl)
  | cons x7 l6 =>
    unfold F_cube_Has_l1 at h
    generalize hgo1 : F_cube_Has_l1 h2 l6 = go1 at h
    refine SR <| Ac (op_lss rfl rfl (vt rfl) (vk rfl)) rfl <| Nl <| AW.seq <| Cn rfl (fun hc => ?_) (fun hc => absurd (hsf1.consn (by simp)) (of_decide_eq_false hc))
    have hlti5 := of_decide_eq_true hc
    refine AW.skip <| AW.seq <| AW.block <| SR <| Md rfl <| Ac (op_indexv rfl rfl ar87 ty85 (vt rfl) (vt rfl) hsf1.lget) rfl <| Ct rfl (op_alloc 7 rfl rfl zr85) ?_
    rintro _ ⟨g8, rfl⟩
    refine As rfl <| Sto ty85 7 rfl <| Nl <| AW.seq ?_
    obtain ⟨j9, hj9, h⟩ := bsome h
    obtain ⟨x10, hx10, h⟩ := bsome h
    refine AW.regionAny [⟨[6], [12], [7], []⟩, ⟨[5], [13], [], []⟩, ⟨[3, 13], [14], [], []⟩, ⟨[14], [15], [4], []⟩, ⟨[12, 15], [16], [], []⟩, ⟨[16], [17], [], []⟩] mixed (by kernel_rfl) <| SLd ty85 7 rfl <| SMd rfl <| Sc (lo [3, 13] [] rfl fun S hs hr => op_index' rfl rfl ar44 (vh hs 3 rfl rfl) (vh hs 13 rfl rfl) hj9) rfl <| SLd ty42 4 rfl <| SCl [12, 15] (c_tern_Has _ _ _ hx10) e106 rfl <| Sc (lo [16] [] rfl fun S hs hr => op_not rfl rfl (vh hs 16 rfl rfl)) rfl <| Cn rfl (fun hc => ?_) (fun hc => ?_)
    · have h := cond_t hc h
      refine SR <| Ab rfl <| Nl <| AW.ret ?_
      obtain rfl := si h
      exact ret1 Tryz.results50 rfl (out_tmp rfl)
    · have h := cond_f hc h
      refine AW.skip <| Rg <| Ac (op_incrc rfl rfl (vt rfl) (vk rfl) rfl hlti5) rfl <| Md rfl <| Nl ?_
      subst hgo1
      exact ⟨(l6, i5 + 1), Nat.lt_succ_self _, ⟨hsf1.next, h⟩, ⟨rfl, ⟨rfl, rfl, rfl, trivial⟩, ⟨rfl, trivial⟩⟩⟩
def F_first_All_1_l1 (sg : Type) (cp3 : (List Flow)) (cp4 : (Vector Wide 24)) (yield1 : (sg → Int → Option (Lp sg))) : (List Int) → Nat → (Lp sg) → Option (Lp sg)
  | [], i8, s7 => some s7
  | x10 :: l9, i8, s7 => (lget cp3 x10).bind fun e11 => (F_flow_Cube e11).bind fun x12 => (F_cube_Has x12 cp4).bind fun x13 => (bif (!x13) then (F_first_All_1_l1 sg cp3 cp4 yield1 l9) (i8 + 1) s7 else (yc yield1 s7 x10).bind fun s14 => (bif (!(Lp.isGo s14)) then some s14 else (F_first_All_1_l1 sg cp3 cp4 yield1 l9) (i8 + 1) s14))
def F_first_All_1 (sg : Type) (yield1 : (sg → Int → Option (Lp sg))) (s2 : (Lp sg)) (cp3 : (List Flow)) (cp4 : (Vector Wide 24)) : Option (Lp sg) :=
  (F_first_Order cp3).bind fun x5 => F_first_All_1_l1 sg cp3 cp4 yield1 x5 0 s2
theorem c_first_All_1 (sg : Type) (yield1 : (sg → Int → Option (Lp sg))) (L : Lp sg → Res) (s2 : (Lp sg)) (cp3 : (List Flow)) (cp4 : (Vector Wide 24)) (r : (Lp sg)) (h : F_first_All_1 sg yield1 s2 cp3 cp4 = some r) : Con Tryz.prog 156 [ydA Tryz.prog (kint .i64) yield1 L, rp (ksl kFlow) cp3, rp (karr 24 kWide) cp4] (L s2) (fun _ : Unit => top) (fun _ => L r) := by
  refine Con.intro Tryz.func156 rfl Tryz.ntmps156 rfl fun w H X => ?_
  unfold F_first_All_1 at h
  refine AW.scope <| AW.seq <| AW.label <| AW.seq ?_
  obtain ⟨x5, hx5, h⟩ := bsome h
  refine Rg <| Lp1 ty22 rfl <| Cl [6] (c_first_Order _ _ hx5) e135 rfl <| Ac (op_len' rfl rfl sl37 (vt rfl)) rfl <| Mk rfl <| Nl <| AW.block <| AW.loopG (d := []) (ν := (List Int) × Nat × (Lp sg)) (fun n => Sfx x5 n.2.1 n.1 ∧ F_first_All_1_l1 sg cp3 cp4 yield1 n.1 n.2.1 n.2.2 = some r) (fun n => n.1.length) (fun n => [(0, ydA Tryz.prog (kint .i64) yield1 L), (1, rp (ksl kFlow) cp3), (2, rp (karr 24 kWide) cp4), (7, rd (ksl (kint .i64)) x5), (8, rd (kint .i64) (x5.length : Int)), (9, rd (kint .i64) (n.2.1 : Int))]) (fun n => [(0, L n.2.2)]) (x5, 0, s2) ⟨Sfx.start _, h⟩ ⟨rfl, ⟨rfl, rfl, rfl, rfl, rfl, rfl, trivial⟩, ⟨rfl, trivial⟩⟩ ?_
  rintro ⟨l9, i8, s7⟩ ⟨hsf1, h⟩
  change Sfx x5 i8 l9 at hsf1
  change F_first_All_1_l1 sg cp3 cp4 yield1 l9 i8 s7 = some r at h
  change AW _ _ _ ⟨slots [(0, ydA Tryz.prog (kint .i64) yield1 L), (1, rp (ksl kFlow) cp3), (2, rp (karr 24 kWide) cp4), (7, rd (ksl (kint .i64)) x5), (8, rd (kint .i64) (x5.length : Int)), (9, rd (kint .i64) (i8 : Int))], ress [(0, L s7)], _⟩
  cases l9 with
  | nil =>
    unfold F_first_All_1_l1 at h
    refine SR <| Ac (op_lss rfl rfl (vt rfl) (vt rfl)) rfl <| Nl <| AW.seq <| Cn rfl (fun hc => absurd (of_decide_eq_true hc) hsf1.nil) (fun hc => ?_)
    refine AW.exit ?_
    obtain rfl := si h
    exact ret0Y (i := 0) Tryz.results156 rfl rfl
  | cons x10 l9 =>
    unfold F_first_All_1_l1 at h
    generalize hgo1 : F_first_All_1_l1 sg cp3 cp4 yield1 l9 = go1 at h
    refine SR <| Ac (op_lss rfl rfl (vt rfl) (vt rfl)) rfl <| Nl <| AW.seq <| Cn rfl (fun hc => ?_) (fun hc => absurd hsf1.cons (of_decide_eq_false hc))
    have hlti8 := of_decide_eq_true hc
    refine AW.skip <| AW.seq <| AW.block <| SR <| Ac (op_indexs' rfl rfl sl37 (vt rfl) (vt rfl) hsf1.lget) rfl <| Lp1 ty3 rfl <| As rfl <| Nl <| AW.seq <| AW.seq ?_
    obtain ⟨e11, he11, h⟩ := bsome h
    obtain ⟨x12, hx12, h⟩ := bsome h
    obtain ⟨x13, hx13, h⟩ := bsome h
    refine AW.regionAny [⟨[1], [13], [], []⟩, ⟨[5], [14], [], []⟩, ⟨[13, 14], [15], [], []⟩, ⟨[15], [16], [], []⟩, ⟨[16], [17], [], []⟩, ⟨[2], [18], [], []⟩, ⟨[17, 18], [19], [], []⟩, ⟨[19], [20], [], []⟩] mixed (by kernel_rfl) <| SLp ty22 rfl <| SMd rfl <| Sc (lo [13, 14] [] rfl fun S hs hr => op_indexs' rfl rfl sl22 (vh hs 13 rfl rfl) (vh hs 14 rfl rfl) he11) rfl <| SLp ty61 rfl <| SCl [16] (c_flow_Cube _ _ hx12) e157 rfl <| SLp ty44 rfl <| SCl [17, 18] (c_cube_Has _ _ _ hx13) e50 rfl <| Sc (lo [19] [] rfl fun S hs hr => op_not rfl rfl (vh hs 19 rfl rfl)) rfl <| Cn rfl (fun hc => ?_) (fun hc => ?_)
    · have h := cond_t hc h
      refine AW.exit <| Rg <| Ac (op_incr (t := 8) rfl rfl (vt rfl) (vk rfl) (vt rfl) hlti8) rfl <| Md rfl <| Nl ?_
      subst hgo1
      exact ⟨(l9, i8 + 1, s7), Nat.lt_succ_self _, ⟨hsf1.next, h⟩, ⟨rfl, ⟨rfl, rfl, rfl, rfl, rfl, rfl, trivial⟩, ⟨rfl, trivial⟩⟩⟩
    · have h := cond_f hc h
      refine AW.skip <| AW.seq ?_
      obtain ⟨s14, hs14, h⟩ := bsome h
      refine Rg <| Ac (op_move (A := ydA Tryz.prog (kint .i64) yield1 L) rfl rfl (vt rfl)) rfl <| Md rfl <| Ac (op_yield 0 hs14 rfl rfl (vt rfl) (vt rfl) rfl) rfl <| Ac (op_not rfl rfl (vt rfl)) rfl <| Nl <| Cn rfl (fun hc => ?_) (fun hc => ?_)
      · have h := cond_t hc h
        refine AW.exit ?_
        obtain rfl := si h
        exact ret0Y (i := 0) Tryz.results156 rfl rfl
      · have h := cond_f hc h
        refine AW.skip <| Rg <| Ac (op_incr (t := 8) rfl rfl (vt rfl) (vk rfl) (vt rfl) hlti8) rfl <| Md rfl <| Nl ?_
        subst hgo1
        exact ⟨(l9, i8 + 1, s14), Nat.lt_succ_self _, ⟨hsf1.next, h⟩, ⟨rfl, ⟨rfl, rfl, rfl, rfl, rfl, rfl, trivial⟩, ⟨rfl, trivial⟩⟩⟩
def F_first_All (t1 : (List Flow)) (h2 : (Vector Wide 24)) : Option (Itr Int) :=
  some (Itr.mk fun σ y s => F_first_All_1 σ y s t1 h2)
theorem c_first_All (t1 : (List Flow)) (h2 : (Vector Wide 24)) (r : (Itr Int)) (h : F_first_All t1 h2 = some r) : PCon Tryz.prog 88 [rd (ksl kFlow) t1, rd (karr 24 kWide) h2] (seqA Tryz.prog (kint .i64) r) := by
  refine PCon.of (Con.intro0 Tryz.func88 rfl Tryz.ntmps88 rfl fun w H => ?_)
  unfold F_first_All at h
  refine SR <| Ct rfl (op_box 3 rfl rfl (vt rfl)) ?_
  rintro _ ⟨g3, rfl⟩
  refine Ct rfl (op_box 4 rfl rfl (vt rfl)) ?_
  rintro _ ⟨g4, rfl⟩
  refine Ac (op_assign (A := raw .nilFunc) rfl rfl vc) rfl <| Nl <| AW.seq <| AW.freezeB 2 3 rfl rfl rfl <| AW.freezeB 3 4 rfl rfl rfl <| Rg <| Ac (op_seq (Itr.mk fun σ y s => F_first_All_1 σ y s t1 h2) (cs := [.tmp 2, .tmp 3]) (CAs := [rp (ksl kFlow) t1, rp (karr 24 kWide) h2]) rfl rfl e156 ⟨vt rfl, vt rfl, trivial⟩ (fun σ y L s r h => c_first_All_1 σ y L s t1 h2 r h)) rfl <| Ac (op_assign (A := seqA Tryz.prog (kint .i64) (Itr.mk fun σ y s => F_first_All_1 σ y s t1 h2)) rfl rfl (vt rfl)) rfl <| Nl <| AW.ret ?_
  obtain rfl := si h
  exact ret1 Tryz.results88 rfl (out_tmp rfl)
def F_first_Find_b1 (b7 : Int) (b8 : Bool) (x10 : Int) : Option (Lp (Int × Bool)) :=
  some (.out .ret (x10, true))
def F_first_Find (t1 : (List Flow)) (h2 : (Vector Wide 24)) : Option (Int × Bool) :=
  (F_first_All t1 h2).bind fun x6 => (Itr.run x6 (Int × Bool) (fun s x => F_first_Find_b1 s.1 s.2 x) (.go (0, false))).bind fun z9 => lpCase z9 (fun s11 => some (0, false)) (fun c s11 => bif cRet c then some (s11.1, s11.2) else none)
theorem c_first_Find (t1 : (List Flow)) (h2 : (Vector Wide 24)) (r : (Int × Bool)) (h : F_first_Find t1 h2 = some r) : PCon Tryz.prog 34 [rd (ksl kFlow) t1, rd (karr 24 kWide) h2] (tup2 (rd (kint .i64) r.1) (rd kbool r.2)) := by
  refine PCon.of (Con.intro0 Tryz.func34 rfl Tryz.ntmps34 rfl fun w H => ?_)
  unfold F_first_Find at h
  refine SR <| Ct rfl (op_box 4 rfl rfl (vt rfl)) ?_
  rintro _ ⟨g3, rfl⟩
  refine Ct rfl (op_alloc 5 rfl rfl zr3) ?_
  rintro _ ⟨g4, rfl⟩
  refine Ct rfl (op_alloc 6 rfl rfl zr4) ?_
  rintro _ ⟨g5, rfl⟩
  refine Nl <| AW.seq <| AW.seq ?_
  obtain ⟨x6, hx6, h⟩ := bsome h
  refine Rg <| Md rfl <| Ld ty44 4 rfl <| Cl [7, 8] (c_first_All _ _ _ hx6) e88 rfl <| Nl <| AW.block ?_
  obtain ⟨z9, hz9, h⟩ := bsome h
  refine AW.fit (d := []) (L := [(4, ptrL g4 (Lens.id (kint .i64))), (5, ptrL g5 (Lens.id kbool)), (9, seqA Tryz.prog (kint .i64) x6)]) (M := [(5, Blk g4 3 (kint .i64) 0), (6, Blk g5 4 kbool false)]) ⟨rfl, ⟨rfl, rfl, rfl, trivial⟩, ⟨rfl, rfl, trivial⟩⟩ ?_
  refine AW.rangeFunc (σ := Int × Bool) (fun x => [rd (kint .i64) x]) (fun s x => F_first_Find_b1 s.1 s.2 x) (fun s => ress ((fun s => [(5, Blk g4 3 (kint .i64) s.1), (6, Blk g5 4 kbool s.2)]) s)) (fun _ s => ress ((fun s => [(5, Blk g4 3 (kint .i64) s.1), (6, Blk g5 4 kbool s.2)]) s)) [(4, ptrL g4 (Lens.id (kint .i64))), (5, ptrL g5 (Lens.id kbool))] (fun s x10 S1 => Fit S1 [] [(4, ptrL g4 (Lens.id (kint .i64))), (5, ptrL g5 (Lens.id kbool)), (6, rd (kint .i64) x10)] [(5, Blk g4 3 (kint .i64) s.1), (6, Blk g5 4 kbool s.2)]) 3001 (s0 := (0, false)) (sE := z9) rfl (vt rfl) ⟨rfl, inferInstance, rfl, inferInstance, trivial⟩ rfl (fun _ => rfl) (by intro p hp; have hp : p ∈ [10] := hp; rw [List.mem_singleton.1 hp]; show 10 < 12; decide) ?ha1 ?hb1 (fun Lf => ⟨top, _, _, Lf, _, _, hz9, rfl, rfl, rfl, rfl⟩) ?he1
  case ha1 =>
    rintro ⟨b7, b8⟩ x10 r hF l w H X
    refine Rg <| As rfl <| Nl ?_
    exact ⟨rfl, rfl, ⟨rfl, rfl, rfl, trivial⟩, ⟨rfl, rfl, trivial⟩⟩
  case hb1 =>
    rintro ⟨b7, b8⟩ x10 r h S1 hfit l w H X
    refine AW.fit (d := []) (L := [(4, ptrL g4 (Lens.id (kint .i64))), (5, ptrL g5 (Lens.id kbool)), (6, rd (kint .i64) x10)]) (M := [(5, Blk g4 3 (kint .i64) b7), (6, Blk g5 4 kbool b8)]) hfit <| AW.bodyT ?_
    change F_first_Find_b1 b7 b8 x10 = some r at h
    unfold F_first_Find_b1 at h
    refine AW.block <| SR <| Md rfl <| Sto ty3 5 rfl <| Ac (op_store rfl rfl ty4 (vt rfl) (i := 6) rfl vb) rfl <| Nl <| AW.ret ?_
    obtain rfl := si h
    exact ⟨_, (x10, true), Turn.refl, rfl, ⟨rfl, rfl, trivial⟩⟩
  case he1 =>
    intro D
    cases z9 with
    | go s11 =>
      change _ = some r at h
      refine SR <| Ac (op_store rfl rfl ty3 (vt rfl) (i := 5) rfl (vk rfl)) rfl <| Ac (op_store rfl rfl ty4 (vt rfl) (i := 6) rfl vb) rfl <| Nl <| AW.ret ?_
      obtain rfl := si h
      exact ⟨rfl, 3001, rfl, ret2 Tryz.results34 rfl (out_cell rfl (i := 5) rfl ty3) (out_cell rfl (i := 6) rfl ty4)⟩
    | out c s11 =>
      change (bif cRet c then _ else _) = some r at h
      cases hc : cRet c with
      | true =>
        rw [hc] at h
        have hc := cRet_of hc
        subst hc
        change _ = some r at h
        refine AW.ret ?_
        obtain rfl := si h
        exact ⟨rfl, 3001, rfl, ret2 Tryz.results34 rfl (out_cell rfl (i := 5) rfl ty3) (out_cell rfl (i := 6) rfl ty4)⟩
      | false =>
        rw [hc] at h
        cases h
def F_inst_Of_1 (i1 : Inst) (cp2 : Int) : Option Bool :=
  some (decide (i1.Kind = cp2))
theorem c_inst_Of_1 (i1 : Inst) (cp2 : Int) (r : Bool) (h : F_inst_Of_1 i1 cp2 = some r) : PCon Tryz.prog 264 [rd kInst i1, rp (kint .i64) cp2] (rd kbool r) := by
  refine PCon.of (Con.intro0 Tryz.func264 rfl Tryz.ntmps264 rfl fun w H => ?_)
  unfold F_inst_Of_1 at h
  refine SR <| Ct rfl (op_box 3 rfl rfl (vt rfl)) ?_
  rintro _ ⟨g3, rfl⟩
  refine Ab rfl <| Nl <| SR <| FdA lInst_0 fl124_0 rfl <| Ld ty3 3 rfl <| Lp1 ty3 rfl <| Ac (op_eql rfl rfl (vt rfl) (vt rfl)) rfl <| As rfl <| Nl <| AW.ret ?_
  obtain rfl := si h
  exact ret1 Tryz.results264 rfl (out_tmp rfl)
def F_slices_Clone_Action (s : List Action) : Option (List Action) := appd [] s
theorem c_slices_Clone_Action_o (s : List Action) (r : List Action) (h : F_slices_Clone_Action s = some r) : Con Tryz.prog 216 [rd (ksl kAction) s] emp (fun v => raw v) (fun v => Row v 121 kAction r) := by
  refine Con.intro0 Tryz.func216 rfl Tryz.ntmps216 rfl fun w H => ?_
  unfold F_slices_Clone_Action at h
  refine AW.newnil 1001 121 kAction <| SR <| Ac (op_assign (A := raw (.slice none 0 0)) rfl rfl vc) rfl <| Nl <| AW.seq <| SR <| Md rfl <| Ct rfl (op_eqnil rfl rfl sl122 (vt rfl)) ?_
  rintro _ ⟨b, hb, rfl⟩
  refine Nl <| Cn rfl (fun hc => ?_) (fun hc => ?_)
  · obtain rfl := hb hc
    refine SR <| Ac (op_assign (A := raw (.slice none 0 0)) rfl rfl vc) rfl <| Nl <| AW.ret ?_
    obtain rfl := (appd_of h).2
    exact ret1R (i := 1001) Tryz.results216 rfl rfl rfl
  · refine AW.skip <| SR <| Ct rfl (op_buildSlice 1002 (ps := []) (l := []) rfl rfl sl122 zr121 rfl rfl rfl rfl) ?_
    rintro _ ⟨v1, rfl⟩
    refine Md rfl <| Ct rfl (op_append' 1002 h rfl rfl el122 (vt rfl) rfl (vt rfl)) ?_
    rintro _ ⟨v2, rfl⟩
    refine Aw rfl <| Nl <| AW.ret ?_
    exact ret1R (i := 1002) Tryz.results216 rfl rfl rfl
theorem c_slices_Clone_Action (s : List Action) (r : List Action) (h : F_slices_Clone_Action s = some r) : PCon Tryz.prog 216 [rd (ksl kAction) s] (rd (ksl kAction) r) := PCon.of_row (c_slices_Clone_Action_o s r h)
end Go.Proofs.YtknpgojdkobgjaaGreat.W
