/- GzT: a part of the proof. -/
import Derived.Test.YtokmmcflinnfiaaGreatProg
import Derived.KernelRfl
import Derived.Test.YtokmmcflinnfiaaGreatWbZC
set_option linter.unusedVariables false
set_option maxRecDepth 4000
set_option linter.unusedSimpArgs false
namespace Go.Proofs.YtokmmcflinnfiaaGreat.W
open Go Go.Wb
structure Wide where
  Hi : (BitVec 64)
  Lo : (BitVec 64)
  deriving DecidableEq, Inhabited
def kWide : Kd Wide := kiso (kpair ku64 ku64) (fun x => (x.Hi, x.Lo))
def lWide_0 : Lens kWide ku64 := Lens.iso (k := (kpair ku64 ku64)) (Lens.fst _ _) Wide.Hi (fun x y => { x with Hi := y }) (fun _ => rfl) (fun _ _ => rfl)
def lWide_1 : Lens kWide ku64 := Lens.iso (k := (kpair ku64 ku64)) (Lens.snd _ _) Wide.Lo (fun x y => { x with Lo := y }) (fun _ => rfl) (fun _ _ => rfl)
def zWide : Wide := ⟨0, 0⟩
theorem kzWide : KZ kWide zWide [(Value.int IntKind.u64 0), (Value.int IntKind.u64 0)] := kz_iso (kz_pair kz_u64 kz_u64)
structure Oxm where
  Field : Int
  Masked : Bool
  Value : Wide
  Mask : Wide
  deriving DecidableEq, Inhabited
def kOxm : Kd Oxm := kiso (kpair (kint .i64) (kpair kbool (kpair kWide kWide))) (fun x => (x.Field, (x.Masked, (x.Value, x.Mask))))
def lOxm_0 : Lens kOxm (kint .i64) := Lens.iso (k := (kpair (kint .i64) (kpair kbool (kpair kWide kWide)))) (Lens.fst _ _) Oxm.Field (fun x y => { x with Field := y }) (fun _ => rfl) (fun _ _ => rfl)
def lOxm_1 : Lens kOxm kbool := Lens.iso (k := (kpair (kint .i64) (kpair kbool (kpair kWide kWide)))) (Lens.comp (Lens.snd _ _) (Lens.fst _ _)) Oxm.Masked (fun x y => { x with Masked := y }) (fun _ => rfl) (fun _ _ => rfl)
def lOxm_2 : Lens kOxm kWide := Lens.iso (k := (kpair (kint .i64) (kpair kbool (kpair kWide kWide)))) (Lens.comp (Lens.comp (Lens.snd _ _) (Lens.snd _ _)) (Lens.fst _ _)) Oxm.Value (fun x y => { x with Value := y }) (fun _ => rfl) (fun _ _ => rfl)
def lOxm_3 : Lens kOxm kWide := Lens.iso (k := (kpair (kint .i64) (kpair kbool (kpair kWide kWide)))) (Lens.comp (Lens.comp (Lens.snd _ _) (Lens.snd _ _)) (Lens.snd _ _)) Oxm.Mask (fun x y => { x with Mask := y }) (fun _ => rfl) (fun _ _ => rfl)
def zOxm : Oxm := ⟨0, false, zWide, zWide⟩
theorem kzOxm : KZ kOxm zOxm [(Value.int IntKind.i64 0), (Value.bool false), (Value.int IntKind.u64 0), (Value.int IntKind.u64 0), (Value.int IntKind.u64 0), (Value.int IntKind.u64 0)] := kz_iso (kz_pair kz_i64 (kz_pair kz_bool (kz_pair kzWide kzWide)))
structure Action where
  Kind : Int
  Port : Int
  Max : Int
  Group : Int
  Ether : Int
  Oxm : Oxm
  deriving DecidableEq, Inhabited
def kAction : Kd Action := kiso (kpair (kint .i64) (kpair (kint .i64) (kpair (kint .i64) (kpair (kint .i64) (kpair (kint .i64) kOxm))))) (fun x => (x.Kind, (x.Port, (x.Max, (x.Group, (x.Ether, x.Oxm))))))
def lAction_0 : Lens kAction (kint .i64) := Lens.iso (k := (kpair (kint .i64) (kpair (kint .i64) (kpair (kint .i64) (kpair (kint .i64) (kpair (kint .i64) kOxm)))))) (Lens.fst _ _) Action.Kind (fun x y => { x with Kind := y }) (fun _ => rfl) (fun _ _ => rfl)
def lAction_1 : Lens kAction (kint .i64) := Lens.iso (k := (kpair (kint .i64) (kpair (kint .i64) (kpair (kint .i64) (kpair (kint .i64) (kpair (kint .i64) kOxm)))))) (Lens.comp (Lens.snd _ _) (Lens.fst _ _)) Action.Port (fun x y => { x with Port := y }) (fun _ => rfl) (fun _ _ => rfl)
def lAction_2 : Lens kAction (kint .i64) := Lens.iso (k := (kpair (kint .i64) (kpair (kint .i64) (kpair (kint .i64) (kpair (kint .i64) (kpair (kint .i64) kOxm)))))) (Lens.comp (Lens.comp (Lens.snd _ _) (Lens.snd _ _)) (Lens.fst _ _)) Action.Max (fun x y => { x with Max := y }) (fun _ => rfl) (fun _ _ => rfl)
def lAction_3 : Lens kAction (kint .i64) := Lens.iso (k := (kpair (kint .i64) (kpair (kint .i64) (kpair (kint .i64) (kpair (kint .i64) (kpair (kint .i64) kOxm)))))) (Lens.comp (Lens.comp (Lens.comp (Lens.snd _ _) (Lens.snd _ _)) (Lens.snd _ _)) (Lens.fst _ _)) Action.Group (fun x y => { x with Group := y }) (fun _ => rfl) (fun _ _ => rfl)
def lAction_4 : Lens kAction (kint .i64) := Lens.iso (k := (kpair (kint .i64) (kpair (kint .i64) (kpair (kint .i64) (kpair (kint .i64) (kpair (kint .i64) kOxm)))))) (Lens.comp (Lens.comp (Lens.comp (Lens.comp (Lens.snd _ _) (Lens.snd _ _)) (Lens.snd _ _)) (Lens.snd _ _)) (Lens.fst _ _)) Action.Ether (fun x y => { x with Ether := y }) (fun _ => rfl) (fun _ _ => rfl)
def lAction_5 : Lens kAction kOxm := Lens.iso (k := (kpair (kint .i64) (kpair (kint .i64) (kpair (kint .i64) (kpair (kint .i64) (kpair (kint .i64) kOxm)))))) (Lens.comp (Lens.comp (Lens.comp (Lens.comp (Lens.snd _ _) (Lens.snd _ _)) (Lens.snd _ _)) (Lens.snd _ _)) (Lens.snd _ _)) Action.Oxm (fun x y => { x with Oxm := y }) (fun _ => rfl) (fun _ _ => rfl)
def zAction : Action := ⟨0, 0, 0, 0, 0, zOxm⟩
theorem kzAction : KZ kAction zAction [(Value.int IntKind.i64 0), (Value.int IntKind.i64 0), (Value.int IntKind.i64 0), (Value.int IntKind.i64 0), (Value.int IntKind.i64 0), (Value.int IntKind.i64 0), (Value.bool false), (Value.int IntKind.u64 0), (Value.int IntKind.u64 0), (Value.int IntKind.u64 0), (Value.int IntKind.u64 0)] := kz_iso (kz_pair kz_i64 (kz_pair kz_i64 (kz_pair kz_i64 (kz_pair kz_i64 (kz_pair kz_i64 kzOxm)))))
structure Bucket where
  Weight : Int
  Watch : Int
  WatchGroup : Int
  Acts : (List Action)
  deriving DecidableEq, Inhabited
def kBucket : Kd Bucket := kiso (kpair (kint .i64) (kpair (kint .i64) (kpair (kint .i64) (ksl kAction)))) (fun x => (x.Weight, (x.Watch, (x.WatchGroup, x.Acts))))
def lBucket_0 : Lens kBucket (kint .i64) := Lens.iso (k := (kpair (kint .i64) (kpair (kint .i64) (kpair (kint .i64) (ksl kAction))))) (Lens.fst _ _) Bucket.Weight (fun x y => { x with Weight := y }) (fun _ => rfl) (fun _ _ => rfl)
def lBucket_1 : Lens kBucket (kint .i64) := Lens.iso (k := (kpair (kint .i64) (kpair (kint .i64) (kpair (kint .i64) (ksl kAction))))) (Lens.comp (Lens.snd _ _) (Lens.fst _ _)) Bucket.Watch (fun x y => { x with Watch := y }) (fun _ => rfl) (fun _ _ => rfl)
def lBucket_2 : Lens kBucket (kint .i64) := Lens.iso (k := (kpair (kint .i64) (kpair (kint .i64) (kpair (kint .i64) (ksl kAction))))) (Lens.comp (Lens.comp (Lens.snd _ _) (Lens.snd _ _)) (Lens.fst _ _)) Bucket.WatchGroup (fun x y => { x with WatchGroup := y }) (fun _ => rfl) (fun _ _ => rfl)
def lBucket_3 : Lens kBucket (ksl kAction) := Lens.iso (k := (kpair (kint .i64) (kpair (kint .i64) (kpair (kint .i64) (ksl kAction))))) (Lens.comp (Lens.comp (Lens.snd _ _) (Lens.snd _ _)) (Lens.snd _ _)) Bucket.Acts (fun x y => { x with Acts := y }) (fun _ => rfl) (fun _ _ => rfl)
def zBucket : Bucket := ⟨0, 0, 0, []⟩
theorem kzBucket : KZ kBucket zBucket [(Value.int IntKind.i64 0), (Value.int IntKind.i64 0), (Value.int IntKind.i64 0), (Value.slice none 0 0)] := kz_iso (kz_pair kz_i64 (kz_pair kz_i64 (kz_pair kz_i64 (kz_sl _))))
structure Group where
  ID : Int
  Kind : Int
  Buckets : (List Bucket)
  deriving DecidableEq, Inhabited
def kGroup : Kd Group := kiso (kpair (kint .i64) (kpair (kint .i64) (ksl kBucket))) (fun x => (x.ID, (x.Kind, x.Buckets)))
def lGroup_0 : Lens kGroup (kint .i64) := Lens.iso (k := (kpair (kint .i64) (kpair (kint .i64) (ksl kBucket)))) (Lens.fst _ _) Group.ID (fun x y => { x with ID := y }) (fun _ => rfl) (fun _ _ => rfl)
def lGroup_1 : Lens kGroup (kint .i64) := Lens.iso (k := (kpair (kint .i64) (kpair (kint .i64) (ksl kBucket)))) (Lens.comp (Lens.snd _ _) (Lens.fst _ _)) Group.Kind (fun x y => { x with Kind := y }) (fun _ => rfl) (fun _ _ => rfl)
def lGroup_2 : Lens kGroup (ksl kBucket) := Lens.iso (k := (kpair (kint .i64) (kpair (kint .i64) (ksl kBucket)))) (Lens.comp (Lens.snd _ _) (Lens.snd _ _)) Group.Buckets (fun x y => { x with Buckets := y }) (fun _ => rfl) (fun _ _ => rfl)
def zGroup : Group := ⟨0, 0, []⟩
theorem kzGroup : KZ kGroup zGroup [(Value.int IntKind.i64 0), (Value.int IntKind.i64 0), (Value.slice none 0 0)] := kz_iso (kz_pair kz_i64 (kz_pair kz_i64 (kz_sl _)))
structure Env where
  Turn : Int
  Down : (List Int)
  deriving DecidableEq, Inhabited
def kEnv : Kd Env := kiso (kpair (kint .i64) (ksl (kint .i64))) (fun x => (x.Turn, x.Down))
def lEnv_0 : Lens kEnv (kint .i64) := Lens.iso (k := (kpair (kint .i64) (ksl (kint .i64)))) (Lens.fst _ _) Env.Turn (fun x y => { x with Turn := y }) (fun _ => rfl) (fun _ _ => rfl)
def lEnv_1 : Lens kEnv (ksl (kint .i64)) := Lens.iso (k := (kpair (kint .i64) (ksl (kint .i64)))) (Lens.snd _ _) Env.Down (fun x y => { x with Down := y }) (fun _ => rfl) (fun _ _ => rfl)
def zEnv : Env := ⟨0, []⟩
theorem kzEnv : KZ kEnv zEnv [(Value.int IntKind.i64 0), (Value.slice none 0 0)] := kz_iso (kz_pair kz_i64 (kz_sl _))
structure env_world where
  Env : Env
  Group : Group
  deriving DecidableEq, Inhabited
def kenv_world : Kd env_world := kiso (kpair kEnv kGroup) (fun x => (x.Env, x.Group))
def lenv_world_0 : Lens kenv_world kEnv := Lens.iso (k := (kpair kEnv kGroup)) (Lens.fst _ _) env_world.Env (fun x y => { x with Env := y }) (fun _ => rfl) (fun _ _ => rfl)
def lenv_world_1 : Lens kenv_world kGroup := Lens.iso (k := (kpair kEnv kGroup)) (Lens.snd _ _) env_world.Group (fun x y => { x with Group := y }) (fun _ => rfl) (fun _ _ => rfl)
def zenv_world : env_world := ⟨zEnv, zGroup⟩
theorem kzenv_world : KZ kenv_world zenv_world [(Value.int IntKind.i64 0), (Value.slice none 0 0), (Value.int IntKind.i64 0), (Value.int IntKind.i64 0), (Value.slice none 0 0)] := kz_iso (kz_pair kzEnv kzGroup)
structure aset_spot where
  kind : Int
  field : Int
  deriving DecidableEq, Inhabited
def kaset_spot : Kd aset_spot := kiso (kpair (kint .i64) (kint .i64)) (fun x => (x.kind, x.field))
def laset_spot_0 : Lens kaset_spot (kint .i64) := Lens.iso (k := (kpair (kint .i64) (kint .i64))) (Lens.fst _ _) aset_spot.kind (fun x y => { x with kind := y }) (fun _ => rfl) (fun _ _ => rfl)
def laset_spot_1 : Lens kaset_spot (kint .i64) := Lens.iso (k := (kpair (kint .i64) (kint .i64))) (Lens.snd _ _) aset_spot.field (fun x y => { x with field := y }) (fun _ => rfl) (fun _ _ => rfl)
def zaset_spot : aset_spot := ⟨0, 0⟩
theorem kzaset_spot : KZ kaset_spot zaset_spot [(Value.int IntKind.i64 0), (Value.int IntKind.i64 0)] := kz_iso (kz_pair kz_i64 kz_i64)
structure Tern where
  Value : Wide
  Mask : Wide
  deriving DecidableEq, Inhabited
def kTern : Kd Tern := kiso (kpair kWide kWide) (fun x => (x.Value, x.Mask))
def lTern_0 : Lens kTern kWide := Lens.iso (k := (kpair kWide kWide)) (Lens.fst _ _) Tern.Value (fun x y => { x with Value := y }) (fun _ => rfl) (fun _ _ => rfl)
def lTern_1 : Lens kTern kWide := Lens.iso (k := (kpair kWide kWide)) (Lens.snd _ _) Tern.Mask (fun x y => { x with Mask := y }) (fun _ => rfl) (fun _ _ => rfl)
def zTern : Tern := ⟨zWide, zWide⟩
theorem kzTern : KZ kTern zTern [(Value.int IntKind.u64 0), (Value.int IntKind.u64 0), (Value.int IntKind.u64 0), (Value.int IntKind.u64 0)] := kz_iso (kz_pair kzWide kzWide)
structure field_row where
  name : ByteArray
  id : Int
  bits : Int
  masks : Bool
  deriving DecidableEq, Inhabited
def kfield_row : Kd field_row := kiso (kpair kstr (kpair (kint .i64) (kpair (kint .i64) kbool))) (fun x => (x.name, (x.id, (x.bits, x.masks))))
def lfield_row_0 : Lens kfield_row kstr := Lens.iso (k := (kpair kstr (kpair (kint .i64) (kpair (kint .i64) kbool)))) (Lens.fst _ _) field_row.name (fun x y => { x with name := y }) (fun _ => rfl) (fun _ _ => rfl)
def lfield_row_1 : Lens kfield_row (kint .i64) := Lens.iso (k := (kpair kstr (kpair (kint .i64) (kpair (kint .i64) kbool)))) (Lens.comp (Lens.snd _ _) (Lens.fst _ _)) field_row.id (fun x y => { x with id := y }) (fun _ => rfl) (fun _ _ => rfl)
def lfield_row_2 : Lens kfield_row (kint .i64) := Lens.iso (k := (kpair kstr (kpair (kint .i64) (kpair (kint .i64) kbool)))) (Lens.comp (Lens.comp (Lens.snd _ _) (Lens.snd _ _)) (Lens.fst _ _)) field_row.bits (fun x y => { x with bits := y }) (fun _ => rfl) (fun _ _ => rfl)
def lfield_row_3 : Lens kfield_row kbool := Lens.iso (k := (kpair kstr (kpair (kint .i64) (kpair (kint .i64) kbool)))) (Lens.comp (Lens.comp (Lens.snd _ _) (Lens.snd _ _)) (Lens.snd _ _)) field_row.masks (fun x y => { x with masks := y }) (fun _ => rfl) (fun _ _ => rfl)
def zfield_row : field_row := ⟨(⟨#[]⟩ : ByteArray), 0, 0, false⟩
theorem kzfield_row : KZ kfield_row zfield_row [(Value.string { data := #[] }), (Value.int IntKind.i64 0), (Value.int IntKind.i64 0), (Value.bool false)] := kz_iso (kz_pair kz_str (kz_pair kz_i64 (kz_pair kz_i64 kz_bool)))
structure Out where
  Port : Int
  Max : Int
  Header : (Vector Wide 24)
  deriving DecidableEq, Inhabited
def kOut : Kd Out := kiso (kpair (kint .i64) (kpair (kint .i64) (karr 24 kWide))) (fun x => (x.Port, (x.Max, x.Header)))
def lOut_0 : Lens kOut (kint .i64) := Lens.iso (k := (kpair (kint .i64) (kpair (kint .i64) (karr 24 kWide)))) (Lens.fst _ _) Out.Port (fun x y => { x with Port := y }) (fun _ => rfl) (fun _ _ => rfl)
def lOut_1 : Lens kOut (kint .i64) := Lens.iso (k := (kpair (kint .i64) (kpair (kint .i64) (karr 24 kWide)))) (Lens.comp (Lens.snd _ _) (Lens.fst _ _)) Out.Max (fun x y => { x with Max := y }) (fun _ => rfl) (fun _ _ => rfl)
def lOut_2 : Lens kOut (karr 24 kWide) := Lens.iso (k := (kpair (kint .i64) (kpair (kint .i64) (karr 24 kWide)))) (Lens.comp (Lens.snd _ _) (Lens.snd _ _)) Out.Header (fun x y => { x with Header := y }) (fun _ => rfl) (fun _ _ => rfl)
def zOut : Out := ⟨0, 0, (Vector.replicate 24 zWide)⟩
theorem kzOut : KZ kOut zOut [(Value.int IntKind.i64 0), (Value.int IntKind.i64 0), (Value.int IntKind.u64 0), (Value.int IntKind.u64 0), (Value.int IntKind.u64 0), (Value.int IntKind.u64 0), (Value.int IntKind.u64 0), (Value.int IntKind.u64 0), (Value.int IntKind.u64 0), (Value.int IntKind.u64 0), (Value.int IntKind.u64 0), (Value.int IntKind.u64 0), (Value.int IntKind.u64 0), (Value.int IntKind.u64 0), (Value.int IntKind.u64 0), (Value.int IntKind.u64 0), (Value.int IntKind.u64 0), (Value.int IntKind.u64 0), (Value.int IntKind.u64 0), (Value.int IntKind.u64 0), (Value.int IntKind.u64 0), (Value.int IntKind.u64 0), (Value.int IntKind.u64 0), (Value.int IntKind.u64 0), (Value.int IntKind.u64 0), (Value.int IntKind.u64 0), (Value.int IntKind.u64 0), (Value.int IntKind.u64 0), (Value.int IntKind.u64 0), (Value.int IntKind.u64 0), (Value.int IntKind.u64 0), (Value.int IntKind.u64 0), (Value.int IntKind.u64 0), (Value.int IntKind.u64 0), (Value.int IntKind.u64 0), (Value.int IntKind.u64 0), (Value.int IntKind.u64 0), (Value.int IntKind.u64 0), (Value.int IntKind.u64 0), (Value.int IntKind.u64 0), (Value.int IntKind.u64 0), (Value.int IntKind.u64 0), (Value.int IntKind.u64 0), (Value.int IntKind.u64 0), (Value.int IntKind.u64 0), (Value.int IntKind.u64 0), (Value.int IntKind.u64 0), (Value.int IntKind.u64 0), (Value.int IntKind.u64 0), (Value.int IntKind.u64 0)] := kz_iso (kz_pair kz_i64 (kz_pair kz_i64 (kz_arr 24 kzWide)))
structure exec_run where
  Env : Env
  groups : (List Group)
  out : (List Out)
  header : (Vector Wide 24)
  depth : Int
  deriving DecidableEq, Inhabited
def kexec_run : Kd exec_run := kiso (kpair kEnv (kpair (ksl kGroup) (kpair (ksl kOut) (kpair (karr 24 kWide) (kint .i64))))) (fun x => (x.Env, (x.groups, (x.out, (x.header, x.depth)))))
def lexec_run_0 : Lens kexec_run kEnv := Lens.iso (k := (kpair kEnv (kpair (ksl kGroup) (kpair (ksl kOut) (kpair (karr 24 kWide) (kint .i64)))))) (Lens.fst _ _) exec_run.Env (fun x y => { x with Env := y }) (fun _ => rfl) (fun _ _ => rfl)
def lexec_run_1 : Lens kexec_run (ksl kGroup) := Lens.iso (k := (kpair kEnv (kpair (ksl kGroup) (kpair (ksl kOut) (kpair (karr 24 kWide) (kint .i64)))))) (Lens.comp (Lens.snd _ _) (Lens.fst _ _)) exec_run.groups (fun x y => { x with groups := y }) (fun _ => rfl) (fun _ _ => rfl)
def lexec_run_2 : Lens kexec_run (ksl kOut) := Lens.iso (k := (kpair kEnv (kpair (ksl kGroup) (kpair (ksl kOut) (kpair (karr 24 kWide) (kint .i64)))))) (Lens.comp (Lens.comp (Lens.snd _ _) (Lens.snd _ _)) (Lens.fst _ _)) exec_run.out (fun x y => { x with out := y }) (fun _ => rfl) (fun _ _ => rfl)
def lexec_run_3 : Lens kexec_run (karr 24 kWide) := Lens.iso (k := (kpair kEnv (kpair (ksl kGroup) (kpair (ksl kOut) (kpair (karr 24 kWide) (kint .i64)))))) (Lens.comp (Lens.comp (Lens.comp (Lens.snd _ _) (Lens.snd _ _)) (Lens.snd _ _)) (Lens.fst _ _)) exec_run.header (fun x y => { x with header := y }) (fun _ => rfl) (fun _ _ => rfl)
def lexec_run_4 : Lens kexec_run (kint .i64) := Lens.iso (k := (kpair kEnv (kpair (ksl kGroup) (kpair (ksl kOut) (kpair (karr 24 kWide) (kint .i64)))))) (Lens.comp (Lens.comp (Lens.comp (Lens.snd _ _) (Lens.snd _ _)) (Lens.snd _ _)) (Lens.snd _ _)) exec_run.depth (fun x y => { x with depth := y }) (fun _ => rfl) (fun _ _ => rfl)
def zexec_run : exec_run := ⟨zEnv, [], [], (Vector.replicate 24 zWide), 0⟩
theorem kzexec_run : KZ kexec_run zexec_run [(Value.int IntKind.i64 0), (Value.slice none 0 0), (Value.slice none 0 0), (Value.slice none 0 0), (Value.int IntKind.u64 0), (Value.int IntKind.u64 0), (Value.int IntKind.u64 0), (Value.int IntKind.u64 0), (Value.int IntKind.u64 0), (Value.int IntKind.u64 0), (Value.int IntKind.u64 0), (Value.int IntKind.u64 0), (Value.int IntKind.u64 0), (Value.int IntKind.u64 0), (Value.int IntKind.u64 0), (Value.int IntKind.u64 0), (Value.int IntKind.u64 0), (Value.int IntKind.u64 0), (Value.int IntKind.u64 0), (Value.int IntKind.u64 0), (Value.int IntKind.u64 0), (Value.int IntKind.u64 0), (Value.int IntKind.u64 0), (Value.int IntKind.u64 0), (Value.int IntKind.u64 0), (Value.int IntKind.u64 0), (Value.int IntKind.u64 0), (Value.int IntKind.u64 0), (Value.int IntKind.u64 0), (Value.int IntKind.u64 0), (Value.int IntKind.u64 0), (Value.int IntKind.u64 0), (Value.int IntKind.u64 0), (Value.int IntKind.u64 0), (Value.int IntKind.u64 0), (Value.int IntKind.u64 0), (Value.int IntKind.u64 0), (Value.int IntKind.u64 0), (Value.int IntKind.u64 0), (Value.int IntKind.u64 0), (Value.int IntKind.u64 0), (Value.int IntKind.u64 0), (Value.int IntKind.u64 0), (Value.int IntKind.u64 0), (Value.int IntKind.u64 0), (Value.int IntKind.u64 0), (Value.int IntKind.u64 0), (Value.int IntKind.u64 0), (Value.int IntKind.u64 0), (Value.int IntKind.u64 0), (Value.int IntKind.u64 0), (Value.int IntKind.u64 0), (Value.int IntKind.i64 0)] := kz_iso (kz_pair kzEnv (kz_pair (kz_sl _) (kz_pair (kz_sl _) (kz_pair (kz_arr 24 kzWide) kz_i64))))
structure exec_run_o2 where
  Env : Env
  groups : (List Group)
  out : Value
  header : (Vector Wide 24)
  depth : Int
def kexec_run_o2 : Kd exec_run_o2 := kiso (kpair kEnv (kpair (ksl kGroup) (kpair kraw (kpair (karr 24 kWide) (kint .i64))))) (fun x => (x.Env, (x.groups, (x.out, (x.header, x.depth)))))
def lexec_run_o2_0 : Lens kexec_run_o2 kEnv := Lens.iso (k := (kpair kEnv (kpair (ksl kGroup) (kpair kraw (kpair (karr 24 kWide) (kint .i64)))))) (Lens.fst _ _) exec_run_o2.Env (fun x y => { x with Env := y }) (fun _ => rfl) (fun _ _ => rfl)
def lexec_run_o2_1 : Lens kexec_run_o2 (ksl kGroup) := Lens.iso (k := (kpair kEnv (kpair (ksl kGroup) (kpair kraw (kpair (karr 24 kWide) (kint .i64)))))) (Lens.comp (Lens.snd _ _) (Lens.fst _ _)) exec_run_o2.groups (fun x y => { x with groups := y }) (fun _ => rfl) (fun _ _ => rfl)
def lexec_run_o2_2 : Lens kexec_run_o2 kraw := Lens.iso (k := (kpair kEnv (kpair (ksl kGroup) (kpair kraw (kpair (karr 24 kWide) (kint .i64)))))) (Lens.comp (Lens.comp (Lens.snd _ _) (Lens.snd _ _)) (Lens.fst _ _)) exec_run_o2.out (fun x y => { x with out := y }) (fun _ => rfl) (fun _ _ => rfl)
def lexec_run_o2_3 : Lens kexec_run_o2 (karr 24 kWide) := Lens.iso (k := (kpair kEnv (kpair (ksl kGroup) (kpair kraw (kpair (karr 24 kWide) (kint .i64)))))) (Lens.comp (Lens.comp (Lens.comp (Lens.snd _ _) (Lens.snd _ _)) (Lens.snd _ _)) (Lens.fst _ _)) exec_run_o2.header (fun x y => { x with header := y }) (fun _ => rfl) (fun _ _ => rfl)
def lexec_run_o2_4 : Lens kexec_run_o2 (kint .i64) := Lens.iso (k := (kpair kEnv (kpair (ksl kGroup) (kpair kraw (kpair (karr 24 kWide) (kint .i64)))))) (Lens.comp (Lens.comp (Lens.comp (Lens.snd _ _) (Lens.snd _ _)) (Lens.snd _ _)) (Lens.snd _ _)) exec_run_o2.depth (fun x y => { x with depth := y }) (fun _ => rfl) (fun _ _ => rfl)
def zexec_run_o2 : exec_run_o2 := ⟨zEnv, [], (.slice none 0 0), (Vector.replicate 24 zWide), 0⟩
theorem kzexec_run_o2 : KZ kexec_run_o2 zexec_run_o2 [(Value.int IntKind.i64 0), (Value.slice none 0 0), (Value.slice none 0 0), (Value.slice none 0 0), (Value.int IntKind.u64 0), (Value.int IntKind.u64 0), (Value.int IntKind.u64 0), (Value.int IntKind.u64 0), (Value.int IntKind.u64 0), (Value.int IntKind.u64 0), (Value.int IntKind.u64 0), (Value.int IntKind.u64 0), (Value.int IntKind.u64 0), (Value.int IntKind.u64 0), (Value.int IntKind.u64 0), (Value.int IntKind.u64 0), (Value.int IntKind.u64 0), (Value.int IntKind.u64 0), (Value.int IntKind.u64 0), (Value.int IntKind.u64 0), (Value.int IntKind.u64 0), (Value.int IntKind.u64 0), (Value.int IntKind.u64 0), (Value.int IntKind.u64 0), (Value.int IntKind.u64 0), (Value.int IntKind.u64 0), (Value.int IntKind.u64 0), (Value.int IntKind.u64 0), (Value.int IntKind.u64 0), (Value.int IntKind.u64 0), (Value.int IntKind.u64 0), (Value.int IntKind.u64 0), (Value.int IntKind.u64 0), (Value.int IntKind.u64 0), (Value.int IntKind.u64 0), (Value.int IntKind.u64 0), (Value.int IntKind.u64 0), (Value.int IntKind.u64 0), (Value.int IntKind.u64 0), (Value.int IntKind.u64 0), (Value.int IntKind.u64 0), (Value.int IntKind.u64 0), (Value.int IntKind.u64 0), (Value.int IntKind.u64 0), (Value.int IntKind.u64 0), (Value.int IntKind.u64 0), (Value.int IntKind.u64 0), (Value.int IntKind.u64 0), (Value.int IntKind.u64 0), (Value.int IntKind.u64 0), (Value.int IntKind.u64 0), (Value.int IntKind.u64 0), (Value.int IntKind.i64 0)] := kz_iso (kz_pair kzEnv (kz_pair (kz_sl _) (kz_pair (kz_raw rfl) (kz_pair (kz_arr 24 kzWide) kz_i64))))
theorem cvexec_run_o2 (x : exec_run_o2) (l : (List Out)) : ∀ w H cs, kexec_run_o2.C w H x cs → SlC kOut w H l x.out → kexec_run.C w H ⟨x.Env, x.groups, l, x.header, x.depth⟩ cs := by
  rintro w H cs ⟨c0, r0, rfl, h0, ⟨c1, r1, rfl, h1, ⟨c2, r2, rfl, h2, ⟨c3, r3, rfl, h3, h4⟩⟩⟩⟩ hs
  exact ⟨_, _, rfl, h0, ⟨_, _, rfl, h1, ⟨_, _, rfl, ⟨_, h2.1, hs⟩, ⟨_, _, rfl, h3, h4⟩⟩⟩⟩
structure Atom where
  Rewrite : (Vector Tern 24)
  Group : Bool
  Port : Int
  Max : Int
  deriving DecidableEq, Inhabited
def kAtom : Kd Atom := kiso (kpair (karr 24 kTern) (kpair kbool (kpair (kint .i64) (kint .i64)))) (fun x => (x.Rewrite, (x.Group, (x.Port, x.Max))))
def lAtom_0 : Lens kAtom (karr 24 kTern) := Lens.iso (k := (kpair (karr 24 kTern) (kpair kbool (kpair (kint .i64) (kint .i64))))) (Lens.fst _ _) Atom.Rewrite (fun x y => { x with Rewrite := y }) (fun _ => rfl) (fun _ _ => rfl)
def lAtom_1 : Lens kAtom kbool := Lens.iso (k := (kpair (karr 24 kTern) (kpair kbool (kpair (kint .i64) (kint .i64))))) (Lens.comp (Lens.snd _ _) (Lens.fst _ _)) Atom.Group (fun x y => { x with Group := y }) (fun _ => rfl) (fun _ _ => rfl)
def lAtom_2 : Lens kAtom (kint .i64) := Lens.iso (k := (kpair (karr 24 kTern) (kpair kbool (kpair (kint .i64) (kint .i64))))) (Lens.comp (Lens.comp (Lens.snd _ _) (Lens.snd _ _)) (Lens.fst _ _)) Atom.Port (fun x y => { x with Port := y }) (fun _ => rfl) (fun _ _ => rfl)
def lAtom_3 : Lens kAtom (kint .i64) := Lens.iso (k := (kpair (karr 24 kTern) (kpair kbool (kpair (kint .i64) (kint .i64))))) (Lens.comp (Lens.comp (Lens.snd _ _) (Lens.snd _ _)) (Lens.snd _ _)) Atom.Max (fun x y => { x with Max := y }) (fun _ => rfl) (fun _ _ => rfl)
def zAtom : Atom := ⟨(Vector.replicate 24 zTern), false, 0, 0⟩
theorem kzAtom : KZ kAtom zAtom [(Value.int IntKind.u64 0), (Value.int IntKind.u64 0), (Value.int IntKind.u64 0), (Value.int IntKind.u64 0), (Value.int IntKind.u64 0), (Value.int IntKind.u64 0), (Value.int IntKind.u64 0), (Value.int IntKind.u64 0), (Value.int IntKind.u64 0), (Value.int IntKind.u64 0), (Value.int IntKind.u64 0), (Value.int IntKind.u64 0), (Value.int IntKind.u64 0), (Value.int IntKind.u64 0), (Value.int IntKind.u64 0), (Value.int IntKind.u64 0), (Value.int IntKind.u64 0), (Value.int IntKind.u64 0), (Value.int IntKind.u64 0), (Value.int IntKind.u64 0), (Value.int IntKind.u64 0), (Value.int IntKind.u64 0), (Value.int IntKind.u64 0), (Value.int IntKind.u64 0), (Value.int IntKind.u64 0), (Value.int IntKind.u64 0), (Value.int IntKind.u64 0), (Value.int IntKind.u64 0), (Value.int IntKind.u64 0), (Value.int IntKind.u64 0), (Value.int IntKind.u64 0), (Value.int IntKind.u64 0), (Value.int IntKind.u64 0), (Value.int IntKind.u64 0), (Value.int IntKind.u64 0), (Value.int IntKind.u64 0), (Value.int IntKind.u64 0), (Value.int IntKind.u64 0), (Value.int IntKind.u64 0), (Value.int IntKind.u64 0), (Value.int IntKind.u64 0), (Value.int IntKind.u64 0), (Value.int IntKind.u64 0), (Value.int IntKind.u64 0), (Value.int IntKind.u64 0), (Value.int IntKind.u64 0), (Value.int IntKind.u64 0), (Value.int IntKind.u64 0), (Value.int IntKind.u64 0), (Value.int IntKind.u64 0), (Value.int IntKind.u64 0), (Value.int IntKind.u64 0), (Value.int IntKind.u64 0), (Value.int IntKind.u64 0), (Value.int IntKind.u64 0), (Value.int IntKind.u64 0), (Value.int IntKind.u64 0), (Value.int IntKind.u64 0), (Value.int IntKind.u64 0), (Value.int IntKind.u64 0), (Value.int IntKind.u64 0), (Value.int IntKind.u64 0), (Value.int IntKind.u64 0), (Value.int IntKind.u64 0), (Value.int IntKind.u64 0), (Value.int IntKind.u64 0), (Value.int IntKind.u64 0), (Value.int IntKind.u64 0), (Value.int IntKind.u64 0), (Value.int IntKind.u64 0), (Value.int IntKind.u64 0), (Value.int IntKind.u64 0), (Value.int IntKind.u64 0), (Value.int IntKind.u64 0), (Value.int IntKind.u64 0), (Value.int IntKind.u64 0), (Value.int IntKind.u64 0), (Value.int IntKind.u64 0), (Value.int IntKind.u64 0), (Value.int IntKind.u64 0), (Value.int IntKind.u64 0), (Value.int IntKind.u64 0), (Value.int IntKind.u64 0), (Value.int IntKind.u64 0), (Value.int IntKind.u64 0), (Value.int IntKind.u64 0), (Value.int IntKind.u64 0), (Value.int IntKind.u64 0), (Value.int IntKind.u64 0), (Value.int IntKind.u64 0), (Value.int IntKind.u64 0), (Value.int IntKind.u64 0), (Value.int IntKind.u64 0), (Value.int IntKind.u64 0), (Value.int IntKind.u64 0), (Value.int IntKind.u64 0), (Value.bool false), (Value.int IntKind.i64 0), (Value.int IntKind.i64 0)] := kz_iso (kz_pair (kz_arr 24 kzTern) (kz_pair kz_bool (kz_pair kz_i64 kz_i64)))
structure atom_trace where
  got : (Vector Tern 24)
  atoms : (List Atom)
  deriving DecidableEq, Inhabited
def katom_trace : Kd atom_trace := kiso (kpair (karr 24 kTern) (ksl kAtom)) (fun x => (x.got, x.atoms))
def latom_trace_0 : Lens katom_trace (karr 24 kTern) := Lens.iso (k := (kpair (karr 24 kTern) (ksl kAtom))) (Lens.fst _ _) atom_trace.got (fun x y => { x with got := y }) (fun _ => rfl) (fun _ _ => rfl)
def latom_trace_1 : Lens katom_trace (ksl kAtom) := Lens.iso (k := (kpair (karr 24 kTern) (ksl kAtom))) (Lens.snd _ _) atom_trace.atoms (fun x y => { x with atoms := y }) (fun _ => rfl) (fun _ _ => rfl)
def zatom_trace : atom_trace := ⟨(Vector.replicate 24 zTern), []⟩
theorem kzatom_trace : KZ katom_trace zatom_trace [(Value.int IntKind.u64 0), (Value.int IntKind.u64 0), (Value.int IntKind.u64 0), (Value.int IntKind.u64 0), (Value.int IntKind.u64 0), (Value.int IntKind.u64 0), (Value.int IntKind.u64 0), (Value.int IntKind.u64 0), (Value.int IntKind.u64 0), (Value.int IntKind.u64 0), (Value.int IntKind.u64 0), (Value.int IntKind.u64 0), (Value.int IntKind.u64 0), (Value.int IntKind.u64 0), (Value.int IntKind.u64 0), (Value.int IntKind.u64 0), (Value.int IntKind.u64 0), (Value.int IntKind.u64 0), (Value.int IntKind.u64 0), (Value.int IntKind.u64 0), (Value.int IntKind.u64 0), (Value.int IntKind.u64 0), (Value.int IntKind.u64 0), (Value.int IntKind.u64 0), (Value.int IntKind.u64 0), (Value.int IntKind.u64 0), (Value.int IntKind.u64 0), (Value.int IntKind.u64 0), (Value.int IntKind.u64 0), (Value.int IntKind.u64 0), (Value.int IntKind.u64 0), (Value.int IntKind.u64 0), (Value.int IntKind.u64 0), (Value.int IntKind.u64 0), (Value.int IntKind.u64 0), (Value.int IntKind.u64 0), (Value.int IntKind.u64 0), (Value.int IntKind.u64 0), (Value.int IntKind.u64 0), (Value.int IntKind.u64 0), (Value.int IntKind.u64 0), (Value.int IntKind.u64 0), (Value.int IntKind.u64 0), (Value.int IntKind.u64 0), (Value.int IntKind.u64 0), (Value.int IntKind.u64 0), (Value.int IntKind.u64 0), (Value.int IntKind.u64 0), (Value.int IntKind.u64 0), (Value.int IntKind.u64 0), (Value.int IntKind.u64 0), (Value.int IntKind.u64 0), (Value.int IntKind.u64 0), (Value.int IntKind.u64 0), (Value.int IntKind.u64 0), (Value.int IntKind.u64 0), (Value.int IntKind.u64 0), (Value.int IntKind.u64 0), (Value.int IntKind.u64 0), (Value.int IntKind.u64 0), (Value.int IntKind.u64 0), (Value.int IntKind.u64 0), (Value.int IntKind.u64 0), (Value.int IntKind.u64 0), (Value.int IntKind.u64 0), (Value.int IntKind.u64 0), (Value.int IntKind.u64 0), (Value.int IntKind.u64 0), (Value.int IntKind.u64 0), (Value.int IntKind.u64 0), (Value.int IntKind.u64 0), (Value.int IntKind.u64 0), (Value.int IntKind.u64 0), (Value.int IntKind.u64 0), (Value.int IntKind.u64 0), (Value.int IntKind.u64 0), (Value.int IntKind.u64 0), (Value.int IntKind.u64 0), (Value.int IntKind.u64 0), (Value.int IntKind.u64 0), (Value.int IntKind.u64 0), (Value.int IntKind.u64 0), (Value.int IntKind.u64 0), (Value.int IntKind.u64 0), (Value.int IntKind.u64 0), (Value.int IntKind.u64 0), (Value.int IntKind.u64 0), (Value.int IntKind.u64 0), (Value.int IntKind.u64 0), (Value.int IntKind.u64 0), (Value.int IntKind.u64 0), (Value.int IntKind.u64 0), (Value.int IntKind.u64 0), (Value.int IntKind.u64 0), (Value.int IntKind.u64 0), (Value.int IntKind.u64 0), (Value.slice none 0 0)] := kz_iso (kz_pair (kz_arr 24 kzTern) (kz_sl _))
structure atom_trace_o1 where
  got : (Vector Tern 24)
  atoms : Value
def katom_trace_o1 : Kd atom_trace_o1 := kiso (kpair (karr 24 kTern) kraw) (fun x => (x.got, x.atoms))
def latom_trace_o1_0 : Lens katom_trace_o1 (karr 24 kTern) := Lens.iso (k := (kpair (karr 24 kTern) kraw)) (Lens.fst _ _) atom_trace_o1.got (fun x y => { x with got := y }) (fun _ => rfl) (fun _ _ => rfl)
def latom_trace_o1_1 : Lens katom_trace_o1 kraw := Lens.iso (k := (kpair (karr 24 kTern) kraw)) (Lens.snd _ _) atom_trace_o1.atoms (fun x y => { x with atoms := y }) (fun _ => rfl) (fun _ _ => rfl)
def zatom_trace_o1 : atom_trace_o1 := ⟨(Vector.replicate 24 zTern), (.slice none 0 0)⟩
theorem kzatom_trace_o1 : KZ katom_trace_o1 zatom_trace_o1 [(Value.int IntKind.u64 0), (Value.int IntKind.u64 0), (Value.int IntKind.u64 0), (Value.int IntKind.u64 0), (Value.int IntKind.u64 0), (Value.int IntKind.u64 0), (Value.int IntKind.u64 0), (Value.int IntKind.u64 0), (Value.int IntKind.u64 0), (Value.int IntKind.u64 0), (Value.int IntKind.u64 0), (Value.int IntKind.u64 0), (Value.int IntKind.u64 0), (Value.int IntKind.u64 0), (Value.int IntKind.u64 0), (Value.int IntKind.u64 0), (Value.int IntKind.u64 0), (Value.int IntKind.u64 0), (Value.int IntKind.u64 0), (Value.int IntKind.u64 0), (Value.int IntKind.u64 0), (Value.int IntKind.u64 0), (Value.int IntKind.u64 0), (Value.int IntKind.u64 0), (Value.int IntKind.u64 0), (Value.int IntKind.u64 0), (Value.int IntKind.u64 0), (Value.int IntKind.u64 0), (Value.int IntKind.u64 0), (Value.int IntKind.u64 0), (Value.int IntKind.u64 0), (Value.int IntKind.u64 0), (Value.int IntKind.u64 0), (Value.int IntKind.u64 0), (Value.int IntKind.u64 0), (Value.int IntKind.u64 0), (Value.int IntKind.u64 0), (Value.int IntKind.u64 0), (Value.int IntKind.u64 0), (Value.int IntKind.u64 0), (Value.int IntKind.u64 0), (Value.int IntKind.u64 0), (Value.int IntKind.u64 0), (Value.int IntKind.u64 0), (Value.int IntKind.u64 0), (Value.int IntKind.u64 0), (Value.int IntKind.u64 0), (Value.int IntKind.u64 0), (Value.int IntKind.u64 0), (Value.int IntKind.u64 0), (Value.int IntKind.u64 0), (Value.int IntKind.u64 0), (Value.int IntKind.u64 0), (Value.int IntKind.u64 0), (Value.int IntKind.u64 0), (Value.int IntKind.u64 0), (Value.int IntKind.u64 0), (Value.int IntKind.u64 0), (Value.int IntKind.u64 0), (Value.int IntKind.u64 0), (Value.int IntKind.u64 0), (Value.int IntKind.u64 0), (Value.int IntKind.u64 0), (Value.int IntKind.u64 0), (Value.int IntKind.u64 0), (Value.int IntKind.u64 0), (Value.int IntKind.u64 0), (Value.int IntKind.u64 0), (Value.int IntKind.u64 0), (Value.int IntKind.u64 0), (Value.int IntKind.u64 0), (Value.int IntKind.u64 0), (Value.int IntKind.u64 0), (Value.int IntKind.u64 0), (Value.int IntKind.u64 0), (Value.int IntKind.u64 0), (Value.int IntKind.u64 0), (Value.int IntKind.u64 0), (Value.int IntKind.u64 0), (Value.int IntKind.u64 0), (Value.int IntKind.u64 0), (Value.int IntKind.u64 0), (Value.int IntKind.u64 0), (Value.int IntKind.u64 0), (Value.int IntKind.u64 0), (Value.int IntKind.u64 0), (Value.int IntKind.u64 0), (Value.int IntKind.u64 0), (Value.int IntKind.u64 0), (Value.int IntKind.u64 0), (Value.int IntKind.u64 0), (Value.int IntKind.u64 0), (Value.int IntKind.u64 0), (Value.int IntKind.u64 0), (Value.int IntKind.u64 0), (Value.int IntKind.u64 0), (Value.slice none 0 0)] := kz_iso (kz_pair (kz_arr 24 kzTern) (kz_raw rfl))
theorem cvatom_trace_o1 (x : atom_trace_o1) (l : (List Atom)) : ∀ w H cs, katom_trace_o1.C w H x cs → SlC kAtom w H l x.atoms → katom_trace.C w H ⟨x.got, l⟩ cs := by
  rintro w H cs ⟨c0, r0, rfl, h0, h1⟩ hs
  exact ⟨_, _, rfl, h0, ⟨_, h1.1, hs⟩⟩
structure norm_world where
  Env : Env
  groups : (List Group)
  depth : Int
  deriving DecidableEq, Inhabited
def knorm_world : Kd norm_world := kiso (kpair kEnv (kpair (ksl kGroup) (kint .i64))) (fun x => (x.Env, (x.groups, x.depth)))
def lnorm_world_0 : Lens knorm_world kEnv := Lens.iso (k := (kpair kEnv (kpair (ksl kGroup) (kint .i64)))) (Lens.fst _ _) norm_world.Env (fun x y => { x with Env := y }) (fun _ => rfl) (fun _ _ => rfl)
def lnorm_world_1 : Lens knorm_world (ksl kGroup) := Lens.iso (k := (kpair kEnv (kpair (ksl kGroup) (kint .i64)))) (Lens.comp (Lens.snd _ _) (Lens.fst _ _)) norm_world.groups (fun x y => { x with groups := y }) (fun _ => rfl) (fun _ _ => rfl)
def lnorm_world_2 : Lens knorm_world (kint .i64) := Lens.iso (k := (kpair kEnv (kpair (ksl kGroup) (kint .i64)))) (Lens.comp (Lens.snd _ _) (Lens.snd _ _)) norm_world.depth (fun x y => { x with depth := y }) (fun _ => rfl) (fun _ _ => rfl)
def znorm_world : norm_world := ⟨zEnv, [], 0⟩
theorem kznorm_world : KZ knorm_world znorm_world [(Value.int IntKind.i64 0), (Value.slice none 0 0), (Value.slice none 0 0), (Value.int IntKind.i64 0)] := kz_iso (kz_pair kzEnv (kz_pair (kz_sl _) kz_i64))
theorem sl65 : Sl Tryz.prog 65 64 kBucket := ⟨by kernel_rfl, by kernel_rfl⟩
theorem ty64 : Ty Tryz.prog 64 kBucket := ⟨by kernel_rfl, by kernel_rfl⟩
theorem sl26 : Sl Tryz.prog 26 62 kAction := ⟨by kernel_rfl, by kernel_rfl⟩
theorem fl64_3 : Fl Tryz.prog 64 3 lBucket_3 := ⟨by kernel_rfl, rfl⟩
theorem ty26 : Ty Tryz.prog 26 (ksl kAction) := ⟨by kernel_rfl, by kernel_rfl⟩
theorem fl67_2 : Fl Tryz.prog 67 2 lGroup_2 := ⟨by kernel_rfl, rfl⟩
theorem ty65 : Ty Tryz.prog 65 (ksl kBucket) := ⟨by kernel_rfl, by kernel_rfl⟩
theorem ty3 : Ty Tryz.prog 3 (kint .i64) := ⟨by kernel_rfl, by kernel_rfl⟩
theorem sl22 : Sl Tryz.prog 22 67 kGroup := ⟨by kernel_rfl, by kernel_rfl⟩
theorem ty67 : Ty Tryz.prog 67 kGroup := ⟨by kernel_rfl, by kernel_rfl⟩
theorem sl56 : Sl Tryz.prog 56 26 (ksl kAction) := ⟨by kernel_rfl, by kernel_rfl⟩
theorem fl62_1 : Fl Tryz.prog 62 1 lAction_1 := ⟨by kernel_rfl, rfl⟩
theorem fl62_2 : Fl Tryz.prog 62 2 lAction_2 := ⟨by kernel_rfl, rfl⟩
theorem fl67_0 : Fl Tryz.prog 67 0 lGroup_0 := ⟨by kernel_rfl, rfl⟩
theorem el22 : El Tryz.prog 22 67 kGroup := ⟨by kernel_rfl, by kernel_rfl, by kernel_rfl, by kernel_rfl, by kernel_rfl⟩
theorem zr67 : Zr Tryz.prog 67 kGroup zGroup := ⟨_, kzGroup, by kernel_rfl⟩
theorem el65 : El Tryz.prog 65 64 kBucket := ⟨by kernel_rfl, by kernel_rfl, by kernel_rfl, by kernel_rfl, by kernel_rfl⟩
theorem zr64 : Zr Tryz.prog 64 kBucket zBucket := ⟨_, kzBucket, by kernel_rfl⟩
theorem el26 : El Tryz.prog 26 62 kAction := ⟨by kernel_rfl, by kernel_rfl, by kernel_rfl, by kernel_rfl, by kernel_rfl⟩
theorem zr62 : Zr Tryz.prog 62 kAction zAction := ⟨_, kzAction, by kernel_rfl⟩
theorem fl25_0 : Fl Tryz.prog 25 0 lEnv_0 := ⟨by kernel_rfl, rfl⟩
theorem sl23 : Sl Tryz.prog 23 3 (kint .i64) := ⟨by kernel_rfl, by kernel_rfl⟩
theorem fl25_1 : Fl Tryz.prog 25 1 lEnv_1 := ⟨by kernel_rfl, rfl⟩
theorem ty23 : Ty Tryz.prog 23 (ksl (kint .i64)) := ⟨by kernel_rfl, by kernel_rfl⟩
theorem fl119_0 : Fl Tryz.prog 119 0 lenv_world_0 := ⟨by kernel_rfl, rfl⟩
theorem ty25 : Ty Tryz.prog 25 kEnv := ⟨by kernel_rfl, by kernel_rfl⟩
theorem fl64_1 : Fl Tryz.prog 64 1 lBucket_1 := ⟨by kernel_rfl, rfl⟩
theorem fl119_1 : Fl Tryz.prog 119 1 lenv_world_1 := ⟨by kernel_rfl, rfl⟩
theorem zr119 : Zr Tryz.prog 119 kenv_world zenv_world := ⟨_, kzenv_world, by kernel_rfl⟩
theorem ty119 : Ty Tryz.prog 119 kenv_world := ⟨by kernel_rfl, by kernel_rfl⟩
theorem fl67_1 : Fl Tryz.prog 67 1 lGroup_1 := ⟨by kernel_rfl, rfl⟩
theorem zr3 : Zr Tryz.prog 3 (kint .i64) 0 := ⟨_, kz_i64, by kernel_rfl⟩
theorem el23 : El Tryz.prog 23 3 (kint .i64) := ⟨by kernel_rfl, by kernel_rfl, by kernel_rfl, by kernel_rfl, by kernel_rfl⟩
theorem zr128 : Zr Tryz.prog 128 kaset_spot zaset_spot := ⟨_, kzaset_spot, by kernel_rfl⟩
theorem fl62_0 : Fl Tryz.prog 62 0 lAction_0 := ⟨by kernel_rfl, rfl⟩
theorem fl62_5 : Fl Tryz.prog 62 5 lAction_5 := ⟨by kernel_rfl, rfl⟩
theorem fl60_0 : Fl Tryz.prog 60 0 lOxm_0 := ⟨by kernel_rfl, rfl⟩
theorem ty128 : Ty Tryz.prog 128 kaset_spot := ⟨by kernel_rfl, by kernel_rfl⟩
theorem ty62 : Ty Tryz.prog 62 kAction := ⟨by kernel_rfl, by kernel_rfl⟩
theorem eqk3 : EqK Tryz.prog 1 3 (kint .i64) := eqk_int (by kernel_rfl)
theorem eqk128 : EqK Tryz.prog 2 128 kaset_spot := eqk_st (fun x y e => by cases x; cases y; simp only [Prod.mk.injEq] at e; simp [e]) (l := _) (by kernel_rfl) (by kernel_rfl) (eqf_cons eqk3 ty3 (eqf_one eqk3 ty3))
theorem eg128 : Tryz.prog.eqGuardType Tryz.prog.depth 128 = false := by kernel_rfl
theorem ty4 : Ty Tryz.prog 4 kbool := ⟨by kernel_rfl, by kernel_rfl⟩
theorem fl128_0 : Fl Tryz.prog 128 0 laset_spot_0 := ⟨by kernel_rfl, rfl⟩
theorem fl128_1 : Fl Tryz.prog 128 1 laset_spot_1 := ⟨by kernel_rfl, rfl⟩
theorem zr4 : Zr Tryz.prog 4 kbool false := ⟨_, kz_bool, by kernel_rfl⟩
theorem zr44 : Zr Tryz.prog 44 (karr 24 kTern) (Vector.replicate 24 zTern) := ⟨_, (kz_arr 24 kzTern), by kernel_rfl⟩
theorem ty44 : Ty Tryz.prog 44 (karr 24 kTern) := ⟨by kernel_rfl, by kernel_rfl⟩
theorem zr155 : Zr Tryz.prog 155 (karr 24 kfield_row) (Vector.replicate 24 zfield_row) := ⟨_, (kz_arr 24 kzfield_row), by kernel_rfl⟩
theorem zr148 : Zr Tryz.prog 148 kfield_row zfield_row := ⟨_, kzfield_row, by kernel_rfl⟩
theorem ty155 : Ty Tryz.prog 155 (karr 24 kfield_row) := ⟨by kernel_rfl, by kernel_rfl⟩
theorem ty148 : Ty Tryz.prog 148 kfield_row := ⟨by kernel_rfl, by kernel_rfl⟩
theorem ar155 : Ar Tryz.prog 155 148 24 kfield_row := ⟨by kernel_rfl, by kernel_rfl⟩
theorem ft148_2 : fieldTy Tryz.prog 148 2 = some 3 := by kernel_rfl
theorem fl148_2 : Fl Tryz.prog 148 2 lfield_row_2 := ⟨by kernel_rfl, rfl⟩
theorem zr29 : Zr Tryz.prog 29 kWide zWide := ⟨_, kzWide, by kernel_rfl⟩
theorem ty29 : Ty Tryz.prog 29 kWide := ⟨by kernel_rfl, by kernel_rfl⟩
theorem zr42 : Zr Tryz.prog 42 kTern zTern := ⟨_, kzTern, by kernel_rfl⟩
theorem ty42 : Ty Tryz.prog 42 kTern := ⟨by kernel_rfl, by kernel_rfl⟩
theorem fl60_1 : Fl Tryz.prog 60 1 lOxm_1 := ⟨by kernel_rfl, rfl⟩
theorem fl60_2 : Fl Tryz.prog 60 2 lOxm_2 := ⟨by kernel_rfl, rfl⟩
theorem fl60_3 : Fl Tryz.prog 60 3 lOxm_3 := ⟨by kernel_rfl, rfl⟩
theorem fl29_0 : Fl Tryz.prog 29 0 lWide_0 := ⟨by kernel_rfl, rfl⟩
theorem ty27 : Ty Tryz.prog 27 ku64 := ⟨by kernel_rfl, by kernel_rfl⟩
theorem fl29_1 : Fl Tryz.prog 29 1 lWide_1 := ⟨by kernel_rfl, rfl⟩
theorem fl42_0 : Fl Tryz.prog 42 0 lTern_0 := ⟨by kernel_rfl, rfl⟩
theorem fl42_1 : Fl Tryz.prog 42 1 lTern_1 := ⟨by kernel_rfl, rfl⟩
theorem ar44 : Ar Tryz.prog 44 42 24 kTern := ⟨by kernel_rfl, by kernel_rfl⟩
theorem zr141 : Zr Tryz.prog 141 (karr 2 ku64) (Vector.replicate 2 0) := ⟨_, (kz_arr 2 kz_u64), by kernel_rfl⟩
theorem ar141 : Ar Tryz.prog 141 27 2 ku64 := ⟨by kernel_rfl, by kernel_rfl⟩
theorem ty60 : Ty Tryz.prog 60 kOxm := ⟨by kernel_rfl, by kernel_rfl⟩
theorem zr31 : Zr Tryz.prog 31 (karr 24 kWide) (Vector.replicate 24 zWide) := ⟨_, (kz_arr 24 kzWide), by kernel_rfl⟩
theorem ty31 : Ty Tryz.prog 31 (karr 24 kWide) := ⟨by kernel_rfl, by kernel_rfl⟩
theorem ar31 : Ar Tryz.prog 31 29 24 kWide := ⟨by kernel_rfl, by kernel_rfl⟩
theorem flv72_2_2 : Fl Tryz.prog 72 2 lexec_run_o2_2 := ⟨by kernel_rfl, rfl⟩
theorem tyr34 : Ty Tryz.prog 34 kraw := ⟨by kernel_rfl, by kernel_rfl⟩
theorem flv72_3_2 : Fl Tryz.prog 72 3 lexec_run_o2_3 := ⟨by kernel_rfl, rfl⟩
theorem zr69 : Zr Tryz.prog 69 kOut zOut := ⟨_, kzOut, by kernel_rfl⟩
theorem sl34 : Sl Tryz.prog 34 69 kOut := ⟨by kernel_rfl, by kernel_rfl⟩
theorem el34 : El Tryz.prog 34 69 kOut := ⟨by kernel_rfl, by kernel_rfl, by kernel_rfl, by kernel_rfl, by kernel_rfl⟩
theorem fl62_3 : Fl Tryz.prog 62 3 lAction_3 := ⟨by kernel_rfl, rfl⟩
theorem flv72_1_2 : Fl Tryz.prog 72 1 lexec_run_o2_1 := ⟨by kernel_rfl, rfl⟩
theorem ty22 : Ty Tryz.prog 22 (ksl kGroup) := ⟨by kernel_rfl, by kernel_rfl⟩
theorem flv72_4_2 : Fl Tryz.prog 72 4 lexec_run_o2_4 := ⟨by kernel_rfl, rfl⟩
theorem flv72_0_2 : Fl Tryz.prog 72 0 lexec_run_o2_0 := ⟨by kernel_rfl, rfl⟩
theorem zrv72_2 : Zr Tryz.prog 72 kexec_run_o2 zexec_run_o2 := ⟨_, kzexec_run_o2, by kernel_rfl⟩
theorem ty69 : Ty Tryz.prog 69 kOut := ⟨by kernel_rfl, by kernel_rfl⟩
theorem eqk27 : EqK Tryz.prog 1 27 ku64 := eqk_u64 (by kernel_rfl)
theorem eqk29 : EqK Tryz.prog 2 29 kWide := eqk_st (fun x y e => by cases x; cases y; simp only [Prod.mk.injEq] at e; simp [e]) (l := _) (by kernel_rfl) (by kernel_rfl) (eqf_cons eqk27 ty27 (eqf_one eqk27 ty27))
theorem eqk31 : EqK Tryz.prog 3 31 (karr 24 kWide) := eqk_arr eqk29 ty29 ar31
theorem eqk69 : EqK Tryz.prog 4 69 kOut := eqk_st (fun x y e => by cases x; cases y; simp only [Prod.mk.injEq] at e; simp [e]) (l := _) (by kernel_rfl) (by kernel_rfl) (eqf_cons (eqk3.le (by decide)) ty3 (eqf_cons (eqk3.le (by decide)) ty3 (eqf_one eqk31 ty31)))
theorem eg69 : Tryz.prog.eqGuardType Tryz.prog.depth 69 = false := by kernel_rfl
theorem zr25 : Zr Tryz.prog 25 kEnv zEnv := ⟨_, kzEnv, by kernel_rfl⟩
theorem fl69_2 : Fl Tryz.prog 69 2 lOut_2 := ⟨by kernel_rfl, rfl⟩
theorem eg31 : Tryz.prog.eqGuardType Tryz.prog.depth 31 = false := by kernel_rfl
theorem fl69_0 : Fl Tryz.prog 69 0 lOut_0 := ⟨by kernel_rfl, rfl⟩
theorem us3 : (Tryz.prog.underlying 3).isSome = true := by kernel_rfl
theorem un143 : Tryz.prog.underlying 143 = some (.int .u64) := by kernel_rfl
theorem fl69_1 : Fl Tryz.prog 69 1 lOut_1 := ⟨by kernel_rfl, rfl⟩
theorem zr26 : Zr Tryz.prog 26 (ksl kAction) [] := ⟨_, (kz_sl _), by kernel_rfl⟩
theorem un4 : Tryz.prog.underlying 4 = some (.bool) := by kernel_rfl
theorem sl40 : Sl Tryz.prog 40 48 kAtom := ⟨by kernel_rfl, by kernel_rfl⟩
theorem flv107_0_1 : Fl Tryz.prog 107 0 latom_trace_o1_0 := ⟨by kernel_rfl, rfl⟩
theorem zr48 : Zr Tryz.prog 48 kAtom zAtom := ⟨_, kzAtom, by kernel_rfl⟩
theorem ty48 : Ty Tryz.prog 48 kAtom := ⟨by kernel_rfl, by kernel_rfl⟩
theorem fl48_2 : Fl Tryz.prog 48 2 lAtom_2 := ⟨by kernel_rfl, rfl⟩
theorem fl48_3 : Fl Tryz.prog 48 3 lAtom_3 := ⟨by kernel_rfl, rfl⟩
theorem fl48_1 : Fl Tryz.prog 48 1 lAtom_1 := ⟨by kernel_rfl, rfl⟩
theorem flv107_1_1 : Fl Tryz.prog 107 1 latom_trace_o1_1 := ⟨by kernel_rfl, rfl⟩
theorem tyr40 : Ty Tryz.prog 40 kraw := ⟨by kernel_rfl, by kernel_rfl⟩
theorem el40 : El Tryz.prog 40 48 kAtom := ⟨by kernel_rfl, by kernel_rfl, by kernel_rfl, by kernel_rfl, by kernel_rfl⟩
theorem zrv107_1 : Zr Tryz.prog 107 katom_trace_o1 zatom_trace_o1 := ⟨_, kzatom_trace_o1, by kernel_rfl⟩
theorem ty79 : Ty Tryz.prog 79 knorm_world := ⟨by kernel_rfl, by kernel_rfl⟩
theorem fl48_0 : Fl Tryz.prog 48 0 lAtom_0 := ⟨by kernel_rfl, rfl⟩
theorem fl79_1 : Fl Tryz.prog 79 1 lnorm_world_1 := ⟨by kernel_rfl, rfl⟩
theorem fl79_2 : Fl Tryz.prog 79 2 lnorm_world_2 := ⟨by kernel_rfl, rfl⟩
theorem fl79_0 : Fl Tryz.prog 79 0 lnorm_world_0 := ⟨by kernel_rfl, rfl⟩
theorem zr79 : Zr Tryz.prog 79 knorm_world znorm_world := ⟨_, kznorm_world, by kernel_rfl⟩
theorem eqk42 : EqK Tryz.prog 3 42 kTern := eqk_st (fun x y e => by cases x; cases y; simp only [Prod.mk.injEq] at e; simp [e]) (l := _) (by kernel_rfl) (by kernel_rfl) (eqf_cons eqk29 ty29 (eqf_one eqk29 ty29))
theorem eqk44 : EqK Tryz.prog 4 44 (karr 24 kTern) := eqk_arr eqk42 ty42 ar44
theorem eqk4 : EqK Tryz.prog 1 4 kbool := eqk_bool (by kernel_rfl)
theorem eqk48 : EqK Tryz.prog 5 48 kAtom := eqk_st (fun x y e => by cases x; cases y; simp only [Prod.mk.injEq] at e; simp [e]) (l := _) (by kernel_rfl) (by kernel_rfl) (eqf_cons eqk44 ty44 (eqf_cons (eqk4.le (by decide)) ty4 (eqf_cons (eqk3.le (by decide)) ty3 (eqf_one (eqk3.le (by decide)) ty3))))
theorem eg48 : Tryz.prog.eqGuardType Tryz.prog.depth 48 = false := by kernel_rfl
theorem eg44 : Tryz.prog.eqGuardType Tryz.prog.depth 44 = false := by kernel_rfl
theorem zrr34 : Zr Tryz.prog 34 kraw (.slice none 0 0) := ⟨_, kz_raw rfl, by kernel_rfl⟩
theorem mixed : Tryz.prog.follows .mixedOrders = true := by kernel_rfl
end Go.Proofs.YtokmmcflinnfiaaGreat.W
