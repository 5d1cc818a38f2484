/- A part of the proof. -/
import Derived.Test.YtknpgojdkobgjaaGreatL1
import Derived.Test.YtknpgojdkobgjaaGreatProg
import Derived.KernelRfl
set_option linter.unusedVariables false
set_option maxRecDepth 4000
set_option linter.unusedSimpArgs false
namespace Go.Proofs.YtknpgojdkobgjaaGreat.W
open Go Go.Wb
structure Wide where
  Hi : (BitVec 64)
  Lo : (BitVec 64)
  deriving DecidableEq, Inhabited
def kWide : Kd Wide := kiso (kpair ku64 ku64) (fun x => (x.Hi, x.Lo))
instance : PureK kWide := inferInstanceAs (PureK (kiso (kpair ku64 ku64) (fun (x : Wide) => (x.Hi, x.Lo))))
def lWide_0 : Lens kWide ku64 := Lens.iso (k := (kpair ku64 ku64)) (Lens.fst _ _) Wide.Hi (fun x y => { x with Hi := y }) (fun _ => rfl) (fun _ _ => rfl)
def lWide_1 : Lens kWide ku64 := Lens.iso (k := (kpair ku64 ku64)) (Lens.snd _ _) Wide.Lo (fun x y => { x with Lo := y }) (fun _ => rfl) (fun _ _ => rfl)
def zWide : Wide := ⟨0, 0⟩
theorem kzWide : KZ kWide zWide [(Value.int IntKind.u64 0), (Value.int IntKind.u64 0)] := kz_iso (kz_pair kz_u64 kz_u64)
structure Tern where
  Value : Wide
  Mask : Wide
  deriving DecidableEq, Inhabited
def kTern : Kd Tern := kiso (kpair kWide kWide) (fun x => (x.Value, x.Mask))
instance : PureK kTern := inferInstanceAs (PureK (kiso (kpair kWide kWide) (fun (x : Tern) => (x.Value, x.Mask))))
def lTern_0 : Lens kTern kWide := Lens.iso (k := (kpair kWide kWide)) (Lens.fst _ _) Tern.Value (fun x y => { x with Value := y }) (fun _ => rfl) (fun _ _ => rfl)
def lTern_1 : Lens kTern kWide := Lens.iso (k := (kpair kWide kWide)) (Lens.snd _ _) Tern.Mask (fun x y => { x with Mask := y }) (fun _ => rfl) (fun _ _ => rfl)
def zTern : Tern := ⟨zWide, zWide⟩
theorem kzTern : KZ kTern zTern [(Value.int IntKind.u64 0), (Value.int IntKind.u64 0), (Value.int IntKind.u64 0), (Value.int IntKind.u64 0)] := kz_iso (kz_pair kzWide kzWide)
structure Atom where
  Rewrite : (Vector Tern 24)
  Group : Bool
  Port : Int
  Max : Int
  deriving DecidableEq, Inhabited
def kAtom : Kd Atom := kiso (kpair (karr 24 kTern) (kpair kbool (kpair (kint .i64) (kint .i64)))) (fun x => (x.Rewrite, (x.Group, (x.Port, x.Max))))
instance : PureK kAtom := inferInstanceAs (PureK (kiso (kpair (karr 24 kTern) (kpair kbool (kpair (kint .i64) (kint .i64)))) (fun (x : Atom) => (x.Rewrite, (x.Group, (x.Port, x.Max))))))
def lAtom_0 : Lens kAtom (karr 24 kTern) := Lens.iso (k := (kpair (karr 24 kTern) (kpair kbool (kpair (kint .i64) (kint .i64))))) (Lens.fst _ _) Atom.Rewrite (fun x y => { x with Rewrite := y }) (fun _ => rfl) (fun _ _ => rfl)
def lAtom_1 : Lens kAtom kbool := Lens.iso (k := (kpair (karr 24 kTern) (kpair kbool (kpair (kint .i64) (kint .i64))))) (Lens.comp (Lens.snd _ _) (Lens.fst _ _)) Atom.Group (fun x y => { x with Group := y }) (fun _ => rfl) (fun _ _ => rfl)
def lAtom_2 : Lens kAtom (kint .i64) := Lens.iso (k := (kpair (karr 24 kTern) (kpair kbool (kpair (kint .i64) (kint .i64))))) (Lens.comp (Lens.comp (Lens.snd _ _) (Lens.snd _ _)) (Lens.fst _ _)) Atom.Port (fun x y => { x with Port := y }) (fun _ => rfl) (fun _ _ => rfl)
def lAtom_3 : Lens kAtom (kint .i64) := Lens.iso (k := (kpair (karr 24 kTern) (kpair kbool (kpair (kint .i64) (kint .i64))))) (Lens.comp (Lens.comp (Lens.snd _ _) (Lens.snd _ _)) (Lens.snd _ _)) Atom.Max (fun x y => { x with Max := y }) (fun _ => rfl) (fun _ _ => rfl)
def zAtom : Atom := ⟨(Vector.replicate 24 zTern), false, 0, 0⟩
theorem kzAtom : KZ kAtom zAtom [(Value.int IntKind.u64 0), (Value.int IntKind.u64 0), (Value.int IntKind.u64 0), (Value.int IntKind.u64 0), (Value.int IntKind.u64 0), (Value.int IntKind.u64 0), (Value.int IntKind.u64 0), (Value.int IntKind.u64 0), (Value.int IntKind.u64 0), (Value.int IntKind.u64 0), (Value.int IntKind.u64 0), (Value.int IntKind.u64 0), (Value.int IntKind.u64 0), (Value.int IntKind.u64 0), (Value.int IntKind.u64 0), (Value.int IntKind.u64 0), (Value.int IntKind.u64 0), (Value.int IntKind.u64 0), (Value.int IntKind.u64 0), (Value.int IntKind.u64 0), (Value.int IntKind.u64 0), (Value.int IntKind.u64 0), (Value.int IntKind.u64 0), (Value.int IntKind.u64 0), (Value.int IntKind.u64 0), (Value.int IntKind.u64 0), (Value.int IntKind.u64 0), (Value.int IntKind.u64 0), (Value.int IntKind.u64 0), (Value.int IntKind.u64 0), (Value.int IntKind.u64 0), (Value.int IntKind.u64 0), (Value.int IntKind.u64 0), (Value.int IntKind.u64 0), (Value.int IntKind.u64 0), (Value.int IntKind.u64 0), (Value.int IntKind.u64 0), (Value.int IntKind.u64 0), (Value.int IntKind.u64 0), (Value.int IntKind.u64 0), (Value.int IntKind.u64 0), (Value.int IntKind.u64 0), (Value.int IntKind.u64 0), (Value.int IntKind.u64 0), (Value.int IntKind.u64 0), (Value.int IntKind.u64 0), (Value.int IntKind.u64 0), (Value.int IntKind.u64 0), (Value.int IntKind.u64 0), (Value.int IntKind.u64 0), (Value.int IntKind.u64 0), (Value.int IntKind.u64 0), (Value.int IntKind.u64 0), (Value.int IntKind.u64 0), (Value.int IntKind.u64 0), (Value.int IntKind.u64 0), (Value.int IntKind.u64 0), (Value.int IntKind.u64 0), (Value.int IntKind.u64 0), (Value.int IntKind.u64 0), (Value.int IntKind.u64 0), (Value.int IntKind.u64 0), (Value.int IntKind.u64 0), (Value.int IntKind.u64 0), (Value.int IntKind.u64 0), (Value.int IntKind.u64 0), (Value.int IntKind.u64 0), (Value.int IntKind.u64 0), (Value.int IntKind.u64 0), (Value.int IntKind.u64 0), (Value.int IntKind.u64 0), (Value.int IntKind.u64 0), (Value.int IntKind.u64 0), (Value.int IntKind.u64 0), (Value.int IntKind.u64 0), (Value.int IntKind.u64 0), (Value.int IntKind.u64 0), (Value.int IntKind.u64 0), (Value.int IntKind.u64 0), (Value.int IntKind.u64 0), (Value.int IntKind.u64 0), (Value.int IntKind.u64 0), (Value.int IntKind.u64 0), (Value.int IntKind.u64 0), (Value.int IntKind.u64 0), (Value.int IntKind.u64 0), (Value.int IntKind.u64 0), (Value.int IntKind.u64 0), (Value.int IntKind.u64 0), (Value.int IntKind.u64 0), (Value.int IntKind.u64 0), (Value.int IntKind.u64 0), (Value.int IntKind.u64 0), (Value.int IntKind.u64 0), (Value.int IntKind.u64 0), (Value.int IntKind.u64 0), (Value.bool false), (Value.int IntKind.i64 0), (Value.int IntKind.i64 0)] := kz_iso (kz_pair (kz_arr 24 kzTern) (kz_pair kz_bool (kz_pair kz_i64 kz_i64)))
structure Rule where
  Cube : (Vector Tern 24)
  Atoms : (List Atom)
  deriving DecidableEq, Inhabited
def kRule : Kd Rule := kiso (kpair (karr 24 kTern) (ksl kAtom)) (fun x => (x.Cube, x.Atoms))
def lRule_0 : Lens kRule (karr 24 kTern) := Lens.iso (k := (kpair (karr 24 kTern) (ksl kAtom))) (Lens.fst _ _) Rule.Cube (fun x y => { x with Cube := y }) (fun _ => rfl) (fun _ _ => rfl)
def lRule_1 : Lens kRule (ksl kAtom) := Lens.iso (k := (kpair (karr 24 kTern) (ksl kAtom))) (Lens.snd _ _) Rule.Atoms (fun x y => { x with Atoms := y }) (fun _ => rfl) (fun _ _ => rfl)
def zRule : Rule := ⟨(Vector.replicate 24 zTern), []⟩
theorem kzRule : KZ kRule zRule [(Value.int IntKind.u64 0), (Value.int IntKind.u64 0), (Value.int IntKind.u64 0), (Value.int IntKind.u64 0), (Value.int IntKind.u64 0), (Value.int IntKind.u64 0), (Value.int IntKind.u64 0), (Value.int IntKind.u64 0), (Value.int IntKind.u64 0), (Value.int IntKind.u64 0), (Value.int IntKind.u64 0), (Value.int IntKind.u64 0), (Value.int IntKind.u64 0), (Value.int IntKind.u64 0), (Value.int IntKind.u64 0), (Value.int IntKind.u64 0), (Value.int IntKind.u64 0), (Value.int IntKind.u64 0), (Value.int IntKind.u64 0), (Value.int IntKind.u64 0), (Value.int IntKind.u64 0), (Value.int IntKind.u64 0), (Value.int IntKind.u64 0), (Value.int IntKind.u64 0), (Value.int IntKind.u64 0), (Value.int IntKind.u64 0), (Value.int IntKind.u64 0), (Value.int IntKind.u64 0), (Value.int IntKind.u64 0), (Value.int IntKind.u64 0), (Value.int IntKind.u64 0), (Value.int IntKind.u64 0), (Value.int IntKind.u64 0), (Value.int IntKind.u64 0), (Value.int IntKind.u64 0), (Value.int IntKind.u64 0), (Value.int IntKind.u64 0), (Value.int IntKind.u64 0), (Value.int IntKind.u64 0), (Value.int IntKind.u64 0), (Value.int IntKind.u64 0), (Value.int IntKind.u64 0), (Value.int IntKind.u64 0), (Value.int IntKind.u64 0), (Value.int IntKind.u64 0), (Value.int IntKind.u64 0), (Value.int IntKind.u64 0), (Value.int IntKind.u64 0), (Value.int IntKind.u64 0), (Value.int IntKind.u64 0), (Value.int IntKind.u64 0), (Value.int IntKind.u64 0), (Value.int IntKind.u64 0), (Value.int IntKind.u64 0), (Value.int IntKind.u64 0), (Value.int IntKind.u64 0), (Value.int IntKind.u64 0), (Value.int IntKind.u64 0), (Value.int IntKind.u64 0), (Value.int IntKind.u64 0), (Value.int IntKind.u64 0), (Value.int IntKind.u64 0), (Value.int IntKind.u64 0), (Value.int IntKind.u64 0), (Value.int IntKind.u64 0), (Value.int IntKind.u64 0), (Value.int IntKind.u64 0), (Value.int IntKind.u64 0), (Value.int IntKind.u64 0), (Value.int IntKind.u64 0), (Value.int IntKind.u64 0), (Value.int IntKind.u64 0), (Value.int IntKind.u64 0), (Value.int IntKind.u64 0), (Value.int IntKind.u64 0), (Value.int IntKind.u64 0), (Value.int IntKind.u64 0), (Value.int IntKind.u64 0), (Value.int IntKind.u64 0), (Value.int IntKind.u64 0), (Value.int IntKind.u64 0), (Value.int IntKind.u64 0), (Value.int IntKind.u64 0), (Value.int IntKind.u64 0), (Value.int IntKind.u64 0), (Value.int IntKind.u64 0), (Value.int IntKind.u64 0), (Value.int IntKind.u64 0), (Value.int IntKind.u64 0), (Value.int IntKind.u64 0), (Value.int IntKind.u64 0), (Value.int IntKind.u64 0), (Value.int IntKind.u64 0), (Value.int IntKind.u64 0), (Value.int IntKind.u64 0), (Value.int IntKind.u64 0), (Value.slice none 0 0)] := kz_iso (kz_pair (kz_arr 24 kzTern) (kz_sl _))
structure Oxm where
  Field : Int
  Masked : Bool
  Value : Wide
  Mask : Wide
  deriving DecidableEq, Inhabited
def kOxm : Kd Oxm := kiso (kpair (kint .i64) (kpair kbool (kpair kWide kWide))) (fun x => (x.Field, (x.Masked, (x.Value, x.Mask))))
instance : PureK kOxm := inferInstanceAs (PureK (kiso (kpair (kint .i64) (kpair kbool (kpair kWide kWide))) (fun (x : Oxm) => (x.Field, (x.Masked, (x.Value, x.Mask))))))
def lOxm_0 : Lens kOxm (kint .i64) := Lens.iso (k := (kpair (kint .i64) (kpair kbool (kpair kWide kWide)))) (Lens.fst _ _) Oxm.Field (fun x y => { x with Field := y }) (fun _ => rfl) (fun _ _ => rfl)
def lOxm_1 : Lens kOxm kbool := Lens.iso (k := (kpair (kint .i64) (kpair kbool (kpair kWide kWide)))) (Lens.comp (Lens.snd _ _) (Lens.fst _ _)) Oxm.Masked (fun x y => { x with Masked := y }) (fun _ => rfl) (fun _ _ => rfl)
def lOxm_2 : Lens kOxm kWide := Lens.iso (k := (kpair (kint .i64) (kpair kbool (kpair kWide kWide)))) (Lens.comp (Lens.comp (Lens.snd _ _) (Lens.snd _ _)) (Lens.fst _ _)) Oxm.Value (fun x y => { x with Value := y }) (fun _ => rfl) (fun _ _ => rfl)
def lOxm_3 : Lens kOxm kWide := Lens.iso (k := (kpair (kint .i64) (kpair kbool (kpair kWide kWide)))) (Lens.comp (Lens.comp (Lens.snd _ _) (Lens.snd _ _)) (Lens.snd _ _)) Oxm.Mask (fun x y => { x with Mask := y }) (fun _ => rfl) (fun _ _ => rfl)
def zOxm : Oxm := ⟨0, false, zWide, zWide⟩
theorem kzOxm : KZ kOxm zOxm [(Value.int IntKind.i64 0), (Value.bool false), (Value.int IntKind.u64 0), (Value.int IntKind.u64 0), (Value.int IntKind.u64 0), (Value.int IntKind.u64 0)] := kz_iso (kz_pair kz_i64 (kz_pair kz_bool (kz_pair kzWide kzWide)))
structure Action where
  Kind : Int
  Port : Int
  Max : Int
  Group : Int
  Ether : Int
  Oxm : Oxm
  deriving DecidableEq, Inhabited
def kAction : Kd Action := kiso (kpair (kint .i64) (kpair (kint .i64) (kpair (kint .i64) (kpair (kint .i64) (kpair (kint .i64) kOxm))))) (fun x => (x.Kind, (x.Port, (x.Max, (x.Group, (x.Ether, x.Oxm))))))
instance : PureK kAction := inferInstanceAs (PureK (kiso (kpair (kint .i64) (kpair (kint .i64) (kpair (kint .i64) (kpair (kint .i64) (kpair (kint .i64) kOxm))))) (fun (x : Action) => (x.Kind, (x.Port, (x.Max, (x.Group, (x.Ether, x.Oxm))))))))
def lAction_0 : Lens kAction (kint .i64) := Lens.iso (k := (kpair (kint .i64) (kpair (kint .i64) (kpair (kint .i64) (kpair (kint .i64) (kpair (kint .i64) kOxm)))))) (Lens.fst _ _) Action.Kind (fun x y => { x with Kind := y }) (fun _ => rfl) (fun _ _ => rfl)
def lAction_1 : Lens kAction (kint .i64) := Lens.iso (k := (kpair (kint .i64) (kpair (kint .i64) (kpair (kint .i64) (kpair (kint .i64) (kpair (kint .i64) kOxm)))))) (Lens.comp (Lens.snd _ _) (Lens.fst _ _)) Action.Port (fun x y => { x with Port := y }) (fun _ => rfl) (fun _ _ => rfl)
def lAction_2 : Lens kAction (kint .i64) := Lens.iso (k := (kpair (kint .i64) (kpair (kint .i64) (kpair (kint .i64) (kpair (kint .i64) (kpair (kint .i64) kOxm)))))) (Lens.comp (Lens.comp (Lens.snd _ _) (Lens.snd _ _)) (Lens.fst _ _)) Action.Max (fun x y => { x with Max := y }) (fun _ => rfl) (fun _ _ => rfl)
def lAction_3 : Lens kAction (kint .i64) := Lens.iso (k := (kpair (kint .i64) (kpair (kint .i64) (kpair (kint .i64) (kpair (kint .i64) (kpair (kint .i64) kOxm)))))) (Lens.comp (Lens.comp (Lens.comp (Lens.snd _ _) (Lens.snd _ _)) (Lens.snd _ _)) (Lens.fst _ _)) Action.Group (fun x y => { x with Group := y }) (fun _ => rfl) (fun _ _ => rfl)
def lAction_5 : Lens kAction kOxm := Lens.iso (k := (kpair (kint .i64) (kpair (kint .i64) (kpair (kint .i64) (kpair (kint .i64) (kpair (kint .i64) kOxm)))))) (Lens.comp (Lens.comp (Lens.comp (Lens.comp (Lens.snd _ _) (Lens.snd _ _)) (Lens.snd _ _)) (Lens.snd _ _)) (Lens.snd _ _)) Action.Oxm (fun x y => { x with Oxm := y }) (fun _ => rfl) (fun _ _ => rfl)
def zAction : Action := ⟨0, 0, 0, 0, 0, zOxm⟩
theorem kzAction : KZ kAction zAction [(Value.int IntKind.i64 0), (Value.int IntKind.i64 0), (Value.int IntKind.i64 0), (Value.int IntKind.i64 0), (Value.int IntKind.i64 0), (Value.int IntKind.i64 0), (Value.bool false), (Value.int IntKind.u64 0), (Value.int IntKind.u64 0), (Value.int IntKind.u64 0), (Value.int IntKind.u64 0)] := kz_iso (kz_pair kz_i64 (kz_pair kz_i64 (kz_pair kz_i64 (kz_pair kz_i64 (kz_pair kz_i64 kzOxm)))))
structure Bucket where
  Weight : Int
  Watch : Int
  WatchGroup : Int
  Acts : (List Action)
  deriving DecidableEq, Inhabited
def kBucket : Kd Bucket := kiso (kpair (kint .i64) (kpair (kint .i64) (kpair (kint .i64) (ksl kAction)))) (fun x => (x.Weight, (x.Watch, (x.WatchGroup, x.Acts))))
def lBucket_1 : Lens kBucket (kint .i64) := Lens.iso (k := (kpair (kint .i64) (kpair (kint .i64) (kpair (kint .i64) (ksl kAction))))) (Lens.comp (Lens.snd _ _) (Lens.fst _ _)) Bucket.Watch (fun x y => { x with Watch := y }) (fun _ => rfl) (fun _ _ => rfl)
def lBucket_3 : Lens kBucket (ksl kAction) := Lens.iso (k := (kpair (kint .i64) (kpair (kint .i64) (kpair (kint .i64) (ksl kAction))))) (Lens.comp (Lens.comp (Lens.snd _ _) (Lens.snd _ _)) (Lens.snd _ _)) Bucket.Acts (fun x y => { x with Acts := y }) (fun _ => rfl) (fun _ _ => rfl)
def zBucket : Bucket := ⟨0, 0, 0, []⟩
theorem kzBucket : KZ kBucket zBucket [(Value.int IntKind.i64 0), (Value.int IntKind.i64 0), (Value.int IntKind.i64 0), (Value.slice none 0 0)] := kz_iso (kz_pair kz_i64 (kz_pair kz_i64 (kz_pair kz_i64 (kz_sl _))))
structure Group where
  ID : Int
  Kind : Int
  Buckets : (List Bucket)
  deriving DecidableEq, Inhabited
def kGroup : Kd Group := kiso (kpair (kint .i64) (kpair (kint .i64) (ksl kBucket))) (fun x => (x.ID, (x.Kind, x.Buckets)))
def lGroup_0 : Lens kGroup (kint .i64) := Lens.iso (k := (kpair (kint .i64) (kpair (kint .i64) (ksl kBucket)))) (Lens.fst _ _) Group.ID (fun x y => { x with ID := y }) (fun _ => rfl) (fun _ _ => rfl)
def lGroup_1 : Lens kGroup (kint .i64) := Lens.iso (k := (kpair (kint .i64) (kpair (kint .i64) (ksl kBucket)))) (Lens.comp (Lens.snd _ _) (Lens.fst _ _)) Group.Kind (fun x y => { x with Kind := y }) (fun _ => rfl) (fun _ _ => rfl)
def lGroup_2 : Lens kGroup (ksl kBucket) := Lens.iso (k := (kpair (kint .i64) (kpair (kint .i64) (ksl kBucket)))) (Lens.comp (Lens.snd _ _) (Lens.snd _ _)) Group.Buckets (fun x y => { x with Buckets := y }) (fun _ => rfl) (fun _ _ => rfl)
def zGroup : Group := ⟨0, 0, []⟩
theorem kzGroup : KZ kGroup zGroup [(Value.int IntKind.i64 0), (Value.int IntKind.i64 0), (Value.slice none 0 0)] := kz_iso (kz_pair kz_i64 (kz_pair kz_i64 (kz_sl _)))
structure Flat where
  Rules : (List Rule)
  Groups : (List Group)
  deriving DecidableEq, Inhabited
def kFlat : Kd Flat := kiso (kpair (ksl kRule) (ksl kGroup)) (fun x => (x.Rules, x.Groups))
def lFlat_0 : Lens kFlat (ksl kRule) := Lens.iso (k := (kpair (ksl kRule) (ksl kGroup))) (Lens.fst _ _) Flat.Rules (fun x y => { x with Rules := y }) (fun _ => rfl) (fun _ _ => rfl)
def lFlat_1 : Lens kFlat (ksl kGroup) := Lens.iso (k := (kpair (ksl kRule) (ksl kGroup))) (Lens.snd _ _) Flat.Groups (fun x y => { x with Groups := y }) (fun _ => rfl) (fun _ _ => rfl)
def zFlat : Flat := ⟨[], []⟩
theorem kzFlat : KZ kFlat zFlat [(Value.slice none 0 0), (Value.slice none 0 0)] := kz_iso (kz_pair (kz_sl _) (kz_sl _))
structure cover_purse where
  left : Int
  free : Bool
  deriving DecidableEq, Inhabited
def kcover_purse : Kd cover_purse := kiso (kpair (kint .i64) kbool) (fun x => (x.left, x.free))
instance : PureK kcover_purse := inferInstanceAs (PureK (kiso (kpair (kint .i64) kbool) (fun (x : cover_purse) => (x.left, x.free))))
def lcover_purse_0 : Lens kcover_purse (kint .i64) := Lens.iso (k := (kpair (kint .i64) kbool)) (Lens.fst _ _) cover_purse.left (fun x y => { x with left := y }) (fun _ => rfl) (fun _ _ => rfl)
def lcover_purse_1 : Lens kcover_purse kbool := Lens.iso (k := (kpair (kint .i64) kbool)) (Lens.snd _ _) cover_purse.free (fun x y => { x with free := y }) (fun _ => rfl) (fun _ _ => rfl)
def zcover_purse : cover_purse := ⟨0, false⟩
theorem kzcover_purse : KZ kcover_purse zcover_purse [(Value.int IntKind.i64 0), (Value.bool false)] := kz_iso (kz_pair kz_i64 kz_bool)
structure cover_look where
  purse : cover_purse
  deriving DecidableEq, Inhabited
def kcover_look : Kd cover_look := kiso kcover_purse (fun x => x.purse)
instance : PureK kcover_look := inferInstanceAs (PureK (kiso kcover_purse (fun (x : cover_look) => x.purse)))
def lcover_look_0 : Lens kcover_look kcover_purse := Lens.iso (k := kcover_purse) (Lens.id _) cover_look.purse (fun x y => { x with purse := y }) (fun _ => rfl) (fun _ _ => rfl)
def zcover_look : cover_look := ⟨zcover_purse⟩
theorem kzcover_look : KZ kcover_look zcover_look [(Value.int IntKind.i64 0), (Value.bool false)] := kz_iso kzcover_purse
structure Env where
  Turn : Int
  Down : (List Int)
  deriving DecidableEq, Inhabited
def kEnv : Kd Env := kiso (kpair (kint .i64) (ksl (kint .i64))) (fun x => (x.Turn, x.Down))
def lEnv_0 : Lens kEnv (kint .i64) := Lens.iso (k := (kpair (kint .i64) (ksl (kint .i64)))) (Lens.fst _ _) Env.Turn (fun x y => { x with Turn := y }) (fun _ => rfl) (fun _ _ => rfl)
def lEnv_1 : Lens kEnv (ksl (kint .i64)) := Lens.iso (k := (kpair (kint .i64) (ksl (kint .i64)))) (Lens.snd _ _) Env.Down (fun x y => { x with Down := y }) (fun _ => rfl) (fun _ _ => rfl)
def zEnv : Env := ⟨0, []⟩
theorem kzEnv : KZ kEnv zEnv [(Value.int IntKind.i64 0), (Value.slice none 0 0)] := kz_iso (kz_pair kz_i64 (kz_sl _))
structure env_world where
  Env : Env
  Group : Group
  deriving DecidableEq, Inhabited
def kenv_world : Kd env_world := kiso (kpair kEnv kGroup) (fun x => (x.Env, x.Group))
def lenv_world_0 : Lens kenv_world kEnv := Lens.iso (k := (kpair kEnv kGroup)) (Lens.fst _ _) env_world.Env (fun x y => { x with Env := y }) (fun _ => rfl) (fun _ _ => rfl)
def lenv_world_1 : Lens kenv_world kGroup := Lens.iso (k := (kpair kEnv kGroup)) (Lens.snd _ _) env_world.Group (fun x y => { x with Group := y }) (fun _ => rfl) (fun _ _ => rfl)
def zenv_world : env_world := ⟨zEnv, zGroup⟩
theorem kzenv_world : KZ kenv_world zenv_world [(Value.int IntKind.i64 0), (Value.slice none 0 0), (Value.int IntKind.i64 0), (Value.int IntKind.i64 0), (Value.slice none 0 0)] := kz_iso (kz_pair kzEnv kzGroup)
structure aset_spot where
  kind : Int
  field : Int
  deriving DecidableEq, Inhabited
def kaset_spot : Kd aset_spot := kiso (kpair (kint .i64) (kint .i64)) (fun x => (x.kind, x.field))
instance : PureK kaset_spot := inferInstanceAs (PureK (kiso (kpair (kint .i64) (kint .i64)) (fun (x : aset_spot) => (x.kind, x.field))))
def laset_spot_0 : Lens kaset_spot (kint .i64) := Lens.iso (k := (kpair (kint .i64) (kint .i64))) (Lens.fst _ _) aset_spot.kind (fun x y => { x with kind := y }) (fun _ => rfl) (fun _ _ => rfl)
def laset_spot_1 : Lens kaset_spot (kint .i64) := Lens.iso (k := (kpair (kint .i64) (kint .i64))) (Lens.snd _ _) aset_spot.field (fun x y => { x with field := y }) (fun _ => rfl) (fun _ _ => rfl)
def zaset_spot : aset_spot := ⟨0, 0⟩
theorem kzaset_spot : KZ kaset_spot zaset_spot [(Value.int IntKind.i64 0), (Value.int IntKind.i64 0)] := kz_iso (kz_pair kz_i64 kz_i64)
structure field_row where
  name : ByteArray
  id : Int
  bits : Int
  masks : Bool
  deriving DecidableEq, Inhabited
def kfield_row : Kd field_row := kiso (kpair kstr (kpair (kint .i64) (kpair (kint .i64) kbool))) (fun x => (x.name, (x.id, (x.bits, x.masks))))
instance : PureK kfield_row := inferInstanceAs (PureK (kiso (kpair kstr (kpair (kint .i64) (kpair (kint .i64) kbool))) (fun (x : field_row) => (x.name, (x.id, (x.bits, x.masks))))))
def lfield_row_0 : Lens kfield_row kstr := Lens.iso (k := (kpair kstr (kpair (kint .i64) (kpair (kint .i64) kbool)))) (Lens.fst _ _) field_row.name (fun x y => { x with name := y }) (fun _ => rfl) (fun _ _ => rfl)
def lfield_row_1 : Lens kfield_row (kint .i64) := Lens.iso (k := (kpair kstr (kpair (kint .i64) (kpair (kint .i64) kbool)))) (Lens.comp (Lens.snd _ _) (Lens.fst _ _)) field_row.id (fun x y => { x with id := y }) (fun _ => rfl) (fun _ _ => rfl)
def lfield_row_2 : Lens kfield_row (kint .i64) := Lens.iso (k := (kpair kstr (kpair (kint .i64) (kpair (kint .i64) kbool)))) (Lens.comp (Lens.comp (Lens.snd _ _) (Lens.snd _ _)) (Lens.fst _ _)) field_row.bits (fun x y => { x with bits := y }) (fun _ => rfl) (fun _ _ => rfl)
def lfield_row_3 : Lens kfield_row kbool := Lens.iso (k := (kpair kstr (kpair (kint .i64) (kpair (kint .i64) kbool)))) (Lens.comp (Lens.comp (Lens.snd _ _) (Lens.snd _ _)) (Lens.snd _ _)) field_row.masks (fun x y => { x with masks := y }) (fun _ => rfl) (fun _ _ => rfl)
def zfield_row : field_row := ⟨(⟨#[]⟩ : ByteArray), 0, 0, false⟩
theorem kzfield_row : KZ kfield_row zfield_row [(Value.string { data := #[] }), (Value.int IntKind.i64 0), (Value.int IntKind.i64 0), (Value.bool false)] := kz_iso (kz_pair kz_str (kz_pair kz_i64 (kz_pair kz_i64 kz_bool)))
structure Out where
  Port : Int
  Max : Int
  Header : (Vector Wide 24)
  deriving DecidableEq, Inhabited
def kOut : Kd Out := kiso (kpair (kint .i64) (kpair (kint .i64) (karr 24 kWide))) (fun x => (x.Port, (x.Max, x.Header)))
instance : PureK kOut := inferInstanceAs (PureK (kiso (kpair (kint .i64) (kpair (kint .i64) (karr 24 kWide))) (fun (x : Out) => (x.Port, (x.Max, x.Header)))))
def lOut_0 : Lens kOut (kint .i64) := Lens.iso (k := (kpair (kint .i64) (kpair (kint .i64) (karr 24 kWide)))) (Lens.fst _ _) Out.Port (fun x y => { x with Port := y }) (fun _ => rfl) (fun _ _ => rfl)
def lOut_1 : Lens kOut (kint .i64) := Lens.iso (k := (kpair (kint .i64) (kpair (kint .i64) (karr 24 kWide)))) (Lens.comp (Lens.snd _ _) (Lens.fst _ _)) Out.Max (fun x y => { x with Max := y }) (fun _ => rfl) (fun _ _ => rfl)
def lOut_2 : Lens kOut (karr 24 kWide) := Lens.iso (k := (kpair (kint .i64) (kpair (kint .i64) (karr 24 kWide)))) (Lens.comp (Lens.snd _ _) (Lens.snd _ _)) Out.Header (fun x y => { x with Header := y }) (fun _ => rfl) (fun _ _ => rfl)
def zOut : Out := ⟨0, 0, (Vector.replicate 24 zWide)⟩
theorem kzOut : KZ kOut zOut [(Value.int IntKind.i64 0), (Value.int IntKind.i64 0), (Value.int IntKind.u64 0), (Value.int IntKind.u64 0), (Value.int IntKind.u64 0), (Value.int IntKind.u64 0), (Value.int IntKind.u64 0), (Value.int IntKind.u64 0), (Value.int IntKind.u64 0), (Value.int IntKind.u64 0), (Value.int IntKind.u64 0), (Value.int IntKind.u64 0), (Value.int IntKind.u64 0), (Value.int IntKind.u64 0), (Value.int IntKind.u64 0), (Value.int IntKind.u64 0), (Value.int IntKind.u64 0), (Value.int IntKind.u64 0), (Value.int IntKind.u64 0), (Value.int IntKind.u64 0), (Value.int IntKind.u64 0), (Value.int IntKind.u64 0), (Value.int IntKind.u64 0), (Value.int IntKind.u64 0), (Value.int IntKind.u64 0), (Value.int IntKind.u64 0), (Value.int IntKind.u64 0), (Value.int IntKind.u64 0), (Value.int IntKind.u64 0), (Value.int IntKind.u64 0), (Value.int IntKind.u64 0), (Value.int IntKind.u64 0), (Value.int IntKind.u64 0), (Value.int IntKind.u64 0), (Value.int IntKind.u64 0), (Value.int IntKind.u64 0), (Value.int IntKind.u64 0), (Value.int IntKind.u64 0), (Value.int IntKind.u64 0), (Value.int IntKind.u64 0), (Value.int IntKind.u64 0), (Value.int IntKind.u64 0), (Value.int IntKind.u64 0), (Value.int IntKind.u64 0), (Value.int IntKind.u64 0), (Value.int IntKind.u64 0), (Value.int IntKind.u64 0), (Value.int IntKind.u64 0), (Value.int IntKind.u64 0), (Value.int IntKind.u64 0)] := kz_iso (kz_pair kz_i64 (kz_pair kz_i64 (kz_arr 24 kzWide)))
structure exec_run where
  Env : Env
  groups : (List Group)
  out : (List Out)
  header : (Vector Wide 24)
  depth : Int
  deriving DecidableEq, Inhabited
structure exec_run_o2 where
  Env : Env
  groups : (List Group)
  out : Value
  header : (Vector Wide 24)
  depth : Int
def kexec_run_o2 : Kd exec_run_o2 := kiso (kpair kEnv (kpair (ksl kGroup) (kpair kraw (kpair (karr 24 kWide) (kint .i64))))) (fun x => (x.Env, (x.groups, (x.out, (x.header, x.depth)))))
def lexec_run_o2_0 : Lens kexec_run_o2 kEnv := Lens.iso (k := (kpair kEnv (kpair (ksl kGroup) (kpair kraw (kpair (karr 24 kWide) (kint .i64)))))) (Lens.fst _ _) exec_run_o2.Env (fun x y => { x with Env := y }) (fun _ => rfl) (fun _ _ => rfl)
def lexec_run_o2_1 : Lens kexec_run_o2 (ksl kGroup) := Lens.iso (k := (kpair kEnv (kpair (ksl kGroup) (kpair kraw (kpair (karr 24 kWide) (kint .i64)))))) (Lens.comp (Lens.snd _ _) (Lens.fst _ _)) exec_run_o2.groups (fun x y => { x with groups := y }) (fun _ => rfl) (fun _ _ => rfl)
def lexec_run_o2_2 : Lens kexec_run_o2 kraw := Lens.iso (k := (kpair kEnv (kpair (ksl kGroup) (kpair kraw (kpair (karr 24 kWide) (kint .i64)))))) (Lens.comp (Lens.comp (Lens.snd _ _) (Lens.snd _ _)) (Lens.fst _ _)) exec_run_o2.out (fun x y => { x with out := y }) (fun _ => rfl) (fun _ _ => rfl)
def lexec_run_o2_3 : Lens kexec_run_o2 (karr 24 kWide) := Lens.iso (k := (kpair kEnv (kpair (ksl kGroup) (kpair kraw (kpair (karr 24 kWide) (kint .i64)))))) (Lens.comp (Lens.comp (Lens.comp (Lens.snd _ _) (Lens.snd _ _)) (Lens.snd _ _)) (Lens.fst _ _)) exec_run_o2.header (fun x y => { x with header := y }) (fun _ => rfl) (fun _ _ => rfl)
def lexec_run_o2_4 : Lens kexec_run_o2 (kint .i64) := Lens.iso (k := (kpair kEnv (kpair (ksl kGroup) (kpair kraw (kpair (karr 24 kWide) (kint .i64)))))) (Lens.comp (Lens.comp (Lens.comp (Lens.snd _ _) (Lens.snd _ _)) (Lens.snd _ _)) (Lens.snd _ _)) exec_run_o2.depth (fun x y => { x with depth := y }) (fun _ => rfl) (fun _ _ => rfl)
def zexec_run_o2 : exec_run_o2 := ⟨zEnv, [], (.slice none 0 0), (Vector.replicate 24 zWide), 0⟩
theorem kzexec_run_o2 : KZ kexec_run_o2 zexec_run_o2 [(Value.int IntKind.i64 0), (Value.slice none 0 0), (Value.slice none 0 0), (Value.slice none 0 0), (Value.int IntKind.u64 0), (Value.int IntKind.u64 0), (Value.int IntKind.u64 0), (Value.int IntKind.u64 0), (Value.int IntKind.u64 0), (Value.int IntKind.u64 0), (Value.int IntKind.u64 0), (Value.int IntKind.u64 0), (Value.int IntKind.u64 0), (Value.int IntKind.u64 0), (Value.int IntKind.u64 0), (Value.int IntKind.u64 0), (Value.int IntKind.u64 0), (Value.int IntKind.u64 0), (Value.int IntKind.u64 0), (Value.int IntKind.u64 0), (Value.int IntKind.u64 0), (Value.int IntKind.u64 0), (Value.int IntKind.u64 0), (Value.int IntKind.u64 0), (Value.int IntKind.u64 0), (Value.int IntKind.u64 0), (Value.int IntKind.u64 0), (Value.int IntKind.u64 0), (Value.int IntKind.u64 0), (Value.int IntKind.u64 0), (Value.int IntKind.u64 0), (Value.int IntKind.u64 0), (Value.int IntKind.u64 0), (Value.int IntKind.u64 0), (Value.int IntKind.u64 0), (Value.int IntKind.u64 0), (Value.int IntKind.u64 0), (Value.int IntKind.u64 0), (Value.int IntKind.u64 0), (Value.int IntKind.u64 0), (Value.int IntKind.u64 0), (Value.int IntKind.u64 0), (Value.int IntKind.u64 0), (Value.int IntKind.u64 0), (Value.int IntKind.u64 0), (Value.int IntKind.u64 0), (Value.int IntKind.u64 0), (Value.int IntKind.u64 0), (Value.int IntKind.u64 0), (Value.int IntKind.u64 0), (Value.int IntKind.u64 0), (Value.int IntKind.u64 0), (Value.int IntKind.i64 0)] := kz_iso (kz_pair kzEnv (kz_pair (kz_sl _) (kz_pair (kz_raw rfl) (kz_pair (kz_arr 24 kzWide) kz_i64))))
theorem sl32 : Sl Tryz.prog 32 90 kRule := ⟨by kernel_rfl, by kernel_rfl⟩
theorem ty90 : Ty Tryz.prog 90 kRule := ⟨by kernel_rfl, by kernel_rfl⟩
theorem sl88 : Sl Tryz.prog 88 126 kAtom := ⟨by kernel_rfl, by kernel_rfl⟩
theorem fl90_1 : Fl Tryz.prog 90 1 lRule_1 := ⟨by kernel_rfl, rfl⟩
theorem ty88 : Ty Tryz.prog 88 (ksl kAtom) := ⟨by kernel_rfl, by kernel_rfl⟩
theorem sl162 : Sl Tryz.prog 162 226 kBucket := ⟨by kernel_rfl, by kernel_rfl⟩
theorem ty226 : Ty Tryz.prog 226 kBucket := ⟨by kernel_rfl, by kernel_rfl⟩
theorem sl122 : Sl Tryz.prog 122 121 kAction := ⟨by kernel_rfl, by kernel_rfl⟩
theorem fl226_3 : Fl Tryz.prog 226 3 lBucket_3 := ⟨by kernel_rfl, rfl⟩
theorem ty122 : Ty Tryz.prog 122 (ksl kAction) := ⟨by kernel_rfl, by kernel_rfl⟩
theorem fl164_2 : Fl Tryz.prog 164 2 lGroup_2 := ⟨by kernel_rfl, rfl⟩
theorem ty162 : Ty Tryz.prog 162 (ksl kBucket) := ⟨by kernel_rfl, by kernel_rfl⟩
theorem ty3 : Ty Tryz.prog 3 (kint .i64) := ⟨by kernel_rfl, by kernel_rfl⟩
theorem sl24 : Sl Tryz.prog 24 164 kGroup := ⟨by kernel_rfl, by kernel_rfl⟩
theorem ty164 : Ty Tryz.prog 164 kGroup := ⟨by kernel_rfl, by kernel_rfl⟩
theorem zr42 : Zr Tryz.prog 42 kWide zWide := ⟨_, kzWide, by kernel_rfl⟩
theorem fl42_0 : Fl Tryz.prog 42 0 lWide_0 := ⟨by kernel_rfl, rfl⟩
theorem ty40 : Ty Tryz.prog 40 ku64 := ⟨by kernel_rfl, by kernel_rfl⟩
theorem fl42_1 : Fl Tryz.prog 42 1 lWide_1 := ⟨by kernel_rfl, rfl⟩
theorem ty42 : Ty Tryz.prog 42 kWide := ⟨by kernel_rfl, by kernel_rfl⟩
theorem fl85_0 : Fl Tryz.prog 85 0 lTern_0 := ⟨by kernel_rfl, rfl⟩
theorem fl85_1 : Fl Tryz.prog 85 1 lTern_1 := ⟨by kernel_rfl, rfl⟩
theorem ty87 : Ty Tryz.prog 87 (karr 24 kTern) := ⟨by kernel_rfl, by kernel_rfl⟩
theorem ar87 : Ar Tryz.prog 87 85 24 kTern := ⟨by kernel_rfl, by kernel_rfl⟩
theorem ty85 : Ty Tryz.prog 85 kTern := ⟨by kernel_rfl, by kernel_rfl⟩
theorem zr85 : Zr Tryz.prog 85 kTern zTern := ⟨_, kzTern, by kernel_rfl⟩
theorem ar44 : Ar Tryz.prog 44 42 24 kWide := ⟨by kernel_rfl, by kernel_rfl⟩
theorem fl90_0 : Fl Tryz.prog 90 0 lRule_0 := ⟨by kernel_rfl, rfl⟩
theorem ty44 : Ty Tryz.prog 44 (karr 24 kWide) := ⟨by kernel_rfl, by kernel_rfl⟩
theorem fl73_0 : Fl Tryz.prog 73 0 lFlat_0 := ⟨by kernel_rfl, rfl⟩
theorem ty32 : Ty Tryz.prog 32 (ksl kRule) := ⟨by kernel_rfl, by kernel_rfl⟩
theorem el229 : El Tryz.prog 229 87 (karr 24 kTern) := ⟨by kernel_rfl, by kernel_rfl, by kernel_rfl, by kernel_rfl, by kernel_rfl⟩
theorem zr87 : Zr Tryz.prog 87 (karr 24 kTern) (Vector.replicate 24 zTern) := ⟨_, (kz_arr 24 kzTern), by kernel_rfl⟩
theorem zr90 : Zr Tryz.prog 90 kRule zRule := ⟨_, kzRule, by kernel_rfl⟩
theorem sl229 : Sl Tryz.prog 229 87 (karr 24 kTern) := ⟨by kernel_rfl, by kernel_rfl⟩
theorem fl288_1 : Fl Tryz.prog 288 1 lcover_purse_1 := ⟨by kernel_rfl, rfl⟩
theorem ty4 : Ty Tryz.prog 4 kbool := ⟨by kernel_rfl, by kernel_rfl⟩
theorem fl288_0 : Fl Tryz.prog 288 0 lcover_purse_0 := ⟨by kernel_rfl, rfl⟩
theorem zr44 : Zr Tryz.prog 44 (karr 24 kWide) (Vector.replicate 24 zWide) := ⟨_, (kz_arr 24 kzWide), by kernel_rfl⟩
theorem ft85_0 : fieldTy Tryz.prog 85 0 = some 42 := by kernel_rfl
theorem us40 : (Tryz.prog.underlying 40).isSome = true := by kernel_rfl
theorem un3 : Tryz.prog.underlying 3 = some (.int .i64) := by kernel_rfl
theorem zr367 : Zr Tryz.prog 367 (karr 2 ku64) (Vector.replicate 2 0) := ⟨_, (kz_arr 2 kz_u64), by kernel_rfl⟩
theorem ar367 : Ar Tryz.prog 367 40 2 ku64 := ⟨by kernel_rfl, by kernel_rfl⟩
theorem sl37 : Sl Tryz.prog 37 3 (kint .i64) := ⟨by kernel_rfl, by kernel_rfl⟩
theorem zr3 : Zr Tryz.prog 3 (kint .i64) 0 := ⟨_, kz_i64, by kernel_rfl⟩
theorem el37 : El Tryz.prog 37 3 (kint .i64) := ⟨by kernel_rfl, by kernel_rfl, by kernel_rfl, by kernel_rfl, by kernel_rfl⟩
theorem tyr286 : Ty Tryz.prog 286 kraw := ⟨by kernel_rfl, by kernel_rfl⟩
theorem tyk286 (A : Asrt) : Ty Tryz.prog 286 (kas A) := ⟨tyr286.sz, tyr286.ag⟩
theorem fl290_0 : Fl Tryz.prog 290 0 lcover_look_0 := ⟨by kernel_rfl, rfl⟩
theorem ty229 : Ty Tryz.prog 229 (ksl (karr 24 kTern)) := ⟨by kernel_rfl, by kernel_rfl⟩
theorem zr4 : Zr Tryz.prog 4 kbool false := ⟨_, kz_bool, by kernel_rfl⟩
theorem zr288 : Zr Tryz.prog 288 kcover_purse zcover_purse := ⟨_, kzcover_purse, by kernel_rfl⟩
theorem zr290 : Zr Tryz.prog 290 kcover_look zcover_look := ⟨_, kzcover_look, by kernel_rfl⟩
theorem ty101 : Ty Tryz.prog 101 (karr 24 kTern) := ⟨by kernel_rfl, by kernel_rfl⟩
theorem ar101 : Ar Tryz.prog 101 85 24 kTern := ⟨by kernel_rfl, by kernel_rfl⟩
theorem fl164_0 : Fl Tryz.prog 164 0 lGroup_0 := ⟨by kernel_rfl, rfl⟩
theorem el24 : El Tryz.prog 24 164 kGroup := ⟨by kernel_rfl, by kernel_rfl, by kernel_rfl, by kernel_rfl, by kernel_rfl⟩
theorem zr164 : Zr Tryz.prog 164 kGroup zGroup := ⟨_, kzGroup, by kernel_rfl⟩
theorem el162 : El Tryz.prog 162 226 kBucket := ⟨by kernel_rfl, by kernel_rfl, by kernel_rfl, by kernel_rfl, by kernel_rfl⟩
theorem zr226 : Zr Tryz.prog 226 kBucket zBucket := ⟨_, kzBucket, by kernel_rfl⟩
theorem el122 : El Tryz.prog 122 121 kAction := ⟨by kernel_rfl, by kernel_rfl, by kernel_rfl, by kernel_rfl, by kernel_rfl⟩
theorem zr121 : Zr Tryz.prog 121 kAction zAction := ⟨_, kzAction, by kernel_rfl⟩
theorem fl39_0 : Fl Tryz.prog 39 0 lEnv_0 := ⟨by kernel_rfl, rfl⟩
theorem fl39_1 : Fl Tryz.prog 39 1 lEnv_1 := ⟨by kernel_rfl, rfl⟩
theorem ty37 : Ty Tryz.prog 37 (ksl (kint .i64)) := ⟨by kernel_rfl, by kernel_rfl⟩
theorem fl328_0 : Fl Tryz.prog 328 0 lenv_world_0 := ⟨by kernel_rfl, rfl⟩
theorem ty39 : Ty Tryz.prog 39 kEnv := ⟨by kernel_rfl, by kernel_rfl⟩
theorem fl226_1 : Fl Tryz.prog 226 1 lBucket_1 := ⟨by kernel_rfl, rfl⟩
theorem fl328_1 : Fl Tryz.prog 328 1 lenv_world_1 := ⟨by kernel_rfl, rfl⟩
theorem zr328 : Zr Tryz.prog 328 kenv_world zenv_world := ⟨_, kzenv_world, by kernel_rfl⟩
theorem ty328 : Ty Tryz.prog 328 kenv_world := ⟨by kernel_rfl, by kernel_rfl⟩
theorem fl164_1 : Fl Tryz.prog 164 1 lGroup_1 := ⟨by kernel_rfl, rfl⟩
theorem zr275 : Zr Tryz.prog 275 kaset_spot zaset_spot := ⟨_, kzaset_spot, by kernel_rfl⟩
theorem fl121_0 : Fl Tryz.prog 121 0 lAction_0 := ⟨by kernel_rfl, rfl⟩
theorem fl121_5 : Fl Tryz.prog 121 5 lAction_5 := ⟨by kernel_rfl, rfl⟩
theorem fl119_0 : Fl Tryz.prog 119 0 lOxm_0 := ⟨by kernel_rfl, rfl⟩
theorem ty275 : Ty Tryz.prog 275 kaset_spot := ⟨by kernel_rfl, by kernel_rfl⟩
theorem ty121 : Ty Tryz.prog 121 kAction := ⟨by kernel_rfl, by kernel_rfl⟩
theorem eqk3 : EqK Tryz.prog 1 3 (kint .i64) := eqk_int (by kernel_rfl)
theorem eqk275 : EqK Tryz.prog 2 275 kaset_spot := eqk_st (fun x y e => by cases x; cases y; simp only [Prod.mk.injEq] at e; simp [e]) (l := _) (by kernel_rfl) (by kernel_rfl) (eqf_cons eqk3 ty3 (eqf_one eqk3 ty3))
theorem eg275 : Tryz.prog.eqGuardType Tryz.prog.depth 275 = false := by kernel_rfl
theorem us3 : (Tryz.prog.underlying 3).isSome = true := by kernel_rfl
theorem un360 : Tryz.prog.underlying 360 = some (.int .u64) := by kernel_rfl
theorem us360 : (Tryz.prog.underlying 360).isSome = true := by kernel_rfl
theorem fl275_0 : Fl Tryz.prog 275 0 laset_spot_0 := ⟨by kernel_rfl, rfl⟩
theorem fl275_1 : Fl Tryz.prog 275 1 laset_spot_1 := ⟨by kernel_rfl, rfl⟩
theorem fl121_1 : Fl Tryz.prog 121 1 lAction_1 := ⟨by kernel_rfl, rfl⟩
theorem fl121_2 : Fl Tryz.prog 121 2 lAction_2 := ⟨by kernel_rfl, rfl⟩
theorem zr101 : Zr Tryz.prog 101 (karr 24 kTern) (Vector.replicate 24 zTern) := ⟨_, (kz_arr 24 kzTern), by kernel_rfl⟩
theorem zr369 : Zr Tryz.prog 369 (karr 24 kfield_row) (Vector.replicate 24 zfield_row) := ⟨_, (kz_arr 24 kzfield_row), by kernel_rfl⟩
theorem zr364 : Zr Tryz.prog 364 kfield_row zfield_row := ⟨_, kzfield_row, by kernel_rfl⟩
theorem ty369 : Ty Tryz.prog 369 (karr 24 kfield_row) := ⟨by kernel_rfl, by kernel_rfl⟩
theorem ty364 : Ty Tryz.prog 364 kfield_row := ⟨by kernel_rfl, by kernel_rfl⟩
theorem ar369 : Ar Tryz.prog 369 364 24 kfield_row := ⟨by kernel_rfl, by kernel_rfl⟩
theorem ft364_2 : fieldTy Tryz.prog 364 2 = some 3 := by kernel_rfl
theorem fl364_2 : Fl Tryz.prog 364 2 lfield_row_2 := ⟨by kernel_rfl, rfl⟩
theorem fl119_1 : Fl Tryz.prog 119 1 lOxm_1 := ⟨by kernel_rfl, rfl⟩
theorem fl119_2 : Fl Tryz.prog 119 2 lOxm_2 := ⟨by kernel_rfl, rfl⟩
theorem fl119_3 : Fl Tryz.prog 119 3 lOxm_3 := ⟨by kernel_rfl, rfl⟩
theorem ty119 : Ty Tryz.prog 119 kOxm := ⟨by kernel_rfl, by kernel_rfl⟩
theorem flv237_1_2 : Fl Tryz.prog 237 1 lexec_run_o2_1 := ⟨by kernel_rfl, rfl⟩
theorem ty24 : Ty Tryz.prog 24 (ksl kGroup) := ⟨by kernel_rfl, by kernel_rfl⟩
theorem flv237_4_2 : Fl Tryz.prog 237 4 lexec_run_o2_4 := ⟨by kernel_rfl, rfl⟩
theorem flv237_3_2 : Fl Tryz.prog 237 3 lexec_run_o2_3 := ⟨by kernel_rfl, rfl⟩
theorem flv237_0_2 : Fl Tryz.prog 237 0 lexec_run_o2_0 := ⟨by kernel_rfl, rfl⟩
theorem flv237_2_2 : Fl Tryz.prog 237 2 lexec_run_o2_2 := ⟨by kernel_rfl, rfl⟩
theorem tyr46 : Ty Tryz.prog 46 kraw := ⟨by kernel_rfl, by kernel_rfl⟩
theorem zr71 : Zr Tryz.prog 71 kOut zOut := ⟨_, kzOut, by kernel_rfl⟩
theorem sl46 : Sl Tryz.prog 46 71 kOut := ⟨by kernel_rfl, by kernel_rfl⟩
theorem el46 : El Tryz.prog 46 71 kOut := ⟨by kernel_rfl, by kernel_rfl, by kernel_rfl, by kernel_rfl, by kernel_rfl⟩
theorem fl121_3 : Fl Tryz.prog 121 3 lAction_3 := ⟨by kernel_rfl, rfl⟩
theorem zrv237_2 : Zr Tryz.prog 237 kexec_run_o2 zexec_run_o2 := ⟨_, kzexec_run_o2, by kernel_rfl⟩
theorem fl126_0 : Fl Tryz.prog 126 0 lAtom_0 := ⟨by kernel_rfl, rfl⟩
theorem fl126_1 : Fl Tryz.prog 126 1 lAtom_1 := ⟨by kernel_rfl, rfl⟩
theorem fl126_2 : Fl Tryz.prog 126 2 lAtom_2 := ⟨by kernel_rfl, rfl⟩
theorem fl126_3 : Fl Tryz.prog 126 3 lAtom_3 := ⟨by kernel_rfl, rfl⟩
theorem ty126 : Ty Tryz.prog 126 kAtom := ⟨by kernel_rfl, by kernel_rfl⟩
theorem zr126 : Zr Tryz.prog 126 kAtom zAtom := ⟨_, kzAtom, by kernel_rfl⟩
theorem zrr46 : Zr Tryz.prog 46 kraw (.slice none 0 0) := ⟨_, kz_raw rfl, by kernel_rfl⟩
theorem ty73 : Ty Tryz.prog 73 kFlat := ⟨by kernel_rfl, by kernel_rfl⟩
theorem fl73_1 : Fl Tryz.prog 73 1 lFlat_1 := ⟨by kernel_rfl, rfl⟩
theorem zr73 : Zr Tryz.prog 73 kFlat zFlat := ⟨_, kzFlat, by kernel_rfl⟩
theorem zr39 : Zr Tryz.prog 39 kEnv zEnv := ⟨_, kzEnv, by kernel_rfl⟩
theorem eqk40 : EqK Tryz.prog 1 40 ku64 := eqk_u64 (by kernel_rfl)
theorem eqk42 : EqK Tryz.prog 2 42 kWide := eqk_st (fun x y e => by cases x; cases y; simp only [Prod.mk.injEq] at e; simp [e]) (l := _) (by kernel_rfl) (by kernel_rfl) (eqf_cons eqk40 ty40 (eqf_one eqk40 ty40))
theorem eqk44 : EqK Tryz.prog 3 44 (karr 24 kWide) := eqk_arr eqk42 ty42 ar44
theorem eg44 : Tryz.prog.eqGuardType Tryz.prog.depth 44 = false := by kernel_rfl
theorem un4 : Tryz.prog.underlying 4 = some (.bool) := by kernel_rfl
theorem mixed : Tryz.prog.follows .mixedOrders = true := by kernel_rfl
end Go.Proofs.YtknpgojdkobgjaaGreat.W
set_option linter.unusedVariables false
set_option maxRecDepth 4000
set_option linter.unusedSimpArgs false
namespace Go.Proofs.YtknpgojdkobgjaaGreat.W
open Go Go.Wb
theorem e48 : Ent Tryz.prog 48 := Ent.mk Tryz.func48 rfl rfl
theorem e97 : Ent Tryz.prog 97 := Ent.mk Tryz.func97 rfl rfl
theorem e95 : Ent Tryz.prog 95 := Ent.mk Tryz.func95 rfl rfl
theorem e96 : Ent Tryz.prog 96 := Ent.mk Tryz.func96 rfl rfl
theorem e231 : Ent Tryz.prog 231 := Ent.mk Tryz.func231 rfl rfl
def F_slices_IndexFunc_Rule_l1 (s1 : (List Rule)) (f2 : (Rule → Option Bool)) : Nat → Nat → Option Int
  | 0, i3 => some (-1)
  | m4 + 1, i3 => (lget s1 (i3 : Int)).bind fun e5 => (f2 e5).bind fun x6 => (bif x6 then some (i3 : Int) else (F_slices_IndexFunc_Rule_l1 s1 f2 m4) (i3 + 1))
def F_slices_IndexFunc_Rule (s1 : (List Rule)) (f2 : (Rule → Option Bool)) : Option Int :=
  F_slices_IndexFunc_Rule_l1 s1 f2 ((s1.length : Int) : Int).toNat 0
theorem c_slices_IndexFunc_Rule (s1 : (List Rule)) (f2 : (Rule → Option Bool)) (r : Int) (h : F_slices_IndexFunc_Rule s1 f2 = some r) : PCon Tryz.prog 48 [rd (ksl kRule) s1, fn1 Tryz.prog kRule kbool f2] (rd (kint .i64) r) := by
  refine PCon.of (Con.intro0 Tryz.func48 rfl Tryz.ntmps48 rfl fun w H => ?_)
  unfold F_slices_IndexFunc_Rule at h
  refine SR <| Ak rfl <| Nl <| AW.seq <| SR <| Md rfl <| Ac (op_len' rfl rfl sl32 (vt rfl)) rfl <| Mk rfl <| Nl <| AW.block <| AW.loopG (d := []) (ν := Nat × Nat) (fun n => Cnt (s1.length : Int) n.2 n.1 ∧ F_slices_IndexFunc_Rule_l1 s1 f2 n.1 n.2 = some r) (fun n => n.1) (fun n => [(0, rd (ksl kRule) s1), (1, fn1 Tryz.prog kRule kbool f2), (7, rd (kint .i64) (s1.length : Int)), (8, rd (kint .i64) (n.2 : Int))]) (fun n => []) (((s1.length : Int) : Int).toNat, 0) ⟨Cnt.start _, h⟩ ⟨rfl, ⟨rfl, rfl, rfl, rfl, trivial⟩, trivial⟩ ?_
  rintro ⟨m4, i3⟩ ⟨hsf1, h⟩
  change Cnt (s1.length : Int) i3 m4 at hsf1
  change F_slices_IndexFunc_Rule_l1 s1 f2 m4 i3 = some r at h
  change AW _ _ _ ⟨slots [(0, rd (ksl kRule) s1), (1, fn1 Tryz.prog kRule kbool f2), (7, rd (kint .i64) (s1.length : Int)), (8, rd (kint .i64) (i3 : Int))], ress [], _⟩
  cases m4 with
  | zero =>
    unfold F_slices_IndexFunc_Rule_l1 at h
    refine SR <| Ac (op_lss rfl rfl (vt rfl) (vt rfl)) rfl <| Nl <| AW.seq <| Cn rfl (fun hc => absurd (of_decide_eq_true hc) hsf1.zero) (fun hc => ?_)
    refine AW.exit <| SR <| Ak rfl <| Nl <| AW.ret ?_
    obtain rfl := si h
    exact ret1 Tryz.results48 rfl (out_tmp rfl)
  | succ m4 =>
    unfold F_slices_IndexFunc_Rule_l1 at h
    generalize hgo1 : F_slices_IndexFunc_Rule_l1 s1 f2 m4 = go1 at h
    refine SR <| Ac (op_lss rfl rfl (vt rfl) (vt rfl)) rfl <| Nl <| AW.seq <| Cn rfl (fun hc => ?_) (fun hc => absurd hsf1.succ (of_decide_eq_false hc))
    have hlti3 := of_decide_eq_true hc
    refine AW.skip <| AW.seq <| AW.block <| SR <| Md rfl <| As rfl <| Nl <| AW.seq ?_
    obtain ⟨e5, he5, h⟩ := bsome h
    obtain ⟨x6, hx6, h⟩ := bsome h
    refine Rg <| Ac (op_move (A := fn1 Tryz.prog kRule kbool f2) rfl rfl (vt rfl)) rfl <| Md rfl <| Md rfl <| Ac (op_indexs' rfl rfl sl32 (vt rfl) (vt rfl) he5) rfl <| Lp1 ty90 rfl <| Ac (op_call1 hx6 rfl rfl (vt rfl) (vt rfl)) rfl <| Nl <| Cn rfl (fun hc => ?_) (fun hc => ?_)
    · have h := cond_t hc h
      refine SR <| Md rfl <| As rfl <| Nl <| AW.ret ?_
      obtain rfl := si h
      exact ret1 Tryz.results48 rfl (out_tmp rfl)
    · have h := cond_f hc h
      refine AW.skip <| Rg <| Ac (op_incr (t := 7) rfl rfl (vt rfl) (vk rfl) (vt rfl) hlti3) rfl <| Md rfl <| Nl ?_
      subst hgo1
      exact ⟨(m4, i3 + 1), Nat.lt_succ_self _, ⟨hsf1.next, h⟩, ⟨rfl, ⟨rfl, rfl, rfl, rfl, trivial⟩, trivial⟩⟩
def F_slices_ContainsFunc_Rule (s1 : (List Rule)) (f2 : (Rule → Option Bool)) : Option Bool :=
  (F_slices_IndexFunc_Rule s1 f2).bind fun x3 => some (decide (x3 ≥ 0))
theorem c_slices_ContainsFunc_Rule (s1 : (List Rule)) (f2 : (Rule → Option Bool)) (r : Bool) (h : F_slices_ContainsFunc_Rule s1 f2 = some r) : PCon Tryz.prog 95 [rd (ksl kRule) s1, fn1 Tryz.prog kRule kbool f2] (rd kbool r) := by
  refine PCon.of (Con.intro0 Tryz.func95 rfl Tryz.ntmps95 rfl fun w H => ?_)
  unfold F_slices_ContainsFunc_Rule at h
  refine SR <| Ab rfl <| Nl <| AW.seq ?_
  obtain ⟨x3, hx3, h⟩ := bsome h
  refine Rg <| Md rfl <| Ac (op_move (A := fn1 Tryz.prog kRule kbool f2) rfl rfl (vt rfl)) rfl <| Cl [5, 6] (c_slices_IndexFunc_Rule _ _ _ hx3) e48 rfl <| Ac (op_geq rfl rfl (vt rfl) (vk rfl)) rfl <| As rfl <| Nl <| AW.ret ?_
  obtain rfl := si h
  exact ret1 Tryz.results95 rfl (out_tmp rfl)
def F_pl_Atoms (l1 : (List Atom)) : Option Bool :=
  some (decide ((l1.length : Int) ≤ 12))
theorem c_pl_Atoms (l1 : (List Atom)) (r : Bool) (h : F_pl_Atoms l1 = some r) : PCon Tryz.prog 97 [rd (ksl kAtom) l1] (rd kbool r) := by
  refine PCon.of (Con.intro0 Tryz.func97 rfl Tryz.ntmps97 rfl fun w H => ?_)
  unfold F_pl_Atoms at h
  refine SR <| Ab rfl <| Nl <| SR <| Md rfl <| Ac (op_len' rfl rfl sl88 (vt rfl)) rfl <| Ac (op_leq rfl rfl (vt rfl) (vk rfl)) rfl <| As rfl <| Nl <| AW.ret ?_
  obtain rfl := si h
  exact ret1 Tryz.results97 rfl (out_tmp rfl)
def F_pl_Rules_1 (r1 : Rule) : Option Bool :=
  (F_pl_Atoms r1.Atoms).bind fun x3 => some (!x3)
theorem c_pl_Rules_1 (r1 : Rule) (r : Bool) (h : F_pl_Rules_1 r1 = some r) : PCon Tryz.prog 96 [rd kRule r1] (rd kbool r) := by
  refine PCon.of (Con.intro0 Tryz.func96 rfl Tryz.ntmps96 rfl fun w H => ?_)
  unfold F_pl_Rules_1 at h
  refine SR <| Ct rfl (op_box 2 rfl rfl (vt rfl)) ?_
  rintro _ ⟨g2, rfl⟩
  refine Ab rfl <| Nl <| AW.seq ?_
  obtain ⟨x3, hx3, h⟩ := bsome h
  refine Rg <| FdA lRule_1 fl90_1 rfl <| Ld ty88 2 rfl <| Cl [4] (c_pl_Atoms _ _ hx3) e97 rfl <| Ac (op_not rfl rfl (vt rfl)) rfl <| As rfl <| Nl <| AW.ret ?_
  obtain rfl := si h
  exact ret1 Tryz.results96 rfl (out_tmp rfl)
def F_pl_Rules (l1 : (List Rule)) (many2 : Int) : Option Bool :=
  (opt (decide ((l1.length : Int) ≤ many2)) (F_slices_ContainsFunc_Rule l1 F_pl_Rules_1)).bind fun x3 => some ((decide ((l1.length : Int) ≤ many2)) && (!x3))
theorem c_pl_Rules (l1 : (List Rule)) (many2 : Int) (r : Bool) (h : F_pl_Rules l1 many2 = some r) : PCon Tryz.prog 39 [rd (ksl kRule) l1, rd (kint .i64) many2] (rd kbool r) := by
  refine PCon.of (Con.intro0 Tryz.func39 rfl Tryz.ntmps39 rfl fun w H => ?_)
  unfold F_pl_Rules at h
  refine SR <| Ab rfl <| Nl <| AW.seq ?_
  obtain ⟨x3, hx3, h⟩ := bsome h
  refine Rg <| Md rfl <| Ac (op_len' rfl rfl sl32 (vt rfl)) rfl <| Md rfl <| Ac (op_leq rfl rfl (vt rfl) (vt rfl)) rfl <| Md rfl <| Gd rfl (fun hq => op_move (A := rd (ksl kRule) l1) rfl rfl (vt rfl)) <| Gd rfl (fun hq => op_call (xs := [.tmp 10, .func 96]) (c_slices_ContainsFunc_Rule _ _ _ (opt_t hx3 hq)) e95 rfl rfl ⟨vgt rfl hq, vf1 e96 c_pl_Rules_1, trivial⟩) <| Gd rfl (fun hq => op_not rfl rfl (vgt rfl hq)) <| Ac (op_all rfl rfl (vt rfl) (vt rfl)) rfl <| As rfl <| Nl <| AW.ret ?_
  obtain rfl := si h
  exact ret1 Tryz.results39 rfl (out_tmp rfl)
def F_slices_IndexFunc_Bucket_l1 (s1 : (List Bucket)) (f2 : (Bucket → Option Bool)) : Nat → Nat → Option Int
  | 0, i3 => some (-1)
  | m4 + 1, i3 => (lget s1 (i3 : Int)).bind fun e5 => (f2 e5).bind fun x6 => (bif x6 then some (i3 : Int) else (F_slices_IndexFunc_Bucket_l1 s1 f2 m4) (i3 + 1))
def F_slices_IndexFunc_Bucket (s1 : (List Bucket)) (f2 : (Bucket → Option Bool)) : Option Int :=
  F_slices_IndexFunc_Bucket_l1 s1 f2 ((s1.length : Int) : Int).toNat 0
theorem c_slices_IndexFunc_Bucket (s1 : (List Bucket)) (f2 : (Bucket → Option Bool)) (r : Int) (h : F_slices_IndexFunc_Bucket s1 f2 = some r) : PCon Tryz.prog 231 [rd (ksl kBucket) s1, fn1 Tryz.prog kBucket kbool f2] (rd (kint .i64) r) := by
  refine PCon.of (Con.intro0 Tryz.func231 rfl Tryz.ntmps231 rfl fun w H => ?_)
  unfold F_slices_IndexFunc_Bucket at h
  refine SR <| Ak rfl <| Nl <| AW.seq <| SR <| Md rfl <| Ac (op_len' rfl rfl sl162 (vt rfl)) rfl <| Mk rfl <| Nl <| AW.block <| AW.loopG (d := []) (ν := Nat × Nat) (fun n => Cnt (s1.length : Int) n.2 n.1 ∧ F_slices_IndexFunc_Bucket_l1 s1 f2 n.1 n.2 = some r) (fun n => n.1) (fun n => [(0, rd (ksl kBucket) s1), (1, fn1 Tryz.prog kBucket kbool f2), (7, rd (kint .i64) (s1.length : Int)), (8, rd (kint .i64) (n.2 : Int))]) (fun n => []) (((s1.length : Int) : Int).toNat, 0) ⟨Cnt.start _, h⟩ ⟨rfl, ⟨rfl, rfl, rfl, rfl, trivial⟩, trivial⟩ ?_
  rintro ⟨m4, i3⟩ ⟨hsf1, h⟩
  change Cnt (s1.length : Int) i3 m4 at hsf1
  change F_slices_IndexFunc_Bucket_l1 s1 f2 m4 i3 = some r at h
  change AW _ _ _ ⟨slots [(0, rd (ksl kBucket) s1), (1, fn1 Tryz.prog kBucket kbool f2), (7, rd (kint .i64) (s1.length : Int)), (8, rd (kint .i64) (i3 : Int))], ress [], _⟩
  cases m4 with
  | zero =>
    unfold F_slices_IndexFunc_Bucket_l1 at h
    refine SR <| Ac (op_lss rfl rfl (vt rfl) (vt rfl)) rfl <| Nl <| AW.seq <| Cn rfl (fun hc => absurd (of_decide_eq_true hc) hsf1.zero) (fun hc => ?_)
    refine AW.exit <| SR <| Ak rfl <| Nl <| AW.ret ?_
    obtain rfl := si h
    exact ret1 Tryz.results231 rfl (out_tmp rfl)
  | succ m4 =>
    unfold F_slices_IndexFunc_Bucket_l1 at h
    generalize hgo1 : F_slices_IndexFunc_Bucket_l1 s1 f2 m4 = go1 at h
    refine SR <| Ac (op_lss rfl rfl (vt rfl) (vt rfl)) rfl <| Nl <| AW.seq <| Cn rfl (fun hc => ?_) (fun hc => absurd hsf1.succ (of_decide_eq_false hc))
    have hlti3 := of_decide_eq_true hc
    refine AW.skip <| AW.seq <| AW.block <| SR <| Md rfl <| As rfl <| Nl <| AW.seq ?_
    obtain ⟨e5, he5, h⟩ := bsome h
    obtain ⟨x6, hx6, h⟩ := bsome h
    refine Rg <| Ac (op_move (A := fn1 Tryz.prog kBucket kbool f2) rfl rfl (vt rfl)) rfl <| Md rfl <| Md rfl <| Ac (op_indexs' rfl rfl sl162 (vt rfl) (vt rfl) he5) rfl <| Lp1 ty226 rfl <| Ac (op_call1 hx6 rfl rfl (vt rfl) (vt rfl)) rfl <| Nl <| Cn rfl (fun hc => ?_) (fun hc => ?_)
    · have h := cond_t hc h
      refine SR <| Md rfl <| As rfl <| Nl <| AW.ret ?_
      obtain rfl := si h
      exact ret1 Tryz.results231 rfl (out_tmp rfl)
    · have h := cond_f hc h
      refine AW.skip <| Rg <| Ac (op_incr (t := 7) rfl rfl (vt rfl) (vk rfl) (vt rfl) hlti3) rfl <| Md rfl <| Nl ?_
      subst hgo1
      exact ⟨(m4, i3 + 1), Nat.lt_succ_self _, ⟨hsf1.next, h⟩, ⟨rfl, ⟨rfl, rfl, rfl, rfl, trivial⟩, trivial⟩⟩
end Go.Proofs.YtknpgojdkobgjaaGreat.W
set_option linter.unusedVariables false
set_option maxRecDepth 4000
set_option linter.unusedSimpArgs false
namespace Go.Proofs.YtknpgojdkobgjaaGreat.W
open Go Go.Wb
theorem e162 : Ent Tryz.prog 162 := Ent.mk Tryz.func162 rfl rfl
theorem e237 : Ent Tryz.prog 237 := Ent.mk Tryz.func237 rfl rfl
theorem e177 : Ent Tryz.prog 177 := Ent.mk Tryz.func177 rfl rfl
def F_slices_IndexFunc_Group_l1 (s1 : (List Group)) (f2 : (Group → Option Bool)) : Nat → Nat → Option Int
  | 0, i3 => some (-1)
  | m4 + 1, i3 => (lget s1 (i3 : Int)).bind fun e5 => (f2 e5).bind fun x6 => (bif x6 then some (i3 : Int) else (F_slices_IndexFunc_Group_l1 s1 f2 m4) (i3 + 1))
def F_slices_IndexFunc_Group (s1 : (List Group)) (f2 : (Group → Option Bool)) : Option Int :=
  F_slices_IndexFunc_Group_l1 s1 f2 ((s1.length : Int) : Int).toNat 0
theorem c_slices_IndexFunc_Group (s1 : (List Group)) (f2 : (Group → Option Bool)) (r : Int) (h : F_slices_IndexFunc_Group s1 f2 = some r) : PCon Tryz.prog 162 [rd (ksl kGroup) s1, fn1 Tryz.prog kGroup kbool f2] (rd (kint .i64) r) := by
  refine PCon.of (Con.intro0 Tryz.func162 rfl Tryz.ntmps162 rfl fun w H => ?_)
  unfold F_slices_IndexFunc_Group at h
  refine SR <| Ak rfl <| Nl <| AW.seq <| SR <| Md rfl <| Ac (op_len' rfl rfl sl24 (vt rfl)) rfl <| Mk rfl <| Nl <| AW.block <| AW.loopG (d := []) (ν := Nat × Nat) (fun n => Cnt (s1.length : Int) n.2 n.1 ∧ F_slices_IndexFunc_Group_l1 s1 f2 n.1 n.2 = some r) (fun n => n.1) (fun n => [(0, rd (ksl kGroup) s1), (1, fn1 Tryz.prog kGroup kbool f2), (7, rd (kint .i64) (s1.length : Int)), (8, rd (kint .i64) (n.2 : Int))]) (fun n => []) (((s1.length : Int) : Int).toNat, 0) ⟨Cnt.start _, h⟩ ⟨rfl, ⟨rfl, rfl, rfl, rfl, trivial⟩, trivial⟩ ?_
  rintro ⟨m4, i3⟩ ⟨hsf1, h⟩
  change Cnt (s1.length : Int) i3 m4 at hsf1
  change F_slices_IndexFunc_Group_l1 s1 f2 m4 i3 = some r at h
  change AW _ _ _ ⟨slots [(0, rd (ksl kGroup) s1), (1, fn1 Tryz.prog kGroup kbool f2), (7, rd (kint .i64) (s1.length : Int)), (8, rd (kint .i64) (i3 : Int))], ress [], _⟩
  cases m4 with
  | zero =>
    unfold F_slices_IndexFunc_Group_l1 at h
    refine SR <| Ac (op_lss rfl rfl (vt rfl) (vt rfl)) rfl <| Nl <| AW.seq <| Cn rfl (fun hc => absurd (of_decide_eq_true hc) hsf1.zero) (fun hc => ?_)
    refine AW.exit <| SR <| Ak rfl <| Nl <| AW.ret ?_
    obtain rfl := si h
    exact ret1 Tryz.results162 rfl (out_tmp rfl)
  | succ m4 =>
    unfold F_slices_IndexFunc_Group_l1 at h
    generalize hgo1 : F_slices_IndexFunc_Group_l1 s1 f2 m4 = go1 at h
    refine SR <| Ac (op_lss rfl rfl (vt rfl) (vt rfl)) rfl <| Nl <| AW.seq <| Cn rfl (fun hc => ?_) (fun hc => absurd hsf1.succ (of_decide_eq_false hc))
    have hlti3 := of_decide_eq_true hc
    refine AW.skip <| AW.seq <| AW.block <| SR <| Md rfl <| As rfl <| Nl <| AW.seq ?_
    obtain ⟨e5, he5, h⟩ := bsome h
    obtain ⟨x6, hx6, h⟩ := bsome h
    refine Rg <| Ac (op_move (A := fn1 Tryz.prog kGroup kbool f2) rfl rfl (vt rfl)) rfl <| Md rfl <| Md rfl <| Ac (op_indexs' rfl rfl sl24 (vt rfl) (vt rfl) he5) rfl <| Lp1 ty164 rfl <| Ac (op_call1 hx6 rfl rfl (vt rfl) (vt rfl)) rfl <| Nl <| Cn rfl (fun hc => ?_) (fun hc => ?_)
    · have h := cond_t hc h
      refine SR <| Md rfl <| As rfl <| Nl <| AW.ret ?_
      obtain rfl := si h
      exact ret1 Tryz.results162 rfl (out_tmp rfl)
    · have h := cond_f hc h
      refine AW.skip <| Rg <| Ac (op_incr (t := 7) rfl rfl (vt rfl) (vk rfl) (vt rfl) hlti3) rfl <| Md rfl <| Nl ?_
      subst hgo1
      exact ⟨(m4, i3 + 1), Nat.lt_succ_self _, ⟨hsf1.next, h⟩, ⟨rfl, ⟨rfl, rfl, rfl, rfl, trivial⟩, trivial⟩⟩
def F_wide_Xor (a1 : Wide) (b2 : Wide) : Option Wide :=
  some (⟨(a1.Hi ^^^ b2.Hi), (a1.Lo ^^^ b2.Lo)⟩ : Wide)
theorem c_wide_Xor (a1 : Wide) (b2 : Wide) (r : Wide) (h : F_wide_Xor a1 b2 = some r) : PCon Tryz.prog 237 [rd kWide a1, rd kWide b2] (rd kWide r) := by
  refine PCon.of (Con.intro0 Tryz.func237 rfl Tryz.ntmps237 rfl fun w H => ?_)
  unfold F_wide_Xor at h
  refine SR <| Ct rfl (op_box 3 rfl rfl (vt rfl)) ?_
  rintro _ ⟨g3, rfl⟩
  refine Ct rfl (op_box 4 rfl rfl (vt rfl)) ?_
  rintro _ ⟨g4, rfl⟩
  refine Ct rfl (op_alloc 5 rfl rfl zr42) ?_
  rintro _ ⟨g5, rfl⟩
  refine Nl <| SR <| FdA lWide_0 fl42_0 rfl <| Ld ty40 3 rfl <| FdA lWide_0 fl42_0 rfl <| Ld ty40 4 rfl <| Ac (op_xor rfl rfl (vt rfl) (vt rfl)) rfl <| FdA lWide_1 fl42_1 rfl <| Ld ty40 3 rfl <| FdA lWide_1 fl42_1 rfl <| Ld ty40 4 rfl <| Ac (op_xor rfl rfl (vt rfl) (vt rfl)) rfl <| Ac (op_build (ps := [(0, .tmp 9), (1, .tmp 14)]) (x := (⟨(a1.Hi ^^^ b2.Hi), (a1.Lo ^^^ b2.Lo)⟩ : Wide)) rfl rfl rfl (by kernel_rfl) zr42 ⟨_, _, lWide_0, _, by kernel_rfl, (vt rfl), _, _, lWide_1, _, by kernel_rfl, (vt rfl), rfl⟩) rfl <| Sto ty42 5 rfl <| Nl <| AW.ret ?_
  obtain rfl := si h
  exact ret1 Tryz.results237 rfl (out_cell rfl (i := 5) rfl ty42)
def F_wide_And (a1 : Wide) (b2 : Wide) : Option Wide :=
  some (⟨(a1.Hi &&& b2.Hi), (a1.Lo &&& b2.Lo)⟩ : Wide)
theorem c_wide_And (a1 : Wide) (b2 : Wide) (r : Wide) (h : F_wide_And a1 b2 = some r) : PCon Tryz.prog 177 [rd kWide a1, rd kWide b2] (rd kWide r) := by
  refine PCon.of (Con.intro0 Tryz.func177 rfl Tryz.ntmps177 rfl fun w H => ?_)
  unfold F_wide_And at h
  refine SR <| Ct rfl (op_box 3 rfl rfl (vt rfl)) ?_
  rintro _ ⟨g3, rfl⟩
  refine Ct rfl (op_box 4 rfl rfl (vt rfl)) ?_
  rintro _ ⟨g4, rfl⟩
  refine Ct rfl (op_alloc 5 rfl rfl zr42) ?_
  rintro _ ⟨g5, rfl⟩
  refine Nl <| SR <| FdA lWide_0 fl42_0 rfl <| Ld ty40 3 rfl <| FdA lWide_0 fl42_0 rfl <| Ld ty40 4 rfl <| Ac (op_and rfl rfl (vt rfl) (vt rfl)) rfl <| FdA lWide_1 fl42_1 rfl <| Ld ty40 3 rfl <| FdA lWide_1 fl42_1 rfl <| Ld ty40 4 rfl <| Ac (op_and rfl rfl (vt rfl) (vt rfl)) rfl <| Ac (op_build (ps := [(0, .tmp 9), (1, .tmp 14)]) (x := (⟨(a1.Hi &&& b2.Hi), (a1.Lo &&& b2.Lo)⟩ : Wide)) rfl rfl rfl (by kernel_rfl) zr42 ⟨_, _, lWide_0, _, by kernel_rfl, (vt rfl), _, _, lWide_1, _, by kernel_rfl, (vt rfl), rfl⟩) rfl <| Sto ty42 5 rfl <| Nl <| AW.ret ?_
  obtain rfl := si h
  exact ret1 Tryz.results177 rfl (out_cell rfl (i := 5) rfl ty42)
def F_tern_unlike (a1 : Wide) (b2 : Wide) (mask3 : Wide) : Option Wide :=
  (F_wide_Xor a1 b2).bind fun x8 => (F_wide_And x8 mask3).bind fun x9 => some x9
theorem c_tern_unlike (a1 : Wide) (b2 : Wide) (mask3 : Wide) (r : Wide) (h : F_tern_unlike a1 b2 mask3 = some r) : PCon Tryz.prog 174 [rd kWide a1, rd kWide b2, rd kWide mask3] (rd kWide r) := by
  refine PCon.of (Con.intro0 Tryz.func174 rfl Tryz.ntmps174 rfl fun w H => ?_)
  unfold F_tern_unlike at h
  refine SR <| Ct rfl (op_box 4 rfl rfl (vt rfl)) ?_
  rintro _ ⟨g4, rfl⟩
  refine Ct rfl (op_box 5 rfl rfl (vt rfl)) ?_
  rintro _ ⟨g5, rfl⟩
  refine Ct rfl (op_box 6 rfl rfl (vt rfl)) ?_
  rintro _ ⟨g6, rfl⟩
  refine Ct rfl (op_alloc 7 rfl rfl zr42) ?_
  rintro _ ⟨g7, rfl⟩
  refine Nl <| AW.seq ?_
  obtain ⟨x8, hx8, h⟩ := bsome h
  obtain ⟨x9, hx9, h⟩ := bsome h
  refine AW.regionAny [⟨[3], [7], [4], []⟩, ⟨[4], [8], [5], []⟩, ⟨[7, 8], [9], [], []⟩, ⟨[5], [10], [6], []⟩, ⟨[9, 10], [11], [], []⟩, ⟨[6, 11], [], [7], [7]⟩] mixed (by kernel_rfl) <| SLd ty42 4 rfl <| SLd ty42 5 rfl <| SCl [7, 8] (c_wide_Xor _ _ _ hx8) e237 rfl <| SLd ty42 6 rfl <| SCl [9, 10] (c_wide_And _ _ _ hx9) e177 rfl <| SSt ty42 7 rfl <| AW.ret ?_
  obtain rfl := si h
  exact ret1 Tryz.results174 rfl (out_cell rfl (i := 7) rfl ty42)
def F_wide_Zero (a1 : Wide) : Option Bool :=
  some (decide ((a1.Hi ||| a1.Lo) = (0 : BitVec 64)))
theorem c_wide_Zero (a1 : Wide) (r : Bool) (h : F_wide_Zero a1 = some r) : PCon Tryz.prog 173 [rd kWide a1] (rd kbool r) := by
  refine PCon.of (Con.intro0 Tryz.func173 rfl Tryz.ntmps173 rfl fun w H => ?_)
  unfold F_wide_Zero at h
  refine SR <| Ct rfl (op_box 2 rfl rfl (vt rfl)) ?_
  rintro _ ⟨g2, rfl⟩
  refine Ab rfl <| Nl <| SR <| FdA lWide_0 fl42_0 rfl <| Ld ty40 2 rfl <| FdA lWide_1 fl42_1 rfl <| Ld ty40 2 rfl <| Ac (op_or rfl rfl (vt rfl) (vt rfl)) rfl <| Ac (op_eqlu rfl rfl (vt rfl) (vku (0 : BitVec 64) rfl)) rfl <| As rfl <| Nl <| AW.ret ?_
  obtain rfl := si h
  exact ret1 Tryz.results173 rfl (out_tmp rfl)
end Go.Proofs.YtknpgojdkobgjaaGreat.W
set_option linter.unusedVariables false
set_option maxRecDepth 4000
set_option linter.unusedSimpArgs false
namespace Go.Proofs.YtknpgojdkobgjaaGreat.W
open Go Go.Wb
theorem e174 : Ent Tryz.prog 174 := Ent.mk Tryz.func174 rfl rfl
theorem e173 : Ent Tryz.prog 173 := Ent.mk Tryz.func173 rfl rfl
theorem e106 : Ent Tryz.prog 106 := Ent.mk Tryz.func106 rfl rfl
theorem e50 : Ent Tryz.prog 50 := Ent.mk Tryz.func50 rfl rfl
theorem e166 : Ent Tryz.prog 166 := Ent.mk Tryz.func166 rfl rfl
theorem e101 : Ent Tryz.prog 101 := Ent.mk Tryz.func101 rfl rfl
def F_tern_Has (t1 : Tern) (v2 : Wide) : Option Bool :=
  (F_tern_unlike t1.Value v2 t1.Mask).bind fun x5 => (F_wide_Zero x5).bind fun x6 => some x6
theorem c_tern_Has (t1 : Tern) (v2 : Wide) (r : Bool) (h : F_tern_Has t1 v2 = some r) : PCon Tryz.prog 106 [rd kTern t1, rd kWide v2] (rd kbool r) := by
  refine PCon.of (Con.intro0 Tryz.func106 rfl Tryz.ntmps106 rfl fun w H => ?_)
  unfold F_tern_Has at h
  refine SR <| Ct rfl (op_box 3 rfl rfl (vt rfl)) ?_
  rintro _ ⟨g3, rfl⟩
  refine Ct rfl (op_box 4 rfl rfl (vt rfl)) ?_
  rintro _ ⟨g4, rfl⟩
  refine Ab rfl <| Nl <| AW.seq ?_
  obtain ⟨x5, hx5, h⟩ := bsome h
  obtain ⟨x6, hx6, h⟩ := bsome h
  refine Rg <| FdA lTern_0 fl85_0 rfl <| Ld ty42 3 rfl <| Ld ty42 4 rfl <| FdA lTern_1 fl85_1 rfl <| Ld ty42 3 rfl <| Cl [6, 7, 9] (c_tern_unlike _ _ _ _ hx5) e174 rfl <| Cl [10] (c_wide_Zero _ _ hx6) e173 rfl <| As rfl <| Nl <| AW.ret ?_
  obtain rfl := si h
  exact ret1 Tryz.results106 rfl (out_tmp rfl)
def F_cube_Has_l1 (h2 : (Vector Wide 24)) : (List Tern) → Nat → Option Bool
  | [], i5 => some true
  | x7 :: l6, i5 => (chk 24 (i5 : Int)).bind fun j9 => (F_tern_Has x7 (Vector.get h2 j9)).bind fun x10 => (bif (!x10) then some false else (F_cube_Has_l1 h2 l6) (i5 + 1))
def F_cube_Has (cu1 : (Vector Tern 24)) (h2 : (Vector Wide 24)) : Option Bool :=
  F_cube_Has_l1 h2 (Vector.toList cu1) 0
theorem c_cube_Has (cu1 : (Vector Tern 24)) (h2 : (Vector Wide 24)) (r : Bool) (h : F_cube_Has cu1 h2 = some r) : PCon Tryz.prog 50 [rd (karr 24 kTern) cu1, rd (karr 24 kWide) h2] (rd kbool r) := by
  refine PCon.of (Con.intro0 Tryz.func50 rfl Tryz.ntmps50 rfl fun w H => ?_)
  unfold F_cube_Has at h
  refine SR <| Ct rfl (op_box 3 rfl rfl (vt rfl)) ?_
  rintro _ ⟨g3, rfl⟩
  refine Ct rfl (op_box 4 rfl rfl (vt rfl)) ?_
  rintro _ ⟨g4, rfl⟩
  refine Ab rfl <| Nl <| AW.seq <| SR <| Ld ty87 3 rfl <| Mk rfl <| Nl <| AW.block <| AW.loopG (d := []) (ν := (List Tern) × Nat) (fun n => Sfx (Vector.toList cu1) n.2 n.1 ∧ F_cube_Has_l1 h2 n.1 n.2 = some r) (fun n => n.1.length) (fun n => [(3, ptrL g4 (Lens.id (karr 24 kWide))), (7, rd (karr 24 kTern) cu1), (8, rd (kint .i64) (n.2 : Int))]) (fun n => [(4, Blk g4 44 (karr 24 kWide) h2)]) ((Vector.toList cu1), 0) ⟨Sfx.start _, h⟩ ⟨rfl, ⟨rfl, rfl, rfl, trivial⟩, ⟨rfl, trivial⟩⟩ ?_
  rintro ⟨l6, i5⟩ ⟨hsf1, h⟩
  change Sfx (Vector.toList cu1) i5 l6 at hsf1
  change F_cube_Has_l1 h2 l6 i5 = some r at h
  change AW _ _ _ ⟨slots [(3, ptrL g4 (Lens.id (karr 24 kWide))), (7, rd (karr 24 kTern) cu1), (8, rd (kint .i64) (i5 : Int))], ress [(4, Blk g4 44 (karr 24 kWide) h2)], _⟩
  cases l6 with
  | nil =>
    unfold F_cube_Has_l1 at h
    refine SR <| Ac (op_lss rfl rfl (vt rfl) (vk rfl)) rfl <| Nl <| AW.seq <| Cn rfl (fun hc => absurd (of_decide_eq_true hc) (hsf1.niln (by simp))) (fun hc => ?_)
    refine AW.exit <| SR <| Ab rfl <| Nl <| AW.ret ?_
    obtain rfl := si h
    exact ret1 Tryz.results50 rfl (out_tmp rfl)
  | cons x7 l6 =>
    unfold F_cube_Has_l1 at h
    generalize hgo1 : F_cube_Has_l1 h2 l6 = go1 at h
    refine SR <| Ac (op_lss rfl rfl (vt rfl) (vk rfl)) rfl <| Nl <| AW.seq <| Cn rfl (fun hc => ?_) (fun hc => absurd (hsf1.consn (by simp)) (of_decide_eq_false hc))
    have hlti5 := of_decide_eq_true hc
    refine AW.skip <| AW.seq <| AW.block <| SR <| Md rfl <| Ac (op_indexv rfl rfl ar87 ty85 (vt rfl) (vt rfl) hsf1.lget) rfl <| Ct rfl (op_alloc 7 rfl rfl zr85) ?_
    rintro _ ⟨g8, rfl⟩
    refine As rfl <| Sto ty85 7 rfl <| Nl <| AW.seq ?_
    obtain ⟨j9, hj9, h⟩ := bsome h
    obtain ⟨x10, hx10, h⟩ := bsome h
    refine AW.regionAny [⟨[6], [12], [7], []⟩, ⟨[5], [13], [], []⟩, ⟨[3, 13], [14], [], []⟩, ⟨[14], [15], [4], []⟩, ⟨[12, 15], [16], [], []⟩, ⟨[16], [17], [], []⟩] mixed (by kernel_rfl) <| SLd ty85 7 rfl <| SMd rfl <| Sc (lo [3, 13] [] rfl fun S hs hr => op_index' rfl rfl ar44 (vh hs 3 rfl rfl) (vh hs 13 rfl rfl) hj9) rfl <| SLd ty42 4 rfl <| SCl [12, 15] (c_tern_Has _ _ _ hx10) e106 rfl <| Sc (lo [16] [] rfl fun S hs hr => op_not rfl rfl (vh hs 16 rfl rfl)) rfl <| Cn rfl (fun hc => ?_) (fun hc => ?_)
    · have h := cond_t hc h
      refine SR <| Ab rfl <| Nl <| AW.ret ?_
      obtain rfl := si h
      exact ret1 Tryz.results50 rfl (out_tmp rfl)
    · have h := cond_f hc h
      refine AW.skip <| Rg <| Ac (op_incrc rfl rfl (vt rfl) (vk rfl) rfl hlti5) rfl <| Md rfl <| Nl ?_
      subst hgo1
      exact ⟨(l6, i5 + 1), Nat.lt_succ_self _, ⟨hsf1.next, h⟩, ⟨rfl, ⟨rfl, rfl, rfl, trivial⟩, ⟨rfl, trivial⟩⟩⟩
def F_find_has_1 (r1 : Rule) (cp2 : (Vector Wide 24)) : Option Bool :=
  (F_cube_Has r1.Cube cp2).bind fun x4 => some x4
theorem c_find_has_1 (r1 : Rule) (cp2 : (Vector Wide 24)) (r : Bool) (h : F_find_has_1 r1 cp2 = some r) : PCon Tryz.prog 166 [rd kRule r1, rp (karr 24 kWide) cp2] (rd kbool r) := by
  refine PCon.of (Con.intro0 Tryz.func166 rfl Tryz.ntmps166 rfl fun w H => ?_)
  unfold F_find_has_1 at h
  refine SR <| Ct rfl (op_box 3 rfl rfl (vt rfl)) ?_
  rintro _ ⟨g3, rfl⟩
  refine Ab rfl <| Nl <| AW.seq ?_
  obtain ⟨x4, hx4, h⟩ := bsome h
  refine Rg <| FdA lRule_0 fl90_0 rfl <| Ld ty87 3 rfl <| Lp1 ty44 rfl <| Cl [5, 6] (c_cube_Has _ _ _ hx4) e50 rfl <| As rfl <| Nl <| AW.ret ?_
  obtain rfl := si h
  exact ret1 Tryz.results166 rfl (out_tmp rfl)
def F_find_has (h1 : (Vector Wide 24)) : Option (Rule → Option Bool) :=
  some (fun x => F_find_has_1 x h1)
theorem c_find_has (h1 : (Vector Wide 24)) (r : (Rule → Option Bool)) (h : F_find_has h1 = some r) : PCon Tryz.prog 101 [rd (karr 24 kWide) h1] (fn1 Tryz.prog kRule kbool r) := by
  refine PCon.of (Con.intro0 Tryz.func101 rfl Tryz.ntmps101 rfl fun w H => ?_)
  unfold F_find_has at h
  refine SR <| Ct rfl (op_box 2 rfl rfl (vt rfl)) ?_
  rintro _ ⟨g2, rfl⟩
  refine Ac (op_assign (A := raw .nilFunc) rfl rfl vc) rfl <| Nl <| AW.seq <| AW.freezeB 1 2 rfl rfl rfl <| Rg <| Ac (op_fn1 (cs := [.tmp 1]) (CAs := [rp (karr 24 kWide) h1]) (fun x => F_find_has_1 x h1) rfl rfl e166 ⟨vt rfl, trivial⟩ (fun x y h => c_find_has_1 _ _ y h)) rfl <| Ac (op_assign (A := fn1 Tryz.prog kRule kbool (fun x => F_find_has_1 x h1)) rfl rfl (vt rfl)) rfl <| Nl <| AW.ret ?_
  obtain rfl := si h
  exact ret1 Tryz.results101 rfl (out_tmp rfl)
def F_find_Find (f1 : Flat) (h2 : (Vector Wide 24)) : Option (Int × Bool) :=
  (F_find_has h2).bind fun x5 => (F_slices_IndexFunc_Rule f1.Rules x5).bind fun x6 => some ((imax x6 0), (decide (x6 ≥ 0)))
theorem c_find_Find (f1 : Flat) (h2 : (Vector Wide 24)) (r : (Int × Bool)) (h : F_find_Find f1 h2 = some r) : PCon Tryz.prog 42 [rd kFlat f1, rd (karr 24 kWide) h2] (tup2 (rd (kint .i64) r.1) (rd kbool r.2)) := by
  refine PCon.of (Con.intro0 Tryz.func42 rfl Tryz.ntmps42 rfl fun w H => ?_)
  unfold F_find_Find at h
  refine SR <| Ct rfl (op_box 3 rfl rfl (vt rfl)) ?_
  rintro _ ⟨g3, rfl⟩
  refine Ct rfl (op_box 4 rfl rfl (vt rfl)) ?_
  rintro _ ⟨g4, rfl⟩
  refine Ak rfl <| Ab rfl <| Nl <| AW.seq ?_
  obtain ⟨x5, hx5, h⟩ := bsome h
  obtain ⟨x6, hx6, h⟩ := bsome h
  refine AW.regionAny [⟨[2], [7], [], []⟩, ⟨[7], [8], [3], []⟩, ⟨[3], [9], [4], []⟩, ⟨[9], [10], [], []⟩, ⟨[8, 10], [11], [], []⟩, ⟨[11], [6], [], []⟩] mixed (by kernel_rfl) <| SFd lFlat_0 fl73_0 rfl <| SLd ty32 3 rfl <| SLd ty44 4 rfl <| SCl [9] (c_find_has _ _ hx5) e101 rfl <| SCl [8, 10] (c_slices_IndexFunc_Rule _ _ _ hx6) e48 rfl <| SAs rfl <| SR <| Md rfl <| Ac (op_max rfl rfl (vt rfl) (vk rfl)) rfl <| Md rfl <| Ac (op_geq rfl rfl (vt rfl) (vk rfl)) rfl <| As rfl <| As rfl <| Nl <| AW.ret ?_
  obtain rfl := si h
  exact ret2 Tryz.results42 rfl (out_tmp rfl) (out_tmp rfl)
def F_shadow_Cubes_l1 : (List Rule) → Nat → (List (Vector Tern 24)) → Option (List (Vector Tern 24))
  | [], i6, l5 => some l5
  | x8 :: l7, i6, l5 => (lget l5 (i6 : Int)).bind fun e10 => (F_shadow_Cubes_l1 l7) (i6 + 1) (List.set l5 (i6 : Int).toNat x8.Cube)
def F_shadow_Cubes (l1 : (List Rule)) : Option (List (Vector Tern 24)) :=
  (omk (l1.length : Int)).bind fun u2 => F_shadow_Cubes_l1 l1 0 (List.replicate (l1.length : Int).toNat (Vector.replicate 24 zTern))
theorem c_shadow_Cubes (l1 : (List Rule)) (r : (List (Vector Tern 24))) (h : F_shadow_Cubes l1 = some r) : PCon Tryz.prog 169 [rd (ksl kRule) l1] (rd (ksl (karr 24 kTern)) r) := by
  refine PCon.of (Con.intro0 Tryz.func169 rfl Tryz.ntmps169 rfl fun w H => ?_)
  unfold F_shadow_Cubes at h
  refine SR <| Ac (op_assign (A := rd (ksl (karr 24 kTern)) []) rfl rfl vnil) rfl <| Nl <| AW.seq ?_
  obtain ⟨u2, hu2, h⟩ := bsome h
  refine Rg <| Md rfl <| Ac (op_len' rfl rfl sl32 (vt rfl)) rfl <| Ct rfl (op_makeN 1001 hu2 rfl rfl el229 zr87 (vt rfl) (vt rfl)) ?_
  rintro _ ⟨v3, rfl⟩
  refine Aw rfl <| Nl <| AW.seq <| SR <| Md rfl <| Ac (op_len' rfl rfl sl32 (vt rfl)) rfl <| Mk rfl <| Nl <| AW.block <| AW.loopG (d := []) (ν := (List Rule) × Nat × (List (Vector Tern 24))) (fun n => Sfx l1 n.2.1 n.1 ∧ F_shadow_Cubes_l1 n.1 n.2.1 n.2.2 = some r) (fun n => n.1.length) (fun n => [(3, raw v3), (9, rd (ksl kRule) l1), (10, rd (kint .i64) (l1.length : Int)), (11, rd (kint .i64) (n.2.1 : Int))]) (fun n => [(1001, Row v3 87 (karr 24 kTern) n.2.2)]) (l1, 0, (List.replicate (l1.length : Int).toNat (Vector.replicate 24 zTern))) ⟨Sfx.start _, h⟩ ⟨rfl, ⟨rfl, rfl, rfl, rfl, trivial⟩, ⟨rfl, trivial⟩⟩ ?_
  rintro ⟨l7, i6, l5⟩ ⟨hsf1, h⟩
  change Sfx l1 i6 l7 at hsf1
  change F_shadow_Cubes_l1 l7 i6 l5 = some r at h
  change AW _ _ _ ⟨slots [(3, raw v3), (9, rd (ksl kRule) l1), (10, rd (kint .i64) (l1.length : Int)), (11, rd (kint .i64) (i6 : Int))], ress [(1001, Row v3 87 (karr 24 kTern) l5)], _⟩
  cases l7 with
  | nil =>
    unfold F_shadow_Cubes_l1 at h
    refine SR <| Ac (op_lss rfl rfl (vt rfl) (vt rfl)) rfl <| Nl <| AW.seq <| Cn rfl (fun hc => absurd (of_decide_eq_true hc) hsf1.nil) (fun hc => ?_)
    refine AW.exit <| SR <| Mw rfl <| Aw rfl <| Nl <| AW.freezes [2, 3, 22] 1001 rfl ⟨rfl, rfl, rfl, trivial⟩ rfl <| AW.ret ?_
    obtain rfl := si h
    exact ret1 Tryz.results169 rfl (out_tmp rfl)
  | cons x8 l7 =>
    unfold F_shadow_Cubes_l1 at h
    generalize hgo1 : F_shadow_Cubes_l1 l7 = go1 at h
    refine SR <| Ac (op_lss rfl rfl (vt rfl) (vt rfl)) rfl <| Nl <| AW.seq <| Cn rfl (fun hc => ?_) (fun hc => absurd hsf1.cons (of_decide_eq_false hc))
    have hlti6 := of_decide_eq_true hc
    refine AW.skip <| AW.seq <| AW.block <| SR <| Md rfl <| Ac (op_indexs' rfl rfl sl32 (vt rfl) (vt rfl) hsf1.lget) rfl <| Lp1 ty90 rfl <| Ct rfl (op_alloc 6 rfl rfl zr90) ?_
    rintro _ ⟨g9, rfl⟩
    refine As rfl <| Sto ty90 6 rfl <| Nl ?_
    obtain ⟨e10, he10, h⟩ := bsome h
    refine Rg <| Mw rfl <| Md rfl <| FdA lRule_0 fl90_0 rfl <| Ld ty87 6 rfl <| Ac (op_indexo' 1001 rfl rfl sl229 (vt rfl) rfl (vt rfl) he10) rfl <| Ac (op_storeo' 1001 rfl rfl ty87 (vt rfl) rfl (lget_of he10).2 (vt rfl)) rfl <| Nl <| Rg <| Ac (op_incr (t := 10) rfl rfl (vt rfl) (vk rfl) (vt rfl) hlti6) rfl <| Md rfl <| Nl ?_
    subst hgo1
    exact ⟨(l7, i6 + 1, (List.set l5 (i6 : Int).toNat x8.Cube)), Nat.lt_succ_self _, ⟨hsf1.next, h⟩, ⟨rfl, ⟨rfl, rfl, rfl, rfl, trivial⟩, ⟨rfl, trivial⟩⟩⟩
def F_cover_purse_pay (p1 : cover_purse) : Option (Bool × cover_purse) :=
  (bif p1.free then some (true, p1) else some ((decide (({ p1 with left := (IntKind.i64.wrap (p1.left - 1)) }.left) ≥ 0)), { p1 with left := (IntKind.i64.wrap (p1.left - 1)) }))
theorem c_cover_purse_pay (g2 gT : Nat) (p1 : cover_purse) (r : (Bool × cover_purse)) (h : F_cover_purse_pay p1 = some r) : Con Tryz.prog 278 [ptrL g2 (Lens.id kcover_purse)] (Blk g2 gT kcover_purse p1) (fun _ : Unit => rd kbool r.1) (fun _ => Blk g2 gT kcover_purse r.2) := by
  refine Con.intro Tryz.func278 rfl Tryz.ntmps278 rfl fun w H X => ?_
  unfold F_cover_purse_pay at h
  refine SR <| Ab rfl <| Nl <| AW.seq <| SR <| Mp rfl <| Nc rfl <| FdA lcover_purse_1 fl288_1 rfl <| Ld ty4 0 rfl <| Nl <| Cn rfl (fun hc => ?_) (fun hc => ?_)
  · have h := cond_t hc h
    refine SR <| Ab rfl <| Nl <| AW.ret ?_
    obtain rfl := si h
    exact ret1Y (i := 0) Tryz.results278 rfl (out_tmp rfl) rfl
  · have h := cond_f hc h
    refine AW.skip <| SR <| Mp rfl <| Nc rfl <| FdA lcover_purse_0 fl288_0 rfl <| Ld ty3 0 rfl <| Ac (op_sub rfl rfl (vt rfl) (vk rfl)) rfl <| Nc rfl <| FdA lcover_purse_0 fl288_0 rfl <| Sto ty3 0 rfl <| Nl <| SR <| Mp rfl <| Nc rfl <| FdA lcover_purse_0 fl288_0 rfl <| Ld ty3 0 rfl <| Ac (op_geq rfl rfl (vt rfl) (vk rfl)) rfl <| As rfl <| Nl <| AW.ret ?_
    obtain rfl := si h
    exact ret1Y (i := 0) Tryz.results278 rfl (out_tmp rfl) rfl
def F_tern_Clean (t1 : Tern) : Option Tern :=
  (F_wide_And t1.Value t1.Mask).bind fun x4 => some (⟨x4, t1.Mask⟩ : Tern)
theorem c_tern_Clean (t1 : Tern) (r : Tern) (h : F_tern_Clean t1 = some r) : PCon Tryz.prog 127 [rd kTern t1] (rd kTern r) := by
  refine PCon.of (Con.intro0 Tryz.func127 rfl Tryz.ntmps127 rfl fun w H => ?_)
  unfold F_tern_Clean at h
  refine SR <| Ct rfl (op_box 2 rfl rfl (vt rfl)) ?_
  rintro _ ⟨g2, rfl⟩
  refine Ct rfl (op_alloc 3 rfl rfl zr85) ?_
  rintro _ ⟨g3, rfl⟩
  refine Nl <| AW.seq ?_
  obtain ⟨x4, hx4, h⟩ := bsome h
  refine AW.regionAny [⟨[1], [3], [], []⟩, ⟨[3], [4], [2], []⟩, ⟨[1], [5], [], []⟩, ⟨[5], [6], [2], []⟩, ⟨[4, 6], [7], [], []⟩, ⟨[1], [8], [], []⟩, ⟨[8], [9], [2], []⟩, ⟨[7, 9], [10], [], []⟩, ⟨[2, 10], [], [3], [3]⟩] mixed (by kernel_rfl) <| SFd lTern_0 fl85_0 rfl <| SLd ty42 2 rfl <| SFd lTern_1 fl85_1 rfl <| SLd ty42 2 rfl <| SCl [4, 6] (c_wide_And _ _ _ hx4) e177 rfl <| SFd lTern_1 fl85_1 rfl <| SLd ty42 2 rfl <| Sc (lo [7, 9] [] rfl fun S hs hr => op_build (ps := [(0, .tmp 7), (1, .tmp 9)]) (x := (⟨x4, t1.Mask⟩ : Tern)) rfl rfl rfl (by kernel_rfl) zr85 ⟨_, _, lTern_0, _, by kernel_rfl, (vh hs 7 rfl rfl), _, _, lTern_1, _, by kernel_rfl, (vh hs 9 rfl rfl), rfl⟩) rfl <| SSt ty85 3 rfl <| AW.ret ?_
  obtain rfl := si h
  exact ret1 Tryz.results127 rfl (out_cell rfl (i := 3) rfl ty85)
def F_wide_Or (a1 : Wide) (b2 : Wide) : Option Wide :=
  some (⟨(a1.Hi ||| b2.Hi), (a1.Lo ||| b2.Lo)⟩ : Wide)
theorem c_wide_Or (a1 : Wide) (b2 : Wide) (r : Wide) (h : F_wide_Or a1 b2 = some r) : PCon Tryz.prog 175 [rd kWide a1, rd kWide b2] (rd kWide r) := by
  refine PCon.of (Con.intro0 Tryz.func175 rfl Tryz.ntmps175 rfl fun w H => ?_)
  unfold F_wide_Or at h
  refine SR <| Ct rfl (op_box 3 rfl rfl (vt rfl)) ?_
  rintro _ ⟨g3, rfl⟩
  refine Ct rfl (op_box 4 rfl rfl (vt rfl)) ?_
  rintro _ ⟨g4, rfl⟩
  refine Ct rfl (op_alloc 5 rfl rfl zr42) ?_
  rintro _ ⟨g5, rfl⟩
  refine Nl <| SR <| FdA lWide_0 fl42_0 rfl <| Ld ty40 3 rfl <| FdA lWide_0 fl42_0 rfl <| Ld ty40 4 rfl <| Ac (op_or rfl rfl (vt rfl) (vt rfl)) rfl <| FdA lWide_1 fl42_1 rfl <| Ld ty40 3 rfl <| FdA lWide_1 fl42_1 rfl <| Ld ty40 4 rfl <| Ac (op_or rfl rfl (vt rfl) (vt rfl)) rfl <| Ac (op_build (ps := [(0, .tmp 9), (1, .tmp 14)]) (x := (⟨(a1.Hi ||| b2.Hi), (a1.Lo ||| b2.Lo)⟩ : Wide)) rfl rfl rfl (by kernel_rfl) zr42 ⟨_, _, lWide_0, _, by kernel_rfl, (vt rfl), _, _, lWide_1, _, by kernel_rfl, (vt rfl), rfl⟩) rfl <| Sto ty42 5 rfl <| Nl <| AW.ret ?_
  obtain rfl := si h
  exact ret1 Tryz.results175 rfl (out_cell rfl (i := 5) rfl ty42)
end Go.Proofs.YtknpgojdkobgjaaGreat.W
set_option linter.unusedVariables false
set_option maxRecDepth 4000
set_option linter.unusedSimpArgs false
namespace Go.Proofs.YtknpgojdkobgjaaGreat.W
open Go Go.Wb
theorem e127 : Ent Tryz.prog 127 := Ent.mk Tryz.func127 rfl rfl
theorem e175 : Ent Tryz.prog 175 := Ent.mk Tryz.func175 rfl rfl
theorem e259 : Ent Tryz.prog 259 := Ent.mk Tryz.func259 rfl rfl
theorem e262 : Ent Tryz.prog 262 := Ent.mk Tryz.func262 rfl rfl
theorem e196 : Ent Tryz.prog 196 := Ent.mk Tryz.func196 rfl rfl
theorem e176 : Ent Tryz.prog 176 := Ent.mk Tryz.func176 rfl rfl
theorem e337 : Ent Tryz.prog 337 := Ent.mk Tryz.func337 rfl rfl
theorem e203 : Ent Tryz.prog 203 := Ent.mk Tryz.func203 rfl rfl
theorem e316 : Ent Tryz.prog 316 := Ent.mk Tryz.func316 rfl rfl
def F_tern_Meet (a1 : Tern) (b2 : Tern) : Option (Tern × Bool) :=
  (F_wide_And a1.Mask b2.Mask).bind fun x6 => (F_tern_Has (⟨a1.Value, x6⟩ : Tern) b2.Value).bind fun x7 => (bif (!x7) then some ((⟨zWide, zWide⟩ : Tern), false) else (F_tern_Clean a1).bind fun x8 => (F_tern_Clean b2).bind fun x9 => (F_wide_Or x8.Value x9.Value).bind fun x10 => (F_wide_Or x8.Mask x9.Mask).bind fun x11 => some ((⟨x10, x11⟩ : Tern), true))
theorem c_tern_Meet (a1 : Tern) (b2 : Tern) (r : (Tern × Bool)) (h : F_tern_Meet a1 b2 = some r) : PCon Tryz.prog 259 [rd kTern a1, rd kTern b2] (tup2 (rd kTern r.1) (rd kbool r.2)) := by
  refine PCon.of (Con.intro0 Tryz.func259 rfl Tryz.ntmps259 rfl fun w H => ?_)
  unfold F_tern_Meet at h
  refine SR <| Ct rfl (op_box 3 rfl rfl (vt rfl)) ?_
  rintro _ ⟨g3, rfl⟩
  refine Ct rfl (op_box 4 rfl rfl (vt rfl)) ?_
  rintro _ ⟨g4, rfl⟩
  refine Ct rfl (op_alloc 5 rfl rfl zr85) ?_
  rintro _ ⟨g5, rfl⟩
  refine Ab rfl <| Nl <| AW.seq <| AW.seq ?_
  obtain ⟨x6, hx6, h⟩ := bsome h
  obtain ⟨x7, hx7, h⟩ := bsome h
  refine AW.regionAny [⟨[2], [6], [], []⟩, ⟨[6], [7], [3], []⟩, ⟨[2], [8], [], []⟩, ⟨[8], [9], [3], []⟩, ⟨[3], [10], [], []⟩, ⟨[10], [11], [4], []⟩, ⟨[9, 11], [12], [], []⟩, ⟨[7, 12], [13], [], []⟩, ⟨[3], [14], [], []⟩, ⟨[14], [15], [4], []⟩, ⟨[13, 15], [16], [], []⟩, ⟨[16], [17], [], []⟩] mixed (by kernel_rfl) <| SFd lTern_0 fl85_0 rfl <| SLd ty42 3 rfl <| SFd lTern_1 fl85_1 rfl <| SLd ty42 3 rfl <| SFd lTern_1 fl85_1 rfl <| SLd ty42 4 rfl <| SCl [9, 11] (c_wide_And _ _ _ hx6) e177 rfl <| Sc (lo [7, 12] [] rfl fun S hs hr => op_build (ps := [(0, .tmp 7), (1, .tmp 12)]) (x := (⟨a1.Value, x6⟩ : Tern)) rfl rfl rfl (by kernel_rfl) zr85 ⟨_, _, lTern_0, _, by kernel_rfl, (vh hs 7 rfl rfl), _, _, lTern_1, _, by kernel_rfl, (vh hs 12 rfl rfl), rfl⟩) rfl <| SFd lTern_0 fl85_0 rfl <| SLd ty42 4 rfl <| SCl [13, 15] (c_tern_Has _ _ _ hx7) e106 rfl <| Sc (lo [16] [] rfl fun S hs hr => op_not rfl rfl (vh hs 16 rfl rfl)) rfl <| Cn rfl (fun hc => ?_) (fun hc => ?_)
  · have h := cond_t hc h
    refine SR <| Ac (op_build (ps := []) (x := (⟨zWide, zWide⟩ : Tern)) rfl rfl rfl (by kernel_rfl) zr85 rfl) rfl <| Sto ty85 5 rfl <| Ab rfl <| Nl <| AW.ret ?_
    obtain rfl := si h
    exact ret2 Tryz.results259 rfl (out_cell rfl (i := 5) rfl ty85) (out_tmp rfl)
  · have h := cond_f hc h
    refine AW.skip <| AW.seq ?_
    obtain ⟨x8, hx8, h⟩ := bsome h
    obtain ⟨x9, hx9, h⟩ := bsome h
    refine AW.regionAny [⟨[2], [19], [3], []⟩, ⟨[19], [20], [], []⟩, ⟨[3], [21], [4], []⟩, ⟨[21], [22], [], []⟩, ⟨[2, 20], [], [3], [3]⟩, ⟨[3, 22], [], [4], [4]⟩] mixed (by kernel_rfl) <| SLd ty85 3 rfl <| SCl [19] (c_tern_Clean _ _ hx8) e127 rfl <| SLd ty85 4 rfl <| SCl [21] (c_tern_Clean _ _ hx9) e127 rfl <| SSt ty85 3 rfl <| SSt ty85 4 rfl <| AW.seq ?_
    obtain ⟨x10, hx10, h⟩ := bsome h
    obtain ⟨x11, hx11, h⟩ := bsome h
    refine AW.regionAny [⟨[2], [23], [], []⟩, ⟨[23], [24], [3], []⟩, ⟨[3], [25], [], []⟩, ⟨[25], [26], [4], []⟩, ⟨[24, 26], [27], [], []⟩, ⟨[2], [28], [], []⟩, ⟨[28], [29], [3], []⟩, ⟨[3], [30], [], []⟩, ⟨[30], [31], [4], []⟩, ⟨[29, 31], [32], [], []⟩, ⟨[27, 32], [33], [], []⟩, ⟨[4, 33], [], [5], [5]⟩, ⟨[], [5], [], []⟩] mixed (by kernel_rfl) <| SFd lTern_0 fl85_0 rfl <| SLd ty42 3 rfl <| SFd lTern_0 fl85_0 rfl <| SLd ty42 4 rfl <| SCl [24, 26] (c_wide_Or _ _ _ hx10) e175 rfl <| SFd lTern_1 fl85_1 rfl <| SLd ty42 3 rfl <| SFd lTern_1 fl85_1 rfl <| SLd ty42 4 rfl <| SCl [29, 31] (c_wide_Or _ _ _ hx11) e175 rfl <| Sc (lo [27, 32] [] rfl fun S hs hr => op_build (ps := [(0, .tmp 27), (1, .tmp 32)]) (x := (⟨x10, x11⟩ : Tern)) rfl rfl rfl (by kernel_rfl) zr85 ⟨_, _, lTern_0, _, by kernel_rfl, (vh hs 27 rfl rfl), _, _, lTern_1, _, by kernel_rfl, (vh hs 32 rfl rfl), rfl⟩) rfl <| SSt ty85 5 rfl <| Sc (lo [] [] rfl fun S hs hr => op_assign (A := rd kbool true) rfl rfl vb) rfl <| AW.ret ?_
    obtain rfl := si h
    exact ret2 Tryz.results259 rfl (out_cell rfl (i := 5) rfl ty85) (out_tmp rfl)
def F_cube_Meet_1 (i1 : Int) (cp2 : (Vector Tern 24)) (cp3 : (Vector Tern 24)) : Option (Tern × Bool) :=
  (chk 24 i1).bind fun j5 => (chk 24 i1).bind fun j6 => (F_tern_Meet (Vector.get cp2 j5) (Vector.get cp3 j6)).bind fun x7 => some (x7.1, x7.2)
theorem c_cube_Meet_1 (i1 : Int) (cp2 : (Vector Tern 24)) (cp3 : (Vector Tern 24)) (r : (Tern × Bool)) (h : F_cube_Meet_1 i1 cp2 cp3 = some r) : PCon Tryz.prog 262 [rd (kint .i64) i1, rp (karr 24 kTern) cp2, rp (karr 24 kTern) cp3] (tup2 (rd kTern r.1) (rd kbool r.2)) := by
  refine PCon.of (Con.intro0 Tryz.func262 rfl Tryz.ntmps262 rfl fun w H => ?_)
  unfold F_cube_Meet_1 at h
  refine SR <| Ct rfl (op_alloc 5 rfl rfl zr85) ?_
  rintro _ ⟨g4, rfl⟩
  refine Ab rfl <| Nl <| AW.seq ?_
  obtain ⟨j5, hj5, h⟩ := bsome h
  obtain ⟨j6, hj6, h⟩ := bsome h
  obtain ⟨x7, hx7, h⟩ := bsome h
  refine AW.regionAny [⟨[0], [6], [], []⟩, ⟨[1, 6], [7], [], []⟩, ⟨[7], [8], [], []⟩, ⟨[0], [9], [], []⟩, ⟨[2, 9], [10], [], []⟩, ⟨[10], [11], [], []⟩, ⟨[8, 11], [12], [], []⟩, ⟨[12], [13], [], []⟩, ⟨[12], [14], [], []⟩, ⟨[4, 13], [], [5], [5]⟩, ⟨[14], [5], [], []⟩] mixed (by kernel_rfl) <| SMd rfl <| Sc (lo [1, 6] [] rfl fun S hs hr => op_indexp' rfl rfl ar87 (vh hs 1 rfl rfl) (vh hs 6 rfl rfl) hj5) rfl <| SLp ty85 rfl <| SMd rfl <| Sc (lo [2, 9] [] rfl fun S hs hr => op_indexp' rfl rfl ar87 (vh hs 2 rfl rfl) (vh hs 9 rfl rfl) hj6) rfl <| SLp ty85 rfl <| SCl [8, 11] (c_tern_Meet _ _ _ hx7) e259 rfl <| Sc (lo [12] [] rfl fun S hs hr => op_fst rfl rfl (vh hs 12 rfl rfl)) rfl <| Sc (lo [12] [] rfl fun S hs hr => op_snd rfl rfl (vh hs 12 rfl rfl)) rfl <| SSt ty85 5 rfl <| SAs rfl <| AW.ret ?_
  obtain rfl := si h
  exact ret2 Tryz.results262 rfl (out_cell rfl (i := 5) rfl ty85) (out_tmp rfl)
def F_cube_each_l1 (f1 : (Int → Option (Tern × Bool))) : Nat → Nat → (Vector Tern 24) → Option ((Vector Tern 24) × Bool)
  | 0, i6, b5 => some (b5, true)
  | m7 + 1, i6, b5 => (f1 (i6 : Int)).bind fun x8 => (bif (!x8.2) then some ((Vector.replicate 24 zTern), false) else (chk 24 (i6 : Int)).bind fun j10 => (F_cube_each_l1 f1 m7) (i6 + 1) (Vector.set b5 j10.1 x8.1 j10.2))
def F_cube_each (f1 : (Int → Option (Tern × Bool))) : Option ((Vector Tern 24) × Bool) :=
  F_cube_each_l1 f1 (24 : Int).toNat 0 (Vector.replicate 24 zTern)
theorem c_cube_each (f1 : (Int → Option (Tern × Bool))) (r : ((Vector Tern 24) × Bool)) (h : F_cube_each f1 = some r) : PCon Tryz.prog 196 [fa1 Tryz.prog (kint .i64) (fun (y : (Tern × Bool)) => tup2 (rd kTern y.1) (rd kbool y.2)) f1] (tup2 (rd (karr 24 kTern) r.1) (rd kbool r.2)) := by
  refine PCon.of (Con.intro0 Tryz.func196 rfl Tryz.ntmps196 rfl fun w H => ?_)
  unfold F_cube_each at h
  refine SR <| Ct rfl (op_alloc 3 rfl rfl zr87) ?_
  rintro _ ⟨g2, rfl⟩
  refine Ab rfl <| Nl <| SR <| Ct rfl (op_alloc 5 rfl rfl zr87) ?_
  rintro _ ⟨g3, rfl⟩
  refine Nl <| AW.seq <| SR <| Mk rfl <| Nl <| AW.block <| AW.loopG (d := []) (ν := Nat × Nat × (Vector Tern 24)) (fun n => Cnt 24 n.2.1 n.1 ∧ F_cube_each_l1 f1 n.1 n.2.1 n.2.2 = some r) (fun n => n.1) (fun n => [(0, fa1 Tryz.prog (kint .i64) (fun (y : (Tern × Bool)) => tup2 (rd kTern y.1) (rd kbool y.2)) f1), (2, ptrL g2 (Lens.id (karr 24 kTern))), (4, ptrL g3 (Lens.id (karr 24 kTern))), (8, rd (kint .i64) (n.2.1 : Int))]) (fun n => [(3, Blk g2 87 (karr 24 kTern) (Vector.replicate 24 zTern)), (5, Blk g3 87 (karr 24 kTern) n.2.2)]) ((24 : Int).toNat, 0, (Vector.replicate 24 zTern)) ⟨Cnt.start _, h⟩ ⟨rfl, ⟨rfl, rfl, rfl, rfl, trivial⟩, ⟨rfl, rfl, trivial⟩⟩ ?_
  rintro ⟨m7, i6, b5⟩ ⟨hsf1, h⟩
  change Cnt 24 i6 m7 at hsf1
  change F_cube_each_l1 f1 m7 i6 b5 = some r at h
  change AW _ _ _ ⟨slots [(0, fa1 Tryz.prog (kint .i64) (fun (y : (Tern × Bool)) => tup2 (rd kTern y.1) (rd kbool y.2)) f1), (2, ptrL g2 (Lens.id (karr 24 kTern))), (4, ptrL g3 (Lens.id (karr 24 kTern))), (8, rd (kint .i64) (i6 : Int))], ress [(3, Blk g2 87 (karr 24 kTern) (Vector.replicate 24 zTern)), (5, Blk g3 87 (karr 24 kTern) b5)], _⟩
  cases m7 with
  | zero =>
    unfold F_cube_each_l1 at h
    refine SR <| Ac (op_lss rfl rfl (vt rfl) (vk rfl)) rfl <| Nl <| AW.seq <| Cn rfl (fun hc => absurd (of_decide_eq_true hc) hsf1.zero) (fun hc => ?_)
    refine AW.exit <| SR <| Ld ty87 5 rfl <| Sto ty87 3 rfl <| Ab rfl <| Nl <| AW.ret ?_
    obtain rfl := si h
    exact ret2 Tryz.results196 rfl (out_cell rfl (i := 3) rfl ty87) (out_tmp rfl)
  | succ m7 =>
    unfold F_cube_each_l1 at h
    generalize hgo1 : F_cube_each_l1 f1 m7 = go1 at h
    refine SR <| Ac (op_lss rfl rfl (vt rfl) (vk rfl)) rfl <| Nl <| AW.seq <| Cn rfl (fun hc => ?_) (fun hc => absurd hsf1.succ (of_decide_eq_false hc))
    have hlti6 := of_decide_eq_true hc
    refine AW.skip <| AW.seq <| AW.block <| SR <| Md rfl <| As rfl <| Nl <| AW.seq ?_
    obtain ⟨x8, hx8, h⟩ := bsome h
    refine Rg <| Ac (op_move (A := fa1 Tryz.prog (kint .i64) (fun (y : (Tern × Bool)) => tup2 (rd kTern y.1) (rd kbool y.2)) f1) rfl rfl (vt rfl)) rfl <| Md rfl <| Ac (op_calla1 (B := (fun (y : (Tern × Bool)) => tup2 (rd kTern y.1) (rd kbool y.2))) hx8 rfl rfl (vt rfl) (vt rfl)) rfl <| Mt2 rfl <| Ac (op_fst rfl rfl (vt rfl)) rfl <| Ac (op_snd rfl rfl (vt rfl)) rfl <| Ct rfl (op_alloc 7 rfl rfl zr85) ?_
    rintro _ ⟨g9, rfl⟩
    refine Sto ty85 7 rfl <| As rfl <| Nl <| AW.seq <| SR <| Md rfl <| Ac (op_not rfl rfl (vt rfl)) rfl <| Nl <| Cn rfl (fun hc => ?_) (fun hc => ?_)
    · have h := cond_t hc h
      refine SR <| Ac (op_build (ps := []) (x := (Vector.replicate 24 zTern)) rfl rfl rfl (by kernel_rfl) zr87 rfl) rfl <| Sto ty87 3 rfl <| Ab rfl <| Nl <| AW.ret ?_
      obtain rfl := si h
      exact ret2 Tryz.results196 rfl (out_cell rfl (i := 3) rfl ty87) (out_tmp rfl)
    · have h := cond_f hc h
      refine AW.skip ?_
      obtain ⟨j10, hj10, h⟩ := bsome h
      refine Rg <| Md rfl <| Ld ty85 7 rfl <| Ac (op_index' rfl rfl ar87 (vt rfl) (vt rfl) hj10) rfl <| Sto ty85 5 rfl <| Nl <| Rg <| Ac (op_incrc rfl rfl (vt rfl) (vk rfl) rfl hlti6) rfl <| Md rfl <| Nl ?_
      subst hgo1
      exact ⟨(m7, i6 + 1, (Vector.set b5 j10.1 x8.1 j10.2)), Nat.lt_succ_self _, ⟨hsf1.next, h⟩, ⟨rfl, ⟨rfl, rfl, rfl, rfl, trivial⟩, ⟨rfl, rfl, trivial⟩⟩⟩
def F_cube_Meet (a1 : (Vector Tern 24)) (b2 : (Vector Tern 24)) : Option ((Vector Tern 24) × Bool) :=
  (F_cube_each (fun x => F_cube_Meet_1 x a1 b2)).bind fun x6 => some (x6.1, x6.2)
theorem c_cube_Meet (a1 : (Vector Tern 24)) (b2 : (Vector Tern 24)) (r : ((Vector Tern 24) × Bool)) (h : F_cube_Meet a1 b2 = some r) : PCon Tryz.prog 203 [rd (karr 24 kTern) a1, rd (karr 24 kTern) b2] (tup2 (rd (karr 24 kTern) r.1) (rd kbool r.2)) := by
  refine PCon.of (Con.intro0 Tryz.func203 rfl Tryz.ntmps203 rfl fun w H => ?_)
  unfold F_cube_Meet at h
  refine SR <| Ct rfl (op_box 3 rfl rfl (vt rfl)) ?_
  rintro _ ⟨g3, rfl⟩
  refine Ct rfl (op_box 4 rfl rfl (vt rfl)) ?_
  rintro _ ⟨g4, rfl⟩
  refine Ct rfl (op_alloc 5 rfl rfl zr87) ?_
  rintro _ ⟨g5, rfl⟩
  refine Ab rfl <| Nl <| AW.seq <| AW.freezeB 2 3 rfl rfl rfl <| AW.freezeB 3 4 rfl rfl rfl ?_
  obtain ⟨x6, hx6, h⟩ := bsome h
  refine Rg <| Ac (op_fa1 (fs := []) (FAs := []) (cs := [.tmp 2, .tmp 3]) (CAs := [rp (karr 24 kTern) a1, rp (karr 24 kTern) b2]) (kx := (kint .i64)) (B := (fun (y : (Tern × Bool)) => tup2 (rd kTern y.1) (rd kbool y.2))) (fun x => F_cube_Meet_1 x a1 b2) rfl rfl e262 trivial ⟨vt rfl, vt rfl, trivial⟩ (fun x y h => c_cube_Meet_1 _ _ _ y h)) rfl <| Cl [6] (c_cube_each _ _ hx6) e196 rfl <| Ac (op_fst rfl rfl (vt rfl)) rfl <| Ac (op_snd rfl rfl (vt rfl)) rfl <| Sto ty87 5 rfl <| As rfl <| Nl <| AW.ret ?_
  obtain rfl := si h
  exact ret2 Tryz.results203 rfl (out_cell rfl (i := 5) rfl ty87) (out_tmp rfl)
def F_wide_Less (a1 : Wide) (b2 : Wide) : Option Wide :=
  some (⟨(a1.Hi &&& ~~~b2.Hi), (a1.Lo &&& ~~~b2.Lo)⟩ : Wide)
theorem c_wide_Less (a1 : Wide) (b2 : Wide) (r : Wide) (h : F_wide_Less a1 b2 = some r) : PCon Tryz.prog 176 [rd kWide a1, rd kWide b2] (rd kWide r) := by
  refine PCon.of (Con.intro0 Tryz.func176 rfl Tryz.ntmps176 rfl fun w H => ?_)
  unfold F_wide_Less at h
  refine SR <| Ct rfl (op_box 3 rfl rfl (vt rfl)) ?_
  rintro _ ⟨g3, rfl⟩
  refine Ct rfl (op_box 4 rfl rfl (vt rfl)) ?_
  rintro _ ⟨g4, rfl⟩
  refine Ct rfl (op_alloc 5 rfl rfl zr42) ?_
  rintro _ ⟨g5, rfl⟩
  refine Nl <| SR <| FdA lWide_0 fl42_0 rfl <| Ld ty40 3 rfl <| FdA lWide_0 fl42_0 rfl <| Ld ty40 4 rfl <| Ac (op_andNot rfl rfl (vt rfl) (vt rfl)) rfl <| FdA lWide_1 fl42_1 rfl <| Ld ty40 3 rfl <| FdA lWide_1 fl42_1 rfl <| Ld ty40 4 rfl <| Ac (op_andNot rfl rfl (vt rfl) (vt rfl)) rfl <| Ac (op_build (ps := [(0, .tmp 9), (1, .tmp 14)]) (x := (⟨(a1.Hi &&& ~~~b2.Hi), (a1.Lo &&& ~~~b2.Lo)⟩ : Wide)) rfl rfl rfl (by kernel_rfl) zr42 ⟨_, _, lWide_0, _, by kernel_rfl, (vt rfl), _, _, lWide_1, _, by kernel_rfl, (vt rfl), rfl⟩) rfl <| Sto ty42 5 rfl <| Nl <| AW.ret ?_
  obtain rfl := si h
  exact ret1 Tryz.results176 rfl (out_cell rfl (i := 5) rfl ty42)
def F_tern_Within (a1 : Tern) (b2 : Tern) : Option Bool :=
  (F_wide_Less b2.Mask a1.Mask).bind fun x5 => (F_wide_Zero x5).bind fun x6 => (opt x6 (F_tern_Has b2 a1.Value)).bind fun x7 => some (x6 && x7)
theorem c_tern_Within (a1 : Tern) (b2 : Tern) (r : Bool) (h : F_tern_Within a1 b2 = some r) : PCon Tryz.prog 337 [rd kTern a1, rd kTern b2] (rd kbool r) := by
  refine PCon.of (Con.intro0 Tryz.func337 rfl Tryz.ntmps337 rfl fun w H => ?_)
  unfold F_tern_Within at h
  refine SR <| Ct rfl (op_box 3 rfl rfl (vt rfl)) ?_
  rintro _ ⟨g3, rfl⟩
  refine Ct rfl (op_box 4 rfl rfl (vt rfl)) ?_
  rintro _ ⟨g4, rfl⟩
  refine Ab rfl <| Nl <| AW.seq ?_
  obtain ⟨x5, hx5, h⟩ := bsome h
  obtain ⟨x6, hx6, h⟩ := bsome h
  obtain ⟨x7, hx7, h⟩ := bsome h
  refine Rg <| FdA lTern_1 fl85_1 rfl <| Ld ty42 4 rfl <| FdA lTern_1 fl85_1 rfl <| Ld ty42 3 rfl <| Cl [6, 8] (c_wide_Less _ _ _ hx5) e176 rfl <| Cl [9] (c_wide_Zero _ _ hx6) e173 rfl <| Md rfl <| Gd rfl (fun hq => op_load rfl rfl ty85 (vt rfl) (i := 4) rfl) <| Gd rfl (fun hq => op_field lTern_0 rfl rfl fl85_0 (vt rfl)) <| Gd rfl (fun hq => op_load rfl rfl ty42 (vgt rfl hq) (i := 3) rfl) <| Gd rfl (fun hq => op_call (xs := [.tmp 12, .tmp 14]) (c_tern_Has _ _ _ (opt_t hx7 hq)) e106 rfl rfl ⟨vgt rfl hq, vgt rfl hq, trivial⟩) <| Ac (op_all rfl rfl (vt rfl) (vt rfl)) rfl <| As rfl <| Nl <| AW.ret ?_
  obtain rfl := si h
  exact ret1 Tryz.results337 rfl (out_tmp rfl)
def F_cube_Within_l1 (b2 : (Vector Tern 24)) : (List Tern) → Nat → Option Bool
  | [], i5 => some true
  | x7 :: l6, i5 => (chk 24 (i5 : Int)).bind fun j9 => (F_tern_Within x7 (Vector.get b2 j9)).bind fun x10 => (bif (!x10) then some false else (F_cube_Within_l1 b2 l6) (i5 + 1))
def F_cube_Within (a1 : (Vector Tern 24)) (b2 : (Vector Tern 24)) : Option Bool :=
  F_cube_Within_l1 b2 (Vector.toList a1) 0
theorem c_cube_Within (a1 : (Vector Tern 24)) (b2 : (Vector Tern 24)) (r : Bool) (h : F_cube_Within a1 b2 = some r) : PCon Tryz.prog 316 [rd (karr 24 kTern) a1, rd (karr 24 kTern) b2] (rd kbool r) := by
  refine PCon.of (Con.intro0 Tryz.func316 rfl Tryz.ntmps316 rfl fun w H => ?_)
  unfold F_cube_Within at h
  refine SR <| Ct rfl (op_box 3 rfl rfl (vt rfl)) ?_
  rintro _ ⟨g3, rfl⟩
  refine Ct rfl (op_box 4 rfl rfl (vt rfl)) ?_
  rintro _ ⟨g4, rfl⟩
  refine Ab rfl <| Nl <| AW.seq <| SR <| Ld ty87 3 rfl <| Mk rfl <| Nl <| AW.block <| AW.loopG (d := []) (ν := (List Tern) × Nat) (fun n => Sfx (Vector.toList a1) n.2 n.1 ∧ F_cube_Within_l1 b2 n.1 n.2 = some r) (fun n => n.1.length) (fun n => [(3, ptrL g4 (Lens.id (karr 24 kTern))), (7, rd (karr 24 kTern) a1), (8, rd (kint .i64) (n.2 : Int))]) (fun n => [(4, Blk g4 87 (karr 24 kTern) b2)]) ((Vector.toList a1), 0) ⟨Sfx.start _, h⟩ ⟨rfl, ⟨rfl, rfl, rfl, trivial⟩, ⟨rfl, trivial⟩⟩ ?_
  rintro ⟨l6, i5⟩ ⟨hsf1, h⟩
  change Sfx (Vector.toList a1) i5 l6 at hsf1
  change F_cube_Within_l1 b2 l6 i5 = some r at h
  change AW _ _ _ ⟨slots [(3, ptrL g4 (Lens.id (karr 24 kTern))), (7, rd (karr 24 kTern) a1), (8, rd (kint .i64) (i5 : Int))], ress [(4, Blk g4 87 (karr 24 kTern) b2)], _⟩
  cases l6 with
  | nil =>
    unfold F_cube_Within_l1 at h
    refine SR <| Ac (op_lss rfl rfl (vt rfl) (vk rfl)) rfl <| Nl <| AW.seq <| Cn rfl (fun hc => absurd (of_decide_eq_true hc) (hsf1.niln (by simp))) (fun hc => ?_)
    refine AW.exit <| SR <| Ab rfl <| Nl <| AW.ret ?_
    obtain rfl := si h
    exact ret1 Tryz.results316 rfl (out_tmp rfl)
  | cons x7 l6 =>
    unfold F_cube_Within_l1 at h
    generalize hgo1 : F_cube_Within_l1 b2 l6 = go1 at h
    refine SR <| Ac (op_lss rfl rfl (vt rfl) (vk rfl)) rfl <| Nl <| AW.seq <| Cn rfl (fun hc => ?_) (fun hc => absurd (hsf1.consn (by simp)) (of_decide_eq_false hc))
    have hlti5 := of_decide_eq_true hc
    refine AW.skip <| AW.seq <| AW.block <| SR <| Md rfl <| Ac (op_indexv rfl rfl ar87 ty85 (vt rfl) (vt rfl) hsf1.lget) rfl <| Ct rfl (op_alloc 7 rfl rfl zr85) ?_
    rintro _ ⟨g8, rfl⟩
    refine As rfl <| Sto ty85 7 rfl <| Nl <| AW.seq ?_
    obtain ⟨j9, hj9, h⟩ := bsome h
    obtain ⟨x10, hx10, h⟩ := bsome h
    refine AW.regionAny [⟨[6], [12], [7], []⟩, ⟨[5], [13], [], []⟩, ⟨[3, 13], [14], [], []⟩, ⟨[14], [15], [4], []⟩, ⟨[12, 15], [16], [], []⟩, ⟨[16], [17], [], []⟩] mixed (by kernel_rfl) <| SLd ty85 7 rfl <| SMd rfl <| Sc (lo [3, 13] [] rfl fun S hs hr => op_index' rfl rfl ar87 (vh hs 3 rfl rfl) (vh hs 13 rfl rfl) hj9) rfl <| SLd ty85 4 rfl <| SCl [12, 15] (c_tern_Within _ _ _ hx10) e337 rfl <| Sc (lo [16] [] rfl fun S hs hr => op_not rfl rfl (vh hs 16 rfl rfl)) rfl <| Cn rfl (fun hc => ?_) (fun hc => ?_)
    · have h := cond_t hc h
      refine SR <| Ab rfl <| Nl <| AW.ret ?_
      obtain rfl := si h
      exact ret1 Tryz.results316 rfl (out_tmp rfl)
    · have h := cond_f hc h
      refine AW.skip <| Rg <| Ac (op_incrc rfl rfl (vt rfl) (vk rfl) rfl hlti5) rfl <| Md rfl <| Nl ?_
      subst hgo1
      exact ⟨(l6, i5 + 1), Nat.lt_succ_self _, ⟨hsf1.next, h⟩, ⟨rfl, ⟨rfl, rfl, rfl, trivial⟩, ⟨rfl, trivial⟩⟩⟩
def F_cover_among_l1 (cu1 : (Vector Tern 24)) : (List (Vector Tern 24)) → Nat → Int → Option (Bool × Int)
  | [], i6, first5 => some (false, first5)
  | x8 :: l7, i6, first5 => (F_cube_Meet cu1 x8).bind fun x10 => (bif (!x10.2) then (F_cover_among_l1 cu1 l7) (i6 + 1) first5 else (F_cube_Within cu1 x8).bind fun x12 => (bif x12 then some (true, (i6 : Int)) else (bif (decide (first5 < 0)) then (F_cover_among_l1 cu1 l7) (i6 + 1) (i6 : Int) else (F_cover_among_l1 cu1 l7) (i6 + 1) first5)))
def F_cover_among (cu1 : (Vector Tern 24)) (l2 : (List (Vector Tern 24))) : Option (Bool × Int) :=
  F_cover_among_l1 cu1 l2 0 (-1)
theorem c_cover_among (cu1 : (Vector Tern 24)) (l2 : (List (Vector Tern 24))) (r : (Bool × Int)) (h : F_cover_among cu1 l2 = some r) : PCon Tryz.prog 279 [rd (karr 24 kTern) cu1, rd (ksl (karr 24 kTern)) l2] (tup2 (rd kbool r.1) (rd (kint .i64) r.2)) := by
  refine PCon.of (Con.intro0 Tryz.func279 rfl Tryz.ntmps279 rfl fun w H => ?_)
  unfold F_cover_among at h
  refine SR <| Ct rfl (op_box 3 rfl rfl (vt rfl)) ?_
  rintro _ ⟨g3, rfl⟩
  refine Ab rfl <| Ak rfl <| Nl <| SR <| Ak rfl <| Nl <| AW.seq <| SR <| Md rfl <| Ac (op_len' rfl rfl sl229 (vt rfl)) rfl <| Mk rfl <| Nl <| AW.block <| AW.loopG (d := []) (ν := (List (Vector Tern 24)) × Nat × Int) (fun n => Sfx l2 n.2.1 n.1 ∧ F_cover_among_l1 cu1 n.1 n.2.1 n.2.2 = some r) (fun n => n.1.length) (fun n => [(2, ptrL g3 (Lens.id (karr 24 kTern))), (6, rd (kint .i64) n.2.2), (11, rd (ksl (karr 24 kTern)) l2), (12, rd (kint .i64) (l2.length : Int)), (13, rd (kint .i64) (n.2.1 : Int))]) (fun n => [(3, Blk g3 87 (karr 24 kTern) cu1)]) (l2, 0, (-1)) ⟨Sfx.start _, h⟩ ⟨rfl, ⟨rfl, rfl, rfl, rfl, rfl, trivial⟩, ⟨rfl, trivial⟩⟩ ?_
  rintro ⟨l7, i6, first5⟩ ⟨hsf1, h⟩
  change Sfx l2 i6 l7 at hsf1
  change F_cover_among_l1 cu1 l7 i6 first5 = some r at h
  change AW _ _ _ ⟨slots [(2, ptrL g3 (Lens.id (karr 24 kTern))), (6, rd (kint .i64) first5), (11, rd (ksl (karr 24 kTern)) l2), (12, rd (kint .i64) (l2.length : Int)), (13, rd (kint .i64) (i6 : Int))], ress [(3, Blk g3 87 (karr 24 kTern) cu1)], _⟩
  cases l7 with
  | nil =>
    unfold F_cover_among_l1 at h
    refine SR <| Ac (op_lss rfl rfl (vt rfl) (vt rfl)) rfl <| Nl <| AW.seq <| Cn rfl (fun hc => absurd (of_decide_eq_true hc) hsf1.nil) (fun hc => ?_)
    refine AW.exit <| SR <| Md rfl <| Ab rfl <| As rfl <| Nl <| AW.ret ?_
    obtain rfl := si h
    exact ret2 Tryz.results279 rfl (out_tmp rfl) (out_tmp rfl)
  | cons x8 l7 =>
    unfold F_cover_among_l1 at h
    generalize hgo1 : F_cover_among_l1 cu1 l7 = go1 at h
    refine SR <| Ac (op_lss rfl rfl (vt rfl) (vt rfl)) rfl <| Nl <| AW.seq <| Cn rfl (fun hc => ?_) (fun hc => absurd hsf1.cons (of_decide_eq_false hc))
    have hlti6 := of_decide_eq_true hc
    refine AW.skip <| AW.seq <| AW.block <| SR <| Md rfl <| Ac (op_indexs' rfl rfl sl229 (vt rfl) (vt rfl) hsf1.lget) rfl <| Lp1 ty87 rfl <| Ct rfl (op_alloc 9 rfl rfl zr87) ?_
    rintro _ ⟨g9, rfl⟩
    refine As rfl <| Sto ty87 9 rfl <| Nl <| AW.seq ?_
    obtain ⟨x10, hx10, h⟩ := bsome h
    refine Rg <| Ld ty87 3 rfl <| Ld ty87 9 rfl <| Cl [19, 20] (c_cube_Meet _ _ _ hx10) e203 rfl <| Mt2 rfl <| Ac (op_fst rfl rfl (vt rfl)) rfl <| Ac (op_snd rfl rfl (vt rfl)) rfl <| Ct rfl (op_alloc 10 rfl rfl zr87) ?_
    rintro _ ⟨g11, rfl⟩
    refine Sto ty87 10 rfl <| As rfl <| Nl <| AW.block <| SR <| Md rfl <| Ac (op_not rfl rfl (vt rfl)) rfl <| As rfl <| Nl <| Cn rfl (fun hc => ?_) (fun hc => ?_)
    · have h := cond_t hc h
      refine AW.skip <| Rg <| Ac (op_incr (t := 12) rfl rfl (vt rfl) (vk rfl) (vt rfl) hlti6) rfl <| Md rfl <| Nl ?_
      subst hgo1
      exact ⟨(l7, i6 + 1, first5), Nat.lt_succ_self _, ⟨hsf1.next, h⟩, ⟨rfl, ⟨rfl, rfl, rfl, rfl, rfl, trivial⟩, ⟨rfl, trivial⟩⟩⟩
    · have h := cond_f hc h
      refine AW.seq ?_
      obtain ⟨x12, hx12, h⟩ := bsome h
      refine Rg <| Ld ty87 3 rfl <| Ld ty87 9 rfl <| Cl [28, 29] (c_cube_Within _ _ _ hx12) e316 rfl <| As rfl <| Nl <| Cn rfl (fun hc => ?_) (fun hc => ?_)
      · have h := cond_t hc h
        refine SR <| Md rfl <| Ab rfl <| As rfl <| Nl <| AW.ret ?_
        obtain rfl := si h
        exact ret2 Tryz.results279 rfl (out_tmp rfl) (out_tmp rfl)
      · have h := cond_f hc h
        refine SR <| Md rfl <| Ac (op_lss rfl rfl (vt rfl) (vk rfl)) rfl <| As rfl <| Nl <| Cn rfl (fun hc => ?_) (fun hc => ?_)
        · have h := cond_t hc h
          refine Rg <| Md rfl <| As rfl <| Nl <| Rg <| Ac (op_incr (t := 12) rfl rfl (vt rfl) (vk rfl) (vt rfl) hlti6) rfl <| Md rfl <| Nl ?_
          subst hgo1
          exact ⟨(l7, i6 + 1, (i6 : Int)), Nat.lt_succ_self _, ⟨hsf1.next, h⟩, ⟨rfl, ⟨rfl, rfl, rfl, rfl, rfl, trivial⟩, ⟨rfl, trivial⟩⟩⟩
        · have h := cond_f hc h
          refine AW.skip <| Rg <| Ac (op_incr (t := 12) rfl rfl (vt rfl) (vk rfl) (vt rfl) hlti6) rfl <| Md rfl <| Nl ?_
          subst hgo1
          exact ⟨(l7, i6 + 1, first5), Nat.lt_succ_self _, ⟨hsf1.next, h⟩, ⟨rfl, ⟨rfl, rfl, rfl, rfl, rfl, trivial⟩, ⟨rfl, trivial⟩⟩⟩
def F_cube_Pick_l1 : (List Tern) → Nat → (Vector Wide 24) → Option (Vector Wide 24)
  | [], i7, b6 => some b6
  | x9 :: l8, i7, b6 => (F_tern_Clean x9).bind fun x11 => (chk 24 (i7 : Int)).bind fun j12 => (F_cube_Pick_l1 l8) (i7 + 1) (Vector.set b6 j12.1 x11.Value j12.2)
def F_cube_Pick (cu1 : (Vector Tern 24)) : Option (Vector Wide 24) :=
  F_cube_Pick_l1 (Vector.toList cu1) 0 (Vector.replicate 24 zWide)
theorem c_cube_Pick (cu1 : (Vector Tern 24)) (r : (Vector Wide 24)) (h : F_cube_Pick cu1 = some r) : PCon Tryz.prog 70 [rd (karr 24 kTern) cu1] (rd (karr 24 kWide) r) := by
  refine PCon.of (Con.intro0 Tryz.func70 rfl Tryz.ntmps70 rfl fun w H => ?_)
  unfold F_cube_Pick at h
  refine SR <| Ct rfl (op_box 2 rfl rfl (vt rfl)) ?_
  rintro _ ⟨g2, rfl⟩
  refine Ct rfl (op_alloc 3 rfl rfl zr44) ?_
  rintro _ ⟨g3, rfl⟩
  refine Nl <| SR <| Ct rfl (op_alloc 4 rfl rfl zr44) ?_
  rintro _ ⟨g4, rfl⟩
  refine Nl <| AW.seq <| SR <| Ld ty87 2 rfl <| Mk rfl <| Nl <| AW.block <| AW.loopG (d := []) (ν := (List Tern) × Nat × (Vector Wide 24)) (fun n => Sfx (Vector.toList cu1) n.2.1 n.1 ∧ F_cube_Pick_l1 n.1 n.2.1 n.2.2 = some r) (fun n => n.1.length) (fun n => [(2, ptrL g3 (Lens.id (karr 24 kWide))), (3, ptrL g4 (Lens.id (karr 24 kWide))), (6, rd (karr 24 kTern) cu1), (7, rd (kint .i64) (n.2.1 : Int))]) (fun n => [(3, Blk g3 44 (karr 24 kWide) (Vector.replicate 24 zWide)), (4, Blk g4 44 (karr 24 kWide) n.2.2)]) ((Vector.toList cu1), 0, (Vector.replicate 24 zWide)) ⟨Sfx.start _, h⟩ ⟨rfl, ⟨rfl, rfl, rfl, rfl, trivial⟩, ⟨rfl, rfl, trivial⟩⟩ ?_
  rintro ⟨l8, i7, b6⟩ ⟨hsf1, h⟩
  change Sfx (Vector.toList cu1) i7 l8 at hsf1
  change F_cube_Pick_l1 l8 i7 b6 = some r at h
  change AW _ _ _ ⟨slots [(2, ptrL g3 (Lens.id (karr 24 kWide))), (3, ptrL g4 (Lens.id (karr 24 kWide))), (6, rd (karr 24 kTern) cu1), (7, rd (kint .i64) (i7 : Int))], ress [(3, Blk g3 44 (karr 24 kWide) (Vector.replicate 24 zWide)), (4, Blk g4 44 (karr 24 kWide) b6)], _⟩
  cases l8 with
  | nil =>
    unfold F_cube_Pick_l1 at h
    refine SR <| Ac (op_lss rfl rfl (vt rfl) (vk rfl)) rfl <| Nl <| AW.seq <| Cn rfl (fun hc => absurd (of_decide_eq_true hc) (hsf1.niln (by simp))) (fun hc => ?_)
    refine AW.exit <| SR <| Ld ty44 4 rfl <| Sto ty44 3 rfl <| Nl <| AW.ret ?_
    obtain rfl := si h
    exact ret1 Tryz.results70 rfl (out_cell rfl (i := 3) rfl ty44)
  | cons x9 l8 =>
    unfold F_cube_Pick_l1 at h
    generalize hgo1 : F_cube_Pick_l1 l8 = go1 at h
    refine SR <| Ac (op_lss rfl rfl (vt rfl) (vk rfl)) rfl <| Nl <| AW.seq <| Cn rfl (fun hc => ?_) (fun hc => absurd (hsf1.consn (by simp)) (of_decide_eq_false hc))
    have hlti7 := of_decide_eq_true hc
    refine AW.skip <| AW.seq <| AW.block <| SR <| Md rfl <| Ac (op_indexv rfl rfl ar87 ty85 (vt rfl) (vt rfl) hsf1.lget) rfl <| Ct rfl (op_alloc 6 rfl rfl zr85) ?_
    rintro _ ⟨g10, rfl⟩
    refine As rfl <| Sto ty85 6 rfl <| Nl ?_
    obtain ⟨x11, hx11, h⟩ := bsome h
    obtain ⟨j12, hj12, h⟩ := bsome h
    refine Rg <| Md rfl <| Ld ty85 6 rfl <| Cl [12] (c_tern_Clean _ _ hx11) e127 rfl <| Ac (op_fieldv lTern_0 rfl rfl fl85_0 ft85_0 ty42 rfl (vt rfl)) rfl <| Ac (op_index' rfl rfl ar44 (vt rfl) (vt rfl) hj12) rfl <| Sto ty42 4 rfl <| Nl <| Rg <| Ac (op_incrc rfl rfl (vt rfl) (vk rfl) rfl hlti7) rfl <| Md rfl <| Nl ?_
    subst hgo1
    exact ⟨(l8, i7 + 1, (Vector.set b6 j12.1 x11.Value j12.2)), Nat.lt_succ_self _, ⟨hsf1.next, h⟩, ⟨rfl, ⟨rfl, rfl, rfl, rfl, trivial⟩, ⟨rfl, rfl, trivial⟩⟩⟩
end Go.Proofs.YtknpgojdkobgjaaGreat.W
set_option linter.unusedVariables false
set_option maxRecDepth 4000
set_option linter.unusedSimpArgs false
namespace Go.Proofs.YtknpgojdkobgjaaGreat.W
open Go Go.Wb
theorem e197 : Ent Tryz.prog 197 := Ent.mk Tryz.func197 rfl rfl
theorem e331 : Ent Tryz.prog 331 := Ent.mk Tryz.func331 rfl rfl
theorem e327 : Ent Tryz.prog 327 := Ent.mk Tryz.func327 rfl rfl
theorem e294 : Ent Tryz.prog 294 := Ent.mk Tryz.func294 rfl rfl
theorem e319 : Ent Tryz.prog 319 := Ent.mk Tryz.func319 rfl rfl
theorem e126 : Ent Tryz.prog 126 := Ent.mk Tryz.func126 rfl rfl
theorem e318 : Ent Tryz.prog 318 := Ent.mk Tryz.func318 rfl rfl
theorem e320 : Ent Tryz.prog 320 := Ent.mk Tryz.func320 rfl rfl
def F_cube_Clean_1 (i1 : Int) (cp2 : (Vector Tern 24)) : Option (Tern × Bool) :=
  (chk 24 i1).bind fun j4 => (F_tern_Clean (Vector.get cp2 j4)).bind fun x5 => some (x5, true)
theorem c_cube_Clean_1 (i1 : Int) (cp2 : (Vector Tern 24)) (r : (Tern × Bool)) (h : F_cube_Clean_1 i1 cp2 = some r) : PCon Tryz.prog 197 [rd (kint .i64) i1, rp (karr 24 kTern) cp2] (tup2 (rd kTern r.1) (rd kbool r.2)) := by
  refine PCon.of (Con.intro0 Tryz.func197 rfl Tryz.ntmps197 rfl fun w H => ?_)
  unfold F_cube_Clean_1 at h
  refine SR <| Ct rfl (op_alloc 4 rfl rfl zr85) ?_
  rintro _ ⟨g3, rfl⟩
  refine Ab rfl <| Nl <| AW.seq ?_
  obtain ⟨j4, hj4, h⟩ := bsome h
  obtain ⟨x5, hx5, h⟩ := bsome h
  refine Rg <| Md rfl <| Ac (op_indexp' rfl rfl ar87 (vt rfl) (vt rfl) hj4) rfl <| Lp1 ty85 rfl <| Cl [7] (c_tern_Clean _ _ hx5) e127 rfl <| Sto ty85 4 rfl <| Ab rfl <| Nl <| AW.ret ?_
  obtain rfl := si h
  exact ret2 Tryz.results197 rfl (out_cell rfl (i := 4) rfl ty85) (out_tmp rfl)
def F_cube_Clean (cu1 : (Vector Tern 24)) : Option (Vector Tern 24) :=
  (F_cube_each (fun x => F_cube_Clean_1 x cu1)).bind fun x4 => some x4.1
theorem c_cube_Clean (cu1 : (Vector Tern 24)) (r : (Vector Tern 24)) (h : F_cube_Clean cu1 = some r) : PCon Tryz.prog 126 [rd (karr 24 kTern) cu1] (rd (karr 24 kTern) r) := by
  refine PCon.of (Con.intro0 Tryz.func126 rfl Tryz.ntmps126 rfl fun w H => ?_)
  unfold F_cube_Clean at h
  refine SR <| Ct rfl (op_box 2 rfl rfl (vt rfl)) ?_
  rintro _ ⟨g2, rfl⟩
  refine Ct rfl (op_alloc 3 rfl rfl zr87) ?_
  rintro _ ⟨g3, rfl⟩
  refine Nl <| AW.seq <| AW.freezeB 1 2 rfl rfl rfl ?_
  obtain ⟨x4, hx4, h⟩ := bsome h
  refine Rg <| Ac (op_fa1 (fs := []) (FAs := []) (cs := [.tmp 1]) (CAs := [rp (karr 24 kTern) cu1]) (kx := (kint .i64)) (B := (fun (y : (Tern × Bool)) => tup2 (rd kTern y.1) (rd kbool y.2))) (fun x => F_cube_Clean_1 x cu1) rfl rfl e197 trivial ⟨vt rfl, trivial⟩ (fun x y h => c_cube_Clean_1 _ _ y h)) rfl <| Cl [6] (c_cube_each _ _ hx4) e196 rfl <| Mt2 rfl <| Ac (op_fst rfl rfl (vt rfl)) rfl <| Ac (op_snd rfl rfl (vt rfl)) rfl <| Ct rfl (op_alloc 4 rfl rfl zr87) ?_
  rintro _ ⟨g5, rfl⟩
  refine Sto ty87 4 rfl <| As rfl <| Nl <| SR <| Ld ty87 4 rfl <| Sto ty87 3 rfl <| Nl <| AW.ret ?_
  obtain rfl := si h
  exact ret1 Tryz.results126 rfl (out_cell rfl (i := 3) rfl ty87)
def F_math_bits_OnesCount64 (x1 : (BitVec 64)) : Option Int :=
  (oushr x1 ((1 : BitVec 64).toNat : Int)).bind fun q2 => (oushr ((q2 &&& (6148914691236517205 : BitVec 64)) + (x1 &&& (6148914691236517205 : BitVec 64))) ((2 : BitVec 64).toNat : Int)).bind fun q3 => (oushr ((q3 &&& (3689348814741910323 : BitVec 64)) + (((q2 &&& (6148914691236517205 : BitVec 64)) + (x1 &&& (6148914691236517205 : BitVec 64))) &&& (3689348814741910323 : BitVec 64))) ((4 : BitVec 64).toNat : Int)).bind fun q4 => (oushr ((q4 + ((q3 &&& (3689348814741910323 : BitVec 64)) + (((q2 &&& (6148914691236517205 : BitVec 64)) + (x1 &&& (6148914691236517205 : BitVec 64))) &&& (3689348814741910323 : BitVec 64)))) &&& (1085102592571150095 : BitVec 64)) ((8 : BitVec 64).toNat : Int)).bind fun q5 => (oushr (((q4 + ((q3 &&& (3689348814741910323 : BitVec 64)) + (((q2 &&& (6148914691236517205 : BitVec 64)) + (x1 &&& (6148914691236517205 : BitVec 64))) &&& (3689348814741910323 : BitVec 64)))) &&& (1085102592571150095 : BitVec 64)) + q5) ((16 : BitVec 64).toNat : Int)).bind fun q6 => (oushr ((((q4 + ((q3 &&& (3689348814741910323 : BitVec 64)) + (((q2 &&& (6148914691236517205 : BitVec 64)) + (x1 &&& (6148914691236517205 : BitVec 64))) &&& (3689348814741910323 : BitVec 64)))) &&& (1085102592571150095 : BitVec 64)) + q5) + q6) ((32 : BitVec 64).toNat : Int)).bind fun q7 => some (ibits .and .i64 (IntKind.i64.wrap ((((((q4 + ((q3 &&& (3689348814741910323 : BitVec 64)) + (((q2 &&& (6148914691236517205 : BitVec 64)) + (x1 &&& (6148914691236517205 : BitVec 64))) &&& (3689348814741910323 : BitVec 64)))) &&& (1085102592571150095 : BitVec 64)) + q5) + q6) + q7).toNat : Int)) 127)
theorem c_math_bits_OnesCount64 (x1 : (BitVec 64)) (r : Int) (h : F_math_bits_OnesCount64 x1 = some r) : PCon Tryz.prog 331 [rd ku64 x1] (rd (kint .i64) r) := by
  refine PCon.of (Con.intro0 Tryz.func331 rfl Tryz.ntmps331 rfl fun w H => ?_)
  unfold F_math_bits_OnesCount64 at h
  refine SR <| Ak rfl <| Nl <| AW.seq ?_
  obtain ⟨q2, hq2, h⟩ := bsome h
  refine Rg <| Md rfl <| Ac (op_ushr rfl rfl (vt rfl) (vu64 (vku (1 : BitVec 64) rfl)) hq2) rfl <| Ac (op_and rfl rfl (vt rfl) (vku (6148914691236517205 : BitVec 64) rfl)) rfl <| Md rfl <| Ac (op_and rfl rfl (vt rfl) (vku (6148914691236517205 : BitVec 64) rfl)) rfl <| Ac (op_uadd rfl rfl (vt rfl) (vt rfl)) rfl <| As rfl <| Nl <| AW.seq ?_
  obtain ⟨q3, hq3, h⟩ := bsome h
  refine Rg <| Md rfl <| Ac (op_ushr rfl rfl (vt rfl) (vu64 (vku (2 : BitVec 64) rfl)) hq3) rfl <| Ac (op_and rfl rfl (vt rfl) (vku (3689348814741910323 : BitVec 64) rfl)) rfl <| Md rfl <| Ac (op_and rfl rfl (vt rfl) (vku (3689348814741910323 : BitVec 64) rfl)) rfl <| Ac (op_uadd rfl rfl (vt rfl) (vt rfl)) rfl <| As rfl <| Nl <| AW.seq ?_
  obtain ⟨q4, hq4, h⟩ := bsome h
  refine Rg <| Md rfl <| Ac (op_ushr rfl rfl (vt rfl) (vu64 (vku (4 : BitVec 64) rfl)) hq4) rfl <| Md rfl <| Ac (op_uadd rfl rfl (vt rfl) (vt rfl)) rfl <| Ac (op_and rfl rfl (vt rfl) (vku (1085102592571150095 : BitVec 64) rfl)) rfl <| As rfl <| Nl <| AW.seq ?_
  obtain ⟨q5, hq5, h⟩ := bsome h
  refine Rg <| Md rfl <| Md rfl <| Ac (op_ushr rfl rfl (vt rfl) (vu64 (vku (8 : BitVec 64) rfl)) hq5) rfl <| Ac (op_uadd rfl rfl (vt rfl) (vt rfl)) rfl <| As rfl <| Nl <| AW.seq ?_
  obtain ⟨q6, hq6, h⟩ := bsome h
  refine Rg <| Md rfl <| Md rfl <| Ac (op_ushr rfl rfl (vt rfl) (vu64 (vku (16 : BitVec 64) rfl)) hq6) rfl <| Ac (op_uadd rfl rfl (vt rfl) (vt rfl)) rfl <| As rfl <| Nl <| AW.seq ?_
  obtain ⟨q7, hq7, h⟩ := bsome h
  refine Rg <| Md rfl <| Md rfl <| Ac (op_ushr rfl rfl (vt rfl) (vu64 (vku (32 : BitVec 64) rfl)) hq7) rfl <| Ac (op_uadd rfl rfl (vt rfl) (vt rfl)) rfl <| As rfl <| Nl <| SR <| Md rfl <| Ac (op_uconv rfl rfl us40 un3 (vt rfl)) rfl <| Ac (op_iand rfl rfl (vt rfl) (vk rfl)) rfl <| As rfl <| Nl <| AW.ret ?_
  obtain rfl := si h
  exact ret1 Tryz.results331 rfl (out_tmp rfl)
def F_wide_Many (a1 : Wide) : Option Int :=
  (F_math_bits_OnesCount64 a1.Hi).bind fun x3 => (F_math_bits_OnesCount64 a1.Lo).bind fun x4 => some (IntKind.i64.wrap (x3 + x4))
theorem c_wide_Many (a1 : Wide) (r : Int) (h : F_wide_Many a1 = some r) : PCon Tryz.prog 294 [rd kWide a1] (rd (kint .i64) r) := by
  refine PCon.of (Con.intro0 Tryz.func294 rfl Tryz.ntmps294 rfl fun w H => ?_)
  unfold F_wide_Many at h
  refine SR <| Ct rfl (op_box 2 rfl rfl (vt rfl)) ?_
  rintro _ ⟨g2, rfl⟩
  refine Ak rfl <| Nl <| AW.seq ?_
  obtain ⟨x3, hx3, h⟩ := bsome h
  obtain ⟨x4, hx4, h⟩ := bsome h
  refine AW.regionAny [⟨[1], [3], [], []⟩, ⟨[3], [4], [2], []⟩, ⟨[4], [5], [], []⟩, ⟨[1], [6], [], []⟩, ⟨[6], [7], [2], []⟩, ⟨[7], [8], [], []⟩, ⟨[5, 8], [9], [], []⟩, ⟨[9], [2], [], []⟩] mixed (by kernel_rfl) <| SFd lWide_0 fl42_0 rfl <| SLd ty40 2 rfl <| SCl [4] (c_math_bits_OnesCount64 _ _ hx3) e331 rfl <| SFd lWide_1 fl42_1 rfl <| SLd ty40 2 rfl <| SCl [7] (c_math_bits_OnesCount64 _ _ hx4) e331 rfl <| Sc (lo [5, 8] [] rfl fun S hs hr => op_add rfl rfl (vh hs 5 rfl rfl) (vh hs 8 rfl rfl)) rfl <| SAs rfl <| AW.ret ?_
  obtain rfl := si h
  exact ret1 Tryz.results294 rfl (out_tmp rfl)
def F_wide_Bit (i1 : Int) : Option Wide :=
  (bif ((decide (i1 < 0)) || (decide (i1 > 127))) then some (⟨0, 0⟩ : Wide) else (oquo .i64 i1 64).bind fun q4 => (omod i1 64).bind fun q5 => (oushl (1 : BitVec 64) q5).bind fun q6 => (chk 2 q4).bind fun j7 => some (⟨(Vector.get (Vector.set (Vector.replicate 2 0) j7.1 q6 j7.2) (⟨1, by decide⟩ : _root_.Fin 2)), (Vector.get (Vector.set (Vector.replicate 2 0) j7.1 q6 j7.2) (⟨0, by decide⟩ : _root_.Fin 2))⟩ : Wide))
theorem c_wide_Bit (i1 : Int) (r : Wide) (h : F_wide_Bit i1 = some r) : PCon Tryz.prog 327 [rd (kint .i64) i1] (rd kWide r) := by
  refine PCon.of (Con.intro0 Tryz.func327 rfl Tryz.ntmps327 rfl fun w H => ?_)
  unfold F_wide_Bit at h
  refine SR <| Ct rfl (op_alloc 3 rfl rfl zr42) ?_
  rintro _ ⟨g2, rfl⟩
  refine Nl <| SR <| Ct rfl (op_alloc 4 rfl rfl zr367) ?_
  rintro _ ⟨g3, rfl⟩
  refine Nl <| AW.seq <| SR <| Md rfl <| Ac (op_lss rfl rfl (vt rfl) (vk rfl)) rfl <| Md rfl <| Gd rfl (fun hq => op_move (A := rd (kint .i64) i1) rfl rfl (vt rfl)) <| Gd rfl (fun hq => op_gtr rfl rfl (vgt rfl hq) (vk rfl)) <| Ac (op_any rfl rfl (vt rfl) (vt rfl)) rfl <| Nl <| Cn rfl (fun hc => ?_) (fun hc => ?_)
  · have h := cond_t hc h
    refine SR <| Ac (op_build (ps := []) (x := (⟨0, 0⟩ : Wide)) rfl rfl rfl (by kernel_rfl) zr42 rfl) rfl <| Sto ty42 3 rfl <| Nl <| AW.ret ?_
    obtain rfl := si h
    exact ret1 Tryz.results327 rfl (out_cell rfl (i := 3) rfl ty42)
  · have h := cond_f hc h
    refine AW.skip <| AW.seq ?_
    obtain ⟨q4, hq4, h⟩ := bsome h
    obtain ⟨q5, hq5, h⟩ := bsome h
    obtain ⟨q6, hq6, h⟩ := bsome h
    obtain ⟨j7, hj7, h⟩ := bsome h
    refine Rg <| Md rfl <| Ac (op_quo rfl rfl (vt rfl) (vk rfl) hq4) rfl <| Md rfl <| Ac (op_rem rfl rfl (vt rfl) (vk rfl) hq5) rfl <| Ac (op_ushl rfl rfl (vku (1 : BitVec 64) rfl) (vt rfl) hq6) rfl <| Ac (op_index' rfl rfl ar367 (vt rfl) (vt rfl) hj7) rfl <| Sto ty40 4 rfl <| Nl <| SR <| Ac (op_index' rfl rfl ar367 (vt rfl) (vk rfl) rfl) rfl <| Ld ty40 4 rfl <| Ac (op_index' rfl rfl ar367 (vt rfl) (vk rfl) rfl) rfl <| Ld ty40 4 rfl <| Ac (op_build (ps := [(0, .tmp 18), (1, .tmp 20)]) (x := (⟨(Vector.get (Vector.set (Vector.replicate 2 0) j7.1 q6 j7.2) (⟨1, by decide⟩ : _root_.Fin 2)), (Vector.get (Vector.set (Vector.replicate 2 0) j7.1 q6 j7.2) (⟨0, by decide⟩ : _root_.Fin 2))⟩ : Wide)) rfl rfl rfl (by kernel_rfl) zr42 ⟨_, _, lWide_0, _, by kernel_rfl, (vt rfl), _, _, lWide_1, _, by kernel_rfl, (vt rfl), rfl⟩) rfl <| Sto ty42 3 rfl <| Nl <| AW.ret ?_
    obtain rfl := si h
    exact ret1 Tryz.results327 rfl (out_cell rfl (i := 3) rfl ty42)
def F_wide_Has (a1 : Wide) (i2 : Int) : Option Bool :=
  (F_wide_Bit i2).bind fun x4 => (F_wide_And a1 x4).bind fun x5 => (F_wide_Zero x5).bind fun x6 => some (!x6)
theorem c_wide_Has (a1 : Wide) (i2 : Int) (r : Bool) (h : F_wide_Has a1 i2 = some r) : PCon Tryz.prog 319 [rd kWide a1, rd (kint .i64) i2] (rd kbool r) := by
  refine PCon.of (Con.intro0 Tryz.func319 rfl Tryz.ntmps319 rfl fun w H => ?_)
  unfold F_wide_Has at h
  refine SR <| Ct rfl (op_box 3 rfl rfl (vt rfl)) ?_
  rintro _ ⟨g3, rfl⟩
  refine Ab rfl <| Nl <| AW.seq ?_
  obtain ⟨x4, hx4, h⟩ := bsome h
  obtain ⟨x5, hx5, h⟩ := bsome h
  obtain ⟨x6, hx6, h⟩ := bsome h
  refine AW.regionAny [⟨[2], [5], [3], []⟩, ⟨[1], [6], [], []⟩, ⟨[6], [7], [], []⟩, ⟨[5, 7], [8], [], []⟩, ⟨[8], [9], [], []⟩, ⟨[9], [10], [], []⟩, ⟨[10], [4], [], []⟩] mixed (by kernel_rfl) <| SLd ty42 3 rfl <| SMd rfl <| SCl [6] (c_wide_Bit _ _ hx4) e327 rfl <| SCl [5, 7] (c_wide_And _ _ _ hx5) e177 rfl <| SCl [8] (c_wide_Zero _ _ hx6) e173 rfl <| Sc (lo [9] [] rfl fun S hs hr => op_not rfl rfl (vh hs 9 rfl rfl)) rfl <| SAs rfl <| AW.ret ?_
  obtain rfl := si h
  exact ret1 Tryz.results319 rfl (out_tmp rfl)
def F_tern_Bits_l1 (x5 : Wide) : Nat → (List Int) → Int → Option (List Int)
  | 0, _, _ => none
  | m13 + 1, l10, i12 => (opt (decide (i12 ≥ 0)) (F_wide_Many x5)).bind fun x14 => (bif ((decide (i12 ≥ 0)) && (decide ((l10.length : Int) < x14))) then (F_wide_Has x5 i12).bind fun x15 => (bif x15 then (appd l10 [i12]).bind fun l16 => (F_tern_Bits_l1 x5 m13) l16 (IntKind.i64.wrap (i12 - 1)) else (F_tern_Bits_l1 x5 m13) l10 (IntKind.i64.wrap (i12 - 1))) else some l10)
def F_tern_Bits (a1 : Tern) (b2 : Tern) : Option (List Int) :=
  (F_wide_Less b2.Mask a1.Mask).bind fun x5 => F_tern_Bits_l1 x5 fuel0 [] 127
theorem c_tern_Bits (a1 : Tern) (b2 : Tern) (r : (List Int)) (h : F_tern_Bits a1 b2 = some r) : PCon Tryz.prog 318 [rd kTern a1, rd kTern b2] (rd (ksl (kint .i64)) r) := by
  refine PCon.of (Con.intro0 Tryz.func318 rfl Tryz.ntmps318 rfl fun w H => ?_)
  unfold F_tern_Bits at h
  refine SR <| Ct rfl (op_box 3 rfl rfl (vt rfl)) ?_
  rintro _ ⟨g3, rfl⟩
  refine Ct rfl (op_box 4 rfl rfl (vt rfl)) ?_
  rintro _ ⟨g4, rfl⟩
  refine Ac (op_assign (A := rd (ksl (kint .i64)) []) rfl rfl vnil) rfl <| Nl <| AW.seq ?_
  obtain ⟨x5, hx5, h⟩ := bsome h
  refine Rg <| FdA lTern_1 fl85_1 rfl <| Ld ty42 4 rfl <| FdA lTern_1 fl85_1 rfl <| Ld ty42 3 rfl <| Cl [9, 11] (c_wide_Less _ _ _ hx5) e176 rfl <| Ct rfl (op_alloc 6 rfl rfl zr42) ?_
  rintro _ ⟨g6, rfl⟩
  refine Sto ty42 6 rfl <| Nl <| AW.seq <| AW.newnil 1001 3 (kint .i64) <| Rg <| Ac (op_assign rfl rfl vc) rfl <| Nl <| AW.seq <| SR <| Ak rfl <| Nl <| AW.block <| AW.loopG (d := []) (ν := Nat × (List Int) × Int × Value) (fun n => True ∧ F_tern_Bits_l1 x5 n.1 n.2.1 n.2.2.1 = some r) (fun n => n.1) (fun n => [(5, ptrL g6 (Lens.id kWide)), (6, raw n.2.2.2), (7, rd (kint .i64) n.2.2.1)]) (fun n => [(6, Blk g6 42 kWide x5), (1001, Row n.2.2.2 3 (kint .i64) n.2.1)]) (fuel0, [], 127, (.slice none 0 0)) ⟨trivial, h⟩ ⟨rfl, ⟨rfl, rfl, rfl, trivial⟩, ⟨rfl, rfl, trivial⟩⟩ ?_
  rintro ⟨m13, l10, i12, v11⟩ ⟨hsf1, h⟩
  change True at hsf1
  change F_tern_Bits_l1 x5 m13 l10 i12 = some r at h
  change AW _ _ _ ⟨slots [(5, ptrL g6 (Lens.id kWide)), (6, raw v11), (7, rd (kint .i64) i12)], ress [(6, Blk g6 42 kWide x5), (1001, Row v11 3 (kint .i64) l10)], _⟩
  cases m13 with
  | zero => cases h
  | succ m13 =>
    unfold F_tern_Bits_l1 at h
    generalize hgo1 : F_tern_Bits_l1 x5 m13 = go1 at h
    refine AW.seq <| AW.seq ?_
    obtain ⟨x14, hx14, h⟩ := bsome h
    refine Rg <| Md rfl <| Ac (op_geq rfl rfl (vt rfl) (vk rfl)) rfl <| Md rfl <| Gd rfl (fun hq => op_move (A := raw v11) rfl rfl (vt rfl)) <| Gd rfl (fun hq => op_leno 1001 rfl rfl sl37 (vgt rfl hq) rfl) <| Gd rfl (fun hq => op_load rfl rfl ty42 (vt rfl) (i := 6) rfl) <| Gd rfl (fun hq => op_call (xs := [.tmp 18]) (c_wide_Many _ _ (opt_t hx14 hq)) e294 rfl rfl ⟨vgt rfl hq, trivial⟩) <| Gd rfl (fun hq => op_lss rfl rfl (vgt rfl hq) (vgt rfl hq)) <| Ac (op_all rfl rfl (vt rfl) (vt rfl)) rfl <| Nl <| Cn rfl (fun hc => ?_) (fun hc => ?_)
    · have h := cond_t hc h
      refine AW.skip <| AW.seq <| AW.block <| AW.seq ?_
      obtain ⟨x15, hx15, h⟩ := bsome h
      refine Rg <| Ld ty42 6 rfl <| Md rfl <| Cl [24, 25] (c_wide_Has _ _ _ hx15) e319 rfl <| Nl <| Cn rfl (fun hc => ?_) (fun hc => ?_)
      · have h := cond_t hc h
        obtain ⟨l16, hl16, h⟩ := bsome h
        refine Rg <| Mw rfl <| Md rfl <| Ac (op_buildSliceR (ps := [(0, .tmp 28)]) (l := [i12]) rfl rfl sl37 zr3 rfl rfl ⟨_, _, Lens.idx 1 (kint .i64) 0 (by decide), _, rfl, (vt rfl), rfl⟩ rfl) rfl <| Ct rfl (op_append' 1001 hl16 rfl rfl el37 (vt rfl) rfl (vt rfl)) ?_
        rintro _ ⟨v17, rfl⟩
        refine Aw rfl <| Nl <| Rg <| Md rfl <| Ac (op_sub rfl rfl (vt rfl) (vk rfl)) rfl <| As rfl <| Nl ?_
        subst hgo1
        exact ⟨(m13, l16, (IntKind.i64.wrap (i12 - 1)), v17), Nat.lt_succ_self _, ⟨trivial, h⟩, ⟨rfl, ⟨rfl, rfl, rfl, trivial⟩, ⟨rfl, rfl, trivial⟩⟩⟩
      · have h := cond_f hc h
        refine AW.skip <| Rg <| Md rfl <| Ac (op_sub rfl rfl (vt rfl) (vk rfl)) rfl <| As rfl <| Nl ?_
        subst hgo1
        exact ⟨(m13, l10, (IntKind.i64.wrap (i12 - 1)), v11), Nat.lt_succ_self _, ⟨trivial, h⟩, ⟨rfl, ⟨rfl, rfl, rfl, trivial⟩, ⟨rfl, rfl, trivial⟩⟩⟩
    · have h := cond_f hc h
      refine AW.exit <| SR <| Mw rfl <| Aw rfl <| Nl <| AW.freezes [4, 6, 31] 1001 rfl ⟨rfl, rfl, rfl, trivial⟩ rfl <| AW.ret ?_
      obtain rfl := si h
      exact ret1 Tryz.results318 rfl (out_tmp rfl)
def F_tern_Fix (t1 : Tern) (i2 : Int) (on3 : Bool) : Option Tern :=
  (F_wide_Bit i2).bind fun x6 => (F_tern_Clean t1).bind fun x8 => (F_wide_Or x8.Mask x6).bind fun x9 => (F_wide_Less x8.Value x6).bind fun x10 => (bif on3 then (F_wide_Or ({ { x8 with Mask := x9 } with Value := x10 }.Value) x6).bind fun x11 => some { { { x8 with Mask := x9 } with Value := x10 } with Value := x11 } else some { { x8 with Mask := x9 } with Value := x10 })
theorem c_tern_Fix (t1 : Tern) (i2 : Int) (on3 : Bool) (r : Tern) (h : F_tern_Fix t1 i2 on3 = some r) : PCon Tryz.prog 320 [rd kTern t1, rd (kint .i64) i2, rd kbool on3] (rd kTern r) := by
  refine PCon.of (Con.intro0 Tryz.func320 rfl Tryz.ntmps320 rfl fun w H => ?_)
  unfold F_tern_Fix at h
  refine SR <| Ct rfl (op_box 4 rfl rfl (vt rfl)) ?_
  rintro _ ⟨g4, rfl⟩
  refine Ct rfl (op_alloc 7 rfl rfl zr85) ?_
  rintro _ ⟨g5, rfl⟩
  refine Nl <| AW.seq ?_
  obtain ⟨x6, hx6, h⟩ := bsome h
  refine Rg <| Md rfl <| Cl [8] (c_wide_Bit _ _ hx6) e327 rfl <| Ct rfl (op_alloc 8 rfl rfl zr42) ?_
  rintro _ ⟨g7, rfl⟩
  refine Sto ty42 8 rfl <| Nl <| AW.seq ?_
  obtain ⟨x8, hx8, h⟩ := bsome h
  refine Rg <| Ld ty85 4 rfl <| Cl [10] (c_tern_Clean _ _ hx8) e127 rfl <| Sto ty85 4 rfl <| Nl <| AW.seq ?_
  obtain ⟨x9, hx9, h⟩ := bsome h
  obtain ⟨x10, hx10, h⟩ := bsome h
  refine AW.regionAny [⟨[3], [12], [], []⟩, ⟨[12], [13], [4], []⟩, ⟨[7], [14], [8], []⟩, ⟨[13, 14], [15], [], []⟩, ⟨[3], [16], [], []⟩, ⟨[16], [17], [4], []⟩, ⟨[7], [18], [8], []⟩, ⟨[17, 18], [19], [], []⟩, ⟨[3], [20], [], []⟩, ⟨[20, 15], [], [4], [4]⟩, ⟨[3], [21], [], []⟩, ⟨[21, 19], [], [4], [4]⟩] mixed (by kernel_rfl) <| SFd lTern_1 fl85_1 rfl <| SLd ty42 4 rfl <| SLd ty42 8 rfl <| SCl [13, 14] (c_wide_Or _ _ _ hx9) e175 rfl <| SFd lTern_0 fl85_0 rfl <| SLd ty42 4 rfl <| SLd ty42 8 rfl <| SCl [17, 18] (c_wide_Less _ _ _ hx10) e176 rfl <| SFd lTern_1 fl85_1 rfl <| SSt ty42 4 rfl <| SFd lTern_0 fl85_0 rfl <| SSt ty42 4 rfl <| AW.seq <| SR <| Md rfl <| Nl <| Cn rfl (fun hc => ?_) (fun hc => ?_)
  · have h := cond_t hc h
    obtain ⟨x11, hx11, h⟩ := bsome h
    refine Rg <| FdA lTern_0 fl85_0 rfl <| Ld ty42 4 rfl <| Ld ty42 8 rfl <| Cl [24, 25] (c_wide_Or _ _ _ hx11) e175 rfl <| FdA lTern_0 fl85_0 rfl <| Sto ty42 4 rfl <| Nl <| SR <| Ld ty85 4 rfl <| Sto ty85 7 rfl <| Nl <| AW.ret ?_
    obtain rfl := si h
    exact ret1 Tryz.results320 rfl (out_cell rfl (i := 7) rfl ty85)
  · have h := cond_f hc h
    refine AW.skip <| SR <| Ld ty85 4 rfl <| Sto ty85 7 rfl <| Nl <| AW.ret ?_
    obtain rfl := si h
    exact ret1 Tryz.results320 rfl (out_cell rfl (i := 7) rfl ty85)
def F_carve_Parts_1_l2 (sg : Type) (go1 : Nat → (Vector Tern 24) → (Lp sg) → Option (Lp sg)) (i14 : Nat) (x16 : Tern) (yield1 : (sg → (Vector Tern 24) → Option (Lp sg))) : (List Int) → Nat → (Vector Tern 24) → (Lp sg) → Option (Lp sg)
  | [], i24, b22, s23 => go1 (i14 + 1) b22 s23
  | x26 :: l25, i24, b22, s23 => (F_wide_Has x16.Value x26).bind fun x27 => (chk 24 (i14 : Int)).bind fun j29 => (F_tern_Fix (Vector.get b22 j29) x26 (!x27)).bind fun x30 => (chk 24 (i14 : Int)).bind fun j31 => (yc yield1 s23 (Vector.set b22 j31.1 x30 j31.2)).bind fun s32 => (bif (!(Lp.isGo s32)) then some s32 else (chk 24 (i14 : Int)).bind fun j33 => (F_tern_Fix (Vector.get b22 j33) x26 x27).bind fun x34 => (chk 24 (i14 : Int)).bind fun j35 => (F_carve_Parts_1_l2 sg go1 i14 x16 yield1 l25) (i24 + 1) (Vector.set b22 j35.1 x34 j35.2) s32)
def F_carve_Parts_1_l1 (sg : Type) (yield1 : (sg → (Vector Tern 24) → Option (Lp sg))) : (List Tern) → Nat → (Vector Tern 24) → (Lp sg) → Option (Lp sg)
  | [], i14, b12, s13 => some s13
  | x16 :: l15, i14, b12, s13 => (chk 24 (i14 : Int)).bind fun j18 => (F_tern_Bits (Vector.get b12 j18) x16).bind fun x19 => (bif (decide ((x19.length : Int) = 0)) then (F_carve_Parts_1_l1 sg yield1 l15) (i14 + 1) b12 s13 else F_carve_Parts_1_l2 sg (F_carve_Parts_1_l1 sg yield1 l15) i14 x16 yield1 x19 0 b12 s13)
def F_carve_Parts_1 (sg : Type) (yield1 : (sg → (Vector Tern 24) → Option (Lp sg))) (s2 : (Lp sg)) (cp3 : (Vector Tern 24)) (cp4 : (Vector Tern 24)) : Option (Lp sg) :=
  (F_cube_Clean cp3).bind fun x5 => (F_cube_Meet cp3 cp4).bind fun x7 => (bif (!x7.2) then (yc yield1 s2 x5).bind fun s9 => some s9 else F_carve_Parts_1_l1 sg yield1 (Vector.toList cp4) 0 x5 s2)
theorem c_carve_Parts_1 (sg : Type) (yield1 : (sg → (Vector Tern 24) → Option (Lp sg))) (L : Lp sg → Res) (s2 : (Lp sg)) (cp3 : (Vector Tern 24)) (cp4 : (Vector Tern 24)) (r : (Lp sg)) (h : F_carve_Parts_1 sg yield1 s2 cp3 cp4 = some r) : Con Tryz.prog 317 [ydA Tryz.prog (karr 24 kTern) yield1 L, rp (karr 24 kTern) cp3, rp (karr 24 kTern) cp4] (L s2) (fun _ : Unit => top) (fun _ => L r) := by
  refine Con.intro Tryz.func317 rfl Tryz.ntmps317 rfl fun w H X => ?_
  unfold F_carve_Parts_1 at h
  refine AW.scope <| AW.seq ?_
  obtain ⟨x5, hx5, h⟩ := bsome h
  refine Rg <| Lp1 ty87 rfl <| Cl [14] (c_cube_Clean _ _ hx5) e126 rfl <| Ct rfl (op_alloc 5 rfl rfl zr87) ?_
  rintro _ ⟨g6, rfl⟩
  refine Sto ty87 5 rfl <| Nl <| AW.seq <| AW.seq ?_
  obtain ⟨x7, hx7, h⟩ := bsome h
  refine Rg <| Lp1 ty87 rfl <| Lp1 ty87 rfl <| Cl [17, 18] (c_cube_Meet _ _ _ hx7) e203 rfl <| Mt2 rfl <| Ac (op_fst rfl rfl (vt rfl)) rfl <| Ac (op_snd rfl rfl (vt rfl)) rfl <| Ct rfl (op_alloc 6 rfl rfl zr87) ?_
  rintro _ ⟨g8, rfl⟩
  refine Sto ty87 6 rfl <| As rfl <| Nl <| SR <| Md rfl <| Ac (op_not rfl rfl (vt rfl)) rfl <| Nl <| Cn rfl (fun hc => ?_) (fun hc => ?_)
  · have h := cond_t hc h
    refine AW.seq ?_
    obtain ⟨s9, hs9, h⟩ := bsome h
    refine Rg <| Ac (op_move (A := ydA Tryz.prog (karr 24 kTern) yield1 L) rfl rfl (vt rfl)) rfl <| Ld ty87 5 rfl <| Ac (op_yield 0 hs9 rfl rfl (vt rfl) (vt rfl) rfl) rfl <| Nl <| AW.ret ?_
    obtain rfl := si h
    exact ret0Y (i := 0) Tryz.results317 rfl rfl
  · have h := cond_f hc h
    refine AW.skip <| AW.seq <| AW.label <| SR <| Lp1 ty87 rfl <| Mk rfl <| Nl <| AW.block <| AW.loopG (d := []) (ν := (List Tern) × Nat × (Vector Tern 24) × (Lp sg)) (fun n => Sfx (Vector.toList cp4) n.2.1 n.1 ∧ F_carve_Parts_1_l1 sg yield1 n.1 n.2.1 n.2.2.1 n.2.2.2 = some r) (fun n => n.1.length) (fun n => [(0, ydA Tryz.prog (karr 24 kTern) yield1 L), (4, ptrL g6 (Lens.id (karr 24 kTern))), (27, rd (karr 24 kTern) cp4), (28, rd (kint .i64) (n.2.1 : Int))]) (fun n => [(0, L n.2.2.2), (5, Blk g6 87 (karr 24 kTern) n.2.2.1)]) ((Vector.toList cp4), 0, x5, s2) ⟨Sfx.start _, h⟩ ⟨rfl, ⟨rfl, rfl, rfl, rfl, trivial⟩, ⟨rfl, rfl, trivial⟩⟩ ?_
    rintro ⟨l15, i14, b12, s13⟩ ⟨hsf1, h⟩
    change Sfx (Vector.toList cp4) i14 l15 at hsf1
    change F_carve_Parts_1_l1 sg yield1 l15 i14 b12 s13 = some r at h
    change AW _ _ _ ⟨slots [(0, ydA Tryz.prog (karr 24 kTern) yield1 L), (4, ptrL g6 (Lens.id (karr 24 kTern))), (27, rd (karr 24 kTern) cp4), (28, rd (kint .i64) (i14 : Int))], ress [(0, L s13), (5, Blk g6 87 (karr 24 kTern) b12)], _⟩
    cases l15 with
    | nil =>
      unfold F_carve_Parts_1_l1 at h
      refine SR <| Ac (op_lss rfl rfl (vt rfl) (vk rfl)) rfl <| Nl <| AW.seq <| Cn rfl (fun hc => absurd (of_decide_eq_true hc) (hsf1.niln (by simp))) (fun hc => ?_)
      refine AW.exit ?_
      obtain rfl := si h
      exact ret0Y (i := 0) Tryz.results317 rfl rfl
    | cons x16 l15 =>
      unfold F_carve_Parts_1_l1 at h
      generalize hgo1 : F_carve_Parts_1_l1 sg yield1 l15 = go1 at h
      refine SR <| Ac (op_lss rfl rfl (vt rfl) (vk rfl)) rfl <| Nl <| AW.seq <| Cn rfl (fun hc => ?_) (fun hc => absurd (hsf1.consn (by simp)) (of_decide_eq_false hc))
      have hlti14 := of_decide_eq_true hc
      refine AW.skip <| AW.seq <| AW.block <| SR <| Md rfl <| Ac (op_indexv rfl rfl ar87 ty85 (vt rfl) (vt rfl) hsf1.lget) rfl <| Ct rfl (op_alloc 9 rfl rfl zr85) ?_
      rintro _ ⟨g17, rfl⟩
      refine As rfl <| Sto ty85 9 rfl <| Nl <| AW.seq ?_
      obtain ⟨j18, hj18, h⟩ := bsome h
      obtain ⟨x19, hx19, h⟩ := bsome h
      refine AW.regionAny [⟨[7], [32], [], []⟩, ⟨[4, 32], [33], [], []⟩, ⟨[33], [34], [5], []⟩, ⟨[8], [35], [9], []⟩, ⟨[34, 35], [36], [], []⟩, ⟨[36], [9], [], []⟩] mixed (by kernel_rfl) <| SMd rfl <| Sc (lo [4, 32] [] rfl fun S hs hr => op_index' rfl rfl ar87 (vh hs 4 rfl rfl) (vh hs 32 rfl rfl) hj18) rfl <| SLd ty85 5 rfl <| SLd ty85 9 rfl <| SCl [34, 35] (c_tern_Bits _ _ _ hx19) e318 rfl <| SAs rfl <| AW.seq <| SR <| Md rfl <| Ac (op_len' rfl rfl sl37 (vt rfl)) rfl <| Ac (op_eql rfl rfl (vt rfl) (vk rfl)) rfl <| Nl <| Cn rfl (fun hc => ?_) (fun hc => ?_)
      · have h := cond_t hc h
        refine AW.exit <| Rg <| Ac (op_incrc rfl rfl (vt rfl) (vk rfl) rfl hlti14) rfl <| Md rfl <| Nl ?_
        subst hgo1
        exact ⟨(l15, i14 + 1, b12, s13), Nat.lt_succ_self _, ⟨hsf1.next, h⟩, ⟨rfl, ⟨rfl, rfl, rfl, rfl, trivial⟩, ⟨rfl, rfl, trivial⟩⟩⟩
      · have h := cond_f hc h
        refine AW.skip <| SR <| Md rfl <| Ac (op_len' rfl rfl sl37 (vt rfl)) rfl <| Mk rfl <| Nl <| AW.block <| AW.loopG (d := []) (ν := (List Int) × Nat × (Vector Tern 24) × (Lp sg)) (fun n => Sfx x19 n.2.1 n.1 ∧ F_carve_Parts_1_l2 sg go1 i14 x16 yield1 n.1 n.2.1 n.2.2.1 n.2.2.2 = some r) (fun n => n.1.length) (fun n => [(0, ydA Tryz.prog (karr 24 kTern) yield1 L), (4, ptrL g6 (Lens.id (karr 24 kTern))), (7, rd (kint .i64) (i14 : Int)), (8, ptrL g17 (Lens.id kTern)), (27, rd (karr 24 kTern) cp4), (28, rd (kint .i64) (i14 : Int)), (40, rd (ksl (kint .i64)) x19), (41, rd (kint .i64) (x19.length : Int)), (42, rd (kint .i64) (n.2.1 : Int))]) (fun n => [(0, L n.2.2.2), (5, Blk g6 87 (karr 24 kTern) n.2.2.1), (9, Blk g17 85 kTern x16)]) (x19, 0, b12, s13) ⟨Sfx.start _, h⟩ ⟨rfl, ⟨rfl, rfl, rfl, rfl, rfl, rfl, rfl, rfl, rfl, trivial⟩, ⟨rfl, rfl, rfl, trivial⟩⟩ ?_
        rintro ⟨l25, i24, b22, s23⟩ ⟨hsf2, h⟩
        change Sfx x19 i24 l25 at hsf2
        change F_carve_Parts_1_l2 sg go1 i14 x16 yield1 l25 i24 b22 s23 = some r at h
        change AW _ _ _ ⟨slots [(0, ydA Tryz.prog (karr 24 kTern) yield1 L), (4, ptrL g6 (Lens.id (karr 24 kTern))), (7, rd (kint .i64) (i14 : Int)), (8, ptrL g17 (Lens.id kTern)), (27, rd (karr 24 kTern) cp4), (28, rd (kint .i64) (i14 : Int)), (40, rd (ksl (kint .i64)) x19), (41, rd (kint .i64) (x19.length : Int)), (42, rd (kint .i64) (i24 : Int))], ress [(0, L s23), (5, Blk g6 87 (karr 24 kTern) b22), (9, Blk g17 85 kTern x16)], _⟩
        cases l25 with
        | nil =>
          unfold F_carve_Parts_1_l2 at h
          refine SR <| Ac (op_lss rfl rfl (vt rfl) (vt rfl)) rfl <| Nl <| AW.seq <| Cn rfl (fun hc => absurd (of_decide_eq_true hc) hsf2.nil) (fun hc => ?_)
          refine AW.exit <| Rg <| Ac (op_incrc rfl rfl (vt rfl) (vk rfl) rfl hlti14) rfl <| Md rfl <| Nl ?_
          subst hgo1
          exact ⟨(l15, i14 + 1, b22, s23), Nat.lt_succ_self _, ⟨hsf1.next, h⟩, ⟨rfl, ⟨rfl, rfl, rfl, rfl, trivial⟩, ⟨rfl, rfl, trivial⟩⟩⟩
        | cons x26 l25 =>
          unfold F_carve_Parts_1_l2 at h
          generalize hgo2 : F_carve_Parts_1_l2 sg go1 i14 x16 yield1 l25 = go2 at h
          refine SR <| Ac (op_lss rfl rfl (vt rfl) (vt rfl)) rfl <| Nl <| AW.seq <| Cn rfl (fun hc => ?_) (fun hc => absurd hsf2.cons (of_decide_eq_false hc))
          have hlti24 := of_decide_eq_true hc
          refine AW.skip <| AW.seq <| AW.block <| SR <| Ac (op_indexs' rfl rfl sl37 (vt rfl) (vt rfl) hsf2.lget) rfl <| Lp1 ty3 rfl <| As rfl <| Nl <| AW.seq ?_
          obtain ⟨x27, hx27, h⟩ := bsome h
          refine Rg <| FdA lTern_0 fl85_0 rfl <| Ld ty42 9 rfl <| Md rfl <| Cl [47, 48] (c_wide_Has _ _ _ hx27) e319 rfl <| As rfl <| Nl <| SR <| Ld ty87 5 rfl <| Ct rfl (op_alloc 14 rfl rfl zr87) ?_
          rintro _ ⟨g28, rfl⟩
          refine Sto ty87 14 rfl <| Nl <| AW.seq ?_
          obtain ⟨j29, hj29, h⟩ := bsome h
          obtain ⟨x30, hx30, h⟩ := bsome h
          obtain ⟨j31, hj31, h⟩ := bsome h
          refine Rg <| Md rfl <| Md rfl <| Ac (op_index' rfl rfl ar87 (vt rfl) (vt rfl) hj29) rfl <| Ld ty85 5 rfl <| Md rfl <| Md rfl <| Ac (op_not rfl rfl (vt rfl)) rfl <| Cl [54, 55, 57] (c_tern_Fix _ _ _ _ hx30) e320 rfl <| Ac (op_index' rfl rfl ar87 (vt rfl) (vt rfl) hj31) rfl <| Sto ty85 14 rfl <| Nl <| AW.seq <| AW.seq ?_
          obtain ⟨s32, hs32, h⟩ := bsome h
          refine Rg <| Ac (op_move (A := ydA Tryz.prog (karr 24 kTern) yield1 L) rfl rfl (vt rfl)) rfl <| Ld ty87 14 rfl <| Ac (op_yield 0 hs32 rfl rfl (vt rfl) (vt rfl) rfl) rfl <| Ac (op_not rfl rfl (vt rfl)) rfl <| Nl <| Cn rfl (fun hc => ?_) (fun hc => ?_)
          · have h := cond_t hc h
            refine AW.exit ?_
            obtain rfl := si h
            exact ret0Y (i := 0) Tryz.results317 rfl rfl
          · have h := cond_f hc h
            refine AW.skip ?_
            obtain ⟨j33, hj33, h⟩ := bsome h
            obtain ⟨x34, hx34, h⟩ := bsome h
            obtain ⟨j35, hj35, h⟩ := bsome h
            refine Rg <| Md rfl <| Md rfl <| Ac (op_index' rfl rfl ar87 (vt rfl) (vt rfl) hj33) rfl <| Ld ty85 5 rfl <| Md rfl <| Md rfl <| Cl [67, 68, 69] (c_tern_Fix _ _ _ _ hx34) e320 rfl <| Ac (op_index' rfl rfl ar87 (vt rfl) (vt rfl) hj35) rfl <| Sto ty85 5 rfl <| Nl <| Rg <| Ac (op_incr (t := 41) rfl rfl (vt rfl) (vk rfl) (vt rfl) hlti24) rfl <| Md rfl <| Nl ?_
            subst hgo2
            exact ⟨(l25, i24 + 1, (Vector.set b22 j35.1 x34 j35.2), s32), Nat.lt_succ_self _, ⟨hsf2.next, h⟩, ⟨rfl, ⟨rfl, rfl, rfl, rfl, rfl, rfl, rfl, rfl, rfl, trivial⟩, ⟨rfl, rfl, rfl, trivial⟩⟩⟩
end Go.Proofs.YtknpgojdkobgjaaGreat.W
set_option linter.unusedVariables false
set_option maxRecDepth 4000
set_option linter.unusedSimpArgs false
namespace Go.Proofs.YtknpgojdkobgjaaGreat.W
open Go Go.Wb
theorem e317 : Ent Tryz.prog 317 := Ent.mk Tryz.func317 rfl rfl
theorem e278 : Ent Tryz.prog 278 := Ent.mk Tryz.func278 rfl rfl
theorem e279 : Ent Tryz.prog 279 := Ent.mk Tryz.func279 rfl rfl
theorem e70 : Ent Tryz.prog 70 := Ent.mk Tryz.func70 rfl rfl
theorem e280 : Ent Tryz.prog 280 := Ent.mk Tryz.func280 rfl rfl
theorem e235 : Ent Tryz.prog 235 := Ent.mk Tryz.func235 rfl rfl
theorem e169 : Ent Tryz.prog 169 := Ent.mk Tryz.func169 rfl rfl
theorem e170 : Ent Tryz.prog 170 := Ent.mk Tryz.func170 rfl rfl
theorem e104 : Ent Tryz.prog 104 := Ent.mk Tryz.func104 rfl rfl
theorem e288 : Ent Tryz.prog 288 := Ent.mk Tryz.func288 rfl rfl
def F_carve_Parts (a1 : (Vector Tern 24)) (b2 : (Vector Tern 24)) : Option (Itr (Vector Tern 24)) :=
  some (Itr.mk fun σ y s => F_carve_Parts_1 σ y s a1 b2)
theorem c_carve_Parts (a1 : (Vector Tern 24)) (b2 : (Vector Tern 24)) (r : (Itr (Vector Tern 24))) (h : F_carve_Parts a1 b2 = some r) : PCon Tryz.prog 280 [rd (karr 24 kTern) a1, rd (karr 24 kTern) b2] (seqA Tryz.prog (karr 24 kTern) r) := by
  refine PCon.of (Con.intro0 Tryz.func280 rfl Tryz.ntmps280 rfl fun w H => ?_)
  unfold F_carve_Parts at h
  refine SR <| Ct rfl (op_box 3 rfl rfl (vt rfl)) ?_
  rintro _ ⟨g3, rfl⟩
  refine Ct rfl (op_box 4 rfl rfl (vt rfl)) ?_
  rintro _ ⟨g4, rfl⟩
  refine Ac (op_assign (A := raw .nilFunc) rfl rfl vc) rfl <| Nl <| AW.seq <| AW.freezeB 2 3 rfl rfl rfl <| AW.freezeB 3 4 rfl rfl rfl <| Rg <| Ac (op_seq (Itr.mk fun σ y s => F_carve_Parts_1 σ y s a1 b2) (cs := [.tmp 2, .tmp 3]) (CAs := [rp (karr 24 kTern) a1, rp (karr 24 kTern) b2]) rfl rfl e317 ⟨vt rfl, vt rfl, trivial⟩ (fun σ y L s r h => c_carve_Parts_1 σ y L s a1 b2 r h)) rfl <| Ac (op_assign (A := seqA Tryz.prog (karr 24 kTern) (Itr.mk fun σ y s => F_carve_Parts_1 σ y s a1 b2)) rfl rfl (vt rfl)) rfl <| Nl <| AW.ret ?_
  obtain rfl := si h
  exact ret1 Tryz.results280 rfl (out_tmp rfl)
def F_cover_look_at_s_b1 (l4 : (List (Vector Tern 24))) (x10 : (Bool × Int)) (R_cover_look_at : (cover_look → (Vector Tern 24) → (List (Vector Tern 24)) → Option ((Vector Wide 24) × Bool × Bool × cover_look))) (b18 : cover_look) (b19 : (Vector Wide 24)) (b20 : Bool) (b21 : Bool) (x23 : (Vector Tern 24)) : Option (Lp (cover_look × (Vector Wide 24) × Bool × Bool)) :=
  (odrop l4 (IntKind.i64.wrap (x10.2 + 1))).bind fun s25 => (R_cover_look_at b18 x23 s25).bind fun b26 => (bif (b26.2.1 || (!b26.2.2.1)) then some (.out (.exit 1) (b26.2.2.2, b26.1, b26.2.1, b26.2.2.1)) else some (.go (b26.2.2.2, b26.1, b26.2.1, b26.2.2.1)))
def F_cover_look_at_s (R_cover_look_at : (cover_look → (Vector Tern 24) → (List (Vector Tern 24)) → Option ((Vector Wide 24) × Bool × Bool × cover_look))) (s1 : cover_look) (cu3 : (Vector Tern 24)) (l4 : (List (Vector Tern 24))) : Option ((Vector Wide 24) × Bool × Bool × cover_look) :=
  (F_cover_purse_pay s1.purse).bind fun b9 => (bif (!b9.1) then some ((Vector.replicate 24 zWide), false, false, { s1 with purse := b9.2 }) else (F_cover_among cu3 l4).bind fun x10 => (bif x10.1 then some ((Vector.replicate 24 zWide), false, true, { s1 with purse := b9.2 }) else (bif (decide (x10.2 < 0)) then (F_cube_Pick cu3).bind fun x12 => some (x12, true, true, { s1 with purse := b9.2 }) else (lget l4 x10.2).bind fun e16 => (F_carve_Parts cu3 e16).bind fun x17 => (Itr.run x17 (cover_look × (Vector Wide 24) × Bool × Bool) (fun s x => F_cover_look_at_s_b1 l4 x10 R_cover_look_at s.1 s.2.1 s.2.2.1 s.2.2.2 x) (.go ({ s1 with purse := b9.2 }, (Vector.replicate 24 zWide), false, true))).bind fun z22 => lpCase z22 (fun s27 => some (s27.2.1, s27.2.2.1, s27.2.2.2, s27.1)) (fun c s27 => bif cExit 1 c then some (s27.2.1, s27.2.2.1, s27.2.2.2, s27.1) else none))))
theorem c_cover_look_at_s (R_cover_look_at : (cover_look → (Vector Tern 24) → (List (Vector Tern 24)) → Option ((Vector Wide 24) × Bool × Bool × cover_look))) (hR_cover_look_at : ∀ (g2 gT : Nat) (s1 : cover_look) (cu3 : (Vector Tern 24)) (l4 : (List (Vector Tern 24))) (r : ((Vector Wide 24) × Bool × Bool × cover_look)), R_cover_look_at s1 cu3 l4 = some r → Con Tryz.prog 235 [ptrL g2 (Lens.id kcover_look), rd (karr 24 kTern) cu3, rd (ksl (karr 24 kTern)) l4] (Blk g2 gT kcover_look s1) (fun _ : Unit => tup3 (rd (karr 24 kWide) r.1) (rd kbool r.2.1) (rd kbool r.2.2.1)) (fun _ => Blk g2 gT kcover_look r.2.2.2)) (g2 gT : Nat) (s1 : cover_look) (cu3 : (Vector Tern 24)) (l4 : (List (Vector Tern 24))) (r : ((Vector Wide 24) × Bool × Bool × cover_look)) (h : F_cover_look_at_s R_cover_look_at s1 cu3 l4 = some r) : Con Tryz.prog 235 [ptrL g2 (Lens.id kcover_look), rd (karr 24 kTern) cu3, rd (ksl (karr 24 kTern)) l4] (Blk g2 gT kcover_look s1) (fun _ : Unit => tup3 (rd (karr 24 kWide) r.1) (rd kbool r.2.1) (rd kbool r.2.2.1)) (fun _ => Blk g2 gT kcover_look r.2.2.2) := by
  refine Con.intro Tryz.func235 rfl Tryz.ntmps235 rfl fun w H X => ?_
  unfold F_cover_look_at_s at h
  refine SR <| Ct rfl (op_box 4 rfl rfl (vkp (vt rfl))) ?_
  rintro _ ⟨g5, rfl⟩
  refine Ct rfl (op_box 5 rfl rfl (vt rfl)) ?_
  rintro _ ⟨g6, rfl⟩
  refine Ct rfl (op_box 6 rfl rfl (vt rfl)) ?_
  rintro _ ⟨g7, rfl⟩
  refine Ct rfl (op_alloc 7 rfl rfl zr44) ?_
  rintro _ ⟨g8, rfl⟩
  refine Ab rfl <| Ab rfl <| Nl <| AW.scope <| AW.seq <| AW.seq ?_
  obtain ⟨b9, hb9, h⟩ := bsome h
  refine Rg <| Ac (op_loadA (A := ptrL g2 (Lens.id kcover_look)) rfl rfl rfl (tyk286 _) (vt rfl) (i := 4) rfl) rfl <| Nc rfl <| FdA lcover_look_0 fl290_0 rfl <| Ct rfl (op_callR 0 (xs := [.tmp 17]) (c_cover_purse_pay _ _ _ _ hb9) e278 rfl rfl ⟨vt rfl, trivial⟩ rfl) ?_
  rintro _ ⟨_u, rfl⟩
  refine AOps.told 0 (Blk g2 gT kcover_look { s1 with purse := b9.2 }) rfl <| Ac (op_not rfl rfl (vt rfl)) rfl <| Nl <| Cn rfl (fun hc => ?_) (fun hc => ?_)
  · have h := cond_t hc h
    refine SR <| Ac (op_build (ps := []) (x := (Vector.replicate 24 zWide)) rfl rfl rfl (by kernel_rfl) zr44 rfl) rfl <| Sto ty44 7 rfl <| Ab rfl <| Ab rfl <| Nl <| AW.ret ?_
    obtain rfl := si h
    exact ret3Y (i := 0) Tryz.results235 rfl (out_cell rfl (i := 7) rfl ty44) (out_tmp rfl) (out_tmp rfl) rfl
  · have h := cond_f hc h
    refine AW.skip <| AW.seq ?_
    obtain ⟨x10, hx10, h⟩ := bsome h
    refine Rg <| Ld ty87 5 rfl <| Ld ty229 6 rfl <| Cl [22, 23] (c_cover_among _ _ _ hx10) e279 rfl <| Mt2 rfl <| Ac (op_fst rfl rfl (vt rfl)) rfl <| Ac (op_snd rfl rfl (vt rfl)) rfl <| Ct rfl (op_alloc 11 rfl rfl zr3) ?_
    rintro _ ⟨g11, rfl⟩
    refine As rfl <| Sto ty3 11 rfl <| Nl <| AW.seq <| AW.block <| SR <| Md rfl <| As rfl <| Nl <| Cn rfl (fun hc => ?_) (fun hc => ?_)
    · have h := cond_t hc h
      refine SR <| Ac (op_build (ps := []) (x := (Vector.replicate 24 zWide)) rfl rfl rfl (by kernel_rfl) zr44 rfl) rfl <| Sto ty44 7 rfl <| Ab rfl <| Ab rfl <| Nl <| AW.ret ?_
      obtain rfl := si h
      exact ret3Y (i := 0) Tryz.results235 rfl (out_cell rfl (i := 7) rfl ty44) (out_tmp rfl) (out_tmp rfl) rfl
    · have h := cond_f hc h
      refine SR <| Ld ty3 11 rfl <| Ac (op_lss rfl rfl (vt rfl) (vk rfl)) rfl <| As rfl <| Nl <| Cn rfl (fun hc => ?_) (fun hc => ?_)
      · have h := cond_t hc h
        refine AW.seq ?_
        obtain ⟨x12, hx12, h⟩ := bsome h
        refine Rg <| Ld ty87 5 rfl <| Cl [33] (c_cube_Pick _ _ hx12) e70 rfl <| Sto ty44 7 rfl <| Ab rfl <| Ab rfl <| Nl <| AW.ret ?_
        obtain rfl := si h
        exact ret3Y (i := 0) Tryz.results235 rfl (out_cell rfl (i := 7) rfl ty44) (out_tmp rfl) (out_tmp rfl) rfl
      · have h := cond_f hc h
        refine AW.skip <| SR <| Ct rfl (op_alloc 12 rfl rfl zr44) ?_
        rintro _ ⟨g13, rfl⟩
        refine Nl <| SR <| Ct rfl (op_alloc 13 rfl rfl zr4) ?_
        rintro _ ⟨g14, rfl⟩
        refine Ct rfl (op_alloc 14 rfl rfl zr4) ?_
        rintro _ ⟨g15, rfl⟩
        refine Ac (op_store rfl rfl ty4 (vt rfl) (i := 13) rfl vb) rfl <| Ac (op_store rfl rfl ty4 (vt rfl) (i := 14) rfl vb) rfl <| Nl <| AW.seq <| AW.label <| AW.seq <| AW.seq ?_
        obtain ⟨e16, he16, h⟩ := bsome h
        obtain ⟨x17, hx17, h⟩ := bsome h
        refine AW.regionAny [⟨[4], [35], [5], []⟩, ⟨[5], [36], [6], []⟩, ⟨[10], [37], [11], []⟩, ⟨[36, 37], [38], [], []⟩, ⟨[38], [39], [], []⟩, ⟨[35, 39], [40], [], []⟩] mixed (by kernel_rfl) <| SLd ty87 5 rfl <| SLd ty229 6 rfl <| SLd ty3 11 rfl <| Sc (lo [36, 37] [] rfl fun S hs hr => op_indexs' rfl rfl sl229 (vh hs 36 rfl rfl) (vh hs 37 rfl rfl) he16) rfl <| SLp ty87 rfl <| SCl [35, 39] (c_carve_Parts _ _ _ hx17) e280 rfl <| AW.block ?_
        obtain ⟨z22, hz22, h⟩ := bsome h
        refine AW.fit (d := []) (L := [(3, ptrL g5 (Lens.id (kas (ptrL g2 (Lens.id kcover_look))))), (5, ptrL g7 (Lens.id (ksl (karr 24 kTern)))), (6, ptrL g8 (Lens.id (karr 24 kWide))), (7, rd kbool false), (8, rd kbool false), (10, ptrL g11 (Lens.id (kint .i64))), (11, ptrL g13 (Lens.id (karr 24 kWide))), (12, ptrL g14 (Lens.id kbool)), (13, ptrL g15 (Lens.id kbool)), (40, seqA Tryz.prog (karr 24 kTern) x17)]) (M := [(4, Blk g5 286 (kas (ptrL g2 (Lens.id kcover_look))) ()), (0, Blk g2 gT kcover_look { s1 with purse := b9.2 }), (6, Blk g7 229 (ksl (karr 24 kTern)) l4), (7, Blk g8 44 (karr 24 kWide) (Vector.replicate 24 zWide)), (11, Blk g11 3 (kint .i64) x10.2), (12, Blk g13 44 (karr 24 kWide) (Vector.replicate 24 zWide)), (13, Blk g14 4 kbool false), (14, Blk g15 4 kbool true)]) ⟨rfl, ⟨rfl, rfl, rfl, rfl, rfl, rfl, rfl, rfl, rfl, rfl, trivial⟩, ⟨rfl, rfl, rfl, rfl, rfl, rfl, rfl, rfl, trivial⟩⟩ ?_
        refine AW.rangeFunc (σ := cover_look × (Vector Wide 24) × Bool × Bool) (fun x => [rd (karr 24 kTern) x]) (fun s x => F_cover_look_at_s_b1 l4 x10 R_cover_look_at s.1 s.2.1 s.2.2.1 s.2.2.2 x) (fun s => ress ((fun s => [(4, Blk g5 286 (kas (ptrL g2 (Lens.id kcover_look))) ()), (0, Blk g2 gT kcover_look s.1), (6, Blk g7 229 (ksl (karr 24 kTern)) l4), (7, Blk g8 44 (karr 24 kWide) (Vector.replicate 24 zWide)), (11, Blk g11 3 (kint .i64) x10.2), (12, Blk g13 44 (karr 24 kWide) s.2.1), (13, Blk g14 4 kbool s.2.2.1), (14, Blk g15 4 kbool s.2.2.2)]) s)) (fun _ s => ress ((fun s => [(4, Blk g5 286 (kas (ptrL g2 (Lens.id kcover_look))) ()), (0, Blk g2 gT kcover_look s.1), (6, Blk g7 229 (ksl (karr 24 kTern)) l4), (7, Blk g8 44 (karr 24 kWide) (Vector.replicate 24 zWide)), (11, Blk g11 3 (kint .i64) x10.2), (12, Blk g13 44 (karr 24 kWide) s.2.1), (13, Blk g14 4 kbool s.2.2.1), (14, Blk g15 4 kbool s.2.2.2)]) s)) [(3, ptrL g5 (Lens.id (kas (ptrL g2 (Lens.id kcover_look))))), (5, ptrL g7 (Lens.id (ksl (karr 24 kTern)))), (6, ptrL g8 (Lens.id (karr 24 kWide))), (7, rd kbool false), (8, rd kbool false), (10, ptrL g11 (Lens.id (kint .i64))), (11, ptrL g13 (Lens.id (karr 24 kWide))), (12, ptrL g14 (Lens.id kbool)), (13, ptrL g15 (Lens.id kbool))] (fun s x23 S1 => ∃ (g24 : Nat), Fit S1 [] [(3, ptrL g5 (Lens.id (kas (ptrL g2 (Lens.id kcover_look))))), (5, ptrL g7 (Lens.id (ksl (karr 24 kTern)))), (6, ptrL g8 (Lens.id (karr 24 kWide))), (7, rd kbool false), (8, rd kbool false), (10, ptrL g11 (Lens.id (kint .i64))), (11, ptrL g13 (Lens.id (karr 24 kWide))), (12, ptrL g14 (Lens.id kbool)), (13, ptrL g15 (Lens.id kbool)), (14, ptrL g24 (Lens.id (karr 24 kTern)))] [(4, Blk g5 286 (kas (ptrL g2 (Lens.id kcover_look))) ()), (0, Blk g2 gT kcover_look s.1), (6, Blk g7 229 (ksl (karr 24 kTern)) l4), (7, Blk g8 44 (karr 24 kWide) (Vector.replicate 24 zWide)), (11, Blk g11 3 (kint .i64) x10.2), (12, Blk g13 44 (karr 24 kWide) s.2.1), (13, Blk g14 4 kbool s.2.2.1), (14, Blk g15 4 kbool s.2.2.2), (15, Blk g24 87 (karr 24 kTern) x23)]) 3001 (s0 := ({ s1 with purse := b9.2 }, (Vector.replicate 24 zWide), false, true)) (sE := z22) rfl (vt rfl) ⟨rfl, inferInstance, rfl, inferInstance, rfl, inferInstance, rfl, inferInstance, rfl, inferInstance, rfl, inferInstance, rfl, inferInstance, rfl, inferInstance, rfl, inferInstance, trivial⟩ rfl (fun _ => rfl) (by intro p hp; have hp : p ∈ [41] := hp; rw [List.mem_singleton.1 hp]; show 41 < 61; decide) ?ha1 ?hb1 (fun Lf => ⟨top, _, _, Lf, _, _, hz22, rfl, rfl, rfl, rfl⟩) ?he1
        case ha1 =>
          rintro ⟨b18, b19, b20, b21⟩ x23 r hF l w H X
          refine Rg <| Ct rfl (op_alloc 15 rfl rfl zr87) ?_
          rintro _ ⟨g24, rfl⟩
          refine Sto ty87 15 rfl <| Nl ?_
          exact ⟨rfl, g24, rfl, ⟨rfl, rfl, rfl, rfl, rfl, rfl, rfl, rfl, rfl, rfl, trivial⟩, ⟨rfl, rfl, rfl, rfl, rfl, rfl, rfl, rfl, rfl, trivial⟩⟩
        case hb1 =>
          rintro ⟨b18, b19, b20, b21⟩ x23 r h S1 ⟨g24, hfit⟩ l w H X
          refine AW.fit (d := []) (L := [(3, ptrL g5 (Lens.id (kas (ptrL g2 (Lens.id kcover_look))))), (5, ptrL g7 (Lens.id (ksl (karr 24 kTern)))), (6, ptrL g8 (Lens.id (karr 24 kWide))), (7, rd kbool false), (8, rd kbool false), (10, ptrL g11 (Lens.id (kint .i64))), (11, ptrL g13 (Lens.id (karr 24 kWide))), (12, ptrL g14 (Lens.id kbool)), (13, ptrL g15 (Lens.id kbool)), (14, ptrL g24 (Lens.id (karr 24 kTern)))]) (M := [(4, Blk g5 286 (kas (ptrL g2 (Lens.id kcover_look))) ()), (0, Blk g2 gT kcover_look b18), (6, Blk g7 229 (ksl (karr 24 kTern)) l4), (7, Blk g8 44 (karr 24 kWide) (Vector.replicate 24 zWide)), (11, Blk g11 3 (kint .i64) x10.2), (12, Blk g13 44 (karr 24 kWide) b19), (13, Blk g14 4 kbool b20), (14, Blk g15 4 kbool b21), (15, Blk g24 87 (karr 24 kTern) x23)]) hfit <| AW.bodyT ?_
          change F_cover_look_at_s_b1 l4 x10 R_cover_look_at b18 b19 b20 b21 x23 = some r at h
          unfold F_cover_look_at_s_b1 at h
          refine AW.block <| AW.seq ?_
          obtain ⟨s25, hs25, h⟩ := bsome h
          obtain ⟨b26, hb26, h⟩ := bsome h
          refine AW.regionAny [⟨[3], [43], [4], []⟩, ⟨[14], [44], [15], []⟩, ⟨[5], [45], [6], []⟩, ⟨[10], [46], [11], []⟩, ⟨[46], [47], [], []⟩, ⟨[45, 47], [48], [], []⟩, ⟨[43, 44, 48], [49], [0], [0]⟩, ⟨[49], [42], [], []⟩, ⟨[42], [50], [], []⟩, ⟨[42], [51], [], []⟩, ⟨[42], [52], [], []⟩, ⟨[11, 50], [], [12], [12]⟩, ⟨[12, 51], [], [13], [13]⟩, ⟨[13, 52], [], [14], [14]⟩] mixed (by kernel_rfl) <| Sc (lo [3] [4] rfl fun S hs hr => op_loadA (A := ptrL g2 (Lens.id kcover_look)) rfl rfl rfl (tyk286 _) (vh hs 3 rfl rfl) (i := 4) ((hr 4 rfl).trans rfl)) rfl <| SLd ty87 15 rfl <| SLd ty229 6 rfl <| SLd ty3 11 rfl <| Sc (lo [46] [] rfl fun S hs hr => op_add rfl rfl (vh hs 46 rfl rfl) (vk rfl)) rfl <| Sc (lo [45, 47] [] rfl fun S hs hr => op_slice_l' hs25 rfl rfl sl229 (vh hs 45 rfl rfl) (vh hs 47 rfl rfl)) rfl <| Sc (locs (us := [(49, tup3 (rd (karr 24 kWide) b26.1) (rd kbool b26.2.1) (rd kbool b26.2.2.1))]) (ur := [(0, Blk g2 gT kcover_look b26.2.2.2)]) [43, 44, 48] [0] rfl fun S hs hr => op_callU 0 (xs := [.tmp 43, .tmp 44, .tmp 48]) (hR_cover_look_at _ _ _ _ _ _ hb26) e235 rfl rfl ⟨vt ((hs 43 rfl).trans rfl), vt ((hs 44 rfl).trans rfl), vt ((hs 48 rfl).trans rfl), trivial⟩ ((hr 0 rfl).trans rfl)) rfl <| Sc (lo [49] [] rfl fun S hs hr => op_move (A := tup3 (rd (karr 24 kWide) b26.1) (rd kbool b26.2.1) (rd kbool b26.2.2.1)) rfl rfl (vh hs 49 rfl rfl)) rfl <| Sc (lo [42] [] rfl fun S hs hr => op_ext3_0 rfl rfl (vh hs 42 rfl rfl)) rfl <| Sc (lo [42] [] rfl fun S hs hr => op_ext3_1 rfl rfl (vh hs 42 rfl rfl)) rfl <| Sc (lo [42] [] rfl fun S hs hr => op_ext3_2 rfl rfl (vh hs 42 rfl rfl)) rfl <| SSt ty44 12 rfl <| SSt ty4 13 rfl <| SSt ty4 14 rfl <| SR <| Ld ty4 13 rfl <| Md rfl <| Gd rfl (fun hq => op_load rfl rfl ty4 (vt rfl) (i := 14) rfl) <| Gd rfl (fun hq => op_not rfl rfl (vgt rfl hq)) <| Ac (op_any rfl rfl (vt rfl) (vt rfl)) rfl <| Nl <| Cn rfl (fun hc => ?_) (fun hc => ?_)
          · have h := cond_t hc h
            refine AW.exit ?_
            obtain rfl := si h
            exact ⟨_, (b26.2.2.2, b26.1, b26.2.1, b26.2.2.1), Turn.refl, rfl, ⟨rfl, rfl, rfl, rfl, rfl, rfl, rfl, rfl, trivial⟩⟩
          · have h := cond_f hc h
            refine AW.skip ?_
            obtain rfl := si h
            exact ⟨_, (b26.2.2.2, b26.1, b26.2.1, b26.2.2.1), Turn.refl, rfl, ⟨rfl, rfl, rfl, rfl, rfl, rfl, rfl, rfl, trivial⟩⟩
        case he1 =>
          intro D
          cases z22 with
          | go s27 =>
            change _ = some r at h
            refine AW.seq <| AW.regionAny [⟨[11], [58], [12], []⟩, ⟨[12], [59], [13], []⟩, ⟨[13], [60], [14], []⟩, ⟨[6, 58], [], [7], [7]⟩, ⟨[59], [7], [], []⟩, ⟨[60], [8], [], []⟩] mixed (by kernel_rfl) <| SLd ty44 12 rfl <| SLd ty4 13 rfl <| SLd ty4 14 rfl <| SSt ty44 7 rfl <| SAs rfl <| SAs rfl <| AW.ret ?_
            obtain rfl := si h
            exact ⟨rfl, 3001, rfl, ret3Y (i := 0) Tryz.results235 rfl (out_cell rfl (i := 7) rfl ty44) (out_tmp rfl) (out_tmp rfl) rfl⟩
          | out c s27 =>
            change (bif cExit 1 c then _ else _) = some r at h
            cases hc : cExit 1 c with
            | true =>
              rw [hc] at h
              have hc := cExit_of hc
              subst hc
              change _ = some r at h
              refine AW.exit <| AW.seq <| AW.regionAny [⟨[11], [58], [12], []⟩, ⟨[12], [59], [13], []⟩, ⟨[13], [60], [14], []⟩, ⟨[6, 58], [], [7], [7]⟩, ⟨[59], [7], [], []⟩, ⟨[60], [8], [], []⟩] mixed (by kernel_rfl) <| SLd ty44 12 rfl <| SLd ty4 13 rfl <| SLd ty4 14 rfl <| SSt ty44 7 rfl <| SAs rfl <| SAs rfl <| AW.ret ?_
              obtain rfl := si h
              exact ⟨rfl, 3001, rfl, ret3Y (i := 0) Tryz.results235 rfl (out_cell rfl (i := 7) rfl ty44) (out_tmp rfl) (out_tmp rfl) rfl⟩
            | false =>
              rw [hc] at h
              cases h
def FR_cover_look_at : Nat → (cover_look → (Vector Tern 24) → (List (Vector Tern 24)) → Option ((Vector Wide 24) × Bool × Bool × cover_look))
  | 0 => (fun _ _ _ => none)
  | n + 1 => (F_cover_look_at_s (FR_cover_look_at n))
theorem cR_cover_look_at : ∀ n : Nat, (∀ (g2 gT : Nat) (s1 : cover_look) (cu3 : (Vector Tern 24)) (l4 : (List (Vector Tern 24))) (r : ((Vector Wide 24) × Bool × Bool × cover_look)), (FR_cover_look_at n) s1 cu3 l4 = some r → Con Tryz.prog 235 [ptrL g2 (Lens.id kcover_look), rd (karr 24 kTern) cu3, rd (ksl (karr 24 kTern)) l4] (Blk g2 gT kcover_look s1) (fun _ : Unit => tup3 (rd (karr 24 kWide) r.1) (rd kbool r.2.1) (rd kbool r.2.2.1)) (fun _ => Blk g2 gT kcover_look r.2.2.2))
  | 0 => (by intros; rename_i h; cases h)
  | n + 1 => by
    have ih := cR_cover_look_at n
    exact (c_cover_look_at_s (FR_cover_look_at n) ih)
def F_cover_look_at (s1 : cover_look) (cu3 : (Vector Tern 24)) (l4 : (List (Vector Tern 24))) : Option ((Vector Wide 24) × Bool × Bool × cover_look) := (FR_cover_look_at fuel0) s1 cu3 l4
theorem c_cover_look_at : ∀ (g2 gT : Nat) (s1 : cover_look) (cu3 : (Vector Tern 24)) (l4 : (List (Vector Tern 24))) (r : ((Vector Wide 24) × Bool × Bool × cover_look)), F_cover_look_at s1 cu3 l4 = some r → Con Tryz.prog 235 [ptrL g2 (Lens.id kcover_look), rd (karr 24 kTern) cu3, rd (ksl (karr 24 kTern)) l4] (Blk g2 gT kcover_look s1) (fun _ : Unit => tup3 (rd (karr 24 kWide) r.1) (rd kbool r.2.1) (rd kbool r.2.2.1)) (fun _ => Blk g2 gT kcover_look r.2.2.2) := cR_cover_look_at fuel0
def F_cover_Look (cu1 : (Vector Tern 24)) (l2 : (List (Vector Tern 24))) (most3 : Int) : Option ((Vector Wide 24) × Bool × Int) :=
  (F_cover_look_at (⟨(⟨(imax most3 0), (decide (most3 ≥ 1099511627776))⟩ : cover_purse)⟩ : cover_look) cu1 l2).bind fun b7 => (bif (!b7.2.2.1) then some ((Vector.replicate 24 zWide), false, 5) else some (b7.1, b7.2.1, 0))
theorem c_cover_Look (cu1 : (Vector Tern 24)) (l2 : (List (Vector Tern 24))) (most3 : Int) (r : ((Vector Wide 24) × Bool × Int)) (h : F_cover_Look cu1 l2 most3 = some r) : PCon Tryz.prog 170 [rd (karr 24 kTern) cu1, rd (ksl (karr 24 kTern)) l2, rd (kint .i64) most3] (tup3 (rd (karr 24 kWide) r.1) (rd kbool r.2.1) (rd (kint .i64) r.2.2)) := by
  refine PCon.of (Con.intro0 Tryz.func170 rfl Tryz.ntmps170 rfl fun w H => ?_)
  unfold F_cover_Look at h
  refine SR <| Ct rfl (op_box 4 rfl rfl (vt rfl)) ?_
  rintro _ ⟨g4, rfl⟩
  refine Ct rfl (op_alloc 7 rfl rfl zr44) ?_
  rintro _ ⟨g5, rfl⟩
  refine Ab rfl <| Ak rfl <| Nl <| SR <| Md rfl <| Ac (op_max rfl rfl (vt rfl) (vk rfl)) rfl <| Md rfl <| Ac (op_geq rfl rfl (vt rfl) (vk rfl)) rfl <| Ac (op_build (ps := [(0, .tmp 14), (1, .tmp 16)]) (x := (⟨(imax most3 0), (decide (most3 ≥ 1099511627776))⟩ : cover_purse)) rfl rfl rfl (by kernel_rfl) zr288 ⟨_, _, lcover_purse_0, _, by kernel_rfl, (vt rfl), _, _, lcover_purse_1, _, by kernel_rfl, (vt rfl), rfl⟩) rfl <| Ac (op_build (ps := [(0, .tmp 17)]) (x := (⟨(⟨(imax most3 0), (decide (most3 ≥ 1099511627776))⟩ : cover_purse)⟩ : cover_look)) rfl rfl rfl (by kernel_rfl) zr290 ⟨_, _, lcover_look_0, _, by kernel_rfl, (vt rfl), rfl⟩) rfl <| Ct rfl (op_box 20 rfl rfl (vt rfl)) ?_
  rintro _ ⟨g6, rfl⟩
  refine Ac (op_assign (A := ptrL g6 (Lens.id kcover_look)) rfl rfl (vt rfl)) rfl <| Nl <| AW.seq ?_
  obtain ⟨b7, hb7, h⟩ := bsome h
  refine Rg <| Mp rfl <| Ld ty87 4 rfl <| Md rfl <| Ct rfl (op_callR 20 (xs := [.tmp 21, .tmp 22, .tmp 23]) (c_cover_look_at _ _ _ _ _ _ hb7) e235 rfl rfl ⟨vt rfl, vt rfl, vt rfl, trivial⟩ rfl) ?_
  rintro _ ⟨_u, rfl⟩
  refine Ac (op_move (A := tup3 (rd (karr 24 kWide) b7.1) (rd kbool b7.2.1) (rd kbool b7.2.2.1)) rfl rfl (vt rfl)) rfl <| Ac (op_ext3_0 rfl rfl (vt rfl)) rfl <| Ac (op_ext3_1 rfl rfl (vt rfl)) rfl <| Ac (op_ext3_2 rfl rfl (vt rfl)) rfl <| Ct rfl (op_alloc 11 rfl rfl zr44) ?_
  rintro _ ⟨g8, rfl⟩
  refine Sto ty44 11 rfl <| As rfl <| As rfl <| Nl <| AW.seq <| SR <| Md rfl <| Ac (op_not rfl rfl (vt rfl)) rfl <| Nl <| Cn rfl (fun hc => ?_) (fun hc => ?_)
  · have h := cond_t hc h
    refine SR <| Ac (op_build (ps := []) (x := (Vector.replicate 24 zWide)) rfl rfl rfl (by kernel_rfl) zr44 rfl) rfl <| Sto ty44 7 rfl <| Ab rfl <| Ak rfl <| Nl <| AW.ret ?_
    obtain rfl := si h
    exact ret3 Tryz.results170 rfl (out_cell rfl (i := 7) rfl ty44) (out_tmp rfl) (out_tmp rfl)
  · have h := cond_f hc h
    refine AW.skip <| SR <| Ld ty44 11 rfl <| Md rfl <| Sto ty44 7 rfl <| As rfl <| Ak rfl <| Nl <| AW.ret ?_
    obtain rfl := si h
    exact ret3 Tryz.results170 rfl (out_cell rfl (i := 7) rfl ty44) (out_tmp rfl) (out_tmp rfl)
def F_shadow_Look (l1 : (List Rule)) (i2 : Int) (most3 : Int) : Option ((Vector Wide 24) × Bool × Int) :=
  (bif ((decide (i2 < 0)) || (decide (i2 ≥ (l1.length : Int)))) then some ((Vector.replicate 24 zWide), false, 6) else (F_shadow_Cubes l1).bind fun x5 => (lget x5 i2).bind fun e6 => (otake x5 i2).bind fun s7 => (F_cover_Look e6 s7 most3).bind fun x8 => some (x8.1, x8.2.1, x8.2.2))
theorem c_shadow_Look (l1 : (List Rule)) (i2 : Int) (most3 : Int) (r : ((Vector Wide 24) × Bool × Int)) (h : F_shadow_Look l1 i2 most3 = some r) : PCon Tryz.prog 104 [rd (ksl kRule) l1, rd (kint .i64) i2, rd (kint .i64) most3] (tup3 (rd (karr 24 kWide) r.1) (rd kbool r.2.1) (rd (kint .i64) r.2.2)) := by
  refine PCon.of (Con.intro0 Tryz.func104 rfl Tryz.ntmps104 rfl fun w H => ?_)
  unfold F_shadow_Look at h
  refine SR <| Ct rfl (op_alloc 7 rfl rfl zr44) ?_
  rintro _ ⟨g4, rfl⟩
  refine Ab rfl <| Ak rfl <| Nl <| AW.seq <| SR <| Md rfl <| Ac (op_lss rfl rfl (vt rfl) (vk rfl)) rfl <| Md rfl <| Gd rfl (fun hq => op_move (A := rd (kint .i64) i2) rfl rfl (vt rfl)) <| Gd rfl (fun hq => op_move (A := rd (ksl kRule) l1) rfl rfl (vt rfl)) <| Gd rfl (fun hq => op_len' rfl rfl sl32 (vgt rfl hq)) <| Gd rfl (fun hq => op_geq rfl rfl (vgt rfl hq) (vgt rfl hq)) <| Ac (op_any rfl rfl (vt rfl) (vt rfl)) rfl <| Nl <| Cn rfl (fun hc => ?_) (fun hc => ?_)
  · have h := cond_t hc h
    refine SR <| Ac (op_build (ps := []) (x := (Vector.replicate 24 zWide)) rfl rfl rfl (by kernel_rfl) zr44 rfl) rfl <| Sto ty44 7 rfl <| Ab rfl <| Ak rfl <| Nl <| AW.ret ?_
    obtain rfl := si h
    exact ret3 Tryz.results104 rfl (out_cell rfl (i := 7) rfl ty44) (out_tmp rfl) (out_tmp rfl)
  · have h := cond_f hc h
    refine AW.skip <| AW.seq ?_
    obtain ⟨x5, hx5, h⟩ := bsome h
    refine Rg <| Md rfl <| Cl [19] (c_shadow_Cubes _ _ hx5) e169 rfl <| As rfl <| Nl <| AW.seq ?_
    obtain ⟨e6, he6, h⟩ := bsome h
    obtain ⟨s7, hs7, h⟩ := bsome h
    obtain ⟨x8, hx8, h⟩ := bsome h
    refine AW.regionAny [⟨[9], [21], [], []⟩, ⟨[1], [22], [], []⟩, ⟨[21, 22], [23], [], []⟩, ⟨[23], [24], [], []⟩, ⟨[9], [25], [], []⟩, ⟨[1], [26], [], []⟩, ⟨[1], [27], [], []⟩, ⟨[25, 26, 27], [28], [], []⟩, ⟨[2], [29], [], []⟩, ⟨[24, 28, 29], [30], [], []⟩, ⟨[30], [31], [], []⟩, ⟨[30], [32], [], []⟩, ⟨[30], [33], [], []⟩, ⟨[6, 31], [], [7], [7]⟩, ⟨[32], [7], [], []⟩, ⟨[33], [8], [], []⟩] mixed (by kernel_rfl) <| SMd rfl <| SMd rfl <| Sc (lo [21, 22] [] rfl fun S hs hr => op_indexs' rfl rfl sl229 (vh hs 21 rfl rfl) (vh hs 22 rfl rfl) he6) rfl <| SLp ty87 rfl <| SMd rfl <| SMd rfl <| SMd rfl <| Sc (lo [25, 26, 27] [] rfl fun S hs hr => op_slice_full' hs7 rfl rfl sl229 (vh hs 25 rfl rfl) (vh hs 26 rfl rfl) (vh hs 27 rfl rfl)) rfl <| SMd rfl <| Sc (lo [24, 28, 29] [] rfl fun S hs hr => op_call (xs := [.tmp 24, .tmp 28, .tmp 29]) (c_cover_Look _ _ _ _ hx8) e170 rfl rfl ⟨vt ((hs 24 rfl).trans rfl), vfsl (vh hs 28 rfl rfl), vt ((hs 29 rfl).trans rfl), trivial⟩) rfl <| Sc (lo [30] [] rfl fun S hs hr => op_ext3_0 rfl rfl (vh hs 30 rfl rfl)) rfl <| Sc (lo [30] [] rfl fun S hs hr => op_ext3_1 rfl rfl (vh hs 30 rfl rfl)) rfl <| Sc (lo [30] [] rfl fun S hs hr => op_ext3_2 rfl rfl (vh hs 30 rfl rfl)) rfl <| SSt ty44 7 rfl <| SAs rfl <| SAs rfl <| AW.ret ?_
    obtain rfl := si h
    exact ret3 Tryz.results104 rfl (out_cell rfl (i := 7) rfl ty44) (out_tmp rfl) (out_tmp rfl)
def F_find_Witness (f1 : Flat) (i2 : Int) (most3 : Int) : Option ((Vector Wide 24) × Bool × Int) :=
  (F_shadow_Look f1.Rules i2 most3).bind fun x6 => some (x6.1, x6.2.1, x6.2.2)
theorem c_find_Witness (f1 : Flat) (i2 : Int) (most3 : Int) (r : ((Vector Wide 24) × Bool × Int)) (h : F_find_Witness f1 i2 most3 = some r) : PCon Tryz.prog 46 [rd kFlat f1, rd (kint .i64) i2, rd (kint .i64) most3] (tup3 (rd (karr 24 kWide) r.1) (rd kbool r.2.1) (rd (kint .i64) r.2.2)) := by
  refine PCon.of (Con.intro0 Tryz.func46 rfl Tryz.ntmps46 rfl fun w H => ?_)
  unfold F_find_Witness at h
  refine SR <| Ct rfl (op_box 4 rfl rfl (vt rfl)) ?_
  rintro _ ⟨g4, rfl⟩
  refine Ct rfl (op_alloc 7 rfl rfl zr44) ?_
  rintro _ ⟨g5, rfl⟩
  refine Ab rfl <| Ak rfl <| Nl <| AW.seq ?_
  obtain ⟨x6, hx6, h⟩ := bsome h
  refine Rg <| FdA lFlat_0 fl73_0 rfl <| Ld ty32 4 rfl <| Md rfl <| Md rfl <| Cl [10, 11, 12] (c_shadow_Look _ _ _ _ hx6) e104 rfl <| Ac (op_ext3_0 rfl rfl (vt rfl)) rfl <| Ac (op_ext3_1 rfl rfl (vt rfl)) rfl <| Ac (op_ext3_2 rfl rfl (vt rfl)) rfl <| Sto ty44 7 rfl <| As rfl <| As rfl <| Nl <| AW.ret ?_
  obtain rfl := si h
  exact ret3 Tryz.results46 rfl (out_cell rfl (i := 7) rfl ty44) (out_tmp rfl) (out_tmp rfl)
def F_rewrite_Apply_l1 : (List Tern) → Nat → (Vector Wide 24) → Option (Vector Wide 24)
  | [], i8, b7 => some b7
  | x10 :: l9, i8, b7 => (chk 24 (i8 : Int)).bind fun j12 => (F_wide_Less (Vector.get b7 j12) x10.Mask).bind fun x13 => (F_wide_And x10.Value x10.Mask).bind fun x14 => (F_wide_Or x13 x14).bind fun x15 => (chk 24 (i8 : Int)).bind fun j16 => (F_rewrite_Apply_l1 l9) (i8 + 1) (Vector.set b7 j16.1 x15 j16.2)
def F_rewrite_Apply (r1 : (Vector Tern 24)) (h2 : (Vector Wide 24)) : Option (Vector Wide 24) :=
  F_rewrite_Apply_l1 (Vector.toList r1) 0 h2
theorem c_rewrite_Apply (r1 : (Vector Tern 24)) (h2 : (Vector Wide 24)) (r : (Vector Wide 24)) (h : F_rewrite_Apply r1 h2 = some r) : PCon Tryz.prog 109 [rd (karr 24 kTern) r1, rd (karr 24 kWide) h2] (rd (karr 24 kWide) r) := by
  refine PCon.of (Con.intro0 Tryz.func109 rfl Tryz.ntmps109 rfl fun w H => ?_)
  unfold F_rewrite_Apply at h
  refine SR <| Ct rfl (op_box 3 rfl rfl (vt rfl)) ?_
  rintro _ ⟨g3, rfl⟩
  refine Ct rfl (op_box 4 rfl rfl (vt rfl)) ?_
  rintro _ ⟨g4, rfl⟩
  refine Ct rfl (op_alloc 5 rfl rfl zr44) ?_
  rintro _ ⟨g5, rfl⟩
  refine Nl <| AW.seq <| SR <| Ld ty101 3 rfl <| Mk rfl <| Nl <| AW.block <| AW.loopG (d := []) (ν := (List Tern) × Nat × (Vector Wide 24)) (fun n => Sfx (Vector.toList r1) n.2.1 n.1 ∧ F_rewrite_Apply_l1 n.1 n.2.1 n.2.2 = some r) (fun n => n.1.length) (fun n => [(3, ptrL g4 (Lens.id (karr 24 kWide))), (4, ptrL g5 (Lens.id (karr 24 kWide))), (7, rd (karr 24 kTern) r1), (8, rd (kint .i64) (n.2.1 : Int))]) (fun n => [(4, Blk g4 44 (karr 24 kWide) n.2.2), (5, Blk g5 44 (karr 24 kWide) (Vector.replicate 24 zWide))]) ((Vector.toList r1), 0, h2) ⟨Sfx.start _, h⟩ ⟨rfl, ⟨rfl, rfl, rfl, rfl, trivial⟩, ⟨rfl, rfl, trivial⟩⟩ ?_
  rintro ⟨l9, i8, b7⟩ ⟨hsf1, h⟩
  change Sfx (Vector.toList r1) i8 l9 at hsf1
  change F_rewrite_Apply_l1 l9 i8 b7 = some r at h
  change AW _ _ _ ⟨slots [(3, ptrL g4 (Lens.id (karr 24 kWide))), (4, ptrL g5 (Lens.id (karr 24 kWide))), (7, rd (karr 24 kTern) r1), (8, rd (kint .i64) (i8 : Int))], ress [(4, Blk g4 44 (karr 24 kWide) b7), (5, Blk g5 44 (karr 24 kWide) (Vector.replicate 24 zWide))], _⟩
  cases l9 with
  | nil =>
    unfold F_rewrite_Apply_l1 at h
    refine SR <| Ac (op_lss rfl rfl (vt rfl) (vk rfl)) rfl <| Nl <| AW.seq <| Cn rfl (fun hc => absurd (of_decide_eq_true hc) (hsf1.niln (by simp))) (fun hc => ?_)
    refine AW.exit <| SR <| Ld ty44 4 rfl <| Sto ty44 5 rfl <| Nl <| AW.ret ?_
    obtain rfl := si h
    exact ret1 Tryz.results109 rfl (out_cell rfl (i := 5) rfl ty44)
  | cons x10 l9 =>
    unfold F_rewrite_Apply_l1 at h
    generalize hgo1 : F_rewrite_Apply_l1 l9 = go1 at h
    refine SR <| Ac (op_lss rfl rfl (vt rfl) (vk rfl)) rfl <| Nl <| AW.seq <| Cn rfl (fun hc => ?_) (fun hc => absurd (hsf1.consn (by simp)) (of_decide_eq_false hc))
    have hlti8 := of_decide_eq_true hc
    refine AW.skip <| AW.seq <| AW.block <| SR <| Md rfl <| Ac (op_indexv rfl rfl ar101 ty85 (vt rfl) (vt rfl) hsf1.lget) rfl <| Ct rfl (op_alloc 7 rfl rfl zr85) ?_
    rintro _ ⟨g11, rfl⟩
    refine As rfl <| Sto ty85 7 rfl <| Nl ?_
    obtain ⟨j12, hj12, h⟩ := bsome h
    obtain ⟨x13, hx13, h⟩ := bsome h
    obtain ⟨x14, hx14, h⟩ := bsome h
    obtain ⟨x15, hx15, h⟩ := bsome h
    obtain ⟨j16, hj16, h⟩ := bsome h
    refine AW.regionAny [⟨[5], [12], [], []⟩, ⟨[5], [13], [], []⟩, ⟨[3, 13], [14], [], []⟩, ⟨[14], [15], [4], []⟩, ⟨[6], [16], [], []⟩, ⟨[16], [17], [7], []⟩, ⟨[15, 17], [18], [], []⟩, ⟨[6], [19], [], []⟩, ⟨[19], [20], [7], []⟩, ⟨[6], [21], [], []⟩, ⟨[21], [22], [7], []⟩, ⟨[20, 22], [23], [], []⟩, ⟨[18, 23], [24], [], []⟩, ⟨[3, 12], [25], [], []⟩, ⟨[25, 24], [], [4], [4]⟩] mixed (by kernel_rfl) <| SMd rfl <| SMd rfl <| Sc (lo [3, 13] [] rfl fun S hs hr => op_index' rfl rfl ar44 (vh hs 3 rfl rfl) (vh hs 13 rfl rfl) hj12) rfl <| SLd ty42 4 rfl <| SFd lTern_1 fl85_1 rfl <| SLd ty42 7 rfl <| SCl [15, 17] (c_wide_Less _ _ _ hx13) e176 rfl <| SFd lTern_0 fl85_0 rfl <| SLd ty42 7 rfl <| SFd lTern_1 fl85_1 rfl <| SLd ty42 7 rfl <| SCl [20, 22] (c_wide_And _ _ _ hx14) e177 rfl <| SCl [18, 23] (c_wide_Or _ _ _ hx15) e175 rfl <| Sc (lo [3, 12] [] rfl fun S hs hr => op_index' rfl rfl ar44 (vh hs 3 rfl rfl) (vh hs 12 rfl rfl) hj16) rfl <| SSt ty42 4 rfl <| Rg <| Ac (op_incrc rfl rfl (vt rfl) (vk rfl) rfl hlti8) rfl <| Md rfl <| Nl ?_
    subst hgo1
    exact ⟨(l9, i8 + 1, (Vector.set b7 j16.1 x15 j16.2)), Nat.lt_succ_self _, ⟨hsf1.next, h⟩, ⟨rfl, ⟨rfl, rfl, rfl, rfl, trivial⟩, ⟨rfl, rfl, trivial⟩⟩⟩
def F_group_place_1 (g1 : Group) (cp2 : Int) : Option Bool :=
  some (decide (g1.ID = cp2))
theorem c_group_place_1 (g1 : Group) (cp2 : Int) (r : Bool) (h : F_group_place_1 g1 cp2 = some r) : PCon Tryz.prog 288 [rd kGroup g1, rp (kint .i64) cp2] (rd kbool r) := by
  refine PCon.of (Con.intro0 Tryz.func288 rfl Tryz.ntmps288 rfl fun w H => ?_)
  unfold F_group_place_1 at h
  refine SR <| Ct rfl (op_box 3 rfl rfl (vt rfl)) ?_
  rintro _ ⟨g3, rfl⟩
  refine Ab rfl <| Nl <| SR <| FdA lGroup_0 fl164_0 rfl <| Ld ty3 3 rfl <| Lp1 ty3 rfl <| Ac (op_eql rfl rfl (vt rfl) (vt rfl)) rfl <| As rfl <| Nl <| AW.ret ?_
  obtain rfl := si h
  exact ret1 Tryz.results288 rfl (out_tmp rfl)
def F_group_place (l1 : (List Group)) (id2 : Int) : Option Int :=
  (F_slices_IndexFunc_Group l1 (fun x => F_group_place_1 x id2)).bind fun x4 => some x4
theorem c_group_place (l1 : (List Group)) (id2 : Int) (r : Int) (h : F_group_place l1 id2 = some r) : PCon Tryz.prog 241 [rd (ksl kGroup) l1, rd (kint .i64) id2] (rd (kint .i64) r) := by
  refine PCon.of (Con.intro0 Tryz.func241 rfl Tryz.ntmps241 rfl fun w H => ?_)
  unfold F_group_place at h
  refine SR <| Ct rfl (op_box 4 rfl rfl (vt rfl)) ?_
  rintro _ ⟨g3, rfl⟩
  refine Ak rfl <| Nl <| AW.seq <| AW.freezeB 3 4 rfl rfl rfl ?_
  obtain ⟨x4, hx4, h⟩ := bsome h
  refine Rg <| Md rfl <| Ac (op_fn1 (cs := [.tmp 3]) (CAs := [rp (kint .i64) id2]) (fun x => F_group_place_1 x id2) rfl rfl e288 ⟨vt rfl, trivial⟩ (fun x y h => c_group_place_1 _ _ y h)) rfl <| Cl [5, 6] (c_slices_IndexFunc_Group _ _ _ hx4) e162 rfl <| As rfl <| Nl <| AW.ret ?_
  obtain rfl := si h
  exact ret1 Tryz.results241 rfl (out_tmp rfl)
def F_slices_Clone_Group (s : List Group) : Option (List Group) := appd [] s
theorem c_slices_Clone_Group_o (s : List Group) (r : List Group) (h : F_slices_Clone_Group s = some r) : Con Tryz.prog 289 [rd (ksl kGroup) s] emp (fun v => raw v) (fun v => Row v 164 kGroup r) := by
  refine Con.intro0 Tryz.func289 rfl Tryz.ntmps289 rfl fun w H => ?_
  unfold F_slices_Clone_Group at h
  refine AW.newnil 1001 164 kGroup <| SR <| Ac (op_assign (A := raw (.slice none 0 0)) rfl rfl vc) rfl <| Nl <| AW.seq <| SR <| Md rfl <| Ct rfl (op_eqnil rfl rfl sl24 (vt rfl)) ?_
  rintro _ ⟨b, hb, rfl⟩
  refine Nl <| Cn rfl (fun hc => ?_) (fun hc => ?_)
  · obtain rfl := hb hc
    refine SR <| Ac (op_assign (A := raw (.slice none 0 0)) rfl rfl vc) rfl <| Nl <| AW.ret ?_
    obtain rfl := (appd_of h).2
    exact ret1R (i := 1001) Tryz.results289 rfl rfl rfl
  · refine AW.skip <| SR <| Ct rfl (op_buildSlice 1002 (ps := []) (l := []) rfl rfl sl24 zr164 rfl rfl rfl rfl) ?_
    rintro _ ⟨v1, rfl⟩
    refine Md rfl <| Ct rfl (op_append' 1002 h rfl rfl el24 (vt rfl) rfl (vt rfl)) ?_
    rintro _ ⟨v2, rfl⟩
    refine Aw rfl <| Nl <| AW.ret ?_
    exact ret1R (i := 1002) Tryz.results289 rfl rfl rfl
end Go.Proofs.YtknpgojdkobgjaaGreat.W
set_option linter.unusedVariables false
set_option maxRecDepth 4000
set_option linter.unusedSimpArgs false
namespace Go.Proofs.YtknpgojdkobgjaaGreat.W
open Go Go.Wb
theorem e328 : Ent Tryz.prog 328 := Ent.mk Tryz.func328 rfl rfl
theorem e216 : Ent Tryz.prog 216 := Ent.mk Tryz.func216 rfl rfl
theorem e289 : Ent Tryz.prog 289 := Ent.mk Tryz.func289 rfl rfl
theorem e290 : Ent Tryz.prog 290 := Ent.mk Tryz.func290 rfl rfl
theorem e241 : Ent Tryz.prog 241 := Ent.mk Tryz.func241 rfl rfl
theorem e242 : Ent Tryz.prog 242 := Ent.mk Tryz.func242 rfl rfl
theorem e273 : Ent Tryz.prog 273 := Ent.mk Tryz.func273 rfl rfl
theorem e338 : Ent Tryz.prog 338 := Ent.mk Tryz.func338 rfl rfl
def F_slices_Clone_Bucket (s : List Bucket) : Option (List Bucket) := appd [] s
theorem c_slices_Clone_Bucket_o (s : List Bucket) (r : List Bucket) (h : F_slices_Clone_Bucket s = some r) : Con Tryz.prog 328 [rd (ksl kBucket) s] emp (fun v => raw v) (fun v => Row v 226 kBucket r) := by
  refine Con.intro0 Tryz.func328 rfl Tryz.ntmps328 rfl fun w H => ?_
  unfold F_slices_Clone_Bucket at h
  refine AW.newnil 1001 226 kBucket <| SR <| Ac (op_assign (A := raw (.slice none 0 0)) rfl rfl vc) rfl <| Nl <| AW.seq <| SR <| Md rfl <| Ct rfl (op_eqnil rfl rfl sl162 (vt rfl)) ?_
  rintro _ ⟨b, hb, rfl⟩
  refine Nl <| Cn rfl (fun hc => ?_) (fun hc => ?_)
  · obtain rfl := hb hc
    refine SR <| Ac (op_assign (A := raw (.slice none 0 0)) rfl rfl vc) rfl <| Nl <| AW.ret ?_
    obtain rfl := (appd_of h).2
    exact ret1R (i := 1001) Tryz.results328 rfl rfl rfl
  · refine AW.skip <| SR <| Ct rfl (op_buildSlice 1002 (ps := []) (l := []) rfl rfl sl162 zr226 rfl rfl rfl rfl) ?_
    rintro _ ⟨v1, rfl⟩
    refine Md rfl <| Ct rfl (op_append' 1002 h rfl rfl el162 (vt rfl) rfl (vt rfl)) ?_
    rintro _ ⟨v2, rfl⟩
    refine Aw rfl <| Nl <| AW.ret ?_
    exact ret1R (i := 1002) Tryz.results328 rfl rfl rfl
def F_slices_Clone_Action (s : List Action) : Option (List Action) := appd [] s
theorem c_slices_Clone_Action_o (s : List Action) (r : List Action) (h : F_slices_Clone_Action s = some r) : Con Tryz.prog 216 [rd (ksl kAction) s] emp (fun v => raw v) (fun v => Row v 121 kAction r) := by
  refine Con.intro0 Tryz.func216 rfl Tryz.ntmps216 rfl fun w H => ?_
  unfold F_slices_Clone_Action at h
  refine AW.newnil 1001 121 kAction <| SR <| Ac (op_assign (A := raw (.slice none 0 0)) rfl rfl vc) rfl <| Nl <| AW.seq <| SR <| Md rfl <| Ct rfl (op_eqnil rfl rfl sl122 (vt rfl)) ?_
  rintro _ ⟨b, hb, rfl⟩
  refine Nl <| Cn rfl (fun hc => ?_) (fun hc => ?_)
  · obtain rfl := hb hc
    refine SR <| Ac (op_assign (A := raw (.slice none 0 0)) rfl rfl vc) rfl <| Nl <| AW.ret ?_
    obtain rfl := (appd_of h).2
    exact ret1R (i := 1001) Tryz.results216 rfl rfl rfl
  · refine AW.skip <| SR <| Ct rfl (op_buildSlice 1002 (ps := []) (l := []) rfl rfl sl122 zr121 rfl rfl rfl rfl) ?_
    rintro _ ⟨v1, rfl⟩
    refine Md rfl <| Ct rfl (op_append' 1002 h rfl rfl el122 (vt rfl) rfl (vt rfl)) ?_
    rintro _ ⟨v2, rfl⟩
    refine Aw rfl <| Nl <| AW.ret ?_
    exact ret1R (i := 1002) Tryz.results216 rfl rfl rfl
theorem c_slices_Clone_Action (s : List Action) (r : List Action) (h : F_slices_Clone_Action s = some r) : PCon Tryz.prog 216 [rd (ksl kAction) s] (rd (ksl kAction) r) := PCon.of_row (c_slices_Clone_Action_o s r h)
def F_group_copies_l1 : Nat → Nat → (List Bucket) → Option (List Bucket)
  | 0, i6, l5 => some l5
  | m7 + 1, i6, l5 => (lget l5 (i6 : Int)).bind fun e8 => (F_slices_Clone_Action e8.Acts).bind fun x9 => (lget l5 (i6 : Int)).bind fun e10 => (F_group_copies_l1 m7) (i6 + 1) (List.set l5 (i6 : Int).toNat { e10 with Acts := x9 })
def F_group_copies (l1 : (List Bucket)) : Option (List Bucket) :=
  (F_slices_Clone_Bucket l1).bind fun x2 => F_group_copies_l1 ((x2.length : Int) : Int).toNat 0 x2
theorem c_group_copies (l1 : (List Bucket)) (r : (List Bucket)) (h : F_group_copies l1 = some r) : PCon Tryz.prog 290 [rd (ksl kBucket) l1] (rd (ksl kBucket) r) := by
  refine PCon.of (Con.intro0 Tryz.func290 rfl Tryz.ntmps290 rfl fun w H => ?_)
  unfold F_group_copies at h
  refine SR <| Ac (op_assign (A := rd (ksl kBucket) []) rfl rfl vnil) rfl <| Nl <| AW.seq ?_
  obtain ⟨x2, hx2, h⟩ := bsome h
  refine Rg <| Md rfl <| Ct rfl (op_callR 1001 (xs := [.tmp 5]) (c_slices_Clone_Bucket_o _ _ hx2) e328 rfl rfl ⟨vt rfl, trivial⟩ rfl) ?_
  rintro _ ⟨v3, rfl⟩
  refine Aw rfl <| Nl <| AW.seq <| SR <| Mw rfl <| Ac (op_leno 1001 rfl rfl sl162 (vt rfl) rfl) rfl <| Mk rfl <| Nl <| AW.block <| AW.loopG (d := []) (ν := Nat × Nat × (List Bucket)) (fun n => Cnt (x2.length : Int) n.2.1 n.1 ∧ F_group_copies_l1 n.1 n.2.1 n.2.2 = some r) (fun n => n.1) (fun n => [(3, raw v3), (8, rd (kint .i64) (x2.length : Int)), (9, rd (kint .i64) (n.2.1 : Int))]) (fun n => [(1001, Row v3 226 kBucket n.2.2)]) (((x2.length : Int) : Int).toNat, 0, x2) ⟨Cnt.start _, h⟩ ⟨rfl, ⟨rfl, rfl, rfl, trivial⟩, ⟨rfl, trivial⟩⟩ ?_
  rintro ⟨m7, i6, l5⟩ ⟨hsf1, h⟩
  change Cnt (x2.length : Int) i6 m7 at hsf1
  change F_group_copies_l1 m7 i6 l5 = some r at h
  change AW _ _ _ ⟨slots [(3, raw v3), (8, rd (kint .i64) (x2.length : Int)), (9, rd (kint .i64) (i6 : Int))], ress [(1001, Row v3 226 kBucket l5)], _⟩
  cases m7 with
  | zero =>
    unfold F_group_copies_l1 at h
    refine SR <| Ac (op_lss rfl rfl (vt rfl) (vt rfl)) rfl <| Nl <| AW.seq <| Cn rfl (fun hc => absurd (of_decide_eq_true hc) hsf1.zero) (fun hc => ?_)
    refine AW.exit <| SR <| Mw rfl <| Aw rfl <| Nl <| AW.freezes [2, 3, 23] 1001 rfl ⟨rfl, rfl, rfl, trivial⟩ rfl <| AW.ret ?_
    obtain rfl := si h
    exact ret1 Tryz.results290 rfl (out_tmp rfl)
  | succ m7 =>
    unfold F_group_copies_l1 at h
    generalize hgo1 : F_group_copies_l1 m7 = go1 at h
    refine SR <| Ac (op_lss rfl rfl (vt rfl) (vt rfl)) rfl <| Nl <| AW.seq <| Cn rfl (fun hc => ?_) (fun hc => absurd hsf1.succ (of_decide_eq_false hc))
    have hlti6 := of_decide_eq_true hc
    refine AW.skip <| AW.seq <| AW.block <| SR <| Md rfl <| As rfl <| Nl ?_
    obtain ⟨e8, he8, h⟩ := bsome h
    obtain ⟨x9, hx9, h⟩ := bsome h
    obtain ⟨e10, he10, h⟩ := bsome h
    refine Rg <| Mw rfl <| Md rfl <| Mw rfl <| Md rfl <| Ac (op_indexo' 1001 rfl rfl sl162 (vt rfl) rfl (vt rfl) he8) rfl <| Ac (op_fieldo lBucket_3 rfl rfl fl226_3 (vt rfl)) rfl <| Ac (op_loado' 1001 rfl rfl ty122 (vt rfl) rfl (lget_of he8).2) rfl <| Cl [18] (c_slices_Clone_Action _ _ hx9) e216 rfl <| Ac (op_indexo' 1001 rfl rfl sl162 (vt rfl) rfl (vt rfl) he10) rfl <| Ac (op_fieldo lBucket_3 rfl rfl fl226_3 (vt rfl)) rfl <| Ac (op_storeo' 1001 rfl rfl ty122 (vt rfl) rfl (lget_of he10).2 (vt rfl)) rfl <| Nl <| Rg <| Ac (op_incr (t := 8) rfl rfl (vt rfl) (vk rfl) (vt rfl) hlti6) rfl <| Md rfl <| Nl ?_
    subst hgo1
    exact ⟨(m7, i6 + 1, (List.set l5 (i6 : Int).toNat { e10 with Acts := x9 })), Nat.lt_succ_self _, ⟨hsf1.next, h⟩, ⟨rfl, ⟨rfl, rfl, rfl, trivial⟩, ⟨rfl, trivial⟩⟩⟩
def F_group_fresh_l1 : Nat → Nat → (List Group) → Option (List Group)
  | 0, i6, l5 => some l5
  | m7 + 1, i6, l5 => (lget l5 (i6 : Int)).bind fun e8 => (F_group_copies e8.Buckets).bind fun x9 => (lget l5 (i6 : Int)).bind fun e10 => (F_group_fresh_l1 m7) (i6 + 1) (List.set l5 (i6 : Int).toNat { e10 with Buckets := x9 })
def F_group_fresh (l1 : (List Group)) : Option (List Group) :=
  (F_slices_Clone_Group l1).bind fun x2 => F_group_fresh_l1 ((x2.length : Int) : Int).toNat 0 x2
theorem c_group_fresh (l1 : (List Group)) (r : (List Group)) (h : F_group_fresh l1 = some r) : PCon Tryz.prog 242 [rd (ksl kGroup) l1] (rd (ksl kGroup) r) := by
  refine PCon.of (Con.intro0 Tryz.func242 rfl Tryz.ntmps242 rfl fun w H => ?_)
  unfold F_group_fresh at h
  refine SR <| Ac (op_assign (A := rd (ksl kGroup) []) rfl rfl vnil) rfl <| Nl <| AW.seq ?_
  obtain ⟨x2, hx2, h⟩ := bsome h
  refine Rg <| Md rfl <| Ct rfl (op_callR 1001 (xs := [.tmp 5]) (c_slices_Clone_Group_o _ _ hx2) e289 rfl rfl ⟨vt rfl, trivial⟩ rfl) ?_
  rintro _ ⟨v3, rfl⟩
  refine Aw rfl <| Nl <| AW.seq <| SR <| Mw rfl <| Ac (op_leno 1001 rfl rfl sl24 (vt rfl) rfl) rfl <| Mk rfl <| Nl <| AW.block <| AW.loopG (d := []) (ν := Nat × Nat × (List Group)) (fun n => Cnt (x2.length : Int) n.2.1 n.1 ∧ F_group_fresh_l1 n.1 n.2.1 n.2.2 = some r) (fun n => n.1) (fun n => [(3, raw v3), (8, rd (kint .i64) (x2.length : Int)), (9, rd (kint .i64) (n.2.1 : Int))]) (fun n => [(1001, Row v3 164 kGroup n.2.2)]) (((x2.length : Int) : Int).toNat, 0, x2) ⟨Cnt.start _, h⟩ ⟨rfl, ⟨rfl, rfl, rfl, trivial⟩, ⟨rfl, trivial⟩⟩ ?_
  rintro ⟨m7, i6, l5⟩ ⟨hsf1, h⟩
  change Cnt (x2.length : Int) i6 m7 at hsf1
  change F_group_fresh_l1 m7 i6 l5 = some r at h
  change AW _ _ _ ⟨slots [(3, raw v3), (8, rd (kint .i64) (x2.length : Int)), (9, rd (kint .i64) (i6 : Int))], ress [(1001, Row v3 164 kGroup l5)], _⟩
  cases m7 with
  | zero =>
    unfold F_group_fresh_l1 at h
    refine SR <| Ac (op_lss rfl rfl (vt rfl) (vt rfl)) rfl <| Nl <| AW.seq <| Cn rfl (fun hc => absurd (of_decide_eq_true hc) hsf1.zero) (fun hc => ?_)
    refine AW.exit <| SR <| Mw rfl <| Aw rfl <| Nl <| AW.freezes [2, 3, 23] 1001 rfl ⟨rfl, rfl, rfl, trivial⟩ rfl <| AW.ret ?_
    obtain rfl := si h
    exact ret1 Tryz.results242 rfl (out_tmp rfl)
  | succ m7 =>
    unfold F_group_fresh_l1 at h
    generalize hgo1 : F_group_fresh_l1 m7 = go1 at h
    refine SR <| Ac (op_lss rfl rfl (vt rfl) (vt rfl)) rfl <| Nl <| AW.seq <| Cn rfl (fun hc => ?_) (fun hc => absurd hsf1.succ (of_decide_eq_false hc))
    have hlti6 := of_decide_eq_true hc
    refine AW.skip <| AW.seq <| AW.block <| SR <| Md rfl <| As rfl <| Nl ?_
    obtain ⟨e8, he8, h⟩ := bsome h
    obtain ⟨x9, hx9, h⟩ := bsome h
    obtain ⟨e10, he10, h⟩ := bsome h
    refine Rg <| Mw rfl <| Md rfl <| Mw rfl <| Md rfl <| Ac (op_indexo' 1001 rfl rfl sl24 (vt rfl) rfl (vt rfl) he8) rfl <| Ac (op_fieldo lGroup_2 rfl rfl fl164_2 (vt rfl)) rfl <| Ac (op_loado' 1001 rfl rfl ty162 (vt rfl) rfl (lget_of he8).2) rfl <| Cl [18] (c_group_copies _ _ hx9) e290 rfl <| Ac (op_indexo' 1001 rfl rfl sl24 (vt rfl) rfl (vt rfl) he10) rfl <| Ac (op_fieldo lGroup_2 rfl rfl fl164_2 (vt rfl)) rfl <| Ac (op_storeo' 1001 rfl rfl ty162 (vt rfl) rfl (lget_of he10).2 (vt rfl)) rfl <| Nl <| Rg <| Ac (op_incr (t := 8) rfl rfl (vt rfl) (vk rfl) (vt rfl) hlti6) rfl <| Md rfl <| Nl ?_
    subst hgo1
    exact ⟨(m7, i6 + 1, (List.set l5 (i6 : Int).toNat { e10 with Buckets := x9 })), Nat.lt_succ_self _, ⟨hsf1.next, h⟩, ⟨rfl, ⟨rfl, rfl, rfl, trivial⟩, ⟨rfl, trivial⟩⟩⟩
def F_group_Find (l1 : (List Group)) (id2 : Int) : Option (Group × Bool) :=
  (F_group_place l1 id2).bind fun x4 => (bif (decide (x4 < 0)) then some ((⟨0, 0, []⟩ : Group), false) else (oslice l1 x4 (IntKind.i64.wrap (x4 + 1))).bind fun s5 => (F_group_fresh s5).bind fun x6 => (lget x6 0).bind fun e7 => some (e7, true))
theorem c_group_Find (l1 : (List Group)) (id2 : Int) (r : (Group × Bool)) (h : F_group_Find l1 id2 = some r) : PCon Tryz.prog 180 [rd (ksl kGroup) l1, rd (kint .i64) id2] (tup2 (rd kGroup r.1) (rd kbool r.2)) := by
  refine PCon.of (Con.intro0 Tryz.func180 rfl Tryz.ntmps180 rfl fun w H => ?_)
  unfold F_group_Find at h
  refine SR <| Ct rfl (op_alloc 5 rfl rfl zr164) ?_
  rintro _ ⟨g3, rfl⟩
  refine Ab rfl <| Nl <| AW.seq ?_
  obtain ⟨x4, hx4, h⟩ := bsome h
  refine Rg <| Md rfl <| Md rfl <| Cl [7, 8] (c_group_place _ _ _ hx4) e241 rfl <| As rfl <| Nl <| AW.seq <| SR <| Md rfl <| Ac (op_lss rfl rfl (vt rfl) (vk rfl)) rfl <| Nl <| Cn rfl (fun hc => ?_) (fun hc => ?_)
  · have h := cond_t hc h
    refine SR <| Ac (op_build (ps := []) (x := (⟨0, 0, []⟩ : Group)) rfl rfl rfl (by kernel_rfl) zr164 rfl) rfl <| Sto ty164 5 rfl <| Ab rfl <| Nl <| AW.ret ?_
    obtain rfl := si h
    exact ret2 Tryz.results180 rfl (out_cell rfl (i := 5) rfl ty164) (out_tmp rfl)
  · have h := cond_f hc h
    refine AW.skip <| AW.seq ?_
    obtain ⟨s5, hs5, h⟩ := bsome h
    obtain ⟨x6, hx6, h⟩ := bsome h
    obtain ⟨e7, he7, h⟩ := bsome h
    refine Rg <| Md rfl <| Md rfl <| Md rfl <| Ac (op_add rfl rfl (vt rfl) (vk rfl)) rfl <| Ac (op_slice_lh' hs5 rfl rfl sl24 (vt rfl) (vt rfl) (vt rfl)) rfl <| Cl [17] (c_group_fresh _ _ hx6) e242 rfl <| Ac (op_indexs' rfl rfl sl24 (vt rfl) (vk rfl) he7) rfl <| Lp1 ty164 rfl <| Sto ty164 5 rfl <| Ab rfl <| Nl <| AW.ret ?_
    obtain rfl := si h
    exact ret2 Tryz.results180 rfl (out_cell rfl (i := 5) rfl ty164) (out_tmp rfl)
def F_env_Which (e1 : Env) (n2 : Int) : Option Int :=
  (bif (decide (n2 < 1)) then some 0 else (omod e1.Turn n2).bind fun q4 => (bif (decide (q4 < 0)) then some (IntKind.i64.wrap (q4 + n2)) else some q4))
theorem c_env_Which (e1 : Env) (n2 : Int) (r : Int) (h : F_env_Which e1 n2 = some r) : PCon Tryz.prog 284 [rd kEnv e1, rd (kint .i64) n2] (rd (kint .i64) r) := by
  refine PCon.of (Con.intro0 Tryz.func284 rfl Tryz.ntmps284 rfl fun w H => ?_)
  unfold F_env_Which at h
  refine SR <| Ct rfl (op_box 3 rfl rfl (vt rfl)) ?_
  rintro _ ⟨g3, rfl⟩
  refine Ak rfl <| Nl <| AW.seq <| SR <| Md rfl <| Ac (op_lss rfl rfl (vt rfl) (vk rfl)) rfl <| Nl <| Cn rfl (fun hc => ?_) (fun hc => ?_)
  · have h := cond_t hc h
    refine SR <| Ak rfl <| Nl <| AW.ret ?_
    obtain rfl := si h
    exact ret1 Tryz.results284 rfl (out_tmp rfl)
  · have h := cond_f hc h
    refine AW.skip <| AW.seq ?_
    obtain ⟨q4, hq4, h⟩ := bsome h
    refine Rg <| FdA lEnv_0 fl39_0 rfl <| Ld ty3 3 rfl <| Md rfl <| Ac (op_rem rfl rfl (vt rfl) (vt rfl) hq4) rfl <| As rfl <| Nl <| AW.seq <| SR <| Md rfl <| Ac (op_lss rfl rfl (vt rfl) (vk rfl)) rfl <| Nl <| Cn rfl (fun hc => ?_) (fun hc => ?_)
    · have h := cond_t hc h
      refine Rg <| Md rfl <| Md rfl <| Ac (op_add rfl rfl (vt rfl) (vt rfl)) rfl <| As rfl <| Nl <| SR <| Md rfl <| As rfl <| Nl <| AW.ret ?_
      obtain rfl := si h
      exact ret1 Tryz.results284 rfl (out_tmp rfl)
    · have h := cond_f hc h
      refine AW.skip <| SR <| Md rfl <| As rfl <| Nl <| AW.ret ?_
      obtain rfl := si h
      exact ret1 Tryz.results284 rfl (out_tmp rfl)
def F_slices_Index_int_l1 (s1 : (List Int)) (v2 : Int) : Nat → Nat → Option Int
  | 0, i3 => some (-1)
  | m4 + 1, i3 => (lget s1 (i3 : Int)).bind fun e5 => (bif (decide (v2 = e5)) then some (i3 : Int) else (F_slices_Index_int_l1 s1 v2 m4) (i3 + 1))
def F_slices_Index_int (s1 : (List Int)) (v2 : Int) : Option Int :=
  F_slices_Index_int_l1 s1 v2 ((s1.length : Int) : Int).toNat 0
theorem c_slices_Index_int (s1 : (List Int)) (v2 : Int) (r : Int) (h : F_slices_Index_int s1 v2 = some r) : PCon Tryz.prog 273 [rd (ksl (kint .i64)) s1, rd (kint .i64) v2] (rd (kint .i64) r) := by
  refine PCon.of (Con.intro0 Tryz.func273 rfl Tryz.ntmps273 rfl fun w H => ?_)
  unfold F_slices_Index_int at h
  refine SR <| Ak rfl <| Nl <| AW.seq <| SR <| Md rfl <| Ac (op_len' rfl rfl sl37 (vt rfl)) rfl <| Mk rfl <| Nl <| AW.block <| AW.loopG (d := []) (ν := Nat × Nat) (fun n => Cnt (s1.length : Int) n.2 n.1 ∧ F_slices_Index_int_l1 s1 v2 n.1 n.2 = some r) (fun n => n.1) (fun n => [(0, rd (ksl (kint .i64)) s1), (1, rd (kint .i64) v2), (7, rd (kint .i64) (s1.length : Int)), (8, rd (kint .i64) (n.2 : Int))]) (fun n => []) (((s1.length : Int) : Int).toNat, 0) ⟨Cnt.start _, h⟩ ⟨rfl, ⟨rfl, rfl, rfl, rfl, trivial⟩, trivial⟩ ?_
  rintro ⟨m4, i3⟩ ⟨hsf1, h⟩
  change Cnt (s1.length : Int) i3 m4 at hsf1
  change F_slices_Index_int_l1 s1 v2 m4 i3 = some r at h
  change AW _ _ _ ⟨slots [(0, rd (ksl (kint .i64)) s1), (1, rd (kint .i64) v2), (7, rd (kint .i64) (s1.length : Int)), (8, rd (kint .i64) (i3 : Int))], ress [], _⟩
  cases m4 with
  | zero =>
    unfold F_slices_Index_int_l1 at h
    refine SR <| Ac (op_lss rfl rfl (vt rfl) (vt rfl)) rfl <| Nl <| AW.seq <| Cn rfl (fun hc => absurd (of_decide_eq_true hc) hsf1.zero) (fun hc => ?_)
    refine AW.exit <| SR <| Ak rfl <| Nl <| AW.ret ?_
    obtain rfl := si h
    exact ret1 Tryz.results273 rfl (out_tmp rfl)
  | succ m4 =>
    unfold F_slices_Index_int_l1 at h
    generalize hgo1 : F_slices_Index_int_l1 s1 v2 m4 = go1 at h
    refine SR <| Ac (op_lss rfl rfl (vt rfl) (vt rfl)) rfl <| Nl <| AW.seq <| Cn rfl (fun hc => ?_) (fun hc => absurd hsf1.succ (of_decide_eq_false hc))
    have hlti3 := of_decide_eq_true hc
    refine AW.skip <| AW.seq <| AW.block <| SR <| Md rfl <| As rfl <| Nl <| AW.seq ?_
    obtain ⟨e5, he5, h⟩ := bsome h
    refine Rg <| Md rfl <| Md rfl <| Md rfl <| Ac (op_indexs' rfl rfl sl37 (vt rfl) (vt rfl) he5) rfl <| Lp1 ty3 rfl <| Ac (op_eql rfl rfl (vt rfl) (vt rfl)) rfl <| Nl <| Cn rfl (fun hc => ?_) (fun hc => ?_)
    · have h := cond_t hc h
      refine SR <| Md rfl <| As rfl <| Nl <| AW.ret ?_
      obtain rfl := si h
      exact ret1 Tryz.results273 rfl (out_tmp rfl)
    · have h := cond_f hc h
      refine AW.skip <| Rg <| Ac (op_incr (t := 7) rfl rfl (vt rfl) (vk rfl) (vt rfl) hlti3) rfl <| Md rfl <| Nl ?_
      subst hgo1
      exact ⟨(m4, i3 + 1), Nat.lt_succ_self _, ⟨hsf1.next, h⟩, ⟨rfl, ⟨rfl, rfl, rfl, rfl, trivial⟩, trivial⟩⟩
def F_slices_Contains_int (s1 : (List Int)) (v2 : Int) : Option Bool :=
  (F_slices_Index_int s1 v2).bind fun x3 => some (decide (x3 ≥ 0))
theorem c_slices_Contains_int (s1 : (List Int)) (v2 : Int) (r : Bool) (h : F_slices_Contains_int s1 v2 = some r) : PCon Tryz.prog 338 [rd (ksl (kint .i64)) s1, rd (kint .i64) v2] (rd kbool r) := by
  refine PCon.of (Con.intro0 Tryz.func338 rfl Tryz.ntmps338 rfl fun w H => ?_)
  unfold F_slices_Contains_int at h
  refine SR <| Ab rfl <| Nl <| AW.seq ?_
  obtain ⟨x3, hx3, h⟩ := bsome h
  refine Rg <| Md rfl <| Md rfl <| Cl [5, 6] (c_slices_Index_int _ _ _ hx3) e273 rfl <| Ac (op_geq rfl rfl (vt rfl) (vk rfl)) rfl <| As rfl <| Nl <| AW.ret ?_
  obtain rfl := si h
  exact ret1 Tryz.results338 rfl (out_tmp rfl)
def F_env_Up (e1 : Env) (port2 : Int) : Option Bool :=
  (F_slices_Contains_int e1.Down port2).bind fun x4 => some (!x4)
theorem c_env_Up (e1 : Env) (port2 : Int) (r : Bool) (h : F_env_Up e1 port2 = some r) : PCon Tryz.prog 326 [rd kEnv e1, rd (kint .i64) port2] (rd kbool r) := by
  refine PCon.of (Con.intro0 Tryz.func326 rfl Tryz.ntmps326 rfl fun w H => ?_)
  unfold F_env_Up at h
  refine SR <| Ct rfl (op_box 3 rfl rfl (vt rfl)) ?_
  rintro _ ⟨g3, rfl⟩
  refine Ab rfl <| Nl <| AW.seq ?_
  obtain ⟨x4, hx4, h⟩ := bsome h
  refine Rg <| FdA lEnv_1 fl39_1 rfl <| Ld ty37 3 rfl <| Md rfl <| Cl [6, 7] (c_slices_Contains_int _ _ _ hx4) e338 rfl <| Ac (op_not rfl rfl (vt rfl)) rfl <| As rfl <| Nl <| AW.ret ?_
  obtain rfl := si h
  exact ret1 Tryz.results326 rfl (out_tmp rfl)
end Go.Proofs.YtknpgojdkobgjaaGreat.W
set_option linter.unusedVariables false
set_option maxRecDepth 4000
set_option linter.unusedSimpArgs false
namespace Go.Proofs.YtknpgojdkobgjaaGreat.W
open Go Go.Wb
theorem e326 : Ent Tryz.prog 326 := Ent.mk Tryz.func326 rfl rfl
theorem e325 : Ent Tryz.prog 325 := Ent.mk Tryz.func325 rfl rfl
theorem e284 : Ent Tryz.prog 284 := Ent.mk Tryz.func284 rfl rfl
theorem e285 : Ent Tryz.prog 285 := Ent.mk Tryz.func285 rfl rfl
theorem e221 : Ent Tryz.prog 221 := Ent.mk Tryz.func221 rfl rfl
theorem e267 : Ent Tryz.prog 267 := Ent.mk Tryz.func267 rfl rfl
theorem e266 : Ent Tryz.prog 266 := Ent.mk Tryz.func266 rfl rfl
def F_env_world_up_1 (x1 : Bucket) (cp2 : env_world) : Option Bool :=
  (F_env_Up cp2.Env x1.Watch).bind fun x4 => some x4
theorem c_env_world_up_1 (x1 : Bucket) (cp2 : env_world) (r : Bool) (h : F_env_world_up_1 x1 cp2 = some r) : PCon Tryz.prog 325 [rd kBucket x1, rp kenv_world cp2] (rd kbool r) := by
  refine PCon.of (Con.intro0 Tryz.func325 rfl Tryz.ntmps325 rfl fun w H => ?_)
  unfold F_env_world_up_1 at h
  refine SR <| Ct rfl (op_box 3 rfl rfl (vt rfl)) ?_
  rintro _ ⟨g3, rfl⟩
  refine Ab rfl <| Nl <| AW.seq ?_
  obtain ⟨x4, hx4, h⟩ := bsome h
  refine Rg <| Fp lenv_world_0 fl328_0 rfl <| Lp1 ty39 rfl <| FdA lBucket_1 fl226_1 rfl <| Ld ty3 3 rfl <| Cl [5, 7] (c_env_Up _ _ _ hx4) e326 rfl <| As rfl <| Nl <| AW.ret ?_
  obtain rfl := si h
  exact ret1 Tryz.results325 rfl (out_tmp rfl)
def F_env_world_up (w1 : env_world) : Option Int :=
  (F_slices_IndexFunc_Bucket w1.Group.Buckets (fun x => F_env_world_up_1 x w1)).bind fun x3 => some x3
theorem c_env_world_up (w1 : env_world) (r : Int) (h : F_env_world_up w1 = some r) : PCon Tryz.prog 285 [rd kenv_world w1] (rd (kint .i64) r) := by
  refine PCon.of (Con.intro0 Tryz.func285 rfl Tryz.ntmps285 rfl fun w H => ?_)
  unfold F_env_world_up at h
  refine SR <| Ct rfl (op_box 2 rfl rfl (vt rfl)) ?_
  rintro _ ⟨g2, rfl⟩
  refine Ak rfl <| Nl <| AW.seq <| AW.freezeB 1 2 rfl rfl rfl ?_
  obtain ⟨x3, hx3, h⟩ := bsome h
  refine Rg <| Fp lenv_world_1 fl328_1 rfl <| Fp lGroup_2 fl164_2 rfl <| Lp1 ty162 rfl <| Ac (op_fn1 (cs := [.tmp 1]) (CAs := [rp kenv_world w1]) (fun x => F_env_world_up_1 x w1) rfl rfl e325 ⟨vt rfl, trivial⟩ (fun x y h => c_env_world_up_1 _ _ y h)) rfl <| Cl [5, 6] (c_slices_IndexFunc_Bucket _ _ _ hx3) e231 rfl <| As rfl <| Nl <| AW.ret ?_
  obtain rfl := si h
  exact ret1 Tryz.results285 rfl (out_tmp rfl)
def F_env_Takes_l1 : Nat → Nat → (List Int) → Option (List Int)
  | 0, i10, l8 => some l8
  | m11 + 1, i10, l8 => (appd l8 [(i10 : Int)]).bind fun l12 => (F_env_Takes_l1 m11) (i10 + 1) l12
def F_env_Takes (e1 : Env) (g2 : Group) : Option (List Int) :=
  (bif (decide (((((⟨e1, g2⟩ : env_world).Group).Buckets).length : Int) = 0)) then some [] else (bif (decide ((((⟨e1, g2⟩ : env_world).Group).Kind) = 0)) then F_env_Takes_l1 (((((⟨e1, g2⟩ : env_world).Group).Buckets).length : Int) : Int).toNat 0 [] else (bif (decide ((((⟨e1, g2⟩ : env_world).Group).Kind) = 1)) then (F_env_Which ((⟨e1, g2⟩ : env_world).Env) ((((⟨e1, g2⟩ : env_world).Group).Buckets).length : Int)).bind fun x14 => some [x14] else (bif (decide ((((⟨e1, g2⟩ : env_world).Group).Kind) = 2)) then some [0] else (bif (decide ((((⟨e1, g2⟩ : env_world).Group).Kind) = 3)) then (F_env_world_up (⟨e1, g2⟩ : env_world)).bind fun x15 => (bif (decide (x15 ≥ 0)) then some [x15] else some []) else some [])))))
theorem c_env_Takes (e1 : Env) (g2 : Group) (r : (List Int)) (h : F_env_Takes e1 g2 = some r) : PCon Tryz.prog 238 [rd kEnv e1, rd kGroup g2] (rd (ksl (kint .i64)) r) := by
  refine PCon.of (Con.intro0 Tryz.func238 rfl Tryz.ntmps238 rfl fun w H => ?_)
  unfold F_env_Takes at h
  refine SR <| Ct rfl (op_box 3 rfl rfl (vt rfl)) ?_
  rintro _ ⟨g3, rfl⟩
  refine Ct rfl (op_box 4 rfl rfl (vt rfl)) ?_
  rintro _ ⟨g4, rfl⟩
  refine Ac (op_assign (A := rd (ksl (kint .i64)) []) rfl rfl vnil) rfl <| Nl <| SR <| Ld ty39 3 rfl <| Ld ty164 4 rfl <| Ac (op_build (ps := [(0, .tmp 9), (1, .tmp 10)]) (x := (⟨e1, g2⟩ : env_world)) rfl rfl rfl (by kernel_rfl) zr328 ⟨_, _, lenv_world_0, _, by kernel_rfl, (vt rfl), _, _, lenv_world_1, _, by kernel_rfl, (vt rfl), rfl⟩) rfl <| Ct rfl (op_alloc 6 rfl rfl zr328) ?_
  rintro _ ⟨g5, rfl⟩
  refine Sto ty328 6 rfl <| Nl <| AW.seq <| SR <| FdA lenv_world_1 fl328_1 rfl <| FdA lGroup_2 fl164_2 rfl <| Ld ty162 6 rfl <| Ac (op_len' rfl rfl sl162 (vt rfl)) rfl <| Ac (op_eql rfl rfl (vt rfl) (vk rfl)) rfl <| Nl <| Cn rfl (fun hc => ?_) (fun hc => ?_)
  · have h := cond_t hc h
    refine SR <| Ac (op_assign (A := rd (ksl (kint .i64)) []) rfl rfl vnil) rfl <| Nl <| AW.ret ?_
    obtain rfl := si h
    exact ret1 Tryz.results238 rfl (out_tmp rfl)
  · have h := cond_f hc h
    refine AW.skip <| AW.seq <| SR <| FdA lenv_world_1 fl328_1 rfl <| FdA lGroup_1 fl164_1 rfl <| Ld ty3 6 rfl <| Nl <| AW.block <| SR <| Ac (op_eql rfl rfl (vt rfl) (vk rfl)) rfl <| As rfl <| Nl <| Cn rfl (fun hc => ?_) (fun hc => ?_)
    · have h := cond_t hc h
      refine AW.seq <| AW.newnil 1001 3 (kint .i64) <| Rg <| Ac (op_assign rfl rfl vc) rfl <| Nl <| AW.seq <| SR <| FdA lenv_world_1 fl328_1 rfl <| FdA lGroup_2 fl164_2 rfl <| Ld ty162 6 rfl <| Ac (op_len' rfl rfl sl162 (vt rfl)) rfl <| Mk rfl <| Nl <| AW.block <| AW.loopG (d := []) (ν := Nat × Nat × (List Int) × Value) (fun n => Cnt ((((⟨e1, g2⟩ : env_world).Group).Buckets).length : Int) n.2.1 n.1 ∧ F_env_Takes_l1 n.1 n.2.1 n.2.2.1 = some r) (fun n => n.1) (fun n => [(6, raw n.2.2.2), (25, rd (kint .i64) ((((⟨e1, g2⟩ : env_world).Group).Buckets).length : Int)), (26, rd (kint .i64) (n.2.1 : Int))]) (fun n => [(1001, Row n.2.2.2 3 (kint .i64) n.2.2.1)]) ((((((⟨e1, g2⟩ : env_world).Group).Buckets).length : Int) : Int).toNat, 0, [], (.slice none 0 0)) ⟨Cnt.start _, h⟩ ⟨rfl, ⟨rfl, rfl, rfl, trivial⟩, ⟨rfl, trivial⟩⟩ ?_
      rintro ⟨m11, i10, l8, v9⟩ ⟨hsf1, h⟩
      change Cnt ((((⟨e1, g2⟩ : env_world).Group).Buckets).length : Int) i10 m11 at hsf1
      change F_env_Takes_l1 m11 i10 l8 = some r at h
      change AW _ _ _ ⟨slots [(6, raw v9), (25, rd (kint .i64) ((((⟨e1, g2⟩ : env_world).Group).Buckets).length : Int)), (26, rd (kint .i64) (i10 : Int))], ress [(1001, Row v9 3 (kint .i64) l8)], _⟩
      cases m11 with
      | zero =>
        unfold F_env_Takes_l1 at h
        refine SR <| Ac (op_lss rfl rfl (vt rfl) (vt rfl)) rfl <| Nl <| AW.seq <| Cn rfl (fun hc => absurd (of_decide_eq_true hc) hsf1.zero) (fun hc => ?_)
        refine AW.exit <| SR <| Mw rfl <| Aw rfl <| Nl <| AW.freezes [4, 6, 34] 1001 rfl ⟨rfl, rfl, rfl, trivial⟩ rfl <| AW.ret ?_
        obtain rfl := si h
        exact ret1 Tryz.results238 rfl (out_tmp rfl)
      | succ m11 =>
        unfold F_env_Takes_l1 at h
        generalize hgo1 : F_env_Takes_l1 m11 = go1 at h
        refine SR <| Ac (op_lss rfl rfl (vt rfl) (vt rfl)) rfl <| Nl <| AW.seq <| Cn rfl (fun hc => ?_) (fun hc => absurd hsf1.succ (of_decide_eq_false hc))
        have hlti10 := of_decide_eq_true hc
        refine AW.skip <| AW.seq <| AW.block <| SR <| Md rfl <| As rfl <| Nl ?_
        obtain ⟨l12, hl12, h⟩ := bsome h
        refine Rg <| Mw rfl <| Md rfl <| Ac (op_buildSliceR (ps := [(0, .tmp 30)]) (l := [(i10 : Int)]) rfl rfl sl37 zr3 rfl rfl ⟨_, _, Lens.idx 1 (kint .i64) 0 (by decide), _, rfl, (vt rfl), rfl⟩ rfl) rfl <| Ct rfl (op_append' 1001 hl12 rfl rfl el37 (vt rfl) rfl (vt rfl)) ?_
        rintro _ ⟨v13, rfl⟩
        refine Aw rfl <| Nl <| Rg <| Ac (op_incr (t := 25) rfl rfl (vt rfl) (vk rfl) (vt rfl) hlti10) rfl <| Md rfl <| Nl ?_
        subst hgo1
        exact ⟨(m11, i10 + 1, l12, v13), Nat.lt_succ_self _, ⟨hsf1.next, h⟩, ⟨rfl, ⟨rfl, rfl, rfl, trivial⟩, ⟨rfl, trivial⟩⟩⟩
    · have h := cond_f hc h
      refine SR <| Ac (op_eql rfl rfl (vt rfl) (vk rfl)) rfl <| As rfl <| Nl <| Cn rfl (fun hc => ?_) (fun hc => ?_)
      · have h := cond_t hc h
        refine AW.seq ?_
        obtain ⟨x14, hx14, h⟩ := bsome h
        refine Rg <| FdA lenv_world_0 fl328_0 rfl <| Ld ty39 6 rfl <| FdA lenv_world_1 fl328_1 rfl <| FdA lGroup_2 fl164_2 rfl <| Ld ty162 6 rfl <| Ac (op_len' rfl rfl sl162 (vt rfl)) rfl <| Cl [38, 42] (c_env_Which _ _ _ hx14) e284 rfl <| Ac (op_buildSliceR (ps := [(0, .tmp 43)]) (l := [x14]) rfl rfl sl37 zr3 rfl rfl ⟨_, _, Lens.idx 1 (kint .i64) 0 (by decide), _, rfl, (vt rfl), rfl⟩ rfl) rfl <| As rfl <| Nl <| AW.ret ?_
        obtain rfl := si h
        exact ret1 Tryz.results238 rfl (out_tmp rfl)
      · have h := cond_f hc h
        refine SR <| Ac (op_eql rfl rfl (vt rfl) (vk rfl)) rfl <| As rfl <| Nl <| Cn rfl (fun hc => ?_) (fun hc => ?_)
        · have h := cond_t hc h
          refine SR <| Ac (op_buildSliceR (ps := [(0, .const (Value.int IntKind.i64 0))]) (l := [0]) rfl rfl sl37 zr3 rfl rfl ⟨_, _, Lens.idx 1 (kint .i64) 0 (by decide), _, rfl, (vk rfl), rfl⟩ rfl) rfl <| As rfl <| Nl <| AW.ret ?_
          obtain rfl := si h
          exact ret1 Tryz.results238 rfl (out_tmp rfl)
        · have h := cond_f hc h
          refine SR <| Ac (op_eql rfl rfl (vt rfl) (vk rfl)) rfl <| As rfl <| Nl <| Cn rfl (fun hc => ?_) (fun hc => ?_)
          · have h := cond_t hc h
            refine AW.seq ?_
            obtain ⟨x15, hx15, h⟩ := bsome h
            refine Rg <| Ld ty328 6 rfl <| Cl [50] (c_env_world_up _ _ hx15) e285 rfl <| As rfl <| Nl <| SR <| Md rfl <| Ac (op_geq rfl rfl (vt rfl) (vk rfl)) rfl <| Nl <| Cn rfl (fun hc => ?_) (fun hc => ?_)
            · have h := cond_t hc h
              refine SR <| Md rfl <| Ac (op_buildSliceR (ps := [(0, .tmp 54)]) (l := [x15]) rfl rfl sl37 zr3 rfl rfl ⟨_, _, Lens.idx 1 (kint .i64) 0 (by decide), _, rfl, (vt rfl), rfl⟩ rfl) rfl <| As rfl <| Nl <| AW.ret ?_
              obtain rfl := si h
              exact ret1 Tryz.results238 rfl (out_tmp rfl)
            · have h := cond_f hc h
              refine AW.skip <| SR <| Ac (op_assign (A := rd (ksl (kint .i64)) []) rfl rfl vnil) rfl <| Nl <| AW.ret ?_
              obtain rfl := si h
              exact ret1 Tryz.results238 rfl (out_tmp rfl)
          · have h := cond_f hc h
            refine AW.skip <| SR <| Ac (op_assign (A := rd (ksl (kint .i64)) []) rfl rfl vnil) rfl <| Nl <| AW.ret ?_
            obtain rfl := si h
            exact ret1 Tryz.results238 rfl (out_tmp rfl)
def F_aset_at (a1 : Action) : Option aset_spot :=
  (bif (decide (a1.Kind = 25)) then some (⟨a1.Kind, a1.Oxm.Field⟩ : aset_spot) else some (⟨a1.Kind, 0⟩ : aset_spot))
theorem c_aset_at (a1 : Action) (r : aset_spot) (h : F_aset_at a1 = some r) : PCon Tryz.prog 221 [rd kAction a1] (rd kaset_spot r) := by
  refine PCon.of (Con.intro0 Tryz.func221 rfl Tryz.ntmps221 rfl fun w H => ?_)
  unfold F_aset_at at h
  refine SR <| Ct rfl (op_box 2 rfl rfl (vt rfl)) ?_
  rintro _ ⟨g2, rfl⟩
  refine Ct rfl (op_alloc 3 rfl rfl zr275) ?_
  rintro _ ⟨g3, rfl⟩
  refine Nl <| AW.seq <| SR <| FdA lAction_0 fl121_0 rfl <| Ld ty3 2 rfl <| Ac (op_eql rfl rfl (vt rfl) (vk rfl)) rfl <| Nl <| Cn rfl (fun hc => ?_) (fun hc => ?_)
  · have h := cond_t hc h
    refine SR <| FdA lAction_0 fl121_0 rfl <| Ld ty3 2 rfl <| FdA lAction_5 fl121_5 rfl <| FdA lOxm_0 fl119_0 rfl <| Ld ty3 2 rfl <| Ac (op_build (ps := [(0, .tmp 7), (1, .tmp 10)]) (x := (⟨a1.Kind, a1.Oxm.Field⟩ : aset_spot)) rfl rfl rfl (by kernel_rfl) zr275 ⟨_, _, laset_spot_0, _, by kernel_rfl, (vt rfl), _, _, laset_spot_1, _, by kernel_rfl, (vt rfl), rfl⟩) rfl <| Sto ty275 3 rfl <| Nl <| AW.ret ?_
    obtain rfl := si h
    exact ret1 Tryz.results221 rfl (out_cell rfl (i := 3) rfl ty275)
  · have h := cond_f hc h
    refine AW.skip <| SR <| FdA lAction_0 fl121_0 rfl <| Ld ty3 2 rfl <| Ac (op_build (ps := [(0, .tmp 13)]) (x := (⟨a1.Kind, 0⟩ : aset_spot)) rfl rfl rfl (by kernel_rfl) zr275 ⟨_, _, laset_spot_0, _, by kernel_rfl, (vt rfl), rfl⟩) rfl <| Sto ty275 3 rfl <| Nl <| AW.ret ?_
    obtain rfl := si h
    exact ret1 Tryz.results221 rfl (out_cell rfl (i := 3) rfl ty275)
def F_aset_Write_1 (b1 : Action) (cp2 : Action) : Option Bool :=
  (F_aset_at cp2).bind fun x4 => (F_aset_at b1).bind fun x5 => some (decide (x4 = x5))
theorem c_aset_Write_1 (b1 : Action) (cp2 : Action) (r : Bool) (h : F_aset_Write_1 b1 cp2 = some r) : PCon Tryz.prog 267 [rd kAction b1, rp kAction cp2] (rd kbool r) := by
  refine PCon.of (Con.intro0 Tryz.func267 rfl Tryz.ntmps267 rfl fun w H => ?_)
  unfold F_aset_Write_1 at h
  refine SR <| Ct rfl (op_box 3 rfl rfl (vt rfl)) ?_
  rintro _ ⟨g3, rfl⟩
  refine Ab rfl <| Nl <| AW.seq ?_
  obtain ⟨x4, hx4, h⟩ := bsome h
  obtain ⟨x5, hx5, h⟩ := bsome h
  refine AW.regionAny [⟨[1], [4], [], []⟩, ⟨[4], [5], [], []⟩, ⟨[2], [6], [3], []⟩, ⟨[6], [7], [], []⟩, ⟨[5, 7], [8], [], []⟩, ⟨[8], [3], [], []⟩] mixed (by kernel_rfl) <| SLp ty121 rfl <| SCl [4] (c_aset_at _ _ hx4) e221 rfl <| SLd ty121 3 rfl <| SCl [6] (c_aset_at _ _ hx5) e221 rfl <| Sc (lo [5, 7] [] rfl fun S hs hr => op_eqlk rfl rfl eqk275 (by decide) rfl eg275 (vh hs 5 rfl rfl) (vh hs 7 rfl rfl)) rfl <| SAs rfl <| AW.ret ?_
  obtain rfl := si h
  exact ret1 Tryz.results267 rfl (out_tmp rfl)
def F_slices_IndexFunc_Action_l1 (s1 : (List Action)) (f2 : (Action → Option Bool)) : Nat → Nat → Option Int
  | 0, i3 => some (-1)
  | m4 + 1, i3 => (lget s1 (i3 : Int)).bind fun e5 => (f2 e5).bind fun x6 => (bif x6 then some (i3 : Int) else (F_slices_IndexFunc_Action_l1 s1 f2 m4) (i3 + 1))
def F_slices_IndexFunc_Action (s1 : (List Action)) (f2 : (Action → Option Bool)) : Option Int :=
  F_slices_IndexFunc_Action_l1 s1 f2 ((s1.length : Int) : Int).toNat 0
theorem c_slices_IndexFunc_Action (s1 : (List Action)) (f2 : (Action → Option Bool)) (r : Int) (h : F_slices_IndexFunc_Action s1 f2 = some r) : PCon Tryz.prog 266 [rd (ksl kAction) s1, fn1 Tryz.prog kAction kbool f2] (rd (kint .i64) r) := by
  refine PCon.of (Con.intro0 Tryz.func266 rfl Tryz.ntmps266 rfl fun w H => ?_)
  unfold F_slices_IndexFunc_Action at h
  refine SR <| Ak rfl <| Nl <| AW.seq <| SR <| Md rfl <| Ac (op_len' rfl rfl sl122 (vt rfl)) rfl <| Mk rfl <| Nl <| AW.block <| AW.loopG (d := []) (ν := Nat × Nat) (fun n => Cnt (s1.length : Int) n.2 n.1 ∧ F_slices_IndexFunc_Action_l1 s1 f2 n.1 n.2 = some r) (fun n => n.1) (fun n => [(0, rd (ksl kAction) s1), (1, fn1 Tryz.prog kAction kbool f2), (7, rd (kint .i64) (s1.length : Int)), (8, rd (kint .i64) (n.2 : Int))]) (fun n => []) (((s1.length : Int) : Int).toNat, 0) ⟨Cnt.start _, h⟩ ⟨rfl, ⟨rfl, rfl, rfl, rfl, trivial⟩, trivial⟩ ?_
  rintro ⟨m4, i3⟩ ⟨hsf1, h⟩
  change Cnt (s1.length : Int) i3 m4 at hsf1
  change F_slices_IndexFunc_Action_l1 s1 f2 m4 i3 = some r at h
  change AW _ _ _ ⟨slots [(0, rd (ksl kAction) s1), (1, fn1 Tryz.prog kAction kbool f2), (7, rd (kint .i64) (s1.length : Int)), (8, rd (kint .i64) (i3 : Int))], ress [], _⟩
  cases m4 with
  | zero =>
    unfold F_slices_IndexFunc_Action_l1 at h
    refine SR <| Ac (op_lss rfl rfl (vt rfl) (vt rfl)) rfl <| Nl <| AW.seq <| Cn rfl (fun hc => absurd (of_decide_eq_true hc) hsf1.zero) (fun hc => ?_)
    refine AW.exit <| SR <| Ak rfl <| Nl <| AW.ret ?_
    obtain rfl := si h
    exact ret1 Tryz.results266 rfl (out_tmp rfl)
  | succ m4 =>
    unfold F_slices_IndexFunc_Action_l1 at h
    generalize hgo1 : F_slices_IndexFunc_Action_l1 s1 f2 m4 = go1 at h
    refine SR <| Ac (op_lss rfl rfl (vt rfl) (vt rfl)) rfl <| Nl <| AW.seq <| Cn rfl (fun hc => ?_) (fun hc => absurd hsf1.succ (of_decide_eq_false hc))
    have hlti3 := of_decide_eq_true hc
    refine AW.skip <| AW.seq <| AW.block <| SR <| Md rfl <| As rfl <| Nl <| AW.seq ?_
    obtain ⟨e5, he5, h⟩ := bsome h
    obtain ⟨x6, hx6, h⟩ := bsome h
    refine Rg <| Ac (op_move (A := fn1 Tryz.prog kAction kbool f2) rfl rfl (vt rfl)) rfl <| Md rfl <| Md rfl <| Ac (op_indexs' rfl rfl sl122 (vt rfl) (vt rfl) he5) rfl <| Lp1 ty121 rfl <| Ac (op_call1 hx6 rfl rfl (vt rfl) (vt rfl)) rfl <| Nl <| Cn rfl (fun hc => ?_) (fun hc => ?_)
    · have h := cond_t hc h
      refine SR <| Md rfl <| As rfl <| Nl <| AW.ret ?_
      obtain rfl := si h
      exact ret1 Tryz.results266 rfl (out_tmp rfl)
    · have h := cond_f hc h
      refine AW.skip <| Rg <| Ac (op_incr (t := 7) rfl rfl (vt rfl) (vk rfl) (vt rfl) hlti3) rfl <| Md rfl <| Nl ?_
      subst hgo1
      exact ⟨(m4, i3 + 1), Nat.lt_succ_self _, ⟨hsf1.next, h⟩, ⟨rfl, ⟨rfl, rfl, rfl, rfl, trivial⟩, trivial⟩⟩
def F_aset_Write_l1 : (List Action) → Nat → (List Action) → Option (List Action)
  | [], i9, l7 => some l7
  | x11 :: l10, i9, l7 => (F_slices_IndexFunc_Action l7 (fun x => F_aset_Write_1 x x11)).bind fun x13 => (bif (decide (x13 < 0)) then (appd l7 [x11]).bind fun l14 => (F_aset_Write_l1 l10) (i9 + 1) l14 else (lget l7 x13).bind fun e16 => (F_aset_Write_l1 l10) (i9 + 1) (List.set l7 x13.toNat x11))
def F_aset_Write (set1 : (List Action)) (l2 : (List Action)) : Option (List Action) :=
  (F_slices_Clone_Action set1).bind fun x3 => F_aset_Write_l1 l2 0 x3
theorem c_aset_Write (set1 : (List Action)) (l2 : (List Action)) (r : (List Action)) (h : F_aset_Write set1 l2 = some r) : PCon Tryz.prog 206 [rd (ksl kAction) set1, rd (ksl kAction) l2] (rd (ksl kAction) r) := by
  refine PCon.of (Con.intro0 Tryz.func206 rfl Tryz.ntmps206 rfl fun w H => ?_)
  unfold F_aset_Write at h
  refine SR <| Ac (op_assign (A := rd (ksl kAction) []) rfl rfl vnil) rfl <| Nl <| AW.seq ?_
  obtain ⟨x3, hx3, h⟩ := bsome h
  refine Rg <| Md rfl <| Ct rfl (op_callR 1001 (xs := [.tmp 9]) (c_slices_Clone_Action_o _ _ hx3) e216 rfl rfl ⟨vt rfl, trivial⟩ rfl) ?_
  rintro _ ⟨v4, rfl⟩
  refine Aw rfl <| Nl <| AW.seq <| SR <| Md rfl <| Ac (op_len' rfl rfl sl122 (vt rfl)) rfl <| Mk rfl <| Nl <| AW.block <| AW.loopG (d := []) (ν := (List Action) × Nat × (List Action) × Value) (fun n => Sfx l2 n.2.1 n.1 ∧ F_aset_Write_l1 n.1 n.2.1 n.2.2.1 = some r) (fun n => n.1.length) (fun n => [(5, raw n.2.2.2), (11, rd (ksl kAction) l2), (12, rd (kint .i64) (l2.length : Int)), (13, rd (kint .i64) (n.2.1 : Int))]) (fun n => [(1001, Row n.2.2.2 121 kAction n.2.2.1)]) (l2, 0, x3, v4) ⟨Sfx.start _, h⟩ ⟨rfl, ⟨rfl, rfl, rfl, rfl, trivial⟩, ⟨rfl, trivial⟩⟩ ?_
  rintro ⟨l10, i9, l7, v8⟩ ⟨hsf1, h⟩
  change Sfx l2 i9 l10 at hsf1
  change F_aset_Write_l1 l10 i9 l7 = some r at h
  change AW _ _ _ ⟨slots [(5, raw v8), (11, rd (ksl kAction) l2), (12, rd (kint .i64) (l2.length : Int)), (13, rd (kint .i64) (i9 : Int))], ress [(1001, Row v8 121 kAction l7)], _⟩
  cases l10 with
  | nil =>
    unfold F_aset_Write_l1 at h
    refine SR <| Ac (op_lss rfl rfl (vt rfl) (vt rfl)) rfl <| Nl <| AW.seq <| Cn rfl (fun hc => absurd (of_decide_eq_true hc) hsf1.nil) (fun hc => ?_)
    refine AW.exit <| SR <| Mw rfl <| Aw rfl <| Nl <| AW.freezes [4, 5, 31] 1001 rfl ⟨rfl, rfl, rfl, trivial⟩ rfl <| AW.ret ?_
    obtain rfl := si h
    exact ret1 Tryz.results206 rfl (out_tmp rfl)
  | cons x11 l10 =>
    unfold F_aset_Write_l1 at h
    generalize hgo1 : F_aset_Write_l1 l10 = go1 at h
    refine SR <| Ac (op_lss rfl rfl (vt rfl) (vt rfl)) rfl <| Nl <| AW.seq <| Cn rfl (fun hc => ?_) (fun hc => absurd hsf1.cons (of_decide_eq_false hc))
    have hlti9 := of_decide_eq_true hc
    refine AW.skip <| AW.seq <| AW.block <| SR <| Ac (op_indexs' rfl rfl sl122 (vt rfl) (vt rfl) hsf1.lget) rfl <| Lp1 ty121 rfl <| Ct rfl (op_alloc 8 rfl rfl zr121) ?_
    rintro _ ⟨g12, rfl⟩
    refine Sto ty121 8 rfl <| Nl <| AW.seq <| AW.freezeB 7 8 rfl rfl rfl ?_
    obtain ⟨x13, hx13, h⟩ := bsome h
    refine Rg <| Mw rfl <| Ac (op_fn1 (cs := [.tmp 7]) (CAs := [rp kAction x11]) (fun x => F_aset_Write_1 x x11) rfl rfl e267 ⟨vt rfl, trivial⟩ (fun x y h => c_aset_Write_1 _ _ y h)) rfl <| Ac (op_callB (xs := [.tmp 17, .tmp 18]) 1001 (c_slices_IndexFunc_Action _ _ _ hx13) e266 rfl rfl ⟨vL rfl rfl, vB (vt rfl), trivial⟩) rfl <| As rfl <| Nl <| SR <| Md rfl <| Ac (op_lss rfl rfl (vt rfl) (vk rfl)) rfl <| Nl <| Cn rfl (fun hc => ?_) (fun hc => ?_)
    · have h := cond_t hc h
      obtain ⟨l14, hl14, h⟩ := bsome h
      refine Rg <| Mw rfl <| Lp1 ty121 rfl <| Ac (op_buildSliceR (ps := [(0, .tmp 23)]) (l := [x11]) rfl rfl sl122 zr121 rfl rfl ⟨_, _, Lens.idx 1 kAction 0 (by decide), _, rfl, (vt rfl), rfl⟩ rfl) rfl <| Ct rfl (op_append' 1001 hl14 rfl rfl el122 (vt rfl) rfl (vt rfl)) ?_
      rintro _ ⟨v15, rfl⟩
      refine Aw rfl <| Nl <| Rg <| Ac (op_incr (t := 12) rfl rfl (vt rfl) (vk rfl) (vt rfl) hlti9) rfl <| Md rfl <| Nl ?_
      subst hgo1
      exact ⟨(l10, i9 + 1, l14, v15), Nat.lt_succ_self _, ⟨hsf1.next, h⟩, ⟨rfl, ⟨rfl, rfl, rfl, rfl, trivial⟩, ⟨rfl, trivial⟩⟩⟩
    · have h := cond_f hc h
      obtain ⟨e16, he16, h⟩ := bsome h
      refine Rg <| Mw rfl <| Md rfl <| Lp1 ty121 rfl <| Ac (op_indexo' 1001 rfl rfl sl122 (vt rfl) rfl (vt rfl) he16) rfl <| Ac (op_storeo' 1001 rfl rfl ty121 (vt rfl) rfl (lget_of he16).2 (vt rfl)) rfl <| Nl <| Rg <| Ac (op_incr (t := 12) rfl rfl (vt rfl) (vk rfl) (vt rfl) hlti9) rfl <| Md rfl <| Nl ?_
      subst hgo1
      exact ⟨(l10, i9 + 1, (List.set l7 x13.toNat x11), v8), Nat.lt_succ_self _, ⟨hsf1.next, h⟩, ⟨rfl, ⟨rfl, rfl, rfl, rfl, trivial⟩, ⟨rfl, trivial⟩⟩⟩
def F_slices_ContainsFunc_Action (s1 : (List Action)) (f2 : (Action → Option Bool)) : Option Bool :=
  (F_slices_IndexFunc_Action s1 f2).bind fun x3 => some (decide (x3 ≥ 0))
theorem c_slices_ContainsFunc_Action (s1 : (List Action)) (f2 : (Action → Option Bool)) (r : Bool) (h : F_slices_ContainsFunc_Action s1 f2 = some r) : PCon Tryz.prog 213 [rd (ksl kAction) s1, fn1 Tryz.prog kAction kbool f2] (rd kbool r) := by
  refine PCon.of (Con.intro0 Tryz.func213 rfl Tryz.ntmps213 rfl fun w H => ?_)
  unfold F_slices_ContainsFunc_Action at h
  refine SR <| Ab rfl <| Nl <| AW.seq ?_
  obtain ⟨x3, hx3, h⟩ := bsome h
  refine Rg <| Md rfl <| Ac (op_move (A := fn1 Tryz.prog kAction kbool f2) rfl rfl (vt rfl)) rfl <| Cl [5, 6] (c_slices_IndexFunc_Action _ _ _ hx3) e266 rfl <| Ac (op_geq rfl rfl (vt rfl) (vk rfl)) rfl <| As rfl <| Nl <| AW.ret ?_
  obtain rfl := si h
  exact ret1 Tryz.results213 rfl (out_tmp rfl)
def F_aset_List_1 (a1 : Action) : Option Bool :=
  some (decide (a1.Kind = 22))
theorem c_aset_List_1 (a1 : Action) (r : Bool) (h : F_aset_List_1 a1 = some r) : PCon Tryz.prog 214 [rd kAction a1] (rd kbool r) := by
  refine PCon.of (Con.intro0 Tryz.func214 rfl Tryz.ntmps214 rfl fun w H => ?_)
  unfold F_aset_List_1 at h
  refine SR <| Ct rfl (op_box 2 rfl rfl (vt rfl)) ?_
  rintro _ ⟨g2, rfl⟩
  refine Ab rfl <| Nl <| SR <| FdA lAction_0 fl121_0 rfl <| Ld ty3 2 rfl <| Ac (op_eql rfl rfl (vt rfl) (vk rfl)) rfl <| As rfl <| Nl <| AW.ret ?_
  obtain rfl := si h
  exact ret1 Tryz.results214 rfl (out_tmp rfl)
end Go.Proofs.YtknpgojdkobgjaaGreat.W
