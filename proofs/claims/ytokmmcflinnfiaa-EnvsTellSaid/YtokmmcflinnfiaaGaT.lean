/- GaT: a part of the proof. -/
import Derived.Test.YtokmmcflinnfiaaProg
import Derived.KernelRfl
import Derived.Test.YtokmmcflinnfiaaWbV
set_option linter.unusedVariables false
set_option linter.unusedSimpArgs false
namespace Go.Proofs.Ytokmmcflinnfiaa.W
open Go Go.Wb
structure Wide where
  Hi : (BitVec 64)
  Lo : (BitVec 64)
  deriving DecidableEq, Inhabited
def kWide : Kd Wide := kiso (kpair ku64 ku64) (fun x => (x.Hi, x.Lo))
def lWide_0 : Lens kWide ku64 := Lens.iso (k := (kpair ku64 ku64)) (Lens.fst _ _) Wide.Hi (fun x y => { x with Hi := y }) (fun _ => rfl) (fun _ _ => rfl)
def lWide_1 : Lens kWide ku64 := Lens.iso (k := (kpair ku64 ku64)) (Lens.snd _ _) Wide.Lo (fun x y => { x with Lo := y }) (fun _ => rfl) (fun _ _ => rfl)
def zWide : Wide := ⟨0, 0⟩
theorem kzWide : KZ kWide zWide [(Value.int IntKind.u64 0), (Value.int IntKind.u64 0)] := kz_iso (kz_pair kz_u64 kz_u64)
structure Oxm where
  Field : Int
  Masked : Bool
  Value : Wide
  Mask : Wide
  deriving DecidableEq, Inhabited
def kOxm : Kd Oxm := kiso (kpair (kint .i64) (kpair kbool (kpair kWide kWide))) (fun x => (x.Field, (x.Masked, (x.Value, x.Mask))))
def lOxm_0 : Lens kOxm (kint .i64) := Lens.iso (k := (kpair (kint .i64) (kpair kbool (kpair kWide kWide)))) (Lens.fst _ _) Oxm.Field (fun x y => { x with Field := y }) (fun _ => rfl) (fun _ _ => rfl)
def lOxm_1 : Lens kOxm kbool := Lens.iso (k := (kpair (kint .i64) (kpair kbool (kpair kWide kWide)))) (Lens.comp (Lens.snd _ _) (Lens.fst _ _)) Oxm.Masked (fun x y => { x with Masked := y }) (fun _ => rfl) (fun _ _ => rfl)
def lOxm_2 : Lens kOxm kWide := Lens.iso (k := (kpair (kint .i64) (kpair kbool (kpair kWide kWide)))) (Lens.comp (Lens.comp (Lens.snd _ _) (Lens.snd _ _)) (Lens.fst _ _)) Oxm.Value (fun x y => { x with Value := y }) (fun _ => rfl) (fun _ _ => rfl)
def lOxm_3 : Lens kOxm kWide := Lens.iso (k := (kpair (kint .i64) (kpair kbool (kpair kWide kWide)))) (Lens.comp (Lens.comp (Lens.snd _ _) (Lens.snd _ _)) (Lens.snd _ _)) Oxm.Mask (fun x y => { x with Mask := y }) (fun _ => rfl) (fun _ _ => rfl)
def zOxm : Oxm := ⟨0, false, zWide, zWide⟩
theorem kzOxm : KZ kOxm zOxm [(Value.int IntKind.i64 0), (Value.bool false), (Value.int IntKind.u64 0), (Value.int IntKind.u64 0), (Value.int IntKind.u64 0), (Value.int IntKind.u64 0)] := kz_iso (kz_pair kz_i64 (kz_pair kz_bool (kz_pair kzWide kzWide)))
structure Action where
  Kind : Int
  Port : Int
  Max : Int
  Group : Int
  Ether : Int
  Oxm : Oxm
  deriving DecidableEq, Inhabited
def kAction : Kd Action := kiso (kpair (kint .i64) (kpair (kint .i64) (kpair (kint .i64) (kpair (kint .i64) (kpair (kint .i64) kOxm))))) (fun x => (x.Kind, (x.Port, (x.Max, (x.Group, (x.Ether, x.Oxm))))))
def lAction_0 : Lens kAction (kint .i64) := Lens.iso (k := (kpair (kint .i64) (kpair (kint .i64) (kpair (kint .i64) (kpair (kint .i64) (kpair (kint .i64) kOxm)))))) (Lens.fst _ _) Action.Kind (fun x y => { x with Kind := y }) (fun _ => rfl) (fun _ _ => rfl)
def lAction_1 : Lens kAction (kint .i64) := Lens.iso (k := (kpair (kint .i64) (kpair (kint .i64) (kpair (kint .i64) (kpair (kint .i64) (kpair (kint .i64) kOxm)))))) (Lens.comp (Lens.snd _ _) (Lens.fst _ _)) Action.Port (fun x y => { x with Port := y }) (fun _ => rfl) (fun _ _ => rfl)
def lAction_2 : Lens kAction (kint .i64) := Lens.iso (k := (kpair (kint .i64) (kpair (kint .i64) (kpair (kint .i64) (kpair (kint .i64) (kpair (kint .i64) kOxm)))))) (Lens.comp (Lens.comp (Lens.snd _ _) (Lens.snd _ _)) (Lens.fst _ _)) Action.Max (fun x y => { x with Max := y }) (fun _ => rfl) (fun _ _ => rfl)
def lAction_3 : Lens kAction (kint .i64) := Lens.iso (k := (kpair (kint .i64) (kpair (kint .i64) (kpair (kint .i64) (kpair (kint .i64) (kpair (kint .i64) kOxm)))))) (Lens.comp (Lens.comp (Lens.comp (Lens.snd _ _) (Lens.snd _ _)) (Lens.snd _ _)) (Lens.fst _ _)) Action.Group (fun x y => { x with Group := y }) (fun _ => rfl) (fun _ _ => rfl)
def lAction_4 : Lens kAction (kint .i64) := Lens.iso (k := (kpair (kint .i64) (kpair (kint .i64) (kpair (kint .i64) (kpair (kint .i64) (kpair (kint .i64) kOxm)))))) (Lens.comp (Lens.comp (Lens.comp (Lens.comp (Lens.snd _ _) (Lens.snd _ _)) (Lens.snd _ _)) (Lens.snd _ _)) (Lens.fst _ _)) Action.Ether (fun x y => { x with Ether := y }) (fun _ => rfl) (fun _ _ => rfl)
def lAction_5 : Lens kAction kOxm := Lens.iso (k := (kpair (kint .i64) (kpair (kint .i64) (kpair (kint .i64) (kpair (kint .i64) (kpair (kint .i64) kOxm)))))) (Lens.comp (Lens.comp (Lens.comp (Lens.comp (Lens.snd _ _) (Lens.snd _ _)) (Lens.snd _ _)) (Lens.snd _ _)) (Lens.snd _ _)) Action.Oxm (fun x y => { x with Oxm := y }) (fun _ => rfl) (fun _ _ => rfl)
def zAction : Action := ⟨0, 0, 0, 0, 0, zOxm⟩
theorem kzAction : KZ kAction zAction [(Value.int IntKind.i64 0), (Value.int IntKind.i64 0), (Value.int IntKind.i64 0), (Value.int IntKind.i64 0), (Value.int IntKind.i64 0), (Value.int IntKind.i64 0), (Value.bool false), (Value.int IntKind.u64 0), (Value.int IntKind.u64 0), (Value.int IntKind.u64 0), (Value.int IntKind.u64 0)] := kz_iso (kz_pair kz_i64 (kz_pair kz_i64 (kz_pair kz_i64 (kz_pair kz_i64 (kz_pair kz_i64 kzOxm)))))
structure Bucket where
  Weight : Int
  Watch : Int
  WatchGroup : Int
  Acts : (List Action)
  deriving DecidableEq, Inhabited
def kBucket : Kd Bucket := kiso (kpair (kint .i64) (kpair (kint .i64) (kpair (kint .i64) (ksl kAction)))) (fun x => (x.Weight, (x.Watch, (x.WatchGroup, x.Acts))))
def lBucket_0 : Lens kBucket (kint .i64) := Lens.iso (k := (kpair (kint .i64) (kpair (kint .i64) (kpair (kint .i64) (ksl kAction))))) (Lens.fst _ _) Bucket.Weight (fun x y => { x with Weight := y }) (fun _ => rfl) (fun _ _ => rfl)
def lBucket_1 : Lens kBucket (kint .i64) := Lens.iso (k := (kpair (kint .i64) (kpair (kint .i64) (kpair (kint .i64) (ksl kAction))))) (Lens.comp (Lens.snd _ _) (Lens.fst _ _)) Bucket.Watch (fun x y => { x with Watch := y }) (fun _ => rfl) (fun _ _ => rfl)
def lBucket_2 : Lens kBucket (kint .i64) := Lens.iso (k := (kpair (kint .i64) (kpair (kint .i64) (kpair (kint .i64) (ksl kAction))))) (Lens.comp (Lens.comp (Lens.snd _ _) (Lens.snd _ _)) (Lens.fst _ _)) Bucket.WatchGroup (fun x y => { x with WatchGroup := y }) (fun _ => rfl) (fun _ _ => rfl)
def lBucket_3 : Lens kBucket (ksl kAction) := Lens.iso (k := (kpair (kint .i64) (kpair (kint .i64) (kpair (kint .i64) (ksl kAction))))) (Lens.comp (Lens.comp (Lens.snd _ _) (Lens.snd _ _)) (Lens.snd _ _)) Bucket.Acts (fun x y => { x with Acts := y }) (fun _ => rfl) (fun _ _ => rfl)
def zBucket : Bucket := ⟨0, 0, 0, []⟩
theorem kzBucket : KZ kBucket zBucket [(Value.int IntKind.i64 0), (Value.int IntKind.i64 0), (Value.int IntKind.i64 0), (Value.slice none 0 0)] := kz_iso (kz_pair kz_i64 (kz_pair kz_i64 (kz_pair kz_i64 (kz_sl _))))
structure Group where
  ID : Int
  Kind : Int
  Buckets : (List Bucket)
  deriving DecidableEq, Inhabited
def kGroup : Kd Group := kiso (kpair (kint .i64) (kpair (kint .i64) (ksl kBucket))) (fun x => (x.ID, (x.Kind, x.Buckets)))
def lGroup_0 : Lens kGroup (kint .i64) := Lens.iso (k := (kpair (kint .i64) (kpair (kint .i64) (ksl kBucket)))) (Lens.fst _ _) Group.ID (fun x y => { x with ID := y }) (fun _ => rfl) (fun _ _ => rfl)
def lGroup_1 : Lens kGroup (kint .i64) := Lens.iso (k := (kpair (kint .i64) (kpair (kint .i64) (ksl kBucket)))) (Lens.comp (Lens.snd _ _) (Lens.fst _ _)) Group.Kind (fun x y => { x with Kind := y }) (fun _ => rfl) (fun _ _ => rfl)
def lGroup_2 : Lens kGroup (ksl kBucket) := Lens.iso (k := (kpair (kint .i64) (kpair (kint .i64) (ksl kBucket)))) (Lens.comp (Lens.snd _ _) (Lens.snd _ _)) Group.Buckets (fun x y => { x with Buckets := y }) (fun _ => rfl) (fun _ _ => rfl)
def zGroup : Group := ⟨0, 0, []⟩
theorem kzGroup : KZ kGroup zGroup [(Value.int IntKind.i64 0), (Value.int IntKind.i64 0), (Value.slice none 0 0)] := kz_iso (kz_pair kz_i64 (kz_pair kz_i64 (kz_sl _)))
structure Env where
  Turn : Int
  Down : (List Int)
  deriving DecidableEq, Inhabited
def kEnv : Kd Env := kiso (kpair (kint .i64) (ksl (kint .i64))) (fun x => (x.Turn, x.Down))
def lEnv_0 : Lens kEnv (kint .i64) := Lens.iso (k := (kpair (kint .i64) (ksl (kint .i64)))) (Lens.fst _ _) Env.Turn (fun x y => { x with Turn := y }) (fun _ => rfl) (fun _ _ => rfl)
def lEnv_1 : Lens kEnv (ksl (kint .i64)) := Lens.iso (k := (kpair (kint .i64) (ksl (kint .i64)))) (Lens.snd _ _) Env.Down (fun x y => { x with Down := y }) (fun _ => rfl) (fun _ _ => rfl)
def zEnv : Env := ⟨0, []⟩
theorem kzEnv : KZ kEnv zEnv [(Value.int IntKind.i64 0), (Value.slice none 0 0)] := kz_iso (kz_pair kz_i64 (kz_sl _))
structure Env_o1 where
  Turn : Int
  Down : Value
def kEnv_o1 : Kd Env_o1 := kiso (kpair (kint .i64) kraw) (fun x => (x.Turn, x.Down))
def lEnv_o1_0 : Lens kEnv_o1 (kint .i64) := Lens.iso (k := (kpair (kint .i64) kraw)) (Lens.fst _ _) Env_o1.Turn (fun x y => { x with Turn := y }) (fun _ => rfl) (fun _ _ => rfl)
def lEnv_o1_1 : Lens kEnv_o1 kraw := Lens.iso (k := (kpair (kint .i64) kraw)) (Lens.snd _ _) Env_o1.Down (fun x y => { x with Down := y }) (fun _ => rfl) (fun _ _ => rfl)
def zEnv_o1 : Env_o1 := ⟨0, (.slice none 0 0)⟩
theorem kzEnv_o1 : KZ kEnv_o1 zEnv_o1 [(Value.int IntKind.i64 0), (Value.slice none 0 0)] := kz_iso (kz_pair kz_i64 (kz_raw rfl))
theorem cvEnv_o1 (x : Env_o1) (l : (List Int)) : ∀ w H cs, kEnv_o1.C w H x cs → SlC (kint .i64) w H l x.Down → kEnv.C w H ⟨x.Turn, l⟩ cs := by
  rintro w H cs ⟨c0, r0, rfl, h0, h1⟩ hs
  exact ⟨c0, r0, rfl, h0, ⟨_, h1.1, hs⟩⟩
theorem sl38 : Sl Try.prog 38 104 kBucket := ⟨by kernel_rfl, by kernel_rfl⟩
theorem ty104 : Ty Try.prog 104 kBucket := ⟨by kernel_rfl, by kernel_rfl⟩
theorem sl73 : Sl Try.prog 73 82 kAction := ⟨by kernel_rfl, by kernel_rfl⟩
theorem fl104_3 : Fl Try.prog 104 3 lBucket_3 := ⟨by kernel_rfl, rfl⟩
theorem ty73 : Ty Try.prog 73 (ksl kAction) := ⟨by kernel_rfl, by kernel_rfl⟩
theorem fl40_2 : Fl Try.prog 40 2 lGroup_2 := ⟨by kernel_rfl, rfl⟩
theorem ty38 : Ty Try.prog 38 (ksl kBucket) := ⟨by kernel_rfl, by kernel_rfl⟩
theorem ty3 : Ty Try.prog 3 (kint .i64) := ⟨by kernel_rfl, by kernel_rfl⟩
theorem sl22 : Sl Try.prog 22 40 kGroup := ⟨by kernel_rfl, by kernel_rfl⟩
theorem ty40 : Ty Try.prog 40 kGroup := ⟨by kernel_rfl, by kernel_rfl⟩
theorem el22 : El Try.prog 22 40 kGroup := ⟨by kernel_rfl, by kernel_rfl, by kernel_rfl, by kernel_rfl, by kernel_rfl⟩
theorem zr40 : Zr Try.prog 40 kGroup zGroup := ⟨_, kzGroup, by kernel_rfl⟩
theorem fl40_1 : Fl Try.prog 40 1 lGroup_1 := ⟨by kernel_rfl, rfl⟩
theorem zr114 : Zr Try.prog 114 (karr 7 kbool) (Vector.replicate 7 false) := ⟨_, (kz_arr 7 kz_bool), by kernel_rfl⟩
theorem ty114 : Ty Try.prog 114 (karr 7 kbool) := ⟨by kernel_rfl, by kernel_rfl⟩
theorem ar114 : Ar Try.prog 114 4 7 kbool := ⟨by kernel_rfl, by kernel_rfl⟩
theorem ty4 : Ty Try.prog 4 kbool := ⟨by kernel_rfl, by kernel_rfl⟩
theorem sl29 : Sl Try.prog 29 3 (kint .i64) := ⟨by kernel_rfl, by kernel_rfl⟩
theorem zr3 : Zr Try.prog 3 (kint .i64) 0 := ⟨_, kz_i64, by kernel_rfl⟩
theorem el29 : El Try.prog 29 3 (kint .i64) := ⟨by kernel_rfl, by kernel_rfl, by kernel_rfl, by kernel_rfl, by kernel_rfl⟩
theorem zr104 : Zr Try.prog 104 kBucket zBucket := ⟨_, kzBucket, by kernel_rfl⟩
theorem fl104_1 : Fl Try.prog 104 1 lBucket_1 := ⟨by kernel_rfl, rfl⟩
theorem ty22 : Ty Try.prog 22 (ksl kGroup) := ⟨by kernel_rfl, by kernel_rfl⟩
theorem zr31 : Zr Try.prog 31 kEnv zEnv := ⟨_, kzEnv, by kernel_rfl⟩
theorem sl26 : Sl Try.prog 26 31 kEnv := ⟨by kernel_rfl, by kernel_rfl⟩
theorem el26 : El Try.prog 26 31 kEnv := ⟨by kernel_rfl, by kernel_rfl, by kernel_rfl, by kernel_rfl, by kernel_rfl⟩
theorem ty31 : Ty Try.prog 31 kEnv := ⟨by kernel_rfl, by kernel_rfl⟩
theorem tyr26 : Ty Try.prog 26 kraw := ⟨by kernel_rfl, by kernel_rfl⟩
theorem fl31_1 : Fl Try.prog 31 1 lEnv_1 := ⟨by kernel_rfl, rfl⟩
theorem ty29 : Ty Try.prog 29 (ksl (kint .i64)) := ⟨by kernel_rfl, by kernel_rfl⟩
theorem fl31_0 : Fl Try.prog 31 0 lEnv_0 := ⟨by kernel_rfl, rfl⟩
theorem uf43 : isFuncD (Try.prog.underlying 43) = true := by kernel_rfl
theorem ty26 : Ty Try.prog 26 (ksl kEnv) := ⟨by kernel_rfl, by kernel_rfl⟩
theorem zr26 : Zr Try.prog 26 (ksl kEnv) [] := ⟨_, (kz_sl _), by kernel_rfl⟩
theorem us23 : (Try.prog.underlying 23).isSome = true := by kernel_rfl
theorem un3 : Try.prog.underlying 3 = some (.int .i64) := by kernel_rfl
theorem un4 : Try.prog.underlying 4 = some (.bool) := by kernel_rfl
theorem us3 : (Try.prog.underlying 3).isSome = true := by kernel_rfl
theorem un113 : Try.prog.underlying 113 = some (.int .u64) := by kernel_rfl
theorem zrv31_1 : Zr Try.prog 31 kEnv_o1 zEnv_o1 := ⟨_, kzEnv_o1, by kernel_rfl⟩
theorem tyv31_1 : Ty Try.prog 31 kEnv_o1 := ⟨by kernel_rfl, by kernel_rfl⟩
theorem flv31_1_1 : Fl Try.prog 31 1 lEnv_o1_1 := ⟨by kernel_rfl, rfl⟩
theorem tyr29 : Ty Try.prog 29 kraw := ⟨by kernel_rfl, by kernel_rfl⟩
theorem zrr26 : Zr Try.prog 26 kraw (.slice none 0 0) := ⟨_, kz_raw rfl, by kernel_rfl⟩
theorem mixed : Try.prog.follows .mixedOrders = true := by kernel_rfl
end Go.Proofs.Ytokmmcflinnfiaa.W
