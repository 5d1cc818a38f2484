/- GdT: a part of the proof. -/
import Derived.Test.YtokmmcflinnfiaaProg
import Derived.KernelRfl
import Derived.Test.YtokmmcflinnfiaaWbZB
set_option linter.unusedVariables false
set_option maxRecDepth 4000
set_option linter.unusedSimpArgs false
namespace Go.Proofs.Ytokmmcflinnfiaa.W
open Go Go.Wb
structure Wide where
  Hi : (BitVec 64)
  Lo : (BitVec 64)
  deriving DecidableEq, Inhabited
def kWide : Kd Wide := kiso (kpair ku64 ku64) (fun x => (x.Hi, x.Lo))
def lWide_0 : Lens kWide ku64 := Lens.iso (k := (kpair ku64 ku64)) (Lens.fst _ _) Wide.Hi (fun x y => { x with Hi := y }) (fun _ => rfl) (fun _ _ => rfl)
def lWide_1 : Lens kWide ku64 := Lens.iso (k := (kpair ku64 ku64)) (Lens.snd _ _) Wide.Lo (fun x y => { x with Lo := y }) (fun _ => rfl) (fun _ _ => rfl)
def zWide : Wide := ⟨0, 0⟩
theorem kzWide : KZ kWide zWide [(Value.int IntKind.u64 0), (Value.int IntKind.u64 0)] := kz_iso (kz_pair kz_u64 kz_u64)
structure Tern where
  Value : Wide
  Mask : Wide
  deriving DecidableEq, Inhabited
def kTern : Kd Tern := kiso (kpair kWide kWide) (fun x => (x.Value, x.Mask))
def lTern_0 : Lens kTern kWide := Lens.iso (k := (kpair kWide kWide)) (Lens.fst _ _) Tern.Value (fun x y => { x with Value := y }) (fun _ => rfl) (fun _ _ => rfl)
def lTern_1 : Lens kTern kWide := Lens.iso (k := (kpair kWide kWide)) (Lens.snd _ _) Tern.Mask (fun x y => { x with Mask := y }) (fun _ => rfl) (fun _ _ => rfl)
def zTern : Tern := ⟨zWide, zWide⟩
theorem kzTern : KZ kTern zTern [(Value.int IntKind.u64 0), (Value.int IntKind.u64 0), (Value.int IntKind.u64 0), (Value.int IntKind.u64 0)] := kz_iso (kz_pair kzWide kzWide)
structure Atom where
  Rewrite : (Vector Tern 24)
  Group : Bool
  Port : Int
  Max : Int
  deriving DecidableEq, Inhabited
def kAtom : Kd Atom := kiso (kpair (karr 24 kTern) (kpair kbool (kpair (kint .i64) (kint .i64)))) (fun x => (x.Rewrite, (x.Group, (x.Port, x.Max))))
def lAtom_0 : Lens kAtom (karr 24 kTern) := Lens.iso (k := (kpair (karr 24 kTern) (kpair kbool (kpair (kint .i64) (kint .i64))))) (Lens.fst _ _) Atom.Rewrite (fun x y => { x with Rewrite := y }) (fun _ => rfl) (fun _ _ => rfl)
def lAtom_1 : Lens kAtom kbool := Lens.iso (k := (kpair (karr 24 kTern) (kpair kbool (kpair (kint .i64) (kint .i64))))) (Lens.comp (Lens.snd _ _) (Lens.fst _ _)) Atom.Group (fun x y => { x with Group := y }) (fun _ => rfl) (fun _ _ => rfl)
def lAtom_2 : Lens kAtom (kint .i64) := Lens.iso (k := (kpair (karr 24 kTern) (kpair kbool (kpair (kint .i64) (kint .i64))))) (Lens.comp (Lens.comp (Lens.snd _ _) (Lens.snd _ _)) (Lens.fst _ _)) Atom.Port (fun x y => { x with Port := y }) (fun _ => rfl) (fun _ _ => rfl)
def lAtom_3 : Lens kAtom (kint .i64) := Lens.iso (k := (kpair (karr 24 kTern) (kpair kbool (kpair (kint .i64) (kint .i64))))) (Lens.comp (Lens.comp (Lens.snd _ _) (Lens.snd _ _)) (Lens.snd _ _)) Atom.Max (fun x y => { x with Max := y }) (fun _ => rfl) (fun _ _ => rfl)
def zAtom : Atom := ⟨(Vector.replicate 24 zTern), false, 0, 0⟩
theorem kzAtom : KZ kAtom zAtom [(Value.int IntKind.u64 0), (Value.int IntKind.u64 0), (Value.int IntKind.u64 0), (Value.int IntKind.u64 0), (Value.int IntKind.u64 0), (Value.int IntKind.u64 0), (Value.int IntKind.u64 0), (Value.int IntKind.u64 0), (Value.int IntKind.u64 0), (Value.int IntKind.u64 0), (Value.int IntKind.u64 0), (Value.int IntKind.u64 0), (Value.int IntKind.u64 0), (Value.int IntKind.u64 0), (Value.int IntKind.u64 0), (Value.int IntKind.u64 0), (Value.int IntKind.u64 0), (Value.int IntKind.u64 0), (Value.int IntKind.u64 0), (Value.int IntKind.u64 0), (Value.int IntKind.u64 0), (Value.int IntKind.u64 0), (Value.int IntKind.u64 0), (Value.int IntKind.u64 0), (Value.int IntKind.u64 0), (Value.int IntKind.u64 0), (Value.int IntKind.u64 0), (Value.int IntKind.u64 0), (Value.int IntKind.u64 0), (Value.int IntKind.u64 0), (Value.int IntKind.u64 0), (Value.int IntKind.u64 0), (Value.int IntKind.u64 0), (Value.int IntKind.u64 0), (Value.int IntKind.u64 0), (Value.int IntKind.u64 0), (Value.int IntKind.u64 0), (Value.int IntKind.u64 0), (Value.int IntKind.u64 0), (Value.int IntKind.u64 0), (Value.int IntKind.u64 0), (Value.int IntKind.u64 0), (Value.int IntKind.u64 0), (Value.int IntKind.u64 0), (Value.int IntKind.u64 0), (Value.int IntKind.u64 0), (Value.int IntKind.u64 0), (Value.int IntKind.u64 0), (Value.int IntKind.u64 0), (Value.int IntKind.u64 0), (Value.int IntKind.u64 0), (Value.int IntKind.u64 0), (Value.int IntKind.u64 0), (Value.int IntKind.u64 0), (Value.int IntKind.u64 0), (Value.int IntKind.u64 0), (Value.int IntKind.u64 0), (Value.int IntKind.u64 0), (Value.int IntKind.u64 0), (Value.int IntKind.u64 0), (Value.int IntKind.u64 0), (Value.int IntKind.u64 0), (Value.int IntKind.u64 0), (Value.int IntKind.u64 0), (Value.int IntKind.u64 0), (Value.int IntKind.u64 0), (Value.int IntKind.u64 0), (Value.int IntKind.u64 0), (Value.int IntKind.u64 0), (Value.int IntKind.u64 0), (Value.int IntKind.u64 0), (Value.int IntKind.u64 0), (Value.int IntKind.u64 0), (Value.int IntKind.u64 0), (Value.int IntKind.u64 0), (Value.int IntKind.u64 0), (Value.int IntKind.u64 0), (Value.int IntKind.u64 0), (Value.int IntKind.u64 0), (Value.int IntKind.u64 0), (Value.int IntKind.u64 0), (Value.int IntKind.u64 0), (Value.int IntKind.u64 0), (Value.int IntKind.u64 0), (Value.int IntKind.u64 0), (Value.int IntKind.u64 0), (Value.int IntKind.u64 0), (Value.int IntKind.u64 0), (Value.int IntKind.u64 0), (Value.int IntKind.u64 0), (Value.int IntKind.u64 0), (Value.int IntKind.u64 0), (Value.int IntKind.u64 0), (Value.int IntKind.u64 0), (Value.int IntKind.u64 0), (Value.int IntKind.u64 0), (Value.bool false), (Value.int IntKind.i64 0), (Value.int IntKind.i64 0)] := kz_iso (kz_pair (kz_arr 24 kzTern) (kz_pair kz_bool (kz_pair kz_i64 kz_i64)))
structure differ_single where
  field : Int
  bit : Int
  on : Bool
  deriving DecidableEq, Inhabited
def kdiffer_single : Kd differ_single := kiso (kpair (kint .i64) (kpair (kint .i64) kbool)) (fun x => (x.field, (x.bit, x.on)))
def ldiffer_single_0 : Lens kdiffer_single (kint .i64) := Lens.iso (k := (kpair (kint .i64) (kpair (kint .i64) kbool))) (Lens.fst _ _) differ_single.field (fun x y => { x with field := y }) (fun _ => rfl) (fun _ _ => rfl)
def ldiffer_single_1 : Lens kdiffer_single (kint .i64) := Lens.iso (k := (kpair (kint .i64) (kpair (kint .i64) kbool))) (Lens.comp (Lens.snd _ _) (Lens.fst _ _)) differ_single.bit (fun x y => { x with bit := y }) (fun _ => rfl) (fun _ _ => rfl)
def ldiffer_single_2 : Lens kdiffer_single kbool := Lens.iso (k := (kpair (kint .i64) (kpair (kint .i64) kbool))) (Lens.comp (Lens.snd _ _) (Lens.snd _ _)) differ_single.on (fun x y => { x with on := y }) (fun _ => rfl) (fun _ _ => rfl)
def zdiffer_single : differ_single := ⟨0, 0, false⟩
theorem kzdiffer_single : KZ kdiffer_single zdiffer_single [(Value.int IntKind.i64 0), (Value.int IntKind.i64 0), (Value.bool false)] := kz_iso (kz_pair kz_i64 (kz_pair kz_i64 kz_bool))
theorem zr56 : Zr Try.prog 56 (karr 24 kTern) (Vector.replicate 24 zTern) := ⟨_, (kz_arr 24 kzTern), by kernel_rfl⟩
theorem ty56 : Ty Try.prog 56 (karr 24 kTern) := ⟨by kernel_rfl, by kernel_rfl⟩
theorem zr52 : Zr Try.prog 52 kWide zWide := ⟨_, kzWide, by kernel_rfl⟩
theorem fl52_0 : Fl Try.prog 52 0 lWide_0 := ⟨by kernel_rfl, rfl⟩
theorem ty50 : Ty Try.prog 50 ku64 := ⟨by kernel_rfl, by kernel_rfl⟩
theorem fl52_1 : Fl Try.prog 52 1 lWide_1 := ⟨by kernel_rfl, rfl⟩
theorem ty52 : Ty Try.prog 52 kWide := ⟨by kernel_rfl, by kernel_rfl⟩
theorem zr54 : Zr Try.prog 54 kTern zTern := ⟨_, kzTern, by kernel_rfl⟩
theorem fl54_0 : Fl Try.prog 54 0 lTern_0 := ⟨by kernel_rfl, rfl⟩
theorem fl54_1 : Fl Try.prog 54 1 lTern_1 := ⟨by kernel_rfl, rfl⟩
theorem ty54 : Ty Try.prog 54 kTern := ⟨by kernel_rfl, by kernel_rfl⟩
theorem ar56 : Ar Try.prog 56 54 24 kTern := ⟨by kernel_rfl, by kernel_rfl⟩
theorem sl57 : Sl Try.prog 57 97 kAtom := ⟨by kernel_rfl, by kernel_rfl⟩
theorem ty97 : Ty Try.prog 97 kAtom := ⟨by kernel_rfl, by kernel_rfl⟩
theorem zr97 : Zr Try.prog 97 kAtom zAtom := ⟨_, kzAtom, by kernel_rfl⟩
theorem fl97_1 : Fl Try.prog 97 1 lAtom_1 := ⟨by kernel_rfl, rfl⟩
theorem ty4 : Ty Try.prog 4 kbool := ⟨by kernel_rfl, by kernel_rfl⟩
theorem un4 : Try.prog.underlying 4 = some (.bool) := by kernel_rfl
theorem fl97_2 : Fl Try.prog 97 2 lAtom_2 := ⟨by kernel_rfl, rfl⟩
theorem ty3 : Ty Try.prog 3 (kint .i64) := ⟨by kernel_rfl, by kernel_rfl⟩
theorem fl97_3 : Fl Try.prog 97 3 lAtom_3 := ⟨by kernel_rfl, rfl⟩
theorem fl97_0 : Fl Try.prog 97 0 lAtom_0 := ⟨by kernel_rfl, rfl⟩
theorem ar95 : Ar Try.prog 95 54 24 kTern := ⟨by kernel_rfl, by kernel_rfl⟩
theorem us50 : (Try.prog.underlying 50).isSome = true := by kernel_rfl
theorem un3 : Try.prog.underlying 3 = some (.int .i64) := by kernel_rfl
theorem zr187 : Zr Try.prog 187 (karr 2 ku64) (Vector.replicate 2 0) := ⟨_, (kz_arr 2 kz_u64), by kernel_rfl⟩
theorem ar187 : Ar Try.prog 187 50 2 ku64 := ⟨by kernel_rfl, by kernel_rfl⟩
theorem sl29 : Sl Try.prog 29 3 (kint .i64) := ⟨by kernel_rfl, by kernel_rfl⟩
theorem zr3 : Zr Try.prog 3 (kint .i64) 0 := ⟨_, kz_i64, by kernel_rfl⟩
theorem el29 : El Try.prog 29 3 (kint .i64) := ⟨by kernel_rfl, by kernel_rfl, by kernel_rfl, by kernel_rfl, by kernel_rfl⟩
theorem ty57 : Ty Try.prog 57 (ksl kAtom) := ⟨by kernel_rfl, by kernel_rfl⟩
theorem zr124 : Zr Try.prog 124 kdiffer_single zdiffer_single := ⟨_, kzdiffer_single, by kernel_rfl⟩
theorem tyr72 : Ty Try.prog 72 kraw := ⟨by kernel_rfl, by kernel_rfl⟩
theorem tyk72 (A : Asrt) : Ty Try.prog 72 (kas A) := ⟨tyr72.sz, tyr72.ag⟩
theorem ty124 : Ty Try.prog 124 kdiffer_single := ⟨by kernel_rfl, by kernel_rfl⟩
theorem fl124_0 : Fl Try.prog 124 0 ldiffer_single_0 := ⟨by kernel_rfl, rfl⟩
theorem fl124_1 : Fl Try.prog 124 1 ldiffer_single_1 := ⟨by kernel_rfl, rfl⟩
theorem fl124_2 : Fl Try.prog 124 2 ldiffer_single_2 := ⟨by kernel_rfl, rfl⟩
theorem sl64 : Sl Try.prog 64 56 (karr 24 kTern) := ⟨by kernel_rfl, by kernel_rfl⟩
theorem el64 : El Try.prog 64 56 (karr 24 kTern) := ⟨by kernel_rfl, by kernel_rfl, by kernel_rfl, by kernel_rfl, by kernel_rfl⟩
theorem tyr64 : Ty Try.prog 64 kraw := ⟨by kernel_rfl, by kernel_rfl⟩
theorem zr4 : Zr Try.prog 4 kbool false := ⟨_, kz_bool, by kernel_rfl⟩
theorem ar59 : Ar Try.prog 59 52 24 kWide := ⟨by kernel_rfl, by kernel_rfl⟩
theorem zr95 : Zr Try.prog 95 (karr 24 kTern) (Vector.replicate 24 zTern) := ⟨_, (kz_arr 24 kzTern), by kernel_rfl⟩
theorem zr59 : Zr Try.prog 59 (karr 24 kWide) (Vector.replicate 24 zWide) := ⟨_, (kz_arr 24 kzWide), by kernel_rfl⟩
theorem uf62 : isFuncD (Try.prog.underlying 62) = true := by kernel_rfl
theorem us3 : (Try.prog.underlying 3).isSome = true := by kernel_rfl
theorem un113 : Try.prog.underlying 113 = some (.int .u64) := by kernel_rfl
theorem eqk50 : EqK Try.prog 1 50 ku64 := eqk_u64 (by kernel_rfl)
theorem eqk52 : EqK Try.prog 2 52 kWide := eqk_st (fun x y e => by cases x; cases y; simp only [Prod.mk.injEq] at e; simp [e]) (l := _) (by kernel_rfl) (by kernel_rfl) (eqf_cons eqk50 ty50 (eqf_one eqk50 ty50))
theorem eqk54 : EqK Try.prog 3 54 kTern := eqk_st (fun x y e => by cases x; cases y; simp only [Prod.mk.injEq] at e; simp [e]) (l := _) (by kernel_rfl) (by kernel_rfl) (eqf_cons eqk52 ty52 (eqf_one eqk52 ty52))
theorem eqk56 : EqK Try.prog 4 56 (karr 24 kTern) := eqk_arr eqk54 ty54 ar56
theorem eg56 : Try.prog.eqGuardType Try.prog.depth 56 = false := by kernel_rfl
theorem zrr64 : Zr Try.prog 64 kraw (.slice none 0 0) := ⟨_, kz_raw rfl, by kernel_rfl⟩
theorem ty59 : Ty Try.prog 59 (karr 24 kWide) := ⟨by kernel_rfl, by kernel_rfl⟩
theorem ty95 : Ty Try.prog 95 (karr 24 kTern) := ⟨by kernel_rfl, by kernel_rfl⟩
theorem eqk59 : EqK Try.prog 3 59 (karr 24 kWide) := eqk_arr eqk52 ty52 ar59
theorem eg59 : Try.prog.eqGuardType Try.prog.depth 59 = false := by kernel_rfl
theorem mixed : Try.prog.follows .mixedOrders = true := by kernel_rfl
end Go.Proofs.Ytokmmcflinnfiaa.W
