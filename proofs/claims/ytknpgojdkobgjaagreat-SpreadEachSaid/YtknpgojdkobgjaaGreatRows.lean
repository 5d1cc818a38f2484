/-
  No cell of these rows narrows 'for every input' (looked for: loops, veiled, ifaces, maps, wideKeys, modest, calm, conditions, laid).
  DERIVED. THE GIVEN ROWS OF THIS SEAT. 17 by the template 'for every input the law returns true; each argument reads behind the call as it read before'; 0 by the template 'total and deterministic' (their statements: YtknpgojdkobgjaaGreatTotals.lean).
  GIVEN WITH THE SEED: the statements are not yours to turn. If you find one false, say at which input.
  Laid BY PROGRAM, IN A SANDBOX (cutbox-rows.mjs): the forced cells as the released guide's own fill.sh prints them over the translation dee127b73fee5cad… (all of the seat's roots in one cut). By AI agents, Wed Nov 11 2026. No macro, syntax, notation, axiom, sorry.
-/
import Derived.Test.YtknpgojdkobgjaaGreatChecked
import GoSem.Claim
import GoSem.ClaimJoined
import GoSem.ClaimMapViews
import Derived.JoinedTies
import Derived.KernelRfl
namespace Go.Proofs.YtknpgojdkobgjaaGreat
/- THE CELL 'sum', in the pinned program and in every row, IS THE sha256 OF THE DUMP (.gsa) THAT YtknpgojdkobgjaaGreatProg.lean LOADS. Nothing in Lean hashes anything: it is a label: what it is worth is what the hold of that sum in a sandbox is worth. -/
noncomputable def Tryz.pinned : Pinned := { name := "ytknpgojdkobgjaagreat", sum := "dee127b73fee5cada40259a3a292fa9469a811274ffef3052ec3bb05a8920fa3", checked := Tryz.checked }
namespace Rows
def none {H : Type} : Left H := { results := [], args := [] }

/-- 'weirboxlaw33.WalkTells': WHATEVER THE INPUT: true; the input reads as it did. -/
def walkTellsSpec : ChangeSpec := { name := "walkTells", fn := fun _ => fun
  | [d1, d2] => { results := [.lit (.bool true)], args := [d1, d2] }
  | _ => none }
def walkTellsRow : OpenClaim := { program := "ytknpgojdkobgjaagreat", sum := "dee127b73fee5cada40259a3a292fa9469a811274ffef3052ec3bb05a8920fa3", func := "weirbox/weirboxlaw33.WalkTells", spec := "walkTells", unfollowed := true, recurses := true, apart := false }
def WalkTellsSaid : Prop := walkTellsRow.holds Tryz.pinned (OpenSpec.ofChange walkTellsSpec)

/-- ITS FALSE NEIGHBOUR: 'it returns false'. Refute it at one input. -/
def walkTellsWrong : ChangeSpec := { name := "walkTells", fn := fun _ => fun
  | [d1, d2] => { results := [.lit (.bool false)], args := [d1, d2] }
  | _ => none }
def WalkTellsWrongFalsely : Prop := walkTellsRow.holds Tryz.pinned (OpenSpec.ofChange walkTellsWrong)

/-- 'weirboxlaw31.SemTells': WHATEVER THE INPUT: true; the input reads as it did. -/
def semTellsSpec : ChangeSpec := { name := "semTells", fn := fun _ => fun
  | [d1, d2, d3] => { results := [.lit (.bool true)], args := [d1, d2, d3] }
  | _ => none }
def semTellsRow : OpenClaim := { program := "ytknpgojdkobgjaagreat", sum := "dee127b73fee5cada40259a3a292fa9469a811274ffef3052ec3bb05a8920fa3", func := "weirbox/weirboxlaw31.SemTells", spec := "semTells", unfollowed := true, recurses := true, apart := false }
def SemTellsSaid : Prop := semTellsRow.holds Tryz.pinned (OpenSpec.ofChange semTellsSpec)

/-- ITS FALSE NEIGHBOUR: 'it returns false'. Refute it at one input. -/
def semTellsWrong : ChangeSpec := { name := "semTells", fn := fun _ => fun
  | [d1, d2, d3] => { results := [.lit (.bool false)], args := [d1, d2, d3] }
  | _ => none }
def SemTellsWrongFalsely : Prop := semTellsRow.holds Tryz.pinned (OpenSpec.ofChange semTellsWrong)

/-- 'weirboxlaw31.SemRises': WHATEVER THE INPUT: true; the input reads as it did. -/
def semRisesSpec : ChangeSpec := { name := "semRises", fn := fun _ => fun
  | [d1, d2] => { results := [.lit (.bool true)], args := [d1, d2] }
  | _ => none }
def semRisesRow : OpenClaim := { program := "ytknpgojdkobgjaagreat", sum := "dee127b73fee5cada40259a3a292fa9469a811274ffef3052ec3bb05a8920fa3", func := "weirbox/weirboxlaw31.SemRises", spec := "semRises", unfollowed := true, recurses := true, apart := false }
def SemRisesSaid : Prop := semRisesRow.holds Tryz.pinned (OpenSpec.ofChange semRisesSpec)

/-- ITS FALSE NEIGHBOUR: 'it returns false'. Refute it at one input. -/
def semRisesWrong : ChangeSpec := { name := "semRises", fn := fun _ => fun
  | [d1, d2] => { results := [.lit (.bool false)], args := [d1, d2] }
  | _ => none }
def SemRisesWrongFalsely : Prop := semRisesRow.holds Tryz.pinned (OpenSpec.ofChange semRisesWrong)

/-- 'weirboxlaw31.SemMiss': WHATEVER THE INPUT: true; the input reads as it did. -/
def semMissSpec : ChangeSpec := { name := "semMiss", fn := fun _ => fun
  | [d1, d2, d3] => { results := [.lit (.bool true)], args := [d1, d2, d3] }
  | _ => none }
def semMissRow : OpenClaim := { program := "ytknpgojdkobgjaagreat", sum := "dee127b73fee5cada40259a3a292fa9469a811274ffef3052ec3bb05a8920fa3", func := "weirbox/weirboxlaw31.SemMiss", spec := "semMiss", unfollowed := true, recurses := true, apart := false }
def SemMissSaid : Prop := semMissRow.holds Tryz.pinned (OpenSpec.ofChange semMissSpec)

/-- ITS FALSE NEIGHBOUR: 'it returns false'. Refute it at one input. -/
def semMissWrong : ChangeSpec := { name := "semMiss", fn := fun _ => fun
  | [d1, d2, d3] => { results := [.lit (.bool false)], args := [d1, d2, d3] }
  | _ => none }
def SemMissWrongFalsely : Prop := semMissRow.holds Tryz.pinned (OpenSpec.ofChange semMissWrong)

/-- 'weirboxlaw48.TraceAlone': WHATEVER THE INPUT: true; the input reads as it did. -/
def traceAloneSpec : ChangeSpec := { name := "traceAlone", fn := fun _ => fun
  | [d1, d2, d3] => { results := [.lit (.bool true)], args := [d1, d2, d3] }
  | _ => none }
def traceAloneRow : OpenClaim := { program := "ytknpgojdkobgjaagreat", sum := "dee127b73fee5cada40259a3a292fa9469a811274ffef3052ec3bb05a8920fa3", func := "weirbox/weirboxlaw48.TraceAlone", spec := "traceAlone", unfollowed := true, recurses := true, apart := false }
def TraceAloneSaid : Prop := traceAloneRow.holds Tryz.pinned (OpenSpec.ofChange traceAloneSpec)

/-- ITS FALSE NEIGHBOUR: 'it returns false'. Refute it at one input. -/
def traceAloneWrong : ChangeSpec := { name := "traceAlone", fn := fun _ => fun
  | [d1, d2, d3] => { results := [.lit (.bool false)], args := [d1, d2, d3] }
  | _ => none }
def TraceAloneWrongFalsely : Prop := traceAloneRow.holds Tryz.pinned (OpenSpec.ofChange traceAloneWrong)

/-- 'weirboxlaw36.FindTells': WHATEVER THE INPUT: true; the input reads as it did. -/
def findTellsSpec : ChangeSpec := { name := "findTells", fn := fun _ => fun
  | [d1, d2, d3] => { results := [.lit (.bool true)], args := [d1, d2, d3] }
  | _ => none }
def findTellsRow : OpenClaim := { program := "ytknpgojdkobgjaagreat", sum := "dee127b73fee5cada40259a3a292fa9469a811274ffef3052ec3bb05a8920fa3", func := "weirbox/weirboxlaw36.FindTells", spec := "findTells", unfollowed := true, recurses := true, apart := false }
def FindTellsSaid : Prop := findTellsRow.holds Tryz.pinned (OpenSpec.ofChange findTellsSpec)

/-- ITS FALSE NEIGHBOUR: 'it returns false'. Refute it at one input. -/
def findTellsWrong : ChangeSpec := { name := "findTells", fn := fun _ => fun
  | [d1, d2, d3] => { results := [.lit (.bool false)], args := [d1, d2, d3] }
  | _ => none }
def FindTellsWrongFalsely : Prop := findTellsRow.holds Tryz.pinned (OpenSpec.ofChange findTellsWrong)

/-- 'weirboxlaw36.FindWitness': WHATEVER THE INPUT: true; the input reads as it did. -/
def findWitnessSpec : ChangeSpec := { name := "findWitness", fn := fun _ => fun
  | [d1, d2, d3] => { results := [.lit (.bool true)], args := [d1, d2, d3] }
  | _ => none }
def findWitnessRow : OpenClaim := { program := "ytknpgojdkobgjaagreat", sum := "dee127b73fee5cada40259a3a292fa9469a811274ffef3052ec3bb05a8920fa3", func := "weirbox/weirboxlaw36.FindWitness", spec := "findWitness", unfollowed := true, recurses := true, apart := false }
def FindWitnessSaid : Prop := findWitnessRow.holds Tryz.pinned (OpenSpec.ofChange findWitnessSpec)

/-- ITS FALSE NEIGHBOUR: 'it returns false'. Refute it at one input. -/
def findWitnessWrong : ChangeSpec := { name := "findWitness", fn := fun _ => fun
  | [d1, d2, d3] => { results := [.lit (.bool false)], args := [d1, d2, d3] }
  | _ => none }
def FindWitnessWrongFalsely : Prop := findWitnessRow.holds Tryz.pinned (OpenSpec.ofChange findWitnessWrong)

/-- 'weirboxlaw33.WalkFirst': WHATEVER THE INPUT: true; the input reads as it did. -/
def walkFirstSpec : ChangeSpec := { name := "walkFirst", fn := fun _ => fun
  | [d1, d2, d3] => { results := [.lit (.bool true)], args := [d1, d2, d3] }
  | _ => none }
def walkFirstRow : OpenClaim := { program := "ytknpgojdkobgjaagreat", sum := "dee127b73fee5cada40259a3a292fa9469a811274ffef3052ec3bb05a8920fa3", func := "weirbox/weirboxlaw33.WalkFirst", spec := "walkFirst", unfollowed := true, recurses := true, apart := false }
def WalkFirstSaid : Prop := walkFirstRow.holds Tryz.pinned (OpenSpec.ofChange walkFirstSpec)

/-- ITS FALSE NEIGHBOUR: 'it returns false'. Refute it at one input. -/
def walkFirstWrong : ChangeSpec := { name := "walkFirst", fn := fun _ => fun
  | [d1, d2, d3] => { results := [.lit (.bool false)], args := [d1, d2, d3] }
  | _ => none }
def WalkFirstWrongFalsely : Prop := walkFirstRow.holds Tryz.pinned (OpenSpec.ofChange walkFirstWrong)

/-- 'weirboxlaw35.FlatMakes': WHATEVER THE INPUT: true; the input reads as it did. -/
def flatMakesSpec : ChangeSpec := { name := "flatMakes", fn := fun _ => fun
  | [d1, d2] => { results := [.lit (.bool true)], args := [d1, d2] }
  | _ => none }
def flatMakesRow : OpenClaim := { program := "ytknpgojdkobgjaagreat", sum := "dee127b73fee5cada40259a3a292fa9469a811274ffef3052ec3bb05a8920fa3", func := "weirbox/weirboxlaw35.FlatMakes", spec := "flatMakes", unfollowed := true, recurses := true, apart := false }
def FlatMakesSaid : Prop := flatMakesRow.holds Tryz.pinned (OpenSpec.ofChange flatMakesSpec)

/-- ITS FALSE NEIGHBOUR: 'it returns false'. Refute it at one input. -/
def flatMakesWrong : ChangeSpec := { name := "flatMakes", fn := fun _ => fun
  | [d1, d2] => { results := [.lit (.bool false)], args := [d1, d2] }
  | _ => none }
def FlatMakesWrongFalsely : Prop := flatMakesRow.holds Tryz.pinned (OpenSpec.ofChange flatMakesWrong)

/-- 'weirboxlaw35.FlatSame': WHATEVER THE INPUT: true; the input reads as it did. -/
def flatSameSpec : ChangeSpec := { name := "flatSame", fn := fun _ => fun
  | [d1, d2] => { results := [.lit (.bool true)], args := [d1, d2] }
  | _ => none }
def flatSameRow : OpenClaim := { program := "ytknpgojdkobgjaagreat", sum := "dee127b73fee5cada40259a3a292fa9469a811274ffef3052ec3bb05a8920fa3", func := "weirbox/weirboxlaw35.FlatSame", spec := "flatSame", unfollowed := true, recurses := true, apart := false }
def FlatSameSaid : Prop := flatSameRow.holds Tryz.pinned (OpenSpec.ofChange flatSameSpec)

/-- ITS FALSE NEIGHBOUR: 'it returns false'. Refute it at one input. -/
def flatSameWrong : ChangeSpec := { name := "flatSame", fn := fun _ => fun
  | [d1, d2] => { results := [.lit (.bool false)], args := [d1, d2] }
  | _ => none }
def FlatSameWrongFalsely : Prop := flatSameRow.holds Tryz.pinned (OpenSpec.ofChange flatSameWrong)

/-- 'weirboxlaw35.FlatMore': WHATEVER THE INPUT: true; the input reads as it did. -/
def flatMoreSpec : ChangeSpec := { name := "flatMore", fn := fun _ => fun
  | [d1, d2, d3] => { results := [.lit (.bool true)], args := [d1, d2, d3] }
  | _ => none }
def flatMoreRow : OpenClaim := { program := "ytknpgojdkobgjaagreat", sum := "dee127b73fee5cada40259a3a292fa9469a811274ffef3052ec3bb05a8920fa3", func := "weirbox/weirboxlaw35.FlatMore", spec := "flatMore", unfollowed := true, recurses := true, apart := false }
def FlatMoreSaid : Prop := flatMoreRow.holds Tryz.pinned (OpenSpec.ofChange flatMoreSpec)

/-- ITS FALSE NEIGHBOUR: 'it returns false'. Refute it at one input. -/
def flatMoreWrong : ChangeSpec := { name := "flatMore", fn := fun _ => fun
  | [d1, d2, d3] => { results := [.lit (.bool false)], args := [d1, d2, d3] }
  | _ => none }
def FlatMoreWrongFalsely : Prop := flatMoreRow.holds Tryz.pinned (OpenSpec.ofChange flatMoreWrong)

/-- 'weirboxlaw35.FlatEnough': WHATEVER THE INPUT: true; the input reads as it did. -/
def flatEnoughSpec : ChangeSpec := { name := "flatEnough", fn := fun _ => fun
  | [d1, d2] => { results := [.lit (.bool true)], args := [d1, d2] }
  | _ => none }
def flatEnoughRow : OpenClaim := { program := "ytknpgojdkobgjaagreat", sum := "dee127b73fee5cada40259a3a292fa9469a811274ffef3052ec3bb05a8920fa3", func := "weirbox/weirboxlaw35.FlatEnough", spec := "flatEnough", unfollowed := true, recurses := true, apart := false }
def FlatEnoughSaid : Prop := flatEnoughRow.holds Tryz.pinned (OpenSpec.ofChange flatEnoughSpec)

/-- ITS FALSE NEIGHBOUR: 'it returns false'. Refute it at one input. -/
def flatEnoughWrong : ChangeSpec := { name := "flatEnough", fn := fun _ => fun
  | [d1, d2] => { results := [.lit (.bool false)], args := [d1, d2] }
  | _ => none }
def FlatEnoughWrongFalsely : Prop := flatEnoughRow.holds Tryz.pinned (OpenSpec.ofChange flatEnoughWrong)

/-- 'weirboxlaw36.FindHit': WHATEVER THE INPUT: true; the input reads as it did. -/
def findHitSpec : ChangeSpec := { name := "findHit", fn := fun _ => fun
  | [d1, d2] => { results := [.lit (.bool true)], args := [d1, d2] }
  | _ => none }
def findHitRow : OpenClaim := { program := "ytknpgojdkobgjaagreat", sum := "dee127b73fee5cada40259a3a292fa9469a811274ffef3052ec3bb05a8920fa3", func := "weirbox/weirboxlaw36.FindHit", spec := "findHit", unfollowed := true, recurses := true, apart := false }
def FindHitSaid : Prop := findHitRow.holds Tryz.pinned (OpenSpec.ofChange findHitSpec)

/-- ITS FALSE NEIGHBOUR: 'it returns false'. Refute it at one input. -/
def findHitWrong : ChangeSpec := { name := "findHit", fn := fun _ => fun
  | [d1, d2] => { results := [.lit (.bool false)], args := [d1, d2] }
  | _ => none }
def FindHitWrongFalsely : Prop := findHitRow.holds Tryz.pinned (OpenSpec.ofChange findHitWrong)

/-- 'weirboxlaw50.SpreadEnds': WHATEVER THE INPUT: true; the input reads as it did. -/
def spreadEndsSpec : ChangeSpec := { name := "spreadEnds", fn := fun _ => fun
  | [d1, d2] => { results := [.lit (.bool true)], args := [d1, d2] }
  | _ => none }
def spreadEndsRow : OpenClaim := { program := "ytknpgojdkobgjaagreat", sum := "dee127b73fee5cada40259a3a292fa9469a811274ffef3052ec3bb05a8920fa3", func := "weirbox/weirboxlaw50.SpreadEnds", spec := "spreadEnds", unfollowed := true, recurses := true, apart := false }
def SpreadEndsSaid : Prop := spreadEndsRow.holds Tryz.pinned (OpenSpec.ofChange spreadEndsSpec)

/-- ITS FALSE NEIGHBOUR: 'it returns false'. Refute it at one input. -/
def spreadEndsWrong : ChangeSpec := { name := "spreadEnds", fn := fun _ => fun
  | [d1, d2] => { results := [.lit (.bool false)], args := [d1, d2] }
  | _ => none }
def SpreadEndsWrongFalsely : Prop := spreadEndsRow.holds Tryz.pinned (OpenSpec.ofChange spreadEndsWrong)

/-- 'weirboxlaw36.FindSem': WHATEVER THE INPUT: true; the input reads as it did. -/
def findSemSpec : ChangeSpec := { name := "findSem", fn := fun _ => fun
  | [d1, d2, d3, d4] => { results := [.lit (.bool true)], args := [d1, d2, d3, d4] }
  | _ => none }
def findSemRow : OpenClaim := { program := "ytknpgojdkobgjaagreat", sum := "dee127b73fee5cada40259a3a292fa9469a811274ffef3052ec3bb05a8920fa3", func := "weirbox/weirboxlaw36.FindSem", spec := "findSem", unfollowed := true, recurses := true, apart := false }
def FindSemSaid : Prop := findSemRow.holds Tryz.pinned (OpenSpec.ofChange findSemSpec)

/-- ITS FALSE NEIGHBOUR: 'it returns false'. Refute it at one input. -/
def findSemWrong : ChangeSpec := { name := "findSem", fn := fun _ => fun
  | [d1, d2, d3, d4] => { results := [.lit (.bool false)], args := [d1, d2, d3, d4] }
  | _ => none }
def FindSemWrongFalsely : Prop := findSemRow.holds Tryz.pinned (OpenSpec.ofChange findSemWrong)

/-- 'weirboxlaw50.SpreadTraces': WHATEVER THE INPUT: true; the input reads as it did. -/
def spreadTracesSpec : ChangeSpec := { name := "spreadTraces", fn := fun _ => fun
  | [d1, d2, d3, d4, d5, d6, d7] => { results := [.lit (.bool true)], args := [d1, d2, d3, d4, d5, d6, d7] }
  | _ => none }
def spreadTracesRow : OpenClaim := { program := "ytknpgojdkobgjaagreat", sum := "dee127b73fee5cada40259a3a292fa9469a811274ffef3052ec3bb05a8920fa3", func := "weirbox/weirboxlaw50.SpreadTraces", spec := "spreadTraces", unfollowed := true, recurses := true, apart := false }
def SpreadTracesSaid : Prop := spreadTracesRow.holds Tryz.pinned (OpenSpec.ofChange spreadTracesSpec)

/-- ITS FALSE NEIGHBOUR: 'it returns false'. Refute it at one input. -/
def spreadTracesWrong : ChangeSpec := { name := "spreadTraces", fn := fun _ => fun
  | [d1, d2, d3, d4, d5, d6, d7] => { results := [.lit (.bool false)], args := [d1, d2, d3, d4, d5, d6, d7] }
  | _ => none }
def SpreadTracesWrongFalsely : Prop := spreadTracesRow.holds Tryz.pinned (OpenSpec.ofChange spreadTracesWrong)

/-- 'weirboxlaw50.SpreadEach': WHATEVER THE INPUT: true; the input reads as it did. -/
def spreadEachSpec : ChangeSpec := { name := "spreadEach", fn := fun _ => fun
  | [d1, d2, d3, d4, d5, d6] => { results := [.lit (.bool true)], args := [d1, d2, d3, d4, d5, d6] }
  | _ => none }
def spreadEachRow : OpenClaim := { program := "ytknpgojdkobgjaagreat", sum := "dee127b73fee5cada40259a3a292fa9469a811274ffef3052ec3bb05a8920fa3", func := "weirbox/weirboxlaw50.SpreadEach", spec := "spreadEach", unfollowed := true, recurses := true, apart := false }
def SpreadEachSaid : Prop := spreadEachRow.holds Tryz.pinned (OpenSpec.ofChange spreadEachSpec)

/-- ITS FALSE NEIGHBOUR: 'it returns false'. Refute it at one input. -/
def spreadEachWrong : ChangeSpec := { name := "spreadEach", fn := fun _ => fun
  | [d1, d2, d3, d4, d5, d6] => { results := [.lit (.bool false)], args := [d1, d2, d3, d4, d5, d6] }
  | _ => none }
def SpreadEachWrongFalsely : Prop := spreadEachRow.holds Tryz.pinned (OpenSpec.ofChange spreadEachWrong)

/- THE SECOND FORM. 'bulk': how many values and letters a reading holds, each counted each time it is reached (what is shared counts as often as it is met; a slice's spare places count too). A statement '..UptoSaid' is the law's where the arguments, and the package variables that the reading takes, are together of bulk at most 1048576: NARROWER than '..Said'. Prove '..Said' where nothing that the law and all that it calls make is longer than what came in: it says more and counts as full. Else prove '..UptoSaid'. A law counts once. -/
mutual
def uptoBulk {H : Type} : DataW H → Nat
  | .lit (.string bytes) => bytes.length + 1
  | .lit _ => 1
  | .nil => 1
  | .ptr d => uptoBulk d + 1
  | .slice elems spare => uptoBulkAll elems + uptoBulkAll spare + 1
  | .agg parts => uptoBulkAll parts + 1
  | .iface _ d => uptoBulk d + 1
  | .map entries => uptoBulkEntries entries + 1
  | .held _ => 1
def uptoBulkAll {H : Type} : List (DataW H) → Nat
  | [] => 0
  | d :: r => uptoBulk d + uptoBulkAll r
def uptoBulkEntries {H : Type} : List (Lit × DataW H) → Nat
  | [] => 0
  | x :: r => uptoBulkEntry x + uptoBulkEntries r
def uptoBulkEntry {H : Type} : Lit × DataW H → Nat
  | (.string bytes, d) => bytes.length + uptoBulk d + 1
  | (_, d) => uptoBulk d + 1
 end
def uptoSmall : (H : Type) → List (DataW H) → Bool := fun _ ds => decide (uptoBulkAll ds ≤ 1048576)
def OpenSpec.upto (s : _root_.Go.ChangeSpec) : _root_.Go.OpenSpec := { _root_.Go.OpenSpec.ofChange s with cond := some uptoSmall }

/-- 'weirboxlaw33.WalkTells', WHERE WHAT IT READS IS OF BULK AT MOST 1048576: true; the input reads as it did. -/
def walkTellsUptoRow : OpenClaim := { program := "ytknpgojdkobgjaagreat", sum := "dee127b73fee5cada40259a3a292fa9469a811274ffef3052ec3bb05a8920fa3", func := "weirbox/weirboxlaw33.WalkTells", spec := "walkTells", unfollowed := true, recurses := true, apart := false, narrowed := true }
def WalkTellsUptoSaid : Prop := walkTellsUptoRow.holds Tryz.pinned (OpenSpec.upto walkTellsSpec)

/-- 'weirboxlaw31.SemTells', WHERE WHAT IT READS IS OF BULK AT MOST 1048576: true; the input reads as it did. -/
def semTellsUptoRow : OpenClaim := { program := "ytknpgojdkobgjaagreat", sum := "dee127b73fee5cada40259a3a292fa9469a811274ffef3052ec3bb05a8920fa3", func := "weirbox/weirboxlaw31.SemTells", spec := "semTells", unfollowed := true, recurses := true, apart := false, narrowed := true }
def SemTellsUptoSaid : Prop := semTellsUptoRow.holds Tryz.pinned (OpenSpec.upto semTellsSpec)

/-- 'weirboxlaw31.SemRises', WHERE WHAT IT READS IS OF BULK AT MOST 1048576: true; the input reads as it did. -/
def semRisesUptoRow : OpenClaim := { program := "ytknpgojdkobgjaagreat", sum := "dee127b73fee5cada40259a3a292fa9469a811274ffef3052ec3bb05a8920fa3", func := "weirbox/weirboxlaw31.SemRises", spec := "semRises", unfollowed := true, recurses := true, apart := false, narrowed := true }
def SemRisesUptoSaid : Prop := semRisesUptoRow.holds Tryz.pinned (OpenSpec.upto semRisesSpec)

/-- 'weirboxlaw31.SemMiss', WHERE WHAT IT READS IS OF BULK AT MOST 1048576: true; the input reads as it did. -/
def semMissUptoRow : OpenClaim := { program := "ytknpgojdkobgjaagreat", sum := "dee127b73fee5cada40259a3a292fa9469a811274ffef3052ec3bb05a8920fa3", func := "weirbox/weirboxlaw31.SemMiss", spec := "semMiss", unfollowed := true, recurses := true, apart := false, narrowed := true }
def SemMissUptoSaid : Prop := semMissUptoRow.holds Tryz.pinned (OpenSpec.upto semMissSpec)

/-- 'weirboxlaw48.TraceAlone', WHERE WHAT IT READS IS OF BULK AT MOST 1048576: true; the input reads as it did. -/
def traceAloneUptoRow : OpenClaim := { program := "ytknpgojdkobgjaagreat", sum := "dee127b73fee5cada40259a3a292fa9469a811274ffef3052ec3bb05a8920fa3", func := "weirbox/weirboxlaw48.TraceAlone", spec := "traceAlone", unfollowed := true, recurses := true, apart := false, narrowed := true }
def TraceAloneUptoSaid : Prop := traceAloneUptoRow.holds Tryz.pinned (OpenSpec.upto traceAloneSpec)

/-- 'weirboxlaw36.FindTells', WHERE WHAT IT READS IS OF BULK AT MOST 1048576: true; the input reads as it did. -/
def findTellsUptoRow : OpenClaim := { program := "ytknpgojdkobgjaagreat", sum := "dee127b73fee5cada40259a3a292fa9469a811274ffef3052ec3bb05a8920fa3", func := "weirbox/weirboxlaw36.FindTells", spec := "findTells", unfollowed := true, recurses := true, apart := false, narrowed := true }
def FindTellsUptoSaid : Prop := findTellsUptoRow.holds Tryz.pinned (OpenSpec.upto findTellsSpec)

/-- 'weirboxlaw36.FindWitness', WHERE WHAT IT READS IS OF BULK AT MOST 1048576: true; the input reads as it did. -/
def findWitnessUptoRow : OpenClaim := { program := "ytknpgojdkobgjaagreat", sum := "dee127b73fee5cada40259a3a292fa9469a811274ffef3052ec3bb05a8920fa3", func := "weirbox/weirboxlaw36.FindWitness", spec := "findWitness", unfollowed := true, recurses := true, apart := false, narrowed := true }
def FindWitnessUptoSaid : Prop := findWitnessUptoRow.holds Tryz.pinned (OpenSpec.upto findWitnessSpec)

/-- 'weirboxlaw33.WalkFirst', WHERE WHAT IT READS IS OF BULK AT MOST 1048576: true; the input reads as it did. -/
def walkFirstUptoRow : OpenClaim := { program := "ytknpgojdkobgjaagreat", sum := "dee127b73fee5cada40259a3a292fa9469a811274ffef3052ec3bb05a8920fa3", func := "weirbox/weirboxlaw33.WalkFirst", spec := "walkFirst", unfollowed := true, recurses := true, apart := false, narrowed := true }
def WalkFirstUptoSaid : Prop := walkFirstUptoRow.holds Tryz.pinned (OpenSpec.upto walkFirstSpec)

/-- 'weirboxlaw35.FlatMakes', WHERE WHAT IT READS IS OF BULK AT MOST 1048576: true; the input reads as it did. -/
def flatMakesUptoRow : OpenClaim := { program := "ytknpgojdkobgjaagreat", sum := "dee127b73fee5cada40259a3a292fa9469a811274ffef3052ec3bb05a8920fa3", func := "weirbox/weirboxlaw35.FlatMakes", spec := "flatMakes", unfollowed := true, recurses := true, apart := false, narrowed := true }
def FlatMakesUptoSaid : Prop := flatMakesUptoRow.holds Tryz.pinned (OpenSpec.upto flatMakesSpec)

/-- 'weirboxlaw35.FlatSame', WHERE WHAT IT READS IS OF BULK AT MOST 1048576: true; the input reads as it did. -/
def flatSameUptoRow : OpenClaim := { program := "ytknpgojdkobgjaagreat", sum := "dee127b73fee5cada40259a3a292fa9469a811274ffef3052ec3bb05a8920fa3", func := "weirbox/weirboxlaw35.FlatSame", spec := "flatSame", unfollowed := true, recurses := true, apart := false, narrowed := true }
def FlatSameUptoSaid : Prop := flatSameUptoRow.holds Tryz.pinned (OpenSpec.upto flatSameSpec)

/-- 'weirboxlaw35.FlatMore', WHERE WHAT IT READS IS OF BULK AT MOST 1048576: true; the input reads as it did. -/
def flatMoreUptoRow : OpenClaim := { program := "ytknpgojdkobgjaagreat", sum := "dee127b73fee5cada40259a3a292fa9469a811274ffef3052ec3bb05a8920fa3", func := "weirbox/weirboxlaw35.FlatMore", spec := "flatMore", unfollowed := true, recurses := true, apart := false, narrowed := true }
def FlatMoreUptoSaid : Prop := flatMoreUptoRow.holds Tryz.pinned (OpenSpec.upto flatMoreSpec)

/-- 'weirboxlaw35.FlatEnough', WHERE WHAT IT READS IS OF BULK AT MOST 1048576: true; the input reads as it did. -/
def flatEnoughUptoRow : OpenClaim := { program := "ytknpgojdkobgjaagreat", sum := "dee127b73fee5cada40259a3a292fa9469a811274ffef3052ec3bb05a8920fa3", func := "weirbox/weirboxlaw35.FlatEnough", spec := "flatEnough", unfollowed := true, recurses := true, apart := false, narrowed := true }
def FlatEnoughUptoSaid : Prop := flatEnoughUptoRow.holds Tryz.pinned (OpenSpec.upto flatEnoughSpec)

/-- 'weirboxlaw36.FindHit', WHERE WHAT IT READS IS OF BULK AT MOST 1048576: true; the input reads as it did. -/
def findHitUptoRow : OpenClaim := { program := "ytknpgojdkobgjaagreat", sum := "dee127b73fee5cada40259a3a292fa9469a811274ffef3052ec3bb05a8920fa3", func := "weirbox/weirboxlaw36.FindHit", spec := "findHit", unfollowed := true, recurses := true, apart := false, narrowed := true }
def FindHitUptoSaid : Prop := findHitUptoRow.holds Tryz.pinned (OpenSpec.upto findHitSpec)

/-- 'weirboxlaw50.SpreadEnds', WHERE WHAT IT READS IS OF BULK AT MOST 1048576: true; the input reads as it did. -/
def spreadEndsUptoRow : OpenClaim := { program := "ytknpgojdkobgjaagreat", sum := "dee127b73fee5cada40259a3a292fa9469a811274ffef3052ec3bb05a8920fa3", func := "weirbox/weirboxlaw50.SpreadEnds", spec := "spreadEnds", unfollowed := true, recurses := true, apart := false, narrowed := true }
def SpreadEndsUptoSaid : Prop := spreadEndsUptoRow.holds Tryz.pinned (OpenSpec.upto spreadEndsSpec)

/-- 'weirboxlaw36.FindSem', WHERE WHAT IT READS IS OF BULK AT MOST 1048576: true; the input reads as it did. -/
def findSemUptoRow : OpenClaim := { program := "ytknpgojdkobgjaagreat", sum := "dee127b73fee5cada40259a3a292fa9469a811274ffef3052ec3bb05a8920fa3", func := "weirbox/weirboxlaw36.FindSem", spec := "findSem", unfollowed := true, recurses := true, apart := false, narrowed := true }
def FindSemUptoSaid : Prop := findSemUptoRow.holds Tryz.pinned (OpenSpec.upto findSemSpec)

/-- 'weirboxlaw50.SpreadTraces', WHERE WHAT IT READS IS OF BULK AT MOST 1048576: true; the input reads as it did. -/
def spreadTracesUptoRow : OpenClaim := { program := "ytknpgojdkobgjaagreat", sum := "dee127b73fee5cada40259a3a292fa9469a811274ffef3052ec3bb05a8920fa3", func := "weirbox/weirboxlaw50.SpreadTraces", spec := "spreadTraces", unfollowed := true, recurses := true, apart := false, narrowed := true }
def SpreadTracesUptoSaid : Prop := spreadTracesUptoRow.holds Tryz.pinned (OpenSpec.upto spreadTracesSpec)

/-- 'weirboxlaw50.SpreadEach', WHERE WHAT IT READS IS OF BULK AT MOST 1048576: true; the input reads as it did. -/
def spreadEachUptoRow : OpenClaim := { program := "ytknpgojdkobgjaagreat", sum := "dee127b73fee5cada40259a3a292fa9469a811274ffef3052ec3bb05a8920fa3", func := "weirbox/weirboxlaw50.SpreadEach", spec := "spreadEach", unfollowed := true, recurses := true, apart := false, narrowed := true }
def SpreadEachUptoSaid : Prop := spreadEachUptoRow.holds Tryz.pinned (OpenSpec.upto spreadEachSpec)

end Rows
end Go.Proofs.YtknpgojdkobgjaaGreat
