/-
  NARROWER THAN 'FOR EVERY INPUT', by the rows' own cells (each row's printed sentence says how): AuditNever: laid · AuditAlike: laid · AuditWrong: laid · AuditPrunes: laid · AuditDead: laid.
  DERIVED. THE GIVEN ROWS OF THIS SEAT. 5 by the template 'for every input the law returns true; each argument reads behind the call as it read before'; 0 by the template 'total and deterministic' (their statements: YtinplddjjalohaaGreatDoorTotals.lean).
  GIVEN WITH THE SEED: the statements are not yours to turn. If you find one false, say at which input.
  Laid BY PROGRAM, IN A SANDBOX (cutbox-rows.mjs): the forced cells as the released guide's own fill.sh prints them over the translation b3bc144a3babe869… (all of the seat's roots in one cut). By AI agents, Wed Nov 11 2026. No macro, syntax, notation, axiom, sorry.
-/
import Derived.Test.YtinplddjjalohaaGreatDoorChecked
import GoSem.Claim
import GoSem.ClaimJoined
import GoSem.ClaimMapViews
import Derived.JoinedTies
import Derived.KernelRfl
namespace Go.Proofs.YtinplddjjalohaaGreatDoor
/- THE CELL 'sum', in the pinned program and in every row, IS THE sha256 OF THE DUMP (.gsa) THAT YtinplddjjalohaaGreatDoorProg.lean LOADS. Nothing in Lean hashes anything: it is a label: what it is worth is what the hold of that sum in a sandbox is worth. -/
noncomputable def Tryz.pinned : Pinned := { name := "ytinplddjjalohaagreatdoor", sum := "b3bc144a3babe86981740233c2348c04a1e6228e8ac8ee9364788b049db3812d", checked := Tryz.checked }
namespace Rows
def none {H : Type} : Left H := { results := [], args := [] }

/- WHAT THE LISTED PACKAGE-LEVEL VARIABLES READ AS WHEN THE CALL BEGINS. Each datum BY PROGRAM (the guide's laid-datum.mjs) off the statement by which the dump's own 'gosem.cut.vars' lays the variable. In a bare row this is a premise. The card (YtinplddjjalohaaGreatDoorCards.lean) ties it to the program's text. -/
def laid_errors_errorType {H : Type} : DataW H := .iface "internal/reflectlite.rtype" (.agg [.ptr (.lit (.string [101, 114, 114, 111, 114]))])

/-- 'weirboxlaw44.AuditNever': WHATEVER THE INPUT: true; the input reads as it did. -/
def auditNeverSpec : ChangeSpec := { name := "auditNever", fn := fun _ => fun
  | [d1, d2, d3] => { results := [.lit (.bool true)], args := [d1, d2, d3] }
  | _ => none }
def auditNeverRow : OpenClaim := { program := "ytinplddjjalohaagreatdoor", sum := "b3bc144a3babe86981740233c2348c04a1e6228e8ac8ee9364788b049db3812d", func := "weirbox/weirboxlaw44.AuditNever", spec := "auditNever", inPlace := ["internal/reflectlite.ValueOf", "(internal/reflectlite.Value).Type", "(internal/reflectlite.Value).IsNil", "internal/reflectlite.TypeOf", "(internal/reflectlite.Value).Elem", "(internal/reflectlite.Value).Set"], unfollowed := true, recurses := true, named := ["errors.errorType"], plainKeys := false, apart := false, laid := [("errors.errorType", laid_errors_errorType)] }
def AuditNeverSaid : Prop := auditNeverRow.holds Tryz.pinned (OpenSpec.ofChange auditNeverSpec)

/-- ITS FALSE NEIGHBOUR: 'it returns false'. Refute it at one input. -/
def auditNeverWrong : ChangeSpec := { name := "auditNever", fn := fun _ => fun
  | [d1, d2, d3] => { results := [.lit (.bool false)], args := [d1, d2, d3] }
  | _ => none }
def AuditNeverWrongFalsely : Prop := auditNeverRow.holds Tryz.pinned (OpenSpec.ofChange auditNeverWrong)

/-- 'weirboxlaw44.AuditAlike': WHATEVER THE INPUT: true; the input reads as it did. -/
def auditAlikeSpec : ChangeSpec := { name := "auditAlike", fn := fun _ => fun
  | [d1, d2, d3, d4] => { results := [.lit (.bool true)], args := [d1, d2, d3, d4] }
  | _ => none }
def auditAlikeRow : OpenClaim := { program := "ytinplddjjalohaagreatdoor", sum := "b3bc144a3babe86981740233c2348c04a1e6228e8ac8ee9364788b049db3812d", func := "weirbox/weirboxlaw44.AuditAlike", spec := "auditAlike", inPlace := ["internal/reflectlite.ValueOf", "(internal/reflectlite.Value).Type", "(internal/reflectlite.Value).IsNil", "internal/reflectlite.TypeOf", "(internal/reflectlite.Value).Elem", "(internal/reflectlite.Value).Set"], unfollowed := true, recurses := true, named := ["errors.errorType"], plainKeys := false, apart := false, laid := [("errors.errorType", laid_errors_errorType)] }
def AuditAlikeSaid : Prop := auditAlikeRow.holds Tryz.pinned (OpenSpec.ofChange auditAlikeSpec)

/-- ITS FALSE NEIGHBOUR: 'it returns false'. Refute it at one input. -/
def auditAlikeWrong : ChangeSpec := { name := "auditAlike", fn := fun _ => fun
  | [d1, d2, d3, d4] => { results := [.lit (.bool false)], args := [d1, d2, d3, d4] }
  | _ => none }
def AuditAlikeWrongFalsely : Prop := auditAlikeRow.holds Tryz.pinned (OpenSpec.ofChange auditAlikeWrong)

/-- 'weirboxlaw44.AuditWrong': WHATEVER THE INPUT: true; the input reads as it did. -/
def auditWrongSpec : ChangeSpec := { name := "auditWrong", fn := fun _ => fun
  | [d] => { results := [.lit (.bool true)], args := [d] }
  | _ => none }
def auditWrongRow : OpenClaim := { program := "ytinplddjjalohaagreatdoor", sum := "b3bc144a3babe86981740233c2348c04a1e6228e8ac8ee9364788b049db3812d", func := "weirbox/weirboxlaw44.AuditWrong", spec := "auditWrong", inPlace := ["internal/reflectlite.ValueOf", "(internal/reflectlite.Value).Type", "(internal/reflectlite.Value).IsNil", "internal/reflectlite.TypeOf", "(internal/reflectlite.Value).Elem", "(internal/reflectlite.Value).Set"], unfollowed := true, recurses := true, named := ["errors.errorType"], plainKeys := false, apart := false, laid := [("errors.errorType", laid_errors_errorType)] }
def AuditWrongSaid : Prop := auditWrongRow.holds Tryz.pinned (OpenSpec.ofChange auditWrongSpec)

/-- ITS FALSE NEIGHBOUR: 'it returns false'. Refute it at one input. -/
def auditWrongWrong : ChangeSpec := { name := "auditWrong", fn := fun _ => fun
  | [d] => { results := [.lit (.bool false)], args := [d] }
  | _ => none }
def AuditWrongWrongFalsely : Prop := auditWrongRow.holds Tryz.pinned (OpenSpec.ofChange auditWrongWrong)

/-- 'weirboxlaw44.AuditPrunes': WHATEVER THE INPUT: true; the input reads as it did. -/
def auditPrunesSpec : ChangeSpec := { name := "auditPrunes", fn := fun _ => fun
  | [d1, d2, d3, d4] => { results := [.lit (.bool true)], args := [d1, d2, d3, d4] }
  | _ => none }
def auditPrunesRow : OpenClaim := { program := "ytinplddjjalohaagreatdoor", sum := "b3bc144a3babe86981740233c2348c04a1e6228e8ac8ee9364788b049db3812d", func := "weirbox/weirboxlaw44.AuditPrunes", spec := "auditPrunes", inPlace := ["internal/reflectlite.ValueOf", "(internal/reflectlite.Value).Type", "(internal/reflectlite.Value).IsNil", "internal/reflectlite.TypeOf", "(internal/reflectlite.Value).Elem", "(internal/reflectlite.Value).Set"], unfollowed := true, recurses := true, named := ["errors.errorType"], plainKeys := false, apart := false, laid := [("errors.errorType", laid_errors_errorType)] }
def AuditPrunesSaid : Prop := auditPrunesRow.holds Tryz.pinned (OpenSpec.ofChange auditPrunesSpec)

/-- ITS FALSE NEIGHBOUR: 'it returns false'. Refute it at one input. -/
def auditPrunesWrong : ChangeSpec := { name := "auditPrunes", fn := fun _ => fun
  | [d1, d2, d3, d4] => { results := [.lit (.bool false)], args := [d1, d2, d3, d4] }
  | _ => none }
def AuditPrunesWrongFalsely : Prop := auditPrunesRow.holds Tryz.pinned (OpenSpec.ofChange auditPrunesWrong)

/-- 'weirboxlaw44.AuditDead': WHATEVER THE INPUT: true; the input reads as it did. -/
def auditDeadSpec : ChangeSpec := { name := "auditDead", fn := fun _ => fun
  | [d1, d2] => { results := [.lit (.bool true)], args := [d1, d2] }
  | _ => none }
def auditDeadRow : OpenClaim := { program := "ytinplddjjalohaagreatdoor", sum := "b3bc144a3babe86981740233c2348c04a1e6228e8ac8ee9364788b049db3812d", func := "weirbox/weirboxlaw44.AuditDead", spec := "auditDead", inPlace := ["internal/reflectlite.ValueOf", "(internal/reflectlite.Value).Type", "(internal/reflectlite.Value).IsNil", "internal/reflectlite.TypeOf", "(internal/reflectlite.Value).Elem", "(internal/reflectlite.Value).Set"], unfollowed := true, recurses := true, named := ["errors.errorType"], plainKeys := false, apart := false, laid := [("errors.errorType", laid_errors_errorType)] }
def AuditDeadSaid : Prop := auditDeadRow.holds Tryz.pinned (OpenSpec.ofChange auditDeadSpec)

/-- ITS FALSE NEIGHBOUR: 'it returns false'. Refute it at one input. -/
def auditDeadWrong : ChangeSpec := { name := "auditDead", fn := fun _ => fun
  | [d1, d2] => { results := [.lit (.bool false)], args := [d1, d2] }
  | _ => none }
def AuditDeadWrongFalsely : Prop := auditDeadRow.holds Tryz.pinned (OpenSpec.ofChange auditDeadWrong)

/- THE SECOND FORM. 'bulk': how many values and letters a reading holds, each counted each time it is reached (what is shared counts as often as it is met; a slice's spare places count too). A statement '..UptoSaid' is the law's where the arguments, and the package variables that the reading takes, are together of bulk at most 1048576: NARROWER than '..Said'. Prove '..Said' where nothing that the law and all that it calls make is longer than what came in: it says more and counts as full. Else prove '..UptoSaid'. A law counts once. -/
mutual
def uptoBulk {H : Type} : DataW H → Nat
  | .lit (.string bytes) => bytes.length + 1
  | .lit _ => 1
  | .nil => 1
  | .ptr d => uptoBulk d + 1
  | .slice elems spare => uptoBulkAll elems + uptoBulkAll spare + 1
  | .agg parts => uptoBulkAll parts + 1
  | .iface _ d => uptoBulk d + 1
  | .map entries => uptoBulkEntries entries + 1
  | .held _ => 1
def uptoBulkAll {H : Type} : List (DataW H) → Nat
  | [] => 0
  | d :: r => uptoBulk d + uptoBulkAll r
def uptoBulkEntries {H : Type} : List (Lit × DataW H) → Nat
  | [] => 0
  | x :: r => uptoBulkEntry x + uptoBulkEntries r
def uptoBulkEntry {H : Type} : Lit × DataW H → Nat
  | (.string bytes, d) => bytes.length + uptoBulk d + 1
  | (_, d) => uptoBulk d + 1
 end
def uptoSmall : (H : Type) → List (DataW H) → Bool := fun _ ds => decide (uptoBulkAll ds ≤ 1048576)
def OpenSpec.upto (s : _root_.Go.ChangeSpec) : _root_.Go.OpenSpec := { _root_.Go.OpenSpec.ofChange s with cond := some uptoSmall }

/-- 'weirboxlaw44.AuditNever', WHERE WHAT IT READS IS OF BULK AT MOST 1048576: true; the input reads as it did. -/
def auditNeverUptoRow : OpenClaim := { program := "ytinplddjjalohaagreatdoor", sum := "b3bc144a3babe86981740233c2348c04a1e6228e8ac8ee9364788b049db3812d", func := "weirbox/weirboxlaw44.AuditNever", spec := "auditNever", inPlace := ["internal/reflectlite.ValueOf", "(internal/reflectlite.Value).Type", "(internal/reflectlite.Value).IsNil", "internal/reflectlite.TypeOf", "(internal/reflectlite.Value).Elem", "(internal/reflectlite.Value).Set"], unfollowed := true, recurses := true, named := ["errors.errorType"], plainKeys := false, apart := false, laid := [("errors.errorType", laid_errors_errorType)], narrowed := true }
def AuditNeverUptoSaid : Prop := auditNeverUptoRow.holds Tryz.pinned (OpenSpec.upto auditNeverSpec)

/-- 'weirboxlaw44.AuditAlike', WHERE WHAT IT READS IS OF BULK AT MOST 1048576: true; the input reads as it did. -/
def auditAlikeUptoRow : OpenClaim := { program := "ytinplddjjalohaagreatdoor", sum := "b3bc144a3babe86981740233c2348c04a1e6228e8ac8ee9364788b049db3812d", func := "weirbox/weirboxlaw44.AuditAlike", spec := "auditAlike", inPlace := ["internal/reflectlite.ValueOf", "(internal/reflectlite.Value).Type", "(internal/reflectlite.Value).IsNil", "internal/reflectlite.TypeOf", "(internal/reflectlite.Value).Elem", "(internal/reflectlite.Value).Set"], unfollowed := true, recurses := true, named := ["errors.errorType"], plainKeys := false, apart := false, laid := [("errors.errorType", laid_errors_errorType)], narrowed := true }
def AuditAlikeUptoSaid : Prop := auditAlikeUptoRow.holds Tryz.pinned (OpenSpec.upto auditAlikeSpec)

/-- 'weirboxlaw44.AuditWrong', WHERE WHAT IT READS IS OF BULK AT MOST 1048576: true; the input reads as it did. -/
def auditWrongUptoRow : OpenClaim := { program := "ytinplddjjalohaagreatdoor", sum := "b3bc144a3babe86981740233c2348c04a1e6228e8ac8ee9364788b049db3812d", func := "weirbox/weirboxlaw44.AuditWrong", spec := "auditWrong", inPlace := ["internal/reflectlite.ValueOf", "(internal/reflectlite.Value).Type", "(internal/reflectlite.Value).IsNil", "internal/reflectlite.TypeOf", "(internal/reflectlite.Value).Elem", "(internal/reflectlite.Value).Set"], unfollowed := true, recurses := true, named := ["errors.errorType"], plainKeys := false, apart := false, laid := [("errors.errorType", laid_errors_errorType)], narrowed := true }
def AuditWrongUptoSaid : Prop := auditWrongUptoRow.holds Tryz.pinned (OpenSpec.upto auditWrongSpec)

/-- 'weirboxlaw44.AuditPrunes', WHERE WHAT IT READS IS OF BULK AT MOST 1048576: true; the input reads as it did. -/
def auditPrunesUptoRow : OpenClaim := { program := "ytinplddjjalohaagreatdoor", sum := "b3bc144a3babe86981740233c2348c04a1e6228e8ac8ee9364788b049db3812d", func := "weirbox/weirboxlaw44.AuditPrunes", spec := "auditPrunes", inPlace := ["internal/reflectlite.ValueOf", "(internal/reflectlite.Value).Type", "(internal/reflectlite.Value).IsNil", "internal/reflectlite.TypeOf", "(internal/reflectlite.Value).Elem", "(internal/reflectlite.Value).Set"], unfollowed := true, recurses := true, named := ["errors.errorType"], plainKeys := false, apart := false, laid := [("errors.errorType", laid_errors_errorType)], narrowed := true }
def AuditPrunesUptoSaid : Prop := auditPrunesUptoRow.holds Tryz.pinned (OpenSpec.upto auditPrunesSpec)

/-- 'weirboxlaw44.AuditDead', WHERE WHAT IT READS IS OF BULK AT MOST 1048576: true; the input reads as it did. -/
def auditDeadUptoRow : OpenClaim := { program := "ytinplddjjalohaagreatdoor", sum := "b3bc144a3babe86981740233c2348c04a1e6228e8ac8ee9364788b049db3812d", func := "weirbox/weirboxlaw44.AuditDead", spec := "auditDead", inPlace := ["internal/reflectlite.ValueOf", "(internal/reflectlite.Value).Type", "(internal/reflectlite.Value).IsNil", "internal/reflectlite.TypeOf", "(internal/reflectlite.Value).Elem", "(internal/reflectlite.Value).Set"], unfollowed := true, recurses := true, named := ["errors.errorType"], plainKeys := false, apart := false, laid := [("errors.errorType", laid_errors_errorType)], narrowed := true }
def AuditDeadUptoSaid : Prop := auditDeadUptoRow.holds Tryz.pinned (OpenSpec.upto auditDeadSpec)

end Rows
end Go.Proofs.YtinplddjjalohaaGreatDoor
