/-
  No cell of these rows narrows 'for every input' (looked for: loops, veiled, ifaces, maps, wideKeys, modest, calm, conditions, laid).
  DERIVED. THE GIVEN ROWS OF THIS SEAT. 3 by the template 'for every input the law returns true; each argument reads behind the call as it read before'; 0 by the template 'total and deterministic' (their statements: YtknpgojdkobgjaaTotals.lean).
  GIVEN WITH THE SEED: the statements are not yours to turn. If you find one false, say at which input.
  Laid BY PROGRAM, IN A SANDBOX (cutbox-rows.mjs): the forced cells as the released guide's own fill.sh prints them over the translation a3cc22af0bc7db8c… (all of the seat's roots in one cut). By AI agents, Wed Nov 11 2026. No macro, syntax, notation, axiom, sorry.
-/
import Derived.Test.YtknpgojdkobgjaaChecked
import GoSem.Claim
import GoSem.ClaimJoined
import GoSem.ClaimMapViews
import Derived.JoinedTies
import Derived.KernelRfl
namespace Go.Proofs.Ytknpgojdkobgjaa
/- THE CELL 'sum', in the pinned program and in every row, IS THE sha256 OF THE DUMP (.gsa) THAT YtknpgojdkobgjaaProg.lean LOADS. Nothing in Lean hashes anything: it is a label: what it is worth is what the hold of that sum in a sandbox is worth. -/
noncomputable def Try.pinned : Pinned := { name := "ytknpgojdkobgjaa", sum := "a3cc22af0bc7db8cc3f01cc77ef54128938706ae4a76844ac8ac0e2b9e5eb195", checked := Try.checked }
namespace Rows
def none {H : Type} : Left H := { results := [], args := [] }

/-- 'weirboxlaw40.EnvsFold': WHATEVER THE INPUT: true; the input reads as it did. -/
def envsFoldSpec : ChangeSpec := { name := "envsFold", fn := fun _ => fun
  | [d1, d2, d3, d4] => { results := [.lit (.bool true)], args := [d1, d2, d3, d4] }
  | _ => none }
def envsFoldRow : OpenClaim := { program := "ytknpgojdkobgjaa", sum := "a3cc22af0bc7db8cc3f01cc77ef54128938706ae4a76844ac8ac0e2b9e5eb195", func := "weirbox/weirboxlaw40.EnvsFold", spec := "envsFold", unfollowed := true, recurses := true, apart := false }
def EnvsFoldSaid : Prop := envsFoldRow.holds Try.pinned (OpenSpec.ofChange envsFoldSpec)

/-- ITS FALSE NEIGHBOUR: 'it returns false'. Refute it at one input. -/
def envsFoldWrong : ChangeSpec := { name := "envsFold", fn := fun _ => fun
  | [d1, d2, d3, d4] => { results := [.lit (.bool false)], args := [d1, d2, d3, d4] }
  | _ => none }
def EnvsFoldWrongFalsely : Prop := envsFoldRow.holds Try.pinned (OpenSpec.ofChange envsFoldWrong)

/-- 'weirboxlaw38.NormOut': WHATEVER THE INPUT: true; the input reads as it did. -/
def normOutSpec : ChangeSpec := { name := "normOut", fn := fun _ => fun
  | [d1, d2, d3, d4] => { results := [.lit (.bool true)], args := [d1, d2, d3, d4] }
  | _ => none }
def normOutRow : OpenClaim := { program := "ytknpgojdkobgjaa", sum := "a3cc22af0bc7db8cc3f01cc77ef54128938706ae4a76844ac8ac0e2b9e5eb195", func := "weirbox/weirboxlaw38.NormOut", spec := "normOut", unfollowed := true, recurses := true, apart := false }
def NormOutSaid : Prop := normOutRow.holds Try.pinned (OpenSpec.ofChange normOutSpec)

/-- ITS FALSE NEIGHBOUR: 'it returns false'. Refute it at one input. -/
def normOutWrong : ChangeSpec := { name := "normOut", fn := fun _ => fun
  | [d1, d2, d3, d4] => { results := [.lit (.bool false)], args := [d1, d2, d3, d4] }
  | _ => none }
def NormOutWrongFalsely : Prop := normOutRow.holds Try.pinned (OpenSpec.ofChange normOutWrong)

/-- 'weirboxlaw39.DifferAt': WHATEVER THE INPUT: true; the input reads as it did. -/
def differAtSpec : ChangeSpec := { name := "differAt", fn := fun _ => fun
  | [d1, d2, d3] => { results := [.lit (.bool true)], args := [d1, d2, d3] }
  | _ => none }
def differAtRow : OpenClaim := { program := "ytknpgojdkobgjaa", sum := "a3cc22af0bc7db8cc3f01cc77ef54128938706ae4a76844ac8ac0e2b9e5eb195", func := "weirbox/weirboxlaw39.DifferAt", spec := "differAt", unfollowed := true, recurses := true, apart := false }
def DifferAtSaid : Prop := differAtRow.holds Try.pinned (OpenSpec.ofChange differAtSpec)

/-- ITS FALSE NEIGHBOUR: 'it returns false'. Refute it at one input. -/
def differAtWrong : ChangeSpec := { name := "differAt", fn := fun _ => fun
  | [d1, d2, d3] => { results := [.lit (.bool false)], args := [d1, d2, d3] }
  | _ => none }
def DifferAtWrongFalsely : Prop := differAtRow.holds Try.pinned (OpenSpec.ofChange differAtWrong)

/- THE SECOND FORM. 'bulk': how many values and letters a reading holds, each counted each time it is reached (what is shared counts as often as it is met; a slice's spare places count too). A statement '..UptoSaid' is the law's where the arguments, and the package variables that the reading takes, are together of bulk at most 1048576: NARROWER than '..Said'. Prove '..Said' where nothing that the law and all that it calls make is longer than what came in: it says more and counts as full. Else prove '..UptoSaid'. A law counts once. -/
mutual
def uptoBulk {H : Type} : DataW H → Nat
  | .lit (.string bytes) => bytes.length + 1
  | .lit _ => 1
  | .nil => 1
  | .ptr d => uptoBulk d + 1
  | .slice elems spare => uptoBulkAll elems + uptoBulkAll spare + 1
  | .agg parts => uptoBulkAll parts + 1
  | .iface _ d => uptoBulk d + 1
  | .map entries => uptoBulkEntries entries + 1
  | .held _ => 1
def uptoBulkAll {H : Type} : List (DataW H) → Nat
  | [] => 0
  | d :: r => uptoBulk d + uptoBulkAll r
def uptoBulkEntries {H : Type} : List (Lit × DataW H) → Nat
  | [] => 0
  | x :: r => uptoBulkEntry x + uptoBulkEntries r
def uptoBulkEntry {H : Type} : Lit × DataW H → Nat
  | (.string bytes, d) => bytes.length + uptoBulk d + 1
  | (_, d) => uptoBulk d + 1
 end
def uptoSmall : (H : Type) → List (DataW H) → Bool := fun _ ds => decide (uptoBulkAll ds ≤ 1048576)
def OpenSpec.upto (s : _root_.Go.ChangeSpec) : _root_.Go.OpenSpec := { _root_.Go.OpenSpec.ofChange s with cond := some uptoSmall }

/-- 'weirboxlaw40.EnvsFold', WHERE WHAT IT READS IS OF BULK AT MOST 1048576: true; the input reads as it did. -/
def envsFoldUptoRow : OpenClaim := { program := "ytknpgojdkobgjaa", sum := "a3cc22af0bc7db8cc3f01cc77ef54128938706ae4a76844ac8ac0e2b9e5eb195", func := "weirbox/weirboxlaw40.EnvsFold", spec := "envsFold", unfollowed := true, recurses := true, apart := false, narrowed := true }
def EnvsFoldUptoSaid : Prop := envsFoldUptoRow.holds Try.pinned (OpenSpec.upto envsFoldSpec)

/-- 'weirboxlaw38.NormOut', WHERE WHAT IT READS IS OF BULK AT MOST 1048576: true; the input reads as it did. -/
def normOutUptoRow : OpenClaim := { program := "ytknpgojdkobgjaa", sum := "a3cc22af0bc7db8cc3f01cc77ef54128938706ae4a76844ac8ac0e2b9e5eb195", func := "weirbox/weirboxlaw38.NormOut", spec := "normOut", unfollowed := true, recurses := true, apart := false, narrowed := true }
def NormOutUptoSaid : Prop := normOutUptoRow.holds Try.pinned (OpenSpec.upto normOutSpec)

/-- 'weirboxlaw39.DifferAt', WHERE WHAT IT READS IS OF BULK AT MOST 1048576: true; the input reads as it did. -/
def differAtUptoRow : OpenClaim := { program := "ytknpgojdkobgjaa", sum := "a3cc22af0bc7db8cc3f01cc77ef54128938706ae4a76844ac8ac0e2b9e5eb195", func := "weirbox/weirboxlaw39.DifferAt", spec := "differAt", unfollowed := true, recurses := true, apart := false, narrowed := true }
def DifferAtUptoSaid : Prop := differAtUptoRow.holds Try.pinned (OpenSpec.upto differAtSpec)

end Rows
end Go.Proofs.Ytknpgojdkobgjaa
