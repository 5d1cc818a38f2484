/-
  No cell of these rows narrows 'for every input' (looked for: loops, veiled, ifaces, maps, wideKeys, modest, calm, conditions, laid).
  DERIVED. THE GIVEN ROWS OF THIS SEAT. 9 by the template 'for every input the law returns true; each argument reads behind the call as it read before'; 0 by the template 'total and deterministic' (their statements: YtokmmcflinnfiaaTotals.lean).
  GIVEN WITH THE SEED: the statements are not yours to turn. If you find one false, say at which input.
  Laid BY PROGRAM, IN A SANDBOX (cutbox-rows.mjs): the forced cells as the released guide's own fill.sh prints them over the translation 2814faf9633c7a1e… (all of the seat's roots in one cut). By AI agents, Wed Nov 11 2026. No macro, syntax, notation, axiom, sorry.
-/
import Derived.Test.YtokmmcflinnfiaaChecked
import GoSem.Claim
import GoSem.ClaimJoined
import GoSem.ClaimMapViews
import Derived.JoinedTies
import Derived.KernelRfl
namespace Go.Proofs.Ytokmmcflinnfiaa
/- THE CELL 'sum', in the pinned program and in every row, IS THE sha256 OF THE DUMP (.gsa) THAT YtokmmcflinnfiaaProg.lean LOADS. Nothing in Lean hashes anything: it is a label: what it is worth is what the hold of that sum in a sandbox is worth. -/
noncomputable def Try.pinned : Pinned := { name := "ytokmmcflinnfiaa", sum := "2814faf9633c7a1ebb1ee32660bf568c928385bcd848585b80a08ff5fa5f5dcb", checked := Try.checked }
namespace Rows
def none {H : Type} : Left H := { results := [], args := [] }

/-- 'weirboxlaw40.EnvsApart': WHATEVER THE INPUT: true; the input reads as it did. -/
def envsApartSpec : ChangeSpec := { name := "envsApart", fn := fun _ => fun
  | [d1, d2, d3] => { results := [.lit (.bool true)], args := [d1, d2, d3] }
  | _ => none }
def envsApartRow : OpenClaim := { program := "ytokmmcflinnfiaa", sum := "2814faf9633c7a1ebb1ee32660bf568c928385bcd848585b80a08ff5fa5f5dcb", func := "weirbox/weirboxlaw40.EnvsApart", spec := "envsApart", unfollowed := true, recurses := true, apart := false }
def EnvsApartSaid : Prop := envsApartRow.holds Try.pinned (OpenSpec.ofChange envsApartSpec)

/-- ITS FALSE NEIGHBOUR: 'it returns false'. Refute it at one input. -/
def envsApartWrong : ChangeSpec := { name := "envsApart", fn := fun _ => fun
  | [d1, d2, d3] => { results := [.lit (.bool false)], args := [d1, d2, d3] }
  | _ => none }
def EnvsApartWrongFalsely : Prop := envsApartRow.holds Try.pinned (OpenSpec.ofChange envsApartWrong)

/-- 'weirboxlaw40.EnvsTell': WHATEVER THE INPUT: true; the input reads as it did. -/
def envsTellSpec : ChangeSpec := { name := "envsTell", fn := fun _ => fun
  | [d1, d2] => { results := [.lit (.bool true)], args := [d1, d2] }
  | _ => none }
def envsTellRow : OpenClaim := { program := "ytokmmcflinnfiaa", sum := "2814faf9633c7a1ebb1ee32660bf568c928385bcd848585b80a08ff5fa5f5dcb", func := "weirbox/weirboxlaw40.EnvsTell", spec := "envsTell", unfollowed := true, recurses := true, apart := false }
def EnvsTellSaid : Prop := envsTellRow.holds Try.pinned (OpenSpec.ofChange envsTellSpec)

/-- ITS FALSE NEIGHBOUR: 'it returns false'. Refute it at one input. -/
def envsTellWrong : ChangeSpec := { name := "envsTell", fn := fun _ => fun
  | [d1, d2] => { results := [.lit (.bool false)], args := [d1, d2] }
  | _ => none }
def EnvsTellWrongFalsely : Prop := envsTellRow.holds Try.pinned (OpenSpec.ofChange envsTellWrong)

/-- 'weirboxlaw39.DifferTells': WHATEVER THE INPUT: true; the input reads as it did. -/
def differTellsSpec : ChangeSpec := { name := "differTells", fn := fun _ => fun
  | [d1, d2, d3, d4] => { results := [.lit (.bool true)], args := [d1, d2, d3, d4] }
  | _ => none }
def differTellsRow : OpenClaim := { program := "ytokmmcflinnfiaa", sum := "2814faf9633c7a1ebb1ee32660bf568c928385bcd848585b80a08ff5fa5f5dcb", func := "weirbox/weirboxlaw39.DifferTells", spec := "differTells", unfollowed := true, recurses := true, apart := false }
def DifferTellsSaid : Prop := differTellsRow.holds Try.pinned (OpenSpec.ofChange differTellsSpec)

/-- ITS FALSE NEIGHBOUR: 'it returns false'. Refute it at one input. -/
def differTellsWrong : ChangeSpec := { name := "differTells", fn := fun _ => fun
  | [d1, d2, d3, d4] => { results := [.lit (.bool false)], args := [d1, d2, d3, d4] }
  | _ => none }
def DifferTellsWrongFalsely : Prop := differTellsRow.holds Try.pinned (OpenSpec.ofChange differTellsWrong)

/-- 'weirboxlaw39.DifferParts': WHATEVER THE INPUT: true; the input reads as it did. -/
def differPartsSpec : ChangeSpec := { name := "differParts", fn := fun _ => fun
  | [d1, d2, d3, d4] => { results := [.lit (.bool true)], args := [d1, d2, d3, d4] }
  | _ => none }
def differPartsRow : OpenClaim := { program := "ytokmmcflinnfiaa", sum := "2814faf9633c7a1ebb1ee32660bf568c928385bcd848585b80a08ff5fa5f5dcb", func := "weirbox/weirboxlaw39.DifferParts", spec := "differParts", unfollowed := true, recurses := true, apart := false }
def DifferPartsSaid : Prop := differPartsRow.holds Try.pinned (OpenSpec.ofChange differPartsSpec)

/-- ITS FALSE NEIGHBOUR: 'it returns false'. Refute it at one input. -/
def differPartsWrong : ChangeSpec := { name := "differParts", fn := fun _ => fun
  | [d1, d2, d3, d4] => { results := [.lit (.bool false)], args := [d1, d2, d3, d4] }
  | _ => none }
def DifferPartsWrongFalsely : Prop := differPartsRow.holds Try.pinned (OpenSpec.ofChange differPartsWrong)

/-- 'weirboxlaw30.ExecJoins': WHATEVER THE INPUT: true; the input reads as it did. -/
def execJoinsSpec : ChangeSpec := { name := "execJoins", fn := fun _ => fun
  | [d1, d2, d3, d4, d5] => { results := [.lit (.bool true)], args := [d1, d2, d3, d4, d5] }
  | _ => none }
def execJoinsRow : OpenClaim := { program := "ytokmmcflinnfiaa", sum := "2814faf9633c7a1ebb1ee32660bf568c928385bcd848585b80a08ff5fa5f5dcb", func := "weirbox/weirboxlaw30.ExecJoins", spec := "execJoins", unfollowed := true, recurses := true, apart := false }
def ExecJoinsSaid : Prop := execJoinsRow.holds Try.pinned (OpenSpec.ofChange execJoinsSpec)

/-- ITS FALSE NEIGHBOUR: 'it returns false'. Refute it at one input. -/
def execJoinsWrong : ChangeSpec := { name := "execJoins", fn := fun _ => fun
  | [d1, d2, d3, d4, d5] => { results := [.lit (.bool false)], args := [d1, d2, d3, d4, d5] }
  | _ => none }
def ExecJoinsWrongFalsely : Prop := execJoinsRow.holds Try.pinned (OpenSpec.ofChange execJoinsWrong)

/-- 'weirboxlaw30.ExecCopies': WHATEVER THE INPUT: true; the input reads as it did. -/
def execCopiesSpec : ChangeSpec := { name := "execCopies", fn := fun _ => fun
  | [d1, d2, d3, d4] => { results := [.lit (.bool true)], args := [d1, d2, d3, d4] }
  | _ => none }
def execCopiesRow : OpenClaim := { program := "ytokmmcflinnfiaa", sum := "2814faf9633c7a1ebb1ee32660bf568c928385bcd848585b80a08ff5fa5f5dcb", func := "weirbox/weirboxlaw30.ExecCopies", spec := "execCopies", unfollowed := true, recurses := true, apart := false }
def ExecCopiesSaid : Prop := execCopiesRow.holds Try.pinned (OpenSpec.ofChange execCopiesSpec)

/-- ITS FALSE NEIGHBOUR: 'it returns false'. Refute it at one input. -/
def execCopiesWrong : ChangeSpec := { name := "execCopies", fn := fun _ => fun
  | [d1, d2, d3, d4] => { results := [.lit (.bool false)], args := [d1, d2, d3, d4] }
  | _ => none }
def ExecCopiesWrongFalsely : Prop := execCopiesRow.holds Try.pinned (OpenSpec.ofChange execCopiesWrong)

/-- 'weirboxlaw30.ExecRewrites': WHATEVER THE INPUT: true; the input reads as it did. -/
def execRewritesSpec : ChangeSpec := { name := "execRewrites", fn := fun _ => fun
  | [d1, d2, d3, d4, d5] => { results := [.lit (.bool true)], args := [d1, d2, d3, d4, d5] }
  | _ => none }
def execRewritesRow : OpenClaim := { program := "ytokmmcflinnfiaa", sum := "2814faf9633c7a1ebb1ee32660bf568c928385bcd848585b80a08ff5fa5f5dcb", func := "weirbox/weirboxlaw30.ExecRewrites", spec := "execRewrites", unfollowed := true, recurses := true, apart := false }
def ExecRewritesSaid : Prop := execRewritesRow.holds Try.pinned (OpenSpec.ofChange execRewritesSpec)

/-- ITS FALSE NEIGHBOUR: 'it returns false'. Refute it at one input. -/
def execRewritesWrong : ChangeSpec := { name := "execRewrites", fn := fun _ => fun
  | [d1, d2, d3, d4, d5] => { results := [.lit (.bool false)], args := [d1, d2, d3, d4, d5] }
  | _ => none }
def ExecRewritesWrongFalsely : Prop := execRewritesRow.holds Try.pinned (OpenSpec.ofChange execRewritesWrong)

/-- 'weirboxlaw38.NormAgain': WHATEVER THE INPUT: true; the input reads as it did. -/
def normAgainSpec : ChangeSpec := { name := "normAgain", fn := fun _ => fun
  | [d1, d2, d3, d4] => { results := [.lit (.bool true)], args := [d1, d2, d3, d4] }
  | _ => none }
def normAgainRow : OpenClaim := { program := "ytokmmcflinnfiaa", sum := "2814faf9633c7a1ebb1ee32660bf568c928385bcd848585b80a08ff5fa5f5dcb", func := "weirbox/weirboxlaw38.NormAgain", spec := "normAgain", unfollowed := true, recurses := true, apart := false }
def NormAgainSaid : Prop := normAgainRow.holds Try.pinned (OpenSpec.ofChange normAgainSpec)

/-- ITS FALSE NEIGHBOUR: 'it returns false'. Refute it at one input. -/
def normAgainWrong : ChangeSpec := { name := "normAgain", fn := fun _ => fun
  | [d1, d2, d3, d4] => { results := [.lit (.bool false)], args := [d1, d2, d3, d4] }
  | _ => none }
def NormAgainWrongFalsely : Prop := normAgainRow.holds Try.pinned (OpenSpec.ofChange normAgainWrong)

/-- 'weirboxlaw32.AtomJoins': WHATEVER THE INPUT: true; the input reads as it did. -/
def atomJoinsSpec : ChangeSpec := { name := "atomJoins", fn := fun _ => fun
  | [d1, d2, d3] => { results := [.lit (.bool true)], args := [d1, d2, d3] }
  | _ => none }
def atomJoinsRow : OpenClaim := { program := "ytokmmcflinnfiaa", sum := "2814faf9633c7a1ebb1ee32660bf568c928385bcd848585b80a08ff5fa5f5dcb", func := "weirbox/weirboxlaw32.AtomJoins", spec := "atomJoins", unfollowed := true, recurses := true, apart := false }
def AtomJoinsSaid : Prop := atomJoinsRow.holds Try.pinned (OpenSpec.ofChange atomJoinsSpec)

/-- ITS FALSE NEIGHBOUR: 'it returns false'. Refute it at one input. -/
def atomJoinsWrong : ChangeSpec := { name := "atomJoins", fn := fun _ => fun
  | [d1, d2, d3] => { results := [.lit (.bool false)], args := [d1, d2, d3] }
  | _ => none }
def AtomJoinsWrongFalsely : Prop := atomJoinsRow.holds Try.pinned (OpenSpec.ofChange atomJoinsWrong)

/- THE SECOND FORM. 'bulk': how many values and letters a reading holds, each counted each time it is reached (what is shared counts as often as it is met; a slice's spare places count too). A statement '..UptoSaid' is the law's where the arguments, and the package variables that the reading takes, are together of bulk at most 1048576: NARROWER than '..Said'. Prove '..Said' where nothing that the law and all that it calls make is longer than what came in: it says more and counts as full. Else prove '..UptoSaid'. A law counts once. -/
mutual
def uptoBulk {H : Type} : DataW H → Nat
  | .lit (.string bytes) => bytes.length + 1
  | .lit _ => 1
  | .nil => 1
  | .ptr d => uptoBulk d + 1
  | .slice elems spare => uptoBulkAll elems + uptoBulkAll spare + 1
  | .agg parts => uptoBulkAll parts + 1
  | .iface _ d => uptoBulk d + 1
  | .map entries => uptoBulkEntries entries + 1
  | .held _ => 1
def uptoBulkAll {H : Type} : List (DataW H) → Nat
  | [] => 0
  | d :: r => uptoBulk d + uptoBulkAll r
def uptoBulkEntries {H : Type} : List (Lit × DataW H) → Nat
  | [] => 0
  | x :: r => uptoBulkEntry x + uptoBulkEntries r
def uptoBulkEntry {H : Type} : Lit × DataW H → Nat
  | (.string bytes, d) => bytes.length + uptoBulk d + 1
  | (_, d) => uptoBulk d + 1
 end
def uptoSmall : (H : Type) → List (DataW H) → Bool := fun _ ds => decide (uptoBulkAll ds ≤ 1048576)
def OpenSpec.upto (s : _root_.Go.ChangeSpec) : _root_.Go.OpenSpec := { _root_.Go.OpenSpec.ofChange s with cond := some uptoSmall }

/-- 'weirboxlaw40.EnvsApart', WHERE WHAT IT READS IS OF BULK AT MOST 1048576: true; the input reads as it did. -/
def envsApartUptoRow : OpenClaim := { program := "ytokmmcflinnfiaa", sum := "2814faf9633c7a1ebb1ee32660bf568c928385bcd848585b80a08ff5fa5f5dcb", func := "weirbox/weirboxlaw40.EnvsApart", spec := "envsApart", unfollowed := true, recurses := true, apart := false, narrowed := true }
def EnvsApartUptoSaid : Prop := envsApartUptoRow.holds Try.pinned (OpenSpec.upto envsApartSpec)

/-- 'weirboxlaw40.EnvsTell', WHERE WHAT IT READS IS OF BULK AT MOST 1048576: true; the input reads as it did. -/
def envsTellUptoRow : OpenClaim := { program := "ytokmmcflinnfiaa", sum := "2814faf9633c7a1ebb1ee32660bf568c928385bcd848585b80a08ff5fa5f5dcb", func := "weirbox/weirboxlaw40.EnvsTell", spec := "envsTell", unfollowed := true, recurses := true, apart := false, narrowed := true }
def EnvsTellUptoSaid : Prop := envsTellUptoRow.holds Try.pinned (OpenSpec.upto envsTellSpec)

/-- 'weirboxlaw39.DifferTells', WHERE WHAT IT READS IS OF BULK AT MOST 1048576: true; the input reads as it did. -/
def differTellsUptoRow : OpenClaim := { program := "ytokmmcflinnfiaa", sum := "2814faf9633c7a1ebb1ee32660bf568c928385bcd848585b80a08ff5fa5f5dcb", func := "weirbox/weirboxlaw39.DifferTells", spec := "differTells", unfollowed := true, recurses := true, apart := false, narrowed := true }
def DifferTellsUptoSaid : Prop := differTellsUptoRow.holds Try.pinned (OpenSpec.upto differTellsSpec)

/-- 'weirboxlaw39.DifferParts', WHERE WHAT IT READS IS OF BULK AT MOST 1048576: true; the input reads as it did. -/
def differPartsUptoRow : OpenClaim := { program := "ytokmmcflinnfiaa", sum := "2814faf9633c7a1ebb1ee32660bf568c928385bcd848585b80a08ff5fa5f5dcb", func := "weirbox/weirboxlaw39.DifferParts", spec := "differParts", unfollowed := true, recurses := true, apart := false, narrowed := true }
def DifferPartsUptoSaid : Prop := differPartsUptoRow.holds Try.pinned (OpenSpec.upto differPartsSpec)

/-- 'weirboxlaw30.ExecJoins', WHERE WHAT IT READS IS OF BULK AT MOST 1048576: true; the input reads as it did. -/
def execJoinsUptoRow : OpenClaim := { program := "ytokmmcflinnfiaa", sum := "2814faf9633c7a1ebb1ee32660bf568c928385bcd848585b80a08ff5fa5f5dcb", func := "weirbox/weirboxlaw30.ExecJoins", spec := "execJoins", unfollowed := true, recurses := true, apart := false, narrowed := true }
def ExecJoinsUptoSaid : Prop := execJoinsUptoRow.holds Try.pinned (OpenSpec.upto execJoinsSpec)

/-- 'weirboxlaw30.ExecCopies', WHERE WHAT IT READS IS OF BULK AT MOST 1048576: true; the input reads as it did. -/
def execCopiesUptoRow : OpenClaim := { program := "ytokmmcflinnfiaa", sum := "2814faf9633c7a1ebb1ee32660bf568c928385bcd848585b80a08ff5fa5f5dcb", func := "weirbox/weirboxlaw30.ExecCopies", spec := "execCopies", unfollowed := true, recurses := true, apart := false, narrowed := true }
def ExecCopiesUptoSaid : Prop := execCopiesUptoRow.holds Try.pinned (OpenSpec.upto execCopiesSpec)

/-- 'weirboxlaw30.ExecRewrites', WHERE WHAT IT READS IS OF BULK AT MOST 1048576: true; the input reads as it did. -/
def execRewritesUptoRow : OpenClaim := { program := "ytokmmcflinnfiaa", sum := "2814faf9633c7a1ebb1ee32660bf568c928385bcd848585b80a08ff5fa5f5dcb", func := "weirbox/weirboxlaw30.ExecRewrites", spec := "execRewrites", unfollowed := true, recurses := true, apart := false, narrowed := true }
def ExecRewritesUptoSaid : Prop := execRewritesUptoRow.holds Try.pinned (OpenSpec.upto execRewritesSpec)

/-- 'weirboxlaw38.NormAgain', WHERE WHAT IT READS IS OF BULK AT MOST 1048576: true; the input reads as it did. -/
def normAgainUptoRow : OpenClaim := { program := "ytokmmcflinnfiaa", sum := "2814faf9633c7a1ebb1ee32660bf568c928385bcd848585b80a08ff5fa5f5dcb", func := "weirbox/weirboxlaw38.NormAgain", spec := "normAgain", unfollowed := true, recurses := true, apart := false, narrowed := true }
def NormAgainUptoSaid : Prop := normAgainUptoRow.holds Try.pinned (OpenSpec.upto normAgainSpec)

/-- 'weirboxlaw32.AtomJoins', WHERE WHAT IT READS IS OF BULK AT MOST 1048576: true; the input reads as it did. -/
def atomJoinsUptoRow : OpenClaim := { program := "ytokmmcflinnfiaa", sum := "2814faf9633c7a1ebb1ee32660bf568c928385bcd848585b80a08ff5fa5f5dcb", func := "weirbox/weirboxlaw32.AtomJoins", spec := "atomJoins", unfollowed := true, recurses := true, apart := false, narrowed := true }
def AtomJoinsUptoSaid : Prop := atomJoinsUptoRow.holds Try.pinned (OpenSpec.upto atomJoinsSpec)

end Rows
end Go.Proofs.Ytokmmcflinnfiaa
