/-
  DERIVED. GIVEN WITH THE SEED: THE CARDS: each row of YtinplddjjalohaaGreatDoorRows.lean that lists a variable, with what it lists TIED to the program's text (the seventh form; the later family's looks); each row that meets fmt, with fmt's text TOLD by the authors' own Lean function (tested against real Go, not proved from fmt's source: count such statements apart). THE CARD IS WHAT COUNTS. Prove the row's statement (the work); the ties are given (YtinplddjjalohaaGreatDoorTie.lean); close each card by the builder's one call (the guide's Derived/Test/ToyasCard.lean, 'card_holds'). Laid BY PROGRAM, IN A SANDBOX (cutbox-door.mjs). By AI agents, Wed Nov 11 2026. No macro, syntax, notation, axiom, sorry.
-/
import Derived.Test.YtinplddjjalohaaGreatDoorRows
import GoSem.ClaimSeven
namespace Go.Proofs.YtinplddjjalohaaGreatDoor
namespace Rows

/-- THE TIED CARD OF 'weirboxlaw44.AuditNever'. -/
def auditNeverCard : Claim7 := { stood := { row := auditNeverRow, standIns := [], harness := (true, "fecc8bdf5ea39bd60a5582f722fdd6e46235b304f1d97462c25c67bbcdb64601"), looks := true }, kinds := [], alts := [], laidByText := true, laidKinds := [.handle], laidTests := true, laidLooks := .later }
def AuditNeverCardSaid : Prop := Claim7.holds Tryz.pinned (.plain (OpenSpec.ofChange auditNeverSpec)) auditNeverCard

/-- THE TIED CARD OF 'weirboxlaw44.AuditAlike'. -/
def auditAlikeCard : Claim7 := { stood := { row := auditAlikeRow, standIns := [], harness := (true, "fecc8bdf5ea39bd60a5582f722fdd6e46235b304f1d97462c25c67bbcdb64601"), looks := true }, kinds := [], alts := [], laidByText := true, laidKinds := [.handle], laidTests := true, laidLooks := .later }
def AuditAlikeCardSaid : Prop := Claim7.holds Tryz.pinned (.plain (OpenSpec.ofChange auditAlikeSpec)) auditAlikeCard

/-- THE TIED CARD OF 'weirboxlaw44.AuditWrong'. -/
def auditWrongCard : Claim7 := { stood := { row := auditWrongRow, standIns := [], harness := (true, "fecc8bdf5ea39bd60a5582f722fdd6e46235b304f1d97462c25c67bbcdb64601"), looks := true }, kinds := [], alts := [], laidByText := true, laidKinds := [.handle], laidTests := true, laidLooks := .later }
def AuditWrongCardSaid : Prop := Claim7.holds Tryz.pinned (.plain (OpenSpec.ofChange auditWrongSpec)) auditWrongCard

/-- THE TIED CARD OF 'weirboxlaw44.AuditPrunes'. -/
def auditPrunesCard : Claim7 := { stood := { row := auditPrunesRow, standIns := [], harness := (true, "fecc8bdf5ea39bd60a5582f722fdd6e46235b304f1d97462c25c67bbcdb64601"), looks := true }, kinds := [], alts := [], laidByText := true, laidKinds := [.handle], laidTests := true, laidLooks := .later }
def AuditPrunesCardSaid : Prop := Claim7.holds Tryz.pinned (.plain (OpenSpec.ofChange auditPrunesSpec)) auditPrunesCard

/-- THE TIED CARD OF 'weirboxlaw44.AuditDead'. -/
def auditDeadCard : Claim7 := { stood := { row := auditDeadRow, standIns := [], harness := (true, "fecc8bdf5ea39bd60a5582f722fdd6e46235b304f1d97462c25c67bbcdb64601"), looks := true }, kinds := [], alts := [], laidByText := true, laidKinds := [.handle], laidTests := true, laidLooks := .later }
def AuditDeadCardSaid : Prop := Claim7.holds Tryz.pinned (.plain (OpenSpec.ofChange auditDeadSpec)) auditDeadCard

/-- THE SECOND FORM's CARD OF 'weirboxlaw44.AuditNever'. -/
def auditNeverUptoCard : Claim7 := { stood := { row := auditNeverUptoRow, standIns := [], harness := (true, "fecc8bdf5ea39bd60a5582f722fdd6e46235b304f1d97462c25c67bbcdb64601"), looks := true }, kinds := [], alts := [], laidByText := true, laidKinds := [.handle], laidTests := true, laidLooks := .later }
def AuditNeverUptoCardSaid : Prop := Claim7.holds Tryz.pinned (.plain (OpenSpec.upto auditNeverSpec)) auditNeverUptoCard

/-- THE SECOND FORM's CARD OF 'weirboxlaw44.AuditAlike'. -/
def auditAlikeUptoCard : Claim7 := { stood := { row := auditAlikeUptoRow, standIns := [], harness := (true, "fecc8bdf5ea39bd60a5582f722fdd6e46235b304f1d97462c25c67bbcdb64601"), looks := true }, kinds := [], alts := [], laidByText := true, laidKinds := [.handle], laidTests := true, laidLooks := .later }
def AuditAlikeUptoCardSaid : Prop := Claim7.holds Tryz.pinned (.plain (OpenSpec.upto auditAlikeSpec)) auditAlikeUptoCard

/-- THE SECOND FORM's CARD OF 'weirboxlaw44.AuditWrong'. -/
def auditWrongUptoCard : Claim7 := { stood := { row := auditWrongUptoRow, standIns := [], harness := (true, "fecc8bdf5ea39bd60a5582f722fdd6e46235b304f1d97462c25c67bbcdb64601"), looks := true }, kinds := [], alts := [], laidByText := true, laidKinds := [.handle], laidTests := true, laidLooks := .later }
def AuditWrongUptoCardSaid : Prop := Claim7.holds Tryz.pinned (.plain (OpenSpec.upto auditWrongSpec)) auditWrongUptoCard

/-- THE SECOND FORM's CARD OF 'weirboxlaw44.AuditPrunes'. -/
def auditPrunesUptoCard : Claim7 := { stood := { row := auditPrunesUptoRow, standIns := [], harness := (true, "fecc8bdf5ea39bd60a5582f722fdd6e46235b304f1d97462c25c67bbcdb64601"), looks := true }, kinds := [], alts := [], laidByText := true, laidKinds := [.handle], laidTests := true, laidLooks := .later }
def AuditPrunesUptoCardSaid : Prop := Claim7.holds Tryz.pinned (.plain (OpenSpec.upto auditPrunesSpec)) auditPrunesUptoCard

/-- THE SECOND FORM's CARD OF 'weirboxlaw44.AuditDead'. -/
def auditDeadUptoCard : Claim7 := { stood := { row := auditDeadUptoRow, standIns := [], harness := (true, "fecc8bdf5ea39bd60a5582f722fdd6e46235b304f1d97462c25c67bbcdb64601"), looks := true }, kinds := [], alts := [], laidByText := true, laidKinds := [.handle], laidTests := true, laidLooks := .later }
def AuditDeadUptoCardSaid : Prop := Claim7.holds Tryz.pinned (.plain (OpenSpec.upto auditDeadSpec)) auditDeadUptoCard
end Rows
end Go.Proofs.YtinplddjjalohaaGreatDoor
