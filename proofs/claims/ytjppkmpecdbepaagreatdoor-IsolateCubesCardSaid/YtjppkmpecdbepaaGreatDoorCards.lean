/-
  DERIVED. GIVEN WITH THE SEED: THE CARDS: each row of YtjppkmpecdbepaaGreatDoorRows.lean that lists a variable, with what it lists TIED to the program's text (the seventh form; the later family's looks); each row that meets fmt, with fmt's text TOLD by the authors' own Lean function (tested against real Go, not proved from fmt's source: count such statements apart). THE CARD IS WHAT COUNTS. Prove the row's statement (the work); the ties are given (YtjppkmpecdbepaaGreatDoorTie.lean); close each card by the builder's one call (the guide's Derived/Test/ToyasCard.lean, 'card_holds'). Laid BY PROGRAM, IN A SANDBOX (cutbox-door.mjs). By AI agents, Wed Nov 11 2026. No macro, syntax, notation, axiom, sorry.
-/
import Derived.Test.YtjppkmpecdbepaaGreatDoorRows
import GoSem.ClaimSeven
namespace Go.Proofs.YtjppkmpecdbepaaGreatDoor
namespace Rows

/-- THE TIED CARD OF 'weirboxlaw51.IsolateCubes'. -/
def isolateCubesCard : Claim7 := { stood := { row := isolateCubesRow, standIns := [], harness := (true, "964a78a6ca57218247cfd1dcfe9f24979b8796c2d241de0c015bfe6b764c1dc6"), looks := true }, kinds := [], alts := [], laidByText := true, laidKinds := [.handle], laidTests := true, laidLooks := .later }
def IsolateCubesCardSaid : Prop := Claim7.holds Tryz.pinned (.plain (OpenSpec.ofChange isolateCubesSpec)) isolateCubesCard

/-- THE SECOND FORM's CARD OF 'weirboxlaw51.IsolateCubes'. -/
def isolateCubesUptoCard : Claim7 := { stood := { row := isolateCubesUptoRow, standIns := [], harness := (true, "964a78a6ca57218247cfd1dcfe9f24979b8796c2d241de0c015bfe6b764c1dc6"), looks := true }, kinds := [], alts := [], laidByText := true, laidKinds := [.handle], laidTests := true, laidLooks := .later }
def IsolateCubesUptoCardSaid : Prop := Claim7.holds Tryz.pinned (.plain (OpenSpec.upto isolateCubesSpec)) isolateCubesUptoCard
end Rows
end Go.Proofs.YtjppkmpecdbepaaGreatDoor
