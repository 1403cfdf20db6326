/-
  DERIVED. GIVEN WITH THE SEED: THE CARDS: each row of YtplhfgobeicegaaGreatDoorRows.lean that lists a variable, with what it lists TIED to the program's text (the seventh form; the later family's looks); each row that meets fmt, with fmt's text TOLD by the authors' own Lean function (tested against real Go, not proved from fmt's source: count such statements apart). THE CARD IS WHAT COUNTS. Prove the row's statement (the work); the ties are given (YtplhfgobeicegaaGreatDoorTie.lean); close each card by the builder's one call (the guide's Derived/Test/ToyasCard.lean, 'card_holds'). Laid BY PROGRAM, IN A SANDBOX (cutbox-door.mjs). By AI agents, Wed Nov 11 2026. No macro, syntax, notation, axiom, sorry.
-/
import Derived.Test.YtplhfgobeicegaaGreatDoorRows
import GoSem.ClaimSeven
namespace Go.Proofs.YtplhfgobeicegaaGreatDoor
namespace Rows

/-- THE TIED CARD OF 'glyphcutterlaw15.PackEncodes'. -/
def packEncodesCard : Claim7 := { stood := { row := packEncodesRow, standIns := [], harness := (true, "24bed9f7023208b8b05bc502d89e131cdbcd1b0688057d6057de22a2e8a563ba"), looks := false }, kinds := [], alts := [], laidByText := true, laidKinds := [.data, .data, .data], laidTests := true, laidLooks := .later }
def PackEncodesCardSaid : Prop := Claim7.holds Tryz.pinned (.plain (OpenSpec.ofChange packEncodesSpec)) packEncodesCard

/-- THE TIED CARD OF 'glyphcutterlaw15.PackDecodes'. -/
def packDecodesCard : Claim7 := { stood := { row := packDecodesRow, standIns := [], harness := (true, "24bed9f7023208b8b05bc502d89e131cdbcd1b0688057d6057de22a2e8a563ba"), looks := false }, kinds := [], alts := [], laidByText := true, laidKinds := [.data, .data, .data], laidTests := true, laidLooks := .later }
def PackDecodesCardSaid : Prop := Claim7.holds Tryz.pinned (.plain (OpenSpec.ofChange packDecodesSpec)) packDecodesCard

/-- THE SECOND FORM's CARD OF 'glyphcutterlaw15.PackEncodes'. -/
def packEncodesUptoCard : Claim7 := { stood := { row := packEncodesUptoRow, standIns := [], harness := (true, "24bed9f7023208b8b05bc502d89e131cdbcd1b0688057d6057de22a2e8a563ba"), looks := false }, kinds := [], alts := [], laidByText := true, laidKinds := [.data, .data, .data], laidTests := true, laidLooks := .later }
def PackEncodesUptoCardSaid : Prop := Claim7.holds Tryz.pinned (.plain (OpenSpec.upto packEncodesSpec)) packEncodesUptoCard

/-- THE SECOND FORM's CARD OF 'glyphcutterlaw15.PackDecodes'. -/
def packDecodesUptoCard : Claim7 := { stood := { row := packDecodesUptoRow, standIns := [], harness := (true, "24bed9f7023208b8b05bc502d89e131cdbcd1b0688057d6057de22a2e8a563ba"), looks := false }, kinds := [], alts := [], laidByText := true, laidKinds := [.data, .data, .data], laidTests := true, laidLooks := .later }
def PackDecodesUptoCardSaid : Prop := Claim7.holds Tryz.pinned (.plain (OpenSpec.upto packDecodesSpec)) packDecodesUptoCard
end Rows
end Go.Proofs.YtplhfgobeicegaaGreatDoor
