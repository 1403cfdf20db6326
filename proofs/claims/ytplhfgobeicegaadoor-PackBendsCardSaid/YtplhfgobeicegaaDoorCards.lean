/-
  DERIVED. GIVEN WITH THE SEED: THE CARDS: each row of YtplhfgobeicegaaDoorRows.lean that lists a variable, with what it lists TIED to the program's text (the seventh form; the later family's looks); each row that meets fmt, with fmt's text TOLD by the authors' own Lean function (tested against real Go, not proved from fmt's source: count such statements apart). THE CARD IS WHAT COUNTS. Prove the row's statement (the work); the ties are given (YtplhfgobeicegaaDoorTie.lean); close each card by the builder's one call (the guide's Derived/Test/ToyasCard.lean, 'card_holds'). Laid BY PROGRAM, IN A SANDBOX (cutbox-door.mjs). By AI agents, Wed Nov 11 2026. No macro, syntax, notation, axiom, sorry.
-/
import Derived.Test.YtplhfgobeicegaaDoorRows
import GoSem.ClaimSeven
namespace Go.Proofs.YtplhfgobeicegaaDoor
namespace Rows

/-- THE TIED CARD OF 'glyphcutterlaw15.PackSums'. -/
def packSumsCard : Claim7 := { stood := { row := packSumsRow, standIns := [], harness := (true, "2ed6f6dfed61b9052876d9806648a724102cf55b140e34a27c06ecb56fe5892c"), looks := false }, kinds := [], alts := [], laidByText := true, laidKinds := [.data, .data, .data], laidTests := true, laidLooks := .later }
def PackSumsCardSaid : Prop := Claim7.holds Tryd.pinned (.plain (OpenSpec.ofChange packSumsSpec)) packSumsCard

/-- THE TIED CARD OF 'glyphcutterlaw15.PackBends'. -/
def packBendsCard : Claim7 := { stood := { row := packBendsRow, standIns := [], harness := (true, "2ed6f6dfed61b9052876d9806648a724102cf55b140e34a27c06ecb56fe5892c"), looks := false }, kinds := [], alts := [], laidByText := true, laidKinds := [.data, .data, .data], laidTests := true, laidLooks := .later }
def PackBendsCardSaid : Prop := Claim7.holds Tryd.pinned (.plain (OpenSpec.ofChange packBendsSpec)) packBendsCard

/-- THE TIED CARD OF 'glyphcutterlaw15.PackOnly'. -/
def packOnlyCard : Claim7 := { stood := { row := packOnlyRow, standIns := [], harness := (true, "2ed6f6dfed61b9052876d9806648a724102cf55b140e34a27c06ecb56fe5892c"), looks := false }, kinds := [], alts := [], laidByText := true, laidKinds := [.data, .data, .data], laidTests := true, laidLooks := .later }
def PackOnlyCardSaid : Prop := Claim7.holds Tryd.pinned (.plain (OpenSpec.ofChange packOnlySpec)) packOnlyCard

/-- THE SECOND FORM's CARD OF 'glyphcutterlaw15.PackSums'. -/
def packSumsUptoCard : Claim7 := { stood := { row := packSumsUptoRow, standIns := [], harness := (true, "2ed6f6dfed61b9052876d9806648a724102cf55b140e34a27c06ecb56fe5892c"), looks := false }, kinds := [], alts := [], laidByText := true, laidKinds := [.data, .data, .data], laidTests := true, laidLooks := .later }
def PackSumsUptoCardSaid : Prop := Claim7.holds Tryd.pinned (.plain (OpenSpec.upto packSumsSpec)) packSumsUptoCard

/-- THE SECOND FORM's CARD OF 'glyphcutterlaw15.PackBends'. -/
def packBendsUptoCard : Claim7 := { stood := { row := packBendsUptoRow, standIns := [], harness := (true, "2ed6f6dfed61b9052876d9806648a724102cf55b140e34a27c06ecb56fe5892c"), looks := false }, kinds := [], alts := [], laidByText := true, laidKinds := [.data, .data, .data], laidTests := true, laidLooks := .later }
def PackBendsUptoCardSaid : Prop := Claim7.holds Tryd.pinned (.plain (OpenSpec.upto packBendsSpec)) packBendsUptoCard

/-- THE SECOND FORM's CARD OF 'glyphcutterlaw15.PackOnly'. -/
def packOnlyUptoCard : Claim7 := { stood := { row := packOnlyUptoRow, standIns := [], harness := (true, "2ed6f6dfed61b9052876d9806648a724102cf55b140e34a27c06ecb56fe5892c"), looks := false }, kinds := [], alts := [], laidByText := true, laidKinds := [.data, .data, .data], laidTests := true, laidLooks := .later }
def PackOnlyUptoCardSaid : Prop := Claim7.holds Tryd.pinned (.plain (OpenSpec.upto packOnlySpec)) packOnlyUptoCard
end Rows
end Go.Proofs.YtplhfgobeicegaaDoor
