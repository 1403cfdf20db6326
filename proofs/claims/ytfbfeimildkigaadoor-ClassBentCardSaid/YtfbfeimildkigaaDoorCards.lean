/-
  DERIVED. GIVEN WITH THE SEED: THE CARDS: each row of YtfbfeimildkigaaDoorRows.lean that lists a variable, with what it lists TIED to the program's text (the seventh form; the later family's looks); each row that meets fmt, with fmt's text TOLD by the authors' own Lean function (tested against real Go, not proved from fmt's source: count such statements apart). THE CARD IS WHAT COUNTS. Prove the row's statement (the work); the ties are given (YtfbfeimildkigaaDoorTie.lean); close each card by the builder's one call (the guide's Derived/Test/ToyasCard.lean, 'card_holds'). Laid BY PROGRAM, IN A SANDBOX (cutbox-door.mjs). By AI agents, Wed Nov 11 2026. No macro, syntax, notation, axiom, sorry.
-/
import Derived.Test.YtfbfeimildkigaaDoorRows
import GoSem.ClaimSeven
namespace Go.Proofs.YtfbfeimildkigaaDoor
namespace Rows

/-- THE TIED CARD OF 'glyphcutterlaw14.ClassOf'. -/
def classOfCard : Claim7 := { stood := { row := classOfRow, standIns := [], harness := (true, "6954b414ba1a6553315310076a0b5d256b63499c2744683da0d44a0a05891a79"), looks := false }, kinds := [], alts := [], laidByText := true, laidKinds := [.data, .data, .data], laidTests := true, laidLooks := .later }
def ClassOfCardSaid : Prop := Claim7.holds Tryd.pinned (.plain (OpenSpec.ofChange classOfSpec)) classOfCard

/-- THE TIED CARD OF 'glyphcutterlaw14.ClassBent'. -/
def classBentCard : Claim7 := { stood := { row := classBentRow, standIns := [], harness := (true, "6954b414ba1a6553315310076a0b5d256b63499c2744683da0d44a0a05891a79"), looks := false }, kinds := [], alts := [], laidByText := true, laidKinds := [.data, .data, .data], laidTests := true, laidLooks := .later }
def ClassBentCardSaid : Prop := Claim7.holds Tryd.pinned (.plain (OpenSpec.ofChange classBentSpec)) classBentCard

/-- THE TIED CARD OF 'glyphcutterlaw14.ClassRaw'. -/
def classRawCard : Claim7 := { stood := { row := classRawRow, standIns := [], harness := (true, "6954b414ba1a6553315310076a0b5d256b63499c2744683da0d44a0a05891a79"), looks := false }, kinds := [], alts := [], laidByText := true, laidKinds := [.data, .data, .data], laidTests := true, laidLooks := .later }
def ClassRawCardSaid : Prop := Claim7.holds Tryd.pinned (.plain (OpenSpec.ofChange classRawSpec)) classRawCard

/-- THE TIED CARD OF 'glyphcutterlaw14.ClassTells'. -/
def classTellsCard : Claim7 := { stood := { row := classTellsRow, standIns := [], harness := (true, "6954b414ba1a6553315310076a0b5d256b63499c2744683da0d44a0a05891a79"), looks := false }, kinds := [], alts := [], laidByText := true, laidKinds := [.data, .data, .data], laidTests := true, laidLooks := .later }
def ClassTellsCardSaid : Prop := Claim7.holds Tryd.pinned (.plain (OpenSpec.ofChange classTellsSpec)) classTellsCard

/-- THE TIED CARD OF 'glyphcutterlaw14.ClassFew'. -/
def classFewCard : Claim7 := { stood := { row := classFewRow, standIns := [], harness := (true, "6954b414ba1a6553315310076a0b5d256b63499c2744683da0d44a0a05891a79"), looks := false }, kinds := [], alts := [], laidByText := true, laidKinds := [.data, .data, .data], laidTests := true, laidLooks := .later }
def ClassFewCardSaid : Prop := Claim7.holds Tryd.pinned (.plain (OpenSpec.ofChange classFewSpec)) classFewCard

/-- THE SECOND FORM's CARD OF 'glyphcutterlaw14.ClassOf'. -/
def classOfUptoCard : Claim7 := { stood := { row := classOfUptoRow, standIns := [], harness := (true, "6954b414ba1a6553315310076a0b5d256b63499c2744683da0d44a0a05891a79"), looks := false }, kinds := [], alts := [], laidByText := true, laidKinds := [.data, .data, .data], laidTests := true, laidLooks := .later }
def ClassOfUptoCardSaid : Prop := Claim7.holds Tryd.pinned (.plain (OpenSpec.upto classOfSpec)) classOfUptoCard

/-- THE SECOND FORM's CARD OF 'glyphcutterlaw14.ClassBent'. -/
def classBentUptoCard : Claim7 := { stood := { row := classBentUptoRow, standIns := [], harness := (true, "6954b414ba1a6553315310076a0b5d256b63499c2744683da0d44a0a05891a79"), looks := false }, kinds := [], alts := [], laidByText := true, laidKinds := [.data, .data, .data], laidTests := true, laidLooks := .later }
def ClassBentUptoCardSaid : Prop := Claim7.holds Tryd.pinned (.plain (OpenSpec.upto classBentSpec)) classBentUptoCard

/-- THE SECOND FORM's CARD OF 'glyphcutterlaw14.ClassRaw'. -/
def classRawUptoCard : Claim7 := { stood := { row := classRawUptoRow, standIns := [], harness := (true, "6954b414ba1a6553315310076a0b5d256b63499c2744683da0d44a0a05891a79"), looks := false }, kinds := [], alts := [], laidByText := true, laidKinds := [.data, .data, .data], laidTests := true, laidLooks := .later }
def ClassRawUptoCardSaid : Prop := Claim7.holds Tryd.pinned (.plain (OpenSpec.upto classRawSpec)) classRawUptoCard

/-- THE SECOND FORM's CARD OF 'glyphcutterlaw14.ClassTells'. -/
def classTellsUptoCard : Claim7 := { stood := { row := classTellsUptoRow, standIns := [], harness := (true, "6954b414ba1a6553315310076a0b5d256b63499c2744683da0d44a0a05891a79"), looks := false }, kinds := [], alts := [], laidByText := true, laidKinds := [.data, .data, .data], laidTests := true, laidLooks := .later }
def ClassTellsUptoCardSaid : Prop := Claim7.holds Tryd.pinned (.plain (OpenSpec.upto classTellsSpec)) classTellsUptoCard

/-- THE SECOND FORM's CARD OF 'glyphcutterlaw14.ClassFew'. -/
def classFewUptoCard : Claim7 := { stood := { row := classFewUptoRow, standIns := [], harness := (true, "6954b414ba1a6553315310076a0b5d256b63499c2744683da0d44a0a05891a79"), looks := false }, kinds := [], alts := [], laidByText := true, laidKinds := [.data, .data, .data], laidTests := true, laidLooks := .later }
def ClassFewUptoCardSaid : Prop := Claim7.holds Tryd.pinned (.plain (OpenSpec.upto classFewSpec)) classFewUptoCard
end Rows
end Go.Proofs.YtfbfeimildkigaaDoor
