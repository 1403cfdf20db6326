/- One function of the given program as a plain Lean function, and the proof that the call comes to its answer; written by a program (mp.py). -/
import Derived.Test.YtaacbjchjdjieaaGreatDoorPx0
import Derived.Test.YtaacbjchjdjieaaGreatDoorRK
namespace Go.Proofs.YtaacbjchjdjieaaGreatDoor.P
open Go.RowKit Go.Proofs.YtaacbjchjdjieaaGreatDoorW.PrintWords Go.Proofs.YtaacbjchjdjieaaGreatDoorW.PrintLast Go.Proofs.YtaacbjchjdjieaaGreatDoorW.PrintMore
attribute [local go_sem] max2_int min2_int max_two min_two max_three min_three max_four min_four   -- for this text's walks alone
set_option linter.unusedVariables false
set_option linter.unusedSimpArgs false

/-! ### glyphcutterlaw24_known: function 11 -/
def glyphcutterlaw24_known.f : Option Bool := some true
/-- what the listed variables hold -/
def Glob (w : World) : Prop := Opt w ∧ PowTab w ∧ Pow15 w
theorem Glob.below {w w' : World} (h : Glob w) (hb : Below w.heap.size w w') : Glob w' := ⟨h.1.below hb, h.2.1.below hb (World.block_lt_of_cell? _ _ h.2.1.1), h.2.2.below hb (World.block_lt_of_cell? _ _ h.2.2)⟩
theorem glyphcutterlaw24_known.calls (r : Bool) (w : World) (hG : Glob w) (h : glyphcutterlaw24_known.f = some r) :
    Calls Tryz.prog 11 #[] w fun e w' => e = .returned (.bool r) ∧ Below w.heap.size w w' := by
  obtain rfl := Option.some.inj h
  exact known_calls w hG.1 hG.2.1 hG.2.2


end Go.Proofs.YtaacbjchjdjieaaGreatDoor.P
