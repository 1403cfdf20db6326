/- One function of the given program as a plain Lean function, and the proof that the call comes to its answer; written by a program (mp.py). -/
import Derived.Test.YtndecknocmallaaPx0
import Derived.Test.YtndecknocmallaaPx1009
import Derived.Test.YtndecknocmallaaPx1013
import Derived.Test.YtndecknocmallaaPx1014
namespace Go.Proofs.Ytndecknocmallaa.P
open Go.RowKit Go.Proofs.YtndecknocmallaaW.PrintWords Go.Proofs.YtndecknocmallaaW.PrintLast Go.Proofs.YtndecknocmallaaW.PrintMore
attribute [local go_sem] max2_int min2_int max_two min_two max_three min_three max_four min_four   -- for this text's walks alone
set_option linter.unusedVariables false
set_option linter.unusedSimpArgs false

/-! ### glyphcutterlaw21_known: function 8 -/
theorem glyphcutterlaw21_known.v1 : lines_Of.f [97, 10, 98] 2 = some (2, 1) := by decide +kernel
theorem glyphcutterlaw21_known.v2 : lines_Of.f [97, 10, 98] 3 = some (2, 2) := by decide +kernel
theorem glyphcutterlaw21_known.v3 : lines_Count.f [97, 10, 98] = some 2 := by decide +kernel
theorem glyphcutterlaw21_known.v4 : lines_Place.f [97, 10, 98] 2 1 = some 2 := by decide +kernel
theorem glyphcutterlaw21_known.v5 : lines_Place.f [97, 10, 98] 3 1 = some (-1) := by decide +kernel
def glyphcutterlaw21_known.f : Option Bool := some true
set_option maxHeartbeats 8000000 in
set_option maxRecDepth 100000 in
theorem glyphcutterlaw21_known.calls (r : Bool) (w : World) (h : glyphcutterlaw21_known.f = some r) :
    Calls Try.prog 8 #[] w fun e w' => e = .returned (.bool r) ∧ Below w.heap.size w w' := by
  obtain rfl := Option.some.inj h
  clear h
  go_enter Try.func8, Try.ntmps8
  have kc := fun (w : World) (C : Array Value) (n c : Nat) => Lib.run_convert_bytes_const (P := Try.prog) w 22 5 C n c Try.underlying22 Try.underlying5
  go_wp2_with fail
  have hc := M.C_lit w [97, 10, 98] .u8 5 (3, 4) (by decide)
  have hb := below_alloc (Below.refl w.heap.size w) (.cells (([97, 10, 98] : List Int).map (Value.int .u8)).toArray 5 (3, 4))
  refine (lines_Of.calls _ _ [97, 10, 98] 2 _ _ _ hc (by decide) glyphcutterlaw21_known.v1).mono ?_
  rintro e w1 ⟨rfl, hb1⟩
  replace hc := Kd.C_below hc hb1
  replace hb := below_step hb hb1
  clear hb1
  go_wp2_with fail
  refine (lines_Of.calls _ _ [97, 10, 98] 3 _ _ _ hc (by decide) glyphcutterlaw21_known.v2).mono ?_
  rintro e w2 ⟨rfl, hb1⟩
  replace hc := Kd.C_below hc hb1
  replace hb := below_step hb hb1
  clear hb1
  go_wp2_with fail
  refine (lines_Count.calls _ _ [97, 10, 98] _ _ hc (by decide) glyphcutterlaw21_known.v3).mono ?_
  rintro e w3 ⟨rfl, hb1⟩
  replace hc := Kd.C_below hc hb1
  replace hb := below_step hb hb1
  clear hb1
  go_wp2_with fail
  refine (lines_Place.calls _ _ [97, 10, 98] 2 1 _ _ hc (by decide) glyphcutterlaw21_known.v4).mono ?_
  rintro e w4 ⟨rfl, hb1⟩
  replace hc := Kd.C_below hc hb1
  replace hb := below_step hb hb1
  clear hb1
  go_wp2_with fail
  refine (lines_Place.calls _ _ [97, 10, 98] 3 1 _ _ hc (by decide) glyphcutterlaw21_known.v5).mono ?_
  rintro e w5 ⟨rfl, hb1⟩
  replace hb := below_step hb hb1
  go_wp2_with fail
  go_ret
  exact ⟨rfl, hb⟩


end Go.Proofs.Ytndecknocmallaa.P
