import Derived.Test.YtndecknocmallaaPx1007
namespace Go.Proofs.Ytndecknocmallaa.Pure
open Go.RowKit Go.Proofs.Ytndecknocmallaa.P Go.Proofs.YtndecknocmallaaW.PrintWords Go.Proofs.YtndecknocmallaaW.PrintLast
set_option linter.unusedVariables false
theorem LinesEnds : glyphcutterlaw21_LinesEnds.Pure := by
  intro l0 a1 hl hl2 hw h1
  have hb := U8.bytes_wf hw
  have ha1 : 0 ≤ a1 ∧ a1 ≤ 255 := by have := U8.bytes_wf (l := [a1]) (by simpa using h1); simpa [U8.Bytes] using this
  unfold glyphcutterlaw21_LinesEnds.f
  rw [if_pos ⟨hb, ha1⟩]
end Go.Proofs.Ytndecknocmallaa.Pure
