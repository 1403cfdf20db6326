import Derived.Test.YtndecknocmallaaPx1003
namespace Go.Proofs.Ytndecknocmallaa.Pure
open Go.RowKit Go.Proofs.Ytndecknocmallaa.P Go.Proofs.YtndecknocmallaaW.PrintWords Go.Proofs.YtndecknocmallaaW.PrintLast
set_option linter.unusedVariables false
theorem LinesCount : glyphcutterlaw21_LinesCount.Pure := by
  intro l0 hl hl2 hw
  have hb := U8.bytes_wf hw
  unfold glyphcutterlaw21_LinesCount.f
  rw [if_pos (show ∀ x ∈ l0, 0 ≤ x ∧ x ≤ 255 from hb)]
end Go.Proofs.Ytndecknocmallaa.Pure
