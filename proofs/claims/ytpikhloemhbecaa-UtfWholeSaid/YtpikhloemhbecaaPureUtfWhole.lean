import Derived.Test.YtpikhloemhbecaaPx1006
namespace Go.Proofs.Ytpikhloemhbecaa.Pure
open Go.RowKit Go.Proofs.Ytpikhloemhbecaa.P Go.Proofs.YtpikhloemhbecaaW.PrintWords Go.Proofs.YtpikhloemhbecaaW.PrintLast
set_option linter.unusedVariables false
theorem UtfWhole : glyphcutterlaw02_UtfWhole.Pure := by
  intro l0 hl hl2 hw
  have hb := U8.bytes_wf hw
  unfold glyphcutterlaw02_UtfWhole.f
  rw [if_pos (show ∀ x ∈ l0, 0 ≤ x ∧ x ≤ 255 from hb)]
end Go.Proofs.Ytpikhloemhbecaa.Pure
