import Derived.Test.YtpikhloemhbecaaPx1004
namespace Go.Proofs.Ytpikhloemhbecaa.Pure
open Go.RowKit Go.Proofs.Ytpikhloemhbecaa.P Go.Proofs.YtpikhloemhbecaaW.PrintWords Go.Proofs.YtpikhloemhbecaaW.PrintLast
set_option linter.unusedVariables false
theorem UtfEncodes : glyphcutterlaw02_UtfEncodes.Pure := by
  intro a0 a1 l2 h0 h1 hl hl2 hw
  have hb := U8.bytes_wf hw
  have : 0 ≤ a1 := by
    simp [Lit.wf, IntKind.min, IntKind.max, IntKind.bits, IntKind.signed] at h1
    omega
  unfold glyphcutterlaw02_UtfEncodes.f
  rw [if_pos ⟨this, show ∀ x ∈ l2, 0 ≤ x ∧ x ≤ 255 from hb⟩]
end Go.Proofs.Ytpikhloemhbecaa.Pure
