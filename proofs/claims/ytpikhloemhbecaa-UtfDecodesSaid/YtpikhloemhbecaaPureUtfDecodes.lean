/- Law UtfDecodes of the given program, proved for every input: Decode, Chars and First of any bytes are what the chapter says. No condition. -/
import Derived.Test.YtpikhloemhbecaaPx1005
import Derived.Test.YtpikhloemhbecaaR02
namespace Go.Proofs.Ytpikhloemhbecaa.Pure
open Go.RowKit Go.Proofs.Ytpikhloemhbecaa.P Go.Proofs.YtpikhloemhbecaaW.PrintWords Go.Proofs.YtpikhloemhbecaaW.PrintLast Go.Proofs.Ytpikhloemhbecaa.U8
set_option linter.unusedVariables false
set_option linter.unusedSimpArgs false

theorem UtfDecodes : glyphcutterlaw02_UtfDecodes.Pure := by
  intro b _ hsz hwf
  have hb := bytes_wf hwf
  refine ⟨1011, ?_⟩
  unfold glyphcutterlaw02_UtfDecodes.f
  by_cases c : (b.length : Int) > 1000
  · rw [if_pos c]; simp [glyphcutterlaw02_UtfDecodes.j0, glyphcutterlaw02_known.f]
  · rw [if_neg c]
    simp only [glyphcutterlaw02_known.f, Option.bind_some, Bool.not_true, glyphcutterlaw02_UtfDecodes.j0, Bool.false_eq_true, if_false]
    have hcl := C_length _ 0 b (Nat.le_refl _)
    rw [decode_eq b hb, Option.bind_some, refdecode_eq 1005 b hb, Option.bind_some, if_pos rfl, if_pos rfl, chars_eq b hb (by omega) _ (by omega), Option.bind_some, refchars_eq b hb (by omega) _ (by omega), Option.bind_some, same_self _ (by omega) _ (by omega), Option.bind_some, if_pos rfl, first_eq b hb (by omega) _ (by omega), Option.bind_some, reffirst_eq b hb (by omega) _ (by omega), Option.bind_some]
    simp

end Go.Proofs.Ytpikhloemhbecaa.Pure
