/- Law UtfOrder of the given program, proved for every input: bytes are in the order of their scalars. No condition. -/
import Derived.Test.YtpikhloemhbecaaPx1010
import Derived.Test.YtpikhloemhbecaaUL
import Derived.Test.YtpikhloemhbecaaStr
namespace Go.Proofs.Ytpikhloemhbecaa.Pure
open Go.RowKit Go.Proofs.Ytpikhloemhbecaa.P Go.Proofs.YtpikhloemhbecaaW.PrintWords Go.Proofs.YtpikhloemhbecaaW.PrintLast Go.Proofs.Ytpikhloemhbecaa.U8
set_option linter.unusedVariables false

theorem lex_cons (a b : Int) (x y : List Int) : (lexLt (a :: x) (b :: y) = true) ↔ (a < b ∨ (a = b ∧ lexLt x y = true)) := by
  simp [lexLt]
theorem lex_nil (x : List Int) : ¬ (lexLt x [] = true) := by cases x <;> simp [lexLt]
theorem lex_enc (x y : Int) (hx : Scalar x) (hy : Scalar y) : lexLt (utf_Encode.l x) (utf_Encode.l y) = decide (x < y) := by
  rw [Bool.eq_iff_iff, decide_eq_true_iff]
  obtain ⟨hx0, hx1, _⟩ := hx
  obtain ⟨hy0, hy1, _⟩ := hy
  have n1 := lex_nil []
  have n2 : lexLt [] [] = false := rfl
  unfold utf_Encode.l
  repeat' split
  all_goals simp only [lex_cons, n2, Bool.false_eq_true, and_false, or_false]
  all_goals (first | omega | (simp [lexLt]; omega))
theorem UtfOrder : glyphcutterlaw02_UtfOrder.Pure := by
  intro a0 a1 h0 h1
  obtain ⟨e0, l0, u0⟩ := modScalar a0 h0
  obtain ⟨e1, l1, u1⟩ := modScalar a1 h1
  refine ⟨2, ?_⟩
  unfold glyphcutterlaw02_UtfOrder.f
  rw [e0, e1]
  generalize a0 % 1114112 = x at *
  generalize a1 % 1114112 = y at *
  by_cases hx : Scalar x
  · rw [enc_f x hx, Option.bind_some]
    by_cases hy : Scalar y
    · rw [enc_f y hy, Option.bind_some]
      have h1 := enc_len x
      have h2 := enc_len y
      rw [if_neg (by omega), beq_eq_false_iff_ne.mpr (by omega)]
      simp only [glyphcutterlaw02_UtfOrder.j0, glyphcutterlaw02_known.f, Option.bind_some, if_true, Bool.false_eq_true, if_false]
      rw [strOf_toList, strOf_toList, bytesLess_u8s (enc_bytes x hx) (enc_bytes y hy), lex_enc x y hx hy]
      simp only [beq_self_eq_true, if_true]
      rw [decide_eq_true (by omega)]
    · rw [enc_none y hy, Option.bind_some]
      have h1 := enc_len x
      rw [if_neg (by omega)]
      simp [glyphcutterlaw02_UtfOrder.j0, glyphcutterlaw02_known.f]
  · rw [enc_none x hx, Option.bind_some]
    by_cases hy : Scalar y
    · rw [enc_f y hy, Option.bind_some]
      simp [glyphcutterlaw02_UtfOrder.j0, glyphcutterlaw02_known.f]
    · rw [enc_none y hy, Option.bind_some]
      simp [glyphcutterlaw02_UtfOrder.j0, glyphcutterlaw02_known.f]

end Go.Proofs.Ytpikhloemhbecaa.Pure
