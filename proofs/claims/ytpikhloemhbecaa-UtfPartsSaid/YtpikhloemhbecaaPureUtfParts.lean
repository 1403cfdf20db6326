/- Law UtfParts of the given program, proved for every input: a scalar's bytes that are cut are one char that is none, as long as they are. No condition. -/
import Derived.Test.YtpikhloemhbecaaPx1008
import Derived.Test.YtpikhloemhbecaaUL
namespace Go.Proofs.Ytpikhloemhbecaa.Pure
open Go.RowKit Go.Proofs.Ytpikhloemhbecaa.P Go.Proofs.YtpikhloemhbecaaW.PrintWords Go.Proofs.YtpikhloemhbecaaW.PrintLast Go.Proofs.Ytpikhloemhbecaa.U8
set_option linter.unusedVariables false
set_option linter.unusedSimpArgs false

theorem UtfParts : glyphcutterlaw02_UtfParts.Pure := by
  intro a0 a1 h0 h1
  obtain ⟨e0, l0, u0⟩ := modScalar a0 h0
  simp [Lit.wf, IntKind.min, IntKind.max, IntKind.bits, IntKind.signed] at h1
  refine ⟨9, ?_⟩
  unfold glyphcutterlaw02_UtfParts.f
  rw [e0]
  generalize a0 % 1114112 = x at *
  by_cases hx : Scalar x
  · rw [enc_f x hx, Option.bind_some]
    have hl := enc_len x
    by_cases c : ((utf_Encode.l x).length : Int) < 2
    · rw [if_pos c]; simp [glyphcutterlaw02_known.f]
    · rw [if_neg c]
      have e1 : wrap64 (((utf_Encode.l x).length : Int) - 1) = ((utf_Encode.l x).length : Int) - 1 := wrap_id _ (by omega) (by omega)
      have e2 : wrap64 a1 = a1 := wrap_id _ (by omega) (by omega)
      have e3 : Int.tmod a1 (((utf_Encode.l x).length : Int) - 1) = a1 % (((utf_Encode.l x).length : Int) - 1) := Int.tmod_eq_emod_of_nonneg (by omega)
      have m0 := Int.emod_nonneg a1 (show ((utf_Encode.l x).length : Int) - 1 ≠ 0 by omega)
      have m1 := Int.emod_lt_of_pos a1 (show 0 < ((utf_Encode.l x).length : Int) - 1 by omega)
      have e4 : wrap64 (1 + a1 % (((utf_Encode.l x).length : Int) - 1)) = 1 + a1 % (((utf_Encode.l x).length : Int) - 1) := wrap_id _ (by omega) (by omega)
      rw [e1, e2, e3, e4]
      generalize hm : a1 % (((utf_Encode.l x).length : Int) - 1) = m at *
      rw [if_neg (by omega), if_pos (by omega), if_pos (by omega)]
      obtain ⟨n, hn⟩ : ∃ n : Nat, 1 + m = (n : Int) := ⟨(1 + m).toNat, by omega⟩
      rw [hn, Int.toNat_natCast]
      have hb : Bytes ((utf_Encode.l x).take n) := (enc_bytes x hx).take n
      have hp := D_part x hx n (by omega) (by omega)
      have hlt : ((utf_Encode.l x).take n).length = n := by rw [List.length_take]; omega
      rw [Option.bind_some, decode_eq _ hb, Option.bind_some, hp, chars_eq _ hb (by omega) 9 (by omega)]
      have hc : C 0 ((utf_Encode.l x).take n) = [⟨-1, 0, n⟩] := by
        rw [C_cons _ _ (by intro h; rw [h] at hlt; simp at hlt; omega), hp]
        simp only [Int.toNat_natCast]
        rw [List.drop_eq_nil_iff.2 (by omega), C_nil]
      rw [hc]
      simp [glyphcutterlaw02_known.f]
  · rw [enc_none x hx, Option.bind_some]
    simp [glyphcutterlaw02_known.f]

end Go.Proofs.Ytpikhloemhbecaa.Pure
