/- The document's Encode: as the program's. Plain Lean. -/
import Derived.Test.YtpikhloemhbecaaPx1014
import Derived.Test.YtpikhloemhbecaaUC
namespace Go.Proofs.Ytpikhloemhbecaa.U8
open Go.RowKit Go.Proofs.Ytpikhloemhbecaa.P Go.Proofs.YtpikhloemhbecaaW.PrintWords Go.Proofs.YtpikhloemhbecaaW.PrintLast
set_option linter.unusedVariables false
set_option linter.unusedSimpArgs false
theorem refenc_eq (a : Int) : glyphcutterref02_Encode.f 1 a = utf_Encode.f a := by
  by_cases h : Scalar a
  · rw [enc_f a h]
    obtain ⟨h0, h1, h2⟩ := h
    have e : glyphcutterref02_Encode.f 1 a = glyphcutterref02_Encode.j0 1 a false := by
      unfold glyphcutterref02_Encode.f
      rw [if_neg (by omega), if_neg (by omega)]
      split
      · rw [decide_eq_false (by omega)]
      · rfl
    rw [e]
    simp only [glyphcutterref02_Encode.j0, Bool.false_eq_true, if_false]
    have w : ∀ x : Int, 0 ≤ x → x ≤ 2000000 → wrap64 x = x := fun x p q => wrap_id x (by omega) (by omega)
    have t1 : Int.tdiv a 64 = a / 64 := Int.tdiv_eq_ediv_of_nonneg h0
    have t2 : Int.tmod a 64 = a % 64 := Int.tmod_eq_emod_of_nonneg h0
    have t3 : Int.tdiv a 4096 = a / 4096 := Int.tdiv_eq_ediv_of_nonneg h0
    have t4 : Int.tdiv a 262144 = a / 262144 := Int.tdiv_eq_ediv_of_nonneg h0
    have t5 : Int.tmod (a / 64) 64 = a / 64 % 64 := Int.tmod_eq_emod_of_nonneg (by omega)
    have t6 : Int.tmod (a / 4096) 64 = a / 4096 % 64 := Int.tmod_eq_emod_of_nonneg (by omega)
    rw [t1, t2, t3, t4, w (a / 64) (by omega) (by omega), w (a / 4096) (by omega) (by omega), w (a / 262144) (by omega) (by omega), t5, t6,
      w (192 + a / 64) (by omega) (by omega), w (128 + a % 64) (by omega) (by omega), w (224 + a / 4096) (by omega) (by omega), w (128 + a / 64 % 64) (by omega) (by omega), w (240 + a / 262144) (by omega) (by omega), w (128 + a / 4096 % 64) (by omega) (by omega)]
    unfold utf_Encode.l
    by_cases c1 : a < 128
    · rw [if_pos c1, if_pos c1]; congr 2; omega
    · rw [if_neg c1, if_neg c1]
      by_cases c2 : a < 2048
      · rw [if_pos c2, if_pos c2]; congr 2
        · omega
        · congr 1; omega
      · rw [if_neg c2, if_neg c2]
        by_cases c3 : a < 65536
        · rw [if_pos c3, if_pos c3]; congr 2
          · omega
          · congr 1
            · omega
            · congr 1; omega
        · rw [if_neg c3, if_neg c3]; congr 2
          · omega
          · congr 1
            · omega
            · congr 1
              · omega
              · congr 1; omega
  · rw [enc_none a h]
    unfold glyphcutterref02_Encode.f
    unfold Scalar at h
    by_cases c1 : a < 0
    · rw [if_pos c1]; simp [glyphcutterref02_Encode.j0]
    · rw [if_neg c1]
      by_cases c2 : a > 1114111
      · rw [if_pos c2]; simp [glyphcutterref02_Encode.j0]
      · rw [if_neg c2, if_pos (by omega), decide_eq_true (by omega)]; simp [glyphcutterref02_Encode.j0]
/-- what Encode tells: at most four bytes; none where there is no scalar; what stands behind does not matter -/
def encOf (a : Int) : List Int := if a < 0 ∨ 1114111 < a ∨ (55296 ≤ a ∧ a ≤ 57343) then [] else utf_Encode.l a
theorem encOf_f (a : Int) : utf_Encode.f a = some (encOf a) := by
  unfold encOf utf_Encode.f; split <;> rfl
theorem encOf_len (a : Int) : (encOf a).length ≤ 4 := by
  unfold encOf; split
  · simp
  · exact (enc_len a).2
theorem encOf_bytes (a : Int) : Bytes (encOf a) := by
  unfold encOf
  split
  · intro x hx; simp at hx
  · exact enc_bytes a ⟨by omega, by omega, by omega⟩
theorem encOf_back (a : Int) (rest : List Int) (h0 : 0 ≤ a) (h1 : a ≤ 1114111) : (encOf a).length = 0 ∧ 55296 ≤ a ∧ a ≤ 57343 ∨ 1 ≤ (encOf a).length ∧ D (encOf a ++ rest) = (a, ((encOf a).length : Int)) := by
  unfold encOf
  split
  · exact .inl ⟨rfl, by omega, by omega⟩
  · exact .inr ⟨(enc_len a).1, D_enc a ⟨by omega, by omega, by omega⟩ rest⟩
end Go.Proofs.Ytpikhloemhbecaa.U8
