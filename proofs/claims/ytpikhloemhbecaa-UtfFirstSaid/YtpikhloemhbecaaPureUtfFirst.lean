/- Law UtfFirst of the given program, proved for every input: what lies ahead of the first char that is none is a text. No condition. -/
import Derived.Test.YtpikhloemhbecaaPx1009
import Derived.Test.YtpikhloemhbecaaUL
namespace Go.Proofs.Ytpikhloemhbecaa.Pure
open Go.RowKit Go.Proofs.Ytpikhloemhbecaa.P Go.Proofs.YtpikhloemhbecaaW.PrintWords Go.Proofs.YtpikhloemhbecaaW.PrintLast Go.Proofs.Ytpikhloemhbecaa.U8
set_option linter.unusedVariables false
set_option linter.unusedSimpArgs false

theorem all_good (l : List S30) (hn : l.length ≤ 5000000000000) (hg : ∀ c ∈ l, 0 ≤ c.f0) (d : Nat) : ∀ (k : Nat) (i : Nat), i ≤ l.length → l.length - i = d → d < k →
    glyphcutterlaw02_UtfFirst.l0 k l (i : Int) = some true := by
  induction d with
  | zero =>
    intro k i hi hd hk
    obtain ⟨k, rfl⟩ : ∃ m, k = m + 1 := ⟨k - 1, by omega⟩
    simp only [glyphcutterlaw02_UtfFirst.l0]
    rw [if_neg (by omega)]
  | succ d ih =>
    intro k i hi hd hk
    obtain ⟨k, rfl⟩ : ∃ m, k = m + 1 := ⟨k - 1, by omega⟩
    have hlt : i < l.length := by omega
    have := hg l[i] (List.getElem_mem hlt)
    simp only [glyphcutterlaw02_UtfFirst.l0]
    rw [if_pos (by omega), if_pos (by omega), rd_getElem l i hlt, if_neg (by omega), wrap_id _ (by omega) (by omega)]
    exact ih k (i + 1) (by omega) (by omega) (by omega)
theorem UtfFirst : glyphcutterlaw02_UtfFirst.Pure := by
  intro b _ hsz hwf
  have hb := bytes_wf hwf
  refine ⟨1003, ?_⟩
  unfold glyphcutterlaw02_UtfFirst.f
  by_cases c : (b.length : Int) > 1000
  · rw [if_pos c]; simp [glyphcutterlaw02_UtfFirst.j0, glyphcutterlaw02_known.f]
  · rw [if_neg c]
    simp only [glyphcutterlaw02_known.f, Option.bind_some, Bool.not_true, glyphcutterlaw02_UtfFirst.j0, Bool.false_eq_true, if_false]
    rw [first_eq b hb (by omega) _ (by omega), Option.bind_some]
    have hcl := C_length _ 0 b (Nat.le_refl _)
    rcases first_spec b.length 0 b (by omega) hb (Nat.le_refl _) with ⟨h, hg⟩ | ⟨m, hm, h, h1, h2⟩
    · rw [h, if_pos (by decide), chars_eq b hb (by omega) _ (by omega), Option.bind_some]
      exact all_good _ (by omega) hg _ _ 0 (by omega) rfl (by omega)
    · rw [h, Int.zero_add, if_neg (by omega), if_pos (by omega), if_pos (by omega), Int.toNat_natCast, decode_eq _ (hb.drop m), Option.bind_some, if_pos (by omega), first_eq _ (hb.take m) (by simp; omega) _ (by simp; omega), Option.bind_some, h2, if_pos rfl, h1, if_pos rfl]
      have := D_len (b.drop m) (by rw [Ne, List.drop_eq_nil_iff]; omega)
      rw [decide_eq_true (by omega)]

end Go.Proofs.Ytpikhloemhbecaa.Pure
