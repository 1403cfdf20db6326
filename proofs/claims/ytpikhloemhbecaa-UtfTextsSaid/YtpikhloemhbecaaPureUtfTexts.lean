/- Law UtfTexts of the given program, proved for every input: scalars that are written one behind the other are read as these. No condition. -/
import Derived.Test.YtpikhloemhbecaaPx1007
import Derived.Test.YtpikhloemhbecaaUL
namespace Go.Proofs.Ytpikhloemhbecaa.Pure
open Go.RowKit Go.Proofs.Ytpikhloemhbecaa.P Go.Proofs.YtpikhloemhbecaaW.PrintWords Go.Proofs.YtpikhloemhbecaaW.PrintLast Go.Proofs.Ytpikhloemhbecaa.U8
set_option linter.unusedVariables false
set_option linter.unusedSimpArgs false

theorem texts_l1 (w : List Int) (l : List S30) (hn : l.length ≤ 5000000000000) (hg : l.map S30.f0 = w) (d : Nat) : ∀ (k : Nat) (i : Nat), i ≤ l.length → l.length - i = d → d < k →
    glyphcutterlaw02_UtfTexts.l1 k w l (i : Int) = some true := by
  have hlen : l.length = w.length := by rw [← hg]; simp
  induction d with
  | zero =>
    intro k i hi hd hk
    obtain ⟨k, rfl⟩ : ∃ m, k = m + 1 := ⟨k - 1, by omega⟩
    simp only [glyphcutterlaw02_UtfTexts.l1]
    rw [if_neg (by omega)]
  | succ d ih =>
    intro k i hi hd hk
    obtain ⟨k, rfl⟩ : ∃ m, k = m + 1 := ⟨k - 1, by omega⟩
    have hlt : i < l.length := by omega
    have e : l[i].f0 = w[i]'(by omega) := by subst hg; simp
    simp only [glyphcutterlaw02_UtfTexts.l1]
    rw [if_pos (by omega), if_pos (by omega), if_pos (by omega), rd_getElem l i hlt, rdi_getElem w i (by omega), if_pos e, wrap_id _ (by omega) (by omega)]
    exact ih k (i + 1) (by omega) (by omega) (by omega)
theorem texts_l0 (l : List Int) (hwf : ∀ x ∈ l, (Lit.int .u32 x).wf = true) (hl : l.length ≤ 200) (d : Nat) : ∀ (k : Nat) (i : Nat) (ws : List Int), i ≤ l.length → l.length - i = d → d + 1000 < k → ws.length ≤ i → (∀ x ∈ ws, Scalar x) →
    glyphcutterlaw02_UtfTexts.l0 k l (flat ws) ws (i : Int) = some true := by
  induction d with
  | zero =>
    intro k i ws hi hd hk hws hsc
    obtain ⟨k, rfl⟩ : ∃ m, k = m + 1 := ⟨k - 1, by omega⟩
    have hf := flat_length ws
    have hb := flat_bytes ws hsc
    have hC := C_flat ws 0 hsc
    have hlen : (C 0 (flat ws)).length = ws.length := by rw [← hC.1, List.length_map, hC.1]
    simp only [glyphcutterlaw02_UtfTexts.l0]
    rw [if_neg (by omega), chars_eq _ hb (by omega) k (by omega), Option.bind_some, if_pos (by omega), first_eq _ hb (by omega) k (by omega), Option.bind_some, hC.2]
    obtain ⟨k, rfl⟩ : ∃ m, k = m + 1 := ⟨k - 1, by omega⟩
    simp only [glyphcutterlaw02_UtfTexts.j2, bne_self_eq_false, Bool.false_eq_true, if_false]
    exact texts_l1 ws _ (by omega) hC.1 _ k 0 (by omega) rfl (by omega)
  | succ d ih =>
    intro k i ws hi hd hk hws hsc
    obtain ⟨k, rfl⟩ : ∃ m, k = m + 1 := ⟨k - 1, by omega⟩
    have hlt : i < l.length := by omega
    obtain ⟨e0, m0, m1⟩ := modScalar l[i] (hwf _ (List.getElem_mem hlt))
    have hf := flat_length ws
    simp only [glyphcutterlaw02_UtfTexts.l0]
    rw [if_pos (by omega), if_pos (by omega), rdi_getElem l i hlt, e0]
    generalize l[i] % 1114112 = x at *
    have ei : wrap64 ((i : Int) + 1) = ((i + 1 : Nat) : Int) := by rw [wrap_id _ (by omega) (by omega)]; omega
    by_cases hx : Scalar x
    · have he := enc_len x
      rw [enc_f x hx, Option.bind_some, if_pos (by omega), if_pos (by omega), if_pos (by omega), ei, ← flat_snoc]
      exact ih k (i + 1) (ws ++ [x]) (by omega) (by omega) (by omega) (by simp; omega) (by
        intro y hy
        rcases List.mem_append.1 hy with h | h
        · exact hsc y h
        · obtain rfl := List.mem_singleton.1 h; exact hx)
    · rw [enc_none x hx, Option.bind_some, if_neg (by simp), if_pos (by simp; omega), ei, List.append_nil]
      exact ih k (i + 1) ws (by omega) (by omega) (by omega) (by omega) hsc
theorem UtfTexts : glyphcutterlaw02_UtfTexts.Pure := by
  intro l _ hsz hwf
  refine ⟨1300, ?_⟩
  unfold glyphcutterlaw02_UtfTexts.f
  by_cases c : (l.length : Int) > 200
  · rw [if_pos c]; simp [glyphcutterlaw02_UtfTexts.j0, glyphcutterlaw02_known.f]
  · rw [if_neg c]
    simp only [glyphcutterlaw02_known.f, Option.bind_some, Bool.not_true, glyphcutterlaw02_UtfTexts.j0, Bool.false_eq_true, if_false]
    exact texts_l0 l hwf (by omega) _ _ 0 [] (by omega) rfl (by omega) (by simp) (by simp)

end Go.Proofs.Ytpikhloemhbecaa.Pure
