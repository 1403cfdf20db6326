/- Law UtfJoins of the given program, proved for every input: of two texts, the first of which has nothing but scalars, chars are those of both. No condition. -/
import Derived.Test.YtpikhloemhbecaaPx1003
import Derived.Test.YtpikhloemhbecaaUL
namespace Go.Proofs.Ytpikhloemhbecaa.Pure
open Go.RowKit Go.Proofs.Ytpikhloemhbecaa.P Go.Proofs.YtpikhloemhbecaaW.PrintWords Go.Proofs.YtpikhloemhbecaaW.PrintLast Go.Proofs.Ytpikhloemhbecaa.U8
set_option linter.unusedVariables false
set_option linter.unusedSimpArgs false

theorem C_bounds (n : Nat) : ∀ (i : Int) (l : List Int), l.length ≤ n → ∀ y ∈ C i l, i ≤ y.f1 ∧ y.f1 ≤ i + l.length := by
  induction n with
  | zero => intro i l h; obtain rfl : l = [] := List.eq_nil_of_length_eq_zero (by omega); simp [C_nil]
  | succ n ih =>
    intro i l h y hy
    by_cases hl : l = []
    · subst hl; simp [C_nil] at hy
    · have hd := D_len l hl
      rw [C_cons i l hl] at hy
      rcases List.mem_cons.1 hy with rfl | hy
      · dsimp only; omega
      · have := ih _ _ (by simp; omega) y hy
        rw [List.length_drop] at this
        omega
theorem joins_l1 (m : Nat) (hm : m ≤ 1000) (p q r : List S30) (hp : p.length ≤ 1000) (hq : q.length ≤ 1000) (hb : ∀ y ∈ q, 0 ≤ y.f1 ∧ y.f1 ≤ 1000) (hr : r = p ++ q.map fun c => ⟨c.f0, c.f1 + (m : Int), c.f2⟩) (d : Nat) : ∀ (k : Nat) (i : Nat), i ≤ q.length → q.length - i = d → d < k →
    glyphcutterlaw02_UtfJoins.l1 k (m : Int) p q r (i : Int) = some true := by
  induction d with
  | zero =>
    intro k i hi hd hk
    obtain ⟨k, rfl⟩ : ∃ m, k = m + 1 := ⟨k - 1, by omega⟩
    simp only [glyphcutterlaw02_UtfJoins.l1]
    rw [if_neg (by omega)]
  | succ d ih =>
    intro k i hi hd hk
    obtain ⟨k, rfl⟩ : ∃ m, k = m + 1 := ⟨k - 1, by omega⟩
    have hlt : i < q.length := by omega
    have hlr : r.length = p.length + q.length := by rw [hr]; simp
    have e1 : wrap64 ((p.length : Int) + (i : Int)) = ((p.length + i : Nat) : Int) := by rw [wrap_id _ (by omega) (by omega)]; omega
    have e2 : wrap64 ((i : Int) + 1) = ((i + 1 : Nat) : Int) := by rw [wrap_id _ (by omega) (by omega)]; omega
    have eg : r[p.length + i]'(by omega) = ⟨q[i].f0, q[i].f1 + (m : Int), q[i].f2⟩ := by
      subst hr
      rw [List.getElem_append_right (by omega)]
      simp
    have hy := hb q[i] (List.getElem_mem hlt)
    have e3 : wrap64 ((m : Int) + q[i].f1) = q[i].f1 + (m : Int) := by rw [wrap_id _ (by omega) (by omega)]; omega
    simp only [glyphcutterlaw02_UtfJoins.l1]
    rw [if_pos (by omega), e1, e2, if_pos (by omega), if_pos (by omega), if_pos (by omega), rd_getElem r _ (by omega), rd_getElem q i hlt, eg, e3]
    rw [if_pos rfl, if_pos rfl, if_pos rfl]
    exact ih k (i + 1) (by omega) (by omega) (by omega)
theorem joins_l0 (l : List Int) (hwf : ∀ x ∈ l, (Lit.int .u32 x).wf = true) (hl : l.length ≤ 100) (b : List Int) (hb : Bytes b) (hbl : b.length ≤ 1000) (d : Nat) : ∀ (k : Nat) (i : Nat) (ws : List Int), i ≤ l.length → l.length - i = d → d + 3000 < k → ws.length ≤ i → (∀ x ∈ ws, Scalar x) →
    glyphcutterlaw02_UtfJoins.l0 k l b (flat ws) (i : Int) = some true := by
  induction d with
  | zero =>
    intro k i ws hi hd hk hws hsc
    obtain ⟨k, rfl⟩ : ∃ m, k = m + 1 := ⟨k - 1, by omega⟩
    have hf := flat_length ws
    have hbf := flat_bytes ws hsc
    have hC := C_flat_append ws 0 b hsc
    rw [C_shift _ 0 _ b (Nat.le_refl _)] at hC
    have h1 := C_length _ 0 (flat ws) (Nat.le_refl _)
    have h2 := C_length _ 0 b (Nat.le_refl _)
    have h3 := C_bounds _ 0 b (Nat.le_refl _)
    have hlen : (C 0 (flat ws ++ b)).length = (C 0 (flat ws)).length + (C 0 b).length := by rw [hC]; simp
    simp only [glyphcutterlaw02_UtfJoins.l0]
    rw [if_neg (by omega), chars_eq _ hbf (by omega) k (by omega), Option.bind_some, chars_eq _ hb (by omega) k (by omega), Option.bind_some, if_pos (by simp; omega), Option.bind_some, List.nil_append, if_pos (by omega), chars_eq _ (hbf.append hb) (by simp; omega) k (by simp; omega), Option.bind_some, if_pos (by rw [wrap_id _ (by omega) (by omega)]; omega)]
    exact joins_l1 (flat ws).length (by omega) _ _ _ (by omega) (by omega) (fun y hy => by have := h3 y hy; omega) hC _ k 0 (by omega) rfl (by omega)
  | succ d ih =>
    intro k i ws hi hd hk hws hsc
    obtain ⟨k, rfl⟩ : ∃ m, k = m + 1 := ⟨k - 1, by omega⟩
    have hlt : i < l.length := by omega
    obtain ⟨e0, m0, m1⟩ := modScalar l[i] (hwf _ (List.getElem_mem hlt))
    have hf := flat_length ws
    simp only [glyphcutterlaw02_UtfJoins.l0]
    rw [if_pos (by omega), if_pos (by omega), rdi_getElem l i hlt, e0]
    clear e0
    generalize l[i] % 1114112 = x at m0 m1 ⊢
    have EI := Aside0.mk (show wrap64 ((i : Int) + 1) = ((i + 1 : Nat) : Int) from by rw [wrap_id _ (by omega) (by omega)]; omega)
    by_cases hx : Scalar x
    · have he := enc_len x
      have hlt2 : (flat ws).length + (utf_Encode.l x).length < 140737488355328 := by omega
      rw [enc_f x hx, Option.bind_some]
      rw [if_pos hlt2]
      rw [EI.out]
      rw [← flat_snoc]
      clear EI hwf
      exact ih k (i + 1) (ws ++ [x]) (by omega) (by omega) (by omega) (by simp; omega) (by
        intro y hy
        rcases List.mem_append.1 hy with h | h
        · exact hsc y h
        · obtain rfl := List.mem_singleton.1 h; exact hx)
    · rw [enc_none x hx, Option.bind_some, if_pos (by simp; omega), EI.out, List.append_nil]
      clear EI hwf
      exact ih k (i + 1) ws (by omega) (by omega) (by omega) (by omega) hsc
theorem UtfJoins : glyphcutterlaw02_UtfJoins.Pure := by
  intro l b _ hsz hwf _ hsz2 hwf2
  have hb := bytes_wf hwf2
  refine ⟨3300, ?_⟩
  unfold glyphcutterlaw02_UtfJoins.f
  by_cases c : (l.length : Int) > 100
  · rw [if_pos c]; simp [glyphcutterlaw02_UtfJoins.j0, glyphcutterlaw02_known.f]
  · rw [if_neg c]
    by_cases c2 : (b.length : Int) > 1000
    · rw [if_pos c2]; simp [glyphcutterlaw02_UtfJoins.j0, glyphcutterlaw02_known.f]
    · rw [if_neg c2]
      simp only [glyphcutterlaw02_known.f, Option.bind_some, Bool.not_true, glyphcutterlaw02_UtfJoins.j0, Bool.false_eq_true, if_false]
      exact joins_l0 l hwf (by omega) b hb (by omega) _ _ 0 [] (by omega) rfl (by omega) (by simp) (by simp)

end Go.Proofs.Ytpikhloemhbecaa.Pure
