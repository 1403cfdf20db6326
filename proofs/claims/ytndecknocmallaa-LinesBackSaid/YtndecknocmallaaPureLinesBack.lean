import Derived.Test.YtndecknocmallaaPx1005
import Derived.Test.YtndecknocmallaaLPure
namespace Go.Proofs.Ytndecknocmallaa.Pure
open Go.RowKit Go.Proofs.Ytndecknocmallaa.P Go.Proofs.YtndecknocmallaaW.PrintWords Go.Proofs.YtndecknocmallaaW.PrintLast
set_option linter.unusedVariables false
set_option linter.unusedSimpArgs false
theorem of_eqB (t : List Int) (hb : U8.Bytes t) (hl : t.length ≤ 5000000000000) (x : Int) (h0 : 0 ≤ x) (h1 : x ≤ t.length) :
    lines_Of.f t x = some (lastLe x (0, 0, 0) (spotsL t 0 1 1 (U8.C 0 t))).2 := by
  unfold lines_Of.f
  rw [if_pos ⟨hb, hl⟩, if_neg (by omega)]
theorem tmod_inB (a n : Int) (ha : 0 ≤ a) (hn : 0 < n) : 0 ≤ Int.tmod a n ∧ Int.tmod a n < n := by
  rw [Int.tmod_eq_emod_of_nonneg ha]; exact ⟨Int.emod_nonneg _ (by omega), Int.emod_lt_of_pos _ hn⟩
theorem back_eq (t : List Int) (hb : U8.Bytes t) (hl : t.length ≤ 5000) (k : Int) (hk : 0 ≤ k ∧ k ≤ 255) : glyphcutterlaw21_back.f t k = some true := by
  unfold glyphcutterlaw21_back.f
  have hw1 : wrap64 ((t.length : Int) + 1) = (t.length : Int) + 1 := U8.wrap_id _ (by omega) (by omega)
  rw [hw1, U8.wrap_id k (by omega) (by omega), if_neg (by omega)]
  obtain ⟨x0, x1⟩ := tmod_inB k ((t.length : Int) + 1) hk.1 (by omega)
  generalize Int.tmod k ((t.length : Int) + 1) = x at *
  have hc := U8.C_lens t.length 0 t (Nat.le_refl _)
  obtain ⟨⟨b1, b2, b3⟩, b4, b5⟩ := U8.last_back t (U8.C 0 t) 0 1 1 x (0, 0, 0) hc.1 x0 (by rw [hc.2]; omega)
  have hp : lines_Place.f t (lastLe x (0, 0, 0) (spotsL t 0 1 1 (U8.C 0 t))).2.1 (lastLe x (0, 0, 0) (spotsL t 0 1 1 (U8.C 0 t))).2.2 = some (lastLe x (0, 0, 0) (spotsL t 0 1 1 (U8.C 0 t))).1 := by
    unfold lines_Place.f
    rw [if_pos ⟨hb, by omega⟩, b4]
  have b5' := b5 (0, 0, 0)
  rw [of_eqB t hb (by omega) x x0 (by omega)]
  simp only [Option.bind_some]
  rw [hp]
  simp only [Option.bind_some]
  rw [of_eqB t hb (by omega) _ b1 (by omega), b5']
  generalize lastLe x (0, 0, 0) (spotsL t 0 1 1 (U8.C 0 t)) = q at *
  simp only [Option.bind_some]
  rw [if_pos b1, if_pos b2, U8.wrap_id (x - q.1) (by omega) (by omega), if_pos b3]
  simp
theorem LinesBack : glyphcutterlaw21_LinesBack.Pure := by
  intro l0 l1 a2 hl hl2 hw hm hm2 hw1 h2
  have hb := U8.bytes_wf hw
  have hb1 := U8.bytes_wf hw1
  have ha2 : 0 ≤ a2 ∧ a2 ≤ 255 := by have := U8.bytes_wf (l := [a2]) (by simpa using h2); simpa [U8.Bytes] using this
  refine ⟨8 + 1, ?_⟩
  have hk : glyphcutterlaw21_known.f = some true := rfl
  have ht : glyphcutterlaw20_Text.f l0 = some (textOf l0) := by unfold glyphcutterlaw20_Text.f; rw [if_pos]; exact hb
  have e1 := back_eq (textOf l0) (textOf_bytes l0) (by have := textOf_len l0; omega) a2 ha2
  unfold glyphcutterlaw21_LinesBack.f
  by_cases c1 : (l1.length : Int) > 300
  · rw [if_pos c1]
    simp [glyphcutterlaw21_LinesBack.j0, hk]
  · have e2 := back_eq l1 hb1 (by omega) a2 ha2
    rw [if_neg c1, hk]
    show glyphcutterlaw21_LinesBack.j0 (8 + 1) l0 l1 a2 false = some true
    rw [glyphcutterlaw21_LinesBack.j0, if_neg (by decide), ht, Option.bind_some]
    generalize glyphcutterlaw21_back.f (textOf l0) a2 = A at e1 ⊢
    generalize glyphcutterlaw21_back.f l1 a2 = B at e2 ⊢
    subst e1
    subst e2
    rfl
end Go.Proofs.Ytndecknocmallaa.Pure
