import Derived.Test.YtndecknocmallaaPx1006
import Derived.Test.YtndecknocmallaaLPure
namespace Go.Proofs.Ytndecknocmallaa.Pure
open Go.RowKit Go.Proofs.Ytndecknocmallaa.P Go.Proofs.YtndecknocmallaaW.PrintWords Go.Proofs.YtndecknocmallaaW.PrintLast
set_option linter.unusedVariables false
set_option linter.unusedSimpArgs false
theorem of_eq (t : List Int) (hb : U8.Bytes t) (hl : t.length ≤ 5000000000000) (x : Int) (h0 : 0 ≤ x) (h1 : x ≤ t.length) :
    lines_Of.f t x = some (lastLe x (0, 0, 0) (spotsL t 0 1 1 (U8.C 0 t))).2 := by
  unfold lines_Of.f
  rw [if_pos ⟨hb, hl⟩, if_neg (by omega)]
theorem tmod_in (a n : Int) (ha : 0 ≤ a) (hn : 0 < n) : 0 ≤ Int.tmod a n ∧ Int.tmod a n < n := by
  rw [Int.tmod_eq_emod_of_nonneg ha]; exact ⟨Int.emod_nonneg _ (by omega), Int.emod_lt_of_pos _ hn⟩
theorem LinesRise : glyphcutterlaw21_LinesRise.Pure := by
  intro l0 a1 a2 hl hl2 hw h1 h2
  have hb := U8.bytes_wf hw
  have ha1 : 0 ≤ a1 ∧ a1 ≤ 255 := by have := U8.bytes_wf (l := [a1]) (by simpa using h1); simpa [U8.Bytes] using this
  have ha2 : 0 ≤ a2 ∧ a2 ≤ 255 := by have := U8.bytes_wf (l := [a2]) (by simpa using h2); simpa [U8.Bytes] using this
  unfold glyphcutterlaw21_LinesRise.f
  have ht : glyphcutterlaw20_Text.f l0 = some (textOf l0) := by unfold glyphcutterlaw20_Text.f; rw [if_pos]; exact hb
  rw [ht, Option.bind_some]
  have htb : U8.Bytes (textOf l0) := textOf_bytes l0
  have htl := textOf_len l0
  generalize textOf l0 = t at htb htl ⊢
  have hw1 : wrap64 ((t.length : Int) + 1) = (t.length : Int) + 1 := U8.wrap_id _ (by omega) (by omega)
  have hm1 : 0 ≤ mn a1 a2 ∧ mn a1 a2 ≤ 255 := by unfold mn; split <;> omega
  have hm2 : 0 ≤ mx a1 a2 ∧ mx a1 a2 ≤ 255 := by unfold mx; split <;> omega
  rw [hw1, U8.wrap_id (mn a1 a2) (by omega) (by omega), U8.wrap_id (mx a1 a2) (by omega) (by omega), if_neg (by omega)]
  obtain ⟨x0, x1⟩ := tmod_in (mn a1 a2) ((t.length : Int) + 1) hm1.1 (by omega)
  obtain ⟨y0, y1⟩ := tmod_in (mx a1 a2) ((t.length : Int) + 1) hm2.1 (by omega)
  generalize Int.tmod (mn a1 a2) ((t.length : Int) + 1) = x at *
  generalize Int.tmod (mx a1 a2) ((t.length : Int) + 1) = y' at *
  have hxy : x ≤ mx x y' ∧ mx x y' ≤ t.length := by unfold mx; split <;> omega
  generalize mx x y' = y at hxy ⊢
  have hlen : t.length ≤ 5000000000000 := by omega
  have hcount : lines_Count.f t = some (lastLe (t.length : Int) (0, 0, 0) (spotsL t 0 1 1 (U8.C 0 t))).2.1 := by
    unfold lines_Count.f
    rw [of_eq t htb hlen _ (by omega) (by omega)]
    rfl
  have e1 := of_eq t htb hlen x x0 (by omega)
  have e2 := of_eq t htb hlen y (by omega) hxy.2
  have hk : glyphcutterlaw21_known.f = some true := rfl
  have g := (U8.last_ge t x (U8.C 0 t) 0 1 1 (0, 0, 0) x0).2 (by omega) (by omega)
  have m := U8.last_mono t x y hxy.1 (U8.C 0 t) 0 1 1 (0, 0, 0) x0
  have m2 := U8.last_mono t y (t.length : Int) hxy.2 (U8.C 0 t) 0 1 1 (0, 0, 0) (by omega)
  generalize (lastLe x (0, 0, 0) (spotsL t 0 1 1 (U8.C 0 t))).2 = p at *
  generalize (lastLe y (0, 0, 0) (spotsL t 0 1 1 (U8.C 0 t))).2 = q at *
  generalize (lastLe (t.length : Int) (0, 0, 0) (spotsL t 0 1 1 (U8.C 0 t))).2 = r at *
  generalize lines_Of.f t x = A at e1 ⊢
  generalize lines_Of.f t y = B at e2 ⊢
  generalize lines_Count.f t = D at hcount ⊢
  generalize glyphcutterlaw21_known.f = E at hk ⊢
  subst e1
  subst e2
  subst hcount
  subst hk
  unfold U8.lexLe at m m2
  have hr : q.1 ≤ r.1 := by omega
  simp only [Option.bind_some, if_true]
  rw [if_pos g.1, if_pos g.2, decide_eq_true hr]
  by_cases c1 : p.1 < q.1
  · rw [if_pos c1]
  · rw [if_neg c1, if_pos (by omega), if_pos (by omega)]
end Go.Proofs.Ytndecknocmallaa.Pure
