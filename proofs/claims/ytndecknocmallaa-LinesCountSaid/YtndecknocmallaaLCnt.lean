/- A text that is made of pieces each of which bears one end of a line: its lines are the pieces and one. Plain Lean. -/
import Derived.Test.YtndecknocmallaaLEnds
namespace Go.Proofs.Ytndecknocmallaa.U8
open Go Go.RowKit Go.Proofs.Ytndecknocmallaa.P Go.Proofs.YtndecknocmallaaW.PrintWords Go.Proofs.YtndecknocmallaaW.PrintLast
set_option linter.unusedVariables false
set_option linter.unusedSimpArgs false
def Shut (s : List Int) : Prop := s = [] ∨ s.getD (s.length - 1) 0 ≠ 13
theorem endsB_shift (s y : List Int) (j : Nat) : endsB (s ++ y) (s.length + (j + 1)) = endsB y (j + 1) := by
  unfold endsB lineEnd
  rw [rdn, rdn, List.length_append, getD_app, if_neg (by omega), getD_app, if_neg (by omega), show s.length + (j + 1) - 1 - s.length = j + 1 - 1 by omega, show s.length + (j + 1) - s.length = j + 1 by omega]
  congr 1
  · congr 1
    exact propext ⟨fun _ => by omega, fun _ => by omega⟩
  · congr 3
    exact decide_eq_decide.mpr ⟨fun _ => by omega, fun _ => by omega⟩
theorem lbN_shut (s y : List Int) (h : Shut s) : lbN (s ++ y) s.length = lbN s s.length := by
  cases hl : s.length with
  | zero => rfl
  | succ n =>
    have hv : s.getD n 0 ≠ 13 := by
      rcases h with rfl | h
      · simp at hl
      · rw [hl] at h; simpa using h
    have e : endsB (s ++ y) (n + 1) = endsB s (n + 1) := by
      unfold endsB lineEnd
      rw [Nat.add_sub_cancel, getD_app, if_pos (by omega), decide_eq_true (by rw [List.length_append]; omega : 1 ≤ n + 1 ∧ n + 1 ≤ (s ++ y).length), decide_eq_true (by omega : 1 ≤ n + 1 ∧ n + 1 ≤ s.length), decide_eq_false hv]
      simp
    rw [lbN, lbN, e, lbN_app s y n (by omega)]
theorem lbN_sum (s y : List Int) (h : Shut s) : ∀ j, (lbN (s ++ y) (s.length + j)).1 = (lbN s s.length).1 + (lbN y j).1 - 1
  | 0 => by rw [Nat.add_zero, lbN_shut s y h]; show _ = _ + 1 - 1; omega
  | j + 1 => by
    have ih := lbN_sum s y h j
    have e := endsB_shift s y j
    rw [show s.length + (j + 1) = (s.length + j) + 1 by omega] at e ⊢
    rw [lbN, lbN, e]
    split <;> simp_all <;> omega
theorem lineN_app (s y : List Int) (h : Shut s) : lineN (s ++ y) = lineN s + lineN y - 1 := by
  unfold lineN; rw [List.length_append]; exact lbN_sum s y h _
theorem shut_app (s y : List Int) (hy : y ≠ []) (h : Shut y) : Shut (s ++ y) := by
  right
  have hl : 1 ≤ y.length := by cases y; · exact absurd rfl hy
                               · simp
  rcases h with rfl | h
  · exact absurd rfl hy
  · rw [getD_app, if_neg (by rw [List.length_append]; omega), List.length_append, show s.length + y.length - 1 - s.length = y.length - 1 by omega]; exact h
def endC (k : Int) : List Int := if k = 0 then [10] else if k = 1 then [13, 10] else [120, 13]
def piece (x : Int) : List Int := ([120, 121, 122] : List Int).take (x % 4).toNat ++ endC (x / 4 % 3) ++ (if x / 4 % 3 = 2 then [120] else [])
theorem piece_facts (x : Int) : (piece x).length ≤ 6 ∧ Bytes (piece x) ∧ piece x ≠ [] ∧ Shut (piece x) ∧ lineN (piece x) = 2 := by
  unfold piece endC
  have h1 : x % 4 = 0 ∨ x % 4 = 1 ∨ x % 4 = 2 ∨ x % 4 = 3 := by omega
  have h2 : x / 4 % 3 = 0 ∨ x / 4 % 3 = 1 ∨ x / 4 % 3 = 2 := by omega
  rcases h1 with h1 | h1 | h1 | h1 <;> rcases h2 with h2 | h2 | h2 <;> rw [h1, h2] <;> (refine ⟨by decide, ?_, by decide, .inr (by decide), by decide +kernel⟩) <;> (intro y hy; simp at hy; omega)
def textC (l : List Int) : List Int := l.flatMap piece
theorem textC_take (l : List Int) (i : Nat) (h : i < l.length) : textC (l.take (i + 1)) = textC (l.take i) ++ piece (rd l i) := by
  unfold textC
  rw [List.take_succ_eq_append_getElem h, List.flatMap_append]
  have : rd l i = l[i] := by simp [rd, List.getD_eq_getElem?_getD, List.getElem?_eq_getElem h]
  rw [this]; simp
theorem textC_facts (l : List Int) : (textC l).length ≤ 6 * l.length ∧ Bytes (textC l) := by
  unfold textC
  induction l with
  | nil => exact ⟨by simp, fun y hy => by simp at hy⟩
  | cons a t ih =>
    have := piece_facts a
    rw [List.flatMap_cons, List.length_append, List.length_cons]
    exact ⟨by omega, Bytes.append this.2.1 ih.2⟩
theorem textC_lines (l : List Int) : ∀ s, Shut s → lineN (s ++ textC l) = lineN s + l.length := by
  induction l with
  | nil => intro s _; simp [textC]
  | cons a t ih =>
    intro s hs
    have hp := piece_facts a
    have := ih (s ++ piece a) (shut_app s _ hp.2.2.1 hp.2.2.2.1)
    unfold textC at this ⊢
    rw [List.flatMap_cons, ← List.append_assoc, this, lineN_app s _ hs, hp.2.2.2.2, List.length_cons]
    omega
theorem textC_lineN (l : List Int) : lineN (textC l) = l.length + 1 := by
  have := textC_lines l [] (.inl rfl)
  rw [List.nil_append] at this
  rw [this]
  show 1 + (l.length : Int) = _
  omega
end Go.Proofs.Ytndecknocmallaa.U8
