/- Ends of lines that are written behind a text whose last byte is 'x'. Plain Lean. -/
import Derived.Test.YtndecknocmallaaLRef2
namespace Go.Proofs.Ytndecknocmallaa.U8
open Go Go.RowKit Go.Proofs.Ytndecknocmallaa.P Go.Proofs.YtndecknocmallaaW.PrintWords Go.Proofs.YtndecknocmallaaW.PrintLast
set_option linter.unusedVariables false
set_option linter.unusedSimpArgs false
theorem getD_app (x y : List Int) (i : Nat) : (x ++ y).getD i 0 = if i < x.length then x.getD i 0 else y.getD (i - x.length) 0 := by
  simp only [List.getD_eq_getElem?_getD, List.getElem?_append]; split <;> rfl
theorem endsB_app (x y : List Int) (i : Nat) (h : i < x.length) : endsB (x ++ y) i = endsB x i := by
  unfold endsB lineEnd
  rw [getD_app, if_pos (by omega), rdn, rdn, getD_app, if_pos h, List.length_append]
  by_cases h1 : 1 ≤ i
  · rw [decide_eq_true (by omega : 1 ≤ i ∧ i ≤ x.length + y.length), decide_eq_true (by omega : 1 ≤ i ∧ i ≤ x.length), decide_eq_false (by omega : ¬ (i : Int) = ((x.length + y.length : Nat) : Int)), decide_eq_false (by omega : ¬ (i : Int) = (x.length : Int))]
  · rw [decide_eq_false (by omega : ¬ (1 ≤ i ∧ i ≤ x.length + y.length)), decide_eq_false (by omega : ¬ (1 ≤ i ∧ i ≤ x.length))]
    simp
theorem lbN_app (x y : List Int) : ∀ i, i < x.length → lbN (x ++ y) i = lbN x i
  | 0, _ => rfl
  | n + 1, h => by rw [lbN, lbN, endsB_app x y _ h, lbN_app x y n (by omega)]
theorem endsB_other (s : List Int) (i : Nat) (v : Int) (hv : s.getD (i - 1) 0 = v) (h1 : v ≠ 10) (h2 : v ≠ 13) : endsB s i = false := by
  unfold endsB lineEnd
  rw [hv, decide_eq_false h1, decide_eq_false h2]; simp
/-- a byte that ends no line changes nothing -/
theorem lbN_plain (s : List Int) (n : Nat) (v : Int) (hv : s.getD n 0 = v) (h1 : v ≠ 10) (h2 : v ≠ 13) : lbN s (n + 1) = lbN s n := by
  rw [lbN, endsB_other s (n + 1) v (by simpa using hv) h1 h2]; rfl
theorem lbN_end (s : List Int) (n : Nat) (hn : n < s.length) (h : s.getD n 0 = 10 ∨ s.getD n 0 = 13 ∧ (n + 1 = s.length ∨ s.getD (n + 1) 0 ≠ 10)) : lbN s (n + 1) = ((lbN s n).1 + 1, ((n + 1 : Nat) : Int)) := by
  have : endsB s (n + 1) = true := by
    unfold endsB lineEnd
    rw [decide_eq_true (by omega : 1 ≤ n + 1 ∧ n + 1 ≤ s.length), Bool.true_and, Nat.add_sub_cancel, rdn]
    rcases h with h | ⟨h, h2 | h2⟩
    · rw [h]; rfl
    · rw [h, decide_eq_true (by omega : ((n + 1 : Nat) : Int) = (s.length : Int))]; rfl
    · rw [h, beq_eq_false_iff_ne.mpr h2]; simp
  rw [lbN, if_pos this]
theorem lbN_cr (s : List Int) (n : Nat) (hn : n + 1 < s.length) (h : s.getD n 0 = 13) (h2 : s.getD (n + 1) 0 = 10) : lbN s (n + 1) = lbN s n := by
  have : endsB s (n + 1) = false := by
    unfold endsB lineEnd
    rw [Nat.add_sub_cancel, rdn, h, h2, decide_eq_false (by omega : ¬ ((n + 1 : Nat) : Int) = (s.length : Int))]; simp
  rw [lbN, this]; rfl
/-- what stands behind a text whose last byte ends no line is counted for itself -/
theorem lbN_t (t y : List Int) (v : Int) (ht : t = [] ∨ t.getD (t.length - 1) 0 = v) (h1 : v ≠ 10) (h2 : v ≠ 13) : lbN (t ++ y) t.length = lbN t t.length := by
  cases hl : t.length with
  | zero => rfl
  | succ n =>
    have hv : t.getD n 0 = v := by
      rcases ht with rfl | ht
      · simp at hl
      · rw [hl] at ht; simpa using ht
    rw [lbN_plain (t ++ y) n v (by rw [getD_app, if_pos (by omega)]; exact hv) h1 h2, lbN_plain t n v hv h1 h2, lbN_app t y n (by omega)]
def lineN (s : List Int) : Int := (lbN s s.length).1
def endOf (k : Int) : List Int := if k % 3 = 0 then [10] else if k % 3 = 1 then [13] else [13, 10]
theorem lbN_more (t : List Int) (v : Int) (ht : t = [] ∨ t.getD (t.length - 1) 0 = v) (h1 : v ≠ 10) (h2 : v ≠ 13) (k : Int) : lbN (t ++ endOf k) (t ++ endOf k).length = (lineN t + 1, ((t ++ endOf k).length : Int)) := by
  have h0 := fun y => lbN_t t y v ht h1 h2
  unfold endOf lineN
  split
  · rw [List.length_append, List.length_singleton, lbN_end _ _ (by simp) (.inl (by rw [getD_app, if_neg (by omega)]; simp)), h0]
  · split
    · rw [List.length_append, List.length_singleton, lbN_end _ _ (by simp) (.inr ⟨by rw [getD_app, if_neg (by omega)]; simp, .inl (by simp)⟩), h0]
    · rw [List.length_append, List.length_cons, List.length_singleton, ← Nat.add_assoc, lbN_end _ (t.length + 1) (by simp) (.inl (by rw [getD_app, if_neg (by omega)]; simp)), lbN_cr _ _ (by simp) (by rw [getD_app, if_neg (by omega)]; simp) (by rw [getD_app, if_neg (by omega)]; simp), h0]
theorem lineN_more (t : List Int) (v : Int) (ht : t = [] ∨ t.getD (t.length - 1) 0 = v) (h1 : v ≠ 10) (h2 : v ≠ 13) (k : Int) : lineN (t ++ endOf k) = lineN t + 1 := by
  unfold lineN; rw [lbN_more t v ht h1 h2 k]; rfl
theorem lineN_x (t : List Int) (v : Int) (ht : t = [] ∨ t.getD (t.length - 1) 0 = v) (h1 : v ≠ 10) (h2 : v ≠ 13) (k : Int) : lineN (t ++ endOf k ++ [120]) = lineN t + 1 := by
  have h0 := fun y => lbN_t t y v ht h1 h2
  have g : ∀ y : List Int, lbN (t ++ (y ++ [120])) (t.length + y.length + 1) = lbN (t ++ (y ++ [120])) (t.length + y.length) := fun y =>
    lbN_plain _ _ 120 (by rw [getD_app, if_neg (by omega), getD_app, if_neg (by omega)]; simp) (by decide) (by decide)
  unfold lineN
  rw [List.append_assoc, List.length_append, List.length_append, List.length_singleton, ← Nat.add_assoc, g]
  unfold endOf
  split
  · rw [List.length_singleton, lbN_end _ _ (by simp) (.inl (by rw [getD_app, if_neg (by omega)]; simp)), h0]
  · split
    · rw [List.length_singleton, lbN_end _ _ (by simp) (.inr ⟨by rw [getD_app, if_neg (by omega)]; simp, .inr (by rw [getD_app, if_neg (by omega)]; simp)⟩), h0]
    · rw [List.length_cons, List.length_singleton, ← Nat.add_assoc, lbN_end _ (t.length + 1) (by simp) (.inl (by rw [getD_app, if_neg (by omega)]; simp)), lbN_cr _ _ (by simp) (by rw [getD_app, if_neg (by omega)]; simp) (by rw [getD_app, if_neg (by omega)]; simp), h0]
theorem endOf_bytes (k : Int) : Bytes (endOf k) := by
  unfold endOf; split <;> (try split) <;> (intro x hx; simp at hx; omega)
theorem endOf_len (k : Int) : (endOf k).length ≤ 2 := by
  unfold endOf; split <;> (try split) <;> simp
/-- where a text ends behind an end of a line: the line's first column -/
theorem of_more (t : List Int) (hb : Bytes t) (hl : t.length ≤ 1000) (v : Int) (ht : t = [] ∨ t.getD (t.length - 1) 0 = v) (h1 : v ≠ 10) (h2 : v ≠ 13) (k : Int) :
    lines_Of.f (t ++ endOf k) ((t ++ endOf k).length : Int) = some (lineN t + 1, 1) := by
  have he := endOf_len k
  have hlen : (t ++ endOf k).length ≤ 5000000000000 := by rw [List.length_append]; omega
  rw [linesof_eq _ (Bytes.append hb (endOf_bytes k)) hlen _ (Nat.le_refl _), lbN_more t v ht h1 h2 k]
  rw [cnt_none]; · simp
  intro y hy
  have g1 := C_ge _ 0 _ (Nat.le_refl _) y hy
  have g2 := C_up _ 0 _ (Nat.le_refl _) y hy
  omega
end Go.Proofs.Ytndecknocmallaa.U8
