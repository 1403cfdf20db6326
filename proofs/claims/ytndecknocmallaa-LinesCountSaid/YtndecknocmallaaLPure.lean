/- The places of a text: what the last place that is not beyond another one tells. Plain Lean. -/
import Derived.Test.YtndecknocmallaaLPlace
namespace Go.Proofs.Ytndecknocmallaa.U8
open Go Go.RowKit Go.Proofs.Ytndecknocmallaa.P Go.Proofs.YtndecknocmallaaW.PrintWords Go.Proofs.YtndecknocmallaaW.PrintLast
set_option linter.unusedVariables false
set_option linter.unusedSimpArgs false
/-- line and column are not ahead -/
def lexLe (p q : Int × Int) : Prop := p.1 < q.1 ∨ p.1 = q.1 ∧ p.2 ≤ q.2
theorem lexLe_refl (p : Int × Int) : lexLe p p := .inr ⟨rfl, Int.le_refl _⟩
theorem lexLe_trans {p q r : Int × Int} (h : lexLe p q) (k : lexLe q r) : lexLe p r := by unfold lexLe at *; omega
/-- chars that lie in a text: each has one to four bytes -/
def Lens (cs : List S45) : Prop := ∀ x ∈ cs, 1 ≤ x.f2 ∧ x.f2 ≤ 4
def total : List S45 → Int
  | [] => 0
  | x :: t => x.f2 + total t
theorem C_lens (n : Nat) : ∀ (i : Int) (l : List Int), l.length ≤ n → Lens (C i l) ∧ total (C i l) = l.length := by
  induction n with
  | zero => intro i l h; obtain rfl : l = [] := List.eq_nil_of_length_eq_zero (by omega); exact ⟨by intro x hx; rw [C_nil] at hx; simp at hx, rfl⟩
  | succ n ih =>
    intro i l h
    by_cases hl : l = []
    · subst hl; exact ⟨by intro x hx; rw [C_nil] at hx; simp at hx, rfl⟩
    · have hd := D_len l hl
      rw [C_cons i l hl]
      obtain ⟨h1, h2⟩ := ih (i + (D l).2) (l.drop (D l).2.toNat) (by simp; omega)
      constructor
      · intro x hx
        rcases List.mem_cons.1 hx with rfl | hx
        · exact ⟨hd.1, hd.2.1⟩
        · exact h1 x hx
      · simp only [total, h2, List.length_drop]; omega
/-- the next place: its line and column -/
def nextLC (s : List Int) (l c r e : Int) : Int × Int := if lineEnd s r e = true then (l + 1, 1) else (l, c + 1)
theorem spotsL_cons (s : List Int) (a l c : Int) (x : S45) (t : List S45) :
    spotsL s a l c (x :: t) = (a, l, c) :: spotsL s (a + x.f2) (nextLC s l c x.f0 (a + x.f2)).1 (nextLC s l c x.f0 (a + x.f2)).2 t := by
  unfold nextLC; rw [spotsL]; split <;> rfl
theorem nextLC_lt (s : List Int) (l c r e : Int) : (l < (nextLC s l c r e).1 ∨ l = (nextLC s l c r e).1 ∧ c < (nextLC s l c r e).2) ∧ (1 ≤ l → 1 ≤ c → 1 ≤ (nextLC s l c r e).1 ∧ 1 ≤ (nextLC s l c r e).2) := by
  unfold nextLC; split <;> simp <;> omega
theorem spotsL_head (s : List Int) (a l c : Int) (cs : List S45) : ∃ t, spotsL s a l c cs = (a, l, c) :: t := by
  cases cs with
  | nil => exact ⟨[], rfl⟩
  | cons x t => exact ⟨_, spotsL_cons s a l c x t⟩
theorem last_over (s : List Int) (a l c at_ : Int) (cs : List S45) (d : Int × Int × Int) (h : at_ < a) : lastLe at_ d (spotsL s a l c cs) = d := by
  obtain ⟨t, ht⟩ := spotsL_head s a l c cs
  rw [ht, lastLe, if_pos h]
theorem last_cons (s : List Int) (a l c at_ : Int) (x : S45) (t : List S45) (d : Int × Int × Int) (h : a ≤ at_) :
    lastLe at_ d (spotsL s a l c (x :: t)) = lastLe at_ (a, l, c) (spotsL s (a + x.f2) (nextLC s l c x.f0 (a + x.f2)).1 (nextLC s l c x.f0 (a + x.f2)).2 t) := by
  rw [spotsL_cons, lastLe, if_neg (by show ¬ at_ < a; omega)]
/-- what lies further on is not ahead -/
theorem last_ge (s : List Int) (at_ : Int) : ∀ (cs : List S45) (a l c : Int) (d : Int × Int × Int), a ≤ at_ →
    lexLe (l, c) (lastLe at_ d (spotsL s a l c cs)).2 ∧ (1 ≤ l → 1 ≤ c → 1 ≤ (lastLe at_ d (spotsL s a l c cs)).2.1 ∧ 1 ≤ (lastLe at_ d (spotsL s a l c cs)).2.2)
  | [], a, l, c, d, h => by rw [spotsL, lastLe, if_neg (by show ¬ at_ < a; omega), lastLe]; exact ⟨lexLe_refl _, fun h1 h2 => ⟨h1, h2⟩⟩
  | x :: t, a, l, c, d, h => by
    rw [last_cons s a l c at_ x t d h]
    have hn := nextLC_lt s l c x.f0 (a + x.f2)
    by_cases h2 : a + x.f2 ≤ at_
    · have ih := last_ge s at_ t (a + x.f2) (nextLC s l c x.f0 (a + x.f2)).1 (nextLC s l c x.f0 (a + x.f2)).2 (a, l, c) h2
      refine ⟨lexLe_trans ?_ ih.1, fun h3 h4 => ih.2 (hn.2 h3 h4).1 (hn.2 h3 h4).2⟩
      have := hn.1
      unfold lexLe; simp only; omega
    · rw [last_over _ _ _ _ _ _ _ (by omega)]
      exact ⟨lexLe_refl _, fun h3 h4 => ⟨h3, h4⟩⟩
theorem last_mono (s : List Int) (x y : Int) (hxy : x ≤ y) : ∀ (cs : List S45) (a l c : Int) (d : Int × Int × Int), a ≤ x →
    lexLe (lastLe x d (spotsL s a l c cs)).2 (lastLe y d (spotsL s a l c cs)).2
  | [], a, l, c, d, h => by rw [spotsL, lastLe, if_neg (by show ¬ x < a; omega), lastLe, lastLe, if_neg (by show ¬ y < a; omega), lastLe]; exact lexLe_refl _
  | z :: t, a, l, c, d, h => by
    rw [last_cons s a l c x z t d h, last_cons s a l c y z t d (by omega)]
    by_cases h2 : a + z.f2 ≤ x
    · exact last_mono s x y hxy t _ _ _ _ h2
    · rw [last_over _ _ _ _ x _ _ (by omega)]
      have := (last_ge s y (z :: t) a l c (a, l, c) (by omega)).1
      rw [last_cons s a l c y z t _ (by omega)] at this
      exact this
/-- the last place that is not beyond another one: how far it lies ahead; it is the first in its line and column; it is its own last one -/
theorem last_back (s : List Int) : ∀ (cs : List S45) (a l c at_ : Int) (d : Int × Int × Int), Lens cs → a ≤ at_ → at_ ≤ a + total cs →
    (a ≤ (lastLe at_ d (spotsL s a l c cs)).1 ∧ (lastLe at_ d (spotsL s a l c cs)).1 ≤ at_ ∧ at_ - (lastLe at_ d (spotsL s a l c cs)).1 < 4) ∧
    placeOf (lastLe at_ d (spotsL s a l c cs)).2.1 (lastLe at_ d (spotsL s a l c cs)).2.2 (spotsL s a l c cs) = (lastLe at_ d (spotsL s a l c cs)).1 ∧
    (∀ d2, lastLe (lastLe at_ d (spotsL s a l c cs)).1 d2 (spotsL s a l c cs) = lastLe at_ d (spotsL s a l c cs))
  | [], a, l, c, at_, d, hL, h1, h2 => by
    have : at_ = a := by simp [total] at h2; omega
    subst this
    have e : lastLe at_ d (spotsL s at_ l c []) = (at_, l, c) := by rw [spotsL, lastLe, if_neg (by show ¬ at_ < at_; omega), lastLe]
    rw [e]
    refine ⟨⟨by simp, by simp, by simp⟩, ?_, ?_⟩
    · rw [spotsL, placeOf, if_pos ⟨rfl, rfl⟩]
    · intro d2
      show lastLe at_ d2 (spotsL s at_ l c []) = _
      rw [spotsL, lastLe, if_neg (by show ¬ at_ < at_; omega), lastLe]
  | x :: t, a, l, c, at_, d, hL, h1, h2 => by
    have hx := hL x List.mem_cons_self
    have hLt : Lens t := fun y hy => hL y (List.mem_cons_of_mem _ hy)
    rw [last_cons s a l c at_ x t d h1]
    by_cases h3 : a + x.f2 ≤ at_
    · obtain ⟨⟨i1, i2, i3⟩, i4, i5⟩ := last_back s t (a + x.f2) (nextLC s l c x.f0 (a + x.f2)).1 (nextLC s l c x.f0 (a + x.f2)).2 at_ (a, l, c) hLt h3 (by simp only [total] at h2; omega)
      have hg := (last_ge s at_ t (a + x.f2) (nextLC s l c x.f0 (a + x.f2)).1 (nextLC s l c x.f0 (a + x.f2)).2 (a, l, c) h3).1
      have hn := (nextLC_lt s l c x.f0 (a + x.f2)).1
      refine ⟨⟨by omega, i2, i3⟩, ?_, ?_⟩
      · rw [spotsL_cons, placeOf, if_neg, i4]
        rintro ⟨e1, e2⟩
        simp only at e1 e2
        unfold lexLe at hg
        simp only at hg
        omega
      · intro d2
        rw [last_cons s a l c _ x t d2 (by omega)]
        exact i5 _
    · rw [last_over _ _ _ _ _ _ _ (by omega)]
      refine ⟨⟨by simp, h1, by simp only; omega⟩, ?_, ?_⟩
      · rw [spotsL_cons, placeOf, if_pos ⟨rfl, rfl⟩]
      · intro d2
        show lastLe a d2 (spotsL s a l c (x :: t)) = _
        rw [last_cons s a l c a x t d2 (Int.le_refl _), last_over _ _ _ _ _ _ _ (by omega)]
end Go.Proofs.Ytndecknocmallaa.U8
