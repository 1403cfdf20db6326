import Derived.Test.YtndecknocmallaaPx1004
import Derived.Test.YtndecknocmallaaLRef2
namespace Go.Proofs.Ytndecknocmallaa.Pure
open Go.RowKit Go.Proofs.Ytndecknocmallaa.P Go.Proofs.YtndecknocmallaaW.PrintWords Go.Proofs.YtndecknocmallaaW.PrintLast Go.Proofs.Ytndecknocmallaa.U8
set_option linter.unusedVariables false
set_option linter.unusedSimpArgs false
/-- what both tell of a place -/
def gO (s : List Int) (at_ : Nat) : Int × Int := ((lbN s at_).1, 1 + cnt (lbN s at_).2 at_ (C 0 s))
/-- the first place from a place on of which that is told -/
def fA (s : List Int) (p : Int × Int) : Nat → Int
  | 0 => -1
  | n + 1 => if gO s (s.length - n) = p then ((s.length - n : Nat) : Int) else fA s p n
theorem fA_skip (s : List Int) (p : Int × Int) (n : Nat) : ∀ m, m ≤ n → n ≤ s.length + 1 → (∀ j, n - m ≤ j → j < n → gO s (s.length - j) ≠ p) → fA s p n = fA s p (n - m)
  | 0, _, _, _ => rfl
  | m + 1, h1, h2, h3 => by
    rw [fA_skip s p n m (by omega) h2 (fun j a b => h3 j (by omega) b)]
    obtain ⟨q, hq⟩ : ∃ q, n - m = q + 1 := ⟨n - m - 1, by omega⟩
    rw [hq, fA, if_neg (h3 q (by omega) (by omega))]
    congr 1; omega
theorem place_spec (s : List Int) (p : Int × Int) (n : Nat) : ∀ (a : Nat) (l c : Int) (d : Int × Int × Int), s.length - a ≤ n → a ≤ s.length →
    (∀ at_ : Nat, a ≤ at_ → at_ ≤ s.length → gO s at_ = (lastLe (at_ : Int) d (spotsL s a l c (C a (s.drop a)))).2) →
    placeOf p.1 p.2 (spotsL s a l c (C a (s.drop a))) = fA s p (s.length + 1 - a) := by
  induction n with
  | zero =>
    intro a l c d h1 h2 hg
    have e : a = s.length := by omega
    have hnil : s.drop a = [] := List.drop_eq_nil_of_le (by omega)
    have g := hg a (Nat.le_refl _) h2
    rw [hnil, C_nil, spotsL, lastLe, if_neg (by show ¬ (a : Int) < a; omega), lastLe] at g
    rw [hnil, C_nil, spotsL, show s.length + 1 - a = 0 + 1 by omega, fA, show s.length - 0 = a by omega, g, placeOf, placeOf]
    by_cases hp : l = p.1 ∧ c = p.2
    · rw [if_pos hp, if_pos (by rw [hp.1, hp.2])]
    · rw [if_neg hp, if_neg (fun e => hp ⟨congrArg Prod.fst e, congrArg Prod.snd e⟩), fA]
  | succ n ih =>
    intro a l c d h1 h2 hg
    by_cases hnil : s.drop a = []
    · have : s.length ≤ a := List.drop_eq_nil_iff.1 hnil
      have e : a = s.length := by omega
      have g := hg a (Nat.le_refl _) h2
      rw [hnil, C_nil, spotsL, lastLe, if_neg (by show ¬ (a : Int) < a; omega), lastLe] at g
      rw [hnil, C_nil, spotsL, show s.length + 1 - a = 0 + 1 by omega, fA, show s.length - 0 = a by omega, g, placeOf, placeOf]
      by_cases hp : l = p.1 ∧ c = p.2
      · rw [if_pos hp, if_pos (by rw [hp.1, hp.2])]
      · rw [if_neg hp, if_neg (fun e => hp ⟨congrArg Prod.fst e, congrArg Prod.snd e⟩), fA]
    · have hd := D_len _ hnil
      obtain ⟨L, hL⟩ : ∃ L : Nat, (L : Int) = (D (s.drop a)).2 := ⟨(D (s.drop a)).2.toNat, by omega⟩
      have e2 : (D (s.drop a)).2.toNat = L := by omega
      have hlen : a + L ≤ s.length := by have := hd.2.2; simp at this; omega
      have hcc : C a (s.drop a) = ⟨(D (s.drop a)).1, a, L⟩ :: C ((a + L : Nat) : Int) (s.drop (a + L)) := by
        rw [C_cons _ _ hnil, e2, List.drop_drop, ← hL]; rfl
      have hsame : ∀ m, m < L → gO s (a + m) = (l, c) := by
        intro m hm
        rw [hg (a + m) (by omega) (by omega), hcc, last_cons _ _ _ _ _ _ _ _ (by omega), last_over _ _ _ _ _ _ _ (by simp only; omega)]
      have hnext : ∀ at_ : Nat, a + L ≤ at_ → at_ ≤ s.length → gO s at_ = (lastLe (at_ : Int) ((a : Int), l, c) (spotsL s ((a + L : Nat) : Int) (nextLC s l c (D (s.drop a)).1 (a + L)).1 (nextLC s l c (D (s.drop a)).1 (a + L)).2 (C ((a + L : Nat) : Int) (s.drop (a + L))))).2 := by
        intro at_ h3 h4
        rw [hg at_ (by omega) h4, hcc, last_cons _ _ _ _ _ _ _ _ (by omega)]
        rfl
      have := ih (a + L) _ _ _ (by omega) hlen hnext
      rw [hcc, spotsL_cons, placeOf]
      by_cases hp : l = p.1 ∧ c = p.2
      · rw [if_pos hp, show s.length + 1 - a = (s.length - a) + 1 by omega, fA, show s.length - (s.length - a) = a by omega, (show gO s a = (l, c) from hsame 0 (by omega)), if_pos (by rw [hp.1, hp.2])]
      · rw [if_neg hp, fA_skip s p (s.length + 1 - a) L (by omega) (by omega) (by
          intro j h5 h6 e
          have := hsame (s.length - j - a) (by omega)
          rw [show a + (s.length - j - a) = s.length - j by omega, e] at this
          exact hp ⟨(congrArg Prod.fst this).symm, (congrArg Prod.snd this).symm⟩), show s.length + 1 - a - L = s.length + 1 - (a + L) by omega]
        exact this
theorem place_l0 (s : List Int) (hb : Bytes s) (hl : s.length ≤ 5000000000000) (p : Int × Int) (n : Nat) : ∀ (k i : Nat), s.length + 1 - i = n → i ≤ s.length + 1 → n + 2 * s.length + 20 < k →
    glyphcutterref21_Place.l0 k s p.1 p.2 (i : Int) = some (fA s p n) := by
  induction n with
  | zero =>
    intro k i h1 h2 h3
    obtain ⟨k, rfl⟩ : ∃ k', k = k' + 1 := ⟨k - 1, by omega⟩
    rw [glyphcutterref21_Place.l0, if_neg (by omega), fA]
  | succ n ih =>
    intro k i h1 h2 h3
    obtain ⟨k, rfl⟩ : ∃ k', k = k' + 1 := ⟨k - 1, by omega⟩
    have := ih k (i + 1) (by omega) (by omega) (by omega)
    rw [glyphcutterref21_Place.l0, if_pos (by omega), refof_eq s hb hl i (by omega) k (by omega), Option.bind_some, wrap_id ((i : Int) + 1) (by omega) (by omega)]
    have e : ((i : Int) + 1) = ((i + 1 : Nat) : Int) := by omega
    rw [e, fA, show s.length - n = i by omega]
    show (if (gO s i).1 = p.1 then (if (gO s i).2 = p.2 then some (i : Int) else _) else _) = _
    by_cases g1 : (gO s i).1 = p.1
    · rw [if_pos g1]
      by_cases g2 : (gO s i).2 = p.2
      · rw [if_pos g2, if_pos (Prod.ext g1 g2)]
      · rw [if_neg g2, if_neg (fun e => g2 (congrArg Prod.snd e))]; exact this
    · rw [if_neg g1, if_neg (fun e => g1 (congrArg Prod.fst e))]; exact this
theorem place_eq (s : List Int) (hb : Bytes s) (hl : s.length ≤ 5000000000000) (line column : Int) (k : Nat) (hk : 3 * s.length + 30 < k) :
    lines_Place.f s line column = some (fA s (line, column) (s.length + 1)) ∧ glyphcutterref21_Place.f k s line column = some (fA s (line, column) (s.length + 1)) := by
  constructor
  · unfold lines_Place.f
    rw [if_pos ⟨hb, hl⟩]
    have := place_spec s (line, column) s.length 0 1 1 (0, 0, 0) (by omega) (by omega) (fun at_ h1 h2 => (of_last s s.length 0 [] 1 1 (0, 0, 0) at_ (by omega) (by omega) h2 rfl (by simp [cnt]) (by simp)).symm)
    exact congrArg some this
  · exact place_l0 s hb hl (line, column) (s.length + 1) k 0 (by omega) (by omega) (by omega)
theorem tells_eq (s : List Int) (hb : Bytes s) (hl : s.length ≤ 5000000000) (at_ line column : Int) (k : Nat) (hk : 3 * s.length + 40 < k) : glyphcutterlaw21_tells.f k s at_ line column = some true := by
  have e1 : lines_Of.f s at_ = glyphcutterref21_Of.f k s at_ ∧ ∃ p, glyphcutterref21_Of.f k s at_ = some p := by
    by_cases h : at_ < 0 ∨ (s.length : Int) < at_
    · rw [refof_out s at_ h k (by omega)]
      refine ⟨?_, _, rfl⟩
      unfold lines_Of.f
      rw [if_pos ⟨hb, by omega⟩, if_pos h]
    · obtain ⟨m, rfl⟩ : ∃ m : Nat, at_ = m := ⟨at_.toNat, by omega⟩
      rw [refof_eq s hb (by omega) m (by omega) k (by omega)]
      exact ⟨linesof_eq s hb (by omega) m (by omega), _, rfl⟩
  obtain ⟨e1, p, e2⟩ := e1
  rw [e2] at e1
  have e3 : lines_Count.f s = some (lbN s s.length).1 := by
    unfold lines_Count.f
    have := linesof_eq s hb (by omega) s.length (Nat.le_refl _)
    generalize lines_Of.f s (s.length : Int) = A at this ⊢
    subst this
    rfl
  have e4 := refcount_eq s (by omega) k (by omega)
  obtain ⟨e5, e6⟩ := place_eq s hb (by omega) line column k (by omega)
  unfold glyphcutterlaw21_tells.f
  generalize lines_Of.f s at_ = A at e1 ⊢
  generalize glyphcutterref21_Of.f k s at_ = B at e2 ⊢
  generalize lines_Count.f s = D at e3 ⊢
  generalize glyphcutterref21_Count.f k s = E at e4 ⊢
  generalize lines_Place.f s line column = F at e5 ⊢
  generalize glyphcutterref21_Place.f k s line column = G at e6 ⊢
  subst e1 e2 e3 e4 e5 e6
  simp
theorem LinesOf : glyphcutterlaw21_LinesOf.Pure := by
  intro l0 l1 a2 a3 a4 a5 a6 a7 hl hl2 hw hm hm2 hw1 h2 h3 h4 h5 h6 h7
  have hb := U8.bytes_wf hw
  have hb1 := U8.bytes_wf hw1
  have ha5 : 0 ≤ a5 ∧ a5 ≤ 255 := by have := U8.bytes_wf (l := [a5]) (by simpa using h5); simpa [U8.Bytes] using this
  refine ⟨4000 + 1, ?_⟩
  have hk : glyphcutterlaw21_known.f = some true := rfl
  have ht : glyphcutterlaw20_Text.f l1 = some (textOf l1) := by unfold glyphcutterlaw20_Text.f; rw [if_pos]; exact hb1
  have htl := textOf_len l1
  have htb : Bytes (textOf l1) := textOf_bytes l1
  unfold glyphcutterlaw21_LinesOf.f
  by_cases c1 : (l0.length : Int) > 300
  · rw [if_pos c1, glyphcutterlaw21_LinesOf.j0, if_pos rfl, hk, Option.bind_some]
  · rw [if_neg c1, hk]
    show glyphcutterlaw21_LinesOf.j0 (4000 + 1) l0 l1 a2 a3 a4 a5 a6 a7 false = some true
    rw [glyphcutterlaw21_LinesOf.j0, if_neg (by decide), ht, Option.bind_some]
    generalize textOf l1 = t at htl htb ⊢
    rw [wrap_id ((t.length : Int) + 2) (by omega) (by omega), wrap_id ((l0.length : Int) + 1) (by omega) (by omega)]
    have e1 := tells_eq l0 hb (by omega) a2 a3 a4 4000 (by omega)
    have e2 := tells_eq t htb (by omega) (Int.tmod (wrap64 a5) ((t.length : Int) + 2)) (wrap64 (Int.tmod a6 6)) (wrap64 (Int.tmod a7 12)) 4000 (by omega)
    have e3 := tells_eq l0 hb (by omega) (Int.tmod (wrap64 a5) ((l0.length : Int) + 1)) (wrap64 (Int.tmod a6 6)) (wrap64 (Int.tmod a7 12)) 4000 (by omega)
    have n1 : ¬ ((t.length : Int) + 2 = 0) := by omega
    have n2 : ¬ ((l0.length : Int) + 1 = 0) := by omega
    generalize glyphcutterlaw21_tells.f 4000 l0 a2 a3 a4 = A at e1 ⊢
    generalize glyphcutterlaw21_tells.f 4000 t (Int.tmod (wrap64 a5) ((t.length : Int) + 2)) (wrap64 (Int.tmod a6 6)) (wrap64 (Int.tmod a7 12)) = B at e2 ⊢
    generalize glyphcutterlaw21_tells.f 4000 l0 (Int.tmod (wrap64 a5) ((l0.length : Int) + 1)) (wrap64 (Int.tmod a6 6)) (wrap64 (Int.tmod a7 12)) = D at e3 ⊢
    subst e1 e2 e3
    rw [if_neg n1, if_neg n2]
    rfl
end Go.Proofs.Ytndecknocmallaa.Pure
