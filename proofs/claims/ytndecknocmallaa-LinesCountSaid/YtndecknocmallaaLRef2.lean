/- Lines by the bytes: what the last place that is not beyond another one tells is what the ends of lines ahead of it, and the chars behind the last of these, say; and so does the document's answer, as printed. Plain Lean. -/
import Derived.Test.YtndecknocmallaaLPure
import Derived.Test.YtndecknocmallaaR02
import Derived.Test.YtndecknocmallaaPx1015
import Derived.Test.YtndecknocmallaaPx1016
import Derived.Test.YtndecknocmallaaPx1017
namespace Go.Proofs.Ytndecknocmallaa.U8
open Go Go.RowKit Go.Proofs.Ytndecknocmallaa.P Go.Proofs.YtndecknocmallaaW.PrintWords Go.Proofs.YtndecknocmallaaW.PrintLast
set_option linter.unusedVariables false
set_option linter.unusedSimpArgs false
theorem rdn (l : List Int) (j : Nat) : rd l (j : Int) = l.getD j 0 := by simp [rd]
/-- a char is one byte that is its own number, or bytes none of which ends a line -/
theorem D_kinds (l : List Int) (h : l ≠ []) : ((D l).2 = 1 ∧ (D l).1 = l.getD 0 0 ∧ l.getD 0 0 < 128) ∨ ((∀ j : Nat, (j : Int) < (D l).2 → 128 ≤ l.getD j 0) ∧ (D l).1 ≠ 10 ∧ (D l).1 ≠ 13) := by
  cases l with
  | nil => exact absurd rfl h
  | cons a t =>
    generalize hD : D (a :: t) = r
    simp only [D] at hD
    by_cases c1 : a < 128
    · rw [if_pos c1] at hD; subst hD; exact .inl ⟨rfl, rfl, c1⟩
    · rw [if_neg c1] at hD
      right
      have one : ∀ r : Int × Int, ((-1 : Int), (1 : Int)) = r → (∀ j : Nat, (j : Int) < r.2 → 128 ≤ (a :: t).getD j 0) ∧ r.1 ≠ 10 ∧ r.1 ≠ 13 := by
        rintro r rfl
        refine ⟨fun j hj => ?_, by decide, by decide⟩
        have : j = 0 := by simp only at hj; omega
        subst this; simp; omega
      by_cases c2 : a < 194 ∨ 244 < a
      · rw [if_pos c2] at hD; exact one r hD
      · rw [if_neg c2] at hD
        cases t with
        | nil => exact one r hD
        | cons b t =>
          dsimp only at hD
          have hlo : 128 ≤ (if a = 224 then (160 : Int) else if a = 240 then 144 else 128) ∧ (a = 224 → 160 ≤ (if a = 224 then (160 : Int) else if a = 240 then 144 else 128)) ∧ (a = 240 → 144 ≤ (if a = 224 then (160 : Int) else if a = 240 then 144 else 128)) := by
            refine ⟨?_, ?_, ?_⟩
            · split <;> (try split) <;> omega
            · intro h; rw [if_pos h]; omega
            · intro h; rw [if_neg (by omega), if_pos h]; omega
          generalize (if a = 224 then (160 : Int) else if a = 240 then 144 else 128) = lo at hD hlo
          have hhi : (if a = 237 then (159 : Int) else if a = 244 then 143 else 191) ≤ 191 := by split <;> (try split) <;> omega
          generalize (if a = 237 then (159 : Int) else if a = 244 then 143 else 191) = hi at hD hhi
          by_cases c3 : ¬ (lo ≤ b ∧ b ≤ hi)
          · rw [if_pos c3] at hD; exact one r hD
          · rw [if_neg c3] at hD
            have two : ∀ r : Int × Int, r.2 = 2 → r.1 ≠ 10 → r.1 ≠ 13 → (∀ j : Nat, (j : Int) < r.2 → 128 ≤ (a :: b :: t).getD j 0) ∧ r.1 ≠ 10 ∧ r.1 ≠ 13 := by
              rintro r e h1 h2
              refine ⟨fun j hj => ?_, h1, h2⟩
              have : j = 0 ∨ j = 1 := by omega
              rcases this with rfl | rfl <;> simp <;> omega
            by_cases c4 : a < 224
            · rw [if_pos c4] at hD; subst hD; exact two _ rfl (by simp only; omega) (by simp only; omega)
            · rw [if_neg c4] at hD
              cases t with
              | nil => subst hD; exact two (-1, 2) rfl (by decide) (by decide)
              | cons c t =>
                dsimp only at hD
                by_cases c5 : ¬ (128 ≤ c ∧ c ≤ 191)
                · rw [if_pos c5] at hD; subst hD; exact two _ rfl (by decide) (by decide)
                · rw [if_neg c5] at hD
                  have three : ∀ r : Int × Int, r.2 = 3 → r.1 ≠ 10 → r.1 ≠ 13 → (∀ j : Nat, (j : Int) < r.2 → 128 ≤ (a :: b :: c :: t).getD j 0) ∧ r.1 ≠ 10 ∧ r.1 ≠ 13 := by
                    rintro r e h1 h2
                    refine ⟨fun j hj => ?_, h1, h2⟩
                    have : j = 0 ∨ j = 1 ∨ j = 2 := by omega
                    rcases this with rfl | rfl | rfl <;> simp <;> omega
                  by_cases c6 : a < 240
                  · rw [if_pos c6] at hD; subst hD; exact three _ rfl (by simp only; omega) (by simp only; omega)
                  · rw [if_neg c6] at hD
                    cases t with
                    | nil => subst hD; exact three (-1, 3) rfl (by decide) (by decide)
                    | cons d t =>
                      dsimp only at hD
                      by_cases c7 : ¬ (128 ≤ d ∧ d ≤ 191)
                      · rw [if_pos c7] at hD; subst hD; exact three _ rfl (by decide) (by decide)
                      · rw [if_neg c7] at hD
                        subst hD
                        refine ⟨fun j hj => ?_, by simp only; omega, by simp only; omega⟩
                        have : j = 0 ∨ j = 1 ∨ j = 2 ∨ j = 3 := by simp only at hj; omega
                        rcases this with rfl | rfl | rfl | rfl <;> simp <;> omega
/-- does a line end just ahead of a place -/
def endsB (s : List Int) (i : Nat) : Bool := decide (1 ≤ i ∧ i ≤ s.length) && lineEnd s (s.getD (i - 1) 0) i
/-- the line of a place, and where it begins -/
def lbN (s : List Int) : Nat → Int × Int
  | 0 => (1, 0)
  | n + 1 => if endsB s (n + 1) = true then ((lbN s n).1 + 1, ((n + 1 : Nat) : Int)) else lbN s n
theorem lbN_le (s : List Int) : ∀ n, 0 ≤ (lbN s n).2 ∧ (lbN s n).2 ≤ n ∧ 1 ≤ (lbN s n).1 ∧ (lbN s n).1 ≤ n + 1
  | 0 => by simp [lbN]
  | n + 1 => by
    have := lbN_le s n
    rw [lbN]; split <;> simp only [Int.natCast_add] <;> omega
def cnt (b at_ : Int) (cs : List S45) : Int := ((cs.filter fun x => decide (b ≤ x.f1) && decide (x.f1 + x.f2 ≤ at_)).length : Int)
theorem cnt_append (b at_ : Int) (x y : List S45) : cnt b at_ (x ++ y) = cnt b at_ x + cnt b at_ y := by simp [cnt]
theorem cnt_none (b at_ : Int) (x : List S45) (h : ∀ y ∈ x, y.f1 < b ∨ at_ < y.f1 + y.f2) : cnt b at_ x = 0 := by
  unfold cnt
  rw [List.filter_eq_nil_iff.2]; · rfl
  intro y hy
  have := h y hy
  simp; omega
theorem cnt_congr (b at_ at2 : Int) (x : List S45) (h : ∀ y ∈ x, y.f1 + y.f2 ≤ at_ ∧ y.f1 + y.f2 ≤ at2) : cnt b at_ x = cnt b at2 x := by
  unfold cnt
  congr 2
  apply List.filter_congr
  intro y hy
  have := h y hy
  simp [this.1, this.2]
theorem C_ge (n : Nat) : ∀ (i : Int) (l : List Int), l.length ≤ n → ∀ y ∈ C i l, i ≤ y.f1 ∧ 1 ≤ y.f2 := by
  induction n with
  | zero => intro i l h y hy; obtain rfl : l = [] := List.eq_nil_of_length_eq_zero (by omega); rw [C_nil] at hy; simp at hy
  | succ n ih =>
    intro i l h y hy
    by_cases hl : l = []
    · subst hl; rw [C_nil] at hy; simp at hy
    · have hd := D_len l hl
      rw [C_cons i l hl] at hy
      rcases List.mem_cons.1 hy with rfl | hy
      · exact ⟨Int.le_refl _, hd.1⟩
      · have := ih _ _ (by simp; omega) y hy
        omega
/-- within a char no line ends -/
theorem inner (s : List Int) (a : Nat) (ha : a < s.length) (m : Nat) (hm : (m : Int) < (D (s.drop a)).2) : lbN s (a + m) = lbN s a := by
  have hne : s.drop a ≠ [] := by intro e; have := congrArg List.length e; simp at this; omega
  induction m with
  | zero => rfl
  | succ m ih =>
    rw [← Nat.add_assoc, lbN, if_neg, ih (by omega)]
    rcases D_kinds (s.drop a) hne with ⟨h1, _, _⟩ | ⟨h1, _, _⟩
    · omega
    · have := h1 m (by omega)
      rw [List.getD_eq_getElem?_getD, List.getElem?_drop, ← List.getD_eq_getElem?_getD] at this
      simp only [endsB, lineEnd, Nat.add_sub_cancel]
      generalize s.getD (a + m) 0 = v at this ⊢
      have h10 : decide (v = 10) = false := decide_eq_false (by omega)
      have h13 : decide (v = 13) = false := decide_eq_false (by omega)
      rw [h10, h13]; simp
/-- at a char's end -/
theorem outer (s : List Int) (a L : Nat) (ha : a < s.length) (hL : (L : Int) = (D (s.drop a)).2) : lbN s (a + L) = if lineEnd s (D (s.drop a)).1 ((a + L : Nat) : Int) = true then ((lbN s a).1 + 1, ((a + L : Nat) : Int)) else lbN s a := by
  have hne : s.drop a ≠ [] := by intro e; have := congrArg List.length e; simp at this; omega
  have hd := D_len _ hne
  obtain ⟨m, rfl⟩ : ∃ m, L = m + 1 := ⟨L - 1, by omega⟩
  have hi := inner s a ha m (by omega)
  have hlen : a + (m + 1) ≤ s.length := by have := hd.2.2; simp at this; omega
  have he : endsB s (a + m + 1) = lineEnd s (D (s.drop a)).1 ((a + (m + 1) : Nat) : Int) := by
    unfold endsB
    rw [decide_eq_true (by omega), Bool.true_and]
    simp only [Nat.add_sub_cancel, ← Nat.add_assoc]
    rcases D_kinds (s.drop a) hne with ⟨h1, h2, h3⟩ | ⟨h1, h2, h3⟩
    · have : m = 0 := by omega
      subst this
      rw [h2, List.getD_eq_getElem?_getD, List.getD_eq_getElem?_getD, List.getElem?_drop]
    · have := h1 m (by omega)
      rw [List.getD_eq_getElem?_getD, List.getElem?_drop, ← List.getD_eq_getElem?_getD] at this
      unfold lineEnd
      simp only [decide_eq_false h2, decide_eq_false h3, Bool.false_and, Bool.false_or]
      rw [decide_eq_false (by omega), decide_eq_false (by omega)]; simp
  show lbN s (a + m + 1) = _
  rw [lbN, he, hi]; rfl
theorem of_last (s : List Int) (n : Nat) : ∀ (a : Nat) (pre : List S45) (l c : Int) (d : Int × Int × Int) (at_ : Nat), s.length - a ≤ n → a ≤ at_ → at_ ≤ s.length → l = (lbN s a).1 → c = 1 + cnt (lbN s a).2 a pre →
    (∀ y ∈ pre, y.f1 < a ∧ y.f1 + y.f2 ≤ a) →
    (lastLe (at_ : Int) d (spotsL s a l c (C a (s.drop a)))).2 = ((lbN s at_).1, 1 + cnt (lbN s at_).2 at_ (pre ++ C a (s.drop a))) := by
  induction n with
  | zero =>
    intro a pre l c d at_ hn h1 h2 hl hc hp
    have e : at_ = a := by omega
    subst e
    have hnil : s.drop at_ = [] := List.drop_eq_nil_of_le (by omega)
    rw [hnil, C_nil, spotsL, lastLe, if_neg (by show ¬ (at_ : Int) < at_; omega), lastLe, List.append_nil, hl, hc]
  | succ n ih =>
    intro a pre l c d at_ hn h1 h2 hl hc hp
    by_cases hnil : s.drop a = []
    · have : s.length ≤ a := List.drop_eq_nil_iff.1 hnil
      have e : at_ = a := by omega
      subst e
      rw [hnil, C_nil, spotsL, lastLe, if_neg (by show ¬ (at_ : Int) < at_; omega), lastLe, List.append_nil, hl, hc]
    · have ha : a < s.length := by
        rcases Nat.lt_or_ge a s.length with h | h
        · exact h
        · exact absurd (List.drop_eq_nil_of_le h) hnil
      have hd := D_len _ hnil
      rw [C_cons _ _ hnil]
      obtain ⟨L, hL⟩ : ∃ L : Nat, (L : Int) = (D (s.drop a)).2 := ⟨(D (s.drop a)).2.toNat, by omega⟩
      have hout := outer s a L ha hL
      have hinn : ∀ m, m < L → lbN s (a + m) = lbN s a := fun m hm => inner s a ha m (by omega)
      have e2 : (D (s.drop a)).2.toNat = L := by omega
      rw [e2, List.drop_drop, ← hL]
      have hrest := C_ge _ ((a : Int) + L) (s.drop (a + L)) (Nat.le_refl _)
      rw [last_cons s a l c at_ _ _ d (by omega)]
      simp only
      by_cases h3 : a + L ≤ at_
      · have hlb := lbN_le s a
        have := ih (a + L) (pre ++ [⟨(D (s.drop a)).1, a, L⟩]) (nextLC s l c (D (s.drop a)).1 (a + L)).1 (nextLC s l c (D (s.drop a)).1 (a + L)).2 ((a : Int), l, c) at_ (by omega) h3 h2
          (by rw [hout]; unfold nextLC; simp only [Int.natCast_add]; split <;> simp [hl])
          (by
            rw [hout]; unfold nextLC; simp only [Int.natCast_add]
            split
            · simp only
              rw [cnt_none]; · simp
              intro y hy
              rcases List.mem_append.1 hy with hy | hy
              · have := hp y hy; omega
              · have : y = ⟨(D (s.drop a)).1, a, L⟩ := by simpa using hy
                subst this; simp only; omega
            · simp only
              rw [cnt_append, hc, cnt_congr (lbN s a).2 a ((a : Int) + L) pre (fun y hy => by have := hp y hy; omega)]
              have : cnt (lbN s a).2 ((a : Int) + L) [⟨(D (s.drop a)).1, a, L⟩] = 1 := by simp [cnt, hlb.2.1]
              omega)
          (by
            intro y hy
            rcases List.mem_append.1 hy with hy | hy
            · have := hp y hy; omega
            · have : y = ⟨(D (s.drop a)).1, a, L⟩ := by simpa using hy
              subst this; simp only; omega)
        rw [List.append_assoc, List.cons_append, List.nil_append] at this
        simp only [Int.natCast_add] at this
        exact this
      · rw [last_over _ _ _ _ _ _ _ (by omega)]
        obtain ⟨m, rfl⟩ : ∃ m, at_ = a + m := ⟨at_ - a, by omega⟩
        rw [hinn m (by omega), cnt_append, cnt_none _ _ (_ :: _) (by
          intro y hy
          right
          rcases List.mem_cons.1 hy with rfl | hy
          · simp only; omega
          · have := hrest y hy; omega), cnt_congr _ _ (a : Int) pre (fun y hy => by have := hp y hy; omega), hl, hc]
        simp
theorem ends_eq (s : List Int) (hl : s.length ≤ 5000000000000) (i : Nat) (h1 : 1 ≤ i) (h2 : i ≤ s.length) : glyphcutterref21_ends.f s (i : Int) = some (endsB s i) := by
  obtain ⟨m, rfl⟩ : ∃ m, i = m + 1 := ⟨i - 1, by omega⟩
  unfold glyphcutterref21_ends.f endsB lineEnd
  rw [decide_eq_true (by omega : 1 ≤ m + 1 ∧ m + 1 ≤ s.length), Bool.true_and, if_neg (by omega), if_neg (by omega)]
  have hw : wrap64 (((m + 1 : Nat) : Int) - 1) = (m : Int) := by rw [wrap_id _ (by omega) (by omega)]; omega
  rw [hw, if_pos (by omega), if_pos (by omega), rdn]
  simp only [Nat.add_sub_cancel]
  generalize s.getD m 0 = v
  by_cases c1 : v = 10
  · rw [if_pos c1, decide_eq_true c1, Bool.true_or]
  · rw [if_neg c1, decide_eq_false c1, Bool.false_or]
    by_cases c2 : v = 13
    · rw [if_pos c2, decide_eq_true c2, Bool.true_and]
      by_cases c3 : ((m + 1 : Nat) : Int) = (s.length : Int)
      · rw [if_pos c3, decide_eq_true c3, Bool.true_or]
      · rw [if_neg c3, decide_eq_false c3, if_pos (by omega), if_pos (by omega), Bool.false_or]; rfl
    · rw [if_neg c2, decide_eq_false c2, Bool.false_and]
theorem C_up (n : Nat) : ∀ (i : Int) (l : List Int), l.length ≤ n → ∀ y ∈ C i l, y.f1 + y.f2 ≤ i + l.length := by
  induction n with
  | zero => intro i l h y hy; obtain rfl : l = [] := List.eq_nil_of_length_eq_zero (by omega); rw [C_nil] at hy; simp at hy
  | succ n ih =>
    intro i l h y hy
    by_cases hl : l = []
    · subst hl; rw [C_nil] at hy; simp at hy
    · have hd := D_len l hl
      rw [C_cons i l hl] at hy
      rcases List.mem_cons.1 hy with rfl | hy
      · simp only; omega
      · have := ih _ _ (by simp; omega) y hy
        simp only [List.length_drop] at this
        omega
theorem cnt_cons (b at_ : Int) (x : S45) (t : List S45) : cnt b at_ (x :: t) = (if b ≤ x.f1 ∧ x.f1 + x.f2 ≤ at_ then 1 else 0) + cnt b at_ t := by
  unfold cnt
  by_cases h : b ≤ x.f1 ∧ x.f1 + x.f2 ≤ at_
  · simp [List.filter_cons, h.1, h.2]; omega
  · rw [if_neg h, List.filter_cons, if_neg]; · omega
    simpa using h
theorem of_l1 (at_ l b N : Int) (cs : List S45) (hN : N ≤ 5000000000000) (hcs : ∀ y ∈ cs, 0 ≤ y.f1 ∧ 0 ≤ y.f2 ∧ y.f1 + y.f2 ≤ N) (hlen : (cs.length : Int) ≤ N) (n : Nat) : ∀ (k j : Nat) (c : Int), cs.length - j = n → j ≤ cs.length → n < k → 1 ≤ c → c ≤ j + 1 →
    glyphcutterref21_Of.l1 k at_ l b c cs (j : Int) = some (l, c + cnt b at_ (cs.drop j)) := by
  induction n with
  | zero =>
    intro k j c h1 h2 h3 hc1 hc2
    obtain ⟨k, rfl⟩ : ∃ k', k = k' + 1 := ⟨k - 1, by omega⟩
    rw [glyphcutterref21_Of.l1, if_neg (by omega), List.drop_eq_nil_of_le (by omega)]
    simp [cnt]
  | succ n ih =>
    intro k j c h1 h2 h3 hc1 hc2
    obtain ⟨k, rfl⟩ : ∃ k', k = k' + 1 := ⟨k - 1, by omega⟩
    have hj : j < cs.length := by omega
    have hx := hcs _ (List.getElem_mem hj)
    rw [glyphcutterref21_Of.l1, if_pos (by omega), if_pos (by omega), rd_getElem cs j hj, List.drop_eq_getElem_cons hj, cnt_cons]
    rw [wrap_id (cs[j].f1 + cs[j].f2) (by omega) (by omega), wrap_id ((j : Int) + 1) (by omega) (by omega), wrap_id (c + 1) (by omega) (by omega)]
    have e : ((j : Int) + 1) = ((j + 1 : Nat) : Int) := by omega
    rw [e]
    by_cases g1 : b ≤ cs[j].f1
    · rw [if_pos g1]
      by_cases g2 : cs[j].f1 + cs[j].f2 ≤ at_
      · rw [if_pos g2, if_pos ⟨g1, g2⟩, ih k (j + 1) (c + 1) (by omega) (by omega) (by omega) (by omega) (by omega)]
        congr 2; omega
      · rw [if_neg g2, if_neg (fun h => g2 h.2), ih k (j + 1) c (by omega) (by omega) (by omega) (by omega) (by omega)]
        congr 2; omega
    · rw [if_neg g1, if_neg (fun h => g1 h.1), ih k (j + 1) c (by omega) (by omega) (by omega) (by omega) (by omega)]
      congr 2; omega
theorem of_l0 (s : List Int) (hb : Bytes s) (hl : s.length ≤ 5000000000000) (at_ : Nat) (hat : at_ ≤ s.length) (n : Nat) : ∀ (k i : Nat), at_ - i = n → i ≤ at_ → n + s.length + 9 < k →
    glyphcutterref21_Of.l0 k s at_ (lbN s i).1 (lbN s i).2 ((i + 1 : Nat) : Int) = some ((lbN s at_).1, 1 + cnt (lbN s at_).2 at_ (C 0 s)) := by
  induction n with
  | zero =>
    intro k i h1 h2 h3
    obtain ⟨k, rfl⟩ : ∃ k', k = k' + 1 := ⟨k - 1, by omega⟩
    obtain rfl : i = at_ := by omega
    rw [glyphcutterref21_Of.l0, if_neg (by omega), refchars_eq s hb hl k (by omega), Option.bind_some]
    have hcl := C_length s.length 0 s (Nat.le_refl _)
    have := of_l1 i (lbN s i).1 (lbN s i).2 s.length (C 0 s) (by omega) (fun y hy => ⟨(C_ge _ 0 s (Nat.le_refl _) y hy).1, by have := (C_ge _ 0 s (Nat.le_refl _) y hy).2; omega, by have := C_up _ 0 s (Nat.le_refl _) y hy; omega⟩) (by omega) (C 0 s).length k 0 1 (by omega) (by omega) (by omega) (by omega) (by omega)
    exact this
  | succ n ih =>
    intro k i h1 h2 h3
    obtain ⟨k, rfl⟩ : ∃ k', k = k' + 1 := ⟨k - 1, by omega⟩
    have hlb := lbN_le s i
    rw [glyphcutterref21_Of.l0, if_pos (by omega), ends_eq s hl (i + 1) (by omega) (by omega), Option.bind_some]
    rw [wrap_id (((i + 1 : Nat) : Int) + 1) (by omega) (by omega), wrap_id ((lbN s i).1 + 1) (by omega) (by omega)]
    have := ih k (i + 1) (by omega) (by omega) (by omega)
    have e : (((i + 1 : Nat) : Int) + 1) = ((i + 1 + 1 : Nat) : Int) := by omega
    rw [e]
    rw [lbN] at this
    by_cases c1 : endsB s (i + 1) = true
    · rw [if_pos c1] at this ⊢; exact this
    · rw [if_neg c1] at this ⊢; exact this
theorem refof_eq (s : List Int) (hb : Bytes s) (hl : s.length ≤ 5000000000000) (at_ : Nat) (hat : at_ ≤ s.length) (k : Nat) (hk : 2 * s.length + 20 ≤ k) :
    glyphcutterref21_Of.f k s at_ = some ((lbN s at_).1, 1 + cnt (lbN s at_).2 at_ (C 0 s)) := by
  unfold glyphcutterref21_Of.f
  obtain ⟨k, rfl⟩ : ∃ k', k = k' + 1 := ⟨k - 1, by omega⟩
  rw [if_neg (by omega), decide_eq_false (by omega), glyphcutterref21_Of.j0, if_neg (by decide)]
  exact of_l0 s hb hl at_ hat at_ k 0 (by omega) (by omega) (by omega)
theorem refof_out (s : List Int) (at_ : Int) (h : at_ < 0 ∨ (s.length : Int) < at_) (k : Nat) (hk : 1 ≤ k) : glyphcutterref21_Of.f k s at_ = some (0, 0) := by
  unfold glyphcutterref21_Of.f
  obtain ⟨k, rfl⟩ : ∃ k', k = k' + 1 := ⟨k - 1, by omega⟩
  by_cases c1 : at_ < 0
  · rw [if_pos c1, glyphcutterref21_Of.j0, if_pos rfl]
  · rw [if_neg c1, decide_eq_true (by omega), glyphcutterref21_Of.j0, if_pos rfl]
theorem count_l0 (s : List Int) (hl : s.length ≤ 5000000000000) (n : Nat) : ∀ (k i : Nat), s.length - i = n → i ≤ s.length → n < k →
    glyphcutterref21_Count.l0 k s (lbN s i).1 ((i + 1 : Nat) : Int) = some (lbN s s.length).1 := by
  induction n with
  | zero =>
    intro k i h1 h2 h3
    obtain ⟨k, rfl⟩ : ∃ k', k = k' + 1 := ⟨k - 1, by omega⟩
    obtain rfl : i = s.length := by omega
    rw [glyphcutterref21_Count.l0, if_neg (by omega)]
  | succ n ih =>
    intro k i h1 h2 h3
    obtain ⟨k, rfl⟩ : ∃ k', k = k' + 1 := ⟨k - 1, by omega⟩
    have hlb := lbN_le s i
    rw [glyphcutterref21_Count.l0, if_pos (by omega), ends_eq s hl (i + 1) (by omega) (by omega), Option.bind_some]
    rw [wrap_id (((i + 1 : Nat) : Int) + 1) (by omega) (by omega), wrap_id ((lbN s i).1 + 1) (by omega) (by omega)]
    have := ih k (i + 1) (by omega) (by omega) (by omega)
    have e : (((i + 1 : Nat) : Int) + 1) = ((i + 1 + 1 : Nat) : Int) := by omega
    rw [e]
    rw [lbN] at this
    by_cases c1 : endsB s (i + 1) = true
    · rw [if_pos c1] at this ⊢; exact this
    · rw [if_neg c1] at this ⊢; exact this
theorem refcount_eq (s : List Int) (hl : s.length ≤ 5000000000000) (k : Nat) (hk : s.length + 1 ≤ k) : glyphcutterref21_Count.f k s = some (lbN s s.length).1 :=
  count_l0 s hl s.length k 0 (by omega) (by omega) (by omega)
/-- what lines.Of tells, by the bytes -/
theorem linesof_eq (s : List Int) (hb : Bytes s) (hl : s.length ≤ 5000000000000) (at_ : Nat) (hat : at_ ≤ s.length) :
    lines_Of.f s at_ = some ((lbN s at_).1, 1 + cnt (lbN s at_).2 at_ (C 0 s)) := by
  unfold lines_Of.f
  rw [if_pos ⟨hb, hl⟩, if_neg (by omega)]
  have := of_last s s.length 0 [] 1 1 (0, 0, 0) at_ (by omega) (by omega) hat rfl (by simp [cnt]) (by simp)
  exact congrArg some this
end Go.Proofs.Ytndecknocmallaa.U8
