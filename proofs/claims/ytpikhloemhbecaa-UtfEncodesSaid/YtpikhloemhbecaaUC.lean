/- The chars of a text as a plain list: what the program's Chars and First compute, and what holds of them. -/
import Derived.Test.YtpikhloemhbecaaU8
import Derived.Test.YtpikhloemhbecaaPx1013
import Derived.Test.YtpikhloemhbecaaPx1019
namespace Go.Proofs.Ytpikhloemhbecaa.U8
open Go.RowKit Go.Proofs.Ytpikhloemhbecaa.P Go.Proofs.YtpikhloemhbecaaW.PrintWords Go.Proofs.YtpikhloemhbecaaW.PrintLast
set_option linter.unusedVariables false
set_option linter.unusedSimpArgs false

def chars : Nat → Int → List Int → List S30
  | 0, _, _ => []
  | n + 1, at_, l => if l = [] then [] else ⟨(D l).1, at_, (D l).2⟩ :: chars n (at_ + (D l).2) (l.drop (D l).2.toNat)
def C (at_ : Int) (l : List Int) : List S30 := chars l.length at_ l
theorem chars_fuel : ∀ (n m : Nat) (at_ : Int) (l : List Int), l.length ≤ n → l.length ≤ m → chars n at_ l = chars m at_ l
  | 0, m, at_, l, h, h' => by
    obtain rfl : l = [] := List.eq_nil_of_length_eq_zero (by omega)
    cases m <;> simp [chars]
  | n + 1, 0, at_, l, h, h' => by
    obtain rfl : l = [] := List.eq_nil_of_length_eq_zero (by omega)
    simp [chars]
  | n + 1, m + 1, at_, l, h, h' => by
    unfold chars
    by_cases hl : l = []
    · simp [hl]
    · have := D_len l hl
      rw [if_neg hl, if_neg hl, chars_fuel n m _ _ (by simp; omega) (by simp; omega)]
theorem C_nil (at_ : Int) : C at_ [] = [] := rfl
theorem C_cons (at_ : Int) (l : List Int) (h : l ≠ []) : C at_ l = ⟨(D l).1, at_, (D l).2⟩ :: C (at_ + (D l).2) (l.drop (D l).2.toNat) := by
  unfold C
  cases hl : l.length with
  | zero => exact absurd (List.eq_nil_of_length_eq_zero hl) h
  | succ n =>
    have := D_len l h
    rw [chars, if_neg h, chars_fuel n _ _ _ (by simp; omega) (Nat.le_refl _)]
theorem C_length (n : Nat) : ∀ (at_ : Int) (l : List Int), l.length ≤ n → (C at_ l).length ≤ l.length := by
  induction n with
  | zero => intro at_ l h; obtain rfl : l = [] := List.eq_nil_of_length_eq_zero (by omega); simp [C_nil]
  | succ n ih =>
    intro at_ l h
    by_cases hl : l = []
    · subst hl; simp [C_nil]
    · have := D_len l hl
      rw [C_cons at_ l hl]
      have := ih (at_ + (D l).2) (l.drop (D l).2.toNat) (by simp; omega)
      simp at this ⊢
      omega
theorem wrap_id (x : Int) (h : -9223372036854775808 ≤ x) (h2 : x ≤ 9223372036854775807) : wrap64 x = x := by unfold wrap64; omega
theorem drop_nil_iff (b : List Int) (n : Nat) : b.drop n = [] ↔ b.length ≤ n := List.drop_eq_nil_iff
theorem chars_l0 (b : List Int) (hb : Bytes b) (hn : b.length ≤ 5000000000000) (d : Nat) : ∀ (k : Nat) (acc : List S30) (i : Nat), i ≤ b.length → b.length - i = d → d < k → acc.length ≤ i →
    utf_Chars.l0 k b acc (i : Int) = some (acc ++ C (i : Int) (b.drop i)) := by
  induction d using Nat.strongRecOn with
  | _ d ih =>
  intro k acc i hi hd hk ha
  obtain ⟨k, rfl⟩ : ∃ m, k = m + 1 := ⟨k - 1, by omega⟩
  simp only [utf_Chars.l0]
  by_cases h : i < b.length
  · have hne : b.drop i ≠ [] := by rw [Ne, drop_nil_iff]; omega
    have hl := D_len _ hne
    rw [List.length_drop] at hl
    rw [if_pos (by omega), if_pos (by omega), if_pos (by omega), show ((i : Int)).toNat = i from by omega, decode_eq _ (hb.drop i), Option.bind_some, if_pos (by omega)]
    rw [wrap_id _ (by omega) (by omega)]
    obtain ⟨j, hj⟩ : ∃ j : Nat, (i : Int) + (D (b.drop i)).2 = (j : Int) := ⟨((i : Int) + (D (b.drop i)).2).toNat, by omega⟩
    rw [hj, ih (b.length - j) (by omega) k _ j (by omega) rfl (by omega) (by simp; omega), C_cons _ _ hne, hj, List.drop_drop]
    rw [show i + (D (b.drop i)).2.toNat = j by omega]
    simp
  · rw [if_neg (by omega), show b.drop i = [] by rw [drop_nil_iff]; omega, C_nil]
    simp
theorem chars_eq (b : List Int) (hb : Bytes b) (hn : b.length ≤ 5000000000000) (k : Nat) (hk : b.length < k) : utf_Chars.f k b = some (C 0 b) := by
  have := chars_l0 b hb hn b.length k [] 0 (by omega) (by omega) hk (by simp)
  simpa [utf_Chars.f] using this

/-- the first that is none -/
def firstBad : List S30 → Int
  | [] => -1
  | c :: t => if c.f0 = -1 then c.f1 else firstBad t
theorem first_l0 (l : List S30) (hn : l.length ≤ 5000000000000) (d : Nat) : ∀ (k : Nat) (i : Nat), i ≤ l.length → l.length - i = d → d < k →
    utf_First.l0 k l (l.length : Int) (i : Int) = some (firstBad (l.drop i)) := by
  induction d with
  | zero =>
    intro k i hi hd hk
    obtain ⟨k, rfl⟩ : ∃ m, k = m + 1 := ⟨k - 1, by omega⟩
    simp only [utf_First.l0]
    rw [if_neg (by omega), List.drop_eq_nil_iff.2 (by omega)]; rfl
  | succ d ih =>
    intro k i hi hd hk
    obtain ⟨k, rfl⟩ : ∃ m, k = m + 1 := ⟨k - 1, by omega⟩
    have hlt : i < l.length := by omega
    simp only [utf_First.l0]
    rw [if_pos (by omega), if_pos (by omega), if_pos (by omega), List.drop_eq_getElem_cons hlt]
    have e : rd_T30 l (i : Int) = l[i] := by unfold rd_T30; simp [List.getD_eq_getElem?_getD, List.getElem?_eq_getElem hlt]
    rw [e, firstBad]
    by_cases c : l[i].f0 = -1
    · rw [if_pos c, if_pos c]
    · rw [if_neg c, if_neg c, wrap_id _ (by omega) (by omega)]
      have := ih k (i + 1) (by omega) (by omega) (by omega)
      exact this
theorem first_eq (b : List Int) (hb : Bytes b) (hn : b.length ≤ 5000000000000) (k : Nat) (hk : b.length < k) : utf_First.f k b = some (firstBad (C 0 b)) := by
  unfold utf_First.f
  rw [chars_eq b hb hn k hk, Option.bind_some]
  have hc := C_length _ 0 b (Nat.le_refl _)
  have := first_l0 (C 0 b) (by omega) _ k 0 (by omega) rfl (by omega)
  simpa using this
end Go.Proofs.Ytpikhloemhbecaa.U8
