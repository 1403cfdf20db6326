/- What holds of a text's chars: the first that is none; texts of scalars; two texts one behind the other. -/
import Derived.Test.YtpikhloemhbecaaUC
namespace Go.Proofs.Ytpikhloemhbecaa.U8
open Go.RowKit Go.Proofs.Ytpikhloemhbecaa.P Go.Proofs.YtpikhloemhbecaaW.PrintWords Go.Proofs.YtpikhloemhbecaaW.PrintLast
set_option linter.unusedVariables false
set_option linter.unusedSimpArgs false

theorem enc_ne (a : Int) : utf_Encode.l a ≠ [] := by
  intro h; have := (enc_len a).1; rw [h] at this; simp at this
theorem take_split (l p : List Int) (k m : Nat) (hk : p.length = k) (h : l = p ++ l.drop k) : l.take (k + m) = p ++ (l.drop k).take m := by
  generalize l.drop k = rest at h ⊢
  subst h; subst hk
  exact List.take_length_add_append _
theorem drop_split (l p rest : List Int) (k : Nat) (hk : p.length = k) (h : l = p ++ rest) : l.drop k = rest := by
  subst h; subst hk
  exact List.drop_left
/-- a char that is one: the text begins with its bytes, whatever stands behind -/
theorem D_scalar (l : List Int) (hb : Bytes l) (h : 0 ≤ (D l).1) : Scalar (D l).1 ∧ (D l).2 = ((utf_Encode.l (D l).1).length : Int) ∧ l = utf_Encode.l (D l).1 ++ l.drop (D l).2.toNat := by
  obtain ⟨hs, rest, hl⟩ := D_good l hb h
  have e := D_enc (D l).1 hs rest
  rw [← hl] at e
  have e2 : (D l).2 = ((utf_Encode.l (D l).1).length : Int) := by rw [e]
  refine ⟨hs, e2, ?_⟩
  have : l.drop (D l).2.toNat = rest := drop_split l _ rest _ (by omega) hl
  rw [this]; exact hl
theorem D_or (l : List Int) (hb : Bytes l) : (D l).1 = -1 ∨ 0 ≤ (D l).1 := by
  by_cases h : 0 ≤ (D l).1
  · exact .inr h
  · exact .inl (D_bad l hb h).1
/-- the first that is none -/
theorem first_spec (n : Nat) : ∀ (at_ : Int) (l : List Int), 0 ≤ at_ → Bytes l → l.length ≤ n →
    (firstBad (C at_ l) = -1 ∧ ∀ c ∈ C at_ l, 0 ≤ c.f0) ∨
    (∃ m : Nat, m < l.length ∧ firstBad (C at_ l) = at_ + m ∧ (D (l.drop m)).1 = -1 ∧ firstBad (C at_ (l.take m)) = -1) := by
  induction n with
  | zero =>
    intro at_ l h0 hb hl
    obtain rfl : l = [] := List.eq_nil_of_length_eq_zero (by omega)
    exact .inl ⟨rfl, by simp [C_nil]⟩
  | succ n ih =>
    intro at_ l h0 hb hl
    by_cases hne : l = []
    · subst hne; exact .inl ⟨rfl, by simp [C_nil]⟩
    have hd := D_len l hne
    rw [C_cons at_ l hne]
    rcases D_or l hb with h1 | h1
    · refine .inr ⟨0, by have := List.length_pos_iff.2 hne; omega, ?_, by simpa using h1, by simp [C_nil, firstBad]⟩
      simp only [firstBad, h1, if_true]; omega
    · have hne1 : ¬ (D l).1 = -1 := by omega
      obtain ⟨hs, e2, el⟩ := D_scalar l hb h1
      rcases ih (at_ + (D l).2) (l.drop (D l).2.toNat) (by omega) (hb.drop _) (by simp; omega) with ⟨p, q⟩ | ⟨m, p, q, r, s⟩
      · refine .inl ⟨by simp only [firstBad, hne1, if_false]; exact p, ?_⟩
        intro c hc
        rcases List.mem_cons.1 hc with rfl | hc
        · exact h1
        · exact q c hc
      · rw [List.length_drop] at p
        refine .inr ⟨(D l).2.toNat + m, by omega, by simp only [firstBad, hne1, if_false]; rw [q]; omega, by rw [List.drop_drop] at r; exact r, ?_⟩
        have et : l.take ((D l).2.toNat + m) = utf_Encode.l (D l).1 ++ (l.drop (D l).2.toNat).take m := take_split l _ _ m (by omega) el
        rw [et, C_cons _ _ (by simp [enc_ne]), D_enc _ hs]
        simp only [firstBad, hne1, if_false, Int.toNat_natCast, List.drop_left]
        rw [← e2]
        exact s
/-- scalars, one behind the other -/
def flat (xs : List Int) : List Int := xs.flatMap utf_Encode.l
theorem flat_cons (a : Int) (xs : List Int) : flat (a :: xs) = utf_Encode.l a ++ flat xs := rfl
theorem flat_snoc (xs : List Int) (a : Int) : flat (xs ++ [a]) = flat xs ++ utf_Encode.l a := by simp [flat]
theorem flat_bytes : ∀ (xs : List Int), (∀ x ∈ xs, Scalar x) → Bytes (flat xs)
  | [], _ => fun x hx => by simp [flat] at hx
  | a :: xs, h => by
    rw [flat_cons]
    exact (enc_bytes a (h a List.mem_cons_self)).append (flat_bytes xs fun x hx => h x (List.mem_cons_of_mem _ hx))
theorem flat_length : ∀ (xs : List Int), xs.length ≤ (flat xs).length ∧ (flat xs).length ≤ 4 * xs.length
  | [] => by simp [flat]
  | a :: xs => by
    have := flat_length xs
    have h := enc_len a
    rw [flat_cons]; simp; omega
theorem C_flat_append : ∀ (xs : List Int) (at_ : Int) (b : List Int), (∀ x ∈ xs, Scalar x) → C at_ (flat xs ++ b) = C at_ (flat xs) ++ C (at_ + (flat xs).length) b
  | [], at_, b, _ => by simp [flat, C_nil]
  | a :: xs, at_, b, h => by
    have hs := h a List.mem_cons_self
    have ih := C_flat_append xs (at_ + (utf_Encode.l a).length) b (fun x hx => h x (List.mem_cons_of_mem _ hx))
    rw [flat_cons, List.append_assoc, C_cons _ _ (by simp [enc_ne]), C_cons _ (utf_Encode.l a ++ flat xs) (by simp [enc_ne]), D_enc a hs, D_enc a hs]
    simp only [Int.toNat_natCast, List.drop_left]
    rw [ih]
    simp [Int.add_assoc]
theorem C_flat : ∀ (xs : List Int) (at_ : Int), (∀ x ∈ xs, Scalar x) → (C at_ (flat xs)).map S30.f0 = xs ∧ firstBad (C at_ (flat xs)) = -1
  | [], at_, _ => by simp [flat, C_nil, firstBad]
  | a :: xs, at_, h => by
    have hs := h a List.mem_cons_self
    have ih := C_flat xs (at_ + (utf_Encode.l a).length) (fun x hx => h x (List.mem_cons_of_mem _ hx))
    rw [flat_cons, C_cons _ _ (by simp [enc_ne]), D_enc a hs]
    simp only [Int.toNat_natCast, List.drop_left, List.map_cons, firstBad]
    have : ¬ a = -1 := by have := hs.1; omega
    rw [if_neg this, ih.1]
    exact ⟨rfl, ih.2⟩
theorem C_shift (n : Nat) : ∀ (at_ d : Int) (l : List Int), l.length ≤ n → C (at_ + d) l = (C at_ l).map fun c => ⟨c.f0, c.f1 + d, c.f2⟩ := by
  induction n with
  | zero => intro at_ d l h; obtain rfl : l = [] := List.eq_nil_of_length_eq_zero (by omega); simp [C_nil]
  | succ n ih =>
    intro at_ d l h
    by_cases hl : l = []
    · subst hl; simp [C_nil]
    · have := D_len l hl
      rw [C_cons _ l hl, C_cons at_ l hl, List.map_cons, ← ih _ d _ (by simp; omega)]
      rw [show at_ + d + (D l).2 = at_ + (D l).2 + d by omega]
theorem rd_getElem (l : List S30) (i : Nat) (h : i < l.length) : rd_T30 l (i : Int) = l[i] := by
  unfold rd_T30; simp [List.getD_eq_getElem?_getD, List.getElem?_eq_getElem h]
theorem rdi_getElem (l : List Int) (i : Nat) (h : i < l.length) : rd l (i : Int) = l[i] := by
  unfold rd; simp [List.getD_eq_getElem?_getD, List.getElem?_eq_getElem h]
theorem modScalar (a : Int) (h : (Lit.int .u32 a).wf = true) : wrap64 (Int.tmod a 1114112) = a % 1114112 ∧ 0 ≤ a % 1114112 ∧ a % 1114112 ≤ 1114111 := by
  simp [Lit.wf, IntKind.min, IntKind.max, IntKind.bits, IntKind.signed] at h
  have e : Int.tmod a 1114112 = a % 1114112 := Int.tmod_eq_emod_of_nonneg (by omega)
  rw [e]
  exact ⟨wrap_id _ (by omega) (by omega), by omega, by omega⟩
end Go.Proofs.Ytpikhloemhbecaa.U8
