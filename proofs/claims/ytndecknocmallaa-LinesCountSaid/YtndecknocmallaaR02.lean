/- The document's answer for layer 2: its Decode, Chars, First and Same compute what the plain definitions say. -/
import Derived.Test.YtndecknocmallaaUL
import Derived.Test.YtndecknocmallaaPx1020
namespace Go.Proofs.Ytndecknocmallaa.U8
open Go.RowKit Go.Proofs.Ytndecknocmallaa.P Go.Proofs.YtndecknocmallaaW.PrintWords Go.Proofs.YtndecknocmallaaW.PrintLast
set_option linter.unusedVariables false
set_option linter.unusedSimpArgs false

theorem long_eq (k : Nat) (a : Int) (h0 : 0 ≤ a) (h1 : a ≤ 255) : glyphcutterref02_long.f (k + 2) a = some (
    if a < 128 then 1 else if a < 194 ∨ 244 < a then 0 else if a < 224 then 2 else if a < 240 then 3 else 4) := by
  unfold glyphcutterref02_long.f
  by_cases c1 : a < 128
  · simp only [c1, if_true]
  · simp only [c1, if_false, glyphcutterref02_long.j0, glyphcutterref02_long.j1]
    by_cases c2 : a ≥ 194
    · simp only [c2, if_true]
      by_cases c3 : a ≤ 223
      · rw [if_pos (by simpa using c3), if_neg (by omega), if_pos (by omega)]
      · rw [if_neg (by simpa using c3), if_pos (by omega)]
        by_cases c4 : a ≤ 239
        · rw [if_pos (by simpa using c4), if_neg (by omega), if_neg (by omega), if_pos (by omega)]
        · rw [if_neg (by simpa using c4), if_pos (by omega)]
          by_cases c5 : a ≤ 244
          · rw [if_pos c5, if_neg (by omega), if_neg (by omega), if_neg (by omega)]
          · rw [if_neg c5, if_pos (by omega)]
    · simp only [c2, if_false]
      rw [if_neg (by simp), if_neg (by omega), if_neg (by simp), if_neg (by omega), if_pos (by omega)]
theorem second_eq (a b : Int) (h0 : 194 ≤ a) (h1 : a ≤ 244) : glyphcutterref02_second.f a b = some (decide (
    (if a = 224 then 160 else if a = 240 then 144 else 128) ≤ b ∧ b ≤ (if a = 237 then 159 else if a = 244 then 143 else 191))) := by
  unfold glyphcutterref02_second.f
  by_cases c1 : a = 224
  · subst c1; simp; by_cases h : 160 ≤ b <;> simp [h]
  · by_cases c2 : a = 237
    · subst c2; simp; by_cases h : 128 ≤ b <;> simp [h]
    · by_cases c3 : a = 240
      · subst c3; simp; by_cases h : 144 ≤ b <;> simp [h]
      · by_cases c4 : a = 244
        · subst c4; simp; by_cases h : 128 ≤ b <;> simp [h]
        · simp [c1, c2, c3, c4]; by_cases h : 128 ≤ b <;> simp [h]
theorem rl0 (l : List Int) (k : Nat) (n x i : Int) : glyphcutterref02_Decode.l0 (k + 1) l n x i = if i < n then (if i ≥ (l.length : Int) then (some ((-1), i)) else (if i = 1 then (if 0 < (l.length : Int) then (if 1 < (l.length : Int) then ((glyphcutterref02_second.f (rd l 0) (rd l 1)).bind fun t186 => (if t186 = true then (if 0 ≤ i then (if i < (l.length : Int) then (if (rd l i) < 128 then (some ((-1), i)) else (if (rd l i) > 191 then (some ((-1), i)) else (glyphcutterref02_Decode.l0 k l n (wrap64 ((wrap64 ((wrap64 (64 * x)) + (wrap64 (rd l i)))) - 128)) (wrap64 (i + 1))))) else (none)) else (none)) else (some ((-1), i)))) else (none)) else (none)) else (if 0 ≤ i then (if i < (l.length : Int) then (if (rd l i) < 128 then (some ((-1), i)) else (if (rd l i) > 191 then (some ((-1), i)) else (glyphcutterref02_Decode.l0 k l n (wrap64 ((wrap64 ((wrap64 (64 * x)) + (wrap64 (rd l i)))) - 128)) (wrap64 (i + 1))))) else (none)) else (none)))) else (some (x, n)) := by
  rw [glyphcutterref02_Decode.l0]
theorem step64 (x b : Int) (h0 : 0 ≤ x) (h1 : x < 4503599627370496) (h2 : 128 ≤ b) (h3 : b ≤ 191) : wrap64 ((wrap64 ((wrap64 (64 * x)) + (wrap64 b))) - 128) = x * 64 + b % 64 := by
  rw [wrap_id (64 * x) (by omega) (by omega), wrap_id b (by omega) (by omega), wrap_id (64 * x + b) (by omega) (by omega), wrap_id _ (by omega) (by omega)]; omega
theorem refdecode_eq (k : Nat) (l : List Int) (h : Bytes l) : glyphcutterref02_Decode.f (k + 5) l = some (D l) := by
  unfold glyphcutterref02_Decode.f
  cases l with
  | nil => rfl
  | cons a t =>
    obtain ⟨⟨ha0, ha1⟩, ht⟩ := h.cons
    rw [if_neg (by simp; omega), if_pos (by simp), rd0, show k + 5 = (k + 3) + 2 from rfl, long_eq _ a ha0 ha1, Option.bind_some]
    generalize hD : D (a :: t) = r
    simp only [D] at hD
    by_cases c1 : a < 128
    · rw [if_pos c1] at hD; subst hD
      rw [if_pos c1, if_neg (by decide), if_pos rfl, wrap_id _ (by omega) (by omega)]
    · rw [if_neg c1] at hD
      by_cases c2 : a < 194 ∨ 244 < a
      · rw [if_pos c2] at hD; subst hD
        rw [if_neg c1, if_pos c2, if_pos rfl]
      · rw [if_neg c2] at hD
        rw [if_neg c1, if_neg c2]
        have hsec := fun b => second_eq a b (by omega) (by omega)
        have e0 : wrap64 a = a := wrap_id _ (by omega) (by omega)
        have hlo : (128 : Int) ≤ (if a = 224 then (160 : Int) else if a = 240 then 144 else 128) := by split <;> (try split) <;> omega
        have hhi : (if a = 237 then (159 : Int) else if a = 244 then 143 else 191) ≤ 191 := by split <;> (try split) <;> omega
        generalize (if a = 224 then (160 : Int) else if a = 240 then 144 else 128) = lo at hD hsec hlo
        generalize (if a = 237 then (159 : Int) else if a = 244 then 143 else 191) = hi at hD hsec hhi
        have key : ∀ (n x : Int), 2 ≤ n → n ≤ 4 → 0 ≤ x → x < 64 → (n = 2 ↔ a < 224) → (n = 4 ↔ 240 ≤ a) → (a < 224 → x = a - 192) → (¬ a < 224 → a < 240 → x = a - 224) → (240 ≤ a → x = a - 240) →
            glyphcutterref02_Decode.l0 (k + 5) (a :: t) n x 1 = some r := by
          intro n x hn2 hn4 hx0 hx1 hn2' hn4' hxa hxb hxc
          rw [show k + 5 = k + 4 + 1 from rfl, rl0, if_pos (by omega)]
          cases t with
          | nil => dsimp only at hD; subst hD; rw [if_pos (by simp)]
          | cons b t =>
            obtain ⟨⟨hb0, hb1⟩, ht⟩ := ht.cons
            dsimp only at hD
            rw [if_neg (by simp; omega), if_pos rfl, if_pos (by simp; omega), if_pos (by simp; omega), rd0, rd1, hsec b, Option.bind_some]
            by_cases c3 : lo ≤ b ∧ b ≤ hi
            · rw [if_neg (by simp [c3])] at hD
              rw [if_pos (by simp [c3]), if_pos (by omega), if_pos (by simp; omega), if_neg (by omega), if_neg (by omega), step64 x b hx0 (by omega) (by omega) (by omega), show wrap64 (1 + 1) = 2 from wrap_id _ (by decide) (by decide), show k + 4 = k + 3 + 1 from rfl, rl0]
              by_cases c4 : a < 224
              · rw [if_pos c4] at hD; subst hD
                rw [if_neg (by omega), hxa c4, hn2'.2 c4]
              · rw [if_neg c4] at hD
                rw [if_pos (by omega)]
                cases t with
                | nil => dsimp only at hD; subst hD; rw [if_pos (by simp)]
                | cons c t =>
                  obtain ⟨⟨hc0, hc1⟩, ht⟩ := ht.cons
                  dsimp only at hD
                  rw [if_neg (by simp; omega), if_neg (by decide), if_pos (by omega), if_pos (by simp; omega), rd2]
                  by_cases c5 : 128 ≤ c ∧ c ≤ 191
                  · rw [if_neg (by simp [c5])] at hD
                    rw [if_neg (by omega), if_neg (by omega), step64 _ c (by omega) (by omega) (by omega) (by omega), show wrap64 (2 + 1) = 3 from wrap_id _ (by decide) (by decide), show k + 3 = k + 2 + 1 from rfl, rl0]
                    by_cases c6 : a < 240
                    · rw [if_pos c6] at hD; subst hD
                      rw [if_neg (by omega), hxb c4 c6]
                      have : n = 3 := by omega
                      rw [this]
                    · rw [if_neg c6] at hD
                      rw [if_pos (by omega)]
                      cases t with
                      | nil => dsimp only at hD; subst hD; rw [if_pos (by simp)]
                      | cons d t =>
                        obtain ⟨⟨hd0, hd1⟩, ht⟩ := ht.cons
                        dsimp only at hD
                        rw [if_neg (by simp; omega), if_neg (by decide), if_pos (by omega), if_pos (by simp; omega), rd3]
                        by_cases c7 : 128 ≤ d ∧ d ≤ 191
                        · rw [if_neg (by simp [c7])] at hD; subst hD
                          rw [if_neg (by omega), if_neg (by omega), step64 _ d (by omega) (by omega) (by omega) (by omega), show wrap64 (3 + 1) = 4 from wrap_id _ (by decide) (by decide), show k + 2 = k + 1 + 1 from rfl, rl0, if_neg (by omega), hxc (by omega), hn4'.2 (by omega)]
                        · rw [if_pos c7] at hD; subst hD
                          by_cases c8 : d < 128
                          · rw [if_pos c8]
                          · rw [if_neg c8, if_pos (by omega)]
                  · rw [if_pos c5] at hD; subst hD
                    by_cases c8 : c < 128
                    · rw [if_pos c8]
                    · rw [if_neg c8, if_pos (by omega)]
            · rw [if_pos c3] at hD; subst hD
              rw [if_neg (by simp [c3])]
        by_cases c4 : a < 224
        · rw [if_pos c4, if_neg (by decide), if_neg (by decide), Option.bind_some, if_pos (by decide), if_pos (by decide), e0, show rd [0, 0, 192, 224, 240] 2 = 192 from rfl, wrap_id _ (by omega) (by omega)]
          exact key 2 (a - 192) (by omega) (by omega) (by omega) (by omega) (by omega) (by omega) (by omega) (by omega) (by omega)
        · rw [if_neg c4]
          by_cases c6 : a < 240
          · rw [if_pos c6, if_neg (by decide), if_neg (by decide), Option.bind_some, if_pos (by decide), if_pos (by decide), e0, show rd [0, 0, 192, 224, 240] 3 = 224 from rfl, wrap_id _ (by omega) (by omega)]
            exact key 3 (a - 224) (by omega) (by omega) (by omega) (by omega) (by omega) (by omega) (by omega) (by omega) (by omega)
          · rw [if_neg c6, if_neg (by decide), if_neg (by decide), Option.bind_some, if_pos (by decide), if_pos (by decide), e0, show rd [0, 0, 192, 224, 240] 4 = 240 from rfl, wrap_id _ (by omega) (by omega)]
            exact key 4 (a - 240) (by omega) (by omega) (by omega) (by omega) (by omega) (by omega) (by omega) (by omega) (by omega)
theorem refchars_l0 (b : List Int) (hb : Bytes b) (hn : b.length ≤ 5000000000000) (d : Nat) : ∀ (k : Nat) (acc : List S45) (i : Nat), i ≤ b.length → b.length - i = d → d + 5 < k → acc.length ≤ i →
    glyphcutterref02_Chars.l0 k b acc (i : Int) = some (acc ++ C (i : Int) (b.drop i)) := by
  induction d using Nat.strongRecOn with
  | _ d ih =>
  intro k acc i hi hd hk ha
  obtain ⟨k, rfl⟩ : ∃ m, k = m + 1 := ⟨k - 1, by omega⟩
  have hdec := refdecode_eq (k - 5)
  rw [show k - 5 + 5 = k by omega] at hdec
  simp only [glyphcutterref02_Chars.l0]
  by_cases h : i < b.length
  · have hne : b.drop i ≠ [] := by rw [Ne, drop_nil_iff]; omega
    have hl := D_len _ hne
    rw [List.length_drop] at hl
    rw [if_pos (by omega), if_pos (by omega), if_pos (by omega), show ((i : Int)).toNat = i from by omega, hdec _ (hb.drop i), Option.bind_some, if_pos (by omega)]
    rw [wrap_id _ (by omega) (by omega)]
    obtain ⟨j, hj⟩ : ∃ j : Nat, (i : Int) + (D (b.drop i)).2 = (j : Int) := ⟨((i : Int) + (D (b.drop i)).2).toNat, by omega⟩
    rw [hj, ih (b.length - j) (by omega) k _ j (by omega) rfl (by omega) (by simp; omega), C_cons _ _ hne, hj, List.drop_drop]
    rw [show i + (D (b.drop i)).2.toNat = j by omega]
    simp
  · rw [if_neg (by omega), show b.drop i = [] by rw [drop_nil_iff]; omega, C_nil]
    simp
theorem refchars_eq (b : List Int) (hb : Bytes b) (hn : b.length ≤ 5000000000000) (k : Nat) (hk : b.length + 5 < k) : glyphcutterref02_Chars.f k b = some (C 0 b) := by
  have := refchars_l0 b hb hn b.length k [] 0 (by omega) (by omega) hk (by simp)
  simpa [glyphcutterref02_Chars.f] using this
theorem C_f0 (n : Nat) : ∀ (at_ : Int) (l : List Int), Bytes l → l.length ≤ n → ∀ c ∈ C at_ l, c.f0 = -1 ∨ 0 ≤ c.f0 := by
  induction n with
  | zero => intro at_ l hb h; obtain rfl : l = [] := List.eq_nil_of_length_eq_zero (by omega); simp [C_nil]
  | succ n ih =>
    intro at_ l hb h c hc
    by_cases hl : l = []
    · subst hl; simp [C_nil] at hc
    · have := D_len l hl
      rw [C_cons at_ l hl] at hc
      rcases List.mem_cons.1 hc with rfl | hc
      · exact D_or l hb
      · exact ih _ _ (hb.drop _) (by simp; omega) c hc
end Go.Proofs.Ytndecknocmallaa.U8
