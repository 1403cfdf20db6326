/- UTF-8 as plain arithmetic on lists of numbers: what the program's Encode and Decode compute, and what holds of both. No program in sight. -/
import Derived.Test.YtpikhloemhbecaaPx1015
import Derived.Test.YtpikhloemhbecaaPx1012
import Derived.Laws.BitsLemmas
namespace Go.Proofs.Ytpikhloemhbecaa.U8
open Go.RowKit Go.Proofs.Ytpikhloemhbecaa.P Go.Proofs.YtpikhloemhbecaaW.PrintWords Go.Proofs.YtpikhloemhbecaaW.PrintLast
set_option linter.unusedVariables false
set_option linter.unusedSimpArgs false

def Scalar (a : Int) : Prop := 0 ≤ a ∧ a ≤ 1114111 ∧ ¬ (55296 ≤ a ∧ a ≤ 57343)
def Bytes (l : List Int) : Prop := ∀ x ∈ l, 0 ≤ x ∧ x ≤ 255
theorem Bytes.drop {l : List Int} (h : Bytes l) (n : Nat) : Bytes (l.drop n) := fun x hx => h x (List.mem_of_mem_drop hx)
theorem Bytes.take {l : List Int} (h : Bytes l) (n : Nat) : Bytes (l.take n) := fun x hx => h x (List.mem_of_mem_take hx)
theorem Bytes.append {l m : List Int} (h : Bytes l) (h2 : Bytes m) : Bytes (l ++ m) := fun x hx => (List.mem_append.1 hx).elim (h x) (h2 x)
theorem Bytes.cons {a : Int} {l : List Int} (h : Bytes (a :: l)) : (0 ≤ a ∧ a ≤ 255) ∧ Bytes l := ⟨h a List.mem_cons_self, fun x hx => h x (List.mem_cons_of_mem _ hx)⟩
theorem bytes_wf {l : List Int} (h : ∀ x ∈ l, (Lit.int .u8 x).wf = true) : Bytes l := fun x hx => by
  have := h x hx
  simp [Lit.wf, IntKind.min, IntKind.max, IntKind.bits, IntKind.signed] at this
  omega

/-- the first char: its number, its length -/
def D : List Int → Int × Int
  | [] => (-1, 0)
  | a :: t =>
    if a < 128 then (a, 1)
    else if a < 194 ∨ 244 < a then (-1, 1)
    else
      let lo := if a = 224 then 160 else if a = 240 then 144 else 128
      let hi := if a = 237 then 159 else if a = 244 then 143 else 191
      match t with
      | [] => (-1, 1)
      | b :: t =>
        if ¬ (lo ≤ b ∧ b ≤ hi) then (-1, 1)
        else if a < 224 then ((a - 192) * 64 + b % 64, 2)
        else match t with
          | [] => (-1, 2)
          | c :: t =>
            if ¬ (128 ≤ c ∧ c ≤ 191) then (-1, 2)
            else if a < 240 then (((a - 224) * 64 + b % 64) * 64 + c % 64, 3)
            else match t with
              | [] => (-1, 3)
              | d :: _ =>
                if ¬ (128 ≤ d ∧ d ≤ 191) then (-1, 3)
                else ((((a - 240) * 64 + b % 64) * 64 + c % 64) * 64 + d % 64, 4)

theorem or64 (x y : Int) (h0 : 0 ≤ x) (h1 : x < 4503599627370496) (h2 : 0 ≤ y) (h3 : y < 64) : Go.bits .or .i64 (wrap64 (x * 64)) (wrap64 y) = x * 64 + y := by
  have e1 : wrap64 (x * 64) = x * 64 := by unfold wrap64; omega
  have e2 : wrap64 y = y := by unfold wrap64; omega
  rw [e1, e2]
  exact bits_join .i64 62 (by decide) (fun n h h' => by rw [IntKind.wrap_i64]; omega) 6 (x * 64) y (by omega) (by omega) (by omega) h2 (by omega) (by omega)
theorem and63 (x : Int) (h0 : 0 ≤ x) (h1 : x ≤ 255) : Go.bits .and .u8 x 63 = x % 64 := u8_and63 x h0 (by omega)

theorem rd0 (a : Int) (t : List Int) : rd (a :: t) 0 = a := rfl
theorem rd1 (a b : Int) (t : List Int) : rd (a :: b :: t) 1 = b := rfl
theorem rd2 (a b c : Int) (t : List Int) : rd (a :: b :: c :: t) 2 = c := rfl
theorem rd3 (a b c d : Int) (t : List Int) : rd (a :: b :: c :: d :: t) 3 = d := rfl

/-- what a first byte says -/
theorem of_eq (a : Int) (h0 : 0 ≤ a) (h1 : a ≤ 255) : utf_of.f 9 a = some (
    if a < 128 then (1, a, 0, 0) else if a < 194 ∨ 244 < a then (0, 0, 0, 0)
    else if a < 224 then (2, a - 192, 128, 191)
    else if a < 240 then (3, a - 224, if a = 224 then 160 else 128, if a = 237 then 159 else 191)
    else (4, a - 240, if a = 240 then 144 else 128, if a = 244 then 143 else 191)) := by
  have e31 := u8_and31 a h0 (by omega)
  have e15 := u8_and15 a h0 (by omega)
  have e7 := u8_and7 a h0 (by omega)
  unfold utf_of.f
  by_cases c1 : a < 128
  · simp only [c1, if_true]
  · simp only [c1, if_false, utf_of.j0]
    by_cases c2 : a < 194
    · simp only [c2, if_true, decide_true, true_or]
    · simp only [c2, if_false, false_or]
      by_cases c3 : 244 < a
      · simp [c3]
      · have c3' : ¬ a > 244 := c3
        simp only [c3, c3', decide_false, if_false, Bool.false_eq_true]
        by_cases c4 : a < 224
        · simp only [c4, if_true, e31]; congr 2; simp; omega
        · simp only [c4, if_false]
          by_cases c5 : a = 224
          · subst c5; simp
          · simp only [c5, if_false]
            by_cases c6 : a = 237
            · subst c6; simp
            · simp only [c6, if_false]
              by_cases c7 : a < 240
              · simp only [c7, if_true, e15]; congr 2; simp; omega
              · simp only [c7, if_false]
                by_cases c8 : a = 240
                · subst c8; simp
                · simp only [c8, if_false]
                  by_cases c9 : a = 244
                  · subst c9; simp
                  · simp only [c9, if_false, e7]; congr 2; simp; omega

theorem go0 (l : List Int) (i r lo hi : Int) : utf_Decode.go l 0 i r lo hi = (r, i) := rfl
theorem goS (l : List Int) (m : Nat) (i r lo hi : Int) : utf_Decode.go l (m + 1) i r lo hi = if i = (l.length : Int) then (-1, i)
    else if lo ≤ rd l i ∧ rd l i ≤ hi then utf_Decode.go l m (i + 1) (Go.bits .or .i64 (wrap64 (r * 64)) (wrap64 (Go.bits .and .u8 (rd l i) 63))) 128 191
    else (-1, i) := rfl

theorem decode_eq (l : List Int) (h : Bytes l) : utf_Decode.f l = some (D l) := by
  unfold utf_Decode.f
  cases l with
  | nil => rfl
  | cons a t =>
    obtain ⟨⟨ha0, ha1⟩, ht⟩ := h.cons
    rw [if_neg (by simp; omega), rd0, of_eq a ha0 ha1, Option.bind_some]
    unfold D
    by_cases c1 : a < 128
    · simp only [c1, if_true, go0]
      have : wrap64 a = a := by unfold wrap64; omega
      simp [go0, this]
    · simp only [c1, if_false]
      by_cases c2 : a < 194 ∨ 244 < a
      · simp only [c2, if_true]
      · simp only [c2, if_false]
        cases t with
        | nil =>
          by_cases c3 : a < 224
          · simp [c3, goS]
          · by_cases c4 : a < 240 <;> simp [c3, c4, goS]
        | cons b t =>
          obtain ⟨⟨hb0, hb1⟩, ht⟩ := ht.cons
          have hn1 : ¬ ((1 : Int) = ((a :: b :: t).length : Int)) := by simp; omega
          have n2 : (a :: b :: t).length = t.length + 2 := rfl
          by_cases c3 : a < 224
          · have n1 : ¬ a = 224 := by omega
            have n3 : ¬ a = 237 := by omega
            have n4 : ¬ a = 240 := by omega
            have n5 : ¬ a = 244 := by omega
            simp only [c3, n1, n3, n4, n5, if_true, if_false]
            rw [if_neg (by decide), show ((2 : Int) - 1).toNat = 1 from rfl, goS, if_neg hn1, rd1]
            by_cases c4 : 128 ≤ b ∧ b ≤ 191
            · rw [if_pos c4, if_neg (by simp [c4]), go0, and63 b hb0 hb1, show wrap64 (a - 192) = a - 192 by unfold wrap64; omega, or64 _ _ (by omega) (by omega) (by omega) (by omega)]
              rfl
            · rw [if_neg c4, if_pos c4]
          · by_cases c5 : a < 240
            · have n4 : ¬ a = 240 := by omega
              have n5 : ¬ a = 244 := by omega
              simp only [c3, c5, n4, n5, if_true, if_false]
              rw [if_neg (by decide), show ((3 : Int) - 1).toNat = 2 from rfl, goS, if_neg hn1, rd1]
              by_cases c4 : (if a = 224 then 160 else 128) ≤ b ∧ b ≤ (if a = 237 then 159 else 191)
              · rw [if_pos c4, if_neg (by simp only [c4]; simp), and63 b hb0 hb1, show wrap64 (a - 224) = a - 224 by unfold wrap64; omega, or64 _ _ (by omega) (by omega) (by omega) (by omega), goS]
                cases t with
                | nil => rfl
                | cons c t =>
                  obtain ⟨⟨hc0, hc1⟩, ht⟩ := ht.cons
                  rw [if_neg (by simp; omega), show (1 : Int) + 1 = 2 from rfl, rd2]
                  by_cases c6 : 128 ≤ c ∧ c ≤ 191
                  · rw [if_pos c6, go0, and63 c hc0 hc1, or64 _ _ (by omega) (by omega) (by omega) (by omega)]
                    simp [c6]
                  · rw [if_neg c6]; simp [c6]
              · rw [if_neg c4, if_pos c4]
            · have n1 : ¬ a = 224 := by omega
              have n3 : ¬ a = 237 := by omega
              simp only [c3, c5, n1, n3, if_false]
              rw [if_neg (by decide), show ((4 : Int) - 1).toNat = 3 from rfl, goS, if_neg hn1, rd1]
              by_cases c4 : (if a = 240 then 144 else 128) ≤ b ∧ b ≤ (if a = 244 then 143 else 191)
              · rw [if_pos c4, if_neg (by simp only [c4]; simp), and63 b hb0 hb1, show wrap64 (a - 240) = a - 240 by unfold wrap64; omega, or64 _ _ (by omega) (by omega) (by omega) (by omega), goS]
                cases t with
                | nil => rfl
                | cons c t =>
                  obtain ⟨⟨hc0, hc1⟩, ht⟩ := ht.cons
                  rw [if_neg (by simp; omega), show (1 : Int) + 1 = 2 from rfl, rd2]
                  by_cases c6 : 128 ≤ c ∧ c ≤ 191
                  · rw [if_pos c6, and63 c hc0 hc1, or64 _ _ (by omega) (by omega) (by omega) (by omega), goS]
                    cases t with
                    | nil => simp [c6]
                    | cons d t =>
                      obtain ⟨⟨hd0, hd1⟩, ht⟩ := ht.cons
                      rw [if_neg (by simp; omega), show (2 : Int) + 1 = 3 from rfl, rd3]
                      by_cases c7 : 128 ≤ d ∧ d ≤ 191
                      · rw [if_pos c7, go0, and63 d hd0 hd1, or64 _ _ (by omega) (by omega) (by omega) (by omega)]
                        simp [c6, c7]
                      · rw [if_neg c7]; simp [c6, c7]
                  · rw [if_neg c6]; simp [c6]
              · rw [if_neg c4, if_pos c4]

theorem enc_f (a : Int) (h : Scalar a) : utf_Encode.f a = some (utf_Encode.l a) := by
  obtain ⟨h0, h1, h2⟩ := h
  unfold utf_Encode.f
  rw [if_neg (by omega)]
theorem enc_none (a : Int) (h : ¬ Scalar a) : utf_Encode.f a = some [] := by
  unfold utf_Encode.f
  rw [if_pos (by unfold Scalar at h; omega)]
theorem enc_len (a : Int) : 1 ≤ (utf_Encode.l a).length ∧ (utf_Encode.l a).length ≤ 4 := by
  unfold utf_Encode.l
  repeat' split
  all_goals simp
theorem enc_bytes (a : Int) (h : Scalar a) : Bytes (utf_Encode.l a) := by
  obtain ⟨h0, h1, h2⟩ := h
  intro x hx
  unfold utf_Encode.l at hx
  repeat' split at hx
  all_goals simp at hx
  all_goals omega
theorem D_enc (a : Int) (h : Scalar a) (rest : List Int) : D (utf_Encode.l a ++ rest) = (a, ((utf_Encode.l a).length : Int)) := by
  obtain ⟨h0, h1, h2⟩ := h
  unfold utf_Encode.l
  by_cases c1 : a < 128
  · simp only [c1, if_true, List.cons_append, List.nil_append, D, List.length_cons, List.length_nil]
    rfl
  · simp only [c1, if_false]
    by_cases c2 : a < 2048
    · simp only [c2, if_true, List.cons_append, List.nil_append, D]
      rw [if_neg (by omega), if_neg (by omega), if_neg (by split <;> split <;> omega), if_pos (by omega)]
      simp; omega
    · simp only [c2, if_false]
      by_cases c3 : a < 65536
      · simp only [c3, if_true, List.cons_append, List.nil_append, D]
        rw [if_neg (by omega), if_neg (by omega), if_neg (by split <;> split <;> omega), if_neg (by omega), if_neg (by omega), if_pos (by omega)]
        simp; omega
      · simp only [c3, if_false, List.cons_append, List.nil_append, D]
        rw [if_neg (by omega), if_neg (by omega), if_neg (by split <;> split <;> omega), if_neg (by omega), if_neg (by omega), if_neg (by omega), if_neg (by omega)]
        simp; omega
theorem D_part (a : Int) (h : Scalar a) (n : Nat) (h1n : 1 ≤ n) (hn : n < (utf_Encode.l a).length) : D ((utf_Encode.l a).take n) = (-1, (n : Int)) := by
  obtain ⟨h0, h1, h2⟩ := h
  unfold utf_Encode.l at hn ⊢
  by_cases c1 : a < 128
  · simp [c1] at hn; omega
  · simp only [c1, if_false] at hn ⊢
    by_cases c2 : a < 2048
    · simp [c2] at hn
      obtain rfl : n = 1 := by omega
      simp only [c2, if_true, List.take, D]
      rw [if_neg (by omega), if_neg (by omega)]; rfl
    · simp only [c2, if_false] at hn ⊢
      by_cases c3 : a < 65536
      · simp [c3] at hn
        simp only [c3, if_true]
        obtain rfl | rfl : n = 1 ∨ n = 2 := by omega
        · simp only [List.take, D]
          rw [if_neg (by omega), if_neg (by omega)]; rfl
        · simp only [List.take, D]
          rw [if_neg (by omega), if_neg (by omega), if_neg (by split <;> split <;> omega), if_neg (by omega)]; rfl
      · simp [c3] at hn
        simp only [c3, if_false]
        obtain rfl | rfl | rfl : n = 1 ∨ n = 2 ∨ n = 3 := by omega
        · simp only [List.take, D]
          rw [if_neg (by omega), if_neg (by omega)]; rfl
        · simp only [List.take, D]
          rw [if_neg (by omega), if_neg (by omega), if_neg (by split <;> split <;> omega), if_neg (by omega)]; rfl
        · simp only [List.take, D]
          rw [if_neg (by omega), if_neg (by omega), if_neg (by split <;> split <;> omega), if_neg (by omega), if_neg (by omega), if_neg (by omega)]; rfl
theorem D_good (l : List Int) (hb : Bytes l) (h : 0 ≤ (D l).1) : Scalar (D l).1 ∧ ∃ rest, l = utf_Encode.l (D l).1 ++ rest := by
  cases l with
  | nil => exact absurd h (by decide)
  | cons a t =>
    obtain ⟨⟨ha0, ha1⟩, ht⟩ := hb.cons
    unfold D at h ⊢
    by_cases c1 : a < 128
    · simp only [c1, if_true] at h ⊢
      exact ⟨by unfold Scalar; omega, t, by unfold utf_Encode.l; rw [if_pos c1]; rfl⟩
    · simp only [c1, if_false] at h ⊢
      by_cases c2 : a < 194 ∨ 244 < a
      · simp only [c2, if_true] at h; exact absurd h (by decide)
      · simp only [c2, if_false] at h ⊢
        cases t with
        | nil => simp at h
        | cons b t =>
          obtain ⟨⟨hb0, hb1⟩, ht⟩ := ht.cons
          simp only at h ⊢
          by_cases c3 : (if a = 224 then (160 : Int) else if a = 240 then 144 else 128) ≤ b ∧ b ≤ (if a = 237 then (159 : Int) else if a = 244 then 143 else 191)
          · rw [if_neg (by simp only [c3]; simp)] at h ⊢
            have hlo : 128 ≤ b ∧ b ≤ 191 := by
              obtain ⟨x, y⟩ := c3
              constructor
              · revert x; split <;> (try split) <;> omega
              · revert y; split <;> (try split) <;> omega
            have h224 : a = 224 → 160 ≤ b := fun e => by have := c3.1; rw [if_pos e] at this; exact this
            have h240 : a = 240 → 144 ≤ b := fun e => by have := c3.1; rw [if_neg (by omega), if_pos e] at this; exact this
            have h237 : a = 237 → b ≤ 159 := fun e => by have := c3.2; rw [if_pos e] at this; exact this
            have h244 : a = 244 → b ≤ 143 := fun e => by have := c3.2; rw [if_neg (by omega), if_pos e] at this; exact this
            clear c3
            by_cases c4 : a < 224
            · simp only [c4, if_true] at h ⊢
              refine ⟨by unfold Scalar; omega, t, ?_⟩
              unfold utf_Encode.l
              rw [if_neg (by omega), if_pos (by omega)]
              simp; omega
            · simp only [c4, if_false] at h ⊢
              cases t with
              | nil => simp at h
              | cons c t =>
                obtain ⟨⟨hc0, hc1⟩, ht⟩ := ht.cons
                simp only at h ⊢
                by_cases c5 : 128 ≤ c ∧ c ≤ 191
                · rw [if_neg (by simp only [c5]; simp)] at h ⊢
                  by_cases c6 : a < 240
                  · simp only [c6, if_true] at h ⊢
                    refine ⟨by unfold Scalar; omega, t, ?_⟩
                    unfold utf_Encode.l
                    rw [if_neg (by omega), if_neg (by omega), if_pos (by omega)]
                    simp; omega
                  · simp only [c6, if_false] at h ⊢
                    cases t with
                    | nil => simp at h
                    | cons d t =>
                      obtain ⟨⟨hd0, hd1⟩, ht⟩ := ht.cons
                      simp only at h ⊢
                      by_cases c7 : 128 ≤ d ∧ d ≤ 191
                      · rw [if_neg (by simp only [c7]; simp)] at h ⊢
                        refine ⟨by unfold Scalar; omega, t, ?_⟩
                        unfold utf_Encode.l
                        rw [if_neg (by omega), if_neg (by omega), if_neg (by omega)]
                        simp; omega
                      · rw [if_pos c7] at h; exact absurd h (by decide)
                · rw [if_pos c5] at h; exact absurd h (by decide)
          · rw [if_pos c3] at h; exact absurd h (by decide)
theorem D_len (l : List Int) (h : l ≠ []) : 1 ≤ (D l).2 ∧ (D l).2 ≤ 4 ∧ (D l).2 ≤ l.length := by
  cases l with
  | nil => exact absurd rfl h
  | cons a t =>
    generalize hD : D (a :: t) = r
    simp only [D] at hD
    by_cases c1 : a < 128
    · rw [if_pos c1] at hD; (subst hD; refine ⟨?_, ?_, ?_⟩ <;> (try simp only [List.length_cons, List.length_nil]) <;> (try dsimp only) <;> omega)
    · rw [if_neg c1] at hD
      by_cases c2 : a < 194 ∨ 244 < a
      · rw [if_pos c2] at hD; (subst hD; refine ⟨?_, ?_, ?_⟩ <;> (try simp only [List.length_cons, List.length_nil]) <;> (try dsimp only) <;> omega)
      · rw [if_neg c2] at hD
        cases t with
        | nil => (subst hD; refine ⟨?_, ?_, ?_⟩ <;> (try simp only [List.length_cons, List.length_nil]) <;> (try dsimp only) <;> omega)
        | cons b t =>
          dsimp only at hD
          generalize (if a = 224 then (160 : Int) else if a = 240 then 144 else 128) = lo at hD
          generalize (if a = 237 then (159 : Int) else if a = 244 then 143 else 191) = hi at hD
          by_cases c3 : ¬ (lo ≤ b ∧ b ≤ hi)
          · rw [if_pos c3] at hD; (subst hD; refine ⟨?_, ?_, ?_⟩ <;> (try simp only [List.length_cons, List.length_nil]) <;> (try dsimp only) <;> omega)
          · rw [if_neg c3] at hD
            by_cases c4 : a < 224
            · rw [if_pos c4] at hD; (subst hD; refine ⟨?_, ?_, ?_⟩ <;> (try simp only [List.length_cons, List.length_nil]) <;> (try dsimp only) <;> omega)
            · rw [if_neg c4] at hD
              cases t with
              | nil => (subst hD; refine ⟨?_, ?_, ?_⟩ <;> (try simp only [List.length_cons, List.length_nil]) <;> (try dsimp only) <;> omega)
              | cons c t =>
                dsimp only at hD
                by_cases c5 : ¬ (128 ≤ c ∧ c ≤ 191)
                · rw [if_pos c5] at hD; (subst hD; refine ⟨?_, ?_, ?_⟩ <;> (try simp only [List.length_cons, List.length_nil]) <;> (try dsimp only) <;> omega)
                · rw [if_neg c5] at hD
                  by_cases c6 : a < 240
                  · rw [if_pos c6] at hD; (subst hD; refine ⟨?_, ?_, ?_⟩ <;> (try simp only [List.length_cons, List.length_nil]) <;> (try dsimp only) <;> omega)
                  · rw [if_neg c6] at hD
                    cases t with
                    | nil => (subst hD; refine ⟨?_, ?_, ?_⟩ <;> (try simp only [List.length_cons, List.length_nil]) <;> (try dsimp only) <;> omega)
                    | cons d t =>
                      dsimp only at hD
                      by_cases c7 : ¬ (128 ≤ d ∧ d ≤ 191)
                      · rw [if_pos c7] at hD; (subst hD; refine ⟨?_, ?_, ?_⟩ <;> (try simp only [List.length_cons, List.length_nil]) <;> (try dsimp only) <;> omega)
                      · rw [if_neg c7] at hD; (subst hD; refine ⟨?_, ?_, ?_⟩ <;> (try simp only [List.length_cons, List.length_nil]) <;> (try dsimp only) <;> omega)
theorem D_bad (l : List Int) (hb : Bytes l) (h : ¬ 0 ≤ (D l).1) : (D l).1 = -1 ∧ (D l).2 ≤ 3 := by
  cases l with
  | nil => exact ⟨rfl, by decide⟩
  | cons a t =>
    obtain ⟨⟨ha0, ha1⟩, ht⟩ := hb.cons
    generalize hD : D (a :: t) = r at h ⊢
    simp only [D] at hD
    by_cases c1 : a < 128
    · rw [if_pos c1] at hD; subst hD; exact absurd ha0 h
    · rw [if_neg c1] at hD
      by_cases c2 : a < 194 ∨ 244 < a
      · rw [if_pos c2] at hD; (subst hD; exact ⟨rfl, by decide⟩)
      · rw [if_neg c2] at hD
        cases t with
        | nil => (dsimp only at hD; subst hD; exact ⟨rfl, by decide⟩)
        | cons b t =>
          dsimp only at hD
          generalize (if a = 224 then (160 : Int) else if a = 240 then 144 else 128) = lo at hD
          generalize (if a = 237 then (159 : Int) else if a = 244 then 143 else 191) = hi at hD
          by_cases c3 : ¬ (lo ≤ b ∧ b ≤ hi)
          · rw [if_pos c3] at hD; (subst hD; exact ⟨rfl, by decide⟩)
          · rw [if_neg c3] at hD
            by_cases c4 : a < 224
            · rw [if_pos c4] at hD; subst hD; exact absurd (show (0:Int) ≤ (a - 192) * 64 + b % 64 by omega) h
            · rw [if_neg c4] at hD
              cases t with
              | nil => (dsimp only at hD; subst hD; exact ⟨rfl, by decide⟩)
              | cons c t =>
                dsimp only at hD
                by_cases c5 : ¬ (128 ≤ c ∧ c ≤ 191)
                · rw [if_pos c5] at hD; (subst hD; exact ⟨rfl, by decide⟩)
                · rw [if_neg c5] at hD
                  by_cases c6 : a < 240
                  · rw [if_pos c6] at hD; subst hD; exact absurd (show (0:Int) ≤ ((a - 224) * 64 + b % 64) * 64 + c % 64 by omega) h
                  · rw [if_neg c6] at hD
                    cases t with
                    | nil => (dsimp only at hD; subst hD; exact ⟨rfl, by decide⟩)
                    | cons d t =>
                      dsimp only at hD
                      by_cases c7 : ¬ (128 ≤ d ∧ d ≤ 191)
                      · rw [if_pos c7] at hD; (subst hD; exact ⟨rfl, by decide⟩)
                      · rw [if_neg c7] at hD; subst hD; exact absurd (show (0:Int) ≤ (((a - 240) * 64 + b % 64) * 64 + c % 64) * 64 + d % 64 by omega) h
end Go.Proofs.Ytpikhloemhbecaa.U8
