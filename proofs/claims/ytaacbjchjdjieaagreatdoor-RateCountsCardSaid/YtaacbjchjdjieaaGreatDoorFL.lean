/- Floats of 64 bits by their words: how two stand to each other, as whole numbers; what is no number. Plain Lean over Ieee. -/
import Derived.Laws.Cover2
namespace Go.Proofs.YtaacbjchjdjieaaGreatDoor.FL
open Go Ieee
set_option linter.unusedVariables false
set_option linter.unusedSimpArgs false
theorem big_ex : ∃ b : Int, 0 < b ∧ ∀ q : Nat, q ≤ 2045 → (2 : Int) ^ 53 * 2 ^ q < b := by
  have h : ∀ n : Nat, n = 2200 → 0 < (2 : Int) ^ n ∧ ∀ q : Nat, q ≤ 2045 → (2 : Int) ^ 53 * 2 ^ q < 2 ^ n := by
    intro n hn
    refine ⟨Int.pow_pos (by decide), fun q hq => ?_⟩
    rw [← Int.pow_add]
    have h1 : 2 ^ (53 + q) < 2 ^ n := Nat.pow_lt_pow_right (by decide) (by omega)
    exact_mod_cast h1
  exact ⟨_, h _ rfl⟩
/-- beyond all numbers -/
noncomputable def big : Int := Classical.choose big_ex
theorem big_pos : 0 < big := (Classical.choose_spec big_ex).1
theorem big_gt (q : Nat) (h : q ≤ 2045) : (2 : Int) ^ 53 * 2 ^ q < big := (Classical.choose_spec big_ex).2 q h
/-- a datum's number, in units of 2 ^ -1074; an infinity lies beyond all -/
noncomputable def val : Datum → Int
  | .number s m i => signed s m (i + 1074).toNat
  | .infinity s => if s then -big else big
  | .nan _ _ => 0
theorem cmpI (a b : Int) : compare a b = if a < b then Ordering.lt else if a = b then .eq else .gt := rfl
theorem signed_eq (s : Bool) (m u : Nat) : signed s m u = (if s then -(m : Int) else (m : Int)) * 2 ^ u := by
  unfold signed
  cases s <;> simp [Nat.shiftLeft_eq, Int.neg_mul]
theorem signed_add (s : Bool) (m u k : Nat) : signed s m (u + k) = signed s m u * 2 ^ k := by
  rw [signed_eq, signed_eq, Int.pow_add, Int.mul_assoc]
theorem pow2_pos (k : Nat) : (0 : Int) < 2 ^ k := Int.pow_pos (by decide)
theorem cmp_scale (a b : Int) (k : Nat) : compare (a * 2 ^ k) (b * 2 ^ k) = compare a b := by
  have h := pow2_pos k
  rw [cmpI, cmpI]
  have h1 : a * 2 ^ k < b * 2 ^ k ↔ a < b := Int.mul_lt_mul_right h
  have h2 : a * 2 ^ k = b * 2 ^ k ↔ a = b := ⟨fun e => Int.eq_of_mul_eq_mul_right (Int.ne_of_gt h) e, fun e => by rw [e]⟩
  by_cases c1 : a < b
  · rw [if_pos c1, if_pos (h1.2 c1)]
  · rw [if_neg c1, if_neg (fun e => c1 (h1.1 e))]
    by_cases c2 : a = b
    · rw [if_pos c2, if_pos (h2.2 c2)]
    · rw [if_neg c2, if_neg (fun e => c2 (h2.1 e))]
/-- what a word reads as -/
def Good : Datum → Prop
  | .number _ m i => m < 2 ^ 53 ∧ -1074 ≤ i ∧ i ≤ 971
  | _ => True
theorem leastPlace_eq : double.leastPlace = -1074 := by decide
theorem binade_eq : double.binade = 4503599627370496 := by decide
theorem infRung_eq : double.infRung = 9218868437227405312 := by decide
theorem signWeight_eq : double.signWeight = 9223372036854775808 := by decide
theorem read_good (b : Nat) : Good (double.read b) := by
  unfold Format.read
  dsimp only
  rw [leastPlace_eq, binade_eq, infRung_eq, signWeight_eq]
  generalize b % 9223372036854775808 = r
  split
  · exact ⟨by omega, by omega, by omega⟩
  · split
    · refine ⟨by omega, by omega, ?_⟩
      have : r / 4503599627370496 ≤ 2046 := by omega
      omega
    · split <;> trivial
theorem val_lt (d : Datum) (h : Good d) : (∀ s, d ≠ .infinity s) → -big < val d ∧ val d < big := by
  intro hi
  have hbig := big_pos
  cases d with
  | infinity s => exact absurd rfl (hi s)
  | nan s f => exact ⟨by show -big < 0; omega, by show 0 < big; omega⟩
  | number s m i =>
    obtain ⟨h1, h2, h3⟩ := h
    show -big < signed s m (i + 1074).toNat ∧ signed s m (i + 1074).toNat < big
    rw [signed_eq]
    have hq := big_gt (i + 1074).toNat (by omega)
    have hp := pow2_pos (i + 1074).toNat
    generalize (2 : Int) ^ (i + 1074).toNat = q at hq hp
    have hm : (m : Int) ≤ 2 ^ 53 := by exact_mod_cast Nat.le_of_lt h1
    have e1 : (m : Int) * q ≤ 2 ^ 53 * q := Int.mul_le_mul_of_nonneg_right hm (by omega)
    have h0 : 0 ≤ (m : Int) * q := Int.mul_nonneg (by omega) (by omega)
    cases s
    · simp only [Bool.false_eq_true, if_false]; omega
    · simp only [if_true, Int.neg_mul]; omega
theorem order_val (d e : Datum) (hd : Good d) (he : Good e) (nd : d.isNaN = false) (ne : e.isNaN = false) : d.order e = some (compare (val d) (val e)) := by
  have hbig := big_pos
  cases d with
  | nan s f => cases nd
  | infinity s =>
    cases e with
    | nan s f => cases ne
    | infinity t =>
      show some (compare t.toNat s.toNat) = some (compare (if s then -big else big) (if t then -big else big))
      rw [cmpI]
      cases s <;> cases t <;> simp only [Bool.false_eq_true, if_false, if_true]
      · rw [if_neg (show ¬ big < big by omega)]; rfl
      · rw [if_neg (by omega), if_neg (by omega)]; rfl
      · rw [if_pos (by omega)]; rfl
      · rw [if_neg (show ¬ -big < -big by omega)]; rfl
    | number t n j =>
      have := val_lt (.number t n j) he (fun s h => by cases h)
      show some (if s then Ordering.lt else .gt) = _
      rw [cmpI]
      generalize val (.number t n j) = v at this ⊢
      unfold val
      cases s
      · simp only [Bool.false_eq_true, if_false]
        rw [if_neg (by omega), if_neg (by omega)]
      · simp only [if_true]
        rw [if_pos (by omega)]
  | number s m i =>
    cases e with
    | nan s f => cases ne
    | infinity t =>
      have := val_lt (.number s m i) hd (fun s h => by cases h)
      show some (if t then Ordering.gt else .lt) = _
      rw [cmpI]
      generalize val (.number s m i) = v at this ⊢
      unfold val
      cases t
      · simp only [Bool.false_eq_true, if_false]
        rw [if_pos (by omega)]
      · simp only [if_true]
        rw [if_neg (by omega), if_neg (by omega)]
    | number t n j =>
      obtain ⟨_, h2, _⟩ := hd
      obtain ⟨_, h3, _⟩ := he
      show some (compare (signed s m (i - min i j).toNat) (signed t n (j - min i j).toNat)) = some (compare (signed s m (i + 1074).toNat) (signed t n (j + 1074).toNat))
      have e1 : (i + 1074).toNat = (i - min i j).toNat + (min i j + 1074).toNat := by omega
      have e2 : (j + 1074).toNat = (j - min i j).toNat + (min i j + 1074).toNat := by omega
      rw [e1, e2, signed_add, signed_add, cmp_scale]
theorem order_nan (d e : Datum) (h : d.isNaN = true ∨ e.isNaN = true) : d.order e = none := by
  cases d <;> cases e <;> simp [Datum.isNaN, Datum.order] at h ⊢
/-- a word's number, and whether it is none -/
noncomputable def num (b : Nat) : Int := val (double.read b)
def nan (b : Nat) : Bool := (double.read b).isNaN
theorem ord (a b : Nat) : double.order a b = if nan a = true ∨ nan b = true then none else some (compare (num a) (num b)) := by
  unfold Format.order nan num
  split
  · rename_i h; exact order_nan _ _ h
  · rename_i h
    rw [not_or, Bool.not_eq_true, Bool.not_eq_true] at h
    exact order_val _ _ (read_good a) (read_good b) h.1 h.2
theorem isLt (a b : Nat) : (double.order a b == some .lt) = (!nan a && !nan b && decide (num a < num b)) := by
  rw [ord]
  cases nan a <;> cases nan b <;> simp
  rw [cmpI]
  by_cases h : num a < num b
  · simp [h]
  · rw [if_neg h]; by_cases h2 : num a = num b <;> simp [h, h2]
theorem isEq (a b : Nat) : (double.order a b == some .eq) = (!nan a && !nan b && decide (num a = num b)) := by
  rw [ord]
  cases nan a <;> cases nan b <;> simp
  rw [cmpI]
  by_cases h : num a < num b
  · rw [if_pos h]; simp; omega
  · rw [if_neg h]; by_cases h2 : num a = num b <;> simp [h2]
theorem isGt (a b : Nat) : (double.order a b == some .gt) = (!nan a && !nan b && decide (num b < num a)) := by
  rw [ord]
  cases nan a <;> cases nan b <;> simp
  rw [cmpI]
  by_cases h : num a < num b
  · rw [if_pos h]; simp; omega
  · rw [if_neg h]
    by_cases h2 : num a = num b
    · simp [h2]
    · rw [if_neg h2]; simp; omega
def sgn (b : Nat) : Bool := decide (9223372036854775808 ≤ b)
theorem selfNe (a : Nat) : (double.order a a != some .eq) = nan a := by
  have := isEq a a
  unfold bne
  rw [this]
  cases nan a <;> simp
noncomputable def cmpC (a b : Nat) : Int := if nan a = true then (if nan b = true then 0 else -1) else if nan b = true then 1 else if num a < num b then -1 else if num b < num a then 1 else 0
/-- one whole number that tells all of a word but which NaN it is -/
noncomputable def key (b : Nat) : Int := if nan b = true then -(4 * big) else 2 * num b + (if num b = 0 ∧ sgn b = true then -1 else 0)
noncomputable def cmpK (a b : Nat) : Int := if key a < key b then -1 else if key b < key a then 1 else 0
theorem num_bound (b : Nat) : -big ≤ num b ∧ num b ≤ big := by
  unfold num
  have h := val_lt (double.read b) (read_good b)
  have hbig := big_pos
  cases hd : double.read b with
  | number s m i =>
    rw [hd] at h
    have := h (fun s h => by cases h)
    omega
  | nan s f => exact ⟨by show -big ≤ 0; omega, by show 0 ≤ big; omega⟩
  | infinity s =>
    show -big ≤ (if s then -big else big) ∧ (if s then -big else big) ≤ big
    cases s <;> simp only [Bool.false_eq_true, if_false, if_true] <;> omega
theorem key_num (a b : Nat) (ha : nan a = false) (hb : nan b = false) : (num a < num b → key a < key b) ∧ (num a = num b → key a - key b = (if num a = 0 ∧ sgn a = true then -1 else 0) - (if num a = 0 ∧ sgn b = true then -1 else 0)) := by
  unfold key
  rw [ha, hb]
  simp only [Bool.false_eq_true, if_false]
  constructor
  · intro h
    split <;> split <;> omega
  · intro h
    rw [h]
    omega
theorem key_nan (a b : Nat) (ha : nan a = true) (hb : nan b = false) : key a < key b := by
  unfold key
  rw [ha, hb]
  simp only [if_true, Bool.false_eq_true, if_false]
  have h := (num_bound b).1
  have hbig := big_pos
  split <;> omega
theorem key_nan2 (a b : Nat) (ha : nan a = true) (hb : nan b = true) : key a = key b := by
  unfold key; rw [ha, hb]; rfl
/-- what the program's Cmp and the document's tell -/
noncomputable def rcmp (a b : Nat) : Int := if (nan a = false ∧ num a = 0) ∧ (nan b = false ∧ num b = 0) then (if sgn a = true ∧ sgn b = false then -1 else if sgn a = false ∧ sgn b = true then 1 else 0) else cmpC a b
noncomputable def dcmp (a b : Nat) : Int :=
  if nan a = true ∨ nan b = true then (if nan a = true then 0 else 1) - (if nan b = true then 0 else 1)
  else if num a < num b then -1 else if num b < num a then 1
  else if num a = 0 ∧ sgn a ≠ sgn b then (if sgn a = true then -1 else 1) else 0
theorem rcmp_key (a b : Nat) : rcmp a b = cmpK a b := by
  unfold rcmp cmpC cmpK
  cases ha : nan a <;> cases hb : nan b
  · have k1 := key_num a b ha hb
    have k2 := key_num b a hb ha
    simp only [true_and, Bool.false_eq_true, if_false]
    rcases Int.lt_trichotomy (num a) (num b) with h | h | h
    · have := k1.1 h
      rw [if_neg (by omega), if_pos h, if_pos this]
    · have h0 := k1.2 h
      rw [← h]
      by_cases z : num a = 0
      · rw [if_pos ⟨z, z⟩]
        cases sa : sgn a <;> cases sb : sgn b <;> simp [sa, sb, z] at h0 ⊢ <;> (split <;> (try split) <;> omega)
      · rw [if_neg (by omega), if_neg (by omega), if_neg (by omega)]
        simp [z] at h0
        rw [if_neg (by omega), if_neg (by omega)]
    · have := k2.1 h
      rw [if_neg (by omega), if_neg (by omega), if_pos h, if_neg (by omega), if_pos this]
  · have := key_nan b a hb ha
    simp
    rw [if_neg (by omega), if_pos this]
  · have := key_nan a b ha hb
    simp only [if_true, if_false, Bool.false_eq_true, true_or, or_true]
    rw [if_pos this]
    simp
  · have := key_nan2 a b ha hb
    simp
    rw [if_neg (by omega), if_neg (by omega)]
theorem dcmp_key (a b : Nat) : dcmp a b = cmpK a b := by
  unfold dcmp cmpK
  cases ha : nan a <;> cases hb : nan b
  · have k1 := key_num a b ha hb
    have k2 := key_num b a hb ha
    simp only [Bool.false_eq_true, or_self, if_false]
    rcases Int.lt_trichotomy (num a) (num b) with h | h | h
    · have := k1.1 h
      rw [if_pos h, if_pos this]
    · have h0 := k1.2 h
      rw [← h, if_neg (by omega), if_neg (by omega)]
      by_cases z : num a = 0
      · cases sa : sgn a <;> cases sb : sgn b <;> simp [sa, sb, z] at h0 ⊢ <;> (split <;> (try split) <;> omega)
      · rw [if_neg (by omega)]
        simp [z] at h0
        rw [if_neg (by omega), if_neg (by omega)]
    · have := k2.1 h
      rw [if_neg (by omega), if_pos h, if_neg (by omega), if_pos this]
  · have := key_nan b a hb ha
    simp
    rw [if_neg (by omega), if_pos this]
  · have := key_nan a b ha hb
    simp only [if_true, if_false, Bool.false_eq_true, true_or, or_true]
    rw [if_pos this]
    simp
  · have := key_nan2 a b ha hb
    simp
    rw [if_neg (by omega), if_neg (by omega)]
theorem cmpK_self (a : Nat) : cmpK a a = 0 := by unfold cmpK; rw [if_neg (by omega), if_neg (by omega)]
theorem cmpK_swap (a b : Nat) : cmpK b a = -cmpK a b := by
  unfold cmpK
  rcases Int.lt_trichotomy (key a) (key b) with h | h | h
  · rw [if_neg (by omega), if_pos h, if_pos h]; rfl
  · rw [h, if_neg (Int.lt_irrefl _), if_neg (Int.lt_irrefl _)]; rfl
  · rw [if_pos h, if_neg (by omega), if_pos h]
theorem cmpK_le (a b : Nat) : cmpK a b ≤ 0 ↔ key a ≤ key b := by
  unfold cmpK
  split
  · omega
  · split <;> omega
theorem cmpK_trans (a b c : Nat) (h1 : cmpK a b ≤ 0) (h2 : cmpK b c ≤ 0) : cmpK a c ≤ 0 := by
  rw [cmpK_le] at *; omega
end Go.Proofs.YtaacbjchjdjieaaGreatDoor.FL
