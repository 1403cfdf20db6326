/- Quotients of whole numbers. -/
import Derived.Test.YtaacbjchjdjieaaGreatDoorFL
import Derived.Laws.FloatArith
import Derived.Laws.NewFold
namespace Go.Proofs.YtaacbjchjdjieaaGreatDoor.FL
open Go Ieee
set_option linter.unusedVariables false
/-- what a quotient may be: the number, or, where there is none, one that is none -/
def IsQuo (a b v : Nat) : Prop := floatBits .quo .f64 a b = some v ∨ (floatBits .quo .f64 a b = none ∧ nan v = true ∧ v < 18446744073709551616)
theorem nan_cut (t : Nat) : nan ((t % 2) * 2 ^ 63 + 0x7ff0000000000000 + 1 + (t / 2) % (2 ^ 52 - 1)) = true ∧ (t % 2) * 2 ^ 63 + 0x7ff0000000000000 + 1 + (t / 2) % (2 ^ 52 - 1) < 18446744073709551616 := by
  refine ⟨?_, by omega⟩
  have hr : ((t % 2) * 2 ^ 63 + 0x7ff0000000000000 + 1 + (t / 2) % (2 ^ 52 - 1)) % 9223372036854775808 = 0x7ff0000000000000 + 1 + (t / 2) % (2 ^ 52 - 1) := by omega
  unfold nan Format.read
  simp only [signWeight_eq, binade_eq, infRung_eq, hr]
  rw [if_neg (by omega), if_neg (by omega), if_neg (by omega)]
  rfl
theorem quo_run (P : Program) (a b : Nat) (t : TypeId) : (∃ v, IsQuo a b v ∧ ∀ w, (binOp .quo t (.float .f64 a) (.float .f64 b)).run P w = .ok (.float .f64 v) w) ∨ (∃ f : World → Nat, (∀ w, IsQuo a b (f w)) ∧ ∀ w, (binOp .quo t (.float .f64 a) (.float .f64 b)).run P w = .ok (.float .f64 (f w)) w.drew) := by
  cases h : floatBits .quo .f64 a b with
  | some r => exact .inl ⟨r, .inl h, fun w => run_float_arith w .quo t .f64 a b r h⟩
  | none =>
    refine .inr ⟨fun w => (Question.nanBits .f64 a b).cut (w.tape w.drawn (.nanBits .f64 a b)), fun w => .inr ⟨h, nan_cut _⟩, fun w => ?_⟩
    have h' : FloatKind.f64.format.div a b = none := h
    simp [binOp, Op.floatArith, h', Question.forced]
/-- of two quotients of the same each is the other, or both are none -/
theorem quo_same (a b v u : Nat) (hv : IsQuo a b v) (hu : IsQuo a b u) : (nan v = true ∧ nan u = true) ∨ v = u := by
  rcases hv with hv | ⟨hn, hv, _⟩ <;> rcases hu with hu | ⟨hm, hu, _⟩
  · exact .inr (Option.some.inj (hv.symm.trans hu))
  · rw [hv] at hm; cases hm
  · rw [hu] at hn; cases hn
  · exact .inl ⟨hv, hu⟩
theorem quo_lt (a b v : Nat) (hv : IsQuo a b v) : v < 18446744073709551616 := by
  rcases hv with hv | ⟨_, _, h⟩
  · exact FloatKind.f64.format.div_lt hv
  · exact h
theorem div_zero (n : Int) (h : n ≠ 0) (hb : n.natAbs < 2 ^ 64) : floatBits .quo .f64 (floatOfInt .f64 n) 0 = some (if n < 0 then 18442240474082181120 else 9218868437227405312) := by
  have hlog : n.natAbs.log2 < 64 := (Nat.log2_lt (by omega)).2 hb
  obtain ⟨r, hr, h0, h1⟩ : ∃ r : Nat, floatOfInt .f64 n = double.word (decide (n < 0)) r ∧ 4503599627370496 ≤ r ∧ r ≤ 9218868437227405312 := by
    refine ⟨min (((max ((0 : Int) + n.natAbs.log2 - 52) (-1074)) - (-1074)).toNat * 4503599627370496 + Toward.even.cut (decide (n < 0)) (n.natAbs <<< ((0 : Int) - (max ((0 : Int) + n.natAbs.log2 - 52) (-1074))).toNat) ((max ((0 : Int) + n.natAbs.log2 - 52) (-1074)) - 0).toNat) 9218868437227405312, ?_, ?_, ?_⟩
    · show Format.nearest double _ _ _ = _
      unfold Format.nearest
      rw [if_neg (by omega)]
      rfl
    · omega
    · omega
  show (((double.read (floatOfInt .f64 n)).quotient _ (double.read 0)).map double.write) = _
  have hz : double.read 0 = .number false 0 (-1074) := by decide +kernel
  have hw : (∃ m p, double.read (floatOfInt .f64 n) = .number (decide (n < 0)) m p ∧ m ≠ 0) ∨ double.read (floatOfInt .f64 n) = .infinity (decide (n < 0)) := by
    rw [hr]
    have hneg : (double.word (decide (n < 0)) r / 9223372036854775808 % 2 == 1) = decide (n < 0) := by
      unfold Format.word
      rw [signWeight_eq]
      by_cases c : n < 0
      · rw [decide_eq_true c, if_pos rfl]
        have : (9223372036854775808 + r) / 9223372036854775808 % 2 = 1 := by omega
        rw [this]; rfl
      · rw [decide_eq_false c, if_neg (by decide)]
        have : r / 9223372036854775808 % 2 = 0 := by omega
        rw [this]; rfl
    have hrung : double.word (decide (n < 0)) r % 9223372036854775808 = r := by
      unfold Format.word
      rw [signWeight_eq]
      split <;> omega
    unfold Format.read
    simp only [signWeight_eq, binade_eq, infRung_eq, hneg, hrung]
    rw [if_neg (by omega)]
    by_cases c : r < 9218868437227405312
    · rw [if_pos c]
      exact .inl ⟨_, _, rfl, by omega⟩
    · rw [if_neg c, if_pos (by omega)]
      exact .inr rfl
  have hi : ∀ s, double.write (.infinity s) = if s = true then 18442240474082181120 else 9218868437227405312 := by
    intro s; cases s <;> decide +kernel
  rcases hw with ⟨m, p, e, hm⟩ | e
  · rw [e, hz]
    simp only [Datum.quotient]
    simp [hm, hi]
  · rw [e, hz]
    simp [Datum.quotient, hi]
theorem div_nought : floatBits .quo .f64 (floatOfInt .f64 0) (floatOfInt .f64 0) = none := by decide +kernel
theorem ofInt_zero : floatOfInt .f64 0 = 0 := by decide +kernel
end Go.Proofs.YtaacbjchjdjieaaGreatDoor.FL
