/- Small functions on floats: what each call comes to. -/
import Derived.Test.YtaacbjchjdjieaaGreatDoorProg
import Derived.WalkKit
import Derived.WalkLawsBesides
import Derived.KernelRfl
import Derived.Laws.BitsLemmas
namespace Go.Proofs.YtaacbjchjdjieaaGreatDoor.P
open Go
set_option linter.unusedVariables false
set_option linter.unusedSimpArgs false
theorem frombits (n : Int) (w : World) : (callFunc 18 #[.int .u64 n]).run Tryz.prog w = .ok (.value (.float .f64 n.toNat)) w := by
  rw [run_callFunc_extern (e := Extern.MathFloatBits.float64frombits) Tryz.func18 (by kernel_rfl) (by kernel_rfl) (by kernel_rfl) (by kernel_rfl)]
  rfl
theorem bits (n : Nat) (w : World) : (callFunc 33 #[.float .f64 n]).run Tryz.prog w = .ok (.value (.int .u64 n)) w := by
  rw [run_callFunc_extern (e := Extern.MathFloatBits.float64bits) Tryz.func33 (by kernel_rfl) (by kernel_rfl) (by kernel_rfl) (by kernel_rfl)]
  rfl
set_option maxRecDepth 100000 in
theorem NaN_calls (w : World) : Calls Tryz.prog 34 #[] w fun e w' => e = .returned (.float .f64 9221120237041090561) ∧ w' = w := by
  go_enter Tryz.func34, Tryz.ntmps34
  have e1 := frombits
  have e2 := bits
  go_wp2
  go_ret
  exact ⟨rfl, rfl⟩
set_option maxRecDepth 100000 in
theorem InfP_calls (w : World) : Calls Tryz.prog 30 #[.int .i64 1] w fun e w' => e = .returned (.float .f64 9218868437227405312) ∧ w' = w := by
  go_enter Tryz.func30, Tryz.ntmps30
  have e1 := frombits
  have e2 := bits
  go_wp2
  go_ret
  exact ⟨rfl, rfl⟩
set_option maxRecDepth 100000 in
theorem InfN_calls (w : World) : Calls Tryz.prog 30 #[.int .i64 (-1)] w fun e w' => e = .returned (.float .f64 18442240474082181120) ∧ w' = w := by
  go_enter Tryz.func30, Tryz.ntmps30
  have e1 := frombits
  have e2 := bits
  go_wp2
  go_ret
  exact ⟨rfl, rfl⟩
theorem IsNaN_calls (b : Nat) (w : World) : Calls Tryz.prog 23 #[.float .f64 b] w fun e w' => e = .returned (.bool (Ieee.double.order b b != some .eq)) ∧ w' = w := by
  go_enter Tryz.func23, Tryz.ntmps23
  have e1 := frombits
  have e2 := bits
  go_wp2
  go_ret
  exact ⟨rfl, rfl⟩
theorem wraps_u64 (n : Int) (h0 : 0 ≤ n) (h1 : n < 2 ^ 64) : IntKind.u64.wrap n = n := by
  have : IntKind.u64.wrap n = n % 18446744073709551616 := by simp [IntKind.wrap, IntKind.bits, IntKind.signed]
  rw [this]; omega
theorem and_two (b k : Nat) : b &&& 2 ^ k = if b.testBit k = true then 2 ^ k else 0 := by
  apply Nat.eq_of_testBit_eq
  intro i
  rw [Nat.testBit_and, Nat.testBit_two_pow]
  by_cases h : k = i
  · subst h
    cases e : b.testBit k <;> simp [Nat.testBit_two_pow]
  · rw [decide_eq_false h, Bool.and_false]
    split
    · rw [Nat.testBit_two_pow, decide_eq_false h]
    · simp
theorem and_sign (b : Nat) (hb : b < 18446744073709551616) : Go.bits .and .u64 (b : Int) 9223372036854775808 = if 9223372036854775808 ≤ b then 9223372036854775808 else 0 := by
  have h := (bits_nat .u64 64 (by decide) wraps_u64 b 9223372036854775808 hb (by decide)).1
  refine h.trans ?_
  have h2 : b &&& 9223372036854775808 = if b.testBit 63 = true then 2 ^ 63 else 0 := and_two b 63
  rw [h2]
  have h3 : b.testBit 63 = decide (9223372036854775808 ≤ b) := by
    rw [Nat.testBit_eq_decide_div_mod_eq]
    exact decide_eq_decide.2 ⟨fun e => by omega, fun e => by omega⟩
  rw [h3]
  by_cases c : 9223372036854775808 ≤ b
  · rw [decide_eq_true c, if_pos rfl, if_pos c]; rfl
  · rw [decide_eq_false c, if_neg (by decide), if_neg c]; rfl
theorem Signbit_calls (b : Nat) (hb : b < 18446744073709551616) (w : World) : Calls Tryz.prog 32 #[.float .f64 b] w fun e w' => e = .returned (.bool (decide (9223372036854775808 ≤ b))) ∧ w' = w := by
  go_enter Tryz.func32, Tryz.ntmps32
  have e1 := frombits
  have e2 := bits
  go_wp2
  go_ret
  refine ⟨?_, rfl⟩
  have : decide (RowKit.wrap64 (b : Int) < 0) = decide (9223372036854775808 ≤ b) := by
    refine decide_eq_decide.2 ?_
    unfold RowKit.wrap64
    exact ⟨fun e => by omega, fun e => by omega⟩
  rw [this]; rfl
set_option maxRecDepth 100000 in
theorem Copysign_calls (b : Nat) (hb : b < 18446744073709551616) (w : World) : Calls Tryz.prog 31 #[.float .f64 4607182418800017408, .float .f64 b] w fun e w' => e = .returned (.float .f64 (if 9223372036854775808 ≤ b then 13830554455654793216 else 4607182418800017408)) ∧ w' = w := by
  have h := and_sign b hb
  have h2 : Go.bits .andNot .u64 4607182418800017408 9223372036854775808 = 4607182418800017408 := by decide +kernel
  by_cases c : 9223372036854775808 ≤ b
  · rw [if_pos c] at h ⊢
    have h3 : Go.bits .or .u64 4607182418800017408 9223372036854775808 = 13830554455654793216 := by decide +kernel
    go_enter Tryz.func31, Tryz.ntmps31
    have e1 := frombits
    have e2 := bits
    go_wp2
    go_ret
    exact ⟨rfl, rfl⟩
  · rw [if_neg c] at h ⊢
    have h3 : Go.bits .or .u64 4607182418800017408 0 = 4607182418800017408 := by decide +kernel
    go_enter Tryz.func31, Tryz.ntmps31
    have e1 := frombits
    have e2 := bits
    go_wp2
    go_ret
    exact ⟨rfl, rfl⟩
end Go.Proofs.YtaacbjchjdjieaaGreatDoor.P
