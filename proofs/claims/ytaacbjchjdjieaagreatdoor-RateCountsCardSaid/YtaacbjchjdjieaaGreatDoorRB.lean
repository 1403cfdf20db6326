/- What compares two numbers: the program's and the document's. -/
import Derived.Test.YtaacbjchjdjieaaGreatDoorRA
import Derived.Test.YtaacbjchjdjieaaGreatDoorFL
namespace Go.Proofs.YtaacbjchjdjieaaGreatDoor.P
open Go
set_option linter.unusedVariables false
set_option linter.unusedSimpArgs false
theorem isNaN2_calls (b : Nat) (w : World) : Calls Tryz.prog 43 #[.float .f64 b] w fun e w' => e = .returned (.bool (FL.nan b)) ∧ w' = w := by
  rw [← FL.selfNe]
  go_enter Tryz.func43, Tryz.ntmps43
  go_wp2
  go_ret
  exact ⟨rfl, rfl⟩
theorem isNaN_calls (b : Nat) (w : World) : Calls Tryz.prog 23 #[.float .f64 b] w fun e w' => e = .returned (.bool (FL.nan b)) ∧ w' = w := by
  rw [← FL.selfNe]
  exact IsNaN_calls b w
theorem Compare_calls (a b : Nat) (w : World) : Calls Tryz.prog 35 #[.float .f64 a, .float .f64 b] w fun e w' => e = .returned (.int .i64 (FL.cmpC a b)) ∧ w' = w := by
  generalize hr : FL.cmpC a b = r
  unfold FL.cmpC at hr
  have hlt : (FloatKind.f64.format.order a b == some Ordering.lt) = _ := FL.isLt a b
  have hgt : (FloatKind.f64.format.order a b == some Ordering.gt) = _ := FL.isGt a b
  cases na : FL.nan a <;> cases nb : FL.nan b <;> rw [na, nb] at hlt hgt hr <;> simp only [Bool.not_false, Bool.not_true, Bool.true_and, Bool.false_and, Bool.false_eq_true, if_true, if_false] at hlt hgt hr
  · by_cases c1 : FL.num a < FL.num b
    · rw [decide_eq_true c1] at hlt
      rw [if_pos c1] at hr
      subst hr
      go_enter Tryz.func35, Tryz.ntmps35
      go_wp2_with (first | (go_at_call 43; refine (isNaN2_calls _ _).mono ?_; rintro e w' ⟨rfl, rfl⟩))
      go_ret
      exact ⟨rfl, rfl⟩
    · rw [decide_eq_false c1] at hlt
      rw [if_neg c1] at hr
      by_cases c2 : FL.num b < FL.num a
      · rw [decide_eq_true c2] at hgt
        rw [if_pos c2] at hr
        subst hr
        go_enter Tryz.func35, Tryz.ntmps35
        go_wp2_with (first | (go_at_call 43; refine (isNaN2_calls _ _).mono ?_; rintro e w' ⟨rfl, rfl⟩))
        go_ret
        exact ⟨rfl, rfl⟩
      · rw [decide_eq_false c2] at hgt
        rw [if_neg c2] at hr
        subst hr
        go_enter Tryz.func35, Tryz.ntmps35
        go_wp2_with (first | (go_at_call 43; refine (isNaN2_calls _ _).mono ?_; rintro e w' ⟨rfl, rfl⟩))
        go_ret
        exact ⟨rfl, rfl⟩
  all_goals
    subst hr
    go_enter Tryz.func35, Tryz.ntmps35
    go_wp2_with (first | (go_at_call 43; refine (isNaN2_calls _ _).mono ?_; rintro e w' ⟨rfl, rfl⟩))
    go_ret
    exact ⟨rfl, rfl⟩
/-- the number of the one with a sign -/
theorem num_one : FL.nan 4607182418800017408 = false ∧ FL.nan 13830554455654793216 = false ∧ FL.num 13830554455654793216 < FL.num 4607182418800017408 := by
  refine ⟨by decide +kernel, by decide +kernel, by decide +kernel⟩
theorem zero_num : FL.nan 0 = false ∧ FL.num 0 = 0 := ⟨by decide +kernel, by decide +kernel⟩
theorem isZero (a : Nat) : (FloatKind.f64.format.order a 0 == some Ordering.eq) = (!FL.nan a && decide (FL.num a = 0)) := by
  have h : (FloatKind.f64.format.order a 0 == some Ordering.eq) = _ := FL.isEq a 0
  rw [h, zero_num.1, zero_num.2]; simp
def one (b : Nat) : Nat := if FL.sgn b = true then 13830554455654793216 else 4607182418800017408
theorem cmp_ones (a b : Nat) : FL.cmpC (one a) (one b) = if FL.sgn a = true ∧ FL.sgn b = false then -1 else if FL.sgn a = false ∧ FL.sgn b = true then 1 else 0 := by
  obtain ⟨h1, h2, h3⟩ := num_one
  unfold FL.cmpC one
  cases FL.sgn a <;> cases FL.sgn b <;> simp only [Bool.false_eq_true, if_false, if_true, h1, h2, true_and, and_true, and_self, false_and, and_false]
  · rw [if_neg (Int.lt_irrefl _), if_neg (Int.lt_irrefl _)]
  · rw [if_neg (by omega), if_pos h3]
  · rw [if_pos h3]
  · rw [if_neg (Int.lt_irrefl _), if_neg (Int.lt_irrefl _)]; rfl
theorem Copysign1_calls (b : Nat) (hb : b < 18446744073709551616) (w : World) : Calls Tryz.prog 31 #[.float .f64 4607182418800017408, .float .f64 b] w fun e w' => e = .returned (.float .f64 (one b)) ∧ w' = w := by
  have h : one b = if 9223372036854775808 ≤ b then 13830554455654793216 else 4607182418800017408 := by unfold one FL.sgn; simp
  rw [h]
  exact Copysign_calls b hb w
theorem Cmp_calls (a b : Nat) (ha : a < 18446744073709551616) (hb : b < 18446744073709551616) (w : World) : Calls Tryz.prog 19 #[.float .f64 a, .float .f64 b] w fun e w' => e = .returned (.int .i64 (FL.cmpK a b)) ∧ w' = w := by
  rw [← FL.rcmp_key]
  generalize hr : FL.rcmp a b = r
  unfold FL.rcmp at hr
  have h1 := isZero a
  have h2 := isZero b
  by_cases za : FL.nan a = false ∧ FL.num a = 0
  · rw [za.1, decide_eq_true za.2] at h1
    simp only [Bool.not_false, Bool.true_and] at h1
    by_cases zb : FL.nan b = false ∧ FL.num b = 0
    · rw [zb.1, decide_eq_true zb.2] at h2
      simp only [Bool.not_false, Bool.true_and] at h2
      rw [if_pos ⟨za, zb⟩, ← cmp_ones] at hr
      go_enter Tryz.func19, Tryz.ntmps19
      go_wp2_with fail
      refine (Copysign1_calls a ha _).mono ?_
      rintro e w1 ⟨rfl, rfl⟩
      go_wp2_with fail
      refine (Copysign1_calls b hb _).mono ?_
      rintro e w1 ⟨rfl, rfl⟩
      go_wp2_with fail
      refine (Compare_calls _ _ _).mono ?_
      rintro e w1 ⟨rfl, rfl⟩
      rw [hr]
      go_wp2_with fail
      go_ret
      exact ⟨rfl, rfl⟩
    · have h2' : (FloatKind.f64.format.order b 0 == some Ordering.eq) = false := by
        rw [h2]
        cases nb : FL.nan b
        · rw [nb] at zb; simp; intro e; exact zb ⟨rfl, e⟩
        · rfl
      clear h2
      rw [if_neg (fun h => zb h.2)] at hr
      subst hr
      go_enter Tryz.func19, Tryz.ntmps19
      go_wp2_with fail
      refine (Compare_calls _ _ _).mono ?_
      rintro e w1 ⟨rfl, rfl⟩
      go_wp2_with fail
      go_ret
      exact ⟨rfl, rfl⟩
  · have h1' : (FloatKind.f64.format.order a 0 == some Ordering.eq) = false := by
      rw [h1]
      cases na : FL.nan a
      · rw [na] at za; simp; intro e; exact za ⟨rfl, e⟩
      · rfl
    clear h1
    rw [if_neg (fun h => za h.1)] at hr
    subst hr
    go_enter Tryz.func19, Tryz.ntmps19
    go_wp2_with fail
    refine (Compare_calls _ _ _).mono ?_
    rintro e w1 ⟨rfl, rfl⟩
    go_wp2_with fail
    go_ret
    exact ⟨rfl, rfl⟩
theorem class_calls (b : Nat) (w : World) : Calls Tryz.prog 36 #[.float .f64 b] w fun e w' => e = .returned (.int .i64 (if FL.nan b = true then 0 else 1)) ∧ w' = w := by
  cases nb : FL.nan b
  all_goals
    go_enter Tryz.func36, Tryz.ntmps36
    go_wp2_with fail
    refine (isNaN_calls _ _).mono ?_
    rintro e w1 ⟨rfl, rfl⟩
    rw [nb]
    go_wp2_with fail
    go_ret
    exact ⟨rfl, rfl⟩
set_option maxRecDepth 100000 in
theorem RCmp_calls (a b : Nat) (ha : a < 18446744073709551616) (hb : b < 18446744073709551616) (w : World) : Calls Tryz.prog 20 #[.float .f64 a, .float .f64 b] w fun e w' => e = .returned (.int .i64 (FL.cmpK a b)) ∧ w' = w := by
  rw [← FL.dcmp_key]
  generalize hr : FL.dcmp a b = r
  unfold FL.dcmp at hr
  have h1 := isZero a
  have hlt : (FloatKind.f64.format.order a b == some Ordering.lt) = _ := FL.isLt a b
  have hgt : (FloatKind.f64.format.order a b == some Ordering.gt) = _ := FL.isGt a b
  cases na : FL.nan a <;> cases nb : FL.nan b <;> rw [na] at h1 hr <;> rw [nb] at hr <;> rw [na, nb] at hlt hgt <;> simp only [Bool.not_false, Bool.not_true, Bool.true_and, Bool.false_and, Bool.false_eq_true, if_true, if_false, or_self, true_or, or_true] at hlt hgt hr h1
  · by_cases c1 : FL.num a < FL.num b
    · rw [decide_eq_true c1] at hlt
      rw [if_pos c1] at hr
      subst hr
      go_enter Tryz.func20, Tryz.ntmps20
      go_wp2_with (first | (go_at_call 36; refine (class_calls _ _).mono ?_; (first | rw [na] | rw [nb]); rintro e w1 ⟨rfl, rfl⟩))
      go_ret
      exact ⟨rfl, rfl⟩
    · rw [decide_eq_false c1] at hlt
      rw [if_neg c1] at hr
      by_cases c2 : FL.num b < FL.num a
      · rw [decide_eq_true c2] at hgt
        rw [if_pos c2] at hr
        subst hr
        go_enter Tryz.func20, Tryz.ntmps20
        go_wp2_with (first | (go_at_call 36; refine (class_calls _ _).mono ?_; (first | rw [na] | rw [nb]); rintro e w1 ⟨rfl, rfl⟩))
        go_ret
        exact ⟨rfl, rfl⟩
      · rw [decide_eq_false c2] at hgt
        rw [if_neg c2] at hr
        by_cases z : FL.num a = 0
        · rw [decide_eq_true z] at h1
          have sa : decide (9223372036854775808 ≤ a) = FL.sgn a := rfl
          have sb : decide (9223372036854775808 ≤ b) = FL.sgn b := rfl
          cases ea : FL.sgn a <;> cases eb : FL.sgn b <;> rw [ea] at sa <;> rw [eb] at sb <;> rw [ea, eb] at hr <;> simp [z] at hr <;> subst hr
          all_goals
            go_enter Tryz.func20, Tryz.ntmps20
            go_wp2_with (first | (go_at_call 36; refine (class_calls _ _).mono ?_; (first | rw [na] | rw [nb]); rintro e w1 ⟨rfl, rfl⟩) | (go_at_call 32; first | (with_reducible refine (Signbit_calls a ha _).mono ?_; rw [sa]; rintro e w1 ⟨rfl, rfl⟩) | (with_reducible refine (Signbit_calls b hb _).mono ?_; rw [sb]; rintro e w1 ⟨rfl, rfl⟩)))
            go_ret
            exact ⟨rfl, rfl⟩
        · rw [decide_eq_false z] at h1
          rw [if_neg (fun h => z h.1)] at hr
          subst hr
          go_enter Tryz.func20, Tryz.ntmps20
          go_wp2_with (first | (go_at_call 36; refine (class_calls _ _).mono ?_; (first | rw [na] | rw [nb]); rintro e w1 ⟨rfl, rfl⟩))
          go_ret
          exact ⟨rfl, rfl⟩
  all_goals
    subst hr
    go_enter Tryz.func20, Tryz.ntmps20
    go_wp2_with (first | (go_at_call 36; refine (class_calls _ _).mono ?_; rw [na]; rintro e w1 ⟨rfl, rfl⟩) | (go_at_call 36; refine (class_calls _ _).mono ?_; rw [nb]; rintro e w1 ⟨rfl, rfl⟩))
    go_ret
    exact ⟨rfl, rfl⟩
end Go.Proofs.YtaacbjchjdjieaaGreatDoor.P
