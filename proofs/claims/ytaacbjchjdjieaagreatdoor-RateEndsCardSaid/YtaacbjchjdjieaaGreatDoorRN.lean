/- The document's mean. -/
import Derived.Test.YtaacbjchjdjieaaGreatDoorRK
namespace Go.Proofs.YtaacbjchjdjieaaGreatDoor.P
open Go Go.RowKit Go.Proofs.YtaacbjchjdjieaaGreatDoorW.PrintWords Go.Proofs.YtaacbjchjdjieaaGreatDoorW.PrintLast Go.Proofs.YtaacbjchjdjieaaGreatDoorW.PrintMore
set_option linter.unusedVariables false
set_option linter.unusedSimpArgs false
set_option maxRecDepth 100000
theorem nan_const : FL.nan 9221120237041090561 = true := by decide +kernel
theorem RMean_calls (n b : Int) (hb : b.natAbs < 2 ^ 64) (w : World) : Calls Tryz.prog 17 #[.agg #[.int .i64 n, .int .i64 b]] w fun e w' => ∃ u, e = .returned (.float .f64 u) ∧ (∀ v, FL.IsQuo (floatOfInt .f64 b) (floatOfInt .f64 n) v → (FL.nan v && FL.nan u || decide (v = u)) = true) ∧ Below w.heap.size w w' := by
  by_cases h0 : n = 0
  · subst h0
    have n0 : ((0 : Int) == 0) = true := rfl
    by_cases h1 : b = 0
    · subst h1
      go_enter Tryz.func17, Tryz.ntmps17
      go_wp2_with fail
      refine (NaN_calls _).mono ?_
      rintro e w1 ⟨rfl, hw1⟩
      subst hw1
      go_wp2_with fail
      go_ret
      refine ⟨_, rfl, ?_, below_alloc (Below.refl _ _) _⟩
      rintro v (hv | ⟨_, hv, _⟩)
      · rw [FL.div_nought] at hv; cases hv
      · rw [hv, nan_const]; rfl
    · have b0 : (b == 0) = false := beq_eq_false_iff_ne.2 h1
      have hd := FL.div_zero b h1 hb
      by_cases h2 : b > 0
      · have b1 : decide (b > 0) = true := decide_eq_true h2
        rw [if_neg (by omega)] at hd
        go_enter Tryz.func17, Tryz.ntmps17
        go_wp2_with fail
        refine (InfP_calls _).mono ?_
        rintro e w1 ⟨rfl, hw1⟩
        subst hw1
        go_wp2_with fail
        go_ret
        refine ⟨_, rfl, ?_, below_alloc (Below.refl _ _) _⟩
        rw [FL.ofInt_zero]
        rintro v (hv | ⟨hn, _, _⟩)
        · rw [hd] at hv; cases hv; rw [decide_eq_true rfl, Bool.or_true]
        · rw [hd] at hn; cases hn
      · have b1 : decide (b > 0) = false := decide_eq_false h2
        rw [if_pos (by omega)] at hd
        go_enter Tryz.func17, Tryz.ntmps17
        go_wp2_with fail
        refine (InfN_calls _).mono ?_
        rintro e w1 ⟨rfl, hw1⟩
        subst hw1
        go_wp2_with fail
        go_ret
        refine ⟨_, rfl, ?_, below_alloc (Below.refl _ _) _⟩
        rw [FL.ofInt_zero]
        rintro v (hv | ⟨hn, _, _⟩)
        · rw [hd] at hv; cases hv; rw [decide_eq_true rfl, Bool.or_true]
        · rw [hd] at hn; cases hn
  · have n0 : (n == 0) = false := beq_eq_false_iff_ne.2 h0
    rcases FL.quo_run Tryz.prog (floatOfInt .f64 b) (floatOfInt .f64 n) 35 with ⟨u, hu, hr⟩ | ⟨f, hf, hr⟩
    · go_enter Tryz.func17, Tryz.ntmps17
      go_wp2
      go_ret
      refine ⟨u, rfl, fun v hv => ?_, below_alloc (Below.refl _ _) _⟩
      rcases FL.quo_same _ _ _ _ hv hu with ⟨h1, h2⟩ | h
      · rw [h1, h2]; rfl
      · rw [decide_eq_true h, Bool.or_true]
    · go_enter Tryz.func17, Tryz.ntmps17
      go_wp2
      go_ret
      refine ⟨_, rfl, fun v hv => ?_, below_drew (below_alloc (Below.refl _ _) _)⟩
      rcases FL.quo_same _ _ _ _ hv (hf _) with ⟨h1, h2⟩ | h
      · rw [h1, h2]; rfl
      · rw [decide_eq_true h, Bool.or_true]
theorem Same_true (a b : Nat) (h : (FL.nan a && FL.nan b || decide (a = b)) = true) (w : World) : Calls Tryz.prog 15 #[.float .f64 a, .float .f64 b] w fun e w' => e = .returned (.bool true) ∧ w' = w := (Same_calls a b w).mono (by
  rintro e w' ⟨rfl, rfl⟩
  rw [h]
  exact ⟨rfl, rfl⟩)
end Go.Proofs.YtaacbjchjdjieaaGreatDoor.P
