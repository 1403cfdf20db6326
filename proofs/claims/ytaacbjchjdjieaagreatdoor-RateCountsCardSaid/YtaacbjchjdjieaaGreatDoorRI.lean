/- Numbers as texts: those that the law's example names. -/
import Derived.Test.YtaacbjchjdjieaaGreatDoorRH
import Derived.Test.YtaacbjchjdjieaaGreatDoorRB
namespace Go.Proofs.YtaacbjchjdjieaaGreatDoor.P
open Go Go.RowKit Go.Proofs.YtaacbjchjdjieaaGreatDoorW.PrintWords Go.Proofs.YtaacbjchjdjieaaGreatDoorW.PrintLast Go.Proofs.YtaacbjchjdjieaaGreatDoorW.PrintMore
set_option linter.unusedVariables false
set_option linter.unusedSimpArgs false
set_option maxRecDepth 100000
theorem namedNaN_calls (b : Nat) (hb : FL.nan b = true) (w : World) : Calls Tryz.prog 37 #[.float .f64 b] w fun e w' => e = .returned (.tuple #[.string ⟨#[110, 97, 110]⟩, .bool true]) ∧ w' = w := by
  have h : (FloatKind.f64.format.order b b != some Ordering.eq) = true := (FL.selfNe b).trans hb
  go_enter Tryz.func37, Tryz.ntmps37
  go_wp2
  go_ret2
  exact ⟨rfl, rfl⟩
theorem namedInfP_calls (w : World) : Calls Tryz.prog 37 #[.float .f64 9218868437227405312] w fun e w' => e = .returned (.tuple #[.string ⟨#[105, 110, 102]⟩, .bool true]) ∧ w' = w := by
  have h : (FloatKind.f64.format.order 9218868437227405312 9218868437227405312 != some Ordering.eq) = false := by decide +kernel
  have h1 : (FloatKind.f64.format.order 9218868437227405312 9218868437227405311 == some Ordering.gt) = true := by decide +kernel
  have h2 : (FloatKind.f64.format.order 9218868437227405312 18442240474082181119 == some Ordering.lt) = false := by decide +kernel
  go_enter Tryz.func37, Tryz.ntmps37
  go_wp2
  go_ret2
  exact ⟨rfl, rfl⟩
theorem namedInfN_calls (w : World) : Calls Tryz.prog 37 #[.float .f64 18442240474082181120] w fun e w' => e = .returned (.tuple #[.string ⟨#[45, 105, 110, 102]⟩, .bool true]) ∧ w' = w := by
  have h : (FloatKind.f64.format.order 18442240474082181120 18442240474082181120 != some Ordering.eq) = false := by decide +kernel
  have h1 : (FloatKind.f64.format.order 18442240474082181120 9218868437227405311 == some Ordering.gt) = false := by decide +kernel
  have h2 : (FloatKind.f64.format.order 18442240474082181120 18442240474082181119 == some Ordering.lt) = true := by decide +kernel
  go_enter Tryz.func37, Tryz.ntmps37
  go_wp2
  go_ret2
  exact ⟨rfl, rfl⟩
theorem namedZ_calls (w : World) : Calls Tryz.prog 37 #[.float .f64 9223372036854775808] w fun e w' => e = .returned (.tuple #[.string ⟨#[]⟩, .bool false]) ∧ w' = w := by
  have h : (FloatKind.f64.format.order 9223372036854775808 9223372036854775808 != some Ordering.eq) = false := by decide +kernel
  have h1 : (FloatKind.f64.format.order 9223372036854775808 9218868437227405311 == some Ordering.gt) = false := by decide +kernel
  have h2 : (FloatKind.f64.format.order 9223372036854775808 18442240474082181119 == some Ordering.lt) = false := by decide +kernel
  go_enter Tryz.func37, Tryz.ntmps37
  go_wp2
  go_ret2
  exact ⟨rfl, rfl⟩
theorem named15_calls (w : World) : Calls Tryz.prog 37 #[.float .f64 4609434218613702656] w fun e w' => e = .returned (.tuple #[.string ⟨#[]⟩, .bool false]) ∧ w' = w := by
  have h : (FloatKind.f64.format.order 4609434218613702656 4609434218613702656 != some Ordering.eq) = false := by decide +kernel
  have h1 : (FloatKind.f64.format.order 4609434218613702656 9218868437227405311 == some Ordering.gt) = false := by decide +kernel
  have h2 : (FloatKind.f64.format.order 4609434218613702656 18442240474082181119 == some Ordering.lt) = false := by decide +kernel
  go_enter Tryz.func37, Tryz.ntmps37
  go_wp2
  go_ret2
  exact ⟨rfl, rfl⟩
theorem SFormatZ_calls (w : World) : Calls Tryz.prog 38 #[.float .f64 9223372036854775808, .int .u8 103, .int .i64 (-1), .int .i64 64] w fun e w' => e = .returned (.string (strOfNums [45, 48])) ∧ Below w.heap.size w w' := by
  go_enter Tryz.func38, Tryz.ntmps38
  go_wp2_with fail
  refine (FormatZ2_calls _).mono ?_
  rintro e w2 ⟨rfl, hb⟩
  go_wp2_with fail
  go_ret
  exact ⟨rfl, hb⟩
theorem SFormat15_calls (w : World) (hp : PowTab w) (h15 : Pow15 w) : Calls Tryz.prog 38 #[.float .f64 4609434218613702656, .int .u8 103, .int .i64 (-1), .int .i64 64] w fun e w' => e = .returned (.string (strOfNums [49, 46, 53])) ∧ Below w.heap.size w w' := by
  go_enter Tryz.func38, Tryz.ntmps38
  go_wp2_with fail
  refine (Format15_calls _ hp h15).mono ?_
  rintro e w2 ⟨rfl, hb⟩
  go_wp2_with fail
  go_ret
  exact ⟨rfl, hb⟩
theorem TextNaN_calls (w : World) (b : Nat) (hb : FL.nan b = true) : Calls Tryz.prog 24 #[.float .f64 b] w fun e w' => e = .returned (.string ⟨#[110, 97, 110]⟩) ∧ w' = w := by
  go_enter Tryz.func24, Tryz.ntmps24
  go_wp2_with (first | (go_at_call 37; refine (namedNaN_calls b hb _).mono ?_; rintro e w1 ⟨rfl, hw1⟩; subst hw1))
  go_ret
  exact ⟨rfl, rfl⟩
theorem TextInfP_calls (w : World) : Calls Tryz.prog 24 #[.float .f64 9218868437227405312] w fun e w' => e = .returned (.string ⟨#[105, 110, 102]⟩) ∧ w' = w := by
  go_enter Tryz.func24, Tryz.ntmps24
  go_wp2_with (first | (go_at_call 37; refine (namedInfP_calls _).mono ?_; rintro e w1 ⟨rfl, hw1⟩; subst hw1))
  go_ret
  exact ⟨rfl, rfl⟩
theorem TextInfN_calls (w : World) : Calls Tryz.prog 24 #[.float .f64 18442240474082181120] w fun e w' => e = .returned (.string ⟨#[45, 105, 110, 102]⟩) ∧ w' = w := by
  go_enter Tryz.func24, Tryz.ntmps24
  go_wp2_with (first | (go_at_call 37; refine (namedInfN_calls _).mono ?_; rintro e w1 ⟨rfl, hw1⟩; subst hw1))
  go_ret
  exact ⟨rfl, rfl⟩
theorem TextZ_calls (w : World) : Calls Tryz.prog 24 #[.float .f64 9223372036854775808] w fun e w' => e = .returned (.string (strOfNums [45, 48])) ∧ Below w.heap.size w w' := by
  go_enter Tryz.func24, Tryz.ntmps24
  go_wp2_with (first | (go_at_call 37; refine (namedZ_calls _).mono ?_; rintro e w1 ⟨rfl, hw1⟩; subst hw1))
  refine (SFormatZ_calls _).mono ?_
  rintro e w2 ⟨rfl, hb⟩
  go_wp2_with fail
  go_ret
  exact ⟨rfl, hb⟩
theorem Text15_calls (w : World) (hp : PowTab w) (h15 : Pow15 w) : Calls Tryz.prog 24 #[.float .f64 4609434218613702656] w fun e w' => e = .returned (.string (strOfNums [49, 46, 53])) ∧ Below w.heap.size w w' := by
  go_enter Tryz.func24, Tryz.ntmps24
  go_wp2_with (first | (go_at_call 37; refine (named15_calls _).mono ?_; rintro e w1 ⟨rfl, hw1⟩; subst hw1))
  refine (SFormat15_calls _ hp h15).mono ?_
  rintro e w2 ⟨rfl, hb⟩
  go_wp2_with fail
  go_ret
  exact ⟨rfl, hb⟩
end Go.Proofs.YtaacbjchjdjieaaGreatDoor.P
