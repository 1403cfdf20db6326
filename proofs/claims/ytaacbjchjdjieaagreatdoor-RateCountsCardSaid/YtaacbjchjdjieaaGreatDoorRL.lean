/- Comparing and ordering: the laws' walks. -/
import Derived.Test.YtaacbjchjdjieaaGreatDoorRK
namespace Go.Proofs.YtaacbjchjdjieaaGreatDoor.P
open Go Go.RowKit Go.Proofs.YtaacbjchjdjieaaGreatDoorW.PrintWords Go.Proofs.YtaacbjchjdjieaaGreatDoorW.PrintLast Go.Proofs.YtaacbjchjdjieaaGreatDoorW.PrintMore
set_option linter.unusedVariables false
set_option linter.unusedSimpArgs false
set_option maxRecDepth 100000
theorem cmpK_cases (a b : Nat) : FL.cmpK a b = -1 ∨ FL.cmpK a b = 0 ∨ FL.cmpK a b = 1 := by
  unfold FL.cmpK
  split
  · exact .inl rfl
  · split
    · exact .inr (.inr rfl)
    · exact .inr (.inl rfl)
theorem compares_of (a b : Int) (c : Int) (hc : c = -1 ∨ c = 0 ∨ c = 1) (ha0 : 0 ≤ a) (ha : a < 18446744073709551616) (hb0 : 0 ≤ b) (hb : b < 18446744073709551616) (h1 : FL.cmpK a.toNat b.toNat = c) (h2 : FL.cmpK b.toNat a.toNat = -c) (w : World) (ho : Opt w) (hp : PowTab w) (h15 : Pow15 w) :
    Calls Tryz.prog 5 #[.int .u64 a, .int .u64 b] w fun e w' => e = .returned (.bool true) ∧ Below w.heap.size w w' := by
  have e1 := frombits
  have hxa : a.toNat < 18446744073709551616 := by omega
  have hxb : b.toNat < 18446744073709551616 := by omega
  have C1 := fun w => (Cmp_calls _ _ hxa hxb w)
  have C2 := fun w => (Cmp_calls _ _ hxb hxa w)
  have C3 := fun w => (RCmp_calls _ _ hxa hxb w)
  have C4 := fun w => (Cmp_calls _ _ hxa hxa w)
  rw [h1] at C1 C3
  rw [h2] at C2
  rw [FL.cmpK_self] at C4
  clear h1 h2
  go_enter Tryz.func5, Tryz.ntmps5
  go_wp2_with fail
  refine (known_calls _ ho hp h15).mono ?_
  rintro e w1 ⟨rfl, hb1⟩
  generalize a.toNat = x at *
  generalize b.toNat = y at *
  go_wp2_with fail
  refine (C1 _).mono ?_
  rintro e w2 ⟨rfl, hw2⟩
  subst hw2
  go_wp2_with fail
  refine (C3 _).mono ?_
  rintro e w3 ⟨rfl, hw3⟩
  subst hw3
  rcases hc with rfl | rfl | rfl
  all_goals
    go_wp2_with fail
    refine (C2 _).mono ?_
    rintro e w4 ⟨rfl, hw4⟩
    subst hw4
    go_wp2_with fail
    refine (C1 _).mono ?_
    rintro e w5 ⟨rfl, hw5⟩
    subst hw5
    go_wp2_with fail
    refine (C4 _).mono ?_
    rintro e w6 ⟨rfl, hw6⟩
    subst hw6
    go_wp2_with fail
    go_ret
    exact ⟨rfl, hb1⟩
theorem compares_calls (a b : Int) (ha0 : 0 ≤ a) (ha : a < 18446744073709551616) (hb0 : 0 ≤ b) (hb : b < 18446744073709551616) (w : World) (ho : Opt w) (hp : PowTab w) (h15 : Pow15 w) :
    Calls Tryz.prog 5 #[.int .u64 a, .int .u64 b] w fun e w' => e = .returned (.bool true) ∧ Below w.heap.size w w' :=
  compares_of a b _ (cmpK_cases _ _) ha0 ha hb0 hb rfl (FL.cmpK_swap _ _) w ho hp h15
theorem orders_calls (a b c : Int) (ha0 : 0 ≤ a) (ha : a < 18446744073709551616) (hb0 : 0 ≤ b) (hb : b < 18446744073709551616) (hc0 : 0 ≤ c) (hc : c < 18446744073709551616) (w : World) (ho : Opt w) (hp : PowTab w) (h15 : Pow15 w) :
    Calls Tryz.prog 6 #[.int .u64 a, .int .u64 b, .int .u64 c] w fun e w' => e = .returned (.bool true) ∧ Below w.heap.size w w' := by
  have e1 := frombits
  have hxa : a.toNat < 18446744073709551616 := by omega
  have hxb : b.toNat < 18446744073709551616 := by omega
  have hxc : c.toNat < 18446744073709551616 := by omega
  have htr := FL.cmpK_trans a.toNat b.toNat c.toNat
  have C1 := fun w => (Cmp_calls _ _ hxa hxb w)
  have C2 := fun w => (Cmp_calls _ _ hxb hxc w)
  have C3 := fun w => (Cmp_calls _ _ hxa hxc w)
  go_enter Tryz.func6, Tryz.ntmps6
  go_wp2_with fail
  generalize a.toNat = x at *
  generalize b.toNat = y at *
  generalize c.toNat = z at *
  refine (C1 _).mono ?_
  rintro e w1 ⟨rfl, hw1⟩
  subst hw1
  by_cases h1 : FL.cmpK x y > 0
  · have h1b := decide_eq_true h1
    go_wp2_with fail
    refine (known_calls _ ho hp h15).mono ?_
    rintro e w2 ⟨rfl, hb2⟩
    go_wp2_with fail
    go_ret
    exact ⟨rfl, hb2⟩
  · have h1b := decide_eq_false h1
    go_wp2_with fail
    refine (C2 _).mono ?_
    rintro e w2 ⟨rfl, hw2⟩
    subst hw2
    by_cases h2 : FL.cmpK y z > 0
    · have h2b := decide_eq_true h2
      go_wp2_with fail
      refine (known_calls _ ho hp h15).mono ?_
      rintro e w3 ⟨rfl, hb3⟩
      go_wp2_with fail
      go_ret
      exact ⟨rfl, hb3⟩
    · have h2b := decide_eq_false h2
      have h3b := decide_eq_true (htr (by omega) (by omega))
      clear htr
      go_wp2_with fail
      refine (known_calls _ ho hp h15).mono ?_
      rintro e w3 ⟨rfl, hb3⟩
      go_wp2_with fail
      refine (C3 _).mono ?_
      rintro e w4 ⟨rfl, hw4⟩
      subst hw4
      go_wp2_with fail
      go_ret
      exact ⟨rfl, hb3⟩
end Go.Proofs.YtaacbjchjdjieaaGreatDoor.P
