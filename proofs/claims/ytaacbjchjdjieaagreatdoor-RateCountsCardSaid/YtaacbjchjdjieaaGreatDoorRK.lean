/- Means; the same; what is known. -/
import Derived.Test.YtaacbjchjdjieaaGreatDoorFQ
import Derived.Test.YtaacbjchjdjieaaGreatDoorRJ
namespace Go.Proofs.YtaacbjchjdjieaaGreatDoor.P
open Go Go.RowKit Go.Proofs.YtaacbjchjdjieaaGreatDoorW.PrintWords Go.Proofs.YtaacbjchjdjieaaGreatDoorW.PrintLast Go.Proofs.YtaacbjchjdjieaaGreatDoorW.PrintMore
set_option linter.unusedVariables false
set_option linter.unusedSimpArgs false
set_option maxRecDepth 100000
theorem Mean_calls (n b : Int) (w : World) : Calls Tryz.prog 16 #[.agg #[.int .i64 n, .int .i64 b]] w fun e w' => ∃ v, e = .returned (.float .f64 v) ∧ FL.IsQuo (floatOfInt .f64 b) (floatOfInt .f64 n) v ∧ Below w.heap.size w w' := by
  rcases FL.quo_run Tryz.prog (floatOfInt .f64 b) (floatOfInt .f64 n) 35 with ⟨v, hv, hr⟩ | ⟨f, hf, hr⟩
  · go_enter Tryz.func16, Tryz.ntmps16
    go_wp2
    go_ret
    exact ⟨v, rfl, hv, below_alloc (Below.refl _ _) _⟩
  · go_enter Tryz.func16, Tryz.ntmps16
    go_wp2
    go_ret
    exact ⟨_, rfl, hf _, below_drew (below_alloc (Below.refl _ _) _)⟩
theorem Same_calls (a b : Nat) (w : World) : Calls Tryz.prog 15 #[.float .f64 a, .float .f64 b] w fun e w' => e = .returned (.bool ((FL.nan a && FL.nan b) || decide (a = b))) ∧ w' = w := by
  have e2 := bits
  go_enter Tryz.func15, Tryz.ntmps15
  go_wp2_with fail
  refine (isNaN_calls a _).mono ?_
  rintro e w1 ⟨rfl, hw1⟩
  subst hw1
  cases hx : FL.nan a with
  | false =>
    go_wp2
    go_ret
    refine ⟨?_, rfl⟩
    have : ((a : Int) == (b : Int)) = decide (a = b) := by
      by_cases c : a = b
      · subst c; simp
      · rw [decide_eq_false c]; exact beq_eq_false_iff_ne.2 (fun e => c (by omega))
    rw [this, hx]; rfl
  | true =>
    go_wp2_with fail
    refine (isNaN_calls b _).mono ?_
    rintro e w2 ⟨rfl, hw2⟩
    subst hw2
    cases hy : FL.nan b with
    | true =>
      go_wp2
      go_ret
      rw [hx, hy]
      exact ⟨rfl, rfl⟩
    | false =>
      go_wp2
      go_ret
      refine ⟨?_, rfl⟩
      have : ((a : Int) == (b : Int)) = decide (a = b) := by
        by_cases c : a = b
        · subst c; simp
        · rw [decide_eq_false c]; exact beq_eq_false_iff_ne.2 (fun e => c (by omega))
      rw [this, hx, hy]; rfl
theorem Counts3_calls (w : World) : Calls Tryz.prog 13 #[.slice none 0 0, .int .i64 3] w fun e w' => ∃ g, e = .returned (.slice (some g) 3 3) ∧ Below w.heap.size w w' := by
  have hm : ∃ C, ∀ W : World, (Instr.makeSlice 28 (.int .i64 3) (.int .i64 3)).run Tryz.prog W = .ok (.slice (some ⟨W.heap.size, 0, none⟩) 3 3) (W.alloc (.cells C 32)) := by
    obtain ⟨i0, hi, hzz⟩ := Option.map_eq_some_iff.1 info32
    simp only [Prod.mk.injEq] at hzz
    obtain ⟨hz0, hz1, hz2⟩ := hzz
    exact ⟨_, fun W => run_make (P := Tryz.prog) W 28 32 i0 _ Tryz.underlying28 hi hz0 .i64 .i64 3 3 (by omega) (by omega) (by rw [hz2]; omega) (by omega)⟩
  obtain ⟨C, hm⟩ := hm
  go_enter Tryz.func13, Tryz.ntmps13
  go_wp2
  go_loopg [19] 0 (fun m v19 w' => v19 = .int .i64 0 ∧ w' = (w.alloc (.cells C 32)))
  case atStart => exact ⟨rfl, rfl⟩
  case round =>
    obtain ⟨rfl, rfl⟩ := hrel
    go_wp2
    go_ret
    exact ⟨_, rfl, below_alloc (Below.refl _ _) _⟩
theorem CopysignZ_calls (w : World) : Calls Tryz.prog 31 #[.float .f64 0, .float .f64 13830554455654793216] w fun e w' => e = .returned (.float .f64 9223372036854775808) ∧ w' = w := by
  have h := and_sign 13830554455654793216 (by decide)
  rw [if_pos (by decide)] at h
  have h2 : Go.bits .andNot .u64 0 9223372036854775808 = 0 := by decide +kernel
  have h3 : Go.bits .or .u64 0 9223372036854775808 = 9223372036854775808 := by decide +kernel
  go_enter Tryz.func31, Tryz.ntmps31
  have e1 := frombits
  have e2 := bits
  go_wp2
  go_ret
  exact ⟨rfl, rfl⟩
theorem SignbitZ_calls (w : World) : Calls Tryz.prog 32 #[.float .f64 9223372036854775808] w fun e w' => e = .returned (.bool true) ∧ w' = w := (Signbit_calls _ (by decide) w).mono (by
  rintro e w' ⟨rfl, rfl⟩
  exact ⟨rfl, rfl⟩)
theorem cmp_nan_inf (v : Nat) (h : FL.nan v = true) : FL.cmpK v 18442240474082181120 = -1 := by
  have := FL.key_nan v 18442240474082181120 h (by decide +kernel)
  unfold FL.cmpK
  rw [if_pos this]
theorem Opt.below {w w' : World} (h : Opt w) (hb : Below w.heap.size w w') : Opt w' := (hb.cell (World.block_lt_of_cell? w _ h)).trans h
theorem below2 {w w1 w2 : World} (h : Below w.heap.size w w1) (k : Below w1.heap.size w1 w2) : Below w.heap.size w w2 := below_then h h.size k
theorem onePointFive : strOfNums [49, 46, 53] = (⟨#[49, 46, 53]⟩ : ByteArray) := by kernel_rfl
set_option maxHeartbeats 4000000 in
theorem known_calls (w : World) (ho : Opt w) (hp : PowTab w) (h15 : Pow15 w) : Calls Tryz.prog 11 #[] w fun e w' => e = .returned (.bool true) ∧ Below w.heap.size w w' := by
  go_enter Tryz.func11, Tryz.ntmps11
  go_wp2_with fail
  refine (Mean_calls _ _ _).mono ?_
  rintro e w1 ⟨v, rfl, hv, hb1⟩
  obtain ⟨hn, hlt⟩ : FL.nan v = true ∧ v < 18446744073709551616 := by
    rcases hv with h | ⟨_, h, hl⟩
    · rw [FL.div_nought] at h; cases h
    · exact ⟨h, hl⟩
  go_wp2_with fail
  refine (Read_calls _ (ho.below hb1)).mono ?_
  rintro e w2 ⟨rfl, hb2⟩
  have hc2 := below2 hb1 hb2
  go_wp2_with fail
  refine (isNaN_calls v _).mono ?_
  rintro e w3 ⟨rfl, hw3⟩
  subst hw3
  rw [hn]
  go_wp2_with fail
  refine (InfN_calls _).mono ?_
  rintro e w4 ⟨rfl, hw4⟩
  subst hw4
  go_wp2_with fail
  refine (Cmp_calls v _ hlt (by decide) _).mono ?_
  rintro e w5 ⟨rfl, hw5⟩
  subst hw5
  rw [cmp_nan_inf v hn]
  go_wp2_with fail
  refine (Text15_calls _ (hp.below hc2 (World.block_lt_of_cell? _ _ hp.1)) (h15.below hc2 (World.block_lt_of_cell? _ _ h15))).mono ?_
  rintro e w6 ⟨rfl, hb6⟩
  have hc6 := below2 hc2 hb6
  rw [onePointFive]
  have x4 : ((⟨#[49, 46, 53]⟩ : ByteArray).toList == (⟨#[49, 46, 53]⟩ : ByteArray).toList) = true := by decide +kernel
  go_wp2_with fail
  refine (CopysignZ_calls _).mono ?_
  rintro e w7 ⟨rfl, hw7⟩
  subst hw7
  go_wp2_with fail
  refine (TextZ_calls _).mono ?_
  rintro e w8 ⟨rfl, hb8⟩
  have hc8 := below2 hc6 hb8
  rw [dashZero]
  have x5 : ((⟨#[45, 48]⟩ : ByteArray).toList == (⟨#[45, 48]⟩ : ByteArray).toList) = true := by decide +kernel
  go_wp2_with fail
  with_reducible refine (SignbitZ_calls _).mono ?_
  rintro e w9 ⟨rfl, hw9⟩
  subst hw9
  go_wp2_with fail
  refine (Counts3_calls _).mono ?_
  rintro e w10 ⟨g, rfl, hb10⟩
  have hc10 := below2 hc8 hb10
  go_wp2_with fail
  go_ret
  exact ⟨rfl, hc10⟩
end Go.Proofs.YtaacbjchjdjieaaGreatDoor.P
