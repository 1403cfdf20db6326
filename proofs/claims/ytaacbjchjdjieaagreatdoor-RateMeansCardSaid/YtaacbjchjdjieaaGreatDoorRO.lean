/- The walk of RateMeans. -/
import Derived.Test.YtaacbjchjdjieaaGreatDoorRN
namespace Go.Proofs.YtaacbjchjdjieaaGreatDoor.P
open Go Go.RowKit Go.Proofs.YtaacbjchjdjieaaGreatDoorW.PrintWords Go.Proofs.YtaacbjchjdjieaaGreatDoorW.PrintLast Go.Proofs.YtaacbjchjdjieaaGreatDoorW.PrintMore
set_option linter.unusedVariables false
set_option linter.unusedSimpArgs false
set_option maxRecDepth 100000
set_option maxHeartbeats 4000000 in
theorem means_calls (n b x y : Int) (hb : b.natAbs < 2 ^ 64) (hx : -128 ≤ x ∧ x ≤ 127) (hy : -128 ≤ y ∧ y ≤ 127) (w : World) (ho : Opt w) (hp : PowTab w) (h15 : Pow15 w) :
    Calls Tryz.prog 4 #[.agg #[.int .i64 n, .int .i64 b], .int .i8 x, .int .i8 y] w fun e w' => e = .returned (.bool true) ∧ Below w.heap.size w w' := by
  have HN := Aside0.mk hb
  have HY : Aside0 (y.natAbs < 2 ^ 64) := ⟨by omega⟩
  clear hb
  go_enter Tryz.func4, Tryz.ntmps4
  go_upto_region 2 with (fail)
  clear hx hy
  generalize wrap64 (x.tmod 4) = m
  have HW0 := Aside0.mk (below_drew (below_alloc (below_alloc (Below.refl w.heap.size w) (.cells #[.int .i64 n, .int .i64 b] 32)) (.cells #[.int .i64 m, .int .i64 y] 32)))
  have hc0_0 : (((w.alloc (.cells #[.int .i64 n, .int .i64 b] 32)).alloc (.cells #[.int .i64 m, .int .i64 y] 32)).drew).cell? ⟨w.heap.size, 0, none⟩ = some (.int .i64 n) := by go_simp
  have hc0_1 : (((w.alloc (.cells #[.int .i64 n, .int .i64 b] 32)).alloc (.cells #[.int .i64 m, .int .i64 y] 32)).drew).cell? ⟨w.heap.size, 1, none⟩ = some (.int .i64 b) := by go_simp
  have hc0_2 : (((w.alloc (.cells #[.int .i64 n, .int .i64 b] 32)).alloc (.cells #[.int .i64 m, .int .i64 y] 32)).drew).cell? ⟨w.heap.size + 1, 0, none⟩ = some (.int .i64 m) := by go_simp
  have hc0_3 : (((w.alloc (.cells #[.int .i64 n, .int .i64 b] 32)).alloc (.cells #[.int .i64 m, .int .i64 y] 32)).drew).cell? ⟨w.heap.size + 1, 1, none⟩ = some (.int .i64 y) := by go_simp
  have HO := Aside0.mk (ho.below HW0.out)
  have HP := Aside0.mk (hp.below HW0.out (World.block_lt_of_cell? _ _ hp.1))
  have H15 := Aside0.mk (h15.below HW0.out (World.block_lt_of_cell? _ _ h15))
  clear ho hp h15
  refine start_ (n := 16) (S := fun w' => w'.cell? ⟨w.heap.size, 0, none⟩ = some (.int .i64 n) ∧ w'.cell? ⟨w.heap.size, 1, none⟩ = some (.int .i64 b) ∧ w'.cell? ⟨w.heap.size + 1, 0, none⟩ = some (.int .i64 m) ∧ w'.cell? ⟨w.heap.size + 1, 1, none⟩ = some (.int .i64 y)) (ds := []) #[false, false, false, false, false, false, false, false, false, false, false, false, false, false, false, false] (by kernel_rfl) rfl rfl ⟨hc0_0, hc0_1, hc0_2, hc0_3⟩ (fun hHeld => ?_)
  generalize ((w.alloc (.cells #[.int .i64 n, .int .i64 b] 32)).alloc (.cells #[.int .i64 m, .int .i64 y] 32)).drew = wd at *
  refine one_ (i := 0) (N := some 14) #[true, false, false, false, false, false, false, false, false, false, false, false, false, false, false, false] rfl rfl (by kernel_rfl) (by decide) (fun K hK => ?_)
  refine goes_ Tryz.func11 (by kernel_rfl) rfl #[] (by rfl) rfl rfl (by simp only [List.map_toArray, List.map_nil]) ?_
  with_reducible refine (known_calls _ HO.out HP.out H15.out).mono ?_
  rintro e w3 ⟨rfl, hb3⟩
  refine ⟨_, rfl, ?_⟩
  have hc1_0 := pw_cell_below hb3 hc0_0
  have hc1_1 := pw_cell_below hb3 hc0_1
  have hc1_2 := pw_cell_below hb3 hc0_2
  have hc1_3 := pw_cell_below hb3 hc0_3
  have HW1 := Aside0.mk (below2 HW0.out hb3)
  clear hb3
  refine hK.out _ _ ⟨hc1_0, hc1_1, hc1_2, hc1_3⟩ (fun hHeld => ?_)
  clear hK K
  refine norm_ (a' := ?_) ?_ ?_
  rotate_left
  · show Act.put _ (some 14) _ = _
    simp only [Act.put, List.setIfInBounds_toArray, List.set_cons_zero, List.set_cons_succ, i64_w, i32_w]
    rfl
  refine pure_ (i := 1) (N := some 15) (v := ?_) (a' := ?_) #[true, true, false, false, false, false, false, false, false, false, false, false, false, false, false, false] rfl rfl (by kernel_rfl) (fun _ _ _ h => h) (Or.inl ⟨by rfl, ?_⟩) ?_ ?_
  rotate_left
  · intro w'
    go_simp
    with_reducible rfl
  rotate_left
  · simp only [Act.put, List.setIfInBounds_toArray, List.set_cons_zero, List.set_cons_succ, i64_w, i32_w]
    rfl
  refine take_ (i := 2) (N := some 16) (v := ?_) (a' := ?_) #[true, true, true, false, false, false, false, false, false, false, false, false, false, false, false, false] rfl rfl (by kernel_rfl) (fun _ _ _ h => h) (Or.inl ⟨by rfl, ?_⟩) hHeld ?_ ?_
  rotate_left
  · rintro w' ⟨s0, s1, s2, s3⟩
    go_simp
    with_reducible rfl
  rotate_left
  · simp only [Act.put, List.setIfInBounds_toArray, List.set_cons_zero, List.set_cons_succ, i64_w, i32_w]
    rfl
  refine take_ (i := 4) (N := some 18) (v := ?_) (a' := ?_) #[true, true, true, false, true, false, false, false, false, false, false, false, false, false, false, false] rfl rfl (by kernel_rfl) (fun _ _ _ h => h) (Or.inl ⟨by rfl, ?_⟩) hHeld ?_ ?_
  rotate_left
  · rintro w' ⟨s0, s1, s2, s3⟩
    go_simp
    with_reducible rfl
  rotate_left
  · simp only [Act.put, List.setIfInBounds_toArray, List.set_cons_zero, List.set_cons_succ, i64_w, i32_w]
    rfl
  refine one_ (i := 3) (N := some 17) #[true, true, true, true, true, false, false, false, false, false, false, false, false, false, false, false] rfl rfl (by kernel_rfl) (by decide) (fun K hK => ?_)
  refine goes_ Tryz.func16 (by kernel_rfl) rfl #[.agg #[.int .i64 n, .int .i64 b]] (by rfl) rfl rfl (by simp only [List.map_toArray, List.map_cons, List.map_nil]; rfl) ?_
  with_reducible refine (Mean_calls n b _).mono ?_
  rintro e w4 ⟨v1, rfl, hq1, hb4⟩
  refine ⟨_, rfl, ?_⟩
  have HQ1 := Aside0.mk hq1
  have hc2_0 := pw_cell_below hb4 hc1_0
  have hc2_1 := pw_cell_below hb4 hc1_1
  have hc2_2 := pw_cell_below hb4 hc1_2
  have hc2_3 := pw_cell_below hb4 hc1_3
  have HW2 := Aside0.mk (below2 HW1.out hb4)
  clear hb4 hq1
  refine hK.out _ _ ⟨hc2_0, hc2_1, hc2_2, hc2_3⟩ (fun hHeld => ?_)
  clear hK K
  refine norm_ (a' := ?_) ?_ ?_
  rotate_left
  · show Act.put _ (some 17) _ = _
    simp only [Act.put, List.setIfInBounds_toArray, List.set_cons_zero, List.set_cons_succ, i64_w, i32_w]
    rfl
  refine one_ (i := 5) (N := some 19) #[true, true, true, true, true, true, false, false, false, false, false, false, false, false, false, false] rfl rfl (by kernel_rfl) (by decide) (fun K hK => ?_)
  refine goes_ Tryz.func17 (by kernel_rfl) rfl #[.agg #[.int .i64 n, .int .i64 b]] (by rfl) rfl rfl (by simp only [List.map_toArray, List.map_cons, List.map_nil]; rfl) ?_
  with_reducible refine (RMean_calls n b HN.out _).mono ?_
  rintro e w5 ⟨u1, rfl, hs1, hb5⟩
  refine ⟨_, rfl, ?_⟩
  have HS1 := Aside0.mk (hs1 _ HQ1.out)
  have hc3_0 := pw_cell_below hb5 hc2_0
  have hc3_1 := pw_cell_below hb5 hc2_1
  have hc3_2 := pw_cell_below hb5 hc2_2
  have hc3_3 := pw_cell_below hb5 hc2_3
  have HW3 := Aside0.mk (below2 HW2.out hb5)
  clear hb5 hs1
  refine hK.out _ _ ⟨hc3_0, hc3_1, hc3_2, hc3_3⟩ (fun hHeld => ?_)
  clear hK K
  refine norm_ (a' := ?_) ?_ ?_
  rotate_left
  · show Act.put _ (some 19) _ = _
    simp only [Act.put, List.setIfInBounds_toArray, List.set_cons_zero, List.set_cons_succ, i64_w, i32_w]
    rfl
  refine one_ (i := 6) (N := some 20) #[true, true, true, true, true, true, true, false, false, false, false, false, false, false, false, false] rfl rfl (by kernel_rfl) (by decide) (fun K hK => ?_)
  refine goes_ Tryz.func15 (by kernel_rfl) rfl #[.float .f64 v1, .float .f64 u1] (by rfl) rfl rfl (by simp only [List.map_toArray, List.map_cons, List.map_nil]; rfl) ?_
  with_reducible refine (Same_true _ _ HS1.out _).mono ?_
  rintro e w6 ⟨rfl, hw6⟩
  refine ⟨_, rfl, ?_⟩
  subst hw6
  have hc4_0 := hc3_0
  have hc4_1 := hc3_1
  have hc4_2 := hc3_2
  have hc4_3 := hc3_3
  have HW4 := HW3
  refine hK.out _ _ ⟨hc4_0, hc4_1, hc4_2, hc4_3⟩ (fun hHeld => ?_)
  clear hK K
  refine norm_ (a' := ?_) ?_ ?_
  rotate_left
  · show Act.put _ (some 20) _ = _
    simp only [Act.put, List.setIfInBounds_toArray, List.set_cons_zero, List.set_cons_succ, i64_w, i32_w]
    rfl
  refine pure_ (i := 7) (N := some 21) (v := ?_) (a' := ?_) #[true, true, true, true, true, true, true, true, false, false, false, false, false, false, false, false] rfl rfl (by kernel_rfl) (fun _ _ _ h => h) (Or.inl ⟨by rfl, ?_⟩) ?_ ?_
  rotate_left
  · intro w'
    go_simp
    with_reducible rfl
  rotate_left
  · simp only [Act.put, List.setIfInBounds_toArray, List.set_cons_zero, List.set_cons_succ, i64_w, i32_w]
    rfl
  refine pure_ (i := 8) (N := some 22) (v := ?_) (a' := ?_) #[true, true, true, true, true, true, true, true, true, false, false, false, false, false, false, false] rfl rfl (by kernel_rfl) (fun _ _ _ h => h) (Or.inl ⟨by rfl, ?_⟩) ?_ ?_
  rotate_left
  · intro w'
    go_simp
    with_reducible rfl
  rotate_left
  · simp only [Act.put, List.setIfInBounds_toArray, List.set_cons_zero, List.set_cons_succ, i64_w, i32_w]
    rfl
  refine take_ (i := 9) (N := some 23) (v := ?_) (a' := ?_) #[true, true, true, true, true, true, true, true, true, true, false, false, false, false, false, false] rfl rfl (by kernel_rfl) (fun _ _ _ h => h) (Or.inl ⟨by rfl, ?_⟩) hHeld ?_ ?_
  rotate_left
  · rintro w' ⟨s0, s1, s2, s3⟩
    go_simp
    with_reducible rfl
  rotate_left
  · simp only [Act.put, List.setIfInBounds_toArray, List.set_cons_zero, List.set_cons_succ, i64_w, i32_w]
    rfl
  refine take_ (i := 11) (N := some 25) (v := ?_) (a' := ?_) #[true, true, true, true, true, true, true, true, true, true, false, true, false, false, false, false] rfl rfl (by kernel_rfl) (fun _ _ _ h => h) (Or.inl ⟨by rfl, ?_⟩) hHeld ?_ ?_
  rotate_left
  · rintro w' ⟨s0, s1, s2, s3⟩
    go_simp
    with_reducible rfl
  rotate_left
  · simp only [Act.put, List.setIfInBounds_toArray, List.set_cons_zero, List.set_cons_succ, i64_w, i32_w]
    rfl
  refine one_ (i := 10) (N := some 24) #[true, true, true, true, true, true, true, true, true, true, true, true, false, false, false, false] rfl rfl (by kernel_rfl) (by decide) (fun K hK => ?_)
  refine goes_ Tryz.func16 (by kernel_rfl) rfl #[.agg #[.int .i64 m, .int .i64 y]] (by rfl) rfl rfl (by simp only [List.map_toArray, List.map_cons, List.map_nil]; rfl) ?_
  with_reducible refine (Mean_calls m y _).mono ?_
  rintro e w7 ⟨v2, rfl, hq2, hb7⟩
  refine ⟨_, rfl, ?_⟩
  have HQ2 := Aside0.mk hq2
  have hc5_0 := pw_cell_below hb7 hc4_0
  have hc5_1 := pw_cell_below hb7 hc4_1
  have hc5_2 := pw_cell_below hb7 hc4_2
  have hc5_3 := pw_cell_below hb7 hc4_3
  have HW5 := Aside0.mk (below2 HW4.out hb7)
  clear hb7 hq2
  refine hK.out _ _ ⟨hc5_0, hc5_1, hc5_2, hc5_3⟩ (fun hHeld => ?_)
  clear hK K
  refine norm_ (a' := ?_) ?_ ?_
  rotate_left
  · show Act.put _ (some 24) _ = _
    simp only [Act.put, List.setIfInBounds_toArray, List.set_cons_zero, List.set_cons_succ, i64_w, i32_w]
    rfl
  refine one_ (i := 12) (N := some 26) #[true, true, true, true, true, true, true, true, true, true, true, true, true, false, false, false] rfl rfl (by kernel_rfl) (by decide) (fun K hK => ?_)
  refine goes_ Tryz.func17 (by kernel_rfl) rfl #[.agg #[.int .i64 m, .int .i64 y]] (by rfl) rfl rfl (by simp only [List.map_toArray, List.map_cons, List.map_nil]; rfl) ?_
  with_reducible refine (RMean_calls m y HY.out _).mono ?_
  rintro e w8 ⟨u2, rfl, hs2, hb8⟩
  refine ⟨_, rfl, ?_⟩
  have HS2 := Aside0.mk (hs2 _ HQ2.out)
  have hc6_0 := pw_cell_below hb8 hc5_0
  have hc6_1 := pw_cell_below hb8 hc5_1
  have hc6_2 := pw_cell_below hb8 hc5_2
  have hc6_3 := pw_cell_below hb8 hc5_3
  have HW6 := Aside0.mk (below2 HW5.out hb8)
  clear hb8 hs2
  refine hK.out _ _ ⟨hc6_0, hc6_1, hc6_2, hc6_3⟩ (fun hHeld => ?_)
  clear hK K
  refine norm_ (a' := ?_) ?_ ?_
  rotate_left
  · show Act.put _ (some 26) _ = _
    simp only [Act.put, List.setIfInBounds_toArray, List.set_cons_zero, List.set_cons_succ, i64_w, i32_w]
    rfl
  refine one_ (i := 13) (N := some 27) #[true, true, true, true, true, true, true, true, true, true, true, true, true, true, false, false] rfl rfl (by kernel_rfl) (by decide) (fun K hK => ?_)
  refine goes_ Tryz.func15 (by kernel_rfl) rfl #[.float .f64 v2, .float .f64 u2] (by rfl) rfl rfl (by simp only [List.map_toArray, List.map_cons, List.map_nil]; rfl) ?_
  with_reducible refine (Same_true _ _ HS2.out _).mono ?_
  rintro e w9 ⟨rfl, hw9⟩
  refine ⟨_, rfl, ?_⟩
  subst hw9
  have hc7_0 := hc6_0
  have hc7_1 := hc6_1
  have hc7_2 := hc6_2
  have hc7_3 := hc6_3
  have HW7 := HW6
  refine hK.out _ _ ⟨hc7_0, hc7_1, hc7_2, hc7_3⟩ (fun hHeld => ?_)
  clear hK K
  refine norm_ (a' := ?_) ?_ ?_
  rotate_left
  · show Act.put _ (some 27) _ = _
    simp only [Act.put, List.setIfInBounds_toArray, List.set_cons_zero, List.set_cons_succ, i64_w, i32_w]
    rfl
  refine pure_ (i := 14) (N := some 28) (v := ?_) (a' := ?_) #[true, true, true, true, true, true, true, true, true, true, true, true, true, true, true, false] rfl rfl (by kernel_rfl) (fun _ _ _ h => h) (Or.inl ⟨by rfl, ?_⟩) ?_ ?_
  rotate_left
  · intro w'
    go_simp
    with_reducible rfl
  rotate_left
  · simp only [Act.put, List.setIfInBounds_toArray, List.set_cons_zero, List.set_cons_succ, i64_w, i32_w]
    rfl
  refine pure_ (i := 15) (N := some 6) (v := ?_) (a' := ?_) #[true, true, true, true, true, true, true, true, true, true, true, true, true, true, true, true] rfl rfl (by kernel_rfl) (fun _ _ _ h => h) (Or.inl ⟨by rfl, ?_⟩) ?_ ?_
  rotate_left
  · intro w'
    go_simp
    with_reducible rfl
  rotate_left
  · simp only [Act.put, List.setIfInBounds_toArray, List.set_cons_zero, List.set_cons_succ, i64_w, i32_w]
    rfl
  refine done_ (by kernel_rfl) ?_

  go_wp2_with fail
  go_ret
  exact ⟨rfl, HW7.out⟩
end Go.Proofs.YtaacbjchjdjieaaGreatDoor.P
