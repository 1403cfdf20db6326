/- One function of the given program as a plain Lean function, and the proof that the call comes to its answer; written by a program (mp.py). -/
import Derived.Test.YtpikhloemhbecaaPx0
import Derived.Test.YtpikhloemhbecaaPx1011
import Derived.Test.YtpikhloemhbecaaPx1012
namespace Go.Proofs.Ytpikhloemhbecaa.P
open Go.RowKit Go.Proofs.YtpikhloemhbecaaW.PrintWords Go.Proofs.YtpikhloemhbecaaW.PrintLast Go.Proofs.YtpikhloemhbecaaW.PrintMore
attribute [local go_sem] max2_int min2_int max_two min_two max_three min_three max_four min_four   -- for this text's walks alone
set_option linter.unusedVariables false
set_option linter.unusedSimpArgs false

/-! ### glyphcutterlaw02_UtfOrder: function 10 -/
def glyphcutterlaw02_UtfOrder.j0 : Nat → Int → Int → List Int → List Int → Bool → Option (Bool)
  | 0, _, _, _, _, _ => none
  | k + 1, x5, x6, x7, x8, x26 => if x26 = true then ((glyphcutterlaw02_known.f).bind fun t290 => (some t290)) else ((glyphcutterlaw02_known.f).bind fun t291 => (if t291 = true then (if ((Op.bytesLess ((strOfNums x7).toList) ((strOfNums x8).toList)) == (decide (x5 < x6))) = true then (some (decide ((x7.length : Int) ≤ 4))) else (some false)) else (some false)))
def glyphcutterlaw02_UtfOrder.f (k : Nat) (a0 : Int) (a1 : Int) : Option (Bool) := (utf_Encode.f (wrap64 (Int.tmod a0 1114112))).bind fun t284 => ((utf_Encode.f (wrap64 (Int.tmod a1 1114112))).bind fun t287 => (if (t284.length : Int) = 0 then (glyphcutterlaw02_UtfOrder.j0 k (wrap64 (Int.tmod a0 1114112)) (wrap64 (Int.tmod a1 1114112)) t284 t287 true) else (glyphcutterlaw02_UtfOrder.j0 k (wrap64 (Int.tmod a0 1114112)) (wrap64 (Int.tmod a1 1114112)) t284 t287 ((t287.length : Int) == 0))))
theorem glyphcutterlaw02_UtfOrder.mono_l : ∀ k, (∀ y0 y1 y2 y3 y4, LeO (glyphcutterlaw02_UtfOrder.j0 k y0 y1 y2 y3 y4) (glyphcutterlaw02_UtfOrder.j0 (k + 1) y0 y1 y2 y3 y4))
  | 0 => fun _ _ _ _ _ r h => by simp [glyphcutterlaw02_UtfOrder.j0] at h
  | k + 1 => by
    have ih0 := glyphcutterlaw02_UtfOrder.mono_l k
    · intro y0 y1 y2 y3 y4
      unfold glyphcutterlaw02_UtfOrder.j0
      repeat' first
      | (with_reducible exact ih0 _ _ _ _ _)
      | (with_reducible exact LeO.refl _)
      | (with_reducible exact LeO.none _)
      | (with_reducible refine LeO.ite ?_ ?_)
      | (with_reducible refine LeO.bind ?_ (fun _ => ?_))
      | exact ih0 _ _ _ _ _
      | exact LeO.none _
      | refine LeO.ite ?_ ?_
      | refine LeO.bind ?_ (fun _ => ?_)
theorem glyphcutterlaw02_UtfOrder.mono : ∀ a0 a1 k, LeO (glyphcutterlaw02_UtfOrder.f k a0 a1) (glyphcutterlaw02_UtfOrder.f (k + 1) a0 a1) := by
  intro a0 a1 k
  have ih0 := glyphcutterlaw02_UtfOrder.mono_l k
  unfold glyphcutterlaw02_UtfOrder.f
  repeat' first
      | (with_reducible exact ih0 _ _ _ _ _)
      | (with_reducible exact LeO.refl _)
      | (with_reducible exact LeO.none _)
      | (with_reducible refine LeO.ite ?_ ?_)
      | (with_reducible refine LeO.bind ?_ (fun _ => ?_))
      | exact ih0 _ _ _ _ _
      | exact LeO.none _
      | refine LeO.ite ?_ ?_
      | refine LeO.bind ?_ (fun _ => ?_)
set_option maxHeartbeats 8000000 in
set_option maxRecDepth 100000 in
theorem glyphcutterlaw02_UtfOrder.calls (k : Nat) (a0 : Int) (a1 : Int) (r : Bool) (w : World) (h : glyphcutterlaw02_UtfOrder.f k a0 a1 = some r) :
    Calls Try.prog 10 #[.int .u32 a0, .int .u32 a1] w fun e w' => e = .returned (.bool r) ∧ Below w.heap.size w w' := by
  have HB := Aside0.mk (Below.refl w.heap.size w)
  have H : ((utf_Encode.f (wrap64 (Int.tmod a0 1114112))).bind fun t284 => ((utf_Encode.f (wrap64 (Int.tmod a1 1114112))).bind fun t287 => (if (t284.length : Int) = 0 then (glyphcutterlaw02_UtfOrder.j0 k (wrap64 (Int.tmod a0 1114112)) (wrap64 (Int.tmod a1 1114112)) t284 t287 true) else (glyphcutterlaw02_UtfOrder.j0 k (wrap64 (Int.tmod a0 1114112)) (wrap64 (Int.tmod a1 1114112)) t284 t287 ((t287.length : Int) == 0))))) = some r := h
  clear h
  replace H := Option.bind_eq_some_iff.mp H
  obtain ⟨t284, A30, H⟩ := H
  replace H : ((utf_Encode.f (wrap64 (Int.tmod a1 1114112))).bind fun t287 => (if (t284.length : Int) = 0 then (glyphcutterlaw02_UtfOrder.j0 k (wrap64 (Int.tmod a0 1114112)) (wrap64 (Int.tmod a1 1114112)) t284 t287 true) else (glyphcutterlaw02_UtfOrder.j0 k (wrap64 (Int.tmod a0 1114112)) (wrap64 (Int.tmod a1 1114112)) t284 t287 ((t287.length : Int) == 0)))) = some r := H
  have A3 := Aside0.mk A30
  clear A30
  replace H := Option.bind_eq_some_iff.mp H
  obtain ⟨t287, A40, H⟩ := H
  replace H : (if (t284.length : Int) = 0 then (glyphcutterlaw02_UtfOrder.j0 k (wrap64 (Int.tmod a0 1114112)) (wrap64 (Int.tmod a1 1114112)) t284 t287 true) else (glyphcutterlaw02_UtfOrder.j0 k (wrap64 (Int.tmod a0 1114112)) (wrap64 (Int.tmod a1 1114112)) t284 t287 ((t287.length : Int) == 0))) = some r := H
  have A4 := Aside0.mk A40
  clear A40
  have HC5 := Aside0.mk H
  clear H
  go_enter Try.func10, Try.ntmps10
  go_upto_region 5 with (first | ((with_reducible refine gate_callee (f := 12) rfl ?_); refine goesL_ (some 16) rfl rfl Try.func12 (by kernel_rfl) rfl #[.int .i64 (wrap64 (Int.tmod a0 1114112))] rfl (by (try simp only [List.map_toArray, List.map_cons, List.map_nil]); first | done | rfl | (simp only [List.length_drop, List.length_take]; rfl)) ?_; (with_reducible refine (utf_Encode.calls (wrap64 (Int.tmod a0 1114112)) t284 _ A3.out).mono ?_); rintro e w6 ⟨v285, rfl, ho0, hb⟩; refine ⟨_, rfl, ?_⟩; have n0_ := Aside0.mk (Kd.R_lower ho0 (below_size (by repeat (first | (with_reducible first | exact HB.out | apply below_alloc | apply pw_below_drewN | apply below_drew1) | exact HB.out)))); have n1_ := Aside0.mk (below_step (by repeat (first | (with_reducible first | exact HB.out | apply below_alloc | apply pw_below_drewN | apply below_drew1) | exact HB.out)) hb); clear HB; have HO286 := n0_; have HB := n1_; clear n0_ n1_; (try clear hb); (try clear hb2); (try clear hk); (try clear hi); (try clear ho0)) | ((with_reducible refine gate_callee (f := 12) rfl ?_); refine goesL_ (some 18) rfl rfl Try.func12 (by kernel_rfl) rfl #[.int .i64 (wrap64 (Int.tmod a1 1114112))] rfl (by (try simp only [List.map_toArray, List.map_cons, List.map_nil]); first | done | rfl | (simp only [List.length_drop, List.length_take]; rfl)) ?_; (with_reducible refine (utf_Encode.calls (wrap64 (Int.tmod a1 1114112)) t287 _ A4.out).mono ?_); rintro e w7 ⟨v288, rfl, ho0, hb⟩; refine ⟨_, rfl, ?_⟩; have n0_ := Aside0.mk (Kd.R_elder' (by (with_reducible repeat (first | apply Kd.R_alloc | apply Kd.R_drewN | apply Kd.R_drew)); exact HO286.out) (Kd.R_base ho0) hb); have n1_ := Aside0.mk (Kd.R_lower (Kd.R_new' ho0 (Kd.R_lt (by (with_reducible repeat (first | apply Kd.R_alloc | apply Kd.R_drewN | apply Kd.R_drew)); exact HO286.out))) (below_size (by repeat (first | (with_reducible first | exact HB.out | apply below_alloc | apply pw_below_drewN | apply below_drew1) | exact HB.out)))); have n2_ := Aside0.mk (below_step (by repeat (first | (with_reducible first | exact HB.out | apply below_alloc | apply pw_below_drewN | apply below_drew1) | exact HB.out)) hb); clear HO286; clear HB; have HO286 := n0_; have HO289 := n1_; have HB := n2_; clear n0_ n1_ n2_; (try clear hb); (try clear hb2); (try clear hk); (try clear hi); (try clear ho0)))
  (try simp only [Act.put, List.setIfInBounds_toArray, List.set_cons_zero, List.set_cons_succ])
  go_cut [26] (fun v26 wc => ∃ (kq : Nat) (x26_4 : Bool), v26 = .bool x26_4 ∧ Aside0 (glyphcutterlaw02_UtfOrder.j0 kq (wrap64 (Int.tmod a0 1114112)) (wrap64 (Int.tmod a1 1114112)) t284 t287 x26_4 = some r) ∧ Aside0 (kq ≤ k) ∧ Aside0 (Kd.R (Kd.int .u8) 5 wc w.heap.size (fun k_ => some k_ ≠ (v288 : Value).ownBlock) v285 t284) ∧ Aside0 (Kd.R (Kd.int .u8) 5 wc w.heap.size (fun k_ => some k_ ≠ (v285 : Value).ownBlock) v288 t287) ∧ Aside0 (Below w.heap.size w wc))
  case first =>
    have H := HC5.out
    clear HC5
    by_cases c8 : (t284.length : Int) = 0
    · rw [if_pos c8] at H
      have c8b0 : ((t284.length : Int) == 0) = true := beq_iff_eq.mpr c8
      have c8b1 : ((t284.length : Int) != 0) = false := bne_eq_false_iff_eq.mpr c8
      clear c8
      (first | rw [c8b0] | (simp only [i64_w, i32_w]; rw [c8b0]) | skip)
      have H' := Aside0.mk H
      clear H
      obtain ⟨Ao9, co9, eo9⟩ := Kd.R_slice HO286.out
      subst eo9
      go_wp2
      go_meet
      case rel => exact ⟨_, (true), (by first | rfl | (simp; done) | (simp [*]; done)), H', ⟨by first | omega | exact Nat.le_refl _⟩, ⟨by (with_reducible repeat (first | apply Kd.R_alloc | apply Kd.R_drewN | apply Kd.R_drew)); exact Kd.R_mono HO286.out (fun _ hk => hk.2)⟩, ⟨by (with_reducible repeat (first | apply Kd.R_alloc | apply Kd.R_drewN | apply Kd.R_drew)); exact Kd.R_mono HO289.out (fun _ hk => hk.2)⟩, ⟨by repeat (first | (with_reducible first | exact HB.out | apply below_alloc | apply pw_below_drewN | apply below_drew1) | exact HB.out)⟩⟩
    · rw [if_neg c8] at H
      have c8b0 : ((t284.length : Int) == 0) = false := beq_eq_false_iff_ne.mpr c8
      have c8b1 : ((t284.length : Int) != 0) = true := bne_iff_ne.mpr c8
      have c8b2 : ¬ (t284 = []) := fun h_ => c8 (by rw [h_]; rfl)
      (first | rw [c8b0] | (simp only [i64_w, i32_w]; rw [c8b0]) | skip)
      have H' := Aside0.mk H
      clear H
      obtain ⟨Ao10, co10, eo10⟩ := Kd.R_slice HO286.out
      subst eo10
      obtain ⟨Ao11, co11, eo11⟩ := Kd.R_slice HO289.out
      subst eo11
      go_wp2
      go_meet
      case rel => exact ⟨_, (((t287.length : Int) == 0)), (by first | rfl | (simp; done) | (simp [*]; done)), H', ⟨by first | omega | exact Nat.le_refl _⟩, ⟨by (with_reducible repeat (first | apply Kd.R_alloc | apply Kd.R_drewN | apply Kd.R_drew)); exact Kd.R_mono HO286.out (fun _ hk => hk.2)⟩, ⟨by (with_reducible repeat (first | apply Kd.R_alloc | apply Kd.R_drewN | apply Kd.R_drew)); exact Kd.R_mono HO289.out (fun _ hk => hk.2)⟩, ⟨by repeat (first | (with_reducible first | exact HB.out | apply below_alloc | apply pw_below_drewN | apply below_drew1) | exact HB.out)⟩⟩
  case rest =>
    clear HC5
    try clear c1
    try clear p2
    try clear p6
    try clear c8
    try clear c8b0
    try clear c8b1
    try clear c8b2
    try clear c10
    obtain ⟨kq, x26_4, rfl, HA, HJ4, HO_7, HO_8, HB⟩ := hcut
    cases kq with
    | zero => exact absurd HA.out (by simp [glyphcutterlaw02_UtfOrder.j0])
    | succ kj4 =>
      have H := HA.out
      clear HA
      simp only [glyphcutterlaw02_UtfOrder.j0] at H
      by_cases c12 : x26_4 = true
      · subst c12
        have H1 : ((glyphcutterlaw02_known.f).bind fun t290 => (some t290)) = some r := by rw [if_pos rfl] at H; exact H
        clear H
        have H := H1
        clear H1
        replace H := Option.bind_eq_some_iff.mp H
        obtain ⟨t290, A130, H⟩ := H
        replace H : (some t290) = some r := H
        have A13 := Aside0.mk A130
        clear A130
        obtain rfl := Option.some.inj H
        go_wp2_with (first | ((with_reducible refine gate_callee (f := 11) rfl ?_); refine goesL_ (some 27) rfl rfl Try.func11 (by kernel_rfl) rfl #[] rfl (by (try simp only [List.map_toArray, List.map_cons, List.map_nil]); first | done | rfl | (simp only [List.length_drop, List.length_take]; rfl)) ?_; (with_reducible refine (glyphcutterlaw02_known.calls  t290 _ A13.out).mono ?_); rintro e w14 ⟨rfl, hb⟩; refine ⟨_, rfl, ?_⟩; have n0_ := Aside0.mk (Kd.R_below (by (with_reducible repeat (first | apply Kd.R_alloc | apply Kd.R_drewN | apply Kd.R_drew)); exact HO_7.out) hb); have n1_ := Aside0.mk (Kd.R_below (by (with_reducible repeat (first | apply Kd.R_alloc | apply Kd.R_drewN | apply Kd.R_drew)); exact HO_8.out) hb); have n2_ := Aside0.mk (below_step (by repeat (first | (with_reducible first | exact HB.out | apply below_alloc | apply pw_below_drewN | apply below_drew1) | exact HB.out)) hb); clear HO_7; clear HO_8; clear HB; have HO_7 := n0_; have HO_8 := n1_; have HB := n2_; clear n0_ n1_ n2_; (try clear hb); (try clear hb2); (try clear hk); (try clear hi)))
        go_ret
        exact ⟨by first | rfl | (simp [errW_none, errW_some] <;> rfl) | (simp [*, errW_none, errW_some] <;> rfl), by repeat (first | (with_reducible first | exact HB.out | apply below_alloc | apply pw_below_drewN | apply below_drew1) | exact HB.out)⟩
      · replace c12 := Bool.eq_false_iff.mpr c12
        subst c12
        have H1 : ((glyphcutterlaw02_known.f).bind fun t291 => (if t291 = true then (if ((Op.bytesLess ((strOfNums t284).toList) ((strOfNums t287).toList)) == (decide ((wrap64 (Int.tmod a0 1114112)) < (wrap64 (Int.tmod a1 1114112))))) = true then (some (decide ((t284.length : Int) ≤ 4))) else (some false)) else (some false))) = some r := by rw [if_neg (show ¬ (false = true) by decide)] at H; exact H
        clear H
        have H := H1
        clear H1
        replace H := Option.bind_eq_some_iff.mp H
        obtain ⟨t291, A150, H⟩ := H
        replace H : (if t291 = true then (if ((Op.bytesLess ((strOfNums t284).toList) ((strOfNums t287).toList)) == (decide ((wrap64 (Int.tmod a0 1114112)) < (wrap64 (Int.tmod a1 1114112))))) = true then (some (decide ((t284.length : Int) ≤ 4))) else (some false)) else (some false)) = some r := H
        have A15 := Aside0.mk A150
        clear A150
        by_cases c16 : t291 = true
        · subst c16
          have H1 : (if ((Op.bytesLess ((strOfNums t284).toList) ((strOfNums t287).toList)) == (decide ((wrap64 (Int.tmod a0 1114112)) < (wrap64 (Int.tmod a1 1114112))))) = true then (some (decide ((t284.length : Int) ≤ 4))) else (some false)) = some r := by rw [if_pos rfl] at H; exact H
          clear H
          have H := H1
          clear H1
          by_cases c17 : ((Op.bytesLess ((strOfNums t284).toList) ((strOfNums t287).toList)) == (decide ((wrap64 (Int.tmod a0 1114112)) < (wrap64 (Int.tmod a1 1114112))))) = true
          · rw [if_pos c17] at H
            have c17b0 : ((Op.bytesLess ((strOfNums t284).toList) ((strOfNums t287).toList)) == (decide ((wrap64 (Int.tmod a0 1114112)) < (wrap64 (Int.tmod a1 1114112))))) = true := c17
            (try (have c17b1 : decide ((Op.bytesLess ((strOfNums t284).toList) ((strOfNums t287).toList)) = (decide ((wrap64 (Int.tmod a0 1114112)) < (wrap64 (Int.tmod a1 1114112))))) = true := by simpa using c17))
            (try (have c17b2 : ((Op.bytesLess ((strOfNums t284).toList) ((strOfNums t287).toList)) == (decide ((wrap64 (Int.tmod a0 1114112)) < (wrap64 (Int.tmod a1 1114112))))) = true := by simpa using c17))
            clear c17
            obtain rfl := Option.some.inj H
            go_wp2_with (first | ((with_reducible refine gate_callee (f := 11) rfl ?_); refine goesL_ (some 28) rfl rfl Try.func11 (by kernel_rfl) rfl #[] rfl (by (try simp only [List.map_toArray, List.map_cons, List.map_nil]); first | done | rfl | (simp only [List.length_drop, List.length_take]; rfl)) ?_; (with_reducible refine (glyphcutterlaw02_known.calls  true _ A15.out).mono ?_); rintro e w18 ⟨rfl, hb⟩; refine ⟨_, rfl, ?_⟩; have n0_ := Aside0.mk (Kd.R_below (by (with_reducible repeat (first | apply Kd.R_alloc | apply Kd.R_drewN | apply Kd.R_drew)); exact HO_7.out) hb); have n1_ := Aside0.mk (Kd.R_below (by (with_reducible repeat (first | apply Kd.R_alloc | apply Kd.R_drewN | apply Kd.R_drew)); exact HO_8.out) hb); have n2_ := Aside0.mk (below_step (by repeat (first | (with_reducible first | exact HB.out | apply below_alloc | apply pw_below_drewN | apply below_drew1) | exact HB.out)) hb); clear HO_7; clear HO_8; clear HB; have HO_7 := n0_; have HO_8 := n1_; have HB := n2_; clear n0_ n1_ n2_; (try clear hb); (try clear hb2); (try clear hk); (try clear hi); have hcv19 := own_string (P := Try.prog) Try.underlying23 Try.underlying5 Try.underlying9 (Kd.own_of_R HO_7.out); have hcv20 := own_string (P := Try.prog) Try.underlying23 Try.underlying5 Try.underlying9 (Kd.own_of_R HO_8.out); obtain ⟨Ao21, co21, eo21⟩ := Kd.R_slice HO_7.out; subst eo21))
            go_ret
            exact ⟨by first | rfl | (simp [errW_none, errW_some] <;> rfl) | (simp [*, errW_none, errW_some] <;> rfl), by repeat (first | (with_reducible first | exact HB.out | apply below_alloc | apply pw_below_drewN | apply below_drew1) | exact HB.out)⟩
          · rw [if_neg c17] at H
            have c17b0 : ((Op.bytesLess ((strOfNums t284).toList) ((strOfNums t287).toList)) == (decide ((wrap64 (Int.tmod a0 1114112)) < (wrap64 (Int.tmod a1 1114112))))) = false := by simpa using c17
            (try (have c17b1 : decide ((Op.bytesLess ((strOfNums t284).toList) ((strOfNums t287).toList)) = (decide ((wrap64 (Int.tmod a0 1114112)) < (wrap64 (Int.tmod a1 1114112))))) = false := by simpa using c17))
            (try (have c17b2 : ((Op.bytesLess ((strOfNums t284).toList) ((strOfNums t287).toList)) == (decide ((wrap64 (Int.tmod a0 1114112)) < (wrap64 (Int.tmod a1 1114112))))) = false := by simpa using c17))
            (try (have c17b3 : ¬ ((Op.bytesLess ((strOfNums t284).toList) ((strOfNums t287).toList)) = (decide ((wrap64 (Int.tmod a0 1114112)) < (wrap64 (Int.tmod a1 1114112))))) := by simpa using c17))
            clear c17
            obtain rfl := Option.some.inj H
            go_wp2_with (first | ((with_reducible refine gate_callee (f := 11) rfl ?_); refine goesL_ (some 28) rfl rfl Try.func11 (by kernel_rfl) rfl #[] rfl (by (try simp only [List.map_toArray, List.map_cons, List.map_nil]); first | done | rfl | (simp only [List.length_drop, List.length_take]; rfl)) ?_; (with_reducible refine (glyphcutterlaw02_known.calls  true _ A15.out).mono ?_); rintro e w22 ⟨rfl, hb⟩; refine ⟨_, rfl, ?_⟩; have n0_ := Aside0.mk (Kd.R_below (by (with_reducible repeat (first | apply Kd.R_alloc | apply Kd.R_drewN | apply Kd.R_drew)); exact HO_7.out) hb); have n1_ := Aside0.mk (Kd.R_below (by (with_reducible repeat (first | apply Kd.R_alloc | apply Kd.R_drewN | apply Kd.R_drew)); exact HO_8.out) hb); have n2_ := Aside0.mk (below_step (by repeat (first | (with_reducible first | exact HB.out | apply below_alloc | apply pw_below_drewN | apply below_drew1) | exact HB.out)) hb); clear HO_7; clear HO_8; clear HB; have HO_7 := n0_; have HO_8 := n1_; have HB := n2_; clear n0_ n1_ n2_; (try clear hb); (try clear hb2); (try clear hk); (try clear hi); have hcv23 := own_string (P := Try.prog) Try.underlying23 Try.underlying5 Try.underlying9 (Kd.own_of_R HO_7.out); have hcv24 := own_string (P := Try.prog) Try.underlying23 Try.underlying5 Try.underlying9 (Kd.own_of_R HO_8.out)))
            go_ret
            exact ⟨by first | rfl | (simp [errW_none, errW_some] <;> rfl) | (simp [*, errW_none, errW_some] <;> rfl), by repeat (first | (with_reducible first | exact HB.out | apply below_alloc | apply pw_below_drewN | apply below_drew1) | exact HB.out)⟩
        · replace c16 := Bool.eq_false_iff.mpr c16
          subst c16
          have H1 : (some false) = some r := by rw [if_neg (show ¬ (false = true) by decide)] at H; exact H
          clear H
          have H := H1
          clear H1
          obtain rfl := Option.some.inj H
          go_wp2_with (first | ((with_reducible refine gate_callee (f := 11) rfl ?_); refine goesL_ (some 28) rfl rfl Try.func11 (by kernel_rfl) rfl #[] rfl (by (try simp only [List.map_toArray, List.map_cons, List.map_nil]); first | done | rfl | (simp only [List.length_drop, List.length_take]; rfl)) ?_; (with_reducible refine (glyphcutterlaw02_known.calls  false _ A15.out).mono ?_); rintro e w25 ⟨rfl, hb⟩; refine ⟨_, rfl, ?_⟩; have n0_ := Aside0.mk (Kd.R_below (by (with_reducible repeat (first | apply Kd.R_alloc | apply Kd.R_drewN | apply Kd.R_drew)); exact HO_7.out) hb); have n1_ := Aside0.mk (Kd.R_below (by (with_reducible repeat (first | apply Kd.R_alloc | apply Kd.R_drewN | apply Kd.R_drew)); exact HO_8.out) hb); have n2_ := Aside0.mk (below_step (by repeat (first | (with_reducible first | exact HB.out | apply below_alloc | apply pw_below_drewN | apply below_drew1) | exact HB.out)) hb); clear HO_7; clear HO_8; clear HB; have HO_7 := n0_; have HO_8 := n1_; have HB := n2_; clear n0_ n1_ n2_; (try clear hb); (try clear hb2); (try clear hk); (try clear hi)))
          go_ret
          exact ⟨by first | rfl | (simp [errW_none, errW_some] <;> rfl) | (simp [*, errW_none, errW_some] <;> rfl), by repeat (first | (with_reducible first | exact HB.out | apply below_alloc | apply pw_below_drewN | apply below_drew1) | exact HB.out)⟩

/-- THE ONE PURE STATEMENT of glyphcutterlaw02_UtfOrder: yours. -/
def glyphcutterlaw02_UtfOrder.Pure : Prop := ∀ (a0 : Int) (a1 : Int), (Lit.int .u32 a0).wf = true → (Lit.int .u32 a1).wf = true → ∃ k, glyphcutterlaw02_UtfOrder.f k a0 a1 = some true
theorem glyphcutterlaw02_UtfOrder.walk (P : glyphcutterlaw02_UtfOrder.Pure) (a0 : Int) (a1 : Int) (w : World) (w0 : (Lit.int .u32 a0).wf = true) (w1 : (Lit.int .u32 a1).wf = true) :
    Calls Try.prog 10 #[.int .u32 a0, .int .u32 a1] w fun e w' => e = .returned (.bool true) ∧ Below w.heap.size w w' := by
  obtain ⟨k, h⟩ := P a0 a1 w0 w1
  refine (glyphcutterlaw02_UtfOrder.calls k a0 a1 true w h).mono ?_
  rintro e w' ⟨rfl, hd⟩
  exact ⟨rfl, hd⟩

end Go.Proofs.Ytpikhloemhbecaa.P
