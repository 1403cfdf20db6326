/- One function of the given program as a plain Lean function, and the proof that the call comes to its answer; written by a program (mp.py). -/
import Derived.Test.YtpikhloemhbecaaPx0
import Derived.Test.YtpikhloemhbecaaPx1011
import Derived.Test.YtpikhloemhbecaaPx1012
import Derived.Test.YtpikhloemhbecaaPx1014
import Derived.Test.YtpikhloemhbecaaPx1015
import Derived.Test.YtpikhloemhbecaaRE
namespace Go.Proofs.Ytpikhloemhbecaa.P
open Go.RowKit Go.Proofs.YtpikhloemhbecaaW.PrintWords Go.Proofs.YtpikhloemhbecaaW.PrintLast Go.Proofs.YtpikhloemhbecaaW.PrintMore
attribute [local go_sem] max2_int min2_int max_two min_two max_three min_three max_four min_four   -- for this text's walks alone
set_option linter.unusedVariables false
set_option linter.unusedSimpArgs false

/-! ### glyphcutterlaw02_UtfEncodes: function 4 -/
def glyphcutterlaw02_UtfEncodes.f (a0 a1 : Int) (l2 : List Int) : Option Bool := if 0 ≤ a1 ∧ ∀ x ∈ l2, 0 ≤ x ∧ x ≤ 255 then some true else none
set_option maxHeartbeats 8000000 in
set_option maxRecDepth 100000 in
theorem glyphcutterlaw02_UtfEncodes.calls (r0 c1 : Int) (A2 : Option Addr) (c2 : Nat) (l2 : List Int) (r : Bool) (w : World) (hr2 : Kd.C (Kd.int .u8) w A2 l2.length l2) (hc2 : l2.length ≤ c2) (h : glyphcutterlaw02_UtfEncodes.f r0 c1 l2 = some r) :
    Calls Try.prog 4 #[.int .i64 r0, .int .u32 c1, .slice A2 l2.length c2] w fun e w' => e = .returned (.bool r) ∧ Below w.heap.size w w' := by
  have HR2 := Aside0.mk hr2
  have HC2 := Aside0.mk hc2
  clear hr2 hc2
  unfold glyphcutterlaw02_UtfEncodes.f at h
  by_cases hg : 0 ≤ c1 ∧ ∀ x ∈ l2, 0 ≤ x ∧ x ≤ 255
  · rw [if_pos hg] at h
    obtain rfl := Option.some.inj h
    clear h
    have HG := Aside0.mk (show U8.Bytes l2 from hg.2)
    have h0c := hg.1
    clear hg
    go_enter Try.func4, Try.ntmps4
    by_cases c60 : (1000 : Int) < (l2.length : Int)
    · have hd : decide ((1000 : Int) < (l2.length : Int)) = true := decide_eq_true c60
      go_wp2_with fail
      refine (glyphcutterlaw02_known.calls _ _ rfl).mono ?_
      rintro e w1 ⟨rfl, hb1⟩
      go_wp2_with fail
      go_ret
      exact ⟨rfl, hb1⟩
    · have hd : decide ((1000 : Int) < (l2.length : Int)) = false := decide_eq_false c60
      go_wp2_with fail
      refine (glyphcutterlaw02_known.calls _ _ rfl).mono ?_
      rintro e w1 ⟨rfl, hb1⟩
      have HB1 := Aside0.mk hb1
      clear hb1
      have HN := Aside0.mk (show l2.length ≤ 1000 by omega)
      have m0 : Int.tmod c1 1114112 = c1 % 1114112 := Int.tmod_eq_emod_of_nonneg h0c
      have x0 : 0 ≤ c1 % 1114112 := by omega
      have x1 : c1 % 1114112 ≤ 1114111 := by omega
      generalize c1 % 1114112 = x at m0 x0 x1
      have x2 : wrap64 x = x := U8.wrap_id _ (by omega) (by omega)
      go_wp2_with fail
      refine (utf_Encode.calls x _ _ (U8.encOf_f x)).mono ?_
      rintro e w2 ⟨vb, rfl, hv2, hb2⟩
      have HV2 := Aside0.mk hv2
      have HW2 := Aside0.mk hb2
      clear hv2 hb2
      obtain ⟨Ab, cb, eb⟩ := Kd.R_slice HV2.out
      subst eb
      go_wp2_with fail
      have HCV := Aside0.mk (fun (W : World) (hW : Kd.R (Kd.int .u8) 5 W w1.heap.size (fun _ => True) (.slice Ab (U8.encOf x).length cb) (U8.encOf x)) => Kd.C_string (P := Try.prog) (c := cb) Try.underlying23 Try.underlying5 Try.underlying9 (Kd.R_reads' hW).2.2)
      have HVd := Aside0.mk (Kd.R_drewN HV2.out 1)
      have HWd := Aside0.mk (pw_below_drewN HW2.out 1)
      change Aside0 (Kd.R _ _ w2.drew _ _ _ _) at HVd
      change Aside0 (Below _ _ w2.drew) at HWd
      have hcd := HCV.out _ HVd.out
      have HRX := Aside0.mk ((U8.refenc_eq x).trans (U8.encOf_f x))
      have HRR := Aside0.mk ((U8.refenc_eq r0).trans (U8.encOf_f r0))
      have HER := Aside0.mk (U8.encOf_f r0)
      refine start_ (n := 15) (S := fun w' => (convert 23 9 (.slice Ab (U8.encOf x).length cb)).run Try.prog w' = .ok (.string (strOfNums (U8.encOf x))) w') (ds := []) #[false, false, false, false, false, false, false, false, false, false, false, false, false, false, false] (by kernel_rfl) rfl rfl (hcd) (fun hHeld => ?_)
      generalize w2.drew = wd at hcd HVd HWd hHeld ⊢
      refine pure_ (i := 0) (N := some 25) (v := ?_) (a' := ?_) #[true, false, false, false, false, false, false, false, false, false, false, false, false, false, false] rfl rfl (by kernel_rfl) (fun _ _ _ h => h) (Or.inl ⟨by rfl, ?_⟩) ?_ ?_
      rotate_left
      · intro w'
        go_simp
        with_reducible rfl
      rotate_left
      · simp only [Act.put, List.setIfInBounds_toArray, List.set_cons_zero, List.set_cons_succ, i64_w, i32_w]
        rfl
      refine pure_ (i := 2) (N := some 27) (v := ?_) (a' := ?_) #[true, false, true, false, false, false, false, false, false, false, false, false, false, false, false] rfl rfl (by kernel_rfl) (fun _ _ _ h => h) (Or.inl ⟨by rfl, ?_⟩) ?_ ?_
      rotate_left
      · intro w'
        go_simp
        with_reducible rfl
      rotate_left
      · simp only [Act.put, List.setIfInBounds_toArray, List.set_cons_zero, List.set_cons_succ, i64_w, i32_w]
        rfl
      refine take_ (i := 1) (N := some 26) (v := ?_) (a' := ?_) #[true, true, true, false, false, false, false, false, false, false, false, false, false, false, false] rfl rfl (by kernel_rfl) (fun _ _ _ h => h) (Or.inl ⟨by rfl, ?_⟩) hHeld ?_ ?_
      rotate_left
      · intro w' s0
        go_simp
        with_reducible rfl
      rotate_left
      · simp only [Act.put, List.setIfInBounds_toArray, List.set_cons_zero, List.set_cons_succ, i64_w, i32_w]
        rfl
      refine one_ (i := 3) (N := some 28) #[true, true, true, true, false, false, false, false, false, false, false, false, false, false, false] rfl rfl (by kernel_rfl) (by decide) (fun K hK => ?_)
      refine goes_ Try.func14 (by kernel_rfl) rfl #[.int .i64 x] (by rfl) rfl rfl (by simp only [List.map_toArray, List.map_cons, List.map_nil]; rfl) ?_
      with_reducible refine (glyphcutterref02_Encode.calls 1 x _ _ HRX.out).mono ?_
      rintro e w3 ⟨v3, rfl, ho3, hb3⟩
      refine ⟨_, rfl, ?_⟩
      have HV3 := Aside0.mk (Kd.R_below HVd.out hb3)
      have HW3 := Aside0.mk (below_step HWd.out hb3)
      have hc3 := HCV.out _ HV3.out
      have hs3 := own_string (P := Try.prog) Try.underlying23 Try.underlying5 Try.underlying9 (Kd.own_of_R ho3)
      have HO3 := Aside0.mk ho3
      clear ho3 hb3
      refine hK.out _ _ (hc3) (fun hHeld => ?_)
      clear hK K
      refine norm_ (a' := ?_) ?_ ?_
      rotate_left
      · show Act.put _ (some 28) _ = _
        simp only [Act.put, List.setIfInBounds_toArray, List.set_cons_zero, List.set_cons_succ, i64_w, i32_w]
        rfl
      refine one_ (i := 4) (N := some 29) #[true, true, true, true, true, false, false, false, false, false, false, false, false, false, false] rfl rfl (by kernel_rfl) (by decide) (fun K hK => ?_)
      refine value_ (w1 := ?_) (v := ?_) (by rfl) rfl ?_ ?_
      rotate_left 2
      · go_simp
        constructor
        · rfl
        · rfl
      refine hK.out _ _ (hc3) (fun hHeld => ?_)
      clear hK K
      refine norm_ (a' := ?_) ?_ ?_
      rotate_left
      · show Act.put _ (some 29) _ = _
        simp only [Act.put, List.setIfInBounds_toArray, List.set_cons_zero, List.set_cons_succ, i64_w, i32_w]
        rfl
      refine pure_ (i := 5) (N := some 30) (v := ?_) (a' := ?_) #[true, true, true, true, true, true, false, false, false, false, false, false, false, false, false] rfl rfl (by kernel_rfl) (fun _ _ _ h => h) (Or.inl ⟨by rfl, ?_⟩) ?_ ?_
      rotate_left
      · intro w'
        go_simp
        with_reducible rfl
      rotate_left
      · simp only [Act.put, List.setIfInBounds_toArray, List.set_cons_zero, List.set_cons_succ, i64_w, i32_w]
        rfl
      refine pure_ (i := 6) (N := some 31) (v := ?_) (a' := ?_) #[true, true, true, true, true, true, true, false, false, false, false, false, false, false, false] rfl rfl (by kernel_rfl) (fun _ _ _ h => h) (Or.inl ⟨by rfl, ?_⟩) ?_ ?_
      rotate_left
      · intro w'
        go_simp
        with_reducible rfl
      rotate_left
      · simp only [Act.put, List.setIfInBounds_toArray, List.set_cons_zero, List.set_cons_succ, i64_w, i32_w]
        rfl
      refine pure_ (i := 7) (N := some 32) (v := ?_) (a' := ?_) #[true, true, true, true, true, true, true, true, false, false, false, false, false, false, false] rfl rfl (by kernel_rfl) (fun _ _ _ h => h) (Or.inl ⟨by rfl, ?_⟩) ?_ ?_
      rotate_left
      · intro w'
        go_simp
        with_reducible rfl
      rotate_left
      · simp only [Act.put, List.setIfInBounds_toArray, List.set_cons_zero, List.set_cons_succ, i64_w, i32_w]
        rfl
      refine pure_ (i := 10) (N := some 35) (v := ?_) (a' := ?_) #[true, true, true, true, true, true, true, true, false, false, true, false, false, false, false] rfl rfl (by kernel_rfl) (fun _ _ _ h => h) (Or.inl ⟨by rfl, ?_⟩) ?_ ?_
      rotate_left
      · intro w'
        go_simp
        with_reducible rfl
      rotate_left
      · simp only [Act.put, List.setIfInBounds_toArray, List.set_cons_zero, List.set_cons_succ, i64_w, i32_w]
        rfl
      refine one_ (i := 8) (N := some 33) #[true, true, true, true, true, true, true, true, true, false, true, false, false, false, false] rfl rfl (by kernel_rfl) (by decide) (fun K hK => ?_)
      refine goes_ Try.func12 (by kernel_rfl) rfl #[.int .i64 r0] (by rfl) rfl rfl (by simp only [List.map_toArray, List.map_cons, List.map_nil]; rfl) ?_
      with_reducible refine (utf_Encode.calls r0 _ _ HER.out).mono ?_
      rintro e w8 ⟨v8, rfl, ho8, hb8⟩
      refine ⟨_, rfl, ?_⟩
      have HV8 := Aside0.mk (Kd.R_below HV3.out hb8)
      have HW8 := Aside0.mk (below_step HW3.out hb8)
      have hc8 := HCV.out _ HV8.out
      have hs8 := own_string (P := Try.prog) Try.underlying23 Try.underlying5 Try.underlying9 (Kd.own_of_R ho8)
      have HO8 := Aside0.mk ho8
      clear hb8
      refine hK.out _ _ (hc8) (fun hHeld => ?_)
      clear hK K
      refine norm_ (a' := ?_) ?_ ?_
      rotate_left
      · show Act.put _ (some 33) _ = _
        simp only [Act.put, List.setIfInBounds_toArray, List.set_cons_zero, List.set_cons_succ, i64_w, i32_w]
        rfl
      refine join_ (σ := Value) 2 #[true, true, true, true, true, true, true, true, true, true, true, true, true, false, false] (fun s => [(34, .string (strOfNums (U8.encOf r0))), (36, s), (37, .string (strOfNums (U8.encOf r0)))]) (fun _ w' => ((convert 23 9 (.slice Ab (U8.encOf x).length cb)).run Try.prog w' = .ok (.string (strOfNums (U8.encOf x))) w') ∧ Kd.R (Kd.int .u8) 5 w' w1.heap.size (fun _ => True) (.slice Ab (U8.encOf x).length cb) (U8.encOf x) ∧ Below w1.heap.size w1 w') ?_ ?_
      rotate_left
      · intro hCont
        refine two_ (i := 9) (j := 11) (Ni := some 34) (Nj := some 36) #[true, true, true, true, true, true, true, true, true, true, true, false, false, false, false] #[true, true, true, true, true, true, true, true, true, false, true, true, false, false, false] rfl rfl rfl rfl (by kernel_rfl) (by decide) (by decide) (fun K hK => ?_) (fun K hK => ?_)
        · skip
          refine value_ (w1 := ?_) (v := ?_) (by rfl) rfl ?_ ?_
          rotate_left 2
          · go_simp
            constructor
            · rfl
            · rfl
          refine hK.out _ _ (hc8) (fun hHeld => ?_)
          clear hK K
          refine norm_ (a' := ?_) ?_ ?_
          rotate_left
          · show Act.put _ (some 34) _ = _
            simp only [Act.put, List.setIfInBounds_toArray, List.set_cons_zero, List.set_cons_succ, i64_w, i32_w]
            rfl
          refine one_ (i := 11) (N := some 36) #[true, true, true, true, true, true, true, true, true, true, true, true, false, false, false] rfl rfl (by kernel_rfl) (by decide) (fun K hK => ?_)
          refine goes_ Try.func14 (by kernel_rfl) rfl #[.int .i64 r0] (by rfl) rfl rfl (by simp only [List.map_toArray, List.map_cons, List.map_nil]; rfl) ?_
          with_reducible refine (glyphcutterref02_Encode.calls 1 r0 _ _ HRR.out).mono ?_
          rintro e w11 ⟨v11, rfl, ho11, hb11⟩
          refine ⟨_, rfl, ?_⟩
          have HV11 := Aside0.mk (Kd.R_below HV8.out hb11)
          have HW11 := Aside0.mk (below_step HW8.out hb11)
          have hc11 := HCV.out _ HV11.out
          have hs11 := own_string (P := Try.prog) Try.underlying23 Try.underlying5 Try.underlying9 (Kd.own_of_R ho11)
          have HO11 := Aside0.mk ho11
          refine hK.out _ _ (hc11) (fun hHeld => ?_)
          clear hK K
          refine norm_ (a' := ?_) ?_ ?_
          rotate_left
          · show Act.put _ (some 36) _ = _
            simp only [Act.put, List.setIfInBounds_toArray, List.set_cons_zero, List.set_cons_succ, i64_w, i32_w]
            rfl
          refine one_ (i := 12) (N := some 37) #[true, true, true, true, true, true, true, true, true, true, true, true, true, false, false] rfl rfl (by kernel_rfl) (by decide) (fun K hK => ?_)
          refine value_ (w1 := ?_) (v := ?_) (by rfl) rfl ?_ ?_
          rotate_left 2
          · go_simp
            constructor
            · rfl
            · rfl
          refine hK.out _ _ (hc11) (fun hHeld => ?_)
          clear hK K
          refine norm_ (a' := ?_) ?_ ?_
          rotate_left
          · show Act.put _ (some 37) _ = _
            simp only [Act.put, List.setIfInBounds_toArray, List.set_cons_zero, List.set_cons_succ, i64_w, i32_w]
            rfl
          exact norm_ (by simp only [putAll, Act.put, List.setIfInBounds_toArray, List.set_cons_zero, List.set_cons_succ]) (hCont v11 _ ⟨hc11, HV11.out, HW11.out⟩)
        · skip
          refine goes_ Try.func14 (by kernel_rfl) rfl #[.int .i64 r0] (by rfl) rfl rfl (by simp only [List.map_toArray, List.map_cons, List.map_nil]; rfl) ?_
          with_reducible refine (glyphcutterref02_Encode.calls 1 r0 _ _ HRR.out).mono ?_
          rintro e w11 ⟨v11, rfl, ho11, hb11⟩
          refine ⟨_, rfl, ?_⟩
          have HV11 := Aside0.mk (Kd.R_below HV8.out hb11)
          have HW11 := Aside0.mk (below_step HW8.out hb11)
          have hc11 := HCV.out _ HV11.out
          have hs11 := own_string (P := Try.prog) Try.underlying23 Try.underlying5 Try.underlying9 (Kd.own_of_R ho11)
          have HO11 := Aside0.mk ho11
          refine hK.out _ _ (hc11) (fun hHeld => ?_)
          clear hK K
          refine norm_ (a' := ?_) ?_ ?_
          rotate_left
          · show Act.put _ (some 36) _ = _
            simp only [Act.put, List.setIfInBounds_toArray, List.set_cons_zero, List.set_cons_succ, i64_w, i32_w]
            rfl
          refine two_ (i := 9) (j := 12) (Ni := some 34) (Nj := some 37) #[true, true, true, true, true, true, true, true, true, true, true, true, false, false, false] #[true, true, true, true, true, true, true, true, true, false, true, true, true, false, false] rfl rfl rfl rfl (by kernel_rfl) (by decide) (by decide) (fun K hK => ?_) (fun K hK => ?_)
          · skip
            have hs8' := own_string (P := Try.prog) Try.underlying23 Try.underlying5 Try.underlying9 (Kd.own_of_R (Kd.R_below HO8.out hb11))
            refine value_ (w1 := ?_) (v := ?_) (by rfl) rfl ?_ ?_
            rotate_left 2
            · go_simp
              constructor
              · rfl
              · rfl
            refine hK.out _ _ (hc11) (fun hHeld => ?_)
            clear hK K
            refine norm_ (a' := ?_) ?_ ?_
            rotate_left
            · show Act.put _ (some 34) _ = _
              simp only [Act.put, List.setIfInBounds_toArray, List.set_cons_zero, List.set_cons_succ, i64_w, i32_w]
              rfl
            refine one_ (i := 12) (N := some 37) #[true, true, true, true, true, true, true, true, true, true, true, true, true, false, false] rfl rfl (by kernel_rfl) (by decide) (fun K hK => ?_)
            refine value_ (w1 := ?_) (v := ?_) (by rfl) rfl ?_ ?_
            rotate_left 2
            · go_simp
              constructor
              · rfl
              · rfl
            refine hK.out _ _ (hc11) (fun hHeld => ?_)
            clear hK K
            refine norm_ (a' := ?_) ?_ ?_
            rotate_left
            · show Act.put _ (some 37) _ = _
              simp only [Act.put, List.setIfInBounds_toArray, List.set_cons_zero, List.set_cons_succ, i64_w, i32_w]
              rfl
            exact norm_ (by simp only [putAll, Act.put, List.setIfInBounds_toArray, List.set_cons_zero, List.set_cons_succ]) (hCont v11 _ ⟨hc11, HV11.out, HW11.out⟩)
          · skip
            refine value_ (w1 := ?_) (v := ?_) (by rfl) rfl ?_ ?_
            rotate_left 2
            · go_simp
              constructor
              · rfl
              · rfl
            refine hK.out _ _ (hc11) (fun hHeld => ?_)
            clear hK K
            refine norm_ (a' := ?_) ?_ ?_
            rotate_left
            · show Act.put _ (some 37) _ = _
              simp only [Act.put, List.setIfInBounds_toArray, List.set_cons_zero, List.set_cons_succ, i64_w, i32_w]
              rfl
            refine one_ (i := 9) (N := some 34) #[true, true, true, true, true, true, true, true, true, true, true, true, true, false, false] rfl rfl (by kernel_rfl) (by decide) (fun K hK => ?_)
            have hs8' := own_string (P := Try.prog) Try.underlying23 Try.underlying5 Try.underlying9 (Kd.own_of_R (Kd.R_below HO8.out hb11))
            refine value_ (w1 := ?_) (v := ?_) (by rfl) rfl ?_ ?_
            rotate_left 2
            · go_simp
              constructor
              · rfl
              · rfl
            refine hK.out _ _ (hc11) (fun hHeld => ?_)
            clear hK K
            refine norm_ (a' := ?_) ?_ ?_
            rotate_left
            · show Act.put _ (some 34) _ = _
              simp only [Act.put, List.setIfInBounds_toArray, List.set_cons_zero, List.set_cons_succ, i64_w, i32_w]
              rfl
            exact norm_ (by simp only [putAll, Act.put, List.setIfInBounds_toArray, List.set_cons_zero, List.set_cons_succ]) (hCont v11 _ ⟨hc11, HV11.out, HW11.out⟩)
      rintro s w5 ⟨hHeld, hV5, hW5⟩
      refine norm_ (a' := ?_) ?_ ?_
      rotate_left
      · simp only [putAll, Act.put, List.setIfInBounds_toArray, List.set_cons_zero, List.set_cons_succ]
        rfl
      refine pure_ (i := 13) (N := some 38) (v := ?_) (a' := ?_) #[true, true, true, true, true, true, true, true, true, true, true, true, true, true, false] rfl rfl (by kernel_rfl) (fun _ _ _ h => h) (Or.inl ⟨by rfl, ?_⟩) ?_ ?_
      rotate_left
      · intro w'
        go_simp
        with_reducible rfl
      rotate_left
      · simp only [Act.put, List.setIfInBounds_toArray, List.set_cons_zero, List.set_cons_succ, i64_w, i32_w]
        rfl
      refine pure_ (i := 14) (N := some 39) (v := ?_) (a' := ?_) #[true, true, true, true, true, true, true, true, true, true, true, true, true, true, true] rfl rfl (by kernel_rfl) (fun _ _ _ h => h) (Or.inl ⟨by rfl, ?_⟩) ?_ ?_
      rotate_left
      · intro w'
        go_simp
        with_reducible rfl
      rotate_left
      · simp only [Act.put, List.setIfInBounds_toArray, List.set_cons_zero, List.set_cons_succ, i64_w, i32_w]
        rfl
      refine done_ (by kernel_rfl) ?_

      -- region end
      have HV5 := Aside0.mk hV5
      have HW5 := Aside0.mk hW5
      clear hV5 hW5
      have HLE := Aside0.mk (U8.encOf_len x)
      have HBK := U8.encOf_back x l2 x0 x1
      have HDB := Aside0.mk (U8.decode_eq (U8.encOf x ++ l2) ((U8.encOf_bytes x).append HG.out))
      have hl2 : (U8.encOf x ++ l2).length = (U8.encOf x).length + l2.length := List.length_append
      generalize U8.encOf x = eb at HV5 HLE HBK HDB hl2 ⊢
      go_upto_region 10 with (first
        | ((with_reducible refine gate_builtin (b := .append) (xs := #[.tmp 40, .tmp 41]) rfl ?_); at_builtin; refine Kd.R_append_rows (Kd.int .u8) (w0 := w1) w1.heap.size rfl (.tmp 40) (.tmp 41) 23 5 (.int .u8 0) 1 rfl Try.underlying23 info5 rfl (by decide) (by omega) (.slice none 0 0) [] eb _ _ _ (fun _ => True) (fun _ => False) rfl rfl (Kd.R_nil _ _ _ _ _) ((Kd.R_reads' HV5.out).2.2) (fun _ _ h => h) (fun _ h => h.elim) (fun _ _ => trivial) HW5.out HW5.out.size (by have := HLE.out; simp; try omega) ?_; intro v_ w_ ho hb hg_ hat_; clear hg_ hat_; rw [List.nil_append] at ho; have HT1 := Aside0.mk ho; have HW := Aside0.mk hb; clear ho hb; obtain ⟨At, ct, et⟩ := Kd.R_slice HT1.out; subst et)
        | ((with_reducible refine gate_builtin (b := .append) (xs := #[.tmp 43, .tmp 44]) rfl ?_); at_builtin; refine Kd.R_append_rows (Kd.int .u8) (w0 := w1) w1.heap.size rfl (.tmp 43) (.tmp 44) 23 5 (.int .u8 0) 1 rfl Try.underlying23 info5 rfl (by decide) (by omega) _ eb l2 _ _ _ (fun _ => True) (fun _ => False) rfl rfl HT1.out (Kd.C_below (Kd.C_below HR2.out HB1.out) HW.out) (fun _ _ h => h) (fun _ h => h.elim) (fun _ _ => trivial) HW.out HW.out.size (by have := HLE.out; have := HN.out; simp; try omega) ?_; intro v_ w_ ho hb hg_ hat_; clear hg_ hat_; have HT2 := Aside0.mk ho; clear HW; have HW := Aside0.mk hb; clear ho hb; obtain ⟨Au, cu, eu⟩ := Kd.R_slice HT2.out; subst eu))
      rcases HBK with ⟨z0, z1, z2⟩ | ⟨z0, z1⟩
      · have k0 : (eb.length : Int) = 0 := by omega
        have k1 : decide ((eb.length : Int) = 0) = true := decide_eq_true k0
        have k2 : decide ((55296 : Int) ≤ x) = true := decide_eq_true z1
        have k3 : decide (x ≤ 57343) = true := decide_eq_true z2
        go_wp2_with fail
        go_ret
        exact ⟨rfl, below_step HB1.out HW.out⟩
      · have k0 : (1 : Int) ≤ (eb.length : Int) := by omega
        have k1 : decide ((eb.length : Int) = 0) = false := decide_eq_false (by omega)
        go_wp2_with fail
        rw [← hl2]
        refine (utf_Decode.calls _ _ (eb ++ l2) _ _ _ (Kd.R_reads' HT2.out).2.2 (Kd.R_reads' HT2.out).2.1 (HDB.out.trans (congrArg some z1))).mono ?_
        rintro e w7 ⟨rfl, hb7⟩
        go_wp2_with fail
        go_ret
        exact ⟨rfl, below_step HB1.out (below_step HW.out hb7)⟩
  · rw [if_neg hg] at h
    cases h


/-- THE ONE PURE STATEMENT of glyphcutterlaw02_UtfEncodes: yours. -/
def glyphcutterlaw02_UtfEncodes.Pure : Prop := ∀ (a0 : Int) (a1 : Int) (l2 : List Int), (Lit.int .i64 a0).wf = true → (Lit.int .u32 a1).wf = true → l2.length ≤ maxLen → l2.length * 1 ≤ 140737488351232 → (∀ x ∈ l2, (Lit.int .u8 x).wf = true) → glyphcutterlaw02_UtfEncodes.f a0 a1 l2 = some true
theorem glyphcutterlaw02_UtfEncodes.walk (P : glyphcutterlaw02_UtfEncodes.Pure) (a0 : Int) (a1 : Int) (a2 : Option Addr) (len2 cap2 : Nat) (z2 : List Int) (w : World) (w0 : (Lit.int .i64 a0).wf = true) (w1 : (Lit.int .u32 a1).wf = true) (w2 : (a2 = none ∧ len2 = 0 ∧ cap2 = 0 ∧ z2 = []) ∨ ∃ x, a2 = some x ∧ len2 ≤ cap2 ∧ cap2 ≤ maxLen ∧ z2.length = cap2 ∧ (∀ i, i < z2.length → w.cell? (x.add i) = some (.int .u8 (z2.getD i 0))) ∧ ∀ n ∈ z2, (Lit.int .u8 n).wf = true) (y2 : len2 * 1 ≤ 140737488351232) :
    Calls Try.prog 4 #[.int .i64 a0, .int .u32 a1, .slice a2 len2 cap2] w fun e w' => e = .returned (.bool true) ∧ Below w.heap.size w w' := by
  obtain ⟨l2, rfl, hr2, hm2, hw2, hc2⟩ := ReadsInt.ofRowC w2
  have h := P a0 a1 l2 w0 w1 hm2 y2 hw2
  refine (glyphcutterlaw02_UtfEncodes.calls a0 a1 _ _ l2 true w (Kd.C_of_reads (d := (0 : Int)) (h1 := fun _ => rfl) hr2) hc2 h).mono ?_
  rintro e w' ⟨rfl, hd⟩
  exact ⟨rfl, hd⟩

end Go.Proofs.Ytpikhloemhbecaa.P
