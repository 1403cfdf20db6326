/- Part 25 of the proof: T07, S14d, S14e, T09. -/
import Derived.Test.YtfbfeimildkigaaDoorCo24
namespace Go.Proofs.YtfbfeimildkigaaDoor.P
open Go Go.RowKit Go.Proofs.YtfbfeimildkigaaDoorW.PrintWords Go.Proofs.YtfbfeimildkigaaDoorW.PrintLast Go.Proofs.YtfbfeimildkigaaDoorW.PrintMore Go.Proofs.YtfbfeimildkigaaDoor.PX Go.Proofs.YtfbfeimildkigaaDoor.IT
set_option linter.unusedVariables false
set_option linter.unusedSimpArgs false
set_option maxRecDepth 100000
set_option maxHeartbeats 16000000 in
theorem csound_calls (X : Nat → Prop) (vc vn vt : Value) (cl : List Int) (next : List (List Int)) (tags : List Int) (w : World) (hX : ∀ k, X k → k < w.heap.size) (hc : PV kU8 X w vc cl) (hn : PV kRow X w vn next) (ht : PV kInt X w vt tags) (hu : U8s cl) :
    Calls Tryd.prog 15 #[.agg #[vc, vn, vt]] w fun e w' => e = .returned (.bool (decide (TSound cl next tags))) ∧ Below w.heap.size w w' := by
  have H0 := Aside0.mk hc
  have H1 := Aside0.mk hn
  have H2 := Aside0.mk ht
  have HU := Aside0.mk hu
  have m1 := hn.max
  have m2 := ht.max
  obtain ⟨Ac, cc, rfl, _, _⟩ := hc.now
  obtain ⟨An, cn, rfl, _, _⟩ := hn.now
  obtain ⟨At, ct, rfl, _, _⟩ := ht.now
  have HS := Aside0.mk ((Sep.start hX).push_box [.slice Ac cl.length cc, .slice An next.length cn, .slice At tags.length ct] 31)
  obtain ⟨n, hnn, hn256⟩ := many14_le hu
  obtain ⟨q, hq⟩ : ∃ q, q = decide (TSound cl next tags) := ⟨_, rfl⟩
  rw [← hq]
  have HQ := Aside0.mk (show q = true ↔ TSoundN n next tags by rw [hq, decide_eq_true_iff, TSound, hnn]; exact Iff.rfl)
  have HN := Aside0.mk hnn
  clear hc hn ht hX hq hu hnn
  have no : ¬ TSoundN n next tags → q = false := fun h => by
    cases hqq : q
    · rfl
    · exact absurd (HQ.out.1 hqq) h
  have HNO := Aside0.mk no
  clear no
  go_enter Tryd.func15, Tryd.ntmps15
  go_wp2_with fail
  obtain ⟨wa, hwa⟩ : ∃ x, x = w.alloc (.cells #[.slice Ac cl.length cc, .slice An next.length cn, .slice At tags.length ct] 31) := ⟨_, rfl⟩
  rw [← hwa] at HS ⊢
  obtain ⟨g0, hg0⟩ : ∃ g, g = w.heap.size := ⟨_, rfl⟩
  rw [← hg0] at HS ⊢
  clear hwa hg0
  have hs := HS.out.drew
  clear HS; have HS := Aside0.mk hs; clear hs
  refine start_ (n := 9) (S := fun w' => w'.cell? ⟨g0, 0, none⟩ = some (.slice Ac cl.length cc) ∧ w'.cell? ⟨g0, 2, none⟩ = some (.slice At tags.length ct)) (ds := [8]) #[false, false, false, false, false, false, false, false, false] (by kernel_rfl) rfl rfl ⟨((HS.out.box 0 rfl).cell 0 rfl), ((HS.out.box 0 rfl).cell 2 rfl)⟩ (fun hHeld => ?_)
  generalize wa.drew = wd at HS hHeld ⊢
  refine pure_ (i := 0) (N := some 10) (v := ?_) (a' := ?_) #[true, false, false, false, false, false, false, false, false] rfl rfl (by kernel_rfl) (fun _ _ _ h => h) (Or.inl ⟨by rfl, ?_⟩) ?_ ?_
  rotate_left
  · intro w'
    go_simp
    with_reducible rfl
  rotate_left
  · simp only [Act.put, List.setIfInBounds_toArray, List.set_cons_zero, List.set_cons_succ, i64_w, i32_w]
    rfl
  refine pure_ (i := 3) (N := some 13) (v := ?_) (a' := ?_) #[true, false, false, true, false, false, false, false, false] rfl rfl (by kernel_rfl) (fun _ _ _ h => h) (Or.inl ⟨by rfl, ?_⟩) ?_ ?_
  rotate_left
  · intro w'
    go_simp
    with_reducible rfl
  rotate_left
  · simp only [Act.put, List.setIfInBounds_toArray, List.set_cons_zero, List.set_cons_succ, i64_w, i32_w]
    rfl
  refine take_ (i := 1) (N := some 11) (v := ?_) (a' := ?_) #[true, true, false, true, false, false, false, false, false] rfl rfl (by kernel_rfl) (fun _ _ _ h => h) (Or.inl ⟨by rfl, ?_⟩) hHeld ?_ ?_
  rotate_left
  · rintro w' ⟨s0, s1⟩
    go_simp
    with_reducible rfl
  rotate_left
  · simp only [Act.put, List.setIfInBounds_toArray, List.set_cons_zero, List.set_cons_succ, i64_w, i32_w]
    rfl
  refine take_ (i := 4) (N := some 14) (v := ?_) (a' := ?_) #[true, true, false, true, true, false, false, false, false] rfl rfl (by kernel_rfl) (fun _ _ _ h => h) (Or.inl ⟨by rfl, ?_⟩) hHeld ?_ ?_
  rotate_left
  · rintro w' ⟨s0, s1⟩
    go_simp
    with_reducible rfl
  rotate_left
  · simp only [Act.put, List.setIfInBounds_toArray, List.set_cons_zero, List.set_cons_succ, i64_w, i32_w]
    rfl
  refine pure_ (i := 5) (N := some 15) (v := ?_) (a' := ?_) #[true, true, false, true, true, true, false, false, false] rfl rfl (by kernel_rfl) (fun _ _ _ h => h) (Or.inl ⟨by rfl, ?_⟩) ?_ ?_
  rotate_left
  · intro w'
    go_simp
    with_reducible rfl
  rotate_left
  · simp only [Act.put, List.setIfInBounds_toArray, List.set_cons_zero, List.set_cons_succ, i64_w, i32_w]
    rfl
  refine join_ (σ := Nat) 2 #[true, true, true, true, true, true, true, false, false] (fun s => [(12, .int .i64 n), (4, .pointer (some ⟨s, 0, none⟩))]) (fun s w' => PX.Sep X w w' ([.box g0 31 [.slice Ac cl.length cc, .slice An next.length cn, .slice At tags.length ct], .box s 3 [.int .i64 0]] : List PX.Item)) ?_ ?_
  rotate_left
  · intro hCont
    refine two_ (i := 2) (j := 6) (Ni := some 12) (Nj := some 4) #[true, true, true, true, true, true, false, false, false] #[true, true, false, true, true, true, true, false, false] rfl rfl rfl rfl (by kernel_rfl) (by decide) (by decide) (fun K hK => ?_) (fun K hK => ?_)
    · skip
      refine goes_ Tryd.func30 (by kernel_rfl) rfl #[.slice Ac cl.length cc] (by rfl) rfl rfl (by simp only [List.map_toArray, List.map_cons, List.map_nil]; rfl) ?_
      with_reducible refine (clmany_calls _ _ cl _ (HS.out.arg H0.out) HU.out).mono ?_
      rintro e w6 ⟨rfl, hb6⟩
      refine ⟨_, rfl, ?_⟩
      rw [HN.out]
      have hs := HS.out.call hb6
      clear hb6
      clear HS; have HS := Aside0.mk hs; clear hs
      refine hK.out _ _ ⟨((HS.out.box 0 rfl).cell 0 rfl), ((HS.out.box 0 rfl).cell 2 rfl)⟩ (fun hHeld => ?_)
      clear hK K
      refine norm_ (a' := ?_) ?_ ?_
      rotate_left
      · show Act.put _ (some 12) _ = _
        simp only [Act.put, List.setIfInBounds_toArray, List.set_cons_zero, List.set_cons_succ, i64_w, i32_w]
        rfl
      refine one_ (i := 6) (N := some 4) #[true, true, true, true, true, true, true, false, false] rfl rfl (by kernel_rfl) (by decide) (fun K hK => ?_)
      refine value_ (w1 := ?_) (v := ?_) (by rfl) rfl ?_ ?_
      rotate_left 2
      · go_simp
        constructor
        · rfl
        · rfl
      have hs := HS.out.push_box' [.int .i64 0] 3 (w6.heap.size) (by simp)
      clear HS; have HS := Aside0.mk hs; clear hs
      refine hK.out _ _ ⟨((HS.out.box 0 rfl).cell 0 rfl), ((HS.out.box 0 rfl).cell 2 rfl)⟩ (fun hHeld => ?_)
      clear hK K
      refine norm_ (a' := ?_) ?_ ?_
      rotate_left
      · show Act.put _ (some 4) _ = _
        simp only [Act.put, List.setIfInBounds_toArray, List.set_cons_zero, List.set_cons_succ, i64_w, i32_w]
        rfl
      exact norm_ (by simp only [putAll, Act.put, List.setIfInBounds_toArray, List.set_cons_zero, List.set_cons_succ]) (hCont w6.heap.size _ HS.out)
    · skip
      refine value_ (w1 := ?_) (v := ?_) (by rfl) rfl ?_ ?_
      rotate_left 2
      · go_simp
        constructor
        · rfl
        · rfl
      have hs := HS.out.push_box' [.int .i64 0] 3 (wd.heap.size) (by simp)
      clear HS; have HS := Aside0.mk hs; clear hs
      refine hK.out _ _ ⟨((HS.out.box 0 rfl).cell 0 rfl), ((HS.out.box 0 rfl).cell 2 rfl)⟩ (fun hHeld => ?_)
      clear hK K
      refine norm_ (a' := ?_) ?_ ?_
      rotate_left
      · show Act.put _ (some 4) _ = _
        simp only [Act.put, List.setIfInBounds_toArray, List.set_cons_zero, List.set_cons_succ, i64_w, i32_w]
        rfl
      refine one_ (i := 2) (N := some 12) #[true, true, true, true, true, true, true, false, false] rfl rfl (by kernel_rfl) (by decide) (fun K hK => ?_)
      refine goes_ Tryd.func30 (by kernel_rfl) rfl #[.slice Ac cl.length cc] (by rfl) rfl rfl (by simp only [List.map_toArray, List.map_cons, List.map_nil]; rfl) ?_
      with_reducible refine (clmany_calls _ _ cl _ (HS.out.arg H0.out) HU.out).mono ?_
      rintro e w6 ⟨rfl, hb6⟩
      refine ⟨_, rfl, ?_⟩
      rw [HN.out]
      have hs := HS.out.call hb6
      clear hb6
      clear HS; have HS := Aside0.mk hs; clear hs
      refine hK.out _ _ ⟨((HS.out.box 0 rfl).cell 0 rfl), ((HS.out.box 0 rfl).cell 2 rfl)⟩ (fun hHeld => ?_)
      clear hK K
      refine norm_ (a' := ?_) ?_ ?_
      rotate_left
      · show Act.put _ (some 12) _ = _
        simp only [Act.put, List.setIfInBounds_toArray, List.set_cons_zero, List.set_cons_succ, i64_w, i32_w]
        rfl
      exact norm_ (by simp only [putAll, Act.put, List.setIfInBounds_toArray, List.set_cons_zero, List.set_cons_succ]) (hCont wd.heap.size _ HS.out)
  rintro g1 w5 hs
  clear hHeld
  clear HS; have HS := Aside0.mk hs; clear hs
  have fz := (HS.out.box 1 rfl).open_ 0
  have yz := (HS.out.box 1 rfl).cell 0 rfl
  have hHeld : True := trivial
  refine norm_ (a' := ?_) ?_ ?_
  rotate_left
  · simp only [putAll, Act.put, List.setIfInBounds_toArray, List.set_cons_zero, List.set_cons_succ]
    rfl
  refine pure_ (i := 7) (N := some 3) (v := ?_) (a' := ?_) #[true, true, true, true, true, true, true, true, false] rfl rfl (by kernel_rfl) (fun _ _ _ h => h) (Or.inl ⟨by rfl, ?_⟩) ?_ ?_
  rotate_left
  · intro w'
    go_simp
    with_reducible rfl
  rotate_left
  · simp only [Act.put, List.setIfInBounds_toArray, List.set_cons_zero, List.set_cons_succ, i64_w, i32_w]
    rfl
  refine last_ (i := 8) (N := none) #[true, true, true, true, true, true, true, true, true] rfl rfl (by kernel_rfl) (by decide) (fun K hK => ?_)
  refine skip_ (w1 := ?_) (by rfl) rfl ?_ ?_
  rotate_left
  · go_simp
    rfl
  have hs := HS.out.set_box 1 rfl 0 (.int .i64 tags.length)
  clear HS; have HS := Aside0.mk hs; clear hs
  refine hK.out _ _ ?_
  clear hK K
  refine done_ (by kernel_rfl) ?_
  obtain ⟨w6, hw6⟩ : ∃ x, x = w5.setCell ⟨g1, 0, none⟩ (.int .i64 (tags.length : Int)) := ⟨_, rfl⟩
  rw [← hw6] at HS ⊢
  clear hw6 fz yz
  have yk := (HS.out.box 1 rfl).cell 0 rfl
  have y0 := (HS.out.box 0 rfl).cell 1 rfl
  by_cases hh : THead n next tags
  case neg =>
    have q0 : q = false := HNO.out (fun h => hh h.1)
    clear HQ HNO
    subst q0
    unfold THead at hh
    rcases Nat.eq_zero_or_pos n with h0 | h0
    case' inl =>
      have d0 : ((n : Int) == 0) = true := beq_iff_eq.mpr (by omega)
    case' inr =>
      have d0 : ((n : Int) == 0) = false := beq_eq_false_iff_ne.mpr (by omega)
      rcases Nat.lt_or_ge tags.length 1 with h1 | h1
    case' inr.inl =>
      have d1 : ((tags.length : Int) == 0) = true := beq_iff_eq.mpr (by omega)
    case' inr.inr =>
      have d1 : ((tags.length : Int) == 0) = false := beq_eq_false_iff_ne.mpr (by omega)
      rcases Nat.lt_or_ge 40000 tags.length with h2 | h2
    case' inr.inr.inl =>
      have d2 : decide ((tags.length : Int) > 40000) = true := decide_eq_true (by omega)
      have d2' : decide (40000 < tags.length) = true := decide_eq_true h2
    case' inr.inr.inr =>
      have d2 : decide ((tags.length : Int) > 40000) = false := decide_eq_false (by omega)
      have d2' : decide (40000 < tags.length) = false := decide_eq_false (by omega)
      have d3 : ((next.length : Int) == (tags.length : Int)) = false := beq_eq_false_iff_ne.mpr (by omega)
      have d3' : ((next.length : Int) != (tags.length : Int)) = true := bne_iff_ne.mpr (by omega)
    all_goals
      clear hh
      go_wp2_with fail
      go_ret
      exact ⟨rfl, HS.out.below⟩
  case pos =>
    have HH := Aside0.mk hh
    obtain ⟨h0, h1, h2, h3⟩ := hh
    have d0 : ((n : Int) == 0) = false := beq_eq_false_iff_ne.mpr (by omega)
    have d1 : ((tags.length : Int) == 0) = false := beq_eq_false_iff_ne.mpr (by omega)
    have d2 : decide ((tags.length : Int) > 40000) = false := decide_eq_false (by omega)
    have d2' : decide (40000 < tags.length) = false := decide_eq_false (by omega)
    have d3 : ((next.length : Int) == (tags.length : Int)) = true := beq_iff_eq.mpr (by omega)
    have d3' : ((next.length : Int) != (tags.length : Int)) = false := bne_eq_false_iff_eq.mpr (by omega)
    have HL3 := Aside0.mk h3
    clear h0 h1 h2 h3
    go_wp2_with fail
    clear d0 d1 d2 d2' d3 d3' yk y0
    go_loopg [37] next.length (fun m v37 w' => ∃ (i : Nat), v37 = .int .i64 i ∧ Aside0 (i + m = next.length) ∧ Aside0 (∀ i', i' < i → TRow n next tags i') ∧ Aside0 (Sep X w w' ([.box g0 31 [.slice Ac cl.length cc, .slice An next.length cn, .slice At tags.length ct], .box g1 3 [.int .i64 tags.length]] : List PX.Item)))
    case atStart => exact ⟨0, rfl, ⟨by omega⟩, ⟨fun i' h => by omega⟩, HS⟩
    case round =>
      clear HS
      obtain ⟨i, rfl, HJ, HI, HS⟩ := hrel
      cases gk with
      | zero =>
        have e1 : decide ((i : Int) < (next.length : Int)) = false := decide_eq_false (by have := HJ.out; omega)
        have e2 : decide (i < next.length) = false := decide_eq_false (by have := HJ.out; omega)
        have HALL := Aside0.mk (show ∀ i', i' < tags.length → TRow n next tags i' from fun i' h => HI.out i' (by have := HJ.out; have := HL3.out; omega))
        clear HI HJ HNO
        have HFIT := Aside0.mk (show ∀ a, a < n → ∀ row ∈ next, a < row.length ∧ Fits (row.getD a 0) from fun a ha row hrow => by
          obtain ⟨j, hj, e⟩ := List.getElem_of_mem hrow
          have h1 := HALL.out j (by have := HL3.out; omega)
          unfold TRow at h1
          rw [show next.getD j [] = row by rw [List.getD_eq_getElem?_getD, List.getElem?_eq_getElem hj]; exact e] at h1
          have h2 := h1.2.2 a ha
          have h3 := HH.out.2.2.1
          unfold Fits
          omega)
        have HQ2 := Aside0.mk (show q = true ↔ ∀ a, a < n → ∀ b, b < a → keyL next a ≠ keyL next b by
          rw [HQ.out]
          unfold TSoundN
          constructor
          · intro h a ha b hb he
            have h1 := (keyL_iff (fun row hr => (HFIT.out a ha row hr).2) (fun row hr => (HFIT.out b (by omega) row hr).2)).1 he
            rw [h.2.2 a ha b hb] at h1
            cases h1
          · intro h
            refine ⟨HH.out, HALL.out, fun a ha b hb => ?_⟩
            cases hsc : sameCol next a b
            · rfl
            · exact absurd ((keyL_iff (fun row hr => (HFIT.out a ha row hr).2) (fun row hr => (HFIT.out b (by omega) row hr).2)).2 hsc) (h a ha b hb))
        have hmm := run_makeMap (P := Tryd.prog) 61 wr
        have HLN := Aside0.mk (show next.length ≤ 40000 by have := HH.out.2.2.1; have := HL3.out; omega)
        clear HALL HQ HH
        go_wp2_with fail
        have hs := HS.out.push_map Tryd.prog 9 3
        obtain ⟨gm, hgm⟩ : ∃ g, g = wr.heap.size := ⟨_, rfl⟩
        rw [← hgm] at hs ⊢
        clear hgm HS hmm e1 e2
        have HS := Aside0.mk hs
        clear hs
        go_loopg [9, 62] n (fun m v9 v62 w' => ∃ (c : Nat) (D : DataW Unit), v62 = .int .i64 c ∧ Aside0 (c + m = n) ∧ Aside0 (MapD (keyL next) c D) ∧ Aside0 (Sep X w w' ([.box g0 31 [.slice Ac cl.length cc, .slice An next.length cn, .slice At tags.length ct], .box g1 3 [.int .i64 tags.length], .obj gm (MapO Tryd.prog 9 3 c D)] : List PX.Item)))
        case atStart => exact ⟨0, .map [], rfl, ⟨by omega⟩, ⟨MapD.start _⟩, HS⟩
        case round =>
          clear HS
          obtain ⟨c, D, rfl, HC, HD, HS⟩ := hrel
          have y0 := (HS.out.box 0 rfl).cell 1 rfl
          cases gk with
          | zero =>
            have hc : c = n := by have := HC.out; omega
            have e1 : decide ((c : Int) < (n : Int)) = false := decide_eq_false (by omega)
            have e2 : decide (c < n) = false := decide_eq_false (by omega)
            have lm := fun ty => (HS.out.map 2 rfl).len Tryd.underlying61 ty
            have heq := HD.out.eq
            rw [hc] at heq
            obtain ⟨z, hz⟩ : ∃ z, z = Maps.size D := ⟨_, rfl⟩
            rw [← hz] at heq lm
            have HE := Aside0.mk (show q = true ↔ z = n from HQ2.out.trans heq.symm)
            clear hc hz heq HD HQ2
            rcases Nat.decEq z n with h | h
            case' isTrue =>
              have d1 : ((z : Int) == (n : Int)) = true := beq_iff_eq.mpr (by omega)
              have q0 : q = true := HE.out.2 h
            case' isFalse =>
              have d1 : ((z : Int) == (n : Int)) = false := beq_eq_false_iff_ne.mpr (by omega)
              have q0 : q = false := by
                cases hqq : q
                · rfl
                · exact absurd (HE.out.1 hqq) h
            all_goals
              clear h HE
              subst q0
              go_wp2_with fail
              go_ret
              exact ⟨rfl, HS.out.below⟩
          | succ k1 =>
            have hc : c < n := by have := HC.out; omega
            have e1 : decide ((c : Int) < (n : Int)) = true := decide_eq_true (by omega)
            have e2 : decide (c < n) = true := decide_eq_true hc
            have hkey := key_string Tryd.underlying9 next c (by have := HLN.out; omega)
            have HM := Aside0.mk (HD.out.step (keyL_key next c) (.lit (.int .i64 (c : Int))))
            have hcw : (Lit.int .i64 (c : Int)).wf = true := by simp [Lit.wf, IntKind.min, IntKind.max, IntKind.bits, IntKind.signed]; omega
            go_wp2_with (first
              | (go_at_call 27; (with_reducible refine (column_calls _ _ next c _ HS.out.lt (HS.out.arg H1.out) (fun row hr => (HFIT.out c hc row hr).1) (fun row hr => (HFIT.out c hc row hr).2) (by have := HLN.out; omega)).mono ?_); rintro ee w7 ⟨rfl, hb⟩; have hs := HS.out.call hb; clear hb; clear HS; have HS := Aside0.mk hs; clear hs)
              | (at_mapUpdate; refine wpList_mapUpdate_in _ rfl _ _ _ 61 rfl 9 3 (Go.Maps.string_keyed Tryd.underlying9) Tryd.underlying61 (plainElem Tryd.prog 3) gm c D rfl (HS.out.map 2 rfl) (by unfold maxLen; omega) _ _ _ rfl rfl hkey (.lit (.int .i64 (c : Int))) [] (plainElem_int Tryd.underlying3 hcw) ?_; intro w8 hown hturn; have hs := HS.out.set_map 2 rfl hown hturn; clear HS hown hturn; have HS := Aside0.mk hs; clear hs))
            go_roundg k1
            case measure => omega
            case rel => exact ⟨c + 1, _, by go_num, ⟨by have := HC.out; omega⟩, HM, HS⟩
      | succ k1 =>
        have hin : i < next.length := by have := HJ.out; omega
        have hi : i < tags.length := by rw [← HL3.out]; exact hin
        have e1 : decide ((i : Int) < (next.length : Int)) = true := decide_eq_true (by omega)
        have e2 : decide (i < next.length) = true := decide_eq_true hin
        have hi0 : (0 : Int) ≤ (i : Int) := by omega
        have hi1 : (i : Int) < (tags.length : Int) := by omega
        have hi2 : (i : Int) < (next.length : Int) := by omega
        obtain ⟨an, cn', u, en, hu, yn0⟩ := H1.out.row i hin
        cases en
        obtain ⟨at_, ct', et, yt0⟩ := int_cell H2.out i hi
        cases et
        obtain ⟨Au, cu, rfl, _, _⟩ := hu.now
        have HR := Aside0.mk hu
        have y0 := (HS.out.box 0 rfl).cell 1 rfl
        have y1 := (HS.out.box 0 rfl).cell 2 rfl
        have yn := pw_cell_below HS.out.below yn0
        have yt := pw_cell_below HS.out.below yt0
        have HROW := Aside0.mk (Iff.intro (fun (h : TRow n next tags i) => (show (next.getD i []).length = n ∧ -1 ≤ tags.getD i 0 ∧ ∀ j, j < n → -1 ≤ (next.getD i []).getD j 0 ∧ (next.getD i []).getD j 0 < (tags.length : Int) from h)) (fun (h : (next.getD i []).length = n ∧ -1 ≤ tags.getD i 0 ∧ ∀ j, j < n → -1 ≤ (next.getD i []).getD j 0 ∧ (next.getD i []).getD j 0 < (tags.length : Int)) => (show TRow n next tags i from h)))
        have HNR := Aside0.mk (fun (h : ¬ TRow n next tags i) => HNO.out (fun hs => h (hs.2.1 i hi)))
        have HST := Aside0.mk (fun (h : TRow n next tags i) => (show ∀ i', i' < i + 1 → TRow n next tags i' from fun i' h1 => (Nat.lt_or_ge i' i).elim (HI.out i') (fun h2 => by
          have : i' = i := by omega
          rw [this]; exact h)))
        generalize next.getD i [] = row at *
        generalize tags.getD i 0 = tg at *
        clear hu yn0 yt0
        rcases Decidable.em (row.length = n ∧ -1 ≤ tg) with hr | hr
        case inr =>
          have q0 : q = false := HNR.out (fun h => hr ⟨(HROW.out.1 h).1, (HROW.out.1 h).2.1⟩)
          clear HQ HNO HNR HROW HST
          subst q0
          rcases Decidable.em (row.length = n) with h4 | h4
          case' inl =>
            have d4 : ((row.length : Int) == (n : Int)) = true := beq_iff_eq.mpr (by omega)
            have d4' : ((row.length : Int) != (n : Int)) = false := bne_eq_false_iff_eq.mpr (by omega)
            have d5 : decide (tg < -1) = true := decide_eq_true (by omega)
          case' inr =>
            have d4 : ((row.length : Int) == (n : Int)) = false := beq_eq_false_iff_ne.mpr (by omega)
            have d4' : ((row.length : Int) != (n : Int)) = true := bne_iff_ne.mpr (by omega)
          all_goals
            clear hr h4
            go_wp2_with fail
            go_ret
            exact ⟨rfl, HS.out.below⟩
        case inl =>
          obtain ⟨h4, h5⟩ := hr
          have d4 : ((row.length : Int) == (n : Int)) = true := beq_iff_eq.mpr (by omega)
          have d4' : ((row.length : Int) != (n : Int)) = false := bne_eq_false_iff_eq.mpr (by omega)
          have d5 : decide (tg < -1) = false := decide_eq_false (by omega)
          have HAO := Aside0.mk (any_odd tags.length row)
          have HPR := Aside0.mk (odd14_pred tags.length g1 wr (HS.out.box 1 rfl).lt ((HS.out.box 1 rfl).cell 0 rfl))
          have H45 := Aside0.mk (And.intro h4 h5)
          obtain ⟨a, ha⟩ : ∃ a, a = row.any (oddB tags.length) := ⟨_, rfl⟩
          have HA := Aside0.mk ha.symm
          rw [← ha] at HAO
          have eg : ∀ args w, (callFunc 31 args).run Tryd.prog w = .ok (.enter 31 args) w := Go.Proofs.enters_of Tryd.func31 (by kernel_rfl) rfl
          clear h4 h5 ha
          cases a
          case true =>
            have q0 : q = false := HNR.out (fun h => by have := HAO.out.2 (fun j hj => (HROW.out.1 h).2.2 j (by rw [← H45.out.1]; exact hj)); cases this)
            clear HQ HNO HNR HROW HST
            subst q0
            go_wp2_with (first
              | (go_at_call 32; (with_reducible refine (containsFunc_calls _ _ row _ (HS.out.arg HR.out) _ _ eg _ HPR.out).mono ?_); rintro ee w5 ⟨rfl, hb⟩; rw [HA.out]; have hs := HS.out.call hb; clear hb; clear HS; have HS := Aside0.mk hs; clear hs))
            go_ret
            exact ⟨rfl, HS.out.below⟩
          case false =>
            have HT2 := Aside0.mk (HST.out (HROW.out.2 ⟨H45.out.1, H45.out.2, fun j hj => HAO.out.1 rfl j (by rw [H45.out.1]; exact hj)⟩))
            clear HNR HROW HST HI
            go_wp2_with (first
              | (go_at_call 32; (with_reducible refine (containsFunc_calls _ _ row _ (HS.out.arg HR.out) _ _ eg _ HPR.out).mono ?_); rintro ee w5 ⟨rfl, hb⟩; rw [HA.out]; have hs := HS.out.call hb; clear hb; clear HS; have HS := Aside0.mk hs; clear hs))
            go_roundg k1
            case measure => omega
            case rel => exact ⟨i + 1, by go_num, ⟨by have := HJ.out; omega⟩, HT2, HS⟩
end Go.Proofs.YtfbfeimildkigaaDoor.P
namespace Go.Proofs.YtfbfeimildkigaaDoor.P
open Go Go.RowKit Go.Proofs.YtfbfeimildkigaaDoorW.PrintWords Go.Proofs.YtfbfeimildkigaaDoorW.PrintLast Go.Proofs.YtfbfeimildkigaaDoorW.PrintMore Go.Proofs.YtfbfeimildkigaaDoor.PX
set_option linter.unusedVariables false
set_option linter.unusedSimpArgs false
set_option maxRecDepth 100000
def backRow (cl row : List Int) : List Int := (List.range 256).map (fun c => row.getD (cl.getD c 0).toNat 0)
def back14 (cl : List Int) (next : List (List Int)) (tags : List Int) : (List (List Int) × List Int) × Int :=
  if TSound cl next tags then ((next.map (backRow cl), tags), 0) else (([], []), 1)
end Go.Proofs.YtfbfeimildkigaaDoor.P
namespace Go.Proofs.YtfbfeimildkigaaDoor.P
open Go Go.RowKit Go.Proofs.YtfbfeimildkigaaDoorW.PrintWords Go.Proofs.YtfbfeimildkigaaDoorW.PrintLast Go.Proofs.YtfbfeimildkigaaDoorW.PrintMore Go.Proofs.YtfbfeimildkigaaDoor.PX
set_option linter.unusedVariables false
set_option linter.unusedSimpArgs false
set_option maxRecDepth 100000
def long14 (cl : List Int) (next : List (List Int)) (tags s : List Int) : Int × Int :=
  if TSound cl next tags then long13 (next.map (backRow cl)) tags s else (0, -1)
end Go.Proofs.YtfbfeimildkigaaDoor.P
namespace Go.Proofs.YtfbfeimildkigaaDoor.P
open Go Go.RowKit Go.Proofs.YtfbfeimildkigaaDoorW.PrintWords Go.Proofs.YtfbfeimildkigaaDoorW.PrintLast Go.Proofs.YtfbfeimildkigaaDoorW.PrintMore Go.Proofs.YtfbfeimildkigaaDoor.PX
set_option linter.unusedVariables false
set_option linter.unusedSimpArgs false
set_option maxRecDepth 100000
def wkGo (cl : List Int) (next : List (List Int)) (tags : List Int) : List Int → Nat → Nat → Int × Int → Nat × Int × Int
  | [], _, i, p => (i, p)
  | c :: t, a, i, p => if tGo cl next a c.toNat < 0 then (i + 1, p) else
      wkGo cl next tags t (tGo cl next a c.toNat).toNat (i + 1) (if 0 ≤ tags.getD (tGo cl next a c.toNat).toNat 0 then (((i + 1 : Nat) : Int), tags.getD (tGo cl next a c.toNat).toNat 0) else p)
theorem wk_steps (cl : List Int) (next : List (List Int)) (tags : List Int) : ∀ (s : List Int) (a i : Nat) (p : Int × Int), (wkGo cl next tags s a i p).1 = stGo cl next s a i
  | [], a, i, p => rfl
  | c :: t, a, i, p => by
    rw [wkGo, stGo]
    split
    · rfl
    · exact wk_steps cl next tags t _ _ _
theorem back_at {cl : List Int} {next : List (List Int)} {a c : Nat} (ha : a < next.length) (hc : c < 256) : ((next.map (backRow cl)).getD a []).getD c 0 = tGo cl next a c := by
  unfold tGo backRow
  rw [List.getD_eq_getElem?_getD (l := next.map _), List.getElem?_map, List.getElem?_eq_getElem ha, Option.map_some, Option.getD_some, List.getD_eq_getElem?_getD (l := List.map _ _), List.getElem?_map, List.getElem?_range hc, Option.map_some, Option.getD_some, List.getD_eq_getElem?_getD (l := next), List.getElem?_eq_getElem ha, Option.getD_some]
theorem wk_long {cl : List Int} {next : List (List Int)} {tags : List Int} (hl : next.length = tags.length) (ht : ∀ a c, a < tags.length → c < 256 → -1 ≤ tGo cl next a c ∧ tGo cl next a c < (tags.length : Int)) :
    ∀ (s : List Int) (a i : Nat) (p : Int × Int), U8s s → a < tags.length → (wkGo cl next tags s a i p).2 = lgGo (next.map (backRow cl)) tags s a i p
  | [], a, i, p, _, _ => rfl
  | c :: t, a, i, p, hu, ha => by
    have hc := hu c List.mem_cons_self
    have h1 := ht a c.toNat ha (by omega)
    rw [wkGo, lgGo, back_at (by omega) (by omega)]
    split
    · rfl
    · exact wk_long hl ht t _ _ _ (fun x hx => hu x (List.mem_cons_of_mem _ hx)) (by omega)
theorem tsound_go {cl : List Int} {next : List (List Int)} {tags : List Int} {n : Nat} (hcl : cl.length = 256) (hcn : ∀ c ∈ cl, 0 ≤ c ∧ c < (n : Int)) (h : TSoundN n next tags) (a c : Nat) (ha : a < tags.length) (hc : c < 256) : -1 ≤ tGo cl next a c ∧ tGo cl next a c < (tags.length : Int) := by
  have h1 := hcn _ (mem_getD cl 0 c (by omega))
  exact (h.2.1 a ha).2.2 _ (by omega)
theorem back_sound {cl : List Int} {next : List (List Int)} {tags : List Int} (hu : U8s cl) (h : TSound cl next tags) : BSound (next.map (backRow cl)) tags := by
  obtain ⟨n, hn, hn256, hcl, hcn, hso⟩ := tsound_head hu h
  refine ⟨⟨hso.1.2.1, hso.1.2.2.1, by rw [List.length_map]; exact hso.1.2.2.2⟩, fun i hi => ?_⟩
  have hin : i < next.length := by have := hso.1.2.2.2; omega
  refine ⟨?_, (hso.2.1 i hi).2.1, fun j hj => ?_⟩
  · rw [List.getD_eq_getElem?_getD, List.getElem?_map, List.getElem?_eq_getElem hin]; simp [backRow]
  · rw [back_at hin hj]
    exact tsound_go hcl hcn hso i j hi hj
set_option maxHeartbeats 16000000 in
theorem walk_calls (X : Nat → Prop) (vc vn vt vs : Value) (cl : List Int) (next : List (List Int)) (tags s : List Int) (w : World) (hX : ∀ k, X k → k < w.heap.size)
    (hc : PV kU8 X w vc cl) (hn : PV kRow X w vn next) (ht : PV kInt X w vt tags) (hs : PV kU8 X w vs s) (huc : U8s cl) (hu : U8s s) (hso : TSound cl next tags) :
    Calls Tryd.prog 33 #[.agg #[vc, vn, vt], vs] w fun e w' => e = .returned (.tuple #[.int .i64 ((wkGo cl next tags s 0 0 (0, -1)).1 : Int), .int .i64 (wkGo cl next tags s 0 0 (0, -1)).2.1, .int .i64 (wkGo cl next tags s 0 0 (0, -1)).2.2]) ∧ Below w.heap.size w w' := by
  have H0 := Aside0.mk hc
  have H1 := Aside0.mk hn
  have H2 := Aside0.mk ht
  have H3 := Aside0.mk hs
  have HUC := Aside0.mk huc
  have HU := Aside0.mk hu
  have m0 := hc.max
  have m1 := hn.max
  have m2 := ht.max
  have m3 := hs.max
  obtain ⟨Ac, cc, rfl, _, _⟩ := hc.now
  obtain ⟨An, cn, rfl, _, _⟩ := hn.now
  obtain ⟨At, ct, rfl, _, _⟩ := ht.now
  obtain ⟨As, cs, rfl, _, _⟩ := hs.now
  have HS := Aside0.mk ((Sep.start hX).push_box [.slice Ac cl.length cc, .slice An next.length cn, .slice At tags.length ct] 31)
  have HR2 := Aside0.mk (show wkGo cl next tags (s.drop 0) 0 0 (0, -1) = wkGo cl next tags s 0 0 (0, -1) from rfl)
  obtain ⟨r, hr⟩ : ∃ r, r = wkGo cl next tags s 0 0 (0, -1) := ⟨_, rfl⟩
  rw [← hr] at HR2 ⊢
  obtain ⟨n, hn, hn256, hcl, hcn, hso⟩ := tsound_head huc hso
  have HSN := Aside0.mk hso
  have HCN := Aside0.mk hcn
  have HCL := Aside0.mk hcl
  clear hc hn ht hs hu huc hX hr hcl hcn hso
  go_enter Tryd.func33, Tryd.ntmps33
  go_wp2_with fail
  go_step3
  go_wp2_with fail
  go_step3
  go_wp2_with fail
  obtain ⟨g0, hg0⟩ : ∃ g, g = w.heap.size := ⟨_, rfl⟩
  rw [← hg0] at HS ⊢
  clear hg0
  go_loopg [4, 5, 6, 7, 8, 9, 12] s.length (fun m v4 v5 v6 v7 v8 v9 v12 w' => ∃ (i a : Nat) (p : Int × Int), v4 = .int .i64 i ∧ v5 = .int .i64 p.1 ∧ v6 = .int .i64 p.2 ∧ v7 = .int .i64 a ∧ v12 = .int .i64 i ∧ Aside0 (i + m = s.length) ∧ Aside0 (a < tags.length) ∧ Aside0 (wkGo cl next tags (s.drop i) a i p = r) ∧ Aside0 (Sep X w w' [.box g0 31 [.slice Ac cl.length cc, .slice An next.length cn, .slice At tags.length ct]]))
  case atStart => exact ⟨0, 0, (0, -1), rfl, rfl, rfl, rfl, rfl, ⟨by omega⟩, ⟨by have := HSN.out.1.2.1; omega⟩, HR2, HS⟩
  case round =>
    clear HS HR2
    obtain ⟨i, a, ⟨p1, p2⟩, rfl, rfl, rfl, rfl, rfl, HJ, HA, HR, HS⟩ := hrel
    have y0 := (HS.out.box 0 rfl).cell 0 rfl
    have y1 := (HS.out.box 0 rfl).cell 1 rfl
    have y2 := (HS.out.box 0 rfl).cell 2 rfl
    cases gk with
    | zero =>
      have e1 : decide ((i : Int) < (s.length : Int)) = false := decide_eq_false (by have := HJ.out; omega)
      have e2 : decide (i < s.length) = false := decide_eq_false (by have := HJ.out; omega)
      have HE := Aside0.mk (show (i, p1, p2) = r by have h := HR.out; rwa [List.drop_of_length_le (by have := HJ.out; omega), wkGo] at h)
      go_wp2_with fail
      rw [Exit.noGoto_ret]
      go_ret3
      rw [← HE.out]
      exact ⟨rfl, HS.out.below⟩
    | succ k1 =>
      have hi : i < s.length := by have := HJ.out; omega
      have ha : a < next.length := by have := HA.out; have := HSN.out.1.2.2.2; omega
      have e1 : decide ((i : Int) < (s.length : Int)) = true := decide_eq_true (by omega)
      have e2 : decide (i < s.length) = true := decide_eq_true hi
      have hi0 : (0 : Int) ≤ (i : Int) := by omega
      have hi1 : (i : Int) < (s.length : Int) := by omega
      have ha0 : (0 : Int) ≤ (a : Int) := by omega
      have ha1 : (a : Int) < (next.length : Int) := by omega
      obtain ⟨c, hc, hc2⟩ := u8s_at HU.out i hi
      obtain ⟨as_, cs', es, ys0⟩ := u8_cell H3.out i hi
      cases es
      rw [hc] at ys0
      obtain ⟨ac, cc', ec, yc0⟩ := u8_cell H0.out c (by have := HCL.out; omega)
      cases ec
      have hk := HCN.out _ (mem_getD cl 0 c (by have := HCL.out; omega))
      obtain ⟨k, hk2⟩ : ∃ k : Nat, cl.getD c 0 = (k : Int) := ⟨(cl.getD c 0).toNat, by omega⟩
      rw [hk2] at yc0 hk
      have HR3 := HR.out
      rw [drop_at s 0 i hi, hc, wkGo, show ((c : Int).toNat) = c from rfl, tGo, hk2, show ((k : Int).toNat) = k from rfl] at HR3
      obtain ⟨an, cn', u, en, hun, yn0⟩ := H1.out.row a ha
      cases en
      have HBR := (HSN.out.2.1 a HA.out)
      have hl : (next.getD a []).length = n := HBR.1
      have hx := HBR.2.2 k (by omega)
      generalize next.getD a [] = row at *
      obtain ⟨Au, cu, rfl, _, _⟩ := hun.now
      obtain ⟨ar, cr, er, yr0⟩ := int_cell hun k (by omega)
      cases er
      obtain ⟨x, hx0⟩ : ∃ x, x = row.getD k 0 := ⟨_, rfl⟩
      rw [← hx0] at HR3 hx yr0
      have hc0 : (0 : Int) ≤ (c : Int) := by omega
      have hc1 : (c : Int) < (cl.length : Int) := by have := HCL.out; omega
      have hk0 : (0 : Int) ≤ (k : Int) := by omega
      have hk1 : (k : Int) < (row.length : Int) := by omega
      have ys := pw_cell_below HS.out.below ys0
      have yn := pw_cell_below HS.out.below yn0
      have yr := pw_cell_below HS.out.below yr0
      have yc := pw_cell_below HS.out.below yc0
      have HX := Aside0.mk hx
      have HR4 := Aside0.mk HR3
      clear HR3 hx hx0 HBR hun ys0 yn0 yr0 yc0 HR hl hc hk2 hk
      rcases Int.lt_or_le x 0 with h1 | h1
      case inl =>
        obtain rfl : x = -1 := by have := HX.out; omega
        have HE := Aside0.mk (show (i + 1, p1, p2) = r by have h := HR4.out; rwa [if_pos h1] at h)
        go_wp2_with fail
        go_quiet (fail)
        have HS2 := Aside0.mk (HS.out.drewN nq)
        go_wp2_with fail
        rw [Exit.noGoto_ret]
        go_ret3
        rw [← HE.out]
        exact ⟨by go_num, HS2.out.below⟩
      case inr =>
        have d1 : (x == -1) = false := beq_eq_false_iff_ne.mpr (by omega)
        obtain ⟨b, hb⟩ : ∃ b : Nat, x = (b : Int) := ⟨x.toNat, by omega⟩
        subst hb
        have hb : b < tags.length := by have := HX.out; omega
        have hb0 : (0 : Int) ≤ (b : Int) := by omega
        have hb1 : (b : Int) < (tags.length : Int) := by omega
        have HR5 := HR4.out
        rw [if_neg (by omega), show ((b : Int).toNat) = b from rfl] at HR5
        have HB5 := Aside0.mk hb
        obtain ⟨at_, ct', et, yt0⟩ := int_cell H2.out b hb
        cases et
        have yt := pw_cell_below HS.out.below yt0
        clear HR4 yt0
        generalize tags.getD b 0 = tg at *
        rcases Int.lt_or_le tg 0 with h2 | h2
        case inl =>
          have d2 : decide (tg ≥ 0) = false := decide_eq_false (by omega)
          have d3 : decide (0 ≤ tg) = false := decide_eq_false (by omega)
          rw [if_neg (by omega)] at HR5
          have HR6 := Aside0.mk HR5
          clear HR5
          go_wp2_with fail
          go_quiet (fail)
          have HS2 := Aside0.mk (HS.out.drewN nq)
          go_wp2_with fail
          go_roundg k1
          case measure => omega
          case rel => exact ⟨i + 1, b, (p1, p2), by go_num, rfl, rfl, rfl, by go_num, ⟨by have := HJ.out; omega⟩, HB5, HR6, HS2⟩
        case inr =>
          have d2 : decide (tg ≥ 0) = true := decide_eq_true (by omega)
          have d3 : decide (0 ≤ tg) = true := decide_eq_true (by omega)
          rw [if_pos (by omega)] at HR5
          have HR6 := Aside0.mk HR5
          clear HR5
          go_wp2_with fail
          go_quiet (fail)
          have HS2 := Aside0.mk (HS.out.drewN nq)
          go_wp2_with fail
          go_quiet (fail)
          go_wp2_with fail
          go_roundg k1
          case measure => omega
          case rel => exact ⟨i + 1, b, (((i + 1 : Nat) : Int), tg), by go_num, by go_num, rfl, rfl, by go_num, ⟨by have := HJ.out; omega⟩, HB5, HR6, ⟨HS.out.drewN _⟩⟩
theorem tsound_wk {cl : List Int} {next : List (List Int)} {tags s : List Int} (huc : U8s cl) (hu : U8s s) (h : TSound cl next tags) : wkGo cl next tags s 0 0 (0, -1) = (steps14 cl next tags s, long14 cl next tags s) := by
  obtain ⟨n, hn, hn256, hcl, hcn, hso⟩ := tsound_head huc h
  have h1 := wk_steps cl next tags s 0 0 (0, -1)
  have h2 := wk_long hso.1.2.2.2 (tsound_go hcl hcn hso) s 0 0 (0, -1) hu (by have := hso.1.2.1; omega)
  rw [steps14, if_pos h, long14, if_pos h, long13, if_pos (back_sound huc h), ← h1, ← h2]
set_option maxHeartbeats 16000000 in
theorem clong_calls (X : Nat → Prop) (vc vn vt vs : Value) (cl : List Int) (next : List (List Int)) (tags s : List Int) (w : World) (hX : ∀ k, X k → k < w.heap.size)
    (hc : PV kU8 X w vc cl) (hn : PV kRow X w vn next) (ht : PV kInt X w vt tags) (hs : PV kU8 X w vs s) (huc : U8s cl) (hu : U8s s) :
    Calls Tryd.prog 17 #[.agg #[vc, vn, vt], vs] w fun e w' => e = .returned (.tuple #[.int .i64 (long14 cl next tags s).1, .int .i64 (long14 cl next tags s).2]) ∧ Below w.heap.size w w' := by
  have H0 := Aside0.mk hc
  have H1 := Aside0.mk hn
  have H2 := Aside0.mk ht
  have H3 := Aside0.mk hs
  have HUC := Aside0.mk huc
  have HU := Aside0.mk hu
  have m0 := hc.max
  have m1 := hn.max
  have m2 := ht.max
  have m3 := hs.max
  obtain ⟨Ac, cc, rfl, _, _⟩ := hc.now
  obtain ⟨An, cn, rfl, _, _⟩ := hn.now
  obtain ⟨At, ct, rfl, _, _⟩ := ht.now
  obtain ⟨As, cs, rfl, _, _⟩ := hs.now
  have HS := Aside0.mk ((Sep.start hX).push_box [.slice Ac cl.length cc, .slice An next.length cn, .slice At tags.length ct] 31)
  obtain ⟨q, hq⟩ : ∃ q, q = decide (TSound cl next tags) := ⟨_, rfl⟩
  have HQ := Aside0.mk hq.symm
  clear hc hn ht hs hu huc hX hq
  cases q
  case false =>
    have HE := Aside0.mk (show long14 cl next tags s = (0, -1) by rw [long14, if_neg (of_decide_eq_false HQ.out)])
    go_enter Tryd.func17, Tryd.ntmps17
    go_wp2_with (first
      | (go_at_call 15; (with_reducible refine (csound_calls _ _ _ _ cl next tags _ HS.out.lt (HS.out.arg H0.out) (HS.out.arg H1.out) (HS.out.arg H2.out) HUC.out).mono ?_); rintro ee w5 ⟨rfl, hb⟩; rw [HQ.out]; have hs := HS.out.call hb; clear hb; clear HS; have HS := Aside0.mk hs; clear hs))
    go_ret2
    rw [HE.out]
    exact ⟨rfl, HS.out.below⟩
  case true =>
    have HW := Aside0.mk (tsound_wk HUC.out HU.out (of_decide_eq_true HQ.out))
    have y0 := ((HS.out.box 0 rfl).cell 0 rfl)
    go_enter Tryd.func17, Tryd.ntmps17
    go_wp2_with (first
      | (go_at_call 15; (with_reducible refine (csound_calls _ _ _ _ cl next tags _ HS.out.lt (HS.out.arg H0.out) (HS.out.arg H1.out) (HS.out.arg H2.out) HUC.out).mono ?_); rintro ee w5 ⟨rfl, hb⟩; rw [HQ.out]; have hs := HS.out.call hb; clear hb; have z0 := ((hs.box 0 rfl).cell 0 rfl); have z1 := ((hs.box 0 rfl).cell 1 rfl); have z2 := ((hs.box 0 rfl).cell 2 rfl); clear HS; have HS := Aside0.mk hs; clear hs)
      | (go_at_call 33; (with_reducible refine (walk_calls _ _ _ _ _ cl next tags s _ HS.out.lt (HS.out.arg H0.out) (HS.out.arg H1.out) (HS.out.arg H2.out) (HS.out.arg H3.out) HUC.out HU.out (of_decide_eq_true HQ.out)).mono ?_); rintro ee w6 ⟨rfl, hb⟩; rw [HW.out]; have hs := HS.out.call hb; clear hb; clear HS; have HS := Aside0.mk hs; clear hs))
    go_ret2
    exact ⟨rfl, HS.out.below⟩
set_option maxHeartbeats 16000000 in
theorem csteps_calls (X : Nat → Prop) (vc vn vt vs : Value) (cl : List Int) (next : List (List Int)) (tags s : List Int) (w : World) (hX : ∀ k, X k → k < w.heap.size)
    (hc : PV kU8 X w vc cl) (hn : PV kRow X w vn next) (ht : PV kInt X w vt tags) (hs : PV kU8 X w vs s) (huc : U8s cl) (hu : U8s s) :
    Calls Tryd.prog 20 #[.agg #[vc, vn, vt], vs] w fun e w' => e = .returned (.int .i64 (steps14 cl next tags s)) ∧ Below w.heap.size w w' := by
  have H0 := Aside0.mk hc
  have H1 := Aside0.mk hn
  have H2 := Aside0.mk ht
  have H3 := Aside0.mk hs
  have HUC := Aside0.mk huc
  have HU := Aside0.mk hu
  have m0 := hc.max
  have m1 := hn.max
  have m2 := ht.max
  have m3 := hs.max
  obtain ⟨Ac, cc, rfl, _, _⟩ := hc.now
  obtain ⟨An, cn, rfl, _, _⟩ := hn.now
  obtain ⟨At, ct, rfl, _, _⟩ := ht.now
  obtain ⟨As, cs, rfl, _, _⟩ := hs.now
  have HS := Aside0.mk ((Sep.start hX).push_box [.slice Ac cl.length cc, .slice An next.length cn, .slice At tags.length ct] 31)
  obtain ⟨q, hq⟩ : ∃ q, q = decide (TSound cl next tags) := ⟨_, rfl⟩
  have HQ := Aside0.mk hq.symm
  clear hc hn ht hs hu huc hX hq
  cases q
  case false =>
    have HE := Aside0.mk (show steps14 cl next tags s = 0 by rw [steps14, if_neg (of_decide_eq_false HQ.out)])
    go_enter Tryd.func20, Tryd.ntmps20
    go_wp2_with (first
      | (go_at_call 15; (with_reducible refine (csound_calls _ _ _ _ cl next tags _ HS.out.lt (HS.out.arg H0.out) (HS.out.arg H1.out) (HS.out.arg H2.out) HUC.out).mono ?_); rintro ee w5 ⟨rfl, hb⟩; rw [HQ.out]; have hs := HS.out.call hb; clear hb; clear HS; have HS := Aside0.mk hs; clear hs))
    go_ret
    rw [HE.out]
    exact ⟨rfl, HS.out.below⟩
  case true =>
    have HW := Aside0.mk (tsound_wk HUC.out HU.out (of_decide_eq_true HQ.out))
    go_enter Tryd.func20, Tryd.ntmps20
    go_wp2_with (first
      | (go_at_call 15; (with_reducible refine (csound_calls _ _ _ _ cl next tags _ HS.out.lt (HS.out.arg H0.out) (HS.out.arg H1.out) (HS.out.arg H2.out) HUC.out).mono ?_); rintro ee w5 ⟨rfl, hb⟩; rw [HQ.out]; have hs := HS.out.call hb; clear hb; have z0 := ((hs.box 0 rfl).cell 0 rfl); have z1 := ((hs.box 0 rfl).cell 1 rfl); have z2 := ((hs.box 0 rfl).cell 2 rfl); clear HS; have HS := Aside0.mk hs; clear hs)
      | (go_at_call 33; (with_reducible refine (walk_calls _ _ _ _ _ cl next tags s _ HS.out.lt (HS.out.arg H0.out) (HS.out.arg H1.out) (HS.out.arg H2.out) (HS.out.arg H3.out) HUC.out HU.out (of_decide_eq_true HQ.out)).mono ?_); rintro ee w6 ⟨rfl, hb⟩; rw [HW.out]; have hs := HS.out.call hb; clear hb; clear HS; have HS := Aside0.mk hs; clear hs))
    go_ret
    exact ⟨rfl, HS.out.below⟩
end Go.Proofs.YtfbfeimildkigaaDoor.P
