/- Part 25 of the proof: T07, S14d, S14e. -/
import Derived.Test.YtfbfeimildkigaaDoorCb24
namespace Go.Proofs.YtfbfeimildkigaaDoor.P
open Go Go.RowKit Go.Proofs.YtfbfeimildkigaaDoorW.PrintWords Go.Proofs.YtfbfeimildkigaaDoorW.PrintLast Go.Proofs.YtfbfeimildkigaaDoorW.PrintMore Go.Proofs.YtfbfeimildkigaaDoor.PX Go.Proofs.YtfbfeimildkigaaDoor.IT
set_option linter.unusedVariables false
set_option linter.unusedSimpArgs false
set_option maxRecDepth 100000
set_option maxHeartbeats 16000000 in
theorem csound_calls (X : Nat → Prop) (vc vn vt : Value) (cl : List Int) (next : List (List Int)) (tags : List Int) (w : World) (hX : ∀ k, X k → k < w.heap.size) (hc : PV kU8 X w vc cl) (hn : PV kRow X w vn next) (ht : PV kInt X w vt tags) (hu : U8s cl) :
  Calls Tryd.prog 15 #[.agg #[vc, vn, vt]] w fun e w' => e = .returned (.bool (decide (TSound cl next tags))) ∧ Below w.heap.size w w' := by
 have H0 := Aside0.mk hc
 have H1 := Aside0.mk hn
 have H2 := Aside0.mk ht
 have HU := Aside0.mk hu
 have m1 := hn.max
 have m2 := ht.max
 obtain ⟨Ac, cc, rfl, _, _⟩ := hc.now
 obtain ⟨An, cn, rfl, _, _⟩ := hn.now
 obtain ⟨At, ct, rfl, _, _⟩ := ht.now
 have HS := Aside0.mk ((Sep.start hX).push_box [.slice Ac cl.length cc, .slice An next.length cn, .slice At tags.length ct] 31)
 obtain ⟨n, hnn, hn256⟩ := many14_le hu
 obtain ⟨q, hq⟩ : ∃ q, q = decide (TSound cl next tags) := ⟨_, rfl⟩
 rw [← hq]
 have HQ := Aside0.mk (show q = true ↔ TSoundN n next tags by rw [hq, decide_eq_true_iff, TSound, hnn]; exact Iff.rfl)
 have HN := Aside0.mk hnn
 clear hc hn ht hX hq hu hnn
 have no : ¬ TSoundN n next tags → q = false := fun h => by
  cases hqq : q
  ·rfl
  ·exact absurd (HQ.out.1 hqq) h
 have HNO := Aside0.mk no
 clear no
 go_enter Tryd.func15, Tryd.ntmps15
 go_wp2_with fail
 obtain ⟨wa, hwa⟩ : ∃ x, x = w.alloc (.cells #[.slice Ac cl.length cc, .slice An next.length cn, .slice At tags.length ct] 31) := ⟨_, rfl⟩
 rw [← hwa] at HS ⊢
 obtain ⟨g0, hg0⟩ : ∃ g, g = w.heap.size := ⟨_, rfl⟩
 rw [← hg0] at HS ⊢
 clear hwa hg0
 have hs := HS.out.drew
 clear HS; have HS := Aside0.mk hs; clear hs
 refine start_ (n := 9) (S := fun w' => w'.cell? ⟨g0, 0, none⟩ = some (.slice Ac cl.length cc) ∧ w'.cell? ⟨g0, 2, none⟩ = some (.slice At tags.length ct)) (ds := [8]) #[false, false, false, false, false, false, false, false, false] (by kernel_rfl) rfl rfl ⟨((HS.out.box 0 rfl).cell 0 rfl), ((HS.out.box 0 rfl).cell 2 rfl)⟩ (fun hHeld => ?_)
 generalize wa.drew = wd at HS hHeld ⊢
 refine pure_ (i := 0) (N := some 10) (v := ?_) (a' := ?_) #[true, false, false, false, false, false, false, false, false] rfl rfl (by kernel_rfl) (fun _ _ _ h => h) (Or.inl ⟨by rfl, ?_⟩) ?_ ?_
 rotate_left
 ·intro w'
  go_simp
  with_reducible rfl
 rotate_left
 ·simp only [Act.put, List.setIfInBounds_toArray, List.set_cons_zero, List.set_cons_succ, i64_w, i32_w]
  rfl
 refine pure_ (i := 3) (N := some 13) (v := ?_) (a' := ?_) #[true, false, false, true, false, false, false, false, false] rfl rfl (by kernel_rfl) (fun _ _ _ h => h) (Or.inl ⟨by rfl, ?_⟩) ?_ ?_
 rotate_left
 ·intro w'
  go_simp
  with_reducible rfl
 rotate_left
 ·simp only [Act.put, List.setIfInBounds_toArray, List.set_cons_zero, List.set_cons_succ, i64_w, i32_w]
  rfl
 refine take_ (i := 1) (N := some 11) (v := ?_) (a' := ?_) #[true, true, false, true, false, false, false, false, false] rfl rfl (by kernel_rfl) (fun _ _ _ h => h) (Or.inl ⟨by rfl, ?_⟩) hHeld ?_ ?_
 rotate_left
 ·rintro w' ⟨s0, s1⟩
  go_simp
  with_reducible rfl
 rotate_left
 ·simp only [Act.put, List.setIfInBounds_toArray, List.set_cons_zero, List.set_cons_succ, i64_w, i32_w]
  rfl
 refine take_ (i := 4) (N := some 14) (v := ?_) (a' := ?_) #[true, true, false, true, true, false, false, false, false] rfl rfl (by kernel_rfl) (fun _ _ _ h => h) (Or.inl ⟨by rfl, ?_⟩) hHeld ?_ ?_
 rotate_left
 ·rintro w' ⟨s0, s1⟩
  go_simp
  with_reducible rfl
 rotate_left
 ·simp only [Act.put, List.setIfInBounds_toArray, List.set_cons_zero, List.set_cons_succ, i64_w, i32_w]
  rfl
 refine pure_ (i := 5) (N := some 15) (v := ?_) (a' := ?_) #[true, true, false, true, true, true, false, false, false] rfl rfl (by kernel_rfl) (fun _ _ _ h => h) (Or.inl ⟨by rfl, ?_⟩) ?_ ?_
 rotate_left
 ·intro w'
  go_simp
  with_reducible rfl
 rotate_left
 ·simp only [Act.put, List.setIfInBounds_toArray, List.set_cons_zero, List.set_cons_succ, i64_w, i32_w]
  rfl
 refine join_ (σ := Nat) 2 #[true, true, true, true, true, true, true, false, false] (fun s => [(12, .int .i64 n), (4, .pointer (some ⟨s, 0, none⟩))]) (fun s w' => PX.Sep X w w' ([.box g0 31 [.slice Ac cl.length cc, .slice An next.length cn, .slice At tags.length ct], .box s 3 [.int .i64 0]] : List PX.Item)) ?_ ?_
 rotate_left
 ·intro hCont
  refine two_ (i := 2) (j := 6) (Ni := some 12) (Nj := some 4) #[true, true, true, true, true, true, false, false, false] #[true, true, false, true, true, true, true, false, false] rfl rfl rfl rfl (by kernel_rfl) (by decide) (by decide) (fun K hK => ?_) (fun K hK => ?_)
  ·skip
   refine goes_ Tryd.func30 (by kernel_rfl) rfl #[.slice Ac cl.length cc] (by rfl) rfl rfl (by simp only [List.map_toArray, List.map_cons, List.map_nil]; rfl) ?_
   with_reducible refine (clmany_calls _ _ cl _ (HS.out.arg H0.out) HU.out).mono ?_
   rintro e w6 ⟨rfl, hb6⟩
   refine ⟨_, rfl, ?_⟩
   rw [HN.out]
   have hs := HS.out.call hb6
   clear hb6
   clear HS; have HS := Aside0.mk hs; clear hs
   refine hK.out _ _ ⟨((HS.out.box 0 rfl).cell 0 rfl), ((HS.out.box 0 rfl).cell 2 rfl)⟩ (fun hHeld => ?_)
   clear hK K
   refine norm_ (a' := ?_) ?_ ?_
   rotate_left
   ·show Act.put _ (some 12) _ = _
    simp only [Act.put, List.setIfInBounds_toArray, List.set_cons_zero, List.set_cons_succ, i64_w, i32_w]
    rfl
   refine one_ (i := 6) (N := some 4) #[true, true, true, true, true, true, true, false, false] rfl rfl (by kernel_rfl) (by decide) (fun K hK => ?_)
   refine value_ (w1 := ?_) (v := ?_) (by rfl) rfl ?_ ?_
   rotate_left 2
   ·go_simp
    constructor
    ·rfl
    ·rfl
   have hs := HS.out.push_box' [.int .i64 0] 3 (w6.heap.size) (by simp)
   clear HS; have HS := Aside0.mk hs; clear hs
   refine hK.out _ _ ⟨((HS.out.box 0 rfl).cell 0 rfl), ((HS.out.box 0 rfl).cell 2 rfl)⟩ (fun hHeld => ?_)
   clear hK K
   refine norm_ (a' := ?_) ?_ ?_
   rotate_left
   ·show Act.put _ (some 4) _ = _
    simp only [Act.put, List.setIfInBounds_toArray, List.set_cons_zero, List.set_cons_succ, i64_w, i32_w]
    rfl
   exact norm_ (by simp only [putAll, Act.put, List.setIfInBounds_toArray, List.set_cons_zero, List.set_cons_succ]) (hCont w6.heap.size _ HS.out)
  ·skip
   refine value_ (w1 := ?_) (v := ?_) (by rfl) rfl ?_ ?_
   rotate_left 2
   ·go_simp
    constructor
    ·rfl
    ·rfl
   have hs := HS.out.push_box' [.int .i64 0] 3 (wd.heap.size) (by simp)
   clear HS; have HS := Aside0.mk hs; clear hs
   refine hK.out _ _ ⟨((HS.out.box 0 rfl).cell 0 rfl), ((HS.out.box 0 rfl).cell 2 rfl)⟩ (fun hHeld => ?_)
   clear hK K
   refine norm_ (a' := ?_) ?_ ?_
   rotate_left
   ·show Act.put _ (some 4) _ = _
    simp only [Act.put, List.setIfInBounds_toArray, List.set_cons_zero, List.set_cons_succ, i64_w, i32_w]
    rfl
   refine one_ (i := 2) (N := some 12) #[true, true, true, true, true, true, true, false, false] rfl rfl (by kernel_rfl) (by decide) (fun K hK => ?_)
   refine goes_ Tryd.func30 (by kernel_rfl) rfl #[.slice Ac cl.length cc] (by rfl) rfl rfl (by simp only [List.map_toArray, List.map_cons, List.map_nil]; rfl) ?_
   with_reducible refine (clmany_calls _ _ cl _ (HS.out.arg H0.out) HU.out).mono ?_
   rintro e w6 ⟨rfl, hb6⟩
   refine ⟨_, rfl, ?_⟩
   rw [HN.out]
   have hs := HS.out.call hb6
   clear hb6
   clear HS; have HS := Aside0.mk hs; clear hs
   refine hK.out _ _ ⟨((HS.out.box 0 rfl).cell 0 rfl), ((HS.out.box 0 rfl).cell 2 rfl)⟩ (fun hHeld => ?_)
   clear hK K
   refine norm_ (a' := ?_) ?_ ?_
   rotate_left
   ·show Act.put _ (some 12) _ = _
    simp only [Act.put, List.setIfInBounds_toArray, List.set_cons_zero, List.set_cons_succ, i64_w, i32_w]
    rfl
   exact norm_ (by simp only [putAll, Act.put, List.setIfInBounds_toArray, List.set_cons_zero, List.set_cons_succ]) (hCont wd.heap.size _ HS.out)
 rintro g1 w5 hs
 clear hHeld
 clear HS; have HS := Aside0.mk hs; clear hs
 have fz := (HS.out.box 1 rfl).open_ 0
 have yz := (HS.out.box 1 rfl).cell 0 rfl
 have hHeld : True := trivial
 refine norm_ (a' := ?_) ?_ ?_
 rotate_left
 ·simp only [putAll, Act.put, List.setIfInBounds_toArray, List.set_cons_zero, List.set_cons_succ]
  rfl
 refine pure_ (i := 7) (N := some 3) (v := ?_) (a' := ?_) #[true, true, true, true, true, true, true, true, false] rfl rfl (by kernel_rfl) (fun _ _ _ h => h) (Or.inl ⟨by rfl, ?_⟩) ?_ ?_
 rotate_left
 ·intro w'
  go_simp
  with_reducible rfl
 rotate_left
 ·simp only [Act.put, List.setIfInBounds_toArray, List.set_cons_zero, List.set_cons_succ, i64_w, i32_w]
  rfl
 refine last_ (i := 8) (N := none) #[true, true, true, true, true, true, true, true, true] rfl rfl (by kernel_rfl) (by decide) (fun K hK => ?_)
 refine skip_ (w1 := ?_) (by rfl) rfl ?_ ?_
 rotate_left
 ·go_simp
  rfl
 have hs := HS.out.set_box 1 rfl 0 (.int .i64 tags.length)
 clear HS; have HS := Aside0.mk hs; clear hs
 refine hK.out _ _ ?_
 clear hK K
 refine done_ (by kernel_rfl) ?_
 obtain ⟨w6, hw6⟩ : ∃ x, x = w5.setCell ⟨g1, 0, none⟩ (.int .i64 (tags.length : Int)) := ⟨_, rfl⟩
 rw [← hw6] at HS ⊢
 clear hw6 fz yz
 have yk := (HS.out.box 1 rfl).cell 0 rfl
 have y0 := (HS.out.box 0 rfl).cell 1 rfl
 by_cases hh : THead n next tags
 case neg =>
  have q0 : q = false := HNO.out (fun h => hh h.1)
  clear HQ HNO
  subst q0
  unfold THead at hh
  rcases Nat.eq_zero_or_pos n with h0 | h0
  case' inl =>
   have d0 : ((n : Int) == 0) = true := beq_iff_eq.mpr (by omega)
  case' inr =>
   have d0 : ((n : Int) == 0) = false := beq_eq_false_iff_ne.mpr (by omega)
   rcases Nat.lt_or_ge tags.length 1 with h1 | h1
  case' inr.inl =>
   have d1 : ((tags.length : Int) == 0) = true := beq_iff_eq.mpr (by omega)
  case' inr.inr =>
   have d1 : ((tags.length : Int) == 0) = false := beq_eq_false_iff_ne.mpr (by omega)
   rcases Nat.lt_or_ge 40000 tags.length with h2 | h2
  case' inr.inr.inl =>
   have d2 : decide ((tags.length : Int) > 40000) = true := decide_eq_true (by omega)
   have d2' : decide (40000 < tags.length) = true := decide_eq_true h2
  case' inr.inr.inr =>
   have d2 : decide ((tags.length : Int) > 40000) = false := decide_eq_false (by omega)
   have d2' : decide (40000 < tags.length) = false := decide_eq_false (by omega)
   have d3 : ((next.length : Int) == (tags.length : Int)) = false := beq_eq_false_iff_ne.mpr (by omega)
   have d3' : ((next.length : Int) != (tags.length : Int)) = true := bne_iff_ne.mpr (by omega)
  all_goals
   clear hh
   go_wp2_with fail
   go_ret
   exact ⟨rfl, HS.out.below⟩
 case pos =>
  have HH := Aside0.mk hh
  obtain ⟨h0, h1, h2, h3⟩ := hh
  have d0 : ((n : Int) == 0) = false := beq_eq_false_iff_ne.mpr (by omega)
  have d1 : ((tags.length : Int) == 0) = false := beq_eq_false_iff_ne.mpr (by omega)
  have d2 : decide ((tags.length : Int) > 40000) = false := decide_eq_false (by omega)
  have d2' : decide (40000 < tags.length) = false := decide_eq_false (by omega)
  have d3 : ((next.length : Int) == (tags.length : Int)) = true := beq_iff_eq.mpr (by omega)
  have d3' : ((next.length : Int) != (tags.length : Int)) = false := bne_eq_false_iff_eq.mpr (by omega)
  have HL3 := Aside0.mk h3
  clear h0 h1 h2 h3
  go_wp2_with fail
  clear d0 d1 d2 d2' d3 d3' yk y0
  go_loopg [37] next.length (fun m v37 w' => ∃ (i : Nat), v37 = .int .i64 i ∧ Aside0 (i + m = next.length) ∧ Aside0 (∀ i', i' < i → TRow n next tags i') ∧ Aside0 (Sep X w w' ([.box g0 31 [.slice Ac cl.length cc, .slice An next.length cn, .slice At tags.length ct], .box g1 3 [.int .i64 tags.length]] : List PX.Item)))
  case atStart => exact ⟨0, rfl, ⟨by omega⟩, ⟨fun i' h => by omega⟩, HS⟩
  case round =>
   clear HS
   obtain ⟨i, rfl, HJ, HI, HS⟩ := hrel
   cases gk with
   | zero =>
    have e1 : decide ((i : Int) < (next.length : Int)) = false := decide_eq_false (by have := HJ.out; omega)
    have e2 : decide (i < next.length) = false := decide_eq_false (by have := HJ.out; omega)
    have HALL := Aside0.mk (show ∀ i', i' < tags.length → TRow n next tags i' from fun i' h => HI.out i' (by have := HJ.out; have := HL3.out; omega))
    clear HI HJ HNO
    have HFIT := Aside0.mk (show ∀ a, a < n → ∀ row ∈ next, a < row.length ∧ Fits (row.getD a 0) from fun a ha row hrow => by
     obtain ⟨j, hj, e⟩ := List.getElem_of_mem hrow
     have h1 := HALL.out j (by have := HL3.out; omega)
     unfold TRow at h1
     rw [show next.getD j [] = row by rw [List.getD_eq_getElem?_getD, List.getElem?_eq_getElem hj]; exact e] at h1
     have h2 := h1.2.2 a ha
     have h3 := HH.out.2.2.1
     unfold Fits
     omega)
    have HQ2 := Aside0.mk (show q = true ↔ ∀ a, a < n → ∀ b, b < a → keyL next a ≠ keyL next b by
     rw [HQ.out]
     unfold TSoundN
     constructor
     ·intro h a ha b hb he
      have h1 := (keyL_iff (fun row hr => (HFIT.out a ha row hr).2) (fun row hr => (HFIT.out b (by omega) row hr).2)).1 he
      rw [h.2.2 a ha b hb] at h1
      cases h1
     ·intro h
      refine ⟨HH.out, HALL.out, fun a ha b hb => ?_⟩
      cases hsc : sameCol next a b
      ·rfl
      ·exact absurd ((keyL_iff (fun row hr => (HFIT.out a ha row hr).2) (fun row hr => (HFIT.out b (by omega) row hr).2)).2 hsc) (h a ha b hb))
    have hmm := run_makeMap (P := Tryd.prog) 61 wr
    have HLN := Aside0.mk (show next.length ≤ 40000 by have := HH.out.2.2.1; have := HL3.out; omega)
    clear HALL HQ HH
    go_wp2_with fail
    have hs := HS.out.push_map Tryd.prog 9 3
    obtain ⟨gm, hgm⟩ : ∃ g, g = wr.heap.size := ⟨_, rfl⟩
    rw [← hgm] at hs ⊢
    clear hgm HS hmm e1 e2
    have HS := Aside0.mk hs
    clear hs
    go_loopg [9, 62] n (fun m v9 v62 w' => ∃ (c : Nat) (D : DataW Unit), v62 = .int .i64 c ∧ Aside0 (c + m = n) ∧ Aside0 (MapD (keyL next) c D) ∧ Aside0 (Sep X w w' ([.box g0 31 [.slice Ac cl.length cc, .slice An next.length cn, .slice At tags.length ct], .box g1 3 [.int .i64 tags.length], .obj gm (MapO Tryd.prog 9 3 c D)] : List PX.Item)))
    case atStart => exact ⟨0, .map [], rfl, ⟨by omega⟩, ⟨MapD.start _⟩, HS⟩
    case round =>
     clear HS
     obtain ⟨c, D, rfl, HC, HD, HS⟩ := hrel
     have y0 := (HS.out.box 0 rfl).cell 1 rfl
     cases gk with
     | zero =>
      have hc : c = n := by have := HC.out; omega
      have e1 : decide ((c : Int) < (n : Int)) = false := decide_eq_false (by omega)
      have e2 : decide (c < n) = false := decide_eq_false (by omega)
      have lm := fun ty => (HS.out.map 2 rfl).len Tryd.underlying61 ty
      have heq := HD.out.eq
      rw [hc] at heq
      obtain ⟨z, hz⟩ : ∃ z, z = Maps.size D := ⟨_, rfl⟩
      rw [← hz] at heq lm
      have HE := Aside0.mk (show q = true ↔ z = n from HQ2.out.trans heq.symm)
      clear hc hz heq HD HQ2
      rcases Nat.decEq z n with h | h
      case' isTrue =>
       have d1 : ((z : Int) == (n : Int)) = true := beq_iff_eq.mpr (by omega)
       have q0 : q = true := HE.out.2 h
      case' isFalse =>
       have d1 : ((z : Int) == (n : Int)) = false := beq_eq_false_iff_ne.mpr (by omega)
       have q0 : q = false := by
        cases hqq : q
        ·rfl
        ·exact absurd (HE.out.1 hqq) h
      all_goals
       clear h HE
       subst q0
       go_wp2_with fail
       go_ret
       exact ⟨rfl, HS.out.below⟩
     | succ k1 =>
      have hc : c < n := by have := HC.out; omega
      have e1 : decide ((c : Int) < (n : Int)) = true := decide_eq_true (by omega)
      have e2 : decide (c < n) = true := decide_eq_true hc
      have hkey := key_string Tryd.underlying9 next c (by have := HLN.out; omega)
      have HM := Aside0.mk (HD.out.step (keyL_key next c) (.lit (.int .i64 (c : Int))))
      have hcw : (Lit.int .i64 (c : Int)).wf = true := by simp [Lit.wf, IntKind.min, IntKind.max, IntKind.bits, IntKind.signed]; omega
      go_wp2_with (first
       | (go_at_call 27; (with_reducible refine (column_calls _ _ next c _ HS.out.lt (HS.out.arg H1.out) (fun row hr => (HFIT.out c hc row hr).1) (fun row hr => (HFIT.out c hc row hr).2) (by have := HLN.out; omega)).mono ?_); rintro ee w7 ⟨rfl, hb⟩; have hs := HS.out.call hb; clear hb; clear HS; have HS := Aside0.mk hs; clear hs)
       | (at_mapUpdate; refine wpList_mapUpdate_in _ rfl _ _ _ 61 rfl 9 3 (Go.Maps.string_keyed Tryd.underlying9) Tryd.underlying61 (plainElem Tryd.prog 3) gm c D rfl (HS.out.map 2 rfl) (by unfold maxLen; omega) _ _ _ rfl rfl hkey (.lit (.int .i64 (c : Int))) [] (plainElem_int Tryd.underlying3 hcw) ?_; intro w8 hown hturn; have hs := HS.out.set_map 2 rfl hown hturn; clear HS hown hturn; have HS := Aside0.mk hs; clear hs))
      go_roundg k1
      case measure => omega
      case rel => exact ⟨c + 1, _, by go_num, ⟨by have := HC.out; omega⟩, HM, HS⟩
   | succ k1 =>
    have hin : i < next.length := by have := HJ.out; omega
    have hi : i < tags.length := by rw [← HL3.out]; exact hin
    have e1 : decide ((i : Int) < (next.length : Int)) = true := decide_eq_true (by omega)
    have e2 : decide (i < next.length) = true := decide_eq_true hin
    have hi0 : (0 : Int) ≤ (i : Int) := by omega
    have hi1 : (i : Int) < (tags.length : Int) := by omega
    have hi2 : (i : Int) < (next.length : Int) := by omega
    obtain ⟨an, cn', u, en, hu, yn0⟩ := H1.out.row i hin
    cases en
    obtain ⟨at_, ct', et, yt0⟩ := int_cell H2.out i hi
    cases et
    obtain ⟨Au, cu, rfl, _, _⟩ := hu.now
    have HR := Aside0.mk hu
    have y0 := (HS.out.box 0 rfl).cell 1 rfl
    have y1 := (HS.out.box 0 rfl).cell 2 rfl
    have yn := pw_cell_below HS.out.below yn0
    have yt := pw_cell_below HS.out.below yt0
    have HROW := Aside0.mk (Iff.intro (fun (h : TRow n next tags i) => (show (next.getD i []).length = n ∧ -1 ≤ tags.getD i 0 ∧ ∀ j, j < n → -1 ≤ (next.getD i []).getD j 0 ∧ (next.getD i []).getD j 0 < (tags.length : Int) from h)) (fun (h : (next.getD i []).length = n ∧ -1 ≤ tags.getD i 0 ∧ ∀ j, j < n → -1 ≤ (next.getD i []).getD j 0 ∧ (next.getD i []).getD j 0 < (tags.length : Int)) => (show TRow n next tags i from h)))
    have HNR := Aside0.mk (fun (h : ¬ TRow n next tags i) => HNO.out (fun hs => h (hs.2.1 i hi)))
    have HST := Aside0.mk (fun (h : TRow n next tags i) => (show ∀ i', i' < i + 1 → TRow n next tags i' from fun i' h1 => (Nat.lt_or_ge i' i).elim (HI.out i') (fun h2 => by
     have : i' = i := by omega
     rw [this]; exact h)))
    generalize next.getD i [] = row at *
    generalize tags.getD i 0 = tg at *
    clear hu yn0 yt0
    rcases Decidable.em (row.length = n ∧ -1 ≤ tg) with hr | hr
    case inr =>
     have q0 : q = false := HNR.out (fun h => hr ⟨(HROW.out.1 h).1, (HROW.out.1 h).2.1⟩)
     clear HQ HNO HNR HROW HST
     subst q0
     rcases Decidable.em (row.length = n) with h4 | h4
     case' inl =>
      have d4 : ((row.length : Int) == (n : Int)) = true := beq_iff_eq.mpr (by omega)
      have d4' : ((row.length : Int) != (n : Int)) = false := bne_eq_false_iff_eq.mpr (by omega)
      have d5 : decide (tg < -1) = true := decide_eq_true (by omega)
     case' inr =>
      have d4 : ((row.length : Int) == (n : Int)) = false := beq_eq_false_iff_ne.mpr (by omega)
      have d4' : ((row.length : Int) != (n : Int)) = true := bne_iff_ne.mpr (by omega)
     all_goals
      clear hr h4
      go_wp2_with fail
      go_ret
      exact ⟨rfl, HS.out.below⟩
    case inl =>
     obtain ⟨h4, h5⟩ := hr
     have d4 : ((row.length : Int) == (n : Int)) = true := beq_iff_eq.mpr (by omega)
     have d4' : ((row.length : Int) != (n : Int)) = false := bne_eq_false_iff_eq.mpr (by omega)
     have d5 : decide (tg < -1) = false := decide_eq_false (by omega)
     have HAO := Aside0.mk (any_odd tags.length row)
     have HPR := Aside0.mk (odd14_pred tags.length g1 wr (HS.out.box 1 rfl).lt ((HS.out.box 1 rfl).cell 0 rfl))
     have H45 := Aside0.mk (And.intro h4 h5)
     obtain ⟨a, ha⟩ : ∃ a, a = row.any (oddB tags.length) := ⟨_, rfl⟩
     have HA := Aside0.mk ha.symm
     rw [← ha] at HAO
     have eg : ∀ args w, (callFunc 31 args).run Tryd.prog w = .ok (.enter 31 args) w := Go.Proofs.enters_of Tryd.func31 (by kernel_rfl) rfl
     clear h4 h5 ha
     cases a
     case true =>
      have q0 : q = false := HNR.out (fun h => by have := HAO.out.2 (fun j hj => (HROW.out.1 h).2.2 j (by rw [← H45.out.1]; exact hj)); cases this)
      clear HQ HNO HNR HROW HST
      subst q0
      go_wp2_with (first
       | (go_at_call 32; (with_reducible refine (containsFunc_calls _ _ row _ (HS.out.arg HR.out) _ _ eg _ HPR.out).mono ?_); rintro ee w5 ⟨rfl, hb⟩; rw [HA.out]; have hs := HS.out.call hb; clear hb; clear HS; have HS := Aside0.mk hs; clear hs))
      go_ret
      exact ⟨rfl, HS.out.below⟩
     case false =>
      have HT2 := Aside0.mk (HST.out (HROW.out.2 ⟨H45.out.1, H45.out.2, fun j hj => HAO.out.1 rfl j (by rw [H45.out.1]; exact hj)⟩))
      clear HNR HROW HST HI
      go_wp2_with (first
       | (go_at_call 32; (with_reducible refine (containsFunc_calls _ _ row _ (HS.out.arg HR.out) _ _ eg _ HPR.out).mono ?_); rintro ee w5 ⟨rfl, hb⟩; rw [HA.out]; have hs := HS.out.call hb; clear hb; clear HS; have HS := Aside0.mk hs; clear hs))
      go_roundg k1
      case measure => omega
      case rel => exact ⟨i + 1, by go_num, ⟨by have := HJ.out; omega⟩, HT2, HS⟩
end Go.Proofs.YtfbfeimildkigaaDoor.P
namespace Go.Proofs.YtfbfeimildkigaaDoor.P
open Go Go.RowKit Go.Proofs.YtfbfeimildkigaaDoorW.PrintWords Go.Proofs.YtfbfeimildkigaaDoorW.PrintLast Go.Proofs.YtfbfeimildkigaaDoorW.PrintMore Go.Proofs.YtfbfeimildkigaaDoor.PX
set_option linter.unusedVariables false
set_option linter.unusedSimpArgs false
set_option maxRecDepth 100000
def backRow (cl row : List Int) : List Int := (List.range 256).map (fun c => row.getD (cl.getD c 0).toNat 0)
def back14 (cl : List Int) (next : List (List Int)) (tags : List Int) : (List (List Int) × List Int) × Int :=
 if TSound cl next tags then ((next.map (backRow cl), tags), 0) else (([], []), 1)
set_option maxHeartbeats 16000000 in
theorem back14_calls (X : Nat → Prop) (vc vn vt : Value) (cl : List Int) (next : List (List Int)) (tags : List Int) (w : World) (hX : ∀ k, X k → k < w.heap.size)
  (hc : PV kU8 X w vc cl) (hn : PV kRow X w vn next) (ht : PV kInt X w vt tags) (huc : U8s cl) :
  Calls Tryd.prog 16 #[.agg #[vc, vn, vt]] w fun e w' => ∃ v0 v1, e = .returned (.tuple #[.agg #[v0, v1], .int .i64 (back14 cl next tags).2]) ∧ PV kRow X w' v0 (back14 cl next tags).1.1 ∧ PV kInt X w' v1 (back14 cl next tags).1.2 ∧ Below w.heap.size w w' := by
 have H0 := Aside0.mk hc
 have H1 := Aside0.mk hn
 have H2 := Aside0.mk ht
 have HUC := Aside0.mk huc
 have m0 := hc.max
 have m1 := hn.max
 have m2 := ht.max
 obtain ⟨Ac, cc, rfl, _, _⟩ := hc.now
 obtain ⟨An, cn, rfl, _, _⟩ := hn.now
 obtain ⟨At, ct, rfl, _, _⟩ := ht.now
 have HS := Aside0.mk (((Sep.start hX).push_box [.slice Ac cl.length cc, .slice An next.length cn, .slice At tags.length ct] 31).push_box' [.slice none 0 0, .slice none 0 0] 27 (w.heap.size + 1) (by simp))
 obtain ⟨q, hq⟩ : ∃ q, q = decide (TSound cl next tags) := ⟨_, rfl⟩
 have HQ := Aside0.mk hq.symm
 obtain ⟨r, hr⟩ : ∃ r, r = back14 cl next tags := ⟨_, rfl⟩
 rw [← hr]
 have HR := Aside0.mk (show r = if TSound cl next tags then ((next.map (backRow cl), tags), 0) else (([], []), 1) from hr)
 clear hc hn ht huc hX hq hr
 go_enter Tryd.func16, Tryd.ntmps16
 go_upto_if 10 with (first
  | (go_at_call 19; (with_reducible refine (tsound_calls _ _ _ _ cl next tags _ HS.out.lt (HS.out.arg H0.out) (HS.out.arg H1.out) (HS.out.arg H2.out) HUC.out).mono ?_); rintro ee w5 ⟨rfl, hb⟩; rw [HQ.out]; have hs := HS.out.call hb; clear hb; clear HS; have HS := Aside0.mk hs; clear hs))
 obtain ⟨g1, hg1⟩ : ∃ g, g = w.heap.size + 1 := ⟨_, rfl⟩
 obtain ⟨g0, hg0⟩ : ∃ g, g = w.heap.size := ⟨_, rfl⟩
 rw [← hg1, ← hg0] at HS ⊢
 clear hg0 hg1
 have x0 := ((HS.out.box 1 rfl).cell 0 rfl)
 have x1 := ((HS.out.box 1 rfl).cell 1 rfl)
 have f0 := (HS.out.box 1 rfl).open_ 0
 have f1 := (HS.out.box 1 rfl).open_ 1
 cases q
 case false =>
  have HE := Aside0.mk (show r = (([], []), 1) by rw [HR.out, if_neg (of_decide_eq_false HQ.out)])
  go_wp2_with fail
  have HSF := Aside0.mk ((HS.out.set_box 1 rfl 0 (.slice none 0 0)).set_box 1 rfl 1 (.slice none 0 0))
  refine bodyPost_ret (results_ct rfl _ _ g1 27 #[.slice none 0 0, .slice none 0 0] (0, 0) _ rfl (HSF.out.box 1 rfl) Tryd.underlying27 rfl (by kernel_rfl)) rfl ?_
  rw [HE.out]
  exact ⟨_, _, rfl, PV.nil _ _ _, PV.nil _ _ _, HSF.out.below⟩
 case true =>
  have HSO := Aside0.mk (of_decide_eq_true HQ.out)
  have HR2 := Aside0.mk (show r = ((next.map (backRow cl), tags), 0) by rw [HR.out, if_pos HSO.out])
  obtain ⟨n, hn, hn256, hcl, hcn, hso⟩ := tsound_head HUC.out HSO.out
  have HSN := Aside0.mk hso
  have HCN := Aside0.mk hcn
  have HCL := Aside0.mk hcl
  have HNT := Aside0.mk (show next.length = tags.length ∧ tags.length ≤ 40000 from ⟨hso.1.2.2.2, hso.1.2.2.1⟩)
  clear HR hn hcl hcn hso HSO HQ
  go_wp2_with fail
  have hs := ((HS.out.push_box [.slice none 0 0, .slice none 0 0] 27).push_nil kRow 25).push_nil kInt 3
  obtain ⟨g2, hg2⟩ : ∃ g, g = w5.heap.size := ⟨_, rfl⟩
  rw [← hg2] at hs ⊢
  clear hg2 x0 x1 f0 f1 HS
  have HS := Aside0.mk hs
  clear hs
  go_loopg [5] next.length (fun m v5 w' => ∃ (i : Nat) (vN vT : Value) (N : List (List Int)) (T : List Int), v5 = .int .i64 i ∧ Aside0 (i + m = next.length) ∧ Aside0 (N = (next.take i).map (backRow cl)) ∧ Aside0 (T = tags.take i) ∧ Aside0 (Sep X w w' [.box g0 31 [.slice Ac cl.length cc, .slice An next.length cn, .slice At tags.length ct], .box g1 27 [.slice none 0 0, .slice none 0 0], .box g2 27 [vN, vT], .row kRow 25 vN N, .row kInt 3 vT T]))
  case atStart => exact ⟨0, _, _, [], [], rfl, ⟨by omega⟩, ⟨rfl⟩, ⟨rfl⟩, HS⟩
  case round =>
   clear HS
   obtain ⟨i, vN, vT, N, T, rfl, HJ, HN, HT, HS⟩ := hrel
   obtain ⟨A4, c4, e4⟩ := HS.out.form 3 rfl
   subst e4
   obtain ⟨A5, c5, e5⟩ := HS.out.form 4 rfl
   subst e5
   have y1 := ((HS.out.box 0 rfl).cell 1 rfl)
   cases gk with
   | zero =>
    have hi : i = next.length := by have := HJ.out; omega
    have e1 : decide ((i : Int) < (next.length : Int)) = false := decide_eq_false (by omega)
    have e2 : decide (i < next.length) = false := decide_eq_false (by omega)
    have HRR := Aside0.mk (show r = ((N, T), 0) by rw [HR2.out, HN.out, HT.out, hi, List.take_length, HNT.out.1, List.take_length])
    clear HN HT HJ hi HR2
    have z0 := ((HS.out.box 2 rfl).cell 0 rfl)
    have z1 := ((HS.out.box 2 rfl).cell 1 rfl)
    have x0 := ((HS.out.box 1 rfl).cell 0 rfl)
    have x1 := ((HS.out.box 1 rfl).cell 1 rfl)
    have f0 := (HS.out.box 1 rfl).open_ 0
    have f1 := (HS.out.box 1 rfl).open_ 1
    go_wp2_with fail
    have HSF := Aside0.mk ((HS.out.set_box 1 rfl 0 (.slice A4 N.length c4)).set_box 1 rfl 1 (.slice A5 T.length c5))
    refine bodyPost_ret (results_ct rfl _ _ g1 27 #[.slice A4 N.length c4, .slice A5 T.length c5] (0, 0) _ rfl (HSF.out.box 1 rfl) Tryd.underlying27 rfl (by kernel_rfl)) rfl ?_
    rw [HRR.out]
    exact ⟨_, _, rfl, HSF.out.res_row 3 rfl, HSF.out.res_row 4 rfl, HSF.out.below⟩
   | succ k1 =>
    have hi : i < next.length := by have := HJ.out; omega
    have hit : i < tags.length := by have := HNT.out; omega
    have e1 : decide ((i : Int) < (next.length : Int)) = true := decide_eq_true (by omega)
    have e2 : decide (i < next.length) = true := decide_eq_true hi
    have hi0 : (0 : Int) ≤ (i : Int) := by omega
    have hi1 : (i : Int) < (next.length : Int) := by omega
    have hi2 : (i : Int) < (tags.length : Int) := by omega
    obtain ⟨an, cn', u, en, hu, yn⟩ := H1.out.row i hi
    cases en
    obtain ⟨Au, cu, rfl, _, _⟩ := hu.now
    obtain ⟨at_, ct', et, yt⟩ := int_cell H2.out i hit
    cases et
    have HU := Aside0.mk hu
    have HY := Aside0.mk (And.intro yn yt)
    have HRL := Aside0.mk (show (next.getD i []).length = n from (HSN.out.2.1 i hit).1)
    have HN2 := Aside0.mk (show N ++ [backRow cl (next.getD i [])] = (next.take (i + 1)).map (backRow cl) by rw [take_at next [] i hi, List.map_append, HN.out]; rfl)
    have HT2 := Aside0.mk (show T ++ [tags.getD i 0] = tags.take (i + 1) by rw [take_at tags 0 i hit, HT.out])
    have HPL := Aside0.mk (show N.length + 1 ≤ 1000000 by rw [HN.out]; have := HNT.out; simp; omega)
    have HPT := Aside0.mk (show T.length + 1 ≤ 1000000 by rw [HT.out]; have := HNT.out; simp; omega)
    generalize next.getD i [] = row at *
    generalize tags.getD i 0 = tg at *
    have hs := HS.out.push_nil kInt 3
    clear hu yn yt HN HT HS
    have HS := Aside0.mk hs
    clear hs
    go_wp2_with fail
    clear y1 e1 e2
    go_loopg [6, 7] 256 (fun m v6 v7 w' => ∃ (c : Nat) (R : List Int), v7 = .int .i64 c ∧ Aside0 (c + m = 256) ∧ Aside0 (R = (List.range c).map (fun c => row.getD (cl.getD c 0).toNat 0)) ∧ Aside0 (Sep X w w' [.box g0 31 [.slice Ac cl.length cc, .slice (some an) next.length cn, .slice (some at_) tags.length ct], .box g1 27 [.slice none 0 0, .slice none 0 0], .box g2 27 [(.slice A4 N.length c4), (.slice A5 T.length c5)], .row kRow 25 (.slice A4 N.length c4) N, .row kInt 3 (.slice A5 T.length c5) T, .row kInt 3 v6 R]))
    case atStart => exact ⟨0, [], rfl, ⟨by omega⟩, ⟨rfl⟩, HS⟩
    case round =>
     clear HS
     obtain ⟨c, R, rfl, HC, HR, HS⟩ := hrel
     obtain ⟨A6, c6, e6⟩ := HS.out.form 5 rfl
     subst e6
     cases gk with
     | zero =>
      have hc : c = 256 := by have := HC.out; omega
      have e1 : decide ((c : Int) < 256) = false := decide_eq_false (by omega)
      have e2 : decide (c < 256) = false := decide_eq_false (by omega)
      have q0 : R = backRow cl row := by rw [HR.out, hc]; rfl
      rw [← q0] at HN2
      clear HR q0 hc
      have hs := HS.out.sealRo 5 rfl
      clear HS
      have HS := Aside0.mk hs
      have y2 := ((HS.out.box 2 rfl).cell 0 rfl)
      clear hs
      go_wp2_with (first
       | ((with_reducible refine gate_dst (N := 42) rfl ?_); refine slit kRow 25 ?hg (N := 42) ?hd (xs := [R]) (inner := [.slice A6 R.length c6]) ?hr HS.out ?hp (by simp) ?_; (case hd => rfl); (case hg => rfl); (case hr => first | (go_simp; done) | (go_simp; rfl)); (case hp => exact Reps.one (PK.slice (HS.out.ro 5 rfl)) (Reps.none _ _)); clear HS; intro v30 w30 hs; have HS := Aside0.mk hs; clear hs)
       | ((with_reducible refine gate_builtin (b := .append) (xs := #[.tmp 40, .tmp 42]) rfl ?_); at_builtin; refine sgrow kRow 3 rfl (.tmp 40) (.tmp 42) 24 25 (.slice none 0 0) 24 rfl Tryd.underlying24 info25 rfl (by decide) (by omega) _ _ N [R] rfl rfl HS.out rfl (HS.out.ro 6 rfl) (by have := HPL.out; rw [List.length_singleton]; omega) ?_; clear HS; intro v1 w1 hs; obtain ⟨n1, hn1⟩ : ∃ q, q = N ++ [R] := ⟨_, rfl⟩; rw [← hn1] at hs; have HZn1 := Aside0.mk hn1; clear hn1; obtain ⟨A1, c1, e1⟩ := hs.form 3 rfl; subst e1; have fz := (hs.box 2 rfl).open_ 0; have yz := (hs.box 2 rfl).cell 0 rfl; have HS := Aside0.mk hs; clear hs))
      have hs := HS.out.set_box 2 rfl 0 (.slice A1 n1.length c1)
      obtain ⟨wd, hwd⟩ : ∃ x, x = w1.setCell ⟨g2, 0, none⟩ (.slice A1 n1.length c1) := ⟨_, rfl⟩
      rw [← hwd] at hs ⊢
      clear HS
      have HS := Aside0.mk hs.drew
      clear hs hwd fz yz y2
      refine start_ (n := 11) (S := fun w' => w'.cell? ⟨g2, 1, none⟩ = some (.slice A5 T.length c5) ∧ w'.cell? ⟨g0, 2, none⟩ = some (.slice (some at_) tags.length ct) ∧ w'.cell? (at_.add i) = some (.int .i64 tg)) (ds := [8, 10]) #[false, false, false, false, false, false, false, false, false, false, false] (by kernel_rfl) rfl rfl ⟨((HS.out.box 2 rfl).cell 1 rfl), ((HS.out.box 0 rfl).cell 2 rfl), (pw_cell_below HS.out.below HY.out.2)⟩ (fun hHeld => ?_)
      refine pure_ (i := 0) (N := some 45) (v := ?_) (a' := ?_) #[true, false, false, false, false, false, false, false, false, false, false] rfl rfl (by kernel_rfl) (fun _ _ _ h => h) (Or.inl ⟨by rfl, ?_⟩) ?_ ?_
      rotate_left
      ·intro w'
       go_simp
       with_reducible rfl
      rotate_left
      ·simp only [Act.put, List.setIfInBounds_toArray, List.set_cons_zero, List.set_cons_succ, i64_w, i32_w]
       rfl
      refine pure_ (i := 2) (N := some 47) (v := ?_) (a' := ?_) #[true, false, true, false, false, false, false, false, false, false, false] rfl rfl (by kernel_rfl) (fun _ _ _ h => h) (Or.inl ⟨by rfl, ?_⟩) ?_ ?_
      rotate_left
      ·intro w'
       go_simp
       with_reducible rfl
      rotate_left
      ·simp only [Act.put, List.setIfInBounds_toArray, List.set_cons_zero, List.set_cons_succ, i64_w, i32_w]
       rfl
      refine pure_ (i := 4) (N := some 49) (v := ?_) (a' := ?_) #[true, false, true, false, true, false, false, false, false, false, false] rfl rfl (by kernel_rfl) (fun _ _ _ h => h) (Or.inl ⟨by rfl, ?_⟩) ?_ ?_
      rotate_left
      ·intro w'
       go_simp
       with_reducible rfl
      rotate_left
      ·simp only [Act.put, List.setIfInBounds_toArray, List.set_cons_zero, List.set_cons_succ, i64_w, i32_w]
       rfl
      refine take_ (i := 1) (N := some 46) (v := ?_) (a' := ?_) #[true, true, true, false, true, false, false, false, false, false, false] rfl rfl (by kernel_rfl) (fun _ _ _ h => h) (Or.inl ⟨by rfl, ?_⟩) hHeld ?_ ?_
      rotate_left
      ·rintro w' ⟨s0, s1, s2⟩
       go_simp
       with_reducible rfl
      rotate_left
      ·simp only [Act.put, List.setIfInBounds_toArray, List.set_cons_zero, List.set_cons_succ, i64_w, i32_w]
       rfl
      refine take_ (i := 3) (N := some 48) (v := ?_) (a' := ?_) #[true, true, true, true, true, false, false, false, false, false, false] rfl rfl (by kernel_rfl) (fun _ _ _ h => h) (Or.inl ⟨by rfl, ?_⟩) hHeld ?_ ?_
      rotate_left
      ·rintro w' ⟨s0, s1, s2⟩
       go_simp
       with_reducible rfl
      rotate_left
      ·simp only [Act.put, List.setIfInBounds_toArray, List.set_cons_zero, List.set_cons_succ, i64_w, i32_w]
       rfl
      refine pure_ (i := 5) (N := some 50) (v := ?_) (a' := ?_) #[true, true, true, true, true, true, false, false, false, false, false] rfl rfl (by kernel_rfl) (fun _ _ _ h => h) (Or.inl ⟨by rfl, ?_⟩) ?_ ?_
      rotate_left
      ·intro w'
       go_simp
       with_reducible rfl
      rotate_left
      ·simp only [Act.put, List.setIfInBounds_toArray, List.set_cons_zero, List.set_cons_succ, i64_w, i32_w]
       rfl
      refine take_ (i := 6) (N := some 51) (v := ?_) (a' := ?_) #[true, true, true, true, true, true, true, false, false, false, false] rfl rfl (by kernel_rfl) (fun _ _ _ h => h) (Or.inl ⟨by rfl, ?_⟩) hHeld ?_ ?_
      rotate_left
      ·rintro w' ⟨s0, s1, s2⟩
       go_simp
       with_reducible rfl
      rotate_left
      ·simp only [Act.put, List.setIfInBounds_toArray, List.set_cons_zero, List.set_cons_succ, i64_w, i32_w]
       rfl
      refine one_ (i := 7) (N := some 52) #[true, true, true, true, true, true, true, true, false, false, false] rfl rfl (by kernel_rfl) (by decide) (fun K hK => ?_)
      refine value_ (w1 := ?_) (v := ?_) (by rfl) rfl ?_ ?_
      rotate_left 2
      ·go_simp
       constructor
       ·rfl
       ·rfl
      have hs := HS.out.lit_ro kInt 3 (xs := [tg]) (inner := [.int .i64 tg]) (Reps.one (PK.scalar _) (Reps.none _ _)) (by simp)
      clear HS; have HS := Aside0.mk hs; clear hs
      refine hK.out _ _ ⟨((HS.out.box 2 rfl).cell 1 rfl), ((HS.out.box 0 rfl).cell 2 rfl), (pw_cell_below HS.out.below HY.out.2)⟩ (fun hHeld => ?_)
      clear hK K
      refine norm_ (a' := ?_) ?_ ?_
      rotate_left
      ·show Act.put _ (some 52) _ = _
       simp only [Act.put, List.setIfInBounds_toArray, List.set_cons_zero, List.set_cons_succ, i64_w, i32_w]
       rfl
      refine last_ (i := 8) (N := some 53) #[true, true, true, true, true, true, true, true, true, false, false] rfl rfl (by kernel_rfl) (by decide) (fun K hK => ?_)
      refine sgrow_step kInt 4 (by rfl) rfl (.tmp 46) (.tmp 52) 25 3 (.int .i64 0) 8 rfl Tryd.underlying25 info3' rfl (by decide) (by omega) _ (.slice (some ⟨_, 0, none⟩) [tg].length [tg].length) T [tg] rfl rfl HS.out rfl (HS.out.ro _ List.getElem?_concat_length) (by have := HPT.out; simp; omega) ?_
      intro v1 w1 hs
      obtain ⟨t1, ht1⟩ : ∃ q, q = T ++ [tg] := ⟨_, rfl⟩
      rw [← ht1] at hs
      have HZt1 := Aside0.mk ht1
      clear ht1
      obtain ⟨A2, c2, e2⟩ := hs.form 4 rfl
      subst e2
      clear HS; have HS := Aside0.mk hs; clear hs
      have fz := (HS.out.box 2 rfl).open_ 1
      have yz := (HS.out.box 2 rfl).cell 1 rfl
      refine hK.out _ _ ?_
      clear hK K
      refine norm_ (a' := ?_) ?_ ?_
      rotate_left
      ·show Act.put _ (some 53) _ = _
       simp only [Act.put, List.setIfInBounds_toArray, List.set_cons_zero, List.set_cons_succ, i64_w, i32_w]
       rfl
      refine pure_ (i := 9) (N := some 54) (v := ?_) (a' := ?_) #[true, true, true, true, true, true, true, true, true, true, false] rfl rfl (by kernel_rfl) (fun _ _ _ h => h) (Or.inl ⟨by rfl, ?_⟩) ?_ ?_
      rotate_left
      ·intro w'
       go_simp
       with_reducible rfl
      rotate_left
      ·simp only [Act.put, List.setIfInBounds_toArray, List.set_cons_zero, List.set_cons_succ, i64_w, i32_w]
       rfl
      refine last_ (i := 10) (N := none) #[true, true, true, true, true, true, true, true, true, true, true] rfl rfl (by kernel_rfl) (by decide) (fun K hK => ?_)
      refine skip_ (w1 := ?_) (by rfl) rfl ?_ ?_
      rotate_left
      ·go_simp
       rfl
      have hs := HS.out.set_box 2 rfl 1 (.slice A2 t1.length c2)
      clear HS; have HS := Aside0.mk hs; clear hs
      refine hK.out _ _ ?_
      clear hK K
      refine done_ (by kernel_rfl) ?_
      go_wp2_with fail
      go_roundg k1
      case measure => omega
      case rel => exact ⟨i + 1, _, _, n1, t1, by go_num, ⟨by have := HJ.out; omega⟩, ⟨by rw [HZn1.out]; exact HN2.out⟩, ⟨by rw [HZt1.out]; exact HT2.out⟩, ⟨HS.out.take 5⟩⟩
     | succ c1 =>
      have hc : c < 256 := by have := HC.out; omega
      have e1 : decide ((c : Int) < 256) = true := decide_eq_true (by omega)
      have e2 : decide (c < 256) = true := decide_eq_true hc
      have hc0 : (0 : Int) ≤ (c : Int) := by omega
      have hcl1 : (c : Int) < (cl.length : Int) := by have := HCL.out; omega
      obtain ⟨ac, cc', ec, yc0⟩ := u8_cell H0.out c (by have := HCL.out; omega)
      cases ec
      have hk := HCN.out _ (mem_getD cl 0 c (by have := HCL.out; omega))
      obtain ⟨k, hk2⟩ : ∃ k : Nat, cl.getD c 0 = (k : Int) := ⟨(cl.getD c 0).toNat, by omega⟩
      rw [hk2] at yc0 hk
      have hkr : k < row.length := by have := HRL.out; omega
      have hk0 : (0 : Int) ≤ (k : Int) := by omega
      have hk1 : (k : Int) < (row.length : Int) := by omega
      obtain ⟨ar, cr, er, yr0⟩ := int_cell HU.out k hkr
      cases er
      have HR3 := Aside0.mk (show R ++ [row.getD k 0] = (List.range (c + 1)).map (fun c => row.getD (cl.getD c 0).toNat 0) by rw [List.range_succ, List.map_append, HR.out]; simp only [List.map_cons, List.map_nil, hk2, Int.toNat_natCast])
      have HRL2 := Aside0.mk (show R.length + 1 ≤ 1000 by rw [HR.out]; simp; omega)
      generalize row.getD k 0 = x at *
      have HYF := Aside0.mk (And.intro yc0 yr0)
      clear yc0 yr0 HR hk hk2
      go_wp2_with fail
      have hs := HS.out.drew
      clear HS; have HS := Aside0.mk hs; clear hs
      refine start_ (n := 16) (S := fun w' => w'.cell? ⟨g0, 1, none⟩ = some (.slice (some an) next.length cn) ∧ w'.cell? (an.add i) = some (.slice (some ar) row.length cu) ∧ w'.cell? ⟨g0, 0, none⟩ = some (.slice (some ac) cl.length cc) ∧ w'.cell? (ac.add c) = some (.int .u8 (k : Int)) ∧ w'.cell? (ar.add k) = some (.int .i64 x)) (ds := [14]) #[false, false, false, false, false, false, false, false, false, false, false, false, false, false, false, false] (by kernel_rfl) rfl rfl ⟨((HS.out.box 0 rfl).cell 1 rfl), (pw_cell_below HS.out.below HY.out.1), ((HS.out.box 0 rfl).cell 0 rfl), (pw_cell_below HS.out.below HYF.out.1), (pw_cell_below HS.out.below HYF.out.2)⟩ (fun hHeld => ?_)
      refine pure_ (i := 0) (N := some 24) (v := ?_) (a' := ?_) #[true, false, false, false, false, false, false, false, false, false, false, false, false, false, false, false] rfl rfl (by kernel_rfl) (fun _ _ _ h => h) (Or.inl ⟨by rfl, ?_⟩) ?_ ?_
      rotate_left
      ·intro w'
       go_simp
       with_reducible rfl
      rotate_left
      ·simp only [Act.put, List.setIfInBounds_toArray, List.set_cons_zero, List.set_cons_succ, i64_w, i32_w]
       rfl
      refine pure_ (i := 1) (N := some 25) (v := ?_) (a' := ?_) #[true, true, false, false, false, false, false, false, false, false, false, false, false, false, false, false] rfl rfl (by kernel_rfl) (fun _ _ _ h => h) (Or.inl ⟨by rfl, ?_⟩) ?_ ?_
      rotate_left
      ·intro w'
       go_simp
       with_reducible rfl
      rotate_left
      ·simp only [Act.put, List.setIfInBounds_toArray, List.set_cons_zero, List.set_cons_succ, i64_w, i32_w]
       rfl
      refine pure_ (i := 3) (N := some 27) (v := ?_) (a' := ?_) #[true, true, false, true, false, false, false, false, false, false, false, false, false, false, false, false] rfl rfl (by kernel_rfl) (fun _ _ _ h => h) (Or.inl ⟨by rfl, ?_⟩) ?_ ?_
      rotate_left
      ·intro w'
       go_simp
       with_reducible rfl
      rotate_left
      ·simp only [Act.put, List.setIfInBounds_toArray, List.set_cons_zero, List.set_cons_succ, i64_w, i32_w]
       rfl
      refine pure_ (i := 6) (N := some 30) (v := ?_) (a' := ?_) #[true, true, false, true, false, false, true, false, false, false, false, false, false, false, false, false] rfl rfl (by kernel_rfl) (fun _ _ _ h => h) (Or.inl ⟨by rfl, ?_⟩) ?_ ?_
      rotate_left
      ·intro w'
       go_simp
       with_reducible rfl
      rotate_left
      ·simp only [Act.put, List.setIfInBounds_toArray, List.set_cons_zero, List.set_cons_succ, i64_w, i32_w]
       rfl
      refine pure_ (i := 8) (N := some 32) (v := ?_) (a' := ?_) #[true, true, false, true, false, false, true, false, true, false, false, false, false, false, false, false] rfl rfl (by kernel_rfl) (fun _ _ _ h => h) (Or.inl ⟨by rfl, ?_⟩) ?_ ?_
      rotate_left
      ·intro w'
       go_simp
       with_reducible rfl
      rotate_left
      ·simp only [Act.put, List.setIfInBounds_toArray, List.set_cons_zero, List.set_cons_succ, i64_w, i32_w]
       rfl
      refine take_ (i := 2) (N := some 26) (v := ?_) (a' := ?_) #[true, true, true, true, false, false, true, false, true, false, false, false, false, false, false, false] rfl rfl (by kernel_rfl) (fun _ _ _ h => h) (Or.inl ⟨by rfl, ?_⟩) hHeld ?_ ?_
      rotate_left
      ·rintro w' ⟨s0, s1, s2, s3, s4⟩
       go_simp
       with_reducible rfl
      rotate_left
      ·simp only [Act.put, List.setIfInBounds_toArray, List.set_cons_zero, List.set_cons_succ, i64_w, i32_w]
       rfl
      refine pure_ (i := 4) (N := some 28) (v := ?_) (a' := ?_) #[true, true, true, true, true, false, true, false, true, false, false, false, false, false, false, false] rfl rfl (by kernel_rfl) (fun _ _ _ h => h) (Or.inl ⟨by rfl, ?_⟩) ?_ ?_
      rotate_left
      ·intro w'
       go_simp
       with_reducible rfl
      rotate_left
      ·simp only [Act.put, List.setIfInBounds_toArray, List.set_cons_zero, List.set_cons_succ, i64_w, i32_w]
       rfl
      refine take_ (i := 5) (N := some 29) (v := ?_) (a' := ?_) #[true, true, true, true, true, true, true, false, true, false, false, false, false, false, false, false] rfl rfl (by kernel_rfl) (fun _ _ _ h => h) (Or.inl ⟨by rfl, ?_⟩) hHeld ?_ ?_
      rotate_left
      ·rintro w' ⟨s0, s1, s2, s3, s4⟩
       go_simp
       with_reducible rfl
      rotate_left
      ·simp only [Act.put, List.setIfInBounds_toArray, List.set_cons_zero, List.set_cons_succ, i64_w, i32_w]
       rfl
      refine take_ (i := 7) (N := some 31) (v := ?_) (a' := ?_) #[true, true, true, true, true, true, true, true, true, false, false, false, false, false, false, false] rfl rfl (by kernel_rfl) (fun _ _ _ h => h) (Or.inl ⟨by rfl, ?_⟩) hHeld ?_ ?_
      rotate_left
      ·rintro w' ⟨s0, s1, s2, s3, s4⟩
       go_simp
       with_reducible rfl
      rotate_left
      ·simp only [Act.put, List.setIfInBounds_toArray, List.set_cons_zero, List.set_cons_succ, i64_w, i32_w]
       rfl
      refine pure_ (i := 9) (N := some 33) (v := ?_) (a' := ?_) #[true, true, true, true, true, true, true, true, true, true, false, false, false, false, false, false] rfl rfl (by kernel_rfl) (fun _ _ _ h => h) (Or.inl ⟨by rfl, ?_⟩) ?_ ?_
      rotate_left
      ·intro w'
       go_simp
       with_reducible rfl
      rotate_left
      ·simp only [Act.put, List.setIfInBounds_toArray, List.set_cons_zero, List.set_cons_succ, i64_w, i32_w]
       rfl
      refine take_ (i := 10) (N := some 34) (v := ?_) (a' := ?_) #[true, true, true, true, true, true, true, true, true, true, true, false, false, false, false, false] rfl rfl (by kernel_rfl) (fun _ _ _ h => h) (Or.inl ⟨by rfl, ?_⟩) hHeld ?_ ?_
      rotate_left
      ·rintro w' ⟨s0, s1, s2, s3, s4⟩
       go_simp
       with_reducible rfl
      rotate_left
      ·simp only [Act.put, List.setIfInBounds_toArray, List.set_cons_zero, List.set_cons_succ, i64_w, i32_w]
       rfl
      refine pure_ (i := 11) (N := some 35) (v := ?_) (a' := ?_) #[true, true, true, true, true, true, true, true, true, true, true, true, false, false, false, false] rfl rfl (by kernel_rfl) (fun _ _ _ h => h) (Or.inl ⟨by rfl, ?_⟩) ?_ ?_
      rotate_left
      ·intro w'
       go_simp
       with_reducible rfl
      rotate_left
      ·simp only [Act.put, List.setIfInBounds_toArray, List.set_cons_zero, List.set_cons_succ, i64_w, i32_w]
       rfl
      refine take_ (i := 12) (N := some 36) (v := ?_) (a' := ?_) #[true, true, true, true, true, true, true, true, true, true, true, true, true, false, false, false] rfl rfl (by kernel_rfl) (fun _ _ _ h => h) (Or.inl ⟨by rfl, ?_⟩) hHeld ?_ ?_
      rotate_left
      ·rintro w' ⟨s0, s1, s2, s3, s4⟩
       go_simp
       with_reducible rfl
      rotate_left
      ·simp only [Act.put, List.setIfInBounds_toArray, List.set_cons_zero, List.set_cons_succ, i64_w, i32_w]
       rfl
      refine one_ (i := 13) (N := some 37) #[true, true, true, true, true, true, true, true, true, true, true, true, true, true, false, false] rfl rfl (by kernel_rfl) (by decide) (fun K hK => ?_)
      refine value_ (w1 := ?_) (v := ?_) (by rfl) rfl ?_ ?_
      rotate_left 2
      ·go_simp
       constructor
       ·rfl
       ·rfl
      have hs := HS.out.lit_ro kInt 3 (xs := [x]) (inner := [.int .i64 x]) (Reps.one (PK.scalar _) (Reps.none _ _)) (by simp)
      clear HS; have HS := Aside0.mk hs; clear hs
      refine hK.out _ _ ⟨((HS.out.box 0 rfl).cell 1 rfl), (pw_cell_below HS.out.below HY.out.1), ((HS.out.box 0 rfl).cell 0 rfl), (pw_cell_below HS.out.below HYF.out.1), (pw_cell_below HS.out.below HYF.out.2)⟩ (fun hHeld => ?_)
      clear hK K
      refine norm_ (a' := ?_) ?_ ?_
      rotate_left
      ·show Act.put _ (some 37) _ = _
       simp only [Act.put, List.setIfInBounds_toArray, List.set_cons_zero, List.set_cons_succ, i64_w, i32_w]
       rfl
      refine last_ (i := 14) (N := some 38) #[true, true, true, true, true, true, true, true, true, true, true, true, true, true, true, false] rfl rfl (by kernel_rfl) (by decide) (fun K hK => ?_)
      refine sgrow_step kInt 5 (by rfl) rfl (.tmp 24) (.tmp 37) 25 3 (.int .i64 0) 8 rfl Tryd.underlying25 info3' rfl (by decide) (by omega) _ _ R [x] rfl rfl HS.out rfl (HS.out.ro 6 rfl) (by have := HRL2.out; rw [List.length_singleton]; omega) ?_
      intro v1 w1 hs
      clear HS; have HS := Aside0.mk hs; clear hs
      refine hK.out _ _ ?_
      clear hK K
      refine norm_ (a' := ?_) ?_ ?_
      rotate_left
      ·show Act.put _ (some 38) _ = _
       simp only [Act.put, List.setIfInBounds_toArray, List.set_cons_zero, List.set_cons_succ, i64_w, i32_w]
       rfl
      refine pure_ (i := 15) (N := some 6) (v := ?_) (a' := ?_) #[true, true, true, true, true, true, true, true, true, true, true, true, true, true, true, true] rfl rfl (by kernel_rfl) (fun _ _ _ h => h) (Or.inl ⟨by rfl, ?_⟩) ?_ ?_
      rotate_left
      ·intro w'
       go_simp
       with_reducible rfl
      rotate_left
      ·simp only [Act.put, List.setIfInBounds_toArray, List.set_cons_zero, List.set_cons_succ, i64_w, i32_w]
       rfl
      refine done_ (by kernel_rfl) ?_
      go_wp2_with fail
      go_roundg c1
      case measure => omega
      case rel => exact ⟨c + 1, _, by go_num, ⟨by have := HC.out; omega⟩, HR3, ⟨HS.out.take 6⟩⟩
end Go.Proofs.YtfbfeimildkigaaDoor.P
namespace Go.Proofs.YtfbfeimildkigaaDoor.P
open Go Go.RowKit Go.Proofs.YtfbfeimildkigaaDoorW.PrintWords Go.Proofs.YtfbfeimildkigaaDoorW.PrintLast Go.Proofs.YtfbfeimildkigaaDoorW.PrintMore Go.Proofs.YtfbfeimildkigaaDoor.PX
set_option linter.unusedVariables false
set_option linter.unusedSimpArgs false
set_option maxRecDepth 100000
def long14 (cl : List Int) (next : List (List Int)) (tags s : List Int) : Int × Int :=
 if TSound cl next tags then long13 (next.map (backRow cl)) tags s else (0, -1)
set_option maxHeartbeats 16000000 in
theorem long14_calls (X : Nat → Prop) (vc vn vt vs : Value) (cl : List Int) (next : List (List Int)) (tags s : List Int) (w : World) (hX : ∀ k, X k → k < w.heap.size)
  (hc : PV kU8 X w vc cl) (hn : PV kRow X w vn next) (ht : PV kInt X w vt tags) (hs : PV kU8 X w vs s) (huc : U8s cl) (hu : U8s s) :
  Calls Tryd.prog 18 #[.agg #[vc, vn, vt], vs] w fun e w' => e = .returned (.tuple #[.int .i64 (long14 cl next tags s).1, .int .i64 (long14 cl next tags s).2]) ∧ Below w.heap.size w w' := by
 have H0 := Aside0.mk hc
 have H1 := Aside0.mk hn
 have H2 := Aside0.mk ht
 have H3 := Aside0.mk hs
 have HUC := Aside0.mk huc
 have HU := Aside0.mk hu
 obtain ⟨Ac, cc, rfl, _, _⟩ := hc.now
 obtain ⟨An, cn, rfl, _, _⟩ := hn.now
 obtain ⟨At, ct, rfl, _, _⟩ := ht.now
 obtain ⟨As, cs, rfl, _, _⟩ := hs.now
 have HS := Aside0.mk ((Sep.start hX).push_box [.slice Ac cl.length cc, .slice An next.length cn, .slice At tags.length ct] 31)
 obtain ⟨r, hr⟩ : ∃ r, r = long14 cl next tags s := ⟨_, rfl⟩
 rw [← hr]
 obtain ⟨b, hb⟩ : ∃ b, b = back14 cl next tags := ⟨_, rfl⟩
 have HB := Aside0.mk hb.symm
 have HR := Aside0.mk (show (b.2 = 1 ∧ r = (0, -1)) ∨ (b.2 = 0 ∧ r = long13 b.1.1 b.1.2 s) by
  rw [hr, hb, back14, long14]
  by_cases h : TSound cl next tags
  ·rw [if_pos h, if_pos h]; exact .inr ⟨rfl, rfl⟩
  ·rw [if_neg h, if_neg h]; exact .inl ⟨rfl, rfl⟩)
 clear hc hn ht hs huc hu hX hr hb
 obtain ⟨⟨bn, bt⟩, e⟩ := b
 go_enter Tryd.func18, Tryd.ntmps18
 go_upto_if 14 with (first
  | (go_at_call 16; (with_reducible refine (back14_calls _ _ _ _ cl next tags _ HS.out.lt (HS.out.arg H0.out) (HS.out.arg H1.out) (HS.out.arg H2.out) HUC.out).mono ?_); rintro ee w5 ⟨v0, v1, rfl, h0, h1, hb⟩; rw [HB.out] at h0 h1 ⊢; have hs := (HS.out.push_ro hb h0).push_ro (Below.refl _ _) (h1.to (fun _ _ h => Ys_ro h)); clear h0 h1 hb; obtain ⟨B0, d0, e0⟩ := hs.rform 1 rfl; subst e0; obtain ⟨B1, d1, e1⟩ := hs.rform 2 rfl; subst e1; clear HS; have HS := Aside0.mk hs; clear hs))
 have hs := HS.out.push_box [.slice B0 bn.length d0, .slice B1 bt.length d1] 27
 obtain ⟨g2, hg2⟩ : ∃ g, g = w5.heap.size := ⟨_, rfl⟩
 rw [← hg2] at hs ⊢
 clear hg2 HS
 have HS := Aside0.mk hs
 clear hs
 rcases HR.out with ⟨he, hr⟩ | ⟨he, hr⟩
 case inl =>
  have HE := Aside0.mk hr
  have he' : e = 1 := he
  subst he'
  clear hr he HR
  go_wp2_with fail
  go_ret2
  rw [HE.out]
  exact ⟨rfl, HS.out.below⟩
 case inr =>
  have HE := Aside0.mk (show long13 bn bt s = r from hr.symm)
  have he' : e = 0 := he
  subst he'
  clear hr he HR
  have y0 := (HS.out.box 3 rfl).cell 0 rfl
  have y1 := (HS.out.box 3 rfl).cell 1 rfl
  go_wp2_with (first
   | (go_at_call 22; (with_reducible refine (long13_calls _ _ _ _ bn bt s _ HS.out.lt (HS.out.ro 1 rfl) (HS.out.ro 2 rfl) (HS.out.arg H3.out) HU.out).mono ?_); rintro ee w7 ⟨rfl, hb⟩; rw [HE.out]; have hs := HS.out.call hb; clear hb; clear HS; have HS := Aside0.mk hs; clear hs))
  go_ret2
  exact ⟨rfl, HS.out.below⟩
end Go.Proofs.YtfbfeimildkigaaDoor.P
