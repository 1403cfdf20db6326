/- Part 14 of the proof: T07, V6, V7, V12, VA. -/
import Derived.Test.YtplhfgobeicegaaGreatDoorPd12
import Derived.Test.YtplhfgobeicegaaGreatDoorPd13
namespace Go.Proofs.YtplhfgobeicegaaGreatDoor.P
open Go Go.RowKit Go.Proofs.YtplhfgobeicegaaGreatDoorW.PrintWords Go.Proofs.YtplhfgobeicegaaGreatDoorW.PrintLast Go.Proofs.YtplhfgobeicegaaGreatDoorW.PrintMore Go.Proofs.YtplhfgobeicegaaGreatDoor.PX Go.Proofs.YtplhfgobeicegaaGreatDoor.IT
set_option linter.unusedVariables false
set_option linter.unusedSimpArgs false
set_option maxRecDepth 100000
set_option maxHeartbeats 16000000 in
theorem csound_calls (X : Nat → Prop) (vc vn vt : Value) (cl : List Int) (next : List (List Int)) (tags : List Int) (w : World) (hX : ∀ k, X k → k < w.heap.size) (hc : PV kU8 X w vc cl) (hn : PV kRow X w vn next) (ht : PV kInt X w vt tags) (hu : U8s cl) :
  Calls Tryz.prog 15 #[.agg #[vc, vn, vt]] w fun e w' => e = .returned (.bool (decide (TSound cl next tags))) ∧ Below w.heap.size w w' := by
 have H0 := aM hc
 have H1 := aM hn
 have H2 := aM ht
 have HU := aM hu
 have m1 := hn.max
 have m2 := ht.max
 obtain ⟨Ac, cc, rfl, _, _⟩ := hc.now
 obtain ⟨An, cn, rfl, _, _⟩ := hn.now
 obtain ⟨At, ct, rfl, _, _⟩ := ht.now
 have HS := aM ((Sep.start hX).push_box [.slice Ac cl.length cc, .slice An next.length cn, .slice At tags.length ct] 28)
 obtain ⟨n, hnn, hn256⟩ := many14_le hu
 obtain ⟨q, hq⟩ : ∃ q, q = decide (TSound cl next tags) := ⟨_, rfl⟩
 rw [← hq]
 have HQ := aM (show q = true ↔ TSoundN n next tags by rw [hq, decide_eq_true_iff, TSound, hnn]; exact Iff.rfl)
 have HN := aM hnn
 clear hc hn ht hX hq hu hnn
 have no : ¬ TSoundN n next tags → q = false := fun h => by
  cases hqq : q
  ·rfl
  ·exact absurd (HQ.out.1 hqq) h
 have HNO := aM no
 clear no
 go_enter Tryz.func15, Tryz.ntmps15
 go_wp2_with fail
 obtain ⟨wa, hwa⟩ : ∃ x, x = w.alloc (.cells #[.slice Ac cl.length cc, .slice An next.length cn, .slice At tags.length ct] 28) := ⟨_, rfl⟩
 rw [← hwa] at HS ⊢
 obtain ⟨g0, hg0⟩ : ∃ g, g = w.heap.size := ⟨_, rfl⟩
 rw [← hg0] at HS ⊢
 clear hwa hg0
 have hs := HS.out.drew
 clear HS; have HS := aM hs; clear hs
 refine start_ (n := 9) (S := fun w' => w'.cell? ⟨g0, 0, none⟩ = some (.slice Ac cl.length cc) ∧ w'.cell? ⟨g0, 2, none⟩ = some (.slice At tags.length ct)) (ds := [8]) #[false, false, false, false, false, false, false, false, false] (by kernel_rfl) rfl rfl ⟨((HS.out.box 0 rfl).cell 0 rfl), ((HS.out.box 0 rfl).cell 2 rfl)⟩ (fun hHeld => ?_)
 generalize wa.drew = wd at HS hHeld ⊢
 refine pure_ (i := 0) (N := some 10) (v := ?_) (a' := ?_) (bv 9 1) rfl rfl (by kernel_rfl) (fun _ _ _ h => h) (Or.inl ⟨by rfl, ?_⟩) ?_ ?_
 rotate_left
 ·intro w'
  go_simp
  with_reducible rfl
 rotate_left
 ·simp only [Act.put, qA, qB, qC, i64_w, i32_w]
  rfl
 refine pure_ (i := 3) (N := some 13) (v := ?_) (a' := ?_) (bv 9 9) rfl rfl (by kernel_rfl) (fun _ _ _ h => h) (Or.inl ⟨by rfl, ?_⟩) ?_ ?_
 rotate_left
 ·intro w'
  go_simp
  with_reducible rfl
 rotate_left
 ·simp only [Act.put, qA, qB, qC, i64_w, i32_w]
  rfl
 refine take_ (i := 1) (N := some 11) (v := ?_) (a' := ?_) (bv 9 11) rfl rfl (by kernel_rfl) (fun _ _ _ h => h) (Or.inl ⟨by rfl, ?_⟩) hHeld ?_ ?_
 rotate_left
 ·rintro w' ⟨s0, s1⟩
  go_simp
  with_reducible rfl
 rotate_left
 ·simp only [Act.put, qA, qB, qC, i64_w, i32_w]
  rfl
 refine take_ (i := 4) (N := some 14) (v := ?_) (a' := ?_) (bv 9 27) rfl rfl (by kernel_rfl) (fun _ _ _ h => h) (Or.inl ⟨by rfl, ?_⟩) hHeld ?_ ?_
 rotate_left
 ·rintro w' ⟨s0, s1⟩
  go_simp
  with_reducible rfl
 rotate_left
 ·simp only [Act.put, qA, qB, qC, i64_w, i32_w]
  rfl
 refine pure_ (i := 5) (N := some 15) (v := ?_) (a' := ?_) (bv 9 59) rfl rfl (by kernel_rfl) (fun _ _ _ h => h) (Or.inl ⟨by rfl, ?_⟩) ?_ ?_
 rotate_left
 ·intro w'
  go_simp
  with_reducible rfl
 rotate_left
 ·simp only [Act.put, qA, qB, qC, i64_w, i32_w]
  rfl
 refine join_ (σ := Nat) 2 (bv 9 127) (fun s => [(12, .int .i64 n), (4, .pointer (some ⟨s, 0, none⟩))]) (fun s w' => PX.Sep X w w' ([.box g0 28 [.slice Ac cl.length cc, .slice An next.length cn, .slice At tags.length ct], .box s 3 [.int .i64 0]] : List PX.Item)) ?_ ?_
 rotate_left
 ·intro hCont
  refine two_ (i := 2) (j := 6) (Ni := some 12) (Nj := some 4) (bv 9 63) (bv 9 123) rfl rfl rfl rfl (by kernel_rfl) (by decide) (by decide) (fun K hK => ?_) (fun K hK => ?_)
  ·skip
   refine goes_ Tryz.func42 (by kernel_rfl) rfl #[.slice Ac cl.length cc] (by rfl) rfl rfl (by simp only [List.map_toArray, List.map_cons, List.map_nil]; rfl) ?_
   with_reducible refine (clmany_calls _ _ cl _ (HS.out.arg H0.out) HU.out).mono ?_
   rintro e w6 ⟨rfl, hb6⟩
   refine ⟨_, rfl, ?_⟩
   rw [HN.out]
   have hs := HS.out.call hb6
   clear hb6
   clear HS; have HS := aM hs; clear hs
   refine hK.out _ _ ⟨((HS.out.box 0 rfl).cell 0 rfl), ((HS.out.box 0 rfl).cell 2 rfl)⟩ (fun hHeld => ?_)
   clear hK K
   refine norm_ (a' := ?_) ?_ ?_
   rotate_left
   ·show Act.put _ (some 12) _ = _
    simp only [Act.put, qA, qB, qC, i64_w, i32_w]
    rfl
   refine one_ (i := 6) (N := some 4) (bv 9 127) rfl rfl (by kernel_rfl) (by decide) (fun K hK => ?_)
   refine value_ (w1 := ?_) (v := ?_) (by rfl) rfl ?_ ?_
   rotate_left 2
   ·go_simp
    constructor
    ·rfl
    ·rfl
   have hs := HS.out.push_box' [.int .i64 0] 3 (w6.heap.size) (by simp)
   clear HS; have HS := aM hs; clear hs
   refine hK.out _ _ ⟨((HS.out.box 0 rfl).cell 0 rfl), ((HS.out.box 0 rfl).cell 2 rfl)⟩ (fun hHeld => ?_)
   clear hK K
   refine norm_ (a' := ?_) ?_ ?_
   rotate_left
   ·show Act.put _ (some 4) _ = _
    simp only [Act.put, qA, qB, qC, i64_w, i32_w]
    rfl
   exact norm_ (by simp only [putAll, Act.put, qA, qB, qC]) (hCont w6.heap.size _ HS.out)
  ·skip
   refine value_ (w1 := ?_) (v := ?_) (by rfl) rfl ?_ ?_
   rotate_left 2
   ·go_simp
    constructor
    ·rfl
    ·rfl
   have hs := HS.out.push_box' [.int .i64 0] 3 (wd.heap.size) (by simp)
   clear HS; have HS := aM hs; clear hs
   refine hK.out _ _ ⟨((HS.out.box 0 rfl).cell 0 rfl), ((HS.out.box 0 rfl).cell 2 rfl)⟩ (fun hHeld => ?_)
   clear hK K
   refine norm_ (a' := ?_) ?_ ?_
   rotate_left
   ·show Act.put _ (some 4) _ = _
    simp only [Act.put, qA, qB, qC, i64_w, i32_w]
    rfl
   refine one_ (i := 2) (N := some 12) (bv 9 127) rfl rfl (by kernel_rfl) (by decide) (fun K hK => ?_)
   refine goes_ Tryz.func42 (by kernel_rfl) rfl #[.slice Ac cl.length cc] (by rfl) rfl rfl (by simp only [List.map_toArray, List.map_cons, List.map_nil]; rfl) ?_
   with_reducible refine (clmany_calls _ _ cl _ (HS.out.arg H0.out) HU.out).mono ?_
   rintro e w6 ⟨rfl, hb6⟩
   refine ⟨_, rfl, ?_⟩
   rw [HN.out]
   have hs := HS.out.call hb6
   clear hb6
   clear HS; have HS := aM hs; clear hs
   refine hK.out _ _ ⟨((HS.out.box 0 rfl).cell 0 rfl), ((HS.out.box 0 rfl).cell 2 rfl)⟩ (fun hHeld => ?_)
   clear hK K
   refine norm_ (a' := ?_) ?_ ?_
   rotate_left
   ·show Act.put _ (some 12) _ = _
    simp only [Act.put, qA, qB, qC, i64_w, i32_w]
    rfl
   exact norm_ (by simp only [putAll, Act.put, qA, qB, qC]) (hCont wd.heap.size _ HS.out)
 rintro g1 w5 hs
 clear hHeld
 clear HS; have HS := aM hs; clear hs
 have fz := (HS.out.box 1 rfl).open_ 0
 have yz := (HS.out.box 1 rfl).cell 0 rfl
 have hHeld : True := trivial
 refine norm_ (a' := ?_) ?_ ?_
 rotate_left
 ·simp only [putAll, Act.put, qA, qB, qC]
  rfl
 refine pure_ (i := 7) (N := some 3) (v := ?_) (a' := ?_) (bv 9 255) rfl rfl (by kernel_rfl) (fun _ _ _ h => h) (Or.inl ⟨by rfl, ?_⟩) ?_ ?_
 rotate_left
 ·intro w'
  go_simp
  with_reducible rfl
 rotate_left
 ·simp only [Act.put, qA, qB, qC, i64_w, i32_w]
  rfl
 refine last_ (i := 8) (N := none) #[true, true, true, true, true, true, true, true, true] rfl rfl (by kernel_rfl) (by decide) (fun K hK => ?_)
 refine skip_ (w1 := ?_) (by rfl) rfl ?_ ?_
 rotate_left
 ·go_simp
  rfl
 have hs := HS.out.set_box 1 rfl 0 (.int .i64 tags.length)
 clear HS; have HS := aM hs; clear hs
 refine hK.out _ _ ?_
 clear hK K
 refine done_ (by kernel_rfl) ?_
 obtain ⟨w6, hw6⟩ : ∃ x, x = w5.setCell ⟨g1, 0, none⟩ (.int .i64 (tags.length : Int)) := ⟨_, rfl⟩
 rw [← hw6] at HS ⊢
 clear hw6 fz yz
 have yk := (HS.out.box 1 rfl).cell 0 rfl
 have y0 := (HS.out.box 0 rfl).cell 1 rfl
 by_cases hh : THead n next tags
 case neg =>
  have q0 : q = false := HNO.out (fun h => hh h.1)
  clear HQ HNO
  subst q0
  unfold THead at hh
  rcases Nat.eq_zero_or_pos n with h0 | h0
  case' inl =>
   have d0 : ((n : Int) == 0) = true := beq_iff_eq.mpr (by omega)
  case' inr =>
   have d0 : ((n : Int) == 0) = false := bF (by omega)
   rcases Nat.lt_or_ge tags.length 1 with h1 | h1
  case' inr.inl =>
   have d1 : ((tags.length : Int) == 0) = true := beq_iff_eq.mpr (by omega)
  case' inr.inr =>
   have d1 : ((tags.length : Int) == 0) = false := bF (by omega)
   rcases Nat.lt_or_ge 40000 tags.length with h2 | h2
  case' inr.inr.inl =>
   have d2 : decide ((tags.length : Int) > 40000) = true := dT (by omega)
   have d2' : decide (40000 < tags.length) = true := dT h2
  case' inr.inr.inr =>
   have d2 : decide ((tags.length : Int) > 40000) = false := dF (by omega)
   have d2' : decide (40000 < tags.length) = false := dF (by omega)
   have d3 : ((next.length : Int) == (tags.length : Int)) = false := bF (by omega)
   have d3' : ((next.length : Int) != (tags.length : Int)) = true := bne_iff_ne.mpr (by omega)
  all_goals
   clear hh
   go_wp2_with fail
   go_ret
   exact ⟨rfl, HS.out.below⟩
 case pos =>
  have HH := aM hh
  obtain ⟨h0, h1, h2, h3⟩ := hh
  have d0 : ((n : Int) == 0) = false := bF (by omega)
  have d1 : ((tags.length : Int) == 0) = false := bF (by omega)
  have d2 : decide ((tags.length : Int) > 40000) = false := dF (by omega)
  have d2' : decide (40000 < tags.length) = false := dF (by omega)
  have d3 : ((next.length : Int) == (tags.length : Int)) = true := beq_iff_eq.mpr (by omega)
  have d3' : ((next.length : Int) != (tags.length : Int)) = false := bne_eq_false_iff_eq.mpr (by omega)
  have HL3 := aM h3
  clear h0 h1 h2 h3
  go_wp2_with fail
  clear d0 d1 d2 d2' d3 d3' yk y0
  go_loopg [37] next.length (fun m v37 w' => ∃ (i : Nat), v37 = .int .i64 i ∧ Aside0 (i + m = next.length) ∧ Aside0 (∀ i', i' < i → TRow n next tags i') ∧ Aside0 (Sep X w w' ([.box g0 28 [.slice Ac cl.length cc, .slice An next.length cn, .slice At tags.length ct], .box g1 3 [.int .i64 tags.length]] : List PX.Item)))
  case atStart => exact ⟨0, rfl, ⟨by omega⟩, ⟨fun i' h => by omega⟩, HS⟩
  case round =>
   clear HS
   obtain ⟨i, rfl, HJ, HI, HS⟩ := hrel
   cases gk with
   | zero =>
    have e1 : decide ((i : Int) < (next.length : Int)) = false := dF (by have := HJ.out; omega)
    have e2 : decide (i < next.length) = false := dF (by have := HJ.out; omega)
    have HALL := aM (show ∀ i', i' < tags.length → TRow n next tags i' from fun i' h => HI.out i' (by have := HJ.out; have := HL3.out; omega))
    clear HI HJ HNO
    have HFIT := aM (show ∀ a, a < n → ∀ row ∈ next, a < row.length ∧ Fits (row.getD a 0) from fun a ha row hrow => by
     obtain ⟨j, hj, e⟩ := List.getElem_of_mem hrow
     have h1 := HALL.out j (by have := HL3.out; omega)
     unfold TRow at h1
     rw [show next.getD j [] = row by rw [List.getD_eq_getElem?_getD, List.getElem?_eq_getElem hj]; exact e] at h1
     have h2 := h1.2.2 a ha
     have h3 := HH.out.2.2.1
     unfold Fits
     omega)
    have HQ2 := aM (show q = true ↔ ∀ a, a < n → ∀ b, b < a → keyL next a ≠ keyL next b by
     rw [HQ.out]
     unfold TSoundN
     constructor
     ·intro h a ha b hb he
      have h1 := (keyL_iff (fun row hr => (HFIT.out a ha row hr).2) (fun row hr => (HFIT.out b (by omega) row hr).2)).1 he
      rw [h.2.2 a ha b hb] at h1
      cases h1
     ·intro h
      refine ⟨HH.out, HALL.out, fun a ha b hb => ?_⟩
      cases hsc : sameCol next a b
      ·rfl
      ·exact absurd ((keyL_iff (fun row hr => (HFIT.out a ha row hr).2) (fun row hr => (HFIT.out b (by omega) row hr).2)).2 hsc) (h a ha b hb))
    have hmm := run_makeMap (P := Tryz.prog) 85 wr
    have HLN := aM (show next.length ≤ 40000 by have := HH.out.2.2.1; have := HL3.out; omega)
    clear HALL HQ HH
    go_wp2_with fail
    have hs := HS.out.push_map Tryz.prog 9 3
    obtain ⟨gm, hgm⟩ : ∃ g, g = wr.heap.size := ⟨_, rfl⟩
    rw [← hgm] at hs ⊢
    clear hgm HS hmm e1 e2
    have HS := aM hs
    clear hs
    go_loopg [9, 62] n (fun m v9 v62 w' => ∃ (c : Nat) (D : DataW Unit), v62 = .int .i64 c ∧ Aside0 (c + m = n) ∧ Aside0 (MapD (keyL next) c D) ∧ Aside0 (Sep X w w' ([.box g0 28 [.slice Ac cl.length cc, .slice An next.length cn, .slice At tags.length ct], .box g1 3 [.int .i64 tags.length], .obj gm (MapO Tryz.prog 9 3 c D)] : List PX.Item)))
    case atStart => exact ⟨0, .map [], rfl, ⟨by omega⟩, ⟨MapD.start _⟩, HS⟩
    case round =>
     clear HS
     obtain ⟨c, D, rfl, HC, HD, HS⟩ := hrel
     have y0 := (HS.out.box 0 rfl).cell 1 rfl
     cases gk with
     | zero =>
      have hc : c = n := by have := HC.out; omega
      have e1 : decide ((c : Int) < (n : Int)) = false := dF (by omega)
      have e2 : decide (c < n) = false := dF (by omega)
      have lm := fun ty => (HS.out.map 2 rfl).len Tryz.underlying85 ty
      have heq := HD.out.eq
      rw [hc] at heq
      obtain ⟨z, hz⟩ : ∃ z, z = Maps.size D := ⟨_, rfl⟩
      rw [← hz] at heq lm
      have HE := aM (show q = true ↔ z = n from HQ2.out.trans heq.symm)
      clear hc hz heq HD HQ2
      rcases Nat.decEq z n with h | h
      case' isTrue =>
       have d1 : ((z : Int) == (n : Int)) = true := beq_iff_eq.mpr (by omega)
       have q0 : q = true := HE.out.2 h
      case' isFalse =>
       have d1 : ((z : Int) == (n : Int)) = false := bF (by omega)
       have q0 : q = false := by
        cases hqq : q
        ·rfl
        ·exact absurd (HE.out.1 hqq) h
      all_goals
       clear h HE
       subst q0
       go_wp2_with fail
       go_ret
       exact ⟨rfl, HS.out.below⟩
     | succ k1 =>
      have hc : c < n := by have := HC.out; omega
      have e1 : decide ((c : Int) < (n : Int)) = true := dT (by omega)
      have e2 : decide (c < n) = true := dT hc
      have hkey := key_string Tryz.underlying9 next c (by have := HLN.out; omega)
      have HM := aM (HD.out.step (keyL_key next c) (.lit (.int .i64 (c : Int))))
      have hcw : (Lit.int .i64 (c : Int)).wf = true := by simp [Lit.wf, IntKind.min, IntKind.max, IntKind.bits, IntKind.signed]; omega
      go_wp2_with (first
       | (go_at_call 45; (with_reducible refine (column_calls _ _ next c _ HS.out.lt (HS.out.arg H1.out) (fun row hr => (HFIT.out c hc row hr).1) (fun row hr => (HFIT.out c hc row hr).2) (by have := HLN.out; omega)).mono ?_); rintro ee w7 ⟨rfl, hb⟩; have hs := HS.out.call hb; clear hb; clear HS; have HS := aM hs; clear hs)
       | (at_mapUpdate; refine wpList_mapUpdate_in _ rfl _ _ _ 85 rfl 9 3 (Go.Maps.string_keyed Tryz.underlying9) Tryz.underlying85 (plainElem Tryz.prog 3) gm c D rfl (HS.out.map 2 rfl) (by unfold maxLen; omega) _ _ _ rfl rfl hkey (.lit (.int .i64 (c : Int))) [] (plainElem_int Tryz.underlying3 hcw) ?_; intro w8 hown hturn; have hs := HS.out.set_map 2 rfl hown hturn; clear HS hown hturn; have HS := aM hs; clear hs))
      go_roundg k1
      case measure => omega
      case rel => exact ⟨c + 1, _, by go_num, ⟨by have := HC.out; omega⟩, HM, HS⟩
   | succ k1 =>
    have hin : i < next.length := by have := HJ.out; omega
    have hi : i < tags.length := by rw [← HL3.out]; exact hin
    have e1 : decide ((i : Int) < (next.length : Int)) = true := dT (by omega)
    have e2 : decide (i < next.length) = true := dT hin
    have hi0 : (0 : Int) ≤ (i : Int) := by omega
    have hi1 : (i : Int) < (tags.length : Int) := by omega
    have hi2 : (i : Int) < (next.length : Int) := by omega
    obtain ⟨an, cn', u, en, hu, yn0⟩ := H1.out.row i hin
    cases en
    obtain ⟨at_, ct', et, yt0⟩ := int_cell H2.out i hi
    cases et
    obtain ⟨Au, cu, rfl, _, _⟩ := hu.now
    have HR := aM hu
    have y0 := (HS.out.box 0 rfl).cell 1 rfl
    have y1 := (HS.out.box 0 rfl).cell 2 rfl
    have yn := pw_cell_below HS.out.below yn0
    have yt := pw_cell_below HS.out.below yt0
    have HROW := aM (Iff.intro (fun (h : TRow n next tags i) => (show (next.getD i []).length = n ∧ -1 ≤ tags.getD i 0 ∧ ∀ j, j < n → -1 ≤ (next.getD i []).getD j 0 ∧ (next.getD i []).getD j 0 < (tags.length : Int) from h)) (fun (h : (next.getD i []).length = n ∧ -1 ≤ tags.getD i 0 ∧ ∀ j, j < n → -1 ≤ (next.getD i []).getD j 0 ∧ (next.getD i []).getD j 0 < (tags.length : Int)) => (show TRow n next tags i from h)))
    have HNR := aM (fun (h : ¬ TRow n next tags i) => HNO.out (fun hs => h (hs.2.1 i hi)))
    have HST := aM (fun (h : TRow n next tags i) => (show ∀ i', i' < i + 1 → TRow n next tags i' from fun i' h1 => (Nat.lt_or_ge i' i).elim (HI.out i') (fun h2 => by
     have : i' = i := by omega
     rw [this]; exact h)))
    generalize next.getD i [] = row at *
    generalize tags.getD i 0 = tg at *
    clear hu yn0 yt0
    rcases Decidable.em (row.length = n ∧ -1 ≤ tg) with hr | hr
    case inr =>
     have q0 : q = false := HNR.out (fun h => hr ⟨(HROW.out.1 h).1, (HROW.out.1 h).2.1⟩)
     clear HQ HNO HNR HROW HST
     subst q0
     rcases Decidable.em (row.length = n) with h4 | h4
     case' inl =>
      have d4 : ((row.length : Int) == (n : Int)) = true := beq_iff_eq.mpr (by omega)
      have d4' : ((row.length : Int) != (n : Int)) = false := bne_eq_false_iff_eq.mpr (by omega)
      have d5 : decide (tg < -1) = true := dT (by omega)
     case' inr =>
      have d4 : ((row.length : Int) == (n : Int)) = false := bF (by omega)
      have d4' : ((row.length : Int) != (n : Int)) = true := bne_iff_ne.mpr (by omega)
     all_goals
      clear hr h4
      go_wp2_with fail
      go_ret
      exact ⟨rfl, HS.out.below⟩
    case inl =>
     obtain ⟨h4, h5⟩ := hr
     have d4 : ((row.length : Int) == (n : Int)) = true := beq_iff_eq.mpr (by omega)
     have d4' : ((row.length : Int) != (n : Int)) = false := bne_eq_false_iff_eq.mpr (by omega)
     have d5 : decide (tg < -1) = false := dF (by omega)
     have HAO := aM (any_odd tags.length row)
     have HPR := aM (odd14_pred tags.length g1 wr (HS.out.box 1 rfl).lt ((HS.out.box 1 rfl).cell 0 rfl))
     have H45 := aM (And.intro h4 h5)
     obtain ⟨a, ha⟩ : ∃ a, a = row.any (oddB tags.length) := ⟨_, rfl⟩
     have HA := aM ha.symm
     rw [← ha] at HAO
     have eg : ∀ args w, (callFunc 43 args).run Tryz.prog w = .ok (.enter 43 args) w := Go.Proofs.enters_of Tryz.func43 (by kernel_rfl) rfl
     clear h4 h5 ha
     cases a
     case true =>
      have q0 : q = false := HNR.out (fun h => by have := HAO.out.2 (fun j hj => (HROW.out.1 h).2.2 j (by rw [← H45.out.1]; exact hj)); cases this)
      clear HQ HNO HNR HROW HST
      subst q0
      go_wp2_with (first
       | (go_at_call 44; (with_reducible refine (containsFunc_calls _ _ row _ (HS.out.arg HR.out) _ _ eg _ HPR.out).mono ?_); rintro ee w5 ⟨rfl, hb⟩; rw [HA.out]; have hs := HS.out.call hb; clear hb; clear HS; have HS := aM hs; clear hs))
      go_ret
      exact ⟨rfl, HS.out.below⟩
     case false =>
      have HT2 := aM (HST.out (HROW.out.2 ⟨H45.out.1, H45.out.2, fun j hj => HAO.out.1 rfl j (by rw [H45.out.1]; exact hj)⟩))
      clear HNR HROW HST HI
      go_wp2_with (first
       | (go_at_call 44; (with_reducible refine (containsFunc_calls _ _ row _ (HS.out.arg HR.out) _ _ eg _ HPR.out).mono ?_); rintro ee w5 ⟨rfl, hb⟩; rw [HA.out]; have hs := HS.out.call hb; clear hb; clear HS; have HS := aM hs; clear hs))
      go_roundg k1
      case measure => omega
      case rel => exact ⟨i + 1, by go_num, ⟨by have := HJ.out; omega⟩, HT2, HS⟩
end Go.Proofs.YtplhfgobeicegaaGreatDoor.P
namespace Go.Proofs.YtplhfgobeicegaaGreatDoor.P
open Go Go.RowKit Go.Proofs.YtplhfgobeicegaaGreatDoorW.PrintWords Go.Proofs.YtplhfgobeicegaaGreatDoorW.PrintLast Go.Proofs.YtplhfgobeicegaaGreatDoorW.PrintMore Go.Proofs.YtplhfgobeicegaaGreatDoor.PX
set_option linter.unusedVariables false
set_option linter.unusedSimpArgs false
set_option maxRecDepth 100000
theorem and16 {n : Nat} (h : n < 4294967296) : bits .and .u32 (n : Int) 65535 = ((n % 65536 : Nat) : Int) := by
 have e := u32_and_nat n 65535 h (by omega)
 rw [show ((65535 : Nat) : Int) = 65535 from rfl] at e
 rw [e, show n &&& 65535 = n % 65536 from Nat.and_two_pow_sub_one_eq_mod n 16]
set_option maxHeartbeats 16000000 in
theorem encode_calls (X : Nat → Prop) (vc vn vt : Value) (cl : List Int) (next : List (List Int)) (tags : List Int) (w : World) (hX : ∀ k, X k → k < w.heap.size) (hc : PV kU8 X w vc cl) (hn : PV kRow X w vn next) (ht : PV kInt X w vt tags) (hu : U8s cl) :
  Calls Tryz.prog 6 #[.agg #[vc, vn, vt]] w fun e w' => ∃ v, e = .returned (.tuple #[v, .int .u16 (encR cl next tags).2]) ∧ Sep X w w' [.row kU8 5 v (encR cl next tags).1] := by
 have H0 := aM hc
 have H1 := aM hn
 have H2 := aM ht
 have HU := aM hu
 have m0 := hc.max
 have m1 := hn.max
 have m2 := ht.max
 obtain ⟨Ac, cc, rfl, _, _⟩ := hc.now
 obtain ⟨An, cn, rfl, _, _⟩ := hn.now
 obtain ⟨At, ct, rfl, _, _⟩ := ht.now
 have HS := aM ((Sep.start hX).push_box [.slice Ac cl.length cc, .slice An next.length cn, .slice At tags.length ct] 28)
 obtain ⟨g0, hg0⟩ : ∃ g, g = w.heap.size := ⟨_, rfl⟩
 obtain ⟨q, hq⟩ : ∃ q, q = decide (TSound cl next tags) := ⟨_, rfl⟩
 have HQ := aM hq.symm
 obtain ⟨r, hr⟩ : ∃ r, r = encR cl next tags := ⟨_, rfl⟩
 rw [← hr]
 have HR := aM (show r = if EncOk cl next tags then (sealE (bodyE cl next tags), 0) else ([], 1) from hr)
 clear hc hn ht hX hu hq hr
 go_enter Tryz.func6, Tryz.ntmps6
 have x0 := (HS.out.box 0 rfl).cell 0 rfl
 have x1 := (HS.out.box 0 rfl).cell 1 rfl
 have x2 := (HS.out.box 0 rfl).cell 2 rfl
 cases q
 case false =>
  have HE := aM (show r = ([], 1) by rw [HR.out, if_neg (fun h => of_decide_eq_false HQ.out h.1)])
  go_wp2_with (first
   | (go_at_call 15; (with_reducible refine (csound_calls _ _ _ _ cl next tags _ HS.out.lt (HS.out.arg H0.out) (HS.out.arg H1.out) (HS.out.arg H2.out) HU.out).mono ?_); rintro ee w5 ⟨rfl, hb⟩; rw [HQ.out]; have hs := HS.out.call hb; clear hb x0 x1 x2; clear HS; have HS := aM hs; clear hs))
  go_ret2
  rw [HE.out]
  have hd := (HS.out.push_nil kU8 5).sub (List.drop_sublist 1 _)
  exact ⟨_, rfl, hd⟩
 case true =>
  have HTS := aM (of_decide_eq_true HQ.out)
  have htl : 1 ≤ tags.length := HTS.out.1.2.1
  have HTL := aM htl
  obtain ⟨mx, hmx⟩ : ∃ m, m = maxF tags := ⟨_, rfl⟩
  have HMX := aM hmx.symm
  clear hmx htl
  go_upto_if 16 with (first
   | (go_at_call 15; (with_reducible refine (csound_calls _ _ _ _ cl next tags _ HS.out.lt (HS.out.arg H0.out) (HS.out.arg H1.out) (HS.out.arg H2.out) HU.out).mono ?_); rintro ee w5 ⟨rfl, hb⟩; rw [HQ.out]; have hs := HS.out.call hb; clear hb x0 x1 x2; have x2 := (hs.box 0 rfl).cell 2 rfl; clear HS; have HS := aM hs; clear hs)
   | (go_at_call 16; (with_reducible refine (maxI_calls _ _ tags _ (HS.out.arg H2.out) HTL.out).mono ?_); rintro ee w6 ⟨rfl, rfl⟩; rw [HMX.out]))
  rw [← hg0] at HS ⊢
  clear hg0 x2
  rcases Int.lt_or_le 65534 mx with hm | hm
  case inl =>
   have d1 : decide (65534 < mx) = true := dT hm
   have HE := aM (show r = ([], 1) by rw [HR.out, if_neg (fun h => by have h2 := h.2; rw [HMX.out] at h2; omega)])
   go_wp2_with fail
   go_ret2
   rw [HE.out]
   have hd := (HS.out.push_nil kU8 5).sub (List.drop_sublist 1 _)
   exact ⟨_, rfl, hd⟩
  case inr =>
   have d1 : decide (65534 < mx) = false := dF (by omega)
   have hm' : ¬ 65534 < mx := by omega
   have HE := aM (show r = (sealE (bodyE cl next tags), 0) by rw [HR.out, if_pos ⟨HTS.out, by rw [HMX.out]; exact hm⟩])
   obtain ⟨cs, hcs, hn256, hcl, hcb, hso⟩ := tsound_head HU.out HTS.out
   have HB := aM (show cl.length = 256 ∧ next.length = tags.length ∧ tags.length ≤ 40000 ∧ (∀ i, i < tags.length → (next.getD i []).length ≤ 256 ∧ -1 ≤ tags.getD i 0 ∧ tags.getD i 0 < 1000000 ∧ ∀ x ∈ next.getD i [], -1 ≤ x ∧ x < 1000000) from by
    refine ⟨hcl, hso.1.2.2.2, hso.1.2.2.1, fun i hi => ?_⟩
    have h1 := hso.2.1 i hi
    have h3 := (maxF_le tags 65534 HTL.out).1 (by rw [HMX.out]; exact hm) _ (mem_getD tags 0 i hi)
    refine ⟨by rw [h1.1]; exact hn256, h1.2.1, by omega, fun x hx => ?_⟩
    obtain ⟨j, hj, e⟩ := List.getElem_of_mem hx
    have h2 := h1.2.2 j (by rw [← h1.1]; exact hj)
    rw [List.getD_eq_getElem?_getD, List.getElem?_eq_getElem hj, Option.getD_some, e] at h2
    have := hso.1.2.2.1
    omega)
   clear hcs hn256 hcl hcb hso HTS HMX hm HQ
   go_wp2_with fail
   clear d1 hm'
   have hs := HS.out.drew
   clear HS; have HS := aM hs; clear hs
   refine start_ (n := 6) (S := fun w' => w'.cell? ⟨g0, 2, none⟩ = some (.slice At tags.length ct)) (ds := []) #[false, false, false, false, false, false] (by kernel_rfl) rfl rfl (((HS.out.box 0 rfl).cell 2 rfl)) (fun hHeld => ?_)
   refine pure_ (i := 1) (N := some 18) (v := ?_) (a' := ?_) (bv 6 2) rfl rfl (by kernel_rfl) (fun _ _ _ h => h) (Or.inl ⟨by rfl, ?_⟩) ?_ ?_
   rotate_left
   ·intro w'
    go_simp
    with_reducible rfl
   rotate_left
   ·simp only [Act.put, qA, qB, qC, i64_w, i32_w]
    rfl
   refine take_ (i := 2) (N := some 19) (v := ?_) (a' := ?_) (bv 6 6) rfl rfl (by kernel_rfl) (fun _ _ _ h => h) (Or.inl ⟨by rfl, ?_⟩) hHeld ?_ ?_
   rotate_left
   ·intro w' s0
    go_simp
    with_reducible rfl
   rotate_left
   ·simp only [Act.put, qA, qB, qC, i64_w, i32_w]
    rfl
   refine pure_ (i := 3) (N := some 20) (v := ?_) (a' := ?_) (bv 6 14) rfl rfl (by kernel_rfl) (fun _ _ _ h => h) (Or.inl ⟨by rfl, ?_⟩) ?_ ?_
   rotate_left
   ·intro w'
    go_simp
    with_reducible rfl
   rotate_left
   ·simp only [Act.put, qA, qB, qC, i64_w, i32_w]
    rfl
   refine one_ (i := 0) (N := some 17) (bv 6 15) rfl rfl (by kernel_rfl) (by decide) (fun K hK => ?_)
   refine goes_ Tryz.func18 (by kernel_rfl) rfl #[] (by rfl) rfl rfl (by simp only [List.map_toArray, List.map_cons, List.map_nil]) ?_
   with_reducible refine (magic_calls X w _ _ HS.out).mono ?_
   rintro e wa ⟨v5, rfl, hs⟩
   refine ⟨_, rfl, ?_⟩
   clear HS; have HS := aM hs; clear hs
   refine hK.out _ _ (((HS.out.box 0 rfl).cell 2 rfl)) (fun hHeld => ?_)
   clear hK K
   refine norm_ (a' := ?_) ?_ ?_
   rotate_left
   ·show Act.put _ (some 17) _ = _
    simp only [Act.put, qA, qB, qC, i64_w, i32_w]
    rfl
   refine one_ (i := 4) (N := some 21) (bv 6 31) rfl rfl (by kernel_rfl) (by decide) (fun K hK => ?_)
   refine goes_ Tryz.func17 (by kernel_rfl) rfl #[v5, .int .i64 tags.length] (by rfl) rfl rfl (by simp only [List.map_toArray, List.map_cons, List.map_nil]; rfl) ?_
   with_reducible refine (two_calls X w _ _ 1 v5 [71, 67, 1] (tags.length : Int) HS.out rfl (by have := HB.out.2.2.1; omega) (by decide)).mono ?_
   rintro e wb ⟨v6, rfl, hs⟩
   refine ⟨_, rfl, ?_⟩
   clear HS; have HS := aM hs; clear hs
   refine hK.out _ _ (((HS.out.box 0 rfl).cell 2 rfl)) (fun hHeld => ?_)
   clear hK K
   refine norm_ (a' := ?_) ?_ ?_
   rotate_left
   ·show Act.put _ (some 21) _ = _
    simp only [Act.put, qA, qB, qC, i64_w, i32_w]
    rfl
   refine pure_ (i := 5) (N := some 4) (v := ?_) (a' := ?_) (bv 6 63) rfl rfl (by kernel_rfl) (fun _ _ _ h => h) (Or.inl ⟨by rfl, ?_⟩) ?_ ?_
   rotate_left
   ·intro w'
    go_simp
    with_reducible rfl
   rotate_left
   ·simp only [Act.put, qA, qB, qC, i64_w, i32_w]
    rfl
   refine done_ (by kernel_rfl) ?_
   have x0 := (HS.out.box 0 rfl).cell 0 rfl
   obtain ⟨hb0, hhb0⟩ : ∃ l, l = headE cl tags := ⟨_, rfl⟩
   have HH := aM hhb0.symm
   clear hhb0
   have HLE := aM (show ([71, 67, 1] ++ two15 (tags.length : Int)).length + 3 * cl.length ≤ 1000000000 by rw [HB.out.1, lA, show (two15 (tags.length : Int)).length = 2 from rfl]; decide)
   go_upto_region 5 with (first
    | (go_at_call 19; (refine (runsB_calls X w _ _ 1 _ _ _ cl HS.out rfl H0.out HLE.out).mono ?_); rintro ee w7 ⟨v7, rfl, hs⟩; have hs : Sep X w w7 [.box g0 28 [.slice Ac cl.length cc, .slice An next.length cn, .slice At tags.length ct], .row kU8 5 v7 hb0] := (by rw [← HH.out]; exact hs); clear x0; have x1 := (hs.box 0 rfl).cell 1 rfl; clear HS; have HS := aM hs; clear hs))
   have HB0 := aM (show hb0.length ≤ 800 ∧ U8s hb0 by rw [← HH.out]; exact ⟨by have := headE_len cl tags; have := HB.out.1; omega, headE_u8 HU.out tags⟩)
   obtain ⟨bz, hbz⟩ : ∃ l, l = bodyE cl next tags := ⟨_, rfl⟩
   rw [← hbz] at HE
   have HBZ := aM (show hb0 ++ rowsE (next.drop 0) (tags.drop 0) = bz by rw [hbz, bodyE, HH.out]; rfl)
   have HBU := aM (show U8s bz by rw [hbz]; exact U8s.app (headE_u8 HU.out tags) (rowsE_u8 next tags))
   clear HH HLE hbz
   go_wp2_with fail
   clear x1
   go_loopg [4, 5, 6, 29] next.length (fun m v4 v5 v6 v29 w' => ∃ (i : Nat) (bs : List Int), v29 = .int .i64 i ∧ Aside0 (i + m = next.length) ∧ Aside0 (bs.length ≤ 800 + 770 * i) ∧ Aside0 (bs ++ rowsE (next.drop i) (tags.drop i) = bz) ∧ Aside0 (Sep X w w' [.box g0 28 [.slice Ac cl.length cc, .slice An next.length cn, .slice At tags.length ct], .row kU8 5 v4 bs]))
   case atStart => exact ⟨0, hb0, rfl, ⟨by omega⟩, ⟨by have := HB0.out.1; omega⟩, HBZ, HS⟩
   case round =>
    clear HS HBZ HB0
    obtain ⟨i, bs, rfl, HJ, HBL, HBZ, HS⟩ := hrel
    obtain ⟨A4, c4, e4⟩ := HS.out.form 1 rfl
    subst e4
    cases gk with
    | zero =>
     have hi : i = next.length := by have := HJ.out; omega
     have e1 : decide ((i : Int) < (next.length : Int)) = false := dF (by omega)
     have e2 : decide (i < next.length) = false := dF (by omega)
     have hbz : bs = bz := by have h := HBZ.out; rw [hi, List.drop_length, rowsE, List.append_nil] at h; exact h
     have HL2 := aM (show bs.length ≤ 100000000 by have := HBL.out; have := HB.out.2.1; have := HB.out.2.2.1; omega)
     clear HBZ HBL HJ hi
     subst hbz
     obtain ⟨n, hn⟩ : ∃ n, n = sumL bs := ⟨_, rfl⟩
     have HN := aM hn.symm
     have hnlt := (sumL_lt bs).lt
     rw [← hn] at hnlt
     have HNL := aM hnlt
     have HW1 := aM (show wrap64 ((n : Int) / 65536) = ((n / 65536 : Nat) : Int) from IntWalk.wrap64_in _ (by omega))
     have HW2 := aM (show wrap64 (bits .and .u32 (n : Int) 65535) = ((n % 65536 : Nat) : Int) by
      rw [show bits .and .u32 (n : Int) 65535 = ((n % 65536 : Nat) : Int) from and16 hnlt]
      exact IntWalk.wrap64_in _ (by omega))
     clear hn hnlt
     go_wp2_with (first
      | (go_at_call 23; (with_reducible refine (psum_calls _ _ bs _ (HS.out.res_row 1 rfl) HBU.out).mono ?_); rintro ee w8 ⟨rfl, rfl⟩; rw [HN.out])
      | (go_at_call 17; rw [HW1.out]; (refine (two_calls X w _ [.box g0 28 [.slice Ac cl.length cc, .slice An next.length cn, .slice At tags.length ct], .row kU8 5 (.slice A4 bs.length c4) bs] 1 _ bs ((n / 65536 : Nat) : Int) HS.out rfl (by have := HNL.out; omega) (by have := HL2.out; omega)).mono ?_); rintro ee w9 ⟨v9, rfl, hs⟩; clear HS; have HS := aM hs; clear hs)
      | (go_at_call 17; rw [HW2.out]; (refine (two_calls X w _ _ 1 _ _ ((n % 65536 : Nat) : Int) HS.out rfl (by omega) (by have := HL2.out; rw [lA, show (two15 ((n / 65536 : Nat) : Int)).length = 2 from rfl]; omega)).mono ?_); rintro ee w10 ⟨v10, rfl, hs⟩; clear HS; have HS := aM hs; clear hs))
     go_ret2
     rw [HE.out]
     have hd := HS.out.sub (List.drop_sublist 1 _)
     refine ⟨_, rfl, ?_⟩
     rw [show sealE bs = (bs ++ two15 ((n / 65536 : Nat) : Int)) ++ two15 ((n % 65536 : Nat) : Int) by rw [sealE, HN.out]]
     exact hd
    | succ k1 =>
     have hi : i < next.length := by have := HJ.out; omega
     have hit : i < tags.length := by have := HB.out.2.1; omega
     have e1 : decide ((i : Int) < (next.length : Int)) = true := dT (by omega)
     have e2 : decide (i < next.length) = true := dT hi
     have hi0 : (0 : Int) ≤ (i : Int) := by omega
     have hi1 : (i : Int) < (next.length : Int) := by omega
     have hi2 : (i : Int) < (tags.length : Int) := by omega
     have x2 := (HS.out.box 0 rfl).cell 2 rfl
     obtain ⟨an, cn', u, en, hun, yn0⟩ := H1.out.row i hi
     cases en
     obtain ⟨at_, ct', et, yt0⟩ := int_cell H2.out i hit
     cases et
     obtain ⟨h3, h4, h5, h6⟩ := HB.out.2.2.2 i hit
     have HBZ2 := aM (show ((bs ++ two15 (tags.getD i 0 + 1)) ++ runsF (fun x => two15 (x + 1)) (next.getD i []).length (next.getD i [])) ++ rowsE (next.drop (i + 1)) (tags.drop (i + 1)) = bz by
      have h := HBZ.out
      rw [drop_at next [] i hi, rowsE, drop_at tags 0 i hit] at h
      rw [← h]
      simp only [List.append_assoc, List.getD_cons_zero, List.drop_succ_cons, List.drop_zero])
     generalize next.getD i [] = row at *
     generalize tags.getD i 0 = tg at *
     obtain ⟨Au, cu, rfl, _, _⟩ := hun.now
     have HUN := aM hun
     have HRB := aM (And.intro h3 h6)
     have HTG := aM (And.intro h4 h5)
     have yn := pw_cell_below HS.out.below yn0
     have yt := pw_cell_below HS.out.below yt0
     have hw1 : wrap64 (tg + 1) = tg + 1 := IntWalk.wrap64_in _ (by omega)
     clear hun yn0 yt0 h3 h4 h5 h6 HBZ
     go_wp2_with (first
      | (go_at_call 17; (refine (two_calls X w _ [.box g0 28 [.slice Ac cl.length cc, .slice (some an) next.length cn, .slice (some at_) tags.length ct], .row kU8 5 (.slice A4 bs.length c4) bs] 1 _ bs (tg + 1) HS.out rfl (by have := HTG.out; omega) (by have := HBL.out; have := HB.out.2.1; have := HB.out.2.2.1; omega)).mono ?_); rintro ee w9 ⟨v9, rfl, hs⟩; clear HS; have HS := aM hs; clear hs)
      | (go_at_call 21; (refine (runsI_calls X w _ _ 1 _ _ (bs ++ two15 (tg + 1)) row HS.out rfl HUN.out (by have := HBL.out; have := HB.out.2.1; have := HB.out.2.2.1; have := HRB.out.1; rw [lA, show (two15 (tg + 1)).length = 2 from rfl]; omega) HRB.out.2).mono ?_); rintro ee w10 ⟨v10, rfl, hs⟩; skip; clear HS; have HS := aM hs; clear hs))
     go_roundg k1
     case measure => omega
     case rel =>
      refine ⟨i + 1, (bs ++ two15 (tg + 1)) ++ runsF (fun x => two15 (x + 1)) row.length row, by go_num, ⟨by have := HJ.out; omega⟩, ⟨?_⟩, HBZ2, HS⟩
      have h1 := runsF_len (fun x => two15 (x + 1)) (fun x => Nat.le_refl _) row.length row
      have h2 := HBL.out
      have h3 := HRB.out.1
      rw [lA, lA, show (two15 (tg + 1)).length = 2 from rfl]
      omega
end Go.Proofs.YtplhfgobeicegaaGreatDoor.P
namespace Go.Proofs.YtplhfgobeicegaaGreatDoor.P
open Go Go.RowKit Go.Proofs.YtplhfgobeicegaaGreatDoorW.PrintWords Go.Proofs.YtplhfgobeicegaaGreatDoorW.PrintLast Go.Proofs.YtplhfgobeicegaaGreatDoorW.PrintMore Go.Proofs.YtplhfgobeicegaaGreatDoor.PX
set_option linter.unusedVariables false
set_option linter.unusedSimpArgs false
set_option maxRecDepth 100000
set_option maxHeartbeats 4000000 in
theorem bequal_calls (X : Nat → Prop) (va vb : Value) (a b : List Int) (w : World) (ha : PV kU8 X w va a) (hb : PV kU8 X w vb b) (ua : U8s a) (ub : U8s b) :
  Calls Tryz.prog 34 #[va, vb] w fun e w' => e = .returned (.bool (decide (a = b))) ∧ w' = w := by
 have st1 := ha.str (P := Tryz.prog) Tryz.underlying24 Tryz.underlying5 Tryz.underlying9
 have st2 := hb.str (P := Tryz.prog) Tryz.underlying24 Tryz.underlying5 Tryz.underlying9
 have HI := aM (strOfNums_inj (a := a) (b := b) ua ub)
 obtain ⟨A0, c0, rfl, _, _⟩ := ha.now
 obtain ⟨A1, c1, rfl, _, _⟩ := hb.now
 generalize strOfNums a = sa at *
 generalize strOfNums b = sb at *
 clear ha hb ua ub
 rcases Decidable.em (a = b) with hc | hc
 case inl =>
  have hs : sa = sb := HI.out.2 hc
  rw [show decide (a = b) = true by simp [hc]]
  clear hc HI
  subst hs
  go_enter Tryz.func34, Tryz.ntmps34
  go_wp2_with fail
  go_ret
  exact ⟨rfl, rfl⟩
 case inr =>
  have hs : ¬ sa = sb := fun h => hc (HI.out.1 h)
  have hs2 : ¬ sa.toList = sb.toList := fun h => hs (ByteArray.ext (by rw [ByteArray.toList_eq, ByteArray.toList_eq] at h; exact Array.ext' h))
  have e1 : (sa.toList == sb.toList) = false := bF hs2
  rw [show decide (a = b) = false by simp [hc]]
  clear hc HI
  go_enter Tryz.func34, Tryz.ntmps34
  go_wp2_with fail
  go_ret
  exact ⟨rfl, rfl⟩
def hasPre (s p : List Int) : Bool := decide (p.length ≤ s.length) && decide (s.take p.length = p)
set_option maxHeartbeats 4000000 in
theorem hasPre_calls (X : Nat → Prop) (va vb : Value) (a b : List Int) (w : World) (ha : PV kU8 X w va a) (hb : PV kU8 X w vb b) (ua : U8s a) (ub : U8s b) :
  Calls Tryz.prog 27 #[va, vb] w fun e w' => e = .returned (.bool (hasPre a b)) ∧ w' = w := by
 have H0 := aM ha
 have H1 := aM hb
 have HUA := aM ua
 have HUB := aM ub
 obtain ⟨A0, c0, rfl, _, _⟩ := ha.now
 obtain ⟨A1, c1, rfl, _, _⟩ := hb.now
 have m0 := ha.max
 have m1 := hb.max
 clear ha hb ua ub
 rcases Nat.lt_or_ge a.length b.length with hl | hl
 case inl =>
  have d1 : decide ((a.length : Int) ≥ (b.length : Int)) = false := dF (by omega)
  have d2 : decide (b.length ≤ a.length) = false := dF (by omega)
  rw [show hasPre a b = false by unfold hasPre; rw [d2]; rfl]
  go_enter Tryz.func27, Tryz.ntmps27
  go_wp2_with fail
  go_ret
  exact ⟨rfl, rfl⟩
 case inr =>
  have d1 : decide ((a.length : Int) ≥ (b.length : Int)) = true := dT (by omega)
  have d2 : decide (b.length ≤ a.length) = true := dT hl
  obtain ⟨q, hq⟩ : ∃ q, q = decide (a.take b.length = b) := ⟨_, rfl⟩
  rw [show hasPre a b = q by unfold hasPre; rw [d2, hq]; rfl]
  have HQ := aM hq.symm
  obtain ⟨j0, hj0, _, hjz0, _⟩ := info_parts info5
  obtain ⟨u9, hu9, hrun9⟩ := H0.out.upto (P := Tryz.prog) 24 5 Tryz.underlying24 hj0 b.length hl
  have HU9 := aM hu9
  have HUT := aM (show U8s (a.take b.length) from fun x hx => HUA.out x (List.mem_of_mem_take hx))
  clear hq hu9 hj0 hjz0 hl
  go_enter Tryz.func27, Tryz.ntmps27
  go_wp2_with (first
   | (go_at_call 34; (with_reducible refine (bequal_calls _ _ _ (a.take b.length) b _ HU9.out H1.out HUT.out HUB.out).mono ?_); rintro ee w5 ⟨rfl, rfl⟩; rw [HQ.out]))
  go_ret
  exact ⟨rfl, rfl⟩
end Go.Proofs.YtplhfgobeicegaaGreatDoor.P
namespace Go.Proofs.YtplhfgobeicegaaGreatDoor.PX
open Go Go.RowKit Go.Proofs.YtplhfgobeicegaaGreatDoorW.PrintWords
section
variable {α : Type} {d : Kd α} {X : Nat → Prop} {w : World} {v : Value} {xs : List α}
theorem PV.mid {P : Program} (t E : TypeId) (ht : P.underlying t = some (.slice E)) {i : TypeInfo} (hi : P.info? E = some i) (hsz : i.size = d.sz) (h : PV d X w v xs) (m n : Nat) (hm : m ≤ n) (hn : n ≤ xs.length) :
  ∃ u, PV d X w u ((xs.take n).drop m) ∧ ∀ W : World, (Instr.slice t v (some (.int .i64 (m : Int))) (some (.int .i64 (n : Int))) none).run P W = .ok u W := by
 obtain ⟨A, c, rfl, hc, hC⟩ := h
 refine ⟨_, PV.drop (PV.take ⟨A, c, rfl, hc, hC⟩ n hn) m (by rw [List.length_take]; omega), fun W => ?_⟩
 have := cut_mid (P := P) t E .i64 .i64 ht hi d.sz hsz A xs.length c (m : Int) (n : Int) (by omega) (by omega) (by omega) hc W
 simpa [List.length_drop, List.length_take, Nat.min_eq_left hn] using this
end
end Go.Proofs.YtplhfgobeicegaaGreatDoor.PX
namespace Go.Proofs.YtplhfgobeicegaaGreatDoor.P
open Go Go.RowKit Go.Proofs.YtplhfgobeicegaaGreatDoorW.PrintWords Go.Proofs.YtplhfgobeicegaaGreatDoor.PX
set_option linter.unusedVariables false
set_option linter.unusedSimpArgs false
theorem rowR_len (read : Rd → Int × Rd) (many : Nat) : ∀ (f : Nat) (l : List Int) (r : Rd), l.length ≤ many → (rowR read many f l r).1.length ≤ many
 | 0, l, r, h => h
 | f + 1, l, r, h => by
  rw [rowR]
  split
  ·split
   ·simp
   ·next h1 h2 =>
    refine rowR_len read many f _ _ ?_
    rw [lA, List.length_replicate]
    omega
  ·exact h
theorem rowR_good (G : Int → Prop) (read : Rd → Int × Rd) (hg : ∀ r : Rd, U8s r.b → G (read r).1 ∧ U8s (read r).2.b) (many : Nat) : ∀ (f : Nat) (l : List Int) (r : Rd), (∀ x ∈ l, G x) → U8s r.b → (∀ x ∈ (rowR read many f l r).1, G x) ∧ U8s (rowR read many f l r).2.b
 | 0, l, r, h, hu => ⟨h, hu⟩
 | f + 1, l, r, h, hu => by
  have h1 : U8s (oneR r).2.b := (takeR_u8 1 hu).2
  rw [rowR]
  split
  ·split
   ·exact ⟨fun x hx => (by cases hx), h1⟩
   ·refine rowR_good G read hg many f _ _ (fun x hx => ?_) (hg _ h1).2
    rcases List.mem_append.1 hx with hx | hx
    ·exact h x hx
    ·rw [List.eq_of_mem_replicate hx]; exact (hg _ h1).1
  ·exact ⟨h, hu⟩
theorem oneR_in {r : Rd} (hu : U8s r.b) : 0 ≤ (oneR r).1 ∧ (oneR r).1 < 256 := by
 obtain ⟨p0, hp0, hp1⟩ := u8s_at (takeR_u8 1 hu).1 0 (by rw [takeR_len]; decide)
 unfold oneR
 dsimp only
 rw [hp0]
 omega
theorem rowR_u8 (many f : Nat) {r : Rd} (hu : U8s r.b) : U8s (rowR oneR many f [] r).1 ∧ U8s (rowR oneR many f [] r).2.b :=
 rowR_good (fun x => 0 ≤ x ∧ x < 256) oneR (fun r hr => ⟨oneR_in hr, (takeR_u8 1 hr).2⟩) many f [] r (fun x hx => by cases hx) hu
theorem rowR_i (many f : Nat) {r : Rd} (hu : U8s r.b) : U8s (rowR twoM many f [] r).2.b :=
 (rowR_good (fun _ => True) twoM (fun r hr => ⟨trivial, (takeR_u8 2 hr).2⟩) many f [] r (fun x hx => trivial) hu).2
def statesR (k : Nat) : Nat → List (List Int) → List Int → Rd → List (List Int) × List Int × Rd
 | 0, N, T, r => (N, T, r)
 | m + 1, N, T, r => if (rowR twoM k k [] (twoM r).2).2.short = true then (N ++ [(rowR twoM k k [] (twoM r).2).1], T ++ [(twoM r).1], (rowR twoM k k [] (twoM r).2).2)
  else statesR k m (N ++ [(rowR twoM k k [] (twoM r).2).1]) (T ++ [(twoM r).1]) (rowR twoM k k [] (twoM r).2).2
def noTable : (List Int × List (List Int) × List Int) × Int := (([], [], []), 70)
def decEnd (b cl : List Int) (s : List (List Int) × List Int × Rd) : (List Int × List (List Int) × List Int) × Int :=
 if s.2.2.short = false ∧ (encR cl s.1 s.2.1).2 = 0 ∧ (encR cl s.1 s.2.1).1 = b then ((cl, s.1, s.2.1), 0) else noTable
def decMid (b : List Int) (many : Nat) (c : List Int × Rd) : (List Int × List (List Int) × List Int) × Int :=
 if c.1.length = 0 then noTable else decEnd b c.1 (statesR ((maxF c.1).toNat + 1) many [] [] c.2)
def startR (b : List Int) : Rd := ⟨(b.take (b.length - 4)).drop 3, false⟩
def decF (b : List Int) : (List Int × List (List Int) × List Int) × Int :=
 if 9 ≤ b.length ∧ hasPre b [71, 67, 1] = true then decMid b (twoR (startR b)).1.toNat (rowR oneR 256 256 [] (twoR (startR b)).2) else noTable
theorem startR_u8 {b : List Int} (h : U8s b) : U8s (startR b).b := fun x hx => h x (List.mem_of_mem_take (List.mem_of_mem_drop hx))
theorem maxF_in {c : List Int} (h : U8s c) (h1 : 1 ≤ c.length) : 0 ≤ maxF c ∧ maxF c < 256 := by
 have h2 := (maxF_le c 255 h1).2 (fun x hx => by have := h x hx; omega)
 have h3 := (maxF_le c (maxF c) h1).1 (Int.le_refl _)
 have h4 := h3 (c.getD 0 0) (mem_getD c 0 0 (by omega))
 have h5 := h _ (mem_getD c 0 0 (by omega))
 omega
theorem decF_enc {b : List Int} (h : (decF b).2 = 0) : encR (decF b).1.1 (decF b).1.2.1 (decF b).1.2.2 = (b, 0) := by
 unfold decF decMid decEnd at h ⊢
 split at h
 next h1 =>
  rw [if_pos h1]
  split at h
  next h2 => cases h
  next h2 =>
   rw [if_neg h2]
   split at h
   next h3 =>
    rw [if_pos h3]
    dsimp only
    exact Prod.ext h3.2.2 h3.2.1
   next h3 => cases h
 next h1 => cases h
theorem decF_not {b : List Int} (h : (decF b).2 ≠ 0) : decF b = noTable := by
 unfold decF decMid decEnd at h ⊢
 split at h
 next h1 =>
  rw [if_pos h1]
  split at h
  next h2 => rw [if_pos h2]
  next h2 =>
   rw [if_neg h2]
   split at h
   next h3 => exact absurd rfl h
   next h3 => rw [if_neg h3]
 next h1 => rw [if_neg h1]
end Go.Proofs.YtplhfgobeicegaaGreatDoor.P
namespace Go.Proofs.YtplhfgobeicegaaGreatDoor.P
open Go Go.RowKit Go.Proofs.YtplhfgobeicegaaGreatDoorW.PrintWords Go.Proofs.YtplhfgobeicegaaGreatDoor.PX
set_option linter.unusedVariables false
set_option linter.unusedSimpArgs false
theorem takeR_app (a rest : List Int) (s : Bool) (n : Nat) (hn : a.length = n) : takeR n ⟨a ++ rest, s⟩ = (a, ⟨rest, s⟩) := by
 subst hn
 unfold takeR
 rw [if_neg (by rw [lA]; omega)]
 simp
theorem twoR_app {x : Int} (h : 0 ≤ x ∧ x < 65536) (rest : List Int) (s : Bool) : twoR ⟨two15 x ++ rest, s⟩ = (x, ⟨rest, s⟩) := by
 unfold twoR
 rw [takeR_app (two15 x) rest s 2 rfl]
 dsimp only
 refine Prod.ext ?_ rfl
 show x / 256 % 256 * 256 + x % 256 = x
 omega
theorem twoM_app {x : Int} (h : -1 ≤ x ∧ x < 65535) (rest : List Int) (s : Bool) : twoM ⟨two15 (x + 1) ++ rest, s⟩ = (x, ⟨rest, s⟩) := by
 unfold twoM
 rw [twoR_app (x := x + 1) (by omega)]
 refine Prod.ext ?_ rfl
 show x + 1 - 1 = x
 omega
theorem oneR_app (x : Int) (rest : List Int) (s : Bool) : oneR ⟨x :: rest, s⟩ = (x, ⟨rest, s⟩) := by
 unfold oneR
 rw [show x :: rest = [x] ++ rest from rfl, takeR_app [x] rest s 1 rfl]
 rfl
theorem lead_take (x : Int) : ∀ (f : Nat) (t : List Int), t.take (lead x f t) = List.replicate (lead x f t) x
 | 0, t => by rw [lead_0]; rfl
 | f + 1, [] => by rw [lead_nil]; rfl
 | f + 1, y :: t => by
  rw [lead]
  split
  ·next h => subst h; rw [List.take_succ_cons, List.replicate_succ, lead_take y f t]
  ·rfl
theorem rowR_runs (read : Rd → Int × Rd) (lay : Int → List Int) (good : Int → Prop) (hr : ∀ x, good x → ∀ rest s, read ⟨lay x ++ rest, s⟩ = (x, ⟨rest, s⟩)) (many : Nat) (rest : List Int) :
  ∀ (f g : Nat) (l t : List Int), l.length + t.length = many → t.length ≤ f → t.length ≤ g → (∀ x ∈ t, good x) → rowR read many f l ⟨runsF lay g t ++ rest, false⟩ = (l ++ t, ⟨rest, false⟩)
 | 0, g, l, t, hm, hf, hg, ht => by
  obtain rfl : t = [] := List.eq_nil_of_length_eq_zero (by omega)
  rw [runsF_nil, rowR, List.append_nil]; rfl
 | f + 1, g, l, [], hm, hf, hg, ht => by
  rw [runsF_nil, rowR, if_neg (by rintro ⟨h, _⟩; rw [List.length_nil] at hm; omega), List.append_nil]; rfl
 | f + 1, 0, l, x :: t, hm, hf, hg, ht => by rw [List.length_cons] at hg; omega
 | f + 1, g + 1, l, x :: t, hm, hf, hg, ht => by
  rw [List.length_cons] at hm hf hg
  have hl := (lead_le x 254 t).2
  have ht2 := lead_take x 254 t
  have ih := fun l2 h => rowR_runs read lay good hr many rest f g l2 (t.drop (lead x 254 t)) h (by rw [List.length_drop]; omega) (by rw [List.length_drop]; omega) (fun y hy => ht y (List.mem_cons_of_mem _ (List.mem_of_mem_drop hy)))
  rw [runsF, rowR]
  generalize lead x 254 t = n at *
  rw [if_pos ⟨by omega, rfl⟩, List.cons_append, oneR_app]
  dsimp only
  rw [if_neg (by omega), List.append_assoc, hr x (ht x List.mem_cons_self)]
  dsimp only
  rw [Int.toNat_natCast, ih _ (by rw [lA, List.length_replicate, List.length_drop]; omega), List.append_assoc]
  refine Prod.ext ?_ rfl
  show l ++ (List.replicate (n + 1) x ++ t.drop n) = l ++ x :: t
  rw [List.replicate_succ, List.cons_append, ← ht2, List.take_append_drop]
theorem states_rows (k : Nat) (rest : List Int) : ∀ (N : List (List Int)) (T : List Int) (N0 : List (List Int)) (T0 : List Int), N.length = T.length → (∀ row ∈ N, row.length = k ∧ ∀ x ∈ row, -1 ≤ x ∧ x < 65535) → (∀ x ∈ T, -1 ≤ x ∧ x < 65535) →
  statesR k T.length N0 T0 ⟨rowsE N T ++ rest, false⟩ = (N0 ++ N, T0 ++ T, ⟨rest, false⟩)
 | [], [], N0, T0, _, _, _ => by simp [statesR, rowsE]
 | [], _ :: _, N0, T0, h, _, _ => by cases h
 | _ :: _, [], N0, T0, h, _, _ => by cases h
 | row :: N, x :: T, N0, T0, h, hN, hT => by
  rw [List.length_cons, statesR, rowsE]
  rw [show (x :: T).getD 0 0 = x from rfl, show (x :: T).drop 1 = T from rfl, List.append_assoc, List.append_assoc, twoM_app (hT x List.mem_cons_self)]
  dsimp only
  have hrow := hN row List.mem_cons_self
  rw [rowR_runs twoM (fun x => two15 (x + 1)) (fun x => -1 ≤ x ∧ x < 65535) (fun y hy rest s => twoM_app hy rest s) k (rowsE N T ++ rest) k row.length [] row (by simp [hrow.1]) (by omega) (Nat.le_refl _) hrow.2]
  dsimp only
  rw [if_neg (by simp), states_rows k rest N T _ _ (by rw [List.length_cons, List.length_cons] at h; omega) (fun r hr => hN r (List.mem_cons_of_mem _ hr)) (fun y hy => hT y (List.mem_cons_of_mem _ hy))]
  simp
theorem manyGo_max : ∀ (l : List Int) (n : Int), manyGo l n ≠ -1 → manyGo l n = n ∨ ∃ c ∈ l, manyGo l n = c + 1
 | [], n, _ => .inl rfl
 | c :: t, n, h => by
  rw [manyGo] at h ⊢
  by_cases h2 : c > n
  ·rw [if_pos h2] at h; exact absurd rfl h
  ·rw [if_neg h2] at h ⊢
   rcases manyGo_max t _ h with h3 | ⟨c2, h3, h4⟩
   ·rw [h3]
    rcases Int.le_total n (c + 1) with h5 | h5
    ·exact .inr ⟨c, List.mem_cons_self, by omega⟩
    ·exact .inl (by omega)
   ·exact .inr ⟨c2, List.mem_cons_of_mem _ h3, h4⟩
theorem many_max {cl : List Int} {n : Nat} (h : many14 cl = (n : Int)) (h0 : n ≠ 0) : maxF cl + 1 = (n : Int) := by
 obtain ⟨h1, h2⟩ := many14_all h h0
 unfold many14 at h
 by_cases h3 : manyGo cl 0 = -1 ∨ cl.length ≠ 256
 ·rw [if_pos h3] at h; omega
 ·rw [if_neg h3] at h
  have h4 := (maxF_le cl ((n : Int) - 1) (by omega)).2 (fun x hx => by have := h2 x hx; omega)
  rcases manyGo_max cl 0 (fun e => h3 (.inl e)) with h5 | ⟨c, h5, h6⟩
  ·omega
  ·have h7 := (maxF_le cl (maxF cl) (by omega)).1 (Int.le_refl _) c h5
   omega
def readB (s : List Int) : List Int × List (List Int) × List Int × Rd :=
 ((rowR oneR 256 256 [] (twoR ⟨s.drop 3, false⟩).2).1, statesR ((maxF (rowR oneR 256 256 [] (twoR ⟨s.drop 3, false⟩).2).1).toNat + 1) (twoR ⟨s.drop 3, false⟩).1.toNat [] [] (rowR oneR 256 256 [] (twoR ⟨s.drop 3, false⟩).2).2)
theorem mem_all_at {α : Type} {l : List α} {d : α} {q : α → Prop} {n : Nat} (hl : l.length = n) (h : ∀ i, i < n → q (l.getD i d)) : ∀ x ∈ l, q x := fun x hx => by
 obtain ⟨i, hi, rfl⟩ := List.getElem_of_mem hx
 have := h i (by omega)
 rwa [List.getD_eq_getElem?_getD, List.getElem?_eq_getElem hi, Option.getD_some] at this
structure EncFact (C : List Int) (N : List (List Int)) (T : List Int) : Prop where
 len : C.length = 256
 u8 : U8s C
 rows : N.length = T.length
 pos : 1 ≤ T.length
 le : T.length ≤ 40000
 row : ∀ row ∈ N, row.length = (maxF C).toNat + 1 ∧ ∀ x ∈ row, -1 ≤ x ∧ x < 65535
 tag : ∀ x ∈ T, -1 ≤ x ∧ x < 65535
theorem enc_fact {C : List Int} {N : List (List Int)} {T : List Int} (hu : U8s C) (h : EncOk C N T) : EncFact C N T := by
 obtain ⟨n, h1, h2, h3, h4, h5, h6, h7⟩ := tsound_head hu h.1
 have hm := many_max h1 h5.1
 have h5' := h5
 unfold THead at h5
 refine ⟨h3, hu, by omega, by omega, by omega, mem_all_at (d := []) (n := T.length) (by omega) (fun i hi => ?_), fun x hx => ?_⟩
 ·have h8 := h6 i hi
  unfold TRow at h8
  refine ⟨by omega, mem_all_at (d := 0) h8.1 (fun j hj => ?_)⟩
  have := h8.2.2 j hj
  omega
 ·have h8 := (maxF_le T 65534 (by omega)).1 h.2 x hx
  have h9 := mem_all_at (d := 0) (q := fun x => -1 ≤ x) rfl (fun i hi => (h6 i hi).2.1) x hx
  have h10 : -1 ≤ x := h9
  omega
theorem bodyE_head (C : List Int) (N : List (List Int)) (T : List Int) (rest : List Int) : bodyE C N T ++ rest = [71, 67, 1] ++ (two15 (T.length : Int) ++ (runsF (fun x => [x]) C.length C ++ (rowsE N T ++ rest))) := by
 unfold bodyE headE
 simp only [List.append_assoc]
theorem readB_enc {C : List Int} {N : List (List Int)} {T : List Int} (hu : U8s C) (h : EncOk C N T) (rest : List Int) : readB (bodyE C N T ++ rest) = (C, N, T, ⟨rest, false⟩) := by
 have hf := enc_fact hu h
 have e1 : (bodyE C N T ++ rest).drop 3 = two15 (T.length : Int) ++ (runsF (fun x => [x]) C.length C ++ (rowsE N T ++ rest)) := by
  rw [bodyE_head]; rfl
 have hle := hf.le
 have e2 : twoR ⟨(bodyE C N T ++ rest).drop 3, false⟩ = ((T.length : Int), ⟨runsF (fun x => [x]) C.length C ++ (rowsE N T ++ rest), false⟩) := by
  rw [e1, twoR_app (by omega)]
 have e3 : rowR oneR 256 256 [] ⟨runsF (fun x => [x]) C.length C ++ (rowsE N T ++ rest), false⟩ = (C, ⟨rowsE N T ++ rest, false⟩) := by
  have := rowR_runs oneR (fun x => [x]) (fun _ => True) (fun x _ rest s => oneR_app x rest s) 256 (rowsE N T ++ rest) 256 C.length [] C (by simp [hf.len]) (by rw [hf.len]; exact Nat.le_refl _) (Nat.le_refl _) (fun _ _ => trivial)
  rw [this]; rfl
 have e4 := states_rows ((maxF C).toNat + 1) rest N T [] [] hf.rows hf.row hf.tag
 unfold readB
 rw [e2]
 dsimp only
 rw [e3]
 dsimp only
 rw [Int.toNat_natCast, e4]
 rfl
theorem sealE_len (b : List Int) : (sealE b).length = b.length + 4 := by unfold sealE two15; simp
theorem sealE_take (b : List Int) : (sealE b).take b.length = b := by
 unfold sealE
 rw [List.append_assoc, List.take_left]
theorem bodyE_len (C : List Int) (N : List (List Int)) (T : List Int) : 5 ≤ (bodyE C N T).length := by
 have := bodyE_head C N T []
 rw [List.append_nil] at this
 rw [this]
 unfold two15
 simp only [lA, List.length_cons, List.length_nil]
 omega
theorem encR_pos {C : List Int} {N : List (List Int)} {T : List Int} (h : EncOk C N T) : encR C N T = (sealE (bodyE C N T), 0) := by unfold encR; rw [if_pos h]
theorem encR_inv {C : List Int} {N : List (List Int)} {T : List Int} (h : (encR C N T).2 = 0) : EncOk C N T := by
 unfold encR at h
 split at h
 ·assumption
 ·cases h
theorem dec_enc {C : List Int} {N : List (List Int)} {T : List Int} (hu : U8s C) (h : EncOk C N T) : decF (sealE (bodyE C N T)) = ((C, N, T), 0) := by
 have hf := enc_fact hu h
 have hl := bodyE_len C N T
 have hr := readB_enc hu h []
 rw [List.append_nil] at hr
 have e1 : startR (sealE (bodyE C N T)) = ⟨(bodyE C N T).drop 3, false⟩ := by
  unfold startR
  rw [sealE_len, Nat.add_sub_cancel, sealE_take]
 unfold readB at hr
 injection hr with r1 r2
 rw [r1] at r2
 have hp : hasPre (sealE (bodyE C N T)) [71, 67, 1] = true := by
  unfold hasPre
  rw [dT (by rw [sealE_len]; simp only [List.length_cons, List.length_nil]; omega), Bool.true_and]
  refine dT ?_
  unfold sealE
  rw [List.append_assoc, bodyE_head]
  rfl
 unfold decF
 rw [if_pos ⟨by rw [sealE_len]; omega, hp⟩, e1]
 unfold decMid
 rw [r1, if_neg (by rw [hf.len]; omega), r2]
 unfold decEnd
 rw [encR_pos h, if_pos ⟨rfl, rfl, rfl⟩]
theorem rowR_cl (b : List Int) : (decF b).1.1 = [] ∨ (decF b).1.1 = (rowR oneR 256 256 [] (twoR (startR b)).2).1 := by
 unfold decF decMid decEnd
 split
 ·split
  ·exact .inl rfl
  ·split
   ·exact .inr rfl
   ·exact .inl rfl
 ·exact .inl rfl
theorem decF_u8s {b : List Int} (h : U8s b) : U8s (decF b).1.1 := by
 rcases rowR_cl b with e | e
 ·rw [e]; exact fun _ h => by cases h
 ·rw [e]; exact (rowR_u8 256 256 (r := (twoR (startR b)).2) (takeR_u8 2 (startR_u8 h)).2).1
theorem dec_form {b : List Int} (hb : U8s b) (h : (decF b).2 = 0) : ∃ C N T, decF b = ((C, N, T), 0) ∧ U8s C ∧ EncOk C N T ∧ b = sealE (bodyE C N T) := by
 have h1 := decF_enc h
 have hu := decF_u8s hb
 obtain ⟨⟨⟨C, N, T⟩, e⟩, hd⟩ : ∃ p, p = decF b := ⟨_, rfl⟩
 rw [← hd] at h h1 hu
 dsimp only at h h1 hu
 subst h
 have hok := encR_inv (C := C) (N := N) (T := T) (by rw [h1])
 rw [encR_pos hok] at h1
 injection h1 with h1 _
 exact ⟨C, N, T, hd.symm, hu, hok, h1.symm⟩
theorem dec_iff {b : List Int} (hb : U8s b) {C : List Int} {N : List (List Int)} {T : List Int} (hu : U8s C) (h : EncOk C N T) (e : b = sealE (bodyE C N T)) : decF b = ((C, N, T), 0) := by rw [e]; exact dec_enc hu h
theorem sealE_app (b : List Int) : ∃ s, s.length = 4 ∧ sealE b = b ++ s := ⟨two15 ((sumL b / 65536 : Nat) : Int) ++ two15 ((sumL b % 65536 : Nat) : Int), rfl, by unfold sealE; rw [List.append_assoc]⟩
end Go.Proofs.YtplhfgobeicegaaGreatDoor.P
