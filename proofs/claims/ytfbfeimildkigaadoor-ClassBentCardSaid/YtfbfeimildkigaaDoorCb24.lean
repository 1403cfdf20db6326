/- Part 24 of the proof: T08, S14c, T06. -/
import Derived.Test.YtfbfeimildkigaaDoorCb23
namespace Go.Proofs.YtfbfeimildkigaaDoor.P
open Go Go.RowKit Go.Proofs.YtfbfeimildkigaaDoorW.PrintWords Go.Proofs.YtfbfeimildkigaaDoorW.PrintLast Go.Proofs.YtfbfeimildkigaaDoorW.PrintMore Go.Proofs.YtfbfeimildkigaaDoor.PX Go.Proofs.YtfbfeimildkigaaDoor.IT
set_option linter.unusedVariables false
set_option linter.unusedSimpArgs false
set_option maxRecDepth 100000
theorem zero_int (w : World) : (zeroValue 3).run Tryd.prog w = .ok (.int .i64 0) w := by kernel_rfl
theorem bsound_fits {next : List (List Int)} {tags : List Int} (h : BSound next tags) (a : Nat) (ha : a < 256) : ∀ row ∈ next, a < row.length ∧ Fits (row.getD a 0) := by
 intro row hr
 obtain ⟨j, hj, e⟩ := List.getElem_of_mem hr
 have h1 := h.2 j (by have := h.1.2.2; omega)
 unfold BRow at h1
 rw [show next.getD j [] = row by rw [List.getD_eq_getElem?_getD, List.getElem?_eq_getElem hj]; exact e] at h1
 have h2 := h1.2.2 a ha
 have h3 := h.1.2.1
 unfold Fits
 omega
set_option maxHeartbeats 16000000 in
theorem cof_calls (X : Nat → Prop) (vn vt : Value) (next : List (List Int)) (tags : List Int) (w : World) (hX : ∀ k, X k → k < w.heap.size) (hn : PV kRow X w vn next) (ht : PV kInt X w vt tags) :
  Calls Tryd.prog 9 #[.agg #[vn, vt]] w fun e w' => ∃ v0 v1 v2, e = .returned (.tuple #[.agg #[v0, v1, v2], .int .u16 (of14 next tags).2]) ∧ PV kU8 X w' v0 (of14 next tags).1.1 ∧ PV kRow X w' v1 (of14 next tags).1.2.1 ∧ PV kInt X w' v2 (of14 next tags).1.2.2 ∧ Below w.heap.size w w' := by
 have H1 := Aside0.mk hn
 have H2 := Aside0.mk ht
 have m1 := hn.max
 have m2 := ht.max
 obtain ⟨An, cn, rfl, _, _⟩ := hn.now
 obtain ⟨At, ct, rfl, _, _⟩ := ht.now
 have HS := Aside0.mk (((Sep.start hX).push_box [.slice An next.length cn, .slice At tags.length ct] 27).push_box' [.slice none 0 0, .slice none 0 0, .slice none 0 0] 31 (w.heap.size + 1) (by simp))
 obtain ⟨q, hq⟩ : ∃ q, q = decide (BSound next tags) := ⟨_, rfl⟩
 have HQ := Aside0.mk hq.symm
 obtain ⟨r, hr⟩ : ∃ r, r = of14 next tags := ⟨_, rfl⟩
 rw [← hr]
 have HR := Aside0.mk (show r = if BSound next tags then (((classesL next).2, next.map (shortRow (classesL next).1), tags), 0) else (([], [], []), 1) from hr)
 clear hn ht hX hq hr
 go_enter Tryd.func9, Tryd.ntmps9
 go_upto_if 18 with (first
  | (go_at_call 25; (with_reducible refine (lsound_calls _ _ _ next tags _ HS.out.lt (HS.out.arg H1.out) (HS.out.arg H2.out)).mono ?_); rintro ee w5 ⟨rfl, hb⟩; rw [HQ.out]; have hs := HS.out.call hb; clear hb; clear HS; have HS := Aside0.mk hs; clear hs))
 obtain ⟨g1, hg1⟩ : ∃ g, g = w.heap.size + 1 := ⟨_, rfl⟩
 obtain ⟨g0, hg0⟩ : ∃ g, g = w.heap.size := ⟨_, rfl⟩
 rw [← hg1, ← hg0] at HS ⊢
 clear hg0 hg1
 have x0 := ((HS.out.box 1 rfl).cell 0 rfl)
 have x1 := ((HS.out.box 1 rfl).cell 1 rfl)
 have x2 := ((HS.out.box 1 rfl).cell 2 rfl)
 have f0 := (HS.out.box 1 rfl).open_ 0
 have f1 := (HS.out.box 1 rfl).open_ 1
 have f2 := (HS.out.box 1 rfl).open_ 2
 cases q
 case false =>
  have HE := Aside0.mk (show r = (([], [], []), 1) by rw [HR.out, if_neg (of_decide_eq_false HQ.out)])
  go_wp2_with fail
  have HSF := Aside0.mk (((HS.out.set_box 1 rfl 0 (.slice none 0 0)).set_box 1 rfl 1 (.slice none 0 0)).set_box 1 rfl 2 (.slice none 0 0))
  refine bodyPost_ret (results_ct rfl _ _ g1 31 #[.slice none 0 0, .slice none 0 0, .slice none 0 0] (0, 0) _ rfl (HSF.out.box 1 rfl) Tryd.underlying31 rfl (by kernel_rfl)) rfl ?_
  rw [HE.out]
  exact ⟨_, _, _, rfl, PV.nil _ _ _, PV.nil _ _ _, PV.nil _ _ _, HSF.out.below⟩
 case true =>
  have HSO := Aside0.mk (of_decide_eq_true HQ.out)
  have HNT := Aside0.mk (show next.length = tags.length ∧ tags.length ≤ 40000 from ⟨HSO.out.1.2.2, HSO.out.1.2.1⟩)
  have HFIT := Aside0.mk (bsound_fits HSO.out)
  have HROW := Aside0.mk (show ∀ row ∈ next, row.length = 256 from fun row hrow => by
   obtain ⟨i', hi', e'⟩ := List.getElem_of_mem hrow
   have h := (HSO.out.2 i' (by have := HNT.out; omega)).1
   rw [List.getD_eq_getElem?_getD, List.getElem?_eq_getElem hi', e'] at h
   exact h)
  obtain ⟨cl, hcl⟩ : ∃ c, c = classesL next := ⟨_, rfl⟩
  have HR2 := Aside0.mk (show r = ((cl.2, next.map (shortRow cl.1), tags), 0) by rw [HR.out, if_pos HSO.out, hcl])
  have HCL := Aside0.mk (show clGo next 256 0 ([], []) = cl from hcl.symm)
  have hmm := run_makeMap (P := Tryd.prog) 61 w5
  clear HR HSO HQ hcl x0 x1 x2 f0 f1 f2
  go_wp2_with fail
  have hs := HS.out.push_map Tryd.prog 9 3
  obtain ⟨gm, hgm⟩ : ∃ g, g = w5.heap.size := ⟨_, rfl⟩
  rw [← hgm] at hs ⊢
  obtain ⟨wa, hwa⟩ : ∃ x, x = w5.alloc (.map #[] 0) := ⟨_, rfl⟩
  rw [← hwa] at hs ⊢
  clear hgm hwa HS hmm
  have HS := Aside0.mk hs
  clear hs
  have mk := make256
  have hs := HS.out.drew
  clear HS; have HS := Aside0.mk hs; clear hs
  refine start_ (n := 7) (S := fun w' => w'.cell? ⟨g0, 1, none⟩ = some (.slice At tags.length ct)) (ds := [6]) #[false, false, false, false, false, false, false] (by kernel_rfl) rfl rfl (((HS.out.box 0 rfl).cell 1 rfl)) (fun hHeld => ?_)
  generalize wa.drew = wd at HS hHeld ⊢
  refine pure_ (i := 1) (N := some 22) (v := ?_) (a' := ?_) #[false, true, false, false, false, false, false] rfl rfl (by kernel_rfl) (fun _ _ _ h => h) (Or.inl ⟨by rfl, ?_⟩) ?_ ?_
  rotate_left
  ·intro w'
   go_simp
   with_reducible rfl
  rotate_left
  ·simp only [Act.put, List.setIfInBounds_toArray, List.set_cons_zero, List.set_cons_succ, i64_w, i32_w]
   rfl
  refine take_ (i := 2) (N := some 23) (v := ?_) (a' := ?_) #[false, true, true, false, false, false, false] rfl rfl (by kernel_rfl) (fun _ _ _ h => h) (Or.inl ⟨by rfl, ?_⟩) hHeld ?_ ?_
  rotate_left
  ·intro w' s0
   go_simp
   with_reducible rfl
  rotate_left
  ·simp only [Act.put, List.setIfInBounds_toArray, List.set_cons_zero, List.set_cons_succ, i64_w, i32_w]
   rfl
  refine join_ (σ := Value × Value × Nat) 1 #[true, true, true, true, true, true, false] (fun s => [(21, s.1), (24, s.2.1), (25, .agg #[s.1, .slice none 0 0, s.2.1]), (6, .pointer (some ⟨s.2.2, 0, none⟩))]) (fun s w' => PX.Sep X w w' ([.box g0 27 [.slice An next.length cn, .slice At tags.length ct], .box g1 31 [.slice none 0 0, .slice none 0 0, .slice none 0 0], .obj gm (MapO Tryd.prog 9 3 0 (.map [])), .row kU8 5 s.1 (List.replicate 256 0), .row kInt 3 s.2.1 tags, .box s.2.2 31 [.slice none 0 0, .slice none 0 0, .slice none 0 0]] : List PX.Item)) ?_ ?_
  rotate_left
  ·intro hCont
   refine three_ (i := 0) (j := 3) (k := 5) (Ni := some 21) (Nj := some 24) (Nk := some 6) #[true, true, true, false, false, false, false] #[false, true, true, true, false, false, false] #[false, true, true, false, false, true, false] rfl rfl rfl rfl rfl rfl (by kernel_rfl) (by decide) (by decide) (by decide) (fun K hK => ?_) (fun K hK => ?_) (fun K hK => ?_)
   ·skip
    refine value_ (w1 := ?_) (v := ?_) (by rfl) rfl ?_ ?_
    rotate_left 2
    ·go_simp
     constructor
     ·rfl
     ·rfl
    have hs := HS.out.lit' (wd.heap.size) (by simp) kU8 5 (xs := List.replicate 256 0) (inner := z256) (reps_int _ _ _ _) (by simp)
    clear HS; have HS := Aside0.mk hs; clear hs
    refine hK.out _ _ (((HS.out.box 0 rfl).cell 1 rfl)) (fun hHeld => ?_)
    clear hK K
    refine norm_ (a' := ?_) ?_ ?_
    rotate_left
    ·show Act.put _ (some 21) _ = _
     simp only [Act.put, List.setIfInBounds_toArray, List.set_cons_zero, List.set_cons_succ, i64_w, i32_w]
     rfl
    refine two_ (i := 3) (j := 5) (Ni := some 24) (Nj := some 6) #[true, true, true, true, false, false, false] #[true, true, true, false, false, true, false] rfl rfl rfl rfl (by kernel_rfl) (by decide) (by decide) (fun K hK => ?_) (fun K hK => ?_)
    ·skip
     refine goes_ Tryd.func26 (by kernel_rfl) rfl #[.slice At tags.length ct] (by rfl) rfl rfl (by simp only [List.map_toArray, List.map_cons, List.map_nil]; rfl) ?_
     with_reducible refine (clone_calls _ _ tags _ HS.out.lt (HS.out.arg H2.out) (by have := HNT.out; omega)).mono ?_
     rintro e w6 ⟨v24, rfl, ho, hb6⟩
     refine ⟨_, rfl, ?_⟩
     obtain ⟨A24, c24, rfl, _⟩ := ho.now
     have hs := HS.out.push_row hb6 ho
     clear hb6 ho
     clear HS; have HS := Aside0.mk hs; clear hs
     refine hK.out _ _ (((HS.out.box 0 rfl).cell 1 rfl)) (fun hHeld => ?_)
     clear hK K
     refine norm_ (a' := ?_) ?_ ?_
     rotate_left
     ·show Act.put _ (some 24) _ = _
      simp only [Act.put, List.setIfInBounds_toArray, List.set_cons_zero, List.set_cons_succ, i64_w, i32_w]
      rfl
     refine pure_ (i := 4) (N := some 25) (v := ?_) (a' := ?_) #[true, true, true, true, true, false, false] rfl rfl (by kernel_rfl) (fun _ _ _ h => h) (Or.inl ⟨by rfl, ?_⟩) ?_ ?_
     rotate_left
     ·intro w'
      go_simp
      with_reducible rfl
     rotate_left
     ·simp only [Act.put, List.setIfInBounds_toArray, List.set_cons_zero, List.set_cons_succ, i64_w, i32_w]
      rfl
     refine one_ (i := 5) (N := some 6) #[true, true, true, true, true, true, false] rfl rfl (by kernel_rfl) (by decide) (fun K hK => ?_)
     refine value_ (w1 := ?_) (v := ?_) (by rfl) rfl ?_ ?_
     rotate_left 2
     ·go_simp
      constructor
      ·rfl
      ·rfl
     have hs := HS.out.push_box' [.slice none 0 0, .slice none 0 0, .slice none 0 0] 31 (w6.heap.size) (by simp)
     clear HS; have HS := Aside0.mk hs; clear hs
     refine hK.out _ _ (((HS.out.box 0 rfl).cell 1 rfl)) (fun hHeld => ?_)
     clear hK K
     refine norm_ (a' := ?_) ?_ ?_
     rotate_left
     ·show Act.put _ (some 6) _ = _
      simp only [Act.put, List.setIfInBounds_toArray, List.set_cons_zero, List.set_cons_succ, i64_w, i32_w]
      rfl
     exact norm_ (by simp only [putAll, Act.put, List.setIfInBounds_toArray, List.set_cons_zero, List.set_cons_succ]) (hCont (.slice (some ⟨wd.heap.size, 0, none⟩) 256 256, .slice A24 tags.length c24, w6.heap.size) _ (HS.out))
    ·skip
     refine value_ (w1 := ?_) (v := ?_) (by rfl) rfl ?_ ?_
     rotate_left 2
     ·go_simp
      constructor
      ·rfl
      ·rfl
     have hs := HS.out.push_box' [.slice none 0 0, .slice none 0 0, .slice none 0 0] 31 (wd.heap.size + 1) (by simp)
     clear HS; have HS := Aside0.mk hs; clear hs
     refine hK.out _ _ (((HS.out.box 0 rfl).cell 1 rfl)) (fun hHeld => ?_)
     clear hK K
     refine norm_ (a' := ?_) ?_ ?_
     rotate_left
     ·show Act.put _ (some 6) _ = _
      simp only [Act.put, List.setIfInBounds_toArray, List.set_cons_zero, List.set_cons_succ, i64_w, i32_w]
      rfl
     refine one_ (i := 3) (N := some 24) #[true, true, true, true, false, true, false] rfl rfl (by kernel_rfl) (by decide) (fun K hK => ?_)
     refine goes_ Tryd.func26 (by kernel_rfl) rfl #[.slice At tags.length ct] (by rfl) rfl rfl (by simp only [List.map_toArray, List.map_cons, List.map_nil]; rfl) ?_
     with_reducible refine (clone_calls _ _ tags _ HS.out.lt (HS.out.arg H2.out) (by have := HNT.out; omega)).mono ?_
     rintro e w6 ⟨v24, rfl, ho, hb6⟩
     refine ⟨_, rfl, ?_⟩
     obtain ⟨A24, c24, rfl, _⟩ := ho.now
     have hs := HS.out.push_row hb6 ho
     clear hb6 ho
     clear HS; have HS := Aside0.mk hs; clear hs
     refine hK.out _ _ (((HS.out.box 0 rfl).cell 1 rfl)) (fun hHeld => ?_)
     clear hK K
     refine norm_ (a' := ?_) ?_ ?_
     rotate_left
     ·show Act.put _ (some 24) _ = _
      simp only [Act.put, List.setIfInBounds_toArray, List.set_cons_zero, List.set_cons_succ, i64_w, i32_w]
      rfl
     refine pure_ (i := 4) (N := some 25) (v := ?_) (a' := ?_) #[true, true, true, true, true, true, false] rfl rfl (by kernel_rfl) (fun _ _ _ h => h) (Or.inl ⟨by rfl, ?_⟩) ?_ ?_
     rotate_left
     ·intro w'
      go_simp
      with_reducible rfl
     rotate_left
     ·simp only [Act.put, List.setIfInBounds_toArray, List.set_cons_zero, List.set_cons_succ, i64_w, i32_w]
      rfl
     exact norm_ (by simp only [putAll, Act.put, List.setIfInBounds_toArray, List.set_cons_zero, List.set_cons_succ]) (hCont (.slice (some ⟨wd.heap.size, 0, none⟩) 256 256, .slice A24 tags.length c24, wd.heap.size + 1) _ (HS.out.perm (perm_xzy rfl)))
   ·skip
    refine goes_ Tryd.func26 (by kernel_rfl) rfl #[.slice At tags.length ct] (by rfl) rfl rfl (by simp only [List.map_toArray, List.map_cons, List.map_nil]; rfl) ?_
    with_reducible refine (clone_calls _ _ tags _ HS.out.lt (HS.out.arg H2.out) (by have := HNT.out; omega)).mono ?_
    rintro e w6 ⟨v24, rfl, ho, hb6⟩
    refine ⟨_, rfl, ?_⟩
    obtain ⟨A24, c24, rfl, _⟩ := ho.now
    have hs := HS.out.push_row hb6 ho
    clear hb6 ho
    clear HS; have HS := Aside0.mk hs; clear hs
    refine hK.out _ _ (((HS.out.box 0 rfl).cell 1 rfl)) (fun hHeld => ?_)
    clear hK K
    refine norm_ (a' := ?_) ?_ ?_
    rotate_left
    ·show Act.put _ (some 24) _ = _
     simp only [Act.put, List.setIfInBounds_toArray, List.set_cons_zero, List.set_cons_succ, i64_w, i32_w]
     rfl
    refine two_ (i := 0) (j := 5) (Ni := some 21) (Nj := some 6) #[true, true, true, true, false, false, false] #[false, true, true, true, false, true, false] rfl rfl rfl rfl (by kernel_rfl) (by decide) (by decide) (fun K hK => ?_) (fun K hK => ?_)
    ·skip
     refine value_ (w1 := ?_) (v := ?_) (by rfl) rfl ?_ ?_
     rotate_left 2
     ·go_simp
      constructor
      ·rfl
      ·rfl
     have hs := HS.out.lit' (w6.heap.size) (by simp) kU8 5 (xs := List.replicate 256 0) (inner := z256) (reps_int _ _ _ _) (by simp)
     clear HS; have HS := Aside0.mk hs; clear hs
     refine hK.out _ _ (((HS.out.box 0 rfl).cell 1 rfl)) (fun hHeld => ?_)
     clear hK K
     refine norm_ (a' := ?_) ?_ ?_
     rotate_left
     ·show Act.put _ (some 21) _ = _
      simp only [Act.put, List.setIfInBounds_toArray, List.set_cons_zero, List.set_cons_succ, i64_w, i32_w]
      rfl
     refine pure_ (i := 4) (N := some 25) (v := ?_) (a' := ?_) #[true, true, true, true, true, false, false] rfl rfl (by kernel_rfl) (fun _ _ _ h => h) (Or.inl ⟨by rfl, ?_⟩) ?_ ?_
     rotate_left
     ·intro w'
      go_simp
      with_reducible rfl
     rotate_left
     ·simp only [Act.put, List.setIfInBounds_toArray, List.set_cons_zero, List.set_cons_succ, i64_w, i32_w]
      rfl
     refine one_ (i := 5) (N := some 6) #[true, true, true, true, true, true, false] rfl rfl (by kernel_rfl) (by decide) (fun K hK => ?_)
     refine value_ (w1 := ?_) (v := ?_) (by rfl) rfl ?_ ?_
     rotate_left 2
     ·go_simp
      constructor
      ·rfl
      ·rfl
     have hs := HS.out.push_box' [.slice none 0 0, .slice none 0 0, .slice none 0 0] 31 (w6.heap.size + 1) (by simp)
     clear HS; have HS := Aside0.mk hs; clear hs
     refine hK.out _ _ (((HS.out.box 0 rfl).cell 1 rfl)) (fun hHeld => ?_)
     clear hK K
     refine norm_ (a' := ?_) ?_ ?_
     rotate_left
     ·show Act.put _ (some 6) _ = _
      simp only [Act.put, List.setIfInBounds_toArray, List.set_cons_zero, List.set_cons_succ, i64_w, i32_w]
      rfl
     exact norm_ (by simp only [putAll, Act.put, List.setIfInBounds_toArray, List.set_cons_zero, List.set_cons_succ]) (hCont (.slice (some ⟨w6.heap.size, 0, none⟩) 256 256, .slice A24 tags.length c24, w6.heap.size + 1) _ (HS.out.perm (perm_yxz rfl)))
    ·skip
     refine value_ (w1 := ?_) (v := ?_) (by rfl) rfl ?_ ?_
     rotate_left 2
     ·go_simp
      constructor
      ·rfl
      ·rfl
     have hs := HS.out.push_box' [.slice none 0 0, .slice none 0 0, .slice none 0 0] 31 (w6.heap.size) (by simp)
     clear HS; have HS := Aside0.mk hs; clear hs
     refine hK.out _ _ (((HS.out.box 0 rfl).cell 1 rfl)) (fun hHeld => ?_)
     clear hK K
     refine norm_ (a' := ?_) ?_ ?_
     rotate_left
     ·show Act.put _ (some 6) _ = _
      simp only [Act.put, List.setIfInBounds_toArray, List.set_cons_zero, List.set_cons_succ, i64_w, i32_w]
      rfl
     refine one_ (i := 0) (N := some 21) #[true, true, true, true, false, true, false] rfl rfl (by kernel_rfl) (by decide) (fun K hK => ?_)
     refine value_ (w1 := ?_) (v := ?_) (by rfl) rfl ?_ ?_
     rotate_left 2
     ·go_simp
      constructor
      ·rfl
      ·rfl
     have hs := HS.out.lit' (w6.heap.size + 1) (by simp) kU8 5 (xs := List.replicate 256 0) (inner := z256) (reps_int _ _ _ _) (by simp)
     clear HS; have HS := Aside0.mk hs; clear hs
     refine hK.out _ _ (((HS.out.box 0 rfl).cell 1 rfl)) (fun hHeld => ?_)
     clear hK K
     refine norm_ (a' := ?_) ?_ ?_
     rotate_left
     ·show Act.put _ (some 21) _ = _
      simp only [Act.put, List.setIfInBounds_toArray, List.set_cons_zero, List.set_cons_succ, i64_w, i32_w]
      rfl
     refine pure_ (i := 4) (N := some 25) (v := ?_) (a' := ?_) #[true, true, true, true, true, true, false] rfl rfl (by kernel_rfl) (fun _ _ _ h => h) (Or.inl ⟨by rfl, ?_⟩) ?_ ?_
     rotate_left
     ·intro w'
      go_simp
      with_reducible rfl
     rotate_left
     ·simp only [Act.put, List.setIfInBounds_toArray, List.set_cons_zero, List.set_cons_succ, i64_w, i32_w]
      rfl
     exact norm_ (by simp only [putAll, Act.put, List.setIfInBounds_toArray, List.set_cons_zero, List.set_cons_succ]) (hCont (.slice (some ⟨w6.heap.size + 1, 0, none⟩) 256 256, .slice A24 tags.length c24, w6.heap.size) _ (HS.out.perm (perm_yzx rfl)))
   ·skip
    refine value_ (w1 := ?_) (v := ?_) (by rfl) rfl ?_ ?_
    rotate_left 2
    ·go_simp
     constructor
     ·rfl
     ·rfl
    have hs := HS.out.push_box' [.slice none 0 0, .slice none 0 0, .slice none 0 0] 31 (wd.heap.size) (by simp)
    clear HS; have HS := Aside0.mk hs; clear hs
    refine hK.out _ _ (((HS.out.box 0 rfl).cell 1 rfl)) (fun hHeld => ?_)
    clear hK K
    refine norm_ (a' := ?_) ?_ ?_
    rotate_left
    ·show Act.put _ (some 6) _ = _
     simp only [Act.put, List.setIfInBounds_toArray, List.set_cons_zero, List.set_cons_succ, i64_w, i32_w]
     rfl
    refine two_ (i := 0) (j := 3) (Ni := some 21) (Nj := some 24) #[true, true, true, false, false, true, false] #[false, true, true, true, false, true, false] rfl rfl rfl rfl (by kernel_rfl) (by decide) (by decide) (fun K hK => ?_) (fun K hK => ?_)
    ·skip
     refine value_ (w1 := ?_) (v := ?_) (by rfl) rfl ?_ ?_
     rotate_left 2
     ·go_simp
      constructor
      ·rfl
      ·rfl
     have hs := HS.out.lit' (wd.heap.size + 1) (by simp) kU8 5 (xs := List.replicate 256 0) (inner := z256) (reps_int _ _ _ _) (by simp)
     clear HS; have HS := Aside0.mk hs; clear hs
     refine hK.out _ _ (((HS.out.box 0 rfl).cell 1 rfl)) (fun hHeld => ?_)
     clear hK K
     refine norm_ (a' := ?_) ?_ ?_
     rotate_left
     ·show Act.put _ (some 21) _ = _
      simp only [Act.put, List.setIfInBounds_toArray, List.set_cons_zero, List.set_cons_succ, i64_w, i32_w]
      rfl
     refine one_ (i := 3) (N := some 24) #[true, true, true, true, false, true, false] rfl rfl (by kernel_rfl) (by decide) (fun K hK => ?_)
     refine goes_ Tryd.func26 (by kernel_rfl) rfl #[.slice At tags.length ct] (by rfl) rfl rfl (by simp only [List.map_toArray, List.map_cons, List.map_nil]; rfl) ?_
     with_reducible refine (clone_calls _ _ tags _ HS.out.lt (HS.out.arg H2.out) (by have := HNT.out; omega)).mono ?_
     rintro e w6 ⟨v24, rfl, ho, hb6⟩
     refine ⟨_, rfl, ?_⟩
     obtain ⟨A24, c24, rfl, _⟩ := ho.now
     have hs := HS.out.push_row hb6 ho
     clear hb6 ho
     clear HS; have HS := Aside0.mk hs; clear hs
     refine hK.out _ _ (((HS.out.box 0 rfl).cell 1 rfl)) (fun hHeld => ?_)
     clear hK K
     refine norm_ (a' := ?_) ?_ ?_
     rotate_left
     ·show Act.put _ (some 24) _ = _
      simp only [Act.put, List.setIfInBounds_toArray, List.set_cons_zero, List.set_cons_succ, i64_w, i32_w]
      rfl
     refine pure_ (i := 4) (N := some 25) (v := ?_) (a' := ?_) #[true, true, true, true, true, true, false] rfl rfl (by kernel_rfl) (fun _ _ _ h => h) (Or.inl ⟨by rfl, ?_⟩) ?_ ?_
     rotate_left
     ·intro w'
      go_simp
      with_reducible rfl
     rotate_left
     ·simp only [Act.put, List.setIfInBounds_toArray, List.set_cons_zero, List.set_cons_succ, i64_w, i32_w]
      rfl
     exact norm_ (by simp only [putAll, Act.put, List.setIfInBounds_toArray, List.set_cons_zero, List.set_cons_succ]) (hCont (.slice (some ⟨wd.heap.size + 1, 0, none⟩) 256 256, .slice A24 tags.length c24, wd.heap.size) _ (HS.out.perm (perm_zxy rfl)))
    ·skip
     refine goes_ Tryd.func26 (by kernel_rfl) rfl #[.slice At tags.length ct] (by rfl) rfl rfl (by simp only [List.map_toArray, List.map_cons, List.map_nil]; rfl) ?_
     with_reducible refine (clone_calls _ _ tags _ HS.out.lt (HS.out.arg H2.out) (by have := HNT.out; omega)).mono ?_
     rintro e w6 ⟨v24, rfl, ho, hb6⟩
     refine ⟨_, rfl, ?_⟩
     obtain ⟨A24, c24, rfl, _⟩ := ho.now
     have hs := HS.out.push_row hb6 ho
     clear hb6 ho
     clear HS; have HS := Aside0.mk hs; clear hs
     refine hK.out _ _ (((HS.out.box 0 rfl).cell 1 rfl)) (fun hHeld => ?_)
     clear hK K
     refine norm_ (a' := ?_) ?_ ?_
     rotate_left
     ·show Act.put _ (some 24) _ = _
      simp only [Act.put, List.setIfInBounds_toArray, List.set_cons_zero, List.set_cons_succ, i64_w, i32_w]
      rfl
     refine one_ (i := 0) (N := some 21) #[true, true, true, true, false, true, false] rfl rfl (by kernel_rfl) (by decide) (fun K hK => ?_)
     refine value_ (w1 := ?_) (v := ?_) (by rfl) rfl ?_ ?_
     rotate_left 2
     ·go_simp
      constructor
      ·rfl
      ·rfl
     have hs := HS.out.lit' (w6.heap.size) (by simp) kU8 5 (xs := List.replicate 256 0) (inner := z256) (reps_int _ _ _ _) (by simp)
     clear HS; have HS := Aside0.mk hs; clear hs
     refine hK.out _ _ (((HS.out.box 0 rfl).cell 1 rfl)) (fun hHeld => ?_)
     clear hK K
     refine norm_ (a' := ?_) ?_ ?_
     rotate_left
     ·show Act.put _ (some 21) _ = _
      simp only [Act.put, List.setIfInBounds_toArray, List.set_cons_zero, List.set_cons_succ, i64_w, i32_w]
      rfl
     refine pure_ (i := 4) (N := some 25) (v := ?_) (a' := ?_) #[true, true, true, true, true, true, false] rfl rfl (by kernel_rfl) (fun _ _ _ h => h) (Or.inl ⟨by rfl, ?_⟩) ?_ ?_
     rotate_left
     ·intro w'
      go_simp
      with_reducible rfl
     rotate_left
     ·simp only [Act.put, List.setIfInBounds_toArray, List.set_cons_zero, List.set_cons_succ, i64_w, i32_w]
      rfl
     exact norm_ (by simp only [putAll, Act.put, List.setIfInBounds_toArray, List.set_cons_zero, List.set_cons_succ]) (hCont (.slice (some ⟨w6.heap.size, 0, none⟩) 256 256, .slice A24 tags.length c24, wd.heap.size) _ (HS.out.perm (perm_zyx rfl)))
  rintro ⟨v21, v24, g2⟩ w7 hs
  clear hHeld
  clear HS; have HS := Aside0.mk hs; clear hs
  obtain ⟨gc, cc, ec0, _⟩ := HS.out.int 3 rfl 0 (by simp)
  have ec : v21 = .slice (some ⟨gc, 0, none⟩) 256 cc := ec0
  clear ec0
  subst ec
  obtain ⟨A24, c24, e24⟩ := HS.out.form 4 rfl
  subst e24
  have fz0 := (HS.out.box 5 rfl).open_ 0
  have fz1 := (HS.out.box 5 rfl).open_ 1
  have fz2 := (HS.out.box 5 rfl).open_ 2
  have yz0 := (HS.out.box 5 rfl).cell 0 rfl
  have yz1 := (HS.out.box 5 rfl).cell 1 rfl
  have yz2 := (HS.out.box 5 rfl).cell 2 rfl
  have hHeld : True := trivial
  refine norm_ (a' := ?_) ?_ ?_
  rotate_left
  ·simp only [putAll, Act.put, List.setIfInBounds_toArray, List.set_cons_zero, List.set_cons_succ]
   rfl
  refine last_ (i := 6) (N := none) #[true, true, true, true, true, true, true] rfl rfl (by kernel_rfl) (by decide) (fun K hK => ?_)
  refine skip_ (w1 := ?_) (by rfl) rfl ?_ ?_
  rotate_left
  ·go_simp
   rfl
  have hs := ((HS.out.set_box 5 rfl 0 (.slice (some ⟨gc, 0, none⟩) 256 cc)).set_box 5 rfl 1 (.slice none 0 0)).set_box 5 rfl 2 (.slice A24 tags.length c24)
  clear HS; have HS := Aside0.mk hs; clear hs
  refine hK.out _ _ ?_
  clear hK K
  refine done_ (by kernel_rfl) ?_
  obtain ⟨w8, hw8⟩ : ∃ x, x = ((w7.setCell ⟨g2, 0, none⟩ (.slice (some ⟨gc, 0, none⟩) 256 cc)).setCell ⟨g2, 1, none⟩ (.slice none 0 0)).setCell ⟨g2, 2, none⟩ (.slice A24 tags.length c24) := ⟨_, rfl⟩
  rw [← hw8] at HS ⊢
  clear hw8 fz0 fz1 fz2 yz0 yz1 yz2
  have hs := HS.out.push_nil kInt 3
  clear HS
  have HS := Aside0.mk hs
  clear hs
  go_wp2_with fail
  go_loopg [5, 7, 8, 9, 10, 26] 256 (fun m v5 v7 v8 v9 v10 v26 w' => ∃ (c : Nat) (p : List Int × List Int) (D : DataW Unit) (C : List Int), v26 = .int .i64 c ∧ Aside0 (c + m = 256) ∧ Aside0 (ClOk c p) ∧ Aside0 (clGo next m c p = cl) ∧ Aside0 (KnownD (keyL next) p.1 D) ∧ Aside0 (C = p.2 ++ List.replicate (256 - c) 0) ∧ Aside0 (Sep X w w' ([.box g0 27 [.slice An next.length cn, .slice At tags.length ct], .box g1 31 [.slice none 0 0, .slice none 0 0, .slice none 0 0], .obj gm (MapO Tryd.prog 9 3 c D), .row kU8 5 (.slice (some ⟨gc, 0, none⟩) 256 cc) C, .row kInt 3 (.slice A24 tags.length c24) tags, .box g2 31 [.slice (some ⟨gc, 0, none⟩) 256 cc, (.slice none 0 0), .slice A24 tags.length c24], .row kInt 3 v5 p.1] : List PX.Item)))
  case atStart => exact ⟨0, ([], []), .map [], _, rfl, ⟨by omega⟩, ⟨clok_nil⟩, HCL, ⟨KnownD.start _⟩, ⟨rfl⟩, HS⟩
  case round =>
   clear HS HCL
   obtain ⟨c, p, D, C, rfl, HJ, HP, HCL, HKD, HC, HS⟩ := hrel
   obtain ⟨A5, c5, e5⟩ := HS.out.form 6 rfl
   subst e5
   have y0 := (HS.out.box 0 rfl).cell 0 rfl
   cases gk with
   | zero =>
    have hc : c = 256 := by have := HJ.out; omega
    have e1 : decide ((c : Int) < 256) = false := decide_eq_false (by omega)
    have e2 : decide (c < 256) = false := decide_eq_false (by omega)
    have hcl : p = cl := HCL.out
    subst hcl
    have HC2 := Aside0.mk (show C = p.2 by rw [HC.out, hc, Nat.sub_self, List.replicate_zero, List.append_nil])
    have HPF := Aside0.mk (show ∀ x ∈ p.1, 0 ≤ x ∧ x < 256 from HP.out.f)
    have HFL := Aside0.mk (show p.1.length ≤ 256 by have := HP.out.len; omega)
    clear HCL HP HJ hc HC HKD
    go_wp2_with fail
    clear e1 e2 y0
    go_loopg [60] next.length (fun m v60 w' => ∃ (i : Nat) (vN : Value) (N : List (List Int)), v60 = .int .i64 i ∧ Aside0 (i + m = next.length) ∧ Aside0 (N = (next.take i).map (shortRow p.1)) ∧ Aside0 (Sep X w w' ([.box g0 27 [.slice An next.length cn, .slice At tags.length ct], .box g1 31 [.slice none 0 0, .slice none 0 0, .slice none 0 0], .obj gm (MapO Tryd.prog 9 3 c D), .row kU8 5 (.slice (some ⟨gc, 0, none⟩) 256 cc) C, .row kInt 3 (.slice A24 tags.length c24) tags, .box g2 31 [.slice (some ⟨gc, 0, none⟩) 256 cc, vN, .slice A24 tags.length c24], .row kInt 3 (.slice A5 p.1.length c5) p.1, .row kRow 25 vN N] : List PX.Item)))
    case atStart => exact ⟨0, _, [], rfl, ⟨by omega⟩, ⟨rfl⟩, ⟨HS.out.push_nil kRow 25⟩⟩
    case round =>
     clear HS
     obtain ⟨i, vN, N, rfl, HJ, HN, HS⟩ := hrel
     obtain ⟨A6, c6, e6⟩ := HS.out.form 7 rfl
     subst e6
     cases gk with
     | zero =>
      have hi : i = next.length := by have := HJ.out; omega
      have e1 : decide ((i : Int) < (next.length : Int)) = false := decide_eq_false (by omega)
      have e2 : decide (i < next.length) = false := decide_eq_false (by omega)
      have HRR := Aside0.mk (show r = ((C, N, tags), 0) by rw [HR2.out, HN.out, HC2.out, hi, List.take_length])
      clear HN HJ hi HR2
      have z0 := ((HS.out.box 5 rfl).cell 0 rfl)
      have z1 := ((HS.out.box 5 rfl).cell 1 rfl)
      have z2 := ((HS.out.box 5 rfl).cell 2 rfl)
      have x0 := ((HS.out.box 1 rfl).cell 0 rfl)
      have x1 := ((HS.out.box 1 rfl).cell 1 rfl)
      have x2 := ((HS.out.box 1 rfl).cell 2 rfl)
      have f0 := (HS.out.box 1 rfl).open_ 0
      have f1 := (HS.out.box 1 rfl).open_ 1
      have f2 := (HS.out.box 1 rfl).open_ 2
      go_wp2_with fail
      have HSF := Aside0.mk (((HS.out.set_box 1 rfl 0 (.slice (some ⟨gc, 0, none⟩) 256 cc)).set_box 1 rfl 1 (.slice A6 N.length c6)).set_box 1 rfl 2 (.slice A24 tags.length c24))
      refine bodyPost_ret (results_ct rfl _ _ g1 31 #[.slice (some ⟨gc, 0, none⟩) 256 cc, .slice A6 N.length c6, .slice A24 tags.length c24] (0, 0) _ rfl (HSF.out.box 1 rfl) Tryd.underlying31 rfl (by kernel_rfl)) rfl ?_
      rw [HRR.out]
      exact ⟨_, _, _, rfl, HSF.out.res_row 3 rfl, HSF.out.res_row 7 rfl, HSF.out.res_row 4 rfl, HSF.out.below⟩
     | succ k1 =>
      have hi : i < next.length := by have := HJ.out; omega
      have e1 : decide ((i : Int) < (next.length : Int)) = true := decide_eq_true (by omega)
      have e2 : decide (i < next.length) = true := decide_eq_true hi
      have hi0 : (0 : Int) ≤ (i : Int) := by omega
      have hi1 : (i : Int) < (next.length : Int) := by omega
      obtain ⟨an, cn', u, en, hu, yn⟩ := H1.out.row i hi
      cases en
      obtain ⟨Au, cu, rfl, _, _⟩ := hu.now
      have HU := Aside0.mk hu
      have yr := pw_cell_below HS.out.below yn
      have HRL := Aside0.mk (show (next.getD i []).length = 256 from HROW.out _ (mem_getD next [] i hi))
      have HN2 := Aside0.mk (show N ++ [shortRow p.1 (next.getD i [])] = (next.take (i + 1)).map (shortRow p.1) by rw [take_at next [] i hi, List.map_append, HN.out]; rfl)
      have HPL := Aside0.mk (show N.length + 1 ≤ 1000000 by rw [HN.out]; have := HNT.out; simp; omega)
      generalize next.getD i [] = row at *
      clear hu yn HN
      have hpl : p.1.length ≤ 256 := HFL.out
      go_wp2_with (first
       | ((with_reducible refine gate_dst (N := 66) rfl ?_); refine smake .i64 3 rfl (N := 66) rfl 25 (.tmp 65) (.tmp 65) rfl p.1.length rfl rfl Tryd.underlying25 8 info3' (by omega) (by omega) HS.out ?_; clear HS; intro v13 w13 hs; have HS := Aside0.mk hs; clear hs))
      clear yr e1 e2
      go_loopg [14, 15, 69] p.1.length (fun m v14 v15 v69 w' => ∃ (k : Nat) (R : List Int), v69 = .int .i64 k ∧ Aside0 (k + m = p.1.length) ∧ Aside0 (R = (p.1.take k).map (fun f => row.getD f.toNat 0) ++ List.replicate (p.1.length - k) 0) ∧ Aside0 (Sep X w w' ([.box g0 27 [.slice (some an) next.length cn, .slice At tags.length ct], .box g1 31 [.slice none 0 0, .slice none 0 0, .slice none 0 0], .obj gm (MapO Tryd.prog 9 3 c D), .row kU8 5 (.slice (some ⟨gc, 0, none⟩) 256 cc) C, .row kInt 3 (.slice A24 tags.length c24) tags, .box g2 31 [.slice (some ⟨gc, 0, none⟩) 256 cc, .slice A6 N.length c6, .slice A24 tags.length c24], .row kInt 3 (.slice A5 p.1.length c5) p.1, .row kRow 25 (.slice A6 N.length c6) N, .row kInt 3 v13 R] : List PX.Item)))
      case atStart => exact ⟨0, _, rfl, ⟨by omega⟩, ⟨rfl⟩, HS⟩
      case round =>
       clear HS
       obtain ⟨k, R, rfl, HC, HR, HS⟩ := hrel
       cases gk with
       | zero =>
        have hk : k = p.1.length := by have := HC.out; omega
        have e1 : decide ((k : Int) < (p.1.length : Int)) = false := decide_eq_false (by omega)
        have e2 : decide (k < p.1.length) = false := decide_eq_false (by omega)
        have q0 : R = shortRow p.1 row := by rw [HR.out, hk, List.take_length, Nat.sub_self, List.replicate_zero, List.append_nil]; rfl
        rw [← q0] at HN2
        clear HR q0 hk
        obtain ⟨A13, c13, e13⟩ := HS.out.form 8 rfl
        subst e13
        have hs := HS.out.sealRo 8 rfl
        clear HS
        have HS := Aside0.mk hs
        have y2 := ((HS.out.box 5 rfl).cell 1 rfl)
        clear hs
        go_wp2_with (first
         | ((with_reducible refine gate_dst (N := 85) rfl ?_); refine slit kRow 25 ?hg (N := 85) ?hd (xs := [R]) (inner := [.slice A13 R.length c13]) ?hr HS.out ?hp (by simp) ?_; (case hd => rfl); (case hg => rfl); (case hr => first | (go_simp; done) | (go_simp; rfl)); (case hp => exact Reps.one (PK.slice (HS.out.ro 8 rfl)) (Reps.none _ _)); clear HS; intro v30 w30 hs; have HS := Aside0.mk hs; clear hs)
         | ((with_reducible refine gate_builtin (b := .append) (xs := #[.tmp 83, .tmp 85]) rfl ?_); at_builtin; refine sgrow kRow 7 rfl (.tmp 83) (.tmp 85) 24 25 (.slice none 0 0) 24 rfl Tryd.underlying24 info25 rfl (by decide) (by omega) _ _ N [R] rfl rfl HS.out rfl (HS.out.ro 9 rfl) (by have := HPL.out; rw [List.length_singleton]; omega) ?_; clear HS; intro v1 w1 hs; obtain ⟨n1, hn1⟩ : ∃ q, q = N ++ [R] := ⟨_, rfl⟩; rw [← hn1] at hs; have HZn1 := Aside0.mk hn1; clear hn1; obtain ⟨A1, c1, e1⟩ := hs.form 7 rfl; subst e1; have hs := hs.take 8; have fz := (hs.box 5 rfl).open_ 1; have yz := (hs.box 5 rfl).cell 1 rfl; have HS := Aside0.mk hs; clear hs))
        have hs := HS.out.set_box 5 rfl 1 (.slice A1 n1.length c1)
        go_roundg k1
        case measure => omega
        case rel => exact ⟨i + 1, _, n1, by go_num, ⟨by have := HJ.out; omega⟩, ⟨by rw [HZn1.out]; exact HN2.out⟩, ⟨hs⟩⟩
       | succ m1 =>
        have hk : k < p.1.length := by have := HC.out; omega
        have e1 : decide ((k : Int) < (p.1.length : Int)) = true := decide_eq_true (by omega)
        have e2 : decide (k < p.1.length) = true := decide_eq_true hk
        have hk0 : (0 : Int) ≤ (k : Int) := by omega
        have hk1 : (k : Int) < (p.1.length : Int) := by omega
        have hfx := HPF.out _ (mem_getD p.1 0 k hk)
        obtain ⟨fn, hfn⟩ : ∃ n : Nat, p.1.getD k 0 = (n : Int) := ⟨(p.1.getD k 0).toNat, by omega⟩
        have hfr : fn < row.length := by have := HRL.out; omega
        have hf0 : (0 : Int) ≤ (fn : Int) := by omega
        have hf1 : (fn : Int) < (row.length : Int) := by omega
        obtain ⟨ar, cr, er, yr0⟩ := int_cell HU.out fn hfr
        cases er
        obtain ⟨gf, cf, ef, yf, _, _⟩ := HS.out.int 6 rfl k hk
        cases ef
        rw [hfn] at yf
        have hRL : R.length = p.1.length := by rw [HR.out]; simp; omega
        obtain ⟨gs, cs, es, ys, fs, hup⟩ := HS.out.int 8 rfl k (by omega)
        subst es
        have hRl1 : (k : Int) < (R.length : Int) := by omega
        have HUP := Aside0.mk hup
        have HSET := Aside0.mk (show R.set k (row.getD fn 0) = (p.1.take (k + 1)).map (fun f => row.getD f.toNat 0) ++ List.replicate (p.1.length - (k + 1)) 0 by
         have hl : ((p.1.take k).map (fun f => row.getD f.toNat 0)).length = k := by simp; omega
         rw [HR.out, List.set_append, if_neg (by omega), hl, Nat.sub_self, show p.1.length - k = (p.1.length - (k + 1)) + 1 by omega, List.replicate_succ, List.set_cons_zero, take_at p.1 0 k hk, List.map_append, List.append_assoc]
         simp only [List.map_cons, List.map_nil, hfn, Int.toNat_natCast, List.singleton_append])
        have yr := pw_cell_below HS.out.below yr0
        generalize row.getD fn 0 = x at *
        clear yr0 HR hfn hfx hup hRL
        go_wp2_with fail
        have hs := HUP.out x
        go_roundg m1
        case measure => omega
        case rel => exact ⟨k + 1, _, by go_num, ⟨by have := HC.out; omega⟩, HSET, ⟨hs⟩⟩
   | succ k1 =>
    have hc : c < 256 := by have := HJ.out; omega
    have e1 : decide ((c : Int) < 256) = true := decide_eq_true (by omega)
    have e2 : decide (c < 256) = true := decide_eq_true hc
    have hc0 : (0 : Int) ≤ (c : Int) := by omega
    have hkey := key_string Tryd.underlying9 next c (by have := HNT.out; omega)
    have hcol := HKD.out.col (fun a ha row hr => (HFIT.out a ha row hr).2) HP.out.f hc p.1 0 (by omega) rfl (fun j hj => by omega)
    have HR1 := HCL.out
    rw [clGo, clStep] at HR1
    have hp2 := HP.out.step hc next
    rw [clStep] at hp2
    have ha := colGo_lt next c p.1 0
    obtain ⟨a, hca⟩ : ∃ a, a = colGo next c p.1 0 := ⟨_, rfl⟩
    rw [← hca] at HR1 hp2 ha hcol
    have hpl : p.1.length ≤ c := HP.out.len
    have hp2l : p.2.length = c := HP.out.of_.1
    have HCLEN := Aside0.mk (show C.length = 256 by rw [HC.out]; simp; omega)
    have HSET := Aside0.mk (show ∀ q : Int, C.set c q = (p.2 ++ [q]) ++ List.replicate (256 - (c + 1)) 0 from fun q => by
     rw [HC.out, List.set_append, if_neg (by omega), hp2l, Nat.sub_self, show 256 - c = (256 - (c + 1)) + 1 by omega, List.replicate_succ, List.set_cons_zero, List.append_assoc, List.singleton_append])
    clear hca hp2l
    rcases hcol with ⟨ha1, hhas⟩ | ⟨ha0, hhas, hat⟩
    case inr =>
     obtain ⟨k, hk⟩ : ∃ k : Nat, a = (k : Int) := ⟨a.toNat, by omega⟩
     subst hk
     have HHAS := Aside0.mk hhas
     have HAT := Aside0.mk hat
     have HP3 := Aside0.mk (show ClOk (c + 1) (p.1, p.2 ++ [(k : Int)]) by rwa [if_neg (by omega)] at hp2)
     have HR4 := Aside0.mk (show clGo next k1 (c + 1) (p.1, p.2 ++ [(k : Int)]) = cl by rwa [if_neg (by omega)] at HR1)
     have hk1 : (k : Int) < 256 := by omega
     have hk2 : k < 256 := by omega
     have hk0 : (0 : Int) ≤ (k : Int) := by omega
     clear HR1 hp2 ha ha0 hhas hat HCL HP
     go_wp2_with (first
      | (go_at_call 27; (with_reducible refine (column_calls _ _ next c _ HS.out.lt (HS.out.arg H1.out) (fun row hr => (HFIT.out c hc row hr).1) (fun row hr => (HFIT.out c hc row hr).2) (by have := HNT.out; omega)).mono ?_); rintro ee w9 ⟨rfl, hb⟩; have hs := HS.out.call hb; obtain ⟨gx, cx, ex, yc, fc, hup⟩ := hs.int 3 rfl c (by rw [HCLEN.out]; exact hc); obtain ⟨ex1, ex2, ex3⟩ := Value.slice.inj ex; clear ex2; cases ex1; cases ex3; have HUP := Aside0.mk hup; clear hb hup ex; have yb := (hs.box 5 rfl).cell 0 rfl; clear HS; have HS := Aside0.mk hs; clear hs)
      | (at_lookup; refine wpList_lookup_own_ok_int _ rfl _ _ 61 rfl 9 3 .i64 (Go.Maps.string_keyed Tryd.underlying9) Tryd.underlying61 Tryd.underlying3 (zero_int _) gm c D rfl (HS.out.map 2 rfl) _ (keyL next c) rfl hkey ?_; intro cv hcv _; rw [HHAS.out]; have hcv2 := (HAT.out (.lit (.int .i64 0))).symm.trans hcv; clear hcv; cases hcv2))
     have hs := HUP.out (k : Int)
     have hs2 := hs.set_map 2 rfl ((hs.map 2 rfl).mono (Nat.le_succ c)) (hs.map 2 rfl).turned_refl
     go_roundg k1
     case measure => omega
     case rel => exact ⟨c + 1, (p.1, p.2 ++ [(k : Int)]), D, _, by go_num, ⟨by have := HJ.out; omega⟩, HP3, HR4, HKD, ⟨HSET.out _⟩, ⟨hs2⟩⟩
    case inl =>
     subst ha1
     have HHAS := Aside0.mk hhas
     have HKD2 := Aside0.mk (HKD.out.step (keyL_key next c) hhas)
     have HP3 := Aside0.mk (show ClOk (c + 1) (p.1 ++ [(c : Int)], p.2 ++ [(p.1.length : Int)]) by rwa [if_pos (by decide)] at hp2)
     have HR4 := Aside0.mk (show clGo next k1 (c + 1) (p.1 ++ [(c : Int)], p.2 ++ [(p.1.length : Int)]) = cl by rwa [if_pos (by decide)] at HR1)
     have hk1 : (p.1.length : Int) < 256 := by omega
     have hk2 : p.1.length < 256 := by omega
     have hk0 : (0 : Int) ≤ (p.1.length : Int) := by omega
     have hcw : (Lit.int .i64 (p.1.length : Int)).wf = true := by simp [Lit.wf, IntKind.min, IntKind.max, IntKind.bits, IntKind.signed]; omega
     clear HR1 hp2 ha hhas HCL HP HKD
     go_wp2_with (first
      | (go_at_call 27; (with_reducible refine (column_calls _ _ next c _ HS.out.lt (HS.out.arg H1.out) (fun row hr => (HFIT.out c hc row hr).1) (fun row hr => (HFIT.out c hc row hr).2) (by have := HNT.out; omega)).mono ?_); rintro ee w9 ⟨rfl, hb⟩; have hs := HS.out.call hb; clear hb; clear HS; have HS := Aside0.mk hs; clear hs)
      | (at_lookup; refine wpList_lookup_own_ok_int _ rfl _ _ 61 rfl 9 3 .i64 (Go.Maps.string_keyed Tryd.underlying9) Tryd.underlying61 Tryd.underlying3 (zero_int _) gm c D rfl (HS.out.map 2 rfl) _ (keyL next c) rfl hkey ?_; intro cv hcv _; rw [HHAS.out])
      | (at_mapUpdate; refine wpList_mapUpdate_in _ rfl _ _ _ 61 rfl 9 3 (Go.Maps.string_keyed Tryd.underlying9) Tryd.underlying61 (plainElem Tryd.prog 3) gm c D rfl (HS.out.map 2 rfl) (by unfold maxLen; omega) _ _ _ rfl rfl hkey (.lit (.int .i64 (p.1.length : Int))) [] (plainElem_int Tryd.underlying3 hcw) ?_; intro w10 hown hturn; have hs := HS.out.set_map 2 rfl hown hturn; clear HS hown hturn; have HS := Aside0.mk hs; clear hs)
      | ((with_reducible refine gate_dst (N := 48) rfl ?_); refine slit kInt 3 ?hg (N := 48) ?hd (xs := [(c : Int)]) (inner := [.int .i64 (c : Int)]) ?hr HS.out ?hp (by simp) ?_; (case hd => rfl); (case hg => rfl); (case hr => first | (go_simp; done) | (go_simp; rfl)); (case hp => exact Reps.one (PK.scalar _) (Reps.none _ _)); clear HS; intro v30 w30 hs; have HS := Aside0.mk hs; clear hs)
      | ((with_reducible refine gate_builtin (b := .append) (xs := #[.tmp 46, .tmp 48]) rfl ?_); at_builtin; refine sgrow kInt 6 rfl (.tmp 46) (.tmp 48) 25 3 (.int .i64 0) 8 rfl Tryd.underlying25 info3' rfl (by decide) (by omega) _ _ p.1 [(c : Int)] rfl rfl HS.out rfl (HS.out.ro 7 rfl) (by rw [List.length_singleton]; omega) ?_; clear HS; intro v31 w31 hs; obtain ⟨F1, hF1⟩ : ∃ q, q = p.1 ++ [(c : Int)] := ⟨_, rfl⟩; rw [← hF1] at hs; have HZF1 := Aside0.mk hF1; clear hF1; obtain ⟨A3, c3, e3⟩ := hs.form 6 rfl; subst e3; have hs := hs.take 7; obtain ⟨gx, cx, ex, yc, fc, hup⟩ := hs.int 3 rfl c (by rw [HCLEN.out]; exact hc); obtain ⟨ex1, ex2, ex3⟩ := Value.slice.inj ex; clear ex2; cases ex1; cases ex3; have HUP := Aside0.mk hup; clear hup ex; have yb := (hs.box 5 rfl).cell 0 rfl; have HS := Aside0.mk hs; clear hs))
     have hs := HUP.out (p.1.length : Int)
     go_roundg k1
     case measure => omega
     case rel => exact ⟨c + 1, (F1, p.2 ++ [(p.1.length : Int)]), _, _, by go_num, ⟨by have := HJ.out; omega⟩, ⟨by rw [HZF1.out]; exact HP3.out⟩, ⟨by rw [HZF1.out]; exact HR4.out⟩, ⟨by rw [HZF1.out]; exact HKD2.out⟩, ⟨HSET.out _⟩, ⟨hs⟩⟩
end Go.Proofs.YtfbfeimildkigaaDoor.P
namespace Go.Proofs.YtfbfeimildkigaaDoor.P
open Go Go.RowKit Go.Proofs.YtfbfeimildkigaaDoorW.PrintWords Go.Proofs.YtfbfeimildkigaaDoorW.PrintLast Go.Proofs.YtfbfeimildkigaaDoorW.PrintMore Go.Proofs.YtfbfeimildkigaaDoor.PX
set_option linter.unusedVariables false
set_option linter.unusedSimpArgs false
set_option maxRecDepth 100000
theorem manyGo_all : ∀ (l : List Int) (n : Int), manyGo l n ≠ -1 → 0 ≤ n → n ≤ manyGo l n ∧ ∀ c ∈ l, c < manyGo l n
 | [], n, _, _ => ⟨Int.le_refl _, fun c h => by cases h⟩
 | c :: t, n, h, h0 => by
  rw [manyGo] at h ⊢
  by_cases h2 : c > n
  ·rw [if_pos h2] at h; exact absurd rfl h
  ·rw [if_neg h2] at h ⊢
   obtain ⟨h3, h4⟩ := manyGo_all t _ h (by omega)
   refine ⟨by omega, fun x hx => ?_⟩
   rcases List.mem_cons.1 hx with h5 | h5
   ·subst h5; omega
   ·exact h4 x h5
theorem many14_all {l : List Int} {n : Nat} (h : many14 l = (n : Int)) (h0 : n ≠ 0) : l.length = 256 ∧ ∀ c ∈ l, c < (n : Int) := by
 unfold many14 at h
 by_cases h2 : manyGo l 0 = -1 ∨ l.length ≠ 256
 ·rw [if_pos h2] at h; omega
 ·rw [if_neg h2] at h
  obtain ⟨h3, h4⟩ := manyGo_all l 0 (fun e => h2 (.inl e)) (by omega)
  rw [h] at h4
  exact ⟨Decidable.not_not.1 (fun e => h2 (.inr e)), h4⟩
def tGo (cl : List Int) (next : List (List Int)) (a c : Nat) : Int := (next.getD a []).getD (cl.getD c 0).toNat 0
def stGo (cl : List Int) (next : List (List Int)) : List Int → Nat → Nat → Nat
 | [], _, i => i
 | c :: t, a, i => if tGo cl next a c.toNat < 0 then i + 1 else stGo cl next t (tGo cl next a c.toNat).toNat (i + 1)
def steps14 (cl : List Int) (next : List (List Int)) (tags s : List Int) : Nat := if TSound cl next tags then stGo cl next s 0 0 else 0
theorem tsound_head {cl : List Int} {next : List (List Int)} {tags : List Int} (hu : U8s cl) (h : TSound cl next tags) : ∃ n : Nat, many14 cl = (n : Int) ∧ n ≤ 256 ∧ cl.length = 256 ∧ (∀ c ∈ cl, 0 ≤ c ∧ c < (n : Int)) ∧ TSoundN n next tags := by
 obtain ⟨n, hn, h256⟩ := many14_le hu
 unfold TSound at h
 rw [hn] at h
 have h' : TSoundN n next tags := h
 have h0 : n ≠ 0 := h'.1.1
 obtain ⟨h1, h2⟩ := many14_all hn h0
 exact ⟨n, hn, h256, h1, fun c hc => ⟨(hu c hc).1, h2 c hc⟩, h'⟩
set_option maxHeartbeats 8000000 in
theorem steps14_calls (X : Nat → Prop) (vc vn vt vs : Value) (cl : List Int) (next : List (List Int)) (tags s : List Int) (w : World) (hX : ∀ k, X k → k < w.heap.size)
  (hc : PV kU8 X w vc cl) (hn : PV kRow X w vn next) (ht : PV kInt X w vt tags) (hs : PV kU8 X w vs s) (huc : U8s cl) (hu : U8s s) :
  Calls Tryd.prog 21 #[.agg #[vc, vn, vt], vs] w fun e w' => e = .returned (.int .i64 (steps14 cl next tags s)) ∧ Below w.heap.size w w' := by
 have H0 := Aside0.mk hc
 have H1 := Aside0.mk hn
 have H2 := Aside0.mk ht
 have H3 := Aside0.mk hs
 have HUC := Aside0.mk huc
 have HU := Aside0.mk hu
 have m0 := hc.max
 have m1 := hn.max
 have m2 := ht.max
 have m3 := hs.max
 obtain ⟨Ac, cc, rfl, _, _⟩ := hc.now
 obtain ⟨An, cn, rfl, _, _⟩ := hn.now
 obtain ⟨At, ct, rfl, _, _⟩ := ht.now
 obtain ⟨As, cs, rfl, _, _⟩ := hs.now
 have HS := Aside0.mk ((Sep.start hX).push_box [.slice Ac cl.length cc, .slice An next.length cn, .slice At tags.length ct] 31)
 obtain ⟨q, hq⟩ : ∃ q, q = decide (TSound cl next tags) := ⟨_, rfl⟩
 have HQ := Aside0.mk hq.symm
 obtain ⟨r, hr⟩ : ∃ r, r = steps14 cl next tags s := ⟨_, rfl⟩
 rw [← hr]
 have HR := Aside0.mk (show r = if TSound cl next tags then stGo cl next s 0 0 else 0 from hr)
 clear hc hn ht hs hu huc hX hq hr
 go_enter Tryd.func21, Tryd.ntmps21
 go_upto_if 9 with (first
  | (go_at_call 19; (with_reducible refine (tsound_calls _ _ _ _ cl next tags _ HS.out.lt (HS.out.arg H0.out) (HS.out.arg H1.out) (HS.out.arg H2.out) HUC.out).mono ?_); rintro ee w5 ⟨rfl, hb⟩; rw [HQ.out]; have hs := HS.out.call hb; clear hb; clear HS; have HS := Aside0.mk hs; clear hs))
 cases q
 case false =>
  have HE := Aside0.mk (show r = 0 by rw [HR.out, if_neg (of_decide_eq_false HQ.out)])
  go_wp2_with fail
  go_ret
  rw [HE.out]
  exact ⟨rfl, HS.out.below⟩
 case true =>
  have HSO := Aside0.mk (of_decide_eq_true HQ.out)
  have HR2 := Aside0.mk (show stGo cl next (s.drop 0) 0 0 = r by rw [HR.out, if_pos HSO.out]; rfl)
  obtain ⟨n, hn, hn256, hcl, hcn, hso⟩ := tsound_head HUC.out HSO.out
  have HSN := Aside0.mk hso
  have HCN := Aside0.mk hcn
  have HCL := Aside0.mk hcl
  clear HR hn hcl hcn hso
  go_wp2_with fail
  clear HQ
  obtain ⟨g0, hg0⟩ : ∃ g, g = w.heap.size := ⟨_, rfl⟩
  rw [← hg0] at HS ⊢
  clear hg0
  go_loopg [5, 6] s.length (fun m v5 v6 w' => ∃ (i a : Nat), v5 = .int .i64 a ∧ v6 = .int .i64 i ∧ Aside0 (i + m = s.length) ∧ Aside0 (a < tags.length) ∧ Aside0 (stGo cl next (s.drop i) a i = r) ∧ Aside0 (Sep X w w' [.box g0 31 [.slice Ac cl.length cc, .slice An next.length cn, .slice At tags.length ct]]))
  case atStart => exact ⟨0, 0, rfl, rfl, ⟨by omega⟩, ⟨by have := HSN.out.1.2.1; omega⟩, HR2, HS⟩
  case round =>
   clear HS HR2
   obtain ⟨i, a, rfl, rfl, HJ, HA, HR, HS⟩ := hrel
   have y0 := (HS.out.box 0 rfl).cell 0 rfl
   have y1 := (HS.out.box 0 rfl).cell 1 rfl
   cases gk with
   | zero =>
    have e1 : decide ((i : Int) < (s.length : Int)) = false := decide_eq_false (by have := HJ.out; omega)
    have e2 : decide (i < s.length) = false := decide_eq_false (by have := HJ.out; omega)
    have HE := Aside0.mk (show s.length = r by have h := HR.out; rw [List.drop_of_length_le (by have := HJ.out; omega), stGo] at h; have := HJ.out; omega)
    go_wp2_with fail
    go_ret
    rw [← HE.out]
    exact ⟨rfl, HS.out.below⟩
   | succ k1 =>
    have hi : i < s.length := by have := HJ.out; omega
    have ha : a < next.length := by have := HA.out; have := HSN.out.1.2.2.2; omega
    have e1 : decide ((i : Int) < (s.length : Int)) = true := decide_eq_true (by omega)
    have e2 : decide (i < s.length) = true := decide_eq_true hi
    have hi0 : (0 : Int) ≤ (i : Int) := by omega
    have hi1 : (i : Int) < (s.length : Int) := by omega
    have ha0 : (0 : Int) ≤ (a : Int) := by omega
    have ha1 : (a : Int) < (next.length : Int) := by omega
    obtain ⟨c, hc, hc2⟩ := u8s_at HU.out i hi
    obtain ⟨as_, cs', es, ys0⟩ := u8_cell H3.out i hi
    cases es
    rw [hc] at ys0
    obtain ⟨ac, cc', ec, yc0⟩ := u8_cell H0.out c (by have := HCL.out; omega)
    cases ec
    have hk := HCN.out _ (mem_getD cl 0 c (by have := HCL.out; omega))
    obtain ⟨k, hk2⟩ : ∃ k : Nat, cl.getD c 0 = (k : Int) := ⟨(cl.getD c 0).toNat, by omega⟩
    rw [hk2] at yc0 hk
    have HR3 := HR.out
    rw [drop_at s 0 i hi, hc, stGo, show ((c : Int).toNat) = c from rfl, tGo, hk2, show ((k : Int).toNat) = k from rfl] at HR3
    obtain ⟨an, cn', u, en, hun, yn0⟩ := H1.out.row a ha
    cases en
    have HBR := (HSN.out.2.1 a HA.out)
    have hl : (next.getD a []).length = n := HBR.1
    have hx := HBR.2.2 k (by omega)
    generalize next.getD a [] = row at *
    obtain ⟨Au, cu, rfl, _, _⟩ := hun.now
    obtain ⟨ar, cr, er, yr0⟩ := int_cell hun k (by omega)
    cases er
    obtain ⟨x, hx0⟩ : ∃ x, x = row.getD k 0 := ⟨_, rfl⟩
    rw [← hx0] at HR3 hx yr0
    have hc0 : (0 : Int) ≤ (c : Int) := by omega
    have hc1 : (c : Int) < (cl.length : Int) := by have := HCL.out; omega
    have hk0 : (0 : Int) ≤ (k : Int) := by omega
    have hk1 : (k : Int) < (row.length : Int) := by omega
    have ys := pw_cell_below HS.out.below ys0
    have yn := pw_cell_below HS.out.below yn0
    have yr := pw_cell_below HS.out.below yr0
    have yc := pw_cell_below HS.out.below yc0
    have HX := Aside0.mk hx
    have HR4 := Aside0.mk HR3
    clear HR3 hx hx0 HBR hun ys0 yn0 yr0 yc0 HR hl hc hk2 hk
    rcases Int.lt_or_le x 0 with h1 | h1
    case inl =>
     have d1 : decide (x < 0) = true := decide_eq_true h1
     have HE := Aside0.mk (show i + 1 = r by have h := HR4.out; rw [if_pos h1] at h; exact h)
     go_wp2_with fail
     go_quiet (fail)
     have HS2 := Aside0.mk (HS.out.drewN nq)
     go_wp2_with fail
     go_ret
     rw [← HE.out]
     exact ⟨by go_num, HS2.out.below⟩
    case inr =>
     have d1 : decide (x < 0) = false := decide_eq_false (by omega)
     obtain ⟨b, hb⟩ : ∃ b : Nat, x = (b : Int) := ⟨x.toNat, by omega⟩
     subst hb
     have hb : b < tags.length := by have := HX.out; omega
     have HR5 := HR4.out
     rw [if_neg (by omega), show ((b : Int).toNat) = b from rfl] at HR5
     have HB5 := Aside0.mk hb
     have HR6 := Aside0.mk HR5
     clear HR4 HR5
     go_wp2_with fail
     go_quiet (fail)
     have HS2 := Aside0.mk (HS.out.drewN nq)
     go_wp2_with fail
     go_roundg k1
     case measure => omega
     case rel => exact ⟨i + 1, b, rfl, by go_num, ⟨by have := HJ.out; omega⟩, HB5, HR6, HS2⟩
end Go.Proofs.YtfbfeimildkigaaDoor.P
namespace Go.Proofs.YtfbfeimildkigaaDoor.P
open Go Go.RowKit Go.Proofs.YtfbfeimildkigaaDoorW.PrintWords Go.Proofs.YtfbfeimildkigaaDoorW.PrintLast Go.Proofs.YtfbfeimildkigaaDoorW.PrintMore Go.Proofs.YtfbfeimildkigaaDoor.PX
set_option linter.unusedVariables false
set_option linter.unusedSimpArgs false
set_option maxRecDepth 100000
set_option maxHeartbeats 8000000 in
theorem clmany_calls (X : Nat → Prop) (vl : Value) (l : List Int) (w : World) (hl : PV kU8 X w vl l) (hu : U8s l) :
  Calls Tryd.prog 30 #[vl] w fun e w' => e = .returned (.int .i64 (many14 l)) ∧ Below w.heap.size w w' := by
 have H1 := Aside0.mk hl
 have HU := Aside0.mk hu
 have m1 := hl.max
 obtain ⟨An, cn, rfl, _, _⟩ := hl.now
 obtain ⟨r, hr⟩ : ∃ r, r = many14 l := ⟨_, rfl⟩
 rw [← hr]
 clear hl hu
 rcases Nat.decEq l.length 256 with h | h
 case isFalse =>
  have d1 : ((l.length : Int) == 256) = false := beq_eq_false_iff_ne.mpr (by omega)
  have d1' : ((l.length : Int) != 256) = true := bne_iff_ne.mpr (by omega)
  have q1 : r = 0 := by rw [hr, many14, if_pos (.inr h)]
  clear hr h
  subst q1
  go_enter Tryd.func30, Tryd.ntmps30
  go_wp2_with fail
  go_ret
  exact ⟨rfl, Below.refl _ _⟩
 case isTrue =>
  have d1 : ((l.length : Int) == 256) = true := beq_iff_eq.mpr (by omega)
  have d1' : ((l.length : Int) != 256) = false := bne_eq_false_iff_eq.mpr (by omega)
  obtain ⟨g, hg⟩ : ∃ g, g = manyGo l 0 := ⟨_, rfl⟩
  have HR := Aside0.mk (show r = if g = -1 then 0 else g by rw [hr, many14, ← hg]; by_cases c : g = -1 <;> simp [c, h])
  have HG := Aside0.mk (show manyGo (l.drop 0) 0 = g from hg.symm)
  have HL := Aside0.mk h
  clear hr hg h
  go_enter Tryd.func30, Tryd.ntmps30
  go_wp2_with fail
  clear d1 d1'
  go_loopg [3, 11] l.length (fun m v3 v11 w' => ∃ (i : Nat) (n : Int), v3 = .int .i64 n ∧ v11 = .int .i64 i ∧ Aside0 (i + m = l.length) ∧ (0 ≤ n ∧ n ≤ 256) ∧ Aside0 (manyGo (l.drop i) n = g) ∧ Aside0 (Below w.heap.size w w'))
  case atStart => exact ⟨0, 0, rfl, rfl, ⟨by omega⟩, by omega, HG, ⟨Below.refl _ _⟩⟩
  case round =>
   clear HG
   obtain ⟨i, n, rfl, rfl, HJ, ⟨hn0, hn1⟩, HG, HB⟩ := hrel
   cases gk with
   | zero =>
    have e1 : decide ((i : Int) < (l.length : Int)) = false := decide_eq_false (by have := HJ.out; omega)
    have e2 : decide (i < l.length) = false := decide_eq_false (by have := HJ.out; omega)
    have q0 : n = g := by have h := HG.out; rw [List.drop_of_length_le (by have := HJ.out; omega)] at h; exact h
    subst q0
    have q1 : r = n := by rw [HR.out, if_neg (by omega)]
    clear HR HG
    subst q1
    go_wp2_with fail
    go_ret
    exact ⟨rfl, HB.out⟩
   | succ k1 =>
    have hi : i < l.length := by have := HJ.out; omega
    have e1 : decide ((i : Int) < (l.length : Int)) = true := decide_eq_true (by omega)
    have e2 : decide (i < l.length) = true := decide_eq_true hi
    have hi0 : (0 : Int) ≤ (i : Int) := by omega
    have hi1 : (i : Int) < (l.length : Int) := by omega
    obtain ⟨c, hc, hc2⟩ := u8s_at HU.out i hi
    obtain ⟨as_, cs', es, ys0⟩ := u8_cell H1.out i hi
    cases es
    rw [hc] at ys0
    have ys := pw_cell_below HB.out ys0
    have HR3 := HG.out
    rw [drop_at l 0 i hi, hc, manyGo] at HR3
    clear hc ys0 HG
    rcases Int.lt_or_le n c with h | h
    case inl =>
     have d1 : decide ((c : Int) > n) = true := decide_eq_true h
     have d1' : decide (n < (c : Int)) = true := decide_eq_true h
     rw [if_pos h] at HR3
     have q1 : r = 0 := by rw [HR.out, if_pos HR3.symm]
     clear HR HR3
     subst q1
     go_wp2_with fail
     go_ret
     exact ⟨rfl, HB.out⟩
    case inr =>
     have d1 : decide ((c : Int) > n) = false := decide_eq_false (by omega)
     have d1' : decide (n < (c : Int)) = false := decide_eq_false (by omega)
     rw [if_neg (by omega)] at HR3
     rcases Int.lt_or_le c n with h2 | h2
     case inl =>
      have d2 : ((c : Int) == n) = false := beq_eq_false_iff_ne.mpr (by omega)
      rw [show max n ((c : Int) + 1) = n by omega] at HR3
      have HR4 := Aside0.mk HR3
      clear HR3
      go_wp2_with fail
      go_roundg k1
      case measure => omega
      case rel => exact ⟨i + 1, n, rfl, by go_num, ⟨by have := HJ.out; omega⟩, by omega, HR4, HB⟩
     case inr =>
      have d2 : ((c : Int) == n) = true := beq_iff_eq.mpr (by omega)
      rw [show max n ((c : Int) + 1) = n + 1 by omega] at HR3
      have HR4 := Aside0.mk HR3
      clear HR3
      go_wp2_with fail
      go_roundg k1
      case measure => omega
      case rel => exact ⟨i + 1, n + 1, by go_num, by go_num, ⟨by have := HJ.out; omega⟩, by omega, HR4, HB⟩
end Go.Proofs.YtfbfeimildkigaaDoor.P
