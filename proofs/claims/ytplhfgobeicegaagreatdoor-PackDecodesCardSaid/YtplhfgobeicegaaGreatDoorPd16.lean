/- Part 16 of the proof: S11b, S12, S12b. -/
import Derived.Test.YtplhfgobeicegaaGreatDoorPd6
namespace Go.Proofs.YtplhfgobeicegaaGreatDoor.P
open Go Go.RowKit Go.Proofs.YtplhfgobeicegaaGreatDoorW.PrintWords Go.Proofs.YtplhfgobeicegaaGreatDoorW.PrintLast Go.Proofs.YtplhfgobeicegaaGreatDoorW.PrintMore Go.Proofs.YtplhfgobeicegaaGreatDoor.PX
set_option linter.unusedVariables false
set_option linter.unusedSimpArgs false
set_option maxRecDepth 100000
def PartOk (parts : List (List Sp)) (i : Nat) : Prop := makeL (parts.getD i []) [] 2 = parts.getD i [] ∧ ∀ j, j < i → (makeL (parts.getD i []) (parts.getD j []) 8).length = 0
def RowOk (P : Nat) (next : List (List Int)) (tags : List Int) (i : Nat) : Prop := (next.getD i []).length = P ∧ -1 ≤ tags.getD i 0 ∧ ∀ j, j < (next.getD i []).length → -1 ≤ (next.getD i []).getD j 0 ∧ (next.getD i []).getD j 0 < (tags.length : Int)
def SoundP (parts : List (List Sp)) (next : List (List Int)) (tags : List Int) : Prop :=
 (parts.length ≤ 2000 ∧ 1 ≤ tags.length ∧ tags.length ≤ 2000 ∧ next.length = tags.length) ∧ (∀ i, i < parts.length → PartOk parts i) ∧ ∀ i, i < tags.length → RowOk parts.length next tags i
instance (parts : List (List Sp)) (i : Nat) : Decidable (PartOk parts i) := by unfold PartOk; infer_instance
instance (P : Nat) (next : List (List Int)) (tags : List Int) (i : Nat) : Decidable (RowOk P next tags i) := by unfold RowOk; infer_instance
instance (parts : List (List Sp)) (next : List (List Int)) (tags : List Int) : Decidable (SoundP parts next tags) := by unfold SoundP; infer_instance
set_option maxHeartbeats 4000000 in
theorem dsound_calls (X : Nat → Prop) (vp vn vt : Value) (parts : List (List Sp)) (next : List (List Int)) (tags : List Int) (w : World) (hX : ∀ k, X k → k < w.heap.size) (hp : PV kSps X w vp parts) (hn : PV kRow X w vn next) (ht : PV kInt X w vt tags)
  (hs : ∀ p ∈ parts, Sm p ∧ p.length ≤ 10000) :
  Calls Tryz.prog 48 #[.agg #[vp, vn, vt]] w fun e w' => e = .returned (.bool (decide (SoundP parts next tags))) ∧ Below w.heap.size w w' := by
 have H0 := aM hp
 have H1 := aM hn
 have H2 := aM ht
 have HX := aM hX
 have HSM := aM hs
 have m0 := hp.max
 have m1 := hn.max
 have m2 := ht.max
 obtain ⟨Ap, cp, rfl, _, _⟩ := hp.now
 obtain ⟨An, cn, rfl, _, _⟩ := hn.now
 obtain ⟨At, ct, rfl, _, _⟩ := ht.now
 obtain ⟨q, hq⟩ : ∃ q, q = decide (SoundP parts next tags) := ⟨_, rfl⟩
 rw [← hq]
 have HQ := aM hq
 clear hp hn ht hX hs hq
 have h5 : 2000 < parts.length ∨ (parts.length ≤ 2000 ∧ tags.length < 1) ∨ (parts.length ≤ 2000 ∧ 1 ≤ tags.length ∧ 2000 < tags.length) ∨ (parts.length ≤ 2000 ∧ 1 ≤ tags.length ∧ tags.length ≤ 2000 ∧ next.length ≠ tags.length) ∨ (parts.length ≤ 2000 ∧ 1 ≤ tags.length ∧ tags.length ≤ 2000 ∧ next.length = tags.length) := by omega
 rcases h5 with h | ⟨a1, h⟩ | ⟨a1, a2, h⟩ | ⟨a1, a2, a3, h⟩ | ⟨a1, a2, a3, a4⟩
 case' inl =>
  have q0 : q = false := by rw [HQ.out]; exact dF (fun s => by have := s.1; omega)
  have d1 : decide ((parts.length : Int) > 2000) = true := dT (by omega)
  have d1n : decide (2000 < parts.length) = true := dT (by omega)
 case' inr.inl =>
  have q0 : q = false := by rw [HQ.out]; exact dF (fun s => by have := s.1; omega)
  have d1 : decide ((parts.length : Int) > 2000) = false := dF (by omega)
  have d1n : decide (2000 < parts.length) = false := dF (by omega)
  have d2 : decide ((tags.length : Int) < 1) = true := dT (by omega)
  have d2n : decide (tags.length < 1) = true := dT (by omega)
 case' inr.inr.inl =>
  have q0 : q = false := by rw [HQ.out]; exact dF (fun s => by have := s.1; omega)
  have d1 : decide ((parts.length : Int) > 2000) = false := dF (by omega)
  have d1n : decide (2000 < parts.length) = false := dF (by omega)
  have d2 : decide ((tags.length : Int) < 1) = false := dF (by omega)
  have d2n : decide (tags.length < 1) = false := dF (by omega)
  have d3 : decide ((tags.length : Int) > 2000) = true := dT (by omega)
  have d3n : decide (2000 < tags.length) = true := dT (by omega)
 case' inr.inr.inr.inl =>
  have q0 : q = false := by rw [HQ.out]; exact dF (fun s => by have := s.1; omega)
  have d1 : decide ((parts.length : Int) > 2000) = false := dF (by omega)
  have d1n : decide (2000 < parts.length) = false := dF (by omega)
  have d2 : decide ((tags.length : Int) < 1) = false := dF (by omega)
  have d2n : decide (tags.length < 1) = false := dF (by omega)
  have d3 : decide ((tags.length : Int) > 2000) = false := dF (by omega)
  have d3n : decide (2000 < tags.length) = false := dF (by omega)
  have d4 : ((next.length : Int) != (tags.length : Int)) = true := bne_iff_ne.mpr (by omega)
  have d4n : ((next.length : Int) == (tags.length : Int)) = false := bF (by omega)
 case' inr.inr.inr.inr =>
  have d1 : decide ((parts.length : Int) > 2000) = false := dF (by omega)
  have d1n : decide (2000 < parts.length) = false := dF (by omega)
  have d2 : decide ((tags.length : Int) < 1) = false := dF (by omega)
  have d2n : decide (tags.length < 1) = false := dF (by omega)
  have d3 : decide ((tags.length : Int) > 2000) = false := dF (by omega)
  have d3n : decide (2000 < tags.length) = false := dF (by omega)
  have d4 : ((next.length : Int) != (tags.length : Int)) = false := bne_eq_false_iff_eq.mpr (by omega)
  have d4n : ((next.length : Int) == (tags.length : Int)) = true := beq_iff_eq.mpr (by omega)
 case inr.inr.inr.inr =>
  have HL := aM (show parts.length ≤ 2000 ∧ 1 ≤ tags.length ∧ tags.length ≤ 2000 ∧ next.length = tags.length from ⟨a1, a2, a3, a4⟩)
  clear a4
  go_enter Tryz.func48, Tryz.ntmps48
  go_wp2_with fail
  obtain ⟨w1, hw1⟩ : ∃ w1, w1 = w.alloc (.cells #[.slice Ap parts.length cp, .slice An next.length cn, .slice At tags.length ct] 80) := ⟨_, rfl⟩
  rw [← hw1]
  have hb1 : Below w.heap.size w w1 := by rw [hw1]; exact below_alloc (Below.refl _ _) _
  have HB1 := aM hb1
  have HG := aM (show Box w1 w.heap.size 80 [.slice Ap parts.length cp, .slice An next.length cn, .slice At tags.length ct] by rw [hw1]; exact Box.alloc w _ _)
  have HX1 := aM (show ∀ k, X k → k < w1.heap.size from fun k hk => Nat.lt_of_lt_of_le (HX.out k hk) hb1.size)
  have HP := aM (H0.out.below hb1)
  have HN := aM (H1.out.below hb1)
  have HT := aM (H2.out.below hb1)
  have HBE := aM (show ∀ W, Below w1.heap.size w1 W → Below w.heap.size w W from fun W h => below_step hb1 h)
  clear hw1 hb1 d1 d1n d2 d2n d3 d3n d4 d4n H0 H1 H2
  obtain ⟨g, hg⟩ : ∃ g, g = w.heap.size := ⟨_, rfl⟩
  rw [← hg] at HG ⊢
  clear hg
  go_loopg [4] parts.length (fun m v4 w' => ∃ (i : Nat), v4 = .int .i64 i ∧ Aside0 (i + m = parts.length) ∧ Aside0 (∀ a, a < i → PartOk parts a) ∧ Aside0 (Below w1.heap.size w1 w'))
  case atStart => exact ⟨0, rfl, ⟨by omega⟩, ⟨fun a h => by omega⟩, ⟨Below.refl _ _⟩⟩
  case round =>
   obtain ⟨i, rfl, HJ, HO, HB⟩ := hrel
   have HGi := aM (HG.out.step HB.out)
   have y0 := HGi.out.cell 0 rfl
   cases gk with
   | succ k1 =>
    have hi : i < parts.length := by have := HJ.out; omega
    have hi2 : i < 2000 := by have := HL.out.1; omega
    have e1 : decide ((i : Int) < (parts.length : Int)) = true := dT (by omega)
    have e2 : decide (i < parts.length) = true := dT hi
    have hi0 : (0 : Int) ≤ (i : Int) := by omega
    have hi1 : (i : Int) < (parts.length : Int) := by omega
    obtain ⟨ap, cx, ux, ex, hux, hcx⟩ := (HP.out.below HB.out).row i hi
    cases ex
    have HPS := aM (HSM.out _ (mem_getD parts [] i hi))
    have HPD := aM (show PartOk parts i ↔ _ from Iff.rfl)
    unfold PartOk at HPD
    have HU := aM hux
    clear hux
    obtain ⟨p, hp⟩ : ∃ p, p = parts.getD i [] := ⟨_, rfl⟩
    rw [← hp] at HU HPS HPD
    have HPE := aM hp
    clear hp
    have HXw := aM (show ∀ k, X k → k < _ from fun k hk => Nat.lt_of_lt_of_le (HX1.out k hk) HB.out.size)
    have HBd := aM (below_drew (Below.refl wr.heap.size wr))
    have yd0 := pw_cell_below HBd.out y0
    have yd1 := pw_cell_below HBd.out hcx
    obtain ⟨bq, hbq⟩ : ∃ b, b = decide (makeL p [] 2 = p) := ⟨_, rfl⟩
    have HBQ := aM hbq
    clear hbq
    go_wp2_with fail
    refine start_ (n := 13) (S := fun w' => w'.cell? ⟨g, 0, none⟩ = some (.slice (some ap) parts.length cp) ∧ w'.cell? (ap.add i) = some ux) (ds := []) #[false, false, false, false, false, false, false, false, false, false, false, false, false] (by kernel_rfl) rfl rfl ⟨yd0, yd1⟩ (fun hHeld => ?_)
    refine pure_ (i := 0) (N := some 37) (v := ?_) (a' := ?_) (bv 13 1) rfl rfl (by kernel_rfl) (fun _ _ _ h => h) (Or.inl ⟨by rfl, ?_⟩) ?_ ?_
    rotate_left
    ·intro w'
     go_simp
     with_reducible rfl
    rotate_left
    ·simp only [Act.put, qA, qB, qC, i64_w, i32_w]
     rfl
    refine pure_ (i := 2) (N := some 39) (v := ?_) (a' := ?_) (bv 13 5) rfl rfl (by kernel_rfl) (fun _ _ _ h => h) (Or.inl ⟨by rfl, ?_⟩) ?_ ?_
    rotate_left
    ·intro w'
     go_simp
     with_reducible rfl
    rotate_left
    ·simp only [Act.put, qA, qB, qC, i64_w, i32_w]
     rfl
    refine pure_ (i := 6) (N := some 43) (v := ?_) (a' := ?_) (bv 13 69) rfl rfl (by kernel_rfl) (fun _ _ _ h => h) (Or.inl ⟨by rfl, ?_⟩) ?_ ?_
    rotate_left
    ·intro w'
     go_simp
     with_reducible rfl
    rotate_left
    ·simp only [Act.put, qA, qB, qC, i64_w, i32_w]
     rfl
    refine pure_ (i := 8) (N := some 45) (v := ?_) (a' := ?_) (bv 13 325) rfl rfl (by kernel_rfl) (fun _ _ _ h => h) (Or.inl ⟨by rfl, ?_⟩) ?_ ?_
    rotate_left
    ·intro w'
     go_simp
     with_reducible rfl
    rotate_left
    ·simp only [Act.put, qA, qB, qC, i64_w, i32_w]
     rfl
    refine take_ (i := 1) (N := some 38) (v := ?_) (a' := ?_) (bv 13 327) rfl rfl (by kernel_rfl) (fun _ _ _ h => h) (Or.inl ⟨by rfl, ?_⟩) hHeld ?_ ?_
    rotate_left
    ·rintro w' ⟨s0, s1⟩
     go_simp
     with_reducible rfl
    rotate_left
    ·simp only [Act.put, qA, qB, qC, i64_w, i32_w]
     rfl
    refine pure_ (i := 3) (N := some 40) (v := ?_) (a' := ?_) (bv 13 335) rfl rfl (by kernel_rfl) (fun _ _ _ h => h) (Or.inl ⟨by rfl, ?_⟩) ?_ ?_
    rotate_left
    ·intro w'
     go_simp
     with_reducible rfl
    rotate_left
    ·simp only [Act.put, qA, qB, qC, i64_w, i32_w]
     rfl
    refine take_ (i := 4) (N := some 41) (v := ?_) (a' := ?_) (bv 13 351) rfl rfl (by kernel_rfl) (fun _ _ _ h => h) (Or.inl ⟨by rfl, ?_⟩) hHeld ?_ ?_
    rotate_left
    ·rintro w' ⟨s0, s1⟩
     go_simp
     with_reducible rfl
    rotate_left
    ·simp only [Act.put, qA, qB, qC, i64_w, i32_w]
     rfl
    refine take_ (i := 7) (N := some 44) (v := ?_) (a' := ?_) (bv 13 479) rfl rfl (by kernel_rfl) (fun _ _ _ h => h) (Or.inl ⟨by rfl, ?_⟩) hHeld ?_ ?_
    rotate_left
    ·rintro w' ⟨s0, s1⟩
     go_simp
     with_reducible rfl
    rotate_left
    ·simp only [Act.put, qA, qB, qC, i64_w, i32_w]
     rfl
    refine pure_ (i := 9) (N := some 46) (v := ?_) (a' := ?_) (bv 13 991) rfl rfl (by kernel_rfl) (fun _ _ _ h => h) (Or.inl ⟨by rfl, ?_⟩) ?_ ?_
    rotate_left
    ·intro w'
     go_simp
     with_reducible rfl
    rotate_left
    ·simp only [Act.put, qA, qB, qC, i64_w, i32_w]
     rfl
    refine take_ (i := 10) (N := some 47) (v := ?_) (a' := ?_) (bv 13 2015) rfl rfl (by kernel_rfl) (fun _ _ _ h => h) (Or.inl ⟨by rfl, ?_⟩) hHeld ?_ ?_
    rotate_left
    ·rintro w' ⟨s0, s1⟩
     go_simp
     with_reducible rfl
    rotate_left
    ·simp only [Act.put, qA, qB, qC, i64_w, i32_w]
     rfl
    refine one_ (i := 5) (N := some 42) (bv 13 2047) rfl rfl (by kernel_rfl) (by decide) (fun K hK => ?_)
    refine goes_ Tryz.func58 (by kernel_rfl) rfl #[ux] (by rfl) rfl rfl (by simp only [List.map_toArray, List.map_cons, List.map_nil]; rfl) ?_
    with_reducible refine (Norm_calls X ux p _ (fun k hk => Nat.lt_of_lt_of_le (HXw.out k hk) HBd.out.size) (HU.out.below HBd.out) HPS.out.1 HPS.out.2).mono ?_
    rintro e w5 ⟨v5, rfl, hv5, hb5⟩
    refine ⟨_, rfl, ?_⟩
    have H5 := aM hv5
    have HB5 := aM (below_step HBd.out hb5)
    have z0 := pw_cell_below hb5 hHeld.1
    have z1 := pw_cell_below hb5 hHeld.2
    clear hv5 hb5 hHeld
    refine hK.out _ _ ⟨z0, z1⟩ (fun hHeld => ?_)
    clear hK K
    refine norm_ (a' := ?_) ?_ ?_
    rotate_left
    ·show Act.put _ (some 42) _ = _
     simp only [Act.put, qA, qB, qC, i64_w, i32_w]
     rfl
    refine one_ (i := 11) (N := some 48) (bv 13 4095) rfl rfl (by kernel_rfl) (by decide) (fun K hK => ?_)
    refine goes_ Tryz.func57 (by kernel_rfl) rfl #[v5, ux] (by rfl) rfl rfl (by simp only [List.map_toArray, List.map_cons, List.map_nil]; rfl) ?_
    with_reducible refine (Alike_calls X v5 ux (makeL p [] 2) p _ H5.out (HU.out.below HB5.out)).mono ?_
    rintro e w6 ⟨rfl, hb6⟩
    refine ⟨_, rfl, ?_⟩
    rw [← HBQ.out]
    have HB6 := aM (below_step HB5.out hb6)
    have z2 := pw_cell_below hb6 hHeld.1
    have z3 := pw_cell_below hb6 hHeld.2
    clear hb6 hHeld
    refine hK.out _ _ ⟨z2, z3⟩ (fun hHeld => ?_)
    clear hK K
    refine norm_ (a' := ?_) ?_ ?_
    rotate_left
    ·show Act.put _ (some 48) _ = _
     simp only [Act.put, qA, qB, qC, i64_w, i32_w]
     rfl
    refine pure_ (i := 12) (N := some 49) (v := ?_) (a' := ?_) (bv 13 8191) rfl rfl (by kernel_rfl) (fun _ _ _ h => h) (Or.inl ⟨by rfl, ?_⟩) ?_ ?_
    rotate_left
    ·intro w'
     go_simp
     with_reducible rfl
    rotate_left
    ·simp only [Act.put, qA, qB, qC, i64_w, i32_w]
     rfl
    refine done_ (by kernel_rfl) ?_
    clear hHeld z0 z1 yd0 yd1
    have HB7 := aM (below_step HB.out HB6.out)
    cases bq
    case false =>
     have q0 : q = false := by
      rw [HQ.out]
      refine dF (fun s => ?_)
      have h1 := (s.2.1 i hi).1
      rw [← HPE.out] at h1
      have h2 := HBQ.out
      rw [dT h1] at h2
      cases h2
     subst q0
     go_wp2_with fail
     go_ret
     exact ⟨rfl, HBE.out _ HB7.out⟩
    case true =>
     have HN1 := aM (show makeL p [] 2 = p from of_decide_eq_true HBQ.out.symm)
     clear HBQ
     go_wp2_with fail
     obtain ⟨wo, hwo⟩ : ∃ wo, wo = w6 := ⟨_, rfl⟩
     subst hwo
     have HG7 := aM (HG.out.step HB7.out)
     have HP7 := aM (HP.out.below HB7.out)
     have HU7 := aM (HU.out.below HB6.out)
     have y7 := HG7.out.cell 0 rfl
     have x7 := pw_cell_below HB6.out hcx
     have HX7 := aM (show ∀ k, X k → k < wo.heap.size from fun k hk => Nat.lt_of_lt_of_le (HX1.out k hk) HB7.out.size)
     clear HB6 HB5 HBd H5 z2 z3 y0 hcx
     go_loopg [5] i (fun m v5 w' => ∃ (j : Nat), v5 = .int .i64 j ∧ Aside0 (j + m = i) ∧ Aside0 (∀ a, a < j → (makeL p (parts.getD a []) 8).length = 0) ∧ Aside0 (Below wo.heap.size wo w'))
     case atStart => exact ⟨0, rfl, ⟨by omega⟩, ⟨fun a h => by omega⟩, ⟨Below.refl _ _⟩⟩
     case round =>
      obtain ⟨j, rfl, HJ2, HO2, HB2⟩ := hrel
      have HB8 := aM (below_step HB7.out HB2.out)
      cases gk with
      | zero =>
       have hj : j = i := by have := HJ2.out; omega
       have e3 : decide ((j : Int) < (i : Int)) = false := dF (by omega)
       have e4 : decide (j < i) = false := dF (by omega)
       have HO3 := aM (show ∀ a, a < i + 1 → PartOk parts a from fun a h => by
        rcases Nat.lt_or_ge a i with h1 | h1
        ·exact HO.out a h1
        ·obtain rfl : a = i := by omega
         unfold PartOk
         rw [← HPE.out]
         exact ⟨HN1.out, fun b hb => HO2.out b (by omega)⟩)
       go_wp2_with fail
       go_roundg k1
       case measure => omega
       case rel => exact ⟨i + 1, by go_num, ⟨by have := HJ.out; omega⟩, HO3, HB8⟩
      | succ k2 =>
       have hj : j < i := by have := HJ2.out; omega
       have hj3 : j < 2000 := by omega
       have e3 : decide ((j : Int) < (i : Int)) = true := dT (by omega)
       have e4 : decide (j < i) = true := dT hj
       have hj0 : (0 : Int) ≤ (j : Int) := by omega
       have hj1 : (j : Int) < (parts.length : Int) := by omega
       obtain ⟨ap2, cx2, uj, ex2, huj, hcj⟩ := (HP7.out.below HB2.out).row j (by omega)
       cases ex2
       have HJS := aM (HSM.out _ (mem_getD parts [] j (by omega)))
       have HUJ := aM huj
       clear huj
       obtain ⟨s, hs⟩ : ∃ s, s = parts.getD j [] := ⟨_, rfl⟩
       rw [← hs] at HUJ HJS
       have HSE := aM hs
       clear hs
       have HBd := aM (below_drew (Below.refl wr.heap.size wr))
       have HBo := aM (below_step HB2.out HBd.out)
       have yd0 := pw_cell_below HBo.out y7
       have yd1 := pw_cell_below HBo.out x7
       have yd2 := pw_cell_below HBd.out hcj
       go_wp2_with fail
       refine start_ (n := 13) (S := fun w' => w'.cell? ⟨g, 0, none⟩ = some (.slice (some ap) parts.length cp) ∧ w'.cell? (ap.add i) = some ux ∧ w'.cell? (ap.add j) = some uj) (ds := []) #[false, false, false, false, false, false, false, false, false, false, false, false, false] (by kernel_rfl) rfl rfl ⟨yd0, yd1, yd2⟩ (fun hHeld => ?_)
       refine pure_ (i := 0) (N := some 55) (v := ?_) (a' := ?_) (bv 13 1) rfl rfl (by kernel_rfl) (fun _ _ _ h => h) (Or.inl ⟨by rfl, ?_⟩) ?_ ?_
       rotate_left
       ·intro w'
        go_simp
        with_reducible rfl
       rotate_left
       ·simp only [Act.put, qA, qB, qC, i64_w, i32_w]
        rfl
       refine pure_ (i := 2) (N := some 57) (v := ?_) (a' := ?_) (bv 13 5) rfl rfl (by kernel_rfl) (fun _ _ _ h => h) (Or.inl ⟨by rfl, ?_⟩) ?_ ?_
       rotate_left
       ·intro w'
        go_simp
        with_reducible rfl
       rotate_left
       ·simp only [Act.put, qA, qB, qC, i64_w, i32_w]
        rfl
       refine pure_ (i := 5) (N := some 60) (v := ?_) (a' := ?_) (bv 13 37) rfl rfl (by kernel_rfl) (fun _ _ _ h => h) (Or.inl ⟨by rfl, ?_⟩) ?_ ?_
       rotate_left
       ·intro w'
        go_simp
        with_reducible rfl
       rotate_left
       ·simp only [Act.put, qA, qB, qC, i64_w, i32_w]
        rfl
       refine pure_ (i := 7) (N := some 62) (v := ?_) (a' := ?_) (bv 13 165) rfl rfl (by kernel_rfl) (fun _ _ _ h => h) (Or.inl ⟨by rfl, ?_⟩) ?_ ?_
       rotate_left
       ·intro w'
        go_simp
        with_reducible rfl
       rotate_left
       ·simp only [Act.put, qA, qB, qC, i64_w, i32_w]
        rfl
       refine take_ (i := 1) (N := some 56) (v := ?_) (a' := ?_) (bv 13 167) rfl rfl (by kernel_rfl) (fun _ _ _ h => h) (Or.inl ⟨by rfl, ?_⟩) hHeld ?_ ?_
       rotate_left
       ·rintro w' ⟨s0, s1, s2⟩
        go_simp
        with_reducible rfl
       rotate_left
       ·simp only [Act.put, qA, qB, qC, i64_w, i32_w]
        rfl
       refine pure_ (i := 3) (N := some 58) (v := ?_) (a' := ?_) (bv 13 175) rfl rfl (by kernel_rfl) (fun _ _ _ h => h) (Or.inl ⟨by rfl, ?_⟩) ?_ ?_
       rotate_left
       ·intro w'
        go_simp
        with_reducible rfl
       rotate_left
       ·simp only [Act.put, qA, qB, qC, i64_w, i32_w]
        rfl
       refine take_ (i := 4) (N := some 59) (v := ?_) (a' := ?_) (bv 13 191) rfl rfl (by kernel_rfl) (fun _ _ _ h => h) (Or.inl ⟨by rfl, ?_⟩) hHeld ?_ ?_
       rotate_left
       ·rintro w' ⟨s0, s1, s2⟩
        go_simp
        with_reducible rfl
       rotate_left
       ·simp only [Act.put, qA, qB, qC, i64_w, i32_w]
        rfl
       refine take_ (i := 6) (N := some 61) (v := ?_) (a' := ?_) (bv 13 255) rfl rfl (by kernel_rfl) (fun _ _ _ h => h) (Or.inl ⟨by rfl, ?_⟩) hHeld ?_ ?_
       rotate_left
       ·rintro w' ⟨s0, s1, s2⟩
        go_simp
        with_reducible rfl
       rotate_left
       ·simp only [Act.put, qA, qB, qC, i64_w, i32_w]
        rfl
       refine pure_ (i := 8) (N := some 63) (v := ?_) (a' := ?_) (bv 13 511) rfl rfl (by kernel_rfl) (fun _ _ _ h => h) (Or.inl ⟨by rfl, ?_⟩) ?_ ?_
       rotate_left
       ·intro w'
        go_simp
        with_reducible rfl
       rotate_left
       ·simp only [Act.put, qA, qB, qC, i64_w, i32_w]
        rfl
       refine take_ (i := 9) (N := some 64) (v := ?_) (a' := ?_) (bv 13 1023) rfl rfl (by kernel_rfl) (fun _ _ _ h => h) (Or.inl ⟨by rfl, ?_⟩) hHeld ?_ ?_
       rotate_left
       ·rintro w' ⟨s0, s1, s2⟩
        go_simp
        with_reducible rfl
       rotate_left
       ·simp only [Act.put, qA, qB, qC, i64_w, i32_w]
        rfl
       refine one_ (i := 10) (N := some 65) (bv 13 2047) rfl rfl (by kernel_rfl) (by decide) (fun K hK => ?_)
       refine goes_ Tryz.func59 (by kernel_rfl) rfl #[ux, uj] (by rfl) rfl rfl (by simp only [List.map_toArray, List.map_cons, List.map_nil]; rfl) ?_
       with_reducible refine (Inter_calls X ux uj p s _ (fun k hk => Nat.lt_of_lt_of_le (HX7.out k hk) HBo.out.size) (HU7.out.below HBo.out) (HUJ.out.below HBd.out) HPS.out.1 HJS.out.1 HPS.out.2 HJS.out.2).mono ?_
       rintro e w5 ⟨v5, rfl, hv5, hb5⟩
       refine ⟨_, rfl, ?_⟩
       have H5 := aM hv5
       have HB5 := aM (below_step HBo.out hb5)
       have z0 := pw_cell_below hb5 hHeld.1
       have z1 := pw_cell_below hb5 hHeld.2.1
       have z2 := pw_cell_below hb5 hHeld.2.2
       clear hv5 hb5 hHeld
       obtain ⟨A5, c5, e5, _, _⟩ := H5.out.now
       subst e5
       refine hK.out _ _ ⟨z0, z1, z2⟩ (fun hHeld => ?_)
       clear hK K
       refine norm_ (a' := ?_) ?_ ?_
       rotate_left
       ·show Act.put _ (some 65) _ = _
        simp only [Act.put, qA, qB, qC, i64_w, i32_w]
        rfl
       refine pure_ (i := 11) (N := some 66) (v := ?_) (a' := ?_) (bv 13 4095) rfl rfl (by kernel_rfl) (fun _ _ _ h => h) (Or.inl ⟨by rfl, ?_⟩) ?_ ?_
       rotate_left
       ·intro w'
        go_simp
        with_reducible rfl
       rotate_left
       ·simp only [Act.put, qA, qB, qC, i64_w, i32_w]
        rfl
       refine pure_ (i := 12) (N := some 67) (v := ?_) (a' := ?_) (bv 13 8191) rfl rfl (by kernel_rfl) (fun _ _ _ h => h) (Or.inl ⟨by rfl, ?_⟩) ?_ ?_
       rotate_left
       ·intro w'
        go_simp
        with_reducible rfl
       rotate_left
       ·simp only [Act.put, qA, qB, qC, i64_w, i32_w]
        rfl
       refine done_ (by kernel_rfl) ?_
       clear hHeld z0 z1 z2 yd0 yd1 yd2
       rcases Nat.eq_zero_or_pos (makeL p s 8).length with c | c
       ·have f1 : decide (((makeL p s 8).length : Int) > 0) = false := dF (by omega)
        have f2 : decide (0 < (makeL p s 8).length) = false := dF (by omega)
        have HO3 := aM (show ∀ a, a < j + 1 → (makeL p (parts.getD a []) 8).length = 0 from fun a h => by
         rcases Nat.lt_or_ge a j with h1 | h1
         ·exact HO2.out a h1
         ·obtain rfl : a = j := by omega
          rw [← HSE.out]
          exact c)
        have f3 : (makeL p s 8).length ≤ 0 := by omega
        clear c
        go_wp2_with fail
        go_roundg k2
        case measure => omega
        case rel => exact ⟨j + 1, by go_num, ⟨by have := HJ2.out; omega⟩, HO3, HB5⟩
       ·have f1 : decide (((makeL p s 8).length : Int) > 0) = true := dT (by omega)
        have f2 : decide (0 < (makeL p s 8).length) = true := dT c
        have q0 : q = false := by
         rw [HQ.out]
         refine dF (fun t => ?_)
         have h1 := (t.2.1 i hi).2 j hj
         rw [← HPE.out, ← HSE.out] at h1
         omega
        subst q0
        go_wp2_with fail
        go_ret
        exact ⟨rfl, HBE.out _ (below_step HB7.out HB5.out)⟩
   | zero =>
    have hi : i = parts.length := by have := HJ.out; omega
    have e1 : decide ((i : Int) < (parts.length : Int)) = false := dF (by omega)
    have e2 : decide (i < parts.length) = false := dF (by omega)
    have HO4 := aM (show ∀ a, a < parts.length → PartOk parts a from fun a h => HO.out a (by omega))
    have HI := aM hi
    have hi2 : i ≤ 2000 := by have := HL.out.1; omega
    clear hi HO
    go_wp2_with fail
    go_loopg [6] tags.length (fun m v6 w' => ∃ (b : Nat), v6 = .int .i64 b ∧ Aside0 (b + m = tags.length) ∧ Aside0 (∀ a, a < b → RowOk parts.length next tags a) ∧ Aside0 (Below w1.heap.size w1 w'))
    case atStart => exact ⟨0, rfl, ⟨by omega⟩, ⟨fun a h => by omega⟩, HB⟩
    case round =>
     clear y0 HGi HB
     obtain ⟨b, rfl, HJ, HO, HB⟩ := hrel
     have HGi := aM (HG.out.step HB.out)
     have y0 := HGi.out.cell 0 rfl
     have y1 := HGi.out.cell 1 rfl
     have y2 := HGi.out.cell 2 rfl
     cases gk with
     | zero =>
      have hb : b = tags.length := by have := HJ.out; omega
      have e3 : decide ((b : Int) < (tags.length : Int)) = false := dF (by omega)
      have e4 : decide (b < tags.length) = false := dF (by omega)
      have q0 : q = true := by
       rw [HQ.out]
       exact dT ⟨HL.out, HO4.out, fun a h => HO.out a (by omega)⟩
      subst q0
      clear hb
      go_wp2_with fail
      go_ret
      exact ⟨rfl, HBE.out _ HB.out⟩
     | succ k1 =>
      have hb : b < tags.length := by have := HJ.out; omega
      have hb2 : b < 2000 := by have := HL.out; omega
      have hbn : b < next.length := by have := HL.out; omega
      have e3 : decide ((b : Int) < (tags.length : Int)) = true := dT (by omega)
      have e4 : decide (b < tags.length) = true := dT hb
      have hb0 : (0 : Int) ≤ (b : Int) := by omega
      have hb1 : (b : Int) < (tags.length : Int) := by omega
      have hb3 : (b : Int) < (next.length : Int) := by omega
      obtain ⟨an, cx, ux, ex, hux, hcx⟩ := (HN.out.below HB.out).row b hbn
      cases ex
      obtain ⟨at1, ct1, et, yt⟩ := int_cell (HT.out.below HB.out) b hb
      cases et
      have HF := aM (show ∀ (P : Prop), (RowOk parts.length next tags b → P) → (q = true → P) from fun P h hq => h ((of_decide_eq_true (HQ.out.symm.trans hq)).2.2 b hb))
      have HR := aM (show RowOk parts.length next tags b ↔ RowOk parts.length next tags b from Iff.rfl)
      unfold RowOk at HR
      have HR2 := aM (HR.out.2)
      have HR1 := aM (HR.out.1)
      clear HR
      obtain ⟨r, hr⟩ : ∃ r, r = next.getD b [] := ⟨_, rfl⟩
      obtain ⟨t, htt⟩ : ∃ t, t = tags.getD b 0 := ⟨_, rfl⟩
      rw [← hr] at hux HR2
      rw [← htt] at yt HR2
      have HF2 := aM (show q = true → (r.length = parts.length ∧ -1 ≤ t ∧ ∀ j, j < r.length → -1 ≤ r.getD j 0 ∧ r.getD j 0 < (tags.length : Int)) from fun hq => by
       have := HF.out _ (fun h => h) hq
       unfold RowOk at this
       rw [← hr, ← htt] at this
       exact this)
      have HF3 := aM (show (r.length = parts.length ∧ -1 ≤ t ∧ ∀ j, j < r.length → -1 ≤ r.getD j 0 ∧ r.getD j 0 < (tags.length : Int)) → RowOk parts.length next tags b from fun h => by
       unfold RowOk
       rw [← hr, ← htt]
       exact h)
      clear HF HR1 HR2 hr htt
      obtain ⟨Ar, cr, rfl, _, _⟩ := hux.now
      have HU := aM hux
      have mr := hux.max
      clear hux
      have h3 : r.length ≠ parts.length ∨ (r.length = parts.length ∧ t < -1) ∨ (r.length = parts.length ∧ -1 ≤ t) := by omega
      rcases h3 with h | ⟨h, h2⟩ | ⟨h, h2⟩
      case' inl =>
       have q0 : q = false := by
        cases hq : q
        ·rfl
        ·exact absurd (HF2.out hq).1 h
       have f1 : ((r.length : Int) != (parts.length : Int)) = true := bne_iff_ne.mpr (by omega)
       have f1n : ((r.length : Int) == (parts.length : Int)) = false := bF (by omega)
      case' inr.inl =>
       have q0 : q = false := by
        cases hq : q
        ·rfl
        ·have := (HF2.out hq).2.1; omega
       have f1 : ((r.length : Int) != (parts.length : Int)) = false := bne_eq_false_iff_eq.mpr (by omega)
       have f1n : ((r.length : Int) == (parts.length : Int)) = true := beq_iff_eq.mpr (by omega)
       have f2 : decide (t < -1) = true := dT h2
       clear h
      case' inr.inr =>
       have f1 : ((r.length : Int) != (parts.length : Int)) = false := bne_eq_false_iff_eq.mpr (by omega)
       have f1n : ((r.length : Int) == (parts.length : Int)) = true := beq_iff_eq.mpr (by omega)
       have f2 : decide (t < -1) = false := dF (by omega)
       have HRL := aM h
       clear h
      case inr.inr =>
       go_wp2_with fail
       go_quiet (fail)
       have HBq := aM (pw_below_drewN HB.out nq)
       have hcx2 := pw_cell_below (bn wr nq) hcx
       have HUq := aM (HU.out.below (bn wr nq))
       go_wp2_with fail
       obtain ⟨wo, hwo⟩ : ∃ wo, wo = wr.drewN nq := ⟨_, rfl⟩
       rw [← hwo] at HBq hcx2 HUq ⊢
       clear hwo
       go_loopg [7] r.length (fun m v7 w' => ∃ (j : Nat), v7 = .int .i64 j ∧ Aside0 (j + m = r.length) ∧ Aside0 (∀ a, a < j → -1 ≤ r.getD a 0 ∧ r.getD a 0 < (tags.length : Int)) ∧ w' = wo)
       case atStart => exact ⟨0, rfl, ⟨by omega⟩, ⟨fun a h => by omega⟩, rfl⟩
       case round =>
        obtain ⟨j, rfl, HJ2, HO2, hw⟩ := hrel
        subst hw
        clear y0 y1 y2 hcx
        have HGj := aM (HG.out.step HBq.out)
        have y1 := HGj.out.cell 1 rfl
        cases gk with
        | zero =>
         have hj : j = r.length := by have := HJ2.out; omega
         have e5 : decide ((j : Int) < (r.length : Int)) = false := dF (by omega)
         have e6 : decide (j < r.length) = false := dF (by omega)
         have HO3 := aM (show ∀ a, a < b + 1 → RowOk parts.length next tags a from fun a h => by
          rcases Nat.lt_or_ge a b with h1 | h1
          ·exact HO.out a h1
          ·obtain rfl : a = b := by omega
           exact HF3.out ⟨HRL.out, h2, fun c hc => HO2.out c (by omega)⟩)
         clear hj
         go_wp2_with fail
         go_roundg k1
         case measure => omega
         case rel => exact ⟨b + 1, by go_num, ⟨by have := HJ.out; omega⟩, HO3, HBq⟩
        | succ k2 =>
         have hj : j < r.length := by have := HJ2.out; omega
         have hj2 : j < 2000 := by have := HRL.out; have := HL.out; omega
         have e5 : decide ((j : Int) < (r.length : Int)) = true := dT (by omega)
         have e6 : decide (j < r.length) = true := dT hj
         have hj0 : (0 : Int) ≤ (j : Int) := by omega
         have hj1 : (j : Int) < (r.length : Int) := by omega
         obtain ⟨ar, cr1, er, yr⟩ := int_cell HUq.out j hj
         cases er
         obtain ⟨x, hx⟩ : ∃ x, x = r.getD j 0 := ⟨_, rfl⟩
         rw [← hx] at yr
         have HXE := aM hx
         clear hx
         have h4 : x < -1 ∨ (-1 ≤ x ∧ (tags.length : Int) ≤ x) ∨ (-1 ≤ x ∧ x < (tags.length : Int)) := by omega
         rcases h4 with c | ⟨c, c2⟩ | ⟨c, c2⟩
         case' inl =>
          have q0 : q = false := by
           cases hq : q
           ·rfl
           ·have := (HF2.out hq).2.2 j hj; rw [← HXE.out] at this; omega
          have f3 : decide (x < -1) = true := dT c
         case' inr.inl =>
          have q0 : q = false := by
           cases hq : q
           ·rfl
           ·have := (HF2.out hq).2.2 j hj; rw [← HXE.out] at this; omega
          have f3 : decide (x < -1) = false := dF (by omega)
          have f4 : decide (x ≥ (tags.length : Int)) = true := dT c2
          have f5 : decide ((tags.length : Int) ≤ x) = true := dT c2
         case' inr.inr =>
          have f3 : decide (x < -1) = false := dF (by omega)
          have f4 : decide (x ≥ (tags.length : Int)) = false := dF (by omega)
          have f5 : decide ((tags.length : Int) ≤ x) = false := dF (by omega)
         case inr.inr =>
          have HO3 := aM (show ∀ a, a < j + 1 → -1 ≤ r.getD a 0 ∧ r.getD a 0 < (tags.length : Int) from fun a h => by
           rcases Nat.lt_or_ge a j with h1 | h1
           ·exact HO2.out a h1
           ·obtain rfl : a = j := by omega
            rw [← HXE.out]
            exact ⟨c, c2⟩)
          go_wp2_with fail
          go_roundg k2
          case measure => omega
          case rel => exact ⟨j + 1, by go_num, ⟨by have := HJ2.out; omega⟩, HO3, rfl⟩
         all_goals
          clear HF2 HF3 HQ
          subst q0
          go_wp2_with fail
          go_ret
          exact ⟨rfl, HBE.out _ HBq.out⟩
      all_goals
       clear HF2 HF3 HQ
       subst q0
       go_wp2_with fail
       go_quiet (fail)
       have HBq := aM (pw_below_drewN HB.out nq)
       go_wp2_with fail
       go_ret
       exact ⟨rfl, HBE.out _ HBq.out⟩
 all_goals
  clear HQ
  subst q0
  go_enter Tryz.func48, Tryz.ntmps48
  go_wp2_with fail
  go_ret
  exact ⟨rfl, below_alloc (Below.refl _ _) _⟩
def toL (next : List (List Int)) (l : List Int) (i k : Nat) : Int := if (next.getD i []).getD k 0 < 0 ∨ l.getD ((next.getD i []).getD k 0).toNat 0 = 0 then -1 else (next.getD i []).getD k 0
def kindL (next : List (List Int)) (l of_ : List Int) (i k : Nat) : Int := if toL next l i k < 0 then -1 else of_.getD (toL next l i k).toNat 0
theorem toL_lt (next : List (List Int)) (l : List Int) (i k : Nat) (n : Int) (h : (next.getD i []).getD k 0 < n) (hn : 0 ≤ n) : toL next l i k < n := by
 unfold toL
 split <;> omega
set_option maxHeartbeats 2000000 in
theorem to_calls (X : Nat → Prop) (vp vn vt vl : Value) (parts : List (List Sp)) (next : List (List Int)) (tags l : List Int) (i k : Nat) (w : World) (hp : PV kSps X w vp parts) (hn : PV kRow X w vn next) (ht : PV kInt X w vt tags) (hl : PV kInt X w vl l)
  (hi : i < next.length) (hk : k < (next.getD i []).length) (hx : (next.getD i []).getD k 0 < (l.length : Int)) :
  Calls Tryz.prog 91 #[.agg #[vp, vn, vt], vl, .int .i64 (i : Int), .int .i64 (k : Int)] w fun e w' => e = .returned (.int .i64 (toL next l i k)) ∧ Below w.heap.size w w' := by
 have H1 := aM hn
 have H3 := aM hl
 have m1 := hn.max
 have m3 := hl.max
 obtain ⟨Ap, cp, rfl, _, _⟩ := hp.now
 obtain ⟨At, ct, rfl, _, _⟩ := ht.now
 obtain ⟨Al, cl, rfl, _, _⟩ := hl.now
 obtain ⟨an, cn, u, rfl, hu, hcu⟩ := hn.row i hi
 obtain ⟨ar, cr, rfl, hcr⟩ := int_cell hu k hk
 have mu := hu.max
 have yu := fun o => pw_cell_below (below_alloc (Below.refl w.heap.size w) o) hcu
 have yr := fun o => pw_cell_below (below_alloc (Below.refl w.heap.size w) o) hcr
 have hl1 := fun o => hl.below (below_alloc (Below.refl w.heap.size w) o)
 clear hp hn ht hl hu
 obtain ⟨r, hr⟩ : ∃ r, r = toL next l i k := ⟨_, rfl⟩
 rw [← hr]
 unfold toL at hr
 generalize (next.getD i []) = row at *
 generalize row.getD k 0 = x at *
 have HR := aM hr
 clear hr
 have hi0 : (0 : Int) ≤ (i : Int) := by omega
 have hi1 : (i : Int) < (next.length : Int) := by omega
 have hk0 : (0 : Int) ≤ (k : Int) := by omega
 have hk1 : (k : Int) < (row.length : Int) := by omega
 by_cases c : x < 0
 ·have d1 : decide (x < 0) = true := dT c
  have HR2 := aM (HR.out.trans (if_pos (.inl c)))
  go_enter Tryz.func91, Tryz.ntmps91
  go_wp2_with fail
  go_ret
  obtain rfl := HR2.out
  exact ⟨rfl, below_alloc (Below.refl _ _) _⟩
 ·have d1 : decide (x < 0) = false := dF c
  have hx0 : 0 ≤ x := by omega
  obtain ⟨n, rfl⟩ := Int.eq_ofNat_of_zero_le hx0
  rw [Int.toNat_natCast] at HR
  have hnl : n < l.length := by omega
  obtain ⟨al, cl2, e, yl0⟩ := int_cell (hl1 (.cells #[] 0)) n hnl
  cases e
  have yl : ∀ o, (w.alloc o).cell? (al.add n) = some (.int .i64 (l.getD n 0)) := fun o => by
   obtain ⟨al', cl3, e, y⟩ := int_cell (hl1 o) n hnl
   cases e
   exact y
  clear hl1 yl0
  generalize l.getD n 0 = z at *
  by_cases c2 : z = 0
  case' pos =>
   have d2 : (z == 0) = true := beq_iff_eq.mpr c2
   have HR2 := aM (HR.out.trans (if_pos (.inr c2)))
  case' neg =>
   have d2 : (z == 0) = false := bF c2
   have HR2 := aM (HR.out.trans (if_neg (fun h => h.elim c c2)))
  all_goals
   clear c2
   go_enter Tryz.func91, Tryz.ntmps91
   go_wp2_with fail
   go_ret
   obtain rfl := HR2.out
   exact ⟨rfl, below_alloc (Below.refl _ _) _⟩
set_option maxHeartbeats 2000000 in
theorem kind_calls (X : Nat → Prop) (vp vn vt vl vo : Value) (parts : List (List Sp)) (next : List (List Int)) (tags l of_ : List Int) (i k : Nat) (w : World) (hp : PV kSps X w vp parts) (hn : PV kRow X w vn next) (ht : PV kInt X w vt tags) (hl : PV kInt X w vl l) (ho : PV kInt X w vo of_)
  (hi : i < next.length) (hk : k < (next.getD i []).length) (hx : (next.getD i []).getD k 0 < (l.length : Int)) (hol : of_.length = l.length) :
  Calls Tryz.prog 83 #[.agg #[vp, vn, vt], vl, vo, .int .i64 (i : Int), .int .i64 (k : Int)] w fun e w' => e = .returned (.int .i64 (kindL next l of_ i k)) ∧ Below w.heap.size w w' := by
 have H0 := aM hp
 have H1 := aM hn
 have H2 := aM ht
 have H3 := aM hl
 have H4 := aM ho
 have HI := aM hi
 have HK := aM hk
 have HXX := aM hx
 have mo := ho.max
 obtain ⟨Ap, cp, rfl, _, _⟩ := hp.now
 obtain ⟨An, cn, rfl, _, _⟩ := hn.now
 obtain ⟨At, ct, rfl, _, _⟩ := ht.now
 obtain ⟨Al, cl, rfl, _, _⟩ := hl.now
 obtain ⟨Ao, co, rfl, _, _⟩ := ho.now
 have HT1 := aM (toL_lt next l i k (of_.length : Int) (by omega) (by omega))
 clear hp hn ht hl ho hx hi hk hol
 obtain ⟨r, hr⟩ : ∃ r, r = kindL next l of_ i k := ⟨_, rfl⟩
 rw [← hr]
 unfold kindL at hr
 have HR := aM hr
 clear hr
 obtain ⟨t, ht⟩ : ∃ t, t = toL next l i k := ⟨_, rfl⟩
 rw [← ht] at HR HT1
 have HTT := aM ht.symm
 clear ht
 rcases Int.lt_or_le t 0 with c | c
 case' inl =>
  have d1 : decide (t < 0) = true := dT c
  have HR2 := aM (HR.out.trans (if_pos c))
 case' inr =>
  have d1 : decide (t < 0) = false := dF (by omega)
  have HR2 := aM (HR.out.trans (if_neg (by omega)))
  obtain ⟨n, rfl⟩ := Int.eq_ofNat_of_zero_le c
  rw [Int.toNat_natCast] at HR2
  have hn0 : (0 : Int) ≤ (n : Int) := by omega
  have hn1 : (n : Int) < (of_.length : Int) := HT1.out
  have HC := aM (fun (W : World) (hb : Below w.heap.size w W) => int_cell (H4.out.below hb) n (by omega))
 all_goals
  go_enter Tryz.func83, Tryz.ntmps83
  go_wp2_with fail
  refine (to_calls X _ _ _ _ parts next tags l i k _ (H0.out.below (below_alloc (Below.refl _ _) _)) (H1.out.below (below_alloc (Below.refl _ _) _)) (H2.out.below (below_alloc (Below.refl _ _) _)) (H3.out.below (below_alloc (Below.refl _ _) _)) HI.out HK.out HXX.out).mono ?_
  rintro e w1 ⟨rfl, hb⟩
  have HB := aM (below_step (below_alloc (Below.refl w.heap.size w) _) hb)
  clear hb
  rw [HTT.out]
 ·obtain ⟨ao, co2, eo, yo⟩ := HC.out w1 HB.out
  cases eo
  go_wp2_with fail
  go_ret
  obtain rfl := HR2.out
  exact ⟨rfl, HB.out⟩
 ·go_wp2_with fail
  go_ret
  obtain rfl := HR2.out
  exact ⟨rfl, HB.out⟩
end Go.Proofs.YtplhfgobeicegaaGreatDoor.P
namespace Go.Proofs.YtplhfgobeicegaaGreatDoor.P
open Go Go.RowKit Go.Proofs.YtplhfgobeicegaaGreatDoorW.PrintWords Go.Proofs.YtplhfgobeicegaaGreatDoorW.PrintLast Go.Proofs.YtplhfgobeicegaaGreatDoorW.PrintMore Go.Proofs.YtplhfgobeicegaaGreatDoor.PX
set_option linter.unusedVariables false
set_option linter.unusedSimpArgs false
set_option maxRecDepth 100000
def Ok12 (P n : Nat) (next : List (List Int)) : Prop := ∀ i, i < next.length → (next.getD i []).length = P ∧ ∀ k, k < P → (next.getD i []).getD k 0 < (n : Int)
def StillP (P : Nat) (next : List (List Int)) (l of_ : List Int) (i j : Nat) : Prop := of_.getD i 0 = of_.getD j 0 ∧ ∀ k, k < P → kindL next l of_ i k = kindL next l of_ j k
instance (P : Nat) (next : List (List Int)) (l of_ : List Int) (i j : Nat) : Decidable (StillP P next l of_ i j) := by unfold StillP; infer_instance
set_option maxHeartbeats 4000000 in
theorem still_calls (X : Nat → Prop) (vp vn vt vl vo : Value) (parts : List (List Sp)) (next : List (List Int)) (tags l of_ : List Int) (i j : Nat) (w : World) (hp : PV kSps X w vp parts) (hn : PV kRow X w vn next) (ht : PV kInt X w vt tags) (hl : PV kInt X w vl l) (ho : PV kInt X w vo of_)
  (hi : i < next.length) (hj : j < next.length) (hol : of_.length = l.length) (hnl : next.length = l.length) (hok : Ok12 parts.length l.length next) :
  Calls Tryz.prog 100 #[.agg #[vp, vn, vt], vl, vo, .int .i64 (i : Int), .int .i64 (j : Int)] w fun e w' => e = .returned (.bool (decide (StillP parts.length next l of_ i j))) ∧ Below w.heap.size w w' := by
 have mo := ho.max
 have mp := hp.max
 obtain ⟨Ap, cp, rfl, _, _⟩ := hp.now
 obtain ⟨An, cn, rfl, _, _⟩ := hn.now
 obtain ⟨At, ct, rfl, _, _⟩ := ht.now
 obtain ⟨Al, cl, rfl, _, _⟩ := hl.now
 obtain ⟨ao, co, e1, yi⟩ := int_cell ho i (by omega)
 subst e1
 obtain ⟨ao', co', e1, yj⟩ := int_cell ho j (by omega)
 cases e1
 have H0 := aM hp
 have H1 := aM hn
 have H2 := aM ht
 have H3 := aM hl
 have H4 := aM ho
 have HOK := aM hok
 have HLE := aM (show i < next.length ∧ j < next.length ∧ of_.length = l.length from ⟨hi, hj, hol⟩)
 obtain ⟨q, hq⟩ : ∃ q, q = decide (StillP parts.length next l of_ i j) := ⟨_, rfl⟩
 rw [← hq]
 have hq2 : q = true ↔ StillP parts.length next l of_ i j := by rw [hq]; exact decide_eq_true_iff
 unfold StillP at hq2
 clear hq
 have hi0 : (0 : Int) ≤ (i : Int) := by omega
 have hi1 : (i : Int) < (of_.length : Int) := by omega
 have hj0 : (0 : Int) ≤ (j : Int) := by omega
 have hj1 : (j : Int) < (of_.length : Int) := by omega
 generalize of_.getD i 0 = a at *
 generalize of_.getD j 0 = b at *
 have HQ := aM hq2
 have yi' := fun o => pw_cell_below (below_alloc (Below.refl w.heap.size w) o) yi
 have yj' := fun o => pw_cell_below (below_alloc (Below.refl w.heap.size w) o) yj
 clear hp hn ht hl ho hi hj hol hok hq2 hnl
 by_cases c : a = b
 case neg =>
  have d1 : (a == b) = false := bF c
  have d2 : (a != b) = true := bne_iff_ne.mpr c
  have q0 : q = false := by
   cases hq : q
   ·rfl
   ·exact absurd (HQ.out.1 hq).1 c
  clear HQ
  subst q0
  go_enter Tryz.func100, Tryz.ntmps100
  go_wp2_with fail
  go_quiet (fail)
  have HB2 := aM (fun o => pw_below_drewN (below_alloc (Below.refl w.heap.size w) o) nq)
  go_wp2_with fail
  go_ret
  exact ⟨rfl, HB2.out _⟩
 case pos =>
  subst c
  have d1 : (a == a) = true := beq_iff_eq.mpr rfl
  have d2 : (a != a) = false := bne_eq_false_iff_eq.mpr rfl
  go_enter Tryz.func100, Tryz.ntmps100
  go_wp2_with fail
  go_quiet (fail)
  have HB2 := aM (fun o => pw_below_drewN (below_alloc (Below.refl w.heap.size w) o) nq)
  go_wp2_with fail
  obtain ⟨w1, hw1⟩ : ∃ w1, w1 = w.alloc (.cells #[.slice Ap parts.length cp, .slice An next.length cn, .slice At tags.length ct] 80) := ⟨_, rfl⟩
  have HG := aM (show Box (w1.drewN nq) w.heap.size 80 [.slice Ap parts.length cp, .slice An next.length cn, .slice At tags.length ct] from Box.step (by rw [hw1]; exact Box.alloc w _ _) (bn w1 nq))
  have hb1 : Below w.heap.size w (w1.drewN nq) := by rw [hw1]; exact HB2.out _
  rw [← hw1]
  obtain ⟨w2, hw2⟩ : ∃ w2, w2 = w1.drewN nq := ⟨_, rfl⟩
  rw [← hw2] at HG hb1 ⊢
  have HB1 := aM hb1
  clear hw1 hw2 hb1 HB2 yi yj yi' yj'
  obtain ⟨g, hg⟩ : ∃ g, g = w.heap.size := ⟨_, rfl⟩
  rw [← hg] at HG ⊢
  clear hg
  go_loopg [11] parts.length (fun m v11 w' => ∃ (k : Nat), v11 = .int .i64 k ∧ Aside0 (k + m = parts.length) ∧ Aside0 (∀ c, c < k → kindL next l of_ i c = kindL next l of_ j c) ∧ Aside0 (Below w2.heap.size w2 w'))
  case atStart => exact ⟨0, rfl, ⟨by omega⟩, ⟨fun a h => by omega⟩, ⟨Below.refl _ _⟩⟩
  case round =>
   obtain ⟨k, rfl, HJ, HO, HB⟩ := hrel
   have HGi := aM (HG.out.step HB.out)
   have y0 := HGi.out.cell 0 rfl
   have y1 := HGi.out.cell 1 rfl
   have y2 := HGi.out.cell 2 rfl
   have HBB := aM (below_step HB1.out HB.out)
   cases gk with
   | zero =>
    have e1 : decide ((k : Int) < (parts.length : Int)) = false := dF (by have := HJ.out; omega)
    have e2 : decide (k < parts.length) = false := dF (by have := HJ.out; omega)
    have q0 : q = true := HQ.out.2 ⟨by trivial, fun c hc => HO.out c (by have := HJ.out; omega)⟩
    clear HQ
    subst q0
    go_wp2_with fail
    go_ret
    exact ⟨rfl, HBB.out⟩
   | succ k1 =>
    have hk : k < parts.length := by have := HJ.out; omega
    have e1 : decide ((k : Int) < (parts.length : Int)) = true := dT (by omega)
    have e2 : decide (k < parts.length) = true := dT hk
    obtain ⟨r1, hr1⟩ : ∃ r, r = kindL next l of_ i k := ⟨_, rfl⟩
    obtain ⟨r2, hr2⟩ : ∃ r, r = kindL next l of_ j k := ⟨_, rfl⟩
    have HR1 := aM hr1
    have HR2 := aM hr2
    clear hr1 hr2
    have HBd := aM (below_drew (Below.refl wr.heap.size wr))
    have yd0 := pw_cell_below HBd.out y0
    have yd1 := pw_cell_below HBd.out y1
    have yd2 := pw_cell_below HBd.out y2
    have HD := aM (fun (W : World) (hb : Below wr.heap.size wr W) => kind_calls X (.slice Ap parts.length cp) (.slice An next.length cn) (.slice At tags.length ct) (.slice Al l.length cl) (.slice (some ao) of_.length co) parts next tags l of_ i k W ((H0.out.below HBB.out).below hb) ((H1.out.below HBB.out).below hb) ((H2.out.below HBB.out).below hb) ((H3.out.below HBB.out).below hb) ((H4.out.below HBB.out).below hb) HLE.out.1 (by rw [(HOK.out i HLE.out.1).1]; exact hk) ((HOK.out i HLE.out.1).2 k hk) HLE.out.2.2)
    have HD2 := aM (fun (W : World) (hb : Below wr.heap.size wr W) => kind_calls X (.slice Ap parts.length cp) (.slice An next.length cn) (.slice At tags.length ct) (.slice Al l.length cl) (.slice (some ao) of_.length co) parts next tags l of_ j k W ((H0.out.below HBB.out).below hb) ((H1.out.below HBB.out).below hb) ((H2.out.below HBB.out).below hb) ((H3.out.below HBB.out).below hb) ((H4.out.below HBB.out).below hb) HLE.out.2.1 (by rw [(HOK.out j HLE.out.2.1).1]; exact hk) ((HOK.out j HLE.out.2.1).2 k hk) HLE.out.2.2)
    go_wp2_with fail
    refine start_ (n := 13) (S := fun w' => w'.cell? ⟨g, 0, none⟩ = some (.slice Ap parts.length cp) ∧ w'.cell? ⟨g, 1, none⟩ = some (.slice An next.length cn) ∧ w'.cell? ⟨g, 2, none⟩ = some (.slice At tags.length ct)) (ds := []) #[false, false, false, false, false, false, false, false, false, false, false, false, false] (by kernel_rfl) rfl rfl ⟨yd0, yd1, yd2⟩ (fun hHeld => ?_)
    refine pure_ (i := 1) (N := some 29) (v := ?_) (a' := ?_) (bv 13 2) rfl rfl (by kernel_rfl) (fun _ _ _ h => h) (Or.inl ⟨by rfl, ?_⟩) ?_ ?_
    rotate_left
    ·intro w'
     go_simp
     with_reducible rfl
    rotate_left
    ·simp only [Act.put, qA, qB, qC, i64_w, i32_w]
     rfl
    refine pure_ (i := 2) (N := some 30) (v := ?_) (a' := ?_) (bv 13 6) rfl rfl (by kernel_rfl) (fun _ _ _ h => h) (Or.inl ⟨by rfl, ?_⟩) ?_ ?_
    rotate_left
    ·intro w'
     go_simp
     with_reducible rfl
    rotate_left
    ·simp only [Act.put, qA, qB, qC, i64_w, i32_w]
     rfl
    refine pure_ (i := 3) (N := some 31) (v := ?_) (a' := ?_) (bv 13 14) rfl rfl (by kernel_rfl) (fun _ _ _ h => h) (Or.inl ⟨by rfl, ?_⟩) ?_ ?_
    rotate_left
    ·intro w'
     go_simp
     with_reducible rfl
    rotate_left
    ·simp only [Act.put, qA, qB, qC, i64_w, i32_w]
     rfl
    refine pure_ (i := 4) (N := some 32) (v := ?_) (a' := ?_) (bv 13 30) rfl rfl (by kernel_rfl) (fun _ _ _ h => h) (Or.inl ⟨by rfl, ?_⟩) ?_ ?_
    rotate_left
    ·intro w'
     go_simp
     with_reducible rfl
    rotate_left
    ·simp only [Act.put, qA, qB, qC, i64_w, i32_w]
     rfl
    refine pure_ (i := 7) (N := some 35) (v := ?_) (a' := ?_) (bv 13 158) rfl rfl (by kernel_rfl) (fun _ _ _ h => h) (Or.inl ⟨by rfl, ?_⟩) ?_ ?_
    rotate_left
    ·intro w'
     go_simp
     with_reducible rfl
    rotate_left
    ·simp only [Act.put, qA, qB, qC, i64_w, i32_w]
     rfl
    refine pure_ (i := 8) (N := some 36) (v := ?_) (a' := ?_) (bv 13 414) rfl rfl (by kernel_rfl) (fun _ _ _ h => h) (Or.inl ⟨by rfl, ?_⟩) ?_ ?_
    rotate_left
    ·intro w'
     go_simp
     with_reducible rfl
    rotate_left
    ·simp only [Act.put, qA, qB, qC, i64_w, i32_w]
     rfl
    refine pure_ (i := 9) (N := some 37) (v := ?_) (a' := ?_) (bv 13 926) rfl rfl (by kernel_rfl) (fun _ _ _ h => h) (Or.inl ⟨by rfl, ?_⟩) ?_ ?_
    rotate_left
    ·intro w'
     go_simp
     with_reducible rfl
    rotate_left
    ·simp only [Act.put, qA, qB, qC, i64_w, i32_w]
     rfl
    refine pure_ (i := 10) (N := some 38) (v := ?_) (a' := ?_) (bv 13 1950) rfl rfl (by kernel_rfl) (fun _ _ _ h => h) (Or.inl ⟨by rfl, ?_⟩) ?_ ?_
    rotate_left
    ·intro w'
     go_simp
     with_reducible rfl
    rotate_left
    ·simp only [Act.put, qA, qB, qC, i64_w, i32_w]
     rfl
    refine take_ (i := 0) (N := some 28) (v := ?_) (a' := ?_) (bv 13 1951) rfl rfl (by kernel_rfl) (fun _ _ _ h => h) (Or.inl ⟨by rfl, ?_⟩) hHeld ?_ ?_
    rotate_left
    ·rintro w' ⟨s0, s1, s2⟩
     go_simp
     with_reducible rfl
    rotate_left
    ·simp only [Act.put, qA, qB, qC, i64_w, i32_w]
     rfl
    refine take_ (i := 6) (N := some 34) (v := ?_) (a' := ?_) (bv 13 2015) rfl rfl (by kernel_rfl) (fun _ _ _ h => h) (Or.inl ⟨by rfl, ?_⟩) hHeld ?_ ?_
    rotate_left
    ·rintro w' ⟨s0, s1, s2⟩
     go_simp
     with_reducible rfl
    rotate_left
    ·simp only [Act.put, qA, qB, qC, i64_w, i32_w]
     rfl
    refine one_ (i := 5) (N := some 33) (bv 13 2047) rfl rfl (by kernel_rfl) (by decide) (fun K hK => ?_)
    refine goes_ Tryz.func83 (by kernel_rfl) rfl #[.agg #[.slice Ap parts.length cp, .slice An next.length cn, .slice At tags.length ct], .slice Al l.length cl, .slice (some ao) of_.length co, .int .i64 (i : Int), .int .i64 (k : Int)] (by rfl) rfl rfl (by simp only [List.map_toArray, List.map_cons, List.map_nil]; rfl) ?_
    with_reducible refine (HD.out _ HBd.out).mono ?_
    rintro e w5 ⟨rfl, hb5⟩
    refine ⟨_, rfl, ?_⟩
    rw [← HR1.out]
    have HB5 := aM (below_step HBd.out hb5)
    have z0 := pw_cell_below hb5 hHeld.1
    have z1 := pw_cell_below hb5 hHeld.2.1
    have z2 := pw_cell_below hb5 hHeld.2.2
    clear hb5 hHeld
    refine hK.out _ _ ⟨z0, z1, z2⟩ (fun hHeld => ?_)
    clear hK K
    refine norm_ (a' := ?_) ?_ ?_
    rotate_left
    ·show Act.put _ (some 33) _ = _
     simp only [Act.put, qA, qB, qC, i64_w, i32_w]
     rfl
    refine one_ (i := 11) (N := some 39) (bv 13 4095) rfl rfl (by kernel_rfl) (by decide) (fun K hK => ?_)
    refine goes_ Tryz.func83 (by kernel_rfl) rfl #[.agg #[.slice Ap parts.length cp, .slice An next.length cn, .slice At tags.length ct], .slice Al l.length cl, .slice (some ao) of_.length co, .int .i64 (j : Int), .int .i64 (k : Int)] (by rfl) rfl rfl (by simp only [List.map_toArray, List.map_cons, List.map_nil]; rfl) ?_
    with_reducible refine (HD2.out _ HB5.out).mono ?_
    rintro e w6 ⟨rfl, hb6⟩
    refine ⟨_, rfl, ?_⟩
    rw [← HR2.out]
    have HB6 := aM (below_step HB5.out hb6)
    have z3 := pw_cell_below hb6 hHeld.1
    have z4 := pw_cell_below hb6 hHeld.2.1
    have z5 := pw_cell_below hb6 hHeld.2.2
    clear hb6 hHeld
    refine hK.out _ _ ⟨z3, z4, z5⟩ (fun hHeld => ?_)
    clear hK K
    refine norm_ (a' := ?_) ?_ ?_
    rotate_left
    ·show Act.put _ (some 39) _ = _
     simp only [Act.put, qA, qB, qC, i64_w, i32_w]
     rfl
    refine pure_ (i := 12) (N := some 40) (v := ?_) (a' := ?_) (bv 13 8191) rfl rfl (by kernel_rfl) (fun _ _ _ h => h) (Or.inl ⟨by rfl, ?_⟩) ?_ ?_
    rotate_left
    ·intro w'
     go_simp
     with_reducible rfl
    rotate_left
    ·simp only [Act.put, qA, qB, qC, i64_w, i32_w]
     rfl
    refine done_ (by kernel_rfl) ?_
    clear hHeld z0 z1 z2 z3 z4 z5 yd0 yd1 yd2 HD HD2
    by_cases c : r1 = r2
    ·have f1 : (r1 == r2) = true := beq_iff_eq.mpr c
     have f2 : (r1 != r2) = false := bne_eq_false_iff_eq.mpr c
     have HO3 := aM (show ∀ c, c < k + 1 → kindL next l of_ i c = kindL next l of_ j c from fun c0 h => by
      rcases Nat.lt_or_ge c0 k with h1 | h1
      ·exact HO.out c0 h1
      ·obtain rfl : c0 = k := by omega
       rw [← HR1.out, ← HR2.out, c])
     clear c
     go_wp2_with fail
     go_roundg k1
     case measure => omega
     case rel => exact ⟨k + 1, by go_num, ⟨by have := HJ.out; omega⟩, HO3, ⟨below_step HB.out HB6.out⟩⟩
    ·have f1 : (r1 == r2) = false := bF c
     have f2 : (r1 != r2) = true := bne_iff_ne.mpr c
     have q0 : q = false := by
      cases hq : q
      ·rfl
      ·have := (HQ.out.1 hq).2 k hk
       rw [← HR1.out, ← HR2.out] at this
       exact absurd this c
     clear HQ
     subst q0
     go_wp2_with fail
     go_ret
     exact ⟨rfl, below_step HBB.out HB6.out⟩
end Go.Proofs.YtplhfgobeicegaaGreatDoor.P
