/- Part 28 of the proof: T14, V14p, V14, PX9, V13. -/
import Derived.WalkMore
import Derived.Test.YtplhfgobeicegaaGreatDoorPd14
import Derived.Test.YtplhfgobeicegaaGreatDoorPd27
namespace Go.Proofs.YtplhfgobeicegaaGreatDoor.P
open Go Go.RowKit Go.Proofs.YtplhfgobeicegaaGreatDoorW.PrintWords Go.Proofs.YtplhfgobeicegaaGreatDoorW.PrintLast Go.Proofs.YtplhfgobeicegaaGreatDoorW.PrintMore Go.Proofs.YtplhfgobeicegaaGreatDoor.PX
set_option linter.unusedVariables false
set_option linter.unusedSimpArgs false
set_option maxRecDepth 100000
theorem PV.form2 {α : Type} {d : Kd α} {X : Nat → Prop} {w : World} {v : Value} {xs : List α} (h : PV d X w v xs) : ∃ A c, v = .slice A xs.length c := by
 obtain ⟨A, c, e, _⟩ := h
 exact ⟨A, c, e⟩
theorem of13_K (parts : List (List Sp)) (next : List (List Int)) (tags : List Int) (h15 : parts.length ≤ 15) (h9 : tags.length ≤ 9) (hp : SoundP parts next tags → ∀ p ∈ (leastL parts next tags).parts, PartP p) :
  ∃ K, SoundP parts next tags → ¬ longD (leastL parts next tags) → Of13Ok (leastL parts next tags) 40000 K := by
 by_cases h : SoundP parts next tags ∧ ¬ longD (leastL parts next tags)
 ·obtain ⟨⟨K, hK⟩, _⟩ := of13_good parts next tags h.1 h.2 h15 h9 (hp h.1)
  exact ⟨K, fun _ _ => hK⟩
 ·exact ⟨fun _ => True, fun a b => absurd ⟨a, b⟩ h⟩
theorem of13_sound (parts : List (List Sp)) (next : List (List Int)) (tags : List Int) (h15 : parts.length ≤ 15) (h9 : tags.length ≤ 9) (hp : SoundP parts next tags → ∀ p ∈ (leastL parts next tags).parts, PartP p) (h : (of13 40000 parts next tags).2 = 0) : BSound (of13 40000 parts next tags).1.1 (of13 40000 parts next tags).1.2 := by
 unfold of13 at h ⊢
 by_cases h1 : SoundP parts next tags
 ·rw [if_pos h1] at h ⊢
  by_cases h2 : longD (leastL parts next tags)
  ·rw [if_pos h2] at h; cases h
  ·rw [if_neg h2]
   exact (of13_good parts next tags h1 h2 h15 h9 (hp h1)).2
 ·rw [if_neg h1] at h; cases h
theorem of13_err (B : Nat) (parts : List (List Sp)) (next : List (List Int)) (tags : List Int) : (of13 B parts next tags).2 = 0 ∨ (of13 B parts next tags).2 = 1 ∨ (of13 B parts next tags).2 = 63 := by
 unfold of13
 split
 ·split
  ·exact .inr (.inr rfl)
  ·exact .inl rfl
 ·exact .inr (.inl rfl)
theorem dfa_tags (c : List (List Int)) (k : Int) (next tags : List Int) (hk : 0 ≤ k ∧ k < 256) : (dfa11 c k next tags).tags.length ≤ 9 := by
 show ((List.range (1 + k % 9).toNat).map (tag11 tags)).length ≤ 9
 rw [List.length_map, List.length_range]
 omega
theorem none_sound : SoundP [] [[]] [-1] := by decide +kernel
theorem none_parts : ∀ p ∈ (leastL [] [[]] [-1]).parts, PartP p := by
 have h := (least_parts [] [[]] [-1]).2
 have h2 : (bareP ([] : List (List Sp))).length = 0 := rfl
 intro p hp
 have h3 := List.length_pos_of_mem hp
 omega
theorem none_uni : UniOk (bareP ([] : List (List Sp))) := by
 intro g h1 h2 h3
 have h4 : (bareP ([] : List (List Sp))).length = 0 := rfl
 omega
theorem none_long : ¬ longD (leastL [] [[]] [-1]) := by
 have hok := sound_ok12 none_sound
 have hlr := least_rows [] [[]] [-1]
 have hle := least_le [] [[]] [-1] hok rfl (by decide)
 have h := (least_parts [] [[]] [-1]).2
 have h2 : (bareP ([] : List (List Sp))).length = 0 := rfl
 generalize leastL [] [[]] [-1] = d at *
 unfold longD
 have h3 : d.parts.length = 0 := by omega
 rw [List.length_eq_zero_iff.1 h3]
 have h4 : d.next.length ≤ 1 := hle.1
 show ¬ (100 < d.tags.length ∨ 100 < 0)
 omega
def b14 (c : List (List Int)) (k : Int) (next tags : List Int) : List (List Int) × List Int :=
 if (of13 40000 (dfa11 c k next tags).parts (dfa11 c k next tags).next (dfa11 c k next tags).tags).2 = 0 then (of13 40000 (dfa11 c k next tags).parts (dfa11 c k next tags).next (dfa11 c k next tags).tags).1 else (of13 40000 [] [[]] [-1]).1
theorem none_of : (of13 40000 [] [[]] [-1]).2 = 0 := by
 unfold of13
 rw [if_pos none_sound, if_neg none_long]
theorem b14_sound (c : List (List Int)) (k : Int) (next tags : List Int) (hk : 0 ≤ k ∧ k < 256) : BSound (b14 c k next tags).1 (b14 c k next tags).2 := by
 have h9 := dfa_tags c k next tags hk
 have h15 := (dfa_parts c k next tags).2
 have hp := fun hs => (dfa_uni c k next tags hs).2.1
 unfold b14
 generalize dfa11 c k next tags = d at *
 split
 ·next h => exact of13_sound d.parts d.next d.tags h15 h9 hp h
 ·exact of13_sound [] [[]] [-1] (by decide) (by decide) (fun _ => none_parts) none_of
set_option maxHeartbeats 16000000 in
theorem bytes14_calls (X : Nat → Prop) (v0 v2 v3 : Value) (c : List (List Int)) (k : Int) (next tags : List Int) (w : World) (hX : ∀ k, X k → k < w.heap.size) (h0 : PV kU16s X w v0 c) (h2 : PV (Kd.int .i8) X w v2 next) (h3 : PV (Kd.int .i8) X w v3 tags)
  (hc : ∀ l ∈ c, ∀ x ∈ l, 0 ≤ x ∧ x < 65536) (hk : 0 ≤ k ∧ k < 256) (hn : ∀ x ∈ next, -128 ≤ x ∧ x ≤ 127) (ht : ∀ x ∈ tags, -128 ≤ x ∧ x ≤ 127) :
  Calls Tryz.prog 14 #[v0, .int .u8 k, v2, v3] w fun e w' => ∃ vn vt, e = .returned (.agg #[vn, vt]) ∧ PV kRow X w' vn (b14 c k next tags).1 ∧ PV kInt X w' vt (b14 c k next tags).2 ∧ Below w.heap.size w w' := by
 have H0 := aM h0
 have H2 := aM h2
 have H3 := aM h3
 have HC := aM hc
 have HK := aM hk
 have HRN := aM hn
 have HRT := aM ht
 have HP := aM (dfa_parts c k next tags)
 have HU := aM (fun hs => dfa_uni c k next tags hs)
 obtain ⟨K, hK⟩ := of13_K (dfa11 c k next tags).parts (dfa11 c k next tags).next (dfa11 c k next tags).tags (dfa_parts c k next tags).2 (dfa_tags c k next tags hk) (fun hs => (dfa_uni c k next tags hs).2.1)
 have HOK := aM hK
 obtain ⟨K2, hK2⟩ := of13_K [] [[]] [-1] (by decide) (by decide) (fun _ => none_parts)
 have HOK2 := aM hK2
 have HS := aM ((Sep.start hX).push_box [.slice none 0 0, .slice none 0 0] 49)
 obtain ⟨g0, hg0⟩ : ∃ g, g = w.heap.size := ⟨_, rfl⟩
 obtain ⟨res, hres⟩ : ∃ r, r = b14 c k next tags := ⟨_, rfl⟩
 rw [← hres]
 obtain ⟨⟨⟨rn, rt⟩, re⟩, hr⟩ : ∃ r, r = of13 40000 (dfa11 c k next tags).parts (dfa11 c k next tags).next (dfa11 c k next tags).tags := ⟨_, rfl⟩
 have HR := aM hr.symm
 have HRE := aM (show re = 0 ∨ re = 1 ∨ re = 63 by have := of13_err 40000 (dfa11 c k next tags).parts (dfa11 c k next tags).next (dfa11 c k next tags).tags; rw [← hr] at this; exact this)
 have HRES := aM (show res = if re = 0 then (rn, rt) else (of13 40000 [] [[]] [-1]).1 by rw [hres, b14, ← hr])
 obtain ⟨⟨⟨sn, st⟩, se⟩, hs2⟩ : ∃ r, r = of13 40000 [] [[]] [-1] := ⟨_, rfl⟩
 have HR2 := aM hs2.symm
 rw [← hs2] at HRES
 clear h0 h2 h3 hc hn ht hX hK hK2 hr hres hs2
 go_enter Tryz.func14, Tryz.ntmps14
 go_upto_if 21 with (first
  | (go_at_call 41; (with_reducible refine (dfa11_calls _ _ _ _ c k next tags _ HS.out.lt (HS.out.arg H0.out) (HS.out.arg H2.out) (HS.out.arg H3.out) HC.out HK.out HRN.out HRT.out).mono ?_); rintro ee w5 ⟨vp, vn, vt, rfl, h0, h1, h2, hb⟩; have hs := ((HS.out.push_ro hb h0).push_ro (Below.refl _ _) (h1.to (fun _ _ h => Ys_ro h))).push_ro (Below.refl _ _) (h2.to (fun _ _ h => Ys_ro (Ys_ro h))); simp only [List.nil_append, List.cons_append] at hs; clear h0 h1 h2 hb; clear HS; have HS := aM hs; clear hs)
  | (go_at_call 40; (with_reducible refine (of13_calls _ _ _ _ _ _ _ _ HS.out.lt (HS.out.ro 1 rfl) (HS.out.ro 2 rfl) (HS.out.ro 3 rfl) (fun p hp => ⟨(HP.out.1.sm hp).1, by have := (HP.out.1.sm hp).2; omega⟩) (fun hs => ⟨(HU.out hs).1, (HU.out hs).2.1, by have := (HU.out hs).2.2; omega⟩) 40000 (by decide) K HOK.out).mono ?_); rintro ee w6 ⟨v0, v1, rfl, h0, h1, hb⟩; rw [HR.out] at h0 h1 ⊢; obtain ⟨A6, c6, e6⟩ := PV.form2 h0; subst e6; obtain ⟨A7, c7, e7⟩ := PV.form2 h1; subst e7; have hgw := Nat.lt_of_lt_of_le (HS.out.box 0 rfl).lt hb.size; have hs := ((HS.out.push_ro hb h0).push_ro (Below.refl _ _) (h1.to (fun _ _ h => Ys_ro h))).push_box [.slice A6 rn.length c6, .slice A7 rt.length c7] 49; simp only [List.nil_append, List.cons_append] at hs; clear h0 h1 hb; clear HS; have HS := aM hs; clear hs))
 obtain ⟨g1, hg1⟩ : ∃ g, g = w6.heap.size := ⟨_, rfl⟩
 rw [← hg0, ← hg1] at HS ⊢
 have hgg : g0 ≠ g1 := by omega
 have hgg' : g1 ≠ g0 := by omega
 clear hg0 hg1 hgw
 have x0 := ((HS.out.box 6 rfl).cell 0 rfl)
 have x1 := ((HS.out.box 6 rfl).cell 1 rfl)
 have z0 := ((HS.out.box 0 rfl).cell 0 rfl)
 have z1 := ((HS.out.box 0 rfl).cell 1 rfl)
 have f0 := (HS.out.box 0 rfl).open_ 0
 have f1 := (HS.out.box 0 rfl).open_ 1
 rcases HRE.out with rfl | hne
 case inl =>
  have HE := aM (show res = (rn, rt) by rw [HRES.out, if_pos rfl])
  clear HRES HRE
  go_wp2_with fail
  have HSF := aM ((HS.out.set_box 0 rfl 0 (.slice A6 rn.length c6)).set_box 0 rfl 1 (.slice A7 rt.length c7))
  refine bodyPost_ret (results_cell_row rfl _ _ g0 49 #[.slice A6 rn.length c6, .slice A7 rt.length c7] (0, 0) _ rfl (HSF.out.box 0 rfl) Tryz.underlying49 rfl (by kernel_rfl)) rfl ?_
  rw [HE.out]
  exact ⟨_, _, rfl, HSF.out.res 4 rfl, HSF.out.res 5 rfl, HSF.out.below⟩
 case inr =>
  have HE := aM (show res = (sn, st) by rw [HRES.out, if_neg (by omega)])
  have h0 : (re != 0) = true := by simp; omega
  clear HRES HRE hne x0 x1 z0 z1 f0 f1
  rw [h0]
  clear h0
  go_wp2_with (first
   | ((with_reducible refine gate_dst (N := 23) rfl ?_); refine slit kRow 26 ?hg (N := 23) ?hd (xs := [([] : List Int)]) (inner := [.slice none 0 0]) ?hr HS.out ?hp (by simp) ?_; (case hd => rfl); (case hg => rfl); (case hr => first | (go_simp; done) | (go_simp; rfl)); (case hp => exact Reps.one (PK.slice (PV.nil _ _ _)) (Reps.none _ _)); clear HS; intro v30 w30 hs; simp only [List.nil_append, List.cons_append] at hs; obtain ⟨B0, d0, e0⟩ := hs.rform 7 rfl; subst e0; have HS := aM hs; clear hs)
   | ((with_reducible refine gate_dst (N := 24) rfl ?_); refine slit kInt 3 ?hg (N := 24) ?hd (xs := [(-1 : Int)]) (inner := [.int .i64 (-1)]) ?hr HS.out ?hp (by simp) ?_; (case hd => rfl); (case hg => rfl); (case hr => first | (go_simp; done) | (go_simp; rfl)); (case hp => exact Reps.one (PK.scalar _) (Reps.none _ _)); clear HS; intro v31 w31 hs; simp only [List.nil_append, List.cons_append] at hs; obtain ⟨B1, d1, e1⟩ := hs.rform 8 rfl; subst e1; have HS := aM hs; clear hs)
   | (go_at_call 40; (refine (of13_calls _ _ _ _ [] [[]] [-1] _ HS.out.lt (PV.nil _ _ _) (HS.out.ro 7 rfl) (HS.out.ro 8 rfl) (fun p hp => by cases hp) (fun hs => ⟨none_uni, none_parts, by have h1 := (least_parts [] [[]] [-1]).2; have h2 : (bareP ([] : List (List Sp))).length = 0 := rfl; omega⟩) 40000 (by decide) K2 HOK2.out).mono ?_); rintro ee w7 ⟨v0, v1, rfl, h0, h1, hb⟩; rw [HR2.out] at h0 h1 ⊢; obtain ⟨A8, c8, e8⟩ := PV.form2 h0; subst e8; obtain ⟨A9, c9, e9⟩ := PV.form2 h1; subst e9; have hs := ((HS.out.push_ro hb h0).push_ro (Below.refl _ _) (h1.to (fun _ _ h => Ys_ro h))); simp only [List.nil_append, List.cons_append] at hs; clear h0 h1 hb; have y0 := (hs.box 6 rfl).open_ 0; have y1 := (hs.box 6 rfl).open_ 1; have x0 := (hs.box 6 rfl).cell 0 rfl; have x1 := (hs.box 6 rfl).cell 1 rfl; have z0 := (hs.box 0 rfl).cell 0 rfl; have z1 := (hs.box 0 rfl).cell 1 rfl; have f0 := (hs.box 0 rfl).open_ 0; have f1 := (hs.box 0 rfl).open_ 1; clear HS; have HS := aM hs; clear hs))
  have HSF := aM ((((HS.out.set_box 6 rfl 0 (.slice A8 sn.length c8)).set_box 6 rfl 1 (.slice A9 st.length c9)).set_box 0 rfl 0 (.slice A8 sn.length c8)).set_box 0 rfl 1 (.slice A9 st.length c9))
  refine bodyPost_ret (results_cell_row rfl _ _ g0 49 #[.slice A8 sn.length c8, .slice A9 st.length c9] (0, 0) _ rfl (HSF.out.box 0 rfl) Tryz.underlying49 rfl (by kernel_rfl)) rfl ?_
  rw [HE.out]
  exact ⟨_, _, rfl, HSF.out.res 9 rfl, HSF.out.res 10 rfl, HSF.out.below⟩
end Go.Proofs.YtplhfgobeicegaaGreatDoor.P
namespace Go.Proofs.YtplhfgobeicegaaGreatDoor.P
open Go Go.RowKit Go.Proofs.YtplhfgobeicegaaGreatDoorW.PrintWords Go.Proofs.YtplhfgobeicegaaGreatDoor.PX
set_option linter.unusedVariables false
set_option maxRecDepth 100000
def t15 (c : List (List Int)) (k : Int) (next tags : List Int) : List Int × List (List Int) × List Int := (of14 (b14 c k next tags).1 (b14 c k next tags).2).1
def eC : List Int := List.replicate 256 0
def eN : List (List Int) := [[-1]]
def eT : List Int := [-1]
theorem e_table : t15 [] 0 [] [] = (eC, eN, eT) := by decide +kernel
theorem e_sum0 : sumL [] = 2166136261 := by decide +kernel
theorem e_suma : sumL [97] = 3826002220 := by decide +kernel
def eB : List Int := (encR eC eN eT).1
theorem e_enc2 : (encR eC eN eT).2 = 0 := by decide +kernel
theorem e_enc : encR eC eN eT = (eB, 0) := Prod.ext rfl e_enc2
theorem e_len : eB.length = 18 := by decide +kernel
theorem e_head : eB.getD 0 0 = 71 := by decide +kernel
theorem e_dec : decF eB = ((eC, eN, eT), 0) := by decide +kernel
theorem e_dec0 : decF [] = noTable := by decide +kernel
theorem e_enc0 : encR [] [] [] = ([], 1) := by decide +kernel
theorem e_u8 : U8s eC := by unfold U8s; decide +kernel
theorem eB_u8 : U8s eB := encR_u8 e_u8 eN eT
end Go.Proofs.YtplhfgobeicegaaGreatDoor.P
namespace Go.Proofs.YtplhfgobeicegaaGreatDoor.P
open Go Go.RowKit Go.Proofs.YtplhfgobeicegaaGreatDoorW.PrintWords Go.Proofs.YtplhfgobeicegaaGreatDoorW.PrintLast Go.Proofs.YtplhfgobeicegaaGreatDoorW.PrintMore Go.Proofs.YtplhfgobeicegaaGreatDoor.PX
set_option linter.unusedVariables false
set_option linter.unusedSimpArgs false
set_option maxRecDepth 100000
set_option maxHeartbeats 16000000 in
theorem table15_calls (X : Nat → Prop) (v0 v2 v3 : Value) (c : List (List Int)) (k : Int) (next tags : List Int) (w : World) (hX : ∀ k, X k → k < w.heap.size) (h0 : PV kU16s X w v0 c) (h2 : PV (Kd.int .i8) X w v2 next) (h3 : PV (Kd.int .i8) X w v3 tags)
  (hc : ∀ l ∈ c, ∀ x ∈ l, 0 ≤ x ∧ x < 65536) (hk : 0 ≤ k ∧ k < 256) (hn : ∀ x ∈ next, -128 ≤ x ∧ x ≤ 127) (ht : ∀ x ∈ tags, -128 ≤ x ∧ x ≤ 127) :
  Calls Tryz.prog 5 #[v0, .int .u8 k, v2, v3] w fun e w' => ∃ a0 a1 a2, e = .returned (.agg #[a0, a1, a2]) ∧ PV kU8 X w' a0 (t15 c k next tags).1 ∧ PV kRow X w' a1 (t15 c k next tags).2.1 ∧ PV kInt X w' a2 (t15 c k next tags).2.2 ∧ Below w.heap.size w w' := by
 have H0 := aM h0
 have H2 := aM h2
 have H3 := aM h3
 have HC := aM hc
 have HK := aM hk
 have HRN := aM hn
 have HRT := aM ht
 obtain ⟨⟨N, T⟩, hb14⟩ : ∃ p, p = b14 c k next tags := ⟨_, rfl⟩
 have HBE := aM hb14.symm
 obtain ⟨⟨⟨rc, rn, rt⟩, er⟩, hr⟩ : ∃ p, p = of14 N T := ⟨_, rfl⟩
 have HR := aM hr.symm
 rw [show t15 c k next tags = (rc, rn, rt) by unfold t15; rw [← hb14]; dsimp only; rw [← hr]]
 have HS := aM ((Sep.start hX).push_box [.slice none 0 0, .slice none 0 0, .slice none 0 0] 28)
 obtain ⟨g8, hg8⟩ : ∃ g, g = w.heap.size := ⟨_, rfl⟩
 clear h0 h2 h3 hc hn ht hX hb14 hr hk
 go_enter Tryz.func5, Tryz.ntmps5
 go_upto_region 2 with (first
  | (go_at_call 14; (with_reducible refine (bytes14_calls _ _ _ _ c k next tags _ HS.out.lt (HS.out.arg H0.out) (HS.out.arg H2.out) (HS.out.arg H3.out) HC.out HK.out HRN.out HRT.out).mono ?_); rintro ee w5 ⟨v0, v1, rfl, h0, h1, hb⟩; rw [HBE.out] at h0 h1; obtain ⟨A4, c4, e4⟩ := PV.form2 h0; subst e4; obtain ⟨A5, c5, e5⟩ := PV.form2 h1; subst e5; have hs := (HS.out.push_ro hb h0).push_ro (Below.refl _ _) (h1.to (fun _ _ h => Ys_ro h)); simp only [List.nil_append, List.cons_append] at hs; clear h0 h1 hb; clear HS; have HS := aM hs; clear hs)
  | (go_at_call 13; (with_reducible refine (of14_calls _ _ _ N T _ HS.out.lt (HS.out.ro 1 rfl) (HS.out.ro 2 rfl)).mono ?_); rintro ee w7 ⟨v0, v1, v2, rfl, h0, h1, h2, hb⟩; rw [HR.out] at h0 h1 h2 ⊢; obtain ⟨A9, c9, e9⟩ := PV.form2 h0; subst e9; obtain ⟨A10, c10, e10⟩ := PV.form2 h1; subst e10; obtain ⟨A11, c11, e11⟩ := PV.form2 h2; subst e11; have hs := (((HS.out.push_ro hb h0).push_ro (Below.refl _ _) (h1.to (fun _ _ h => Ys_ro h))).push_ro (Below.refl _ _) (h2.to (fun _ _ h => Ys_ro (Ys_ro h)))).push_box [.slice A9 rc.length c9, .slice A10 rn.length c10, .slice A11 rt.length c11] 28; simp only [List.nil_append, List.cons_append] at hs; clear h0 h1 h2 hb; clear HS; have HS := aM hs; clear hs))
 rw [← hg8] at HS ⊢
 clear hg8
 have xt0 := (HS.out.box 6 rfl).cell 0 rfl
 have xt1 := (HS.out.box 6 rfl).cell 1 rfl
 have xt2 := (HS.out.box 6 rfl).cell 2 rfl
 have x0 := (HS.out.box 0 rfl).cell 0 rfl
 have x1 := (HS.out.box 0 rfl).cell 1 rfl
 have x2 := (HS.out.box 0 rfl).cell 2 rfl
 have f0 := (HS.out.box 0 rfl).open_ 0
 have f1 := (HS.out.box 0 rfl).open_ 1
 have f2 := (HS.out.box 0 rfl).open_ 2
 go_wp2_with fail
 have HSF := aM (((HS.out.set_box 0 rfl 0 (.slice A9 rc.length c9)).set_box 0 rfl 1 (.slice A10 rn.length c10)).set_box 0 rfl 2 (.slice A11 rt.length c11))
 refine bodyPost_ret (results_cell_row rfl _ _ g8 28 #[.slice A9 rc.length c9, .slice A10 rn.length c10, .slice A11 rt.length c11] (0, 0) _ rfl (HSF.out.box 0 rfl) Tryz.underlying28 rfl (by kernel_rfl)) rfl ?_
 exact ⟨_, _, _, rfl, HSF.out.res 3 rfl, HSF.out.res 4 rfl, HSF.out.res 5 rfl, HSF.out.below⟩
end Go.Proofs.YtplhfgobeicegaaGreatDoor.P
namespace Go.Proofs.YtplhfgobeicegaaGreatDoor.PX
open Go Go.RowKit Go.Proofs.YtplhfgobeicegaaGreatDoorW.PrintWords
set_option linter.unusedVariables false
theorem Ys_join {X : Nat → Prop} {L L' : List Item} {k : Nat} : Ys X (L ++ L') k ↔ Ys (Ys X L) L' k := by
 constructor
 ·rintro (hx | ⟨c, hc, hcb⟩)
  ·exact .inl (.inl hx)
  ·rcases List.mem_append.1 hc with hc | hc
   ·exact .inl (.inr ⟨c, hc, hcb⟩)
   ·exact .inr ⟨c, hc, hcb⟩
 ·rintro ((hx | ⟨c, hc, hcb⟩) | ⟨c, hc, hcb⟩)
  ·exact .inl hx
  ·exact .inr ⟨c, List.mem_append_left _ hc, hcb⟩
  ·exact .inr ⟨c, List.mem_append_right _ hc, hcb⟩
theorem Sep.append {X : Nat → Prop} {w0 w w' : World} {L L' : List Item} (h : Sep X w0 w L) (h' : Sep (Ys X L) w w' L') : Sep X w0 w' (L ++ L') := by
 have hlow : ∀ c ∈ L', ∀ k, c.blk = some k → w.heap.size ≤ k := fun c hc k hk => (Item.ok_lt (h'.ok c hc) hk).2
 refine ⟨fun it hm => ?_, List.pairwise_append.2 ⟨h.ne, h'.ne, fun a ha c hc k hk hck => ?_⟩, h.old, below_step h.below h'.below⟩
 ·rcases List.mem_append.1 hm with hL | hL
  ·refine Item.ok_step (h.ok it hL) ?_ (fun k hk => .inr ⟨it, hm, hk⟩) (.of_below h'.below) (fun k hk => h'.below.block k (Item.ok_lt (h.ok it hL) hk).1)
   rintro k hk (hx | ⟨c, hc, hcb⟩)
   ·exact .inl hx
   ·rcases List.mem_append.1 hc with hc | hc
    ·exact .inr ⟨c, hc, hcb⟩
    ·have := hlow c hc k hcb
     omega
  ·have hs := Item.ok_step (Y' := Ys X (L ++ L')) (h'.ok it hL) (fun k _ hk => Ys_join.1 hk) (fun k hk => .inr ⟨it, hm, hk⟩) (Agree.refl _ _) (fun _ _ => rfl)
   have hb := h.below.size
   cases it with
   | row d e v xs => exact Own.base_le hs hb
   | box g e vals => exact ⟨hs.1, Nat.le_trans hb hs.2⟩
   | ro d v xs => exact hs
   | obj g Pr => exact ⟨hs.1, Nat.le_trans hb hs.2⟩
 ·have := hlow c hc k hck
  have := (Item.ok_lt (h.ok a ha) hk).1
  omega
section
variable {α : Type} {d : Kd α} {e b : Nat} {X : Nat → Prop} {w w0 : World} {L : List Item}
theorem ownBlock_len (A : Option Addr) (m n c : Nat) : (Value.slice A m c).ownBlock = (Value.slice A n c).ownBlock := by cases A <;> rfl
theorem Own.cut {A : Option Addr} {n c : Nat} {xs : List α} (h : Own d e X w b (.slice A n c) xs) (m : Nat) (hm : m ≤ xs.length) : Own d e X w b (.slice A m c) (xs.take m) := by
 obtain ⟨⟨inner, ho, hr⟩, hx⟩ := h
 obtain ⟨A', c', e1⟩ := own_slice ho
 cases e1
 refine ⟨⟨inner.take (m * d.sz), by rw [List.length_take, Nat.min_eq_left hm]; exact own_take ho hm, ?_⟩, fun k hk => hx k ((ownBlock_len A m xs.length c) ▸ hk)⟩
 have hl := hr.1
 have hle : m * d.sz ≤ xs.length * d.sz := Nat.mul_le_mul_right _ hm
 refine ⟨by rw [List.length_take, List.length_take, Nat.min_eq_left hm]; omega, fun j p hj => ?_⟩
 have hjm : j < m := by
  have := (List.getElem?_eq_some_iff.1 hj).1
  rw [List.length_take] at this
  omega
 have hj2 : xs[j]? = some p := by rw [← hj, List.getElem?_take, if_pos hjm]
 have hp := hr.2 j p hj2
 have h3 : (j + 1) * d.sz ≤ m * d.sz := Nat.mul_le_mul_right _ hjm
 rw [Nat.add_mul, Nat.one_mul] at h3
 rw [List.drop_take, List.take_take, Nat.min_eq_left (by omega)]
 exact hp
theorem Sep.cut_row {A : Option Addr} {n c : Nat} {xs : List α} (h : Sep X w0 w L) (i : Nat) (hi : L[i]? = some (.row d e (.slice A n c) xs)) (m : Nat) (hm : m ≤ xs.length) : Sep X w0 w (L.set i (.row d e (.slice A m c) (xs.take m))) := by
 have hb : (Item.row d e (.slice A m c) (xs.take m)).blk = (Item.row d e (.slice A n c) xs).blk := ownBlock_len A m n c
 refine h.update hi (fun k _ hk => by rw [← hb]; exact hk) (Agree.refl _ _) (((h.row i hi).cut m hm).to (fun k' hk' hk => ?_) (fun k' hk' => Ys_set hi hk'))
 rcases hk with hx | ⟨c', hc', hcb⟩
 ·exact .inl hx
 ·rcases mem_set hc' with rfl | ⟨j', _, hc''⟩
  ·exact .inr ⟨_, List.mem_of_getElem? hi, by rw [← hb]; exact hcb⟩
  ·exact .inr ⟨c', List.mem_of_getElem? hc'', hcb⟩
end
section
variable {α : Type} {d : Kd α} {e e2 E : Nat} {X : Nat → Prop} {w w0 : World} {v : Value} {us : List SlT} {gs : List (List α)}
end
end Go.Proofs.YtplhfgobeicegaaGreatDoor.PX
namespace Go.Proofs.YtplhfgobeicegaaGreatDoor.P
open Go Go.RowKit Go.Proofs.YtplhfgobeicegaaGreatDoorW.PrintWords Go.Proofs.YtplhfgobeicegaaGreatDoorW.PrintLast Go.Proofs.YtplhfgobeicegaaGreatDoorW.PrintMore Go.Proofs.YtplhfgobeicegaaGreatDoor.PX
set_option linter.unusedVariables false
set_option linter.unusedSimpArgs false
set_option maxRecDepth 100000
set_option maxHeartbeats 32000000 in
theorem decode_calls (X : Nat → Prop) (vb : Value) (b : List Int) (w : World) (hX : ∀ k, X k → k < w.heap.size) (hb : PV kU8 X w vb b) (hu : U8s b) :
  Calls Tryz.prog 9 #[vb] w fun e w' => ∃ v0 v1 v2, e = .returned (.tuple #[.agg #[v0, v1, v2], .int .u16 (decF b).2]) ∧ PV kU8 X w' v0 (decF b).1.1 ∧ PV kRow X w' v1 (decF b).1.2.1 ∧ PV kInt X w' v2 (decF b).1.2.2 ∧ Below w.heap.size w w' := by
 have H1 := aM hb
 have HU := aM hu
 have m1 := hb.max
 have HMU := aM (show U8s [71, 67, 1] from fun c hc => by
  simp only [List.mem_cons, List.not_mem_nil, or_false] at hc
  rcases hc with rfl | rfl | rfl <;> omega)
 obtain ⟨A1, c1, rfl, _, _⟩ := hb.now
 have HS := aM ((Sep.start hX).push_box [.slice none 0 0, .slice none 0 0, .slice none 0 0] 28)
 obtain ⟨r, hr⟩ : ∃ r, r = decF b := ⟨_, rfl⟩
 rw [← hr]
 have HR := aM hr
 clear hb hX hr hu
 go_enter Tryz.func9, Tryz.ntmps9
 go_wp2_with fail
 apply wp_scope_straight
 rcases Nat.lt_or_ge b.length 9 with hl | hl
 case inl =>
  have d1 : decide ((b.length : Int) < 9) = true := dT (by omega)
  have d2 : decide (b.length < 9) = true := dT hl
  have HE := aM (show r = noTable by rw [HR.out, decF, if_neg (fun h => by have := h.1; omega)])
  go_upto_if 20 with fail
  obtain ⟨g2, hg2⟩ : ∃ g, g = w.heap.size := ⟨_, rfl⟩
  rw [← hg2] at HS ⊢
  clear hg2
  have x0 := (HS.out.box 0 rfl).cell 0 rfl
  have x1 := (HS.out.box 0 rfl).cell 1 rfl
  have x2 := (HS.out.box 0 rfl).cell 2 rfl
  have f0 := (HS.out.box 0 rfl).open_ 0
  have f1 := (HS.out.box 0 rfl).open_ 1
  have f2 := (HS.out.box 0 rfl).open_ 2
  go_wp2_with fail
  have HSF := aM (((HS.out.set_box 0 rfl 0 (.slice none 0 0)).set_box 0 rfl 1 (.slice none 0 0)).set_box 0 rfl 2 (.slice none 0 0))
  rw [Exit.noGoto_ret]
  refine bodyPost_ret (results_ct rfl _ _ g2 28 #[.slice none 0 0, .slice none 0 0, .slice none 0 0] (0, 0) _ rfl (HSF.out.box 0 rfl) Tryz.underlying28 rfl (by kernel_rfl)) rfl ?_
  rw [HE.out]
  exact ⟨_, _, _, rfl, PV.nil _ _ _, PV.nil _ _ _, PV.nil _ _ _, HSF.out.below⟩
 case inr =>
  have d1 : decide ((b.length : Int) < 9) = false := dF (by omega)
  have d2 : decide (b.length < 9) = false := dF (by omega)
  have HL9 := aM hl
  obtain ⟨q, hq⟩ : ∃ q, q = hasPre b [71, 67, 1] := ⟨_, rfl⟩
  have HQ := aM hq.symm
  clear hq hl
  go_upto_if 20 with (first
   | (go_at_call 18; (refine (magic_calls X w _ _ HS.out).mono ?_); rintro ee w5 ⟨v5, rfl, hs⟩; clear HS; have HS := aM hs; clear hs)
   | (go_at_call 27; (refine (hasPre_calls X _ _ b [71, 67, 1] _ ((HS.out.arg H1.out).to (fun k _ hk => .inl hk)) (HS.out.res_row 1 rfl) HU.out HMU.out).mono ?_); rintro ee w6 ⟨rfl, rfl⟩; rw [HQ.out]))
  obtain ⟨g2, hg2⟩ : ∃ g, g = w.heap.size := ⟨_, rfl⟩
  rw [← hg2] at HS ⊢
  clear hg2
  have hs := HS.out.take 1
  clear HS
  have HS := aM hs
  clear hs d1 d2
  cases q
  case false =>
   have HE := aM (show r = noTable by rw [HR.out, decF, if_neg (fun h => by have h2 := h.2; rw [HQ.out] at h2; cases h2)])
   have x0 := (HS.out.box 0 rfl).cell 0 rfl
   have x1 := (HS.out.box 0 rfl).cell 1 rfl
   have x2 := (HS.out.box 0 rfl).cell 2 rfl
   have f0 := (HS.out.box 0 rfl).open_ 0
   have f1 := (HS.out.box 0 rfl).open_ 1
   have f2 := (HS.out.box 0 rfl).open_ 2
   go_wp2_with fail
   have HSF := aM (((HS.out.set_box 0 rfl 0 (.slice none 0 0)).set_box 0 rfl 1 (.slice none 0 0)).set_box 0 rfl 2 (.slice none 0 0))
   rw [Exit.noGoto_ret]
   refine bodyPost_ret (results_ct rfl _ _ g2 28 #[.slice none 0 0, .slice none 0 0, .slice none 0 0] (0, 0) _ rfl (HSF.out.box 0 rfl) Tryz.underlying28 rfl (by kernel_rfl)) rfl ?_
   rw [HE.out]
   exact ⟨_, _, _, rfl, PV.nil _ _ _, PV.nil _ _ _, PV.nil _ _ _, HSF.out.below⟩
  case true =>
   have HR2 := aM (show r = decMid b (twoR (startR b)).1.toNat (rowR oneR 256 256 [] (twoR (startR b)).2) by rw [HR.out, decF, if_pos ⟨HL9.out, HQ.out⟩])
   clear HR HQ
   obtain ⟨n4, hn4⟩ : ∃ n, n = b.length - 4 := ⟨_, rfl⟩
   obtain ⟨j0, hj0, _, hjz0, _⟩ := info_parts info5
   obtain ⟨u9, hu9, hrun0⟩ := H1.out.mid (P := Tryz.prog) 24 5 Tryz.underlying24 hj0 hjz0 3 n4 (by have := HL9.out; omega) (by omega)
   have hrun9 : ∀ W : World, (Instr.slice 24 (.slice A1 b.length c1) (some (.int .i64 3)) (some (.int .i64 ((b.length : Int) - 4))) none).run Tryz.prog W = .ok u9 W := by rw [show (b.length : Int) - 4 = (n4 : Int) by have := HL9.out; omega]; exact hrun0
   obtain ⟨sb, hsb⟩ : ∃ l, l = (b.take n4).drop 3 := ⟨_, rfl⟩
   have hsr : startR b = ⟨sb, false⟩ := by rw [hsb, hn4]; rfl
   have HSU := aM (show U8s sb by have h := startR_u8 HU.out; rw [hsr] at h; exact h)
   rw [← hsb] at hu9
   have HR3 := aM (show r = decMid b (twoR ⟨sb, false⟩).1.toNat (rowR oneR 256 256 [] (twoR ⟨sb, false⟩).2) by rw [← hsr]; exact HR2.out)
   obtain ⟨A9, c9, rfl, _, _⟩ := hu9.now
   have HU9 := aM hu9
   clear hu9 hj0 hjz0 hrun0 hsr hn4 hsb HR2
   go_upto_region 4 with (first
    | (go_at_call 18; (refine (magic_calls X w _ _ HS.out).mono ?_); rintro ee w7 ⟨v7, rfl, hs⟩; obtain ⟨A7, c7, e7⟩ := hs.form 1 rfl; subst e7; clear HS; have HS := aM (show Sep X w w7 [.box g2 28 [.slice none 0 0, .slice none 0 0, .slice none 0 0]] from hs.take 1); clear hs))
   have hs := (HS.out.push_box' [.slice A9 sb.length c9, .bool false] 62 w7.heap.size rfl).push_box' [.pointer (some ⟨w7.heap.size, 0, none⟩)] 60 (w7.heap.size + 1) (by simp)
   obtain ⟨gp, hgp⟩ : ∃ g, g = w7.heap.size + 1 := ⟨_, rfl⟩
   obtain ⟨gr, hgr⟩ : ∃ g, g = w7.heap.size := ⟨_, rfl⟩
   rw [← hgp, ← hgr] at hs ⊢
   obtain ⟨w8, hw8⟩ : ∃ x, x = (w7.alloc (.cells #[.slice A9 sb.length c9, .bool false] 62)).alloc (.cells #[.pointer (some ⟨gr, 0, none⟩)] 60) := ⟨_, rfl⟩
   change Sep X w ((w7.alloc (.cells #[.slice A9 sb.length c9, .bool false] 62)).alloc (.cells #[.pointer (some ⟨gr, 0, none⟩)] 60)) _ at hs
   rw [← hw8] at hs ⊢
   clear hgp hgr hw8 hrun9 HS
   have HS := aM hs
   clear hs
   obtain ⟨⟨m, r1⟩, hmr⟩ : ∃ p, p = twoR ⟨sb, false⟩ := ⟨_, rfl⟩
   have hin := twoR_in (r := ⟨sb, false⟩) HSU.out
   have hr1 : U8s r1.b := by have h : U8s (twoR ⟨sb, false⟩).2.b := (takeR_u8 2 (r := ⟨sb, false⟩) HSU.out).2; rw [← hmr] at h; exact h
   rw [← hmr] at hin
   dsimp only at hin
   obtain ⟨many, rfl⟩ : ∃ k : Nat, m = k := ⟨m.toNat, by omega⟩
   have HQ1 := aM hmr.symm
   have HR4 := aM (show r = decMid b many (rowR oneR 256 256 [] r1) by have h := HR3.out; rw [← hmr] at h; exact h)
   have HMANY := aM hin.2
   have HU1 := aM hr1
   clear hin hr1 hmr HR3
   have y2 := (HS.out.box 2 rfl).cell 0 rfl
   obtain ⟨⟨cl, r2⟩, hcr⟩ : ∃ p, p = rowR oneR 256 256 [] r1 := ⟨_, rfl⟩
   have hcu := rowR_u8 256 256 HU1.out
   have hcl := rowR_len oneR 256 256 [] r1 (by decide)
   rw [← hcr] at hcu hcl
   dsimp only at hcu hcl
   have HQ2 := aM hcr.symm
   have HR5 := aM (show r = decMid b many (cl, r2) by have h := HR4.out; rw [← hcr] at h; exact h)
   have HCU := aM hcu
   have HCL := aM hcl
   clear hcu hcl hcr HR4
   go_upto_region 5 with (first
    | (go_at_call 28; (refine (rtwo_calls X w _ _ 1 gr _ ⟨sb, false⟩ HS.out rfl HU9.out HSU.out).mono ?_); rintro ee w9 ⟨rfl, vb2, hb2, hs⟩; rw [HQ1.out] at hb2 hs ⊢; have HB2 := aM hb2; clear HS hb2 y2; have HS := aM (show Sep X w w9 [.box g2 28 [.slice none 0 0, .slice none 0 0, .slice none 0 0], .box gr 62 [vb2, .bool r1.short], .box gp 60 [.pointer (some ⟨gr, 0, none⟩)]] from hs); clear hs; have y2 := (HS.out.box 2 rfl).cell 0 rfl))
   clear y2
   go_upto_region 6 with fail
   have hs := HS.out.push_box [.slice none 0 0, .slice none 0 0, .slice none 0 0] 28
   obtain ⟨gt, hgt⟩ : ∃ g, g = w9.heap.size := ⟨_, rfl⟩
   rw [← hgt] at hs ⊢
   obtain ⟨wa, hwa⟩ : ∃ x, x = w9.alloc (.cells #[.slice none 0 0, .slice none 0 0, .slice none 0 0] 28) := ⟨_, rfl⟩
   change Sep X w (w9.alloc (.cells #[.slice none 0 0, .slice none 0 0, .slice none 0 0] 28)) _ at hs
   rw [← hwa] at hs ⊢
   clear hgt hwa HS
   have HS := aM hs
   clear hs
   have y2 := (HS.out.box 2 rfl).cell 0 rfl
   go_upto_block 0 with (first
    | (go_at_call 29; (refine (row1_calls X w _ _ 1 2 gr gp _ r1 256 HS.out (by decide) rfl rfl HB2.out HU1.out (by decide)).mono ?_); rintro ee wb ⟨v4, rfl, vb3, hb3, hs⟩; rw [HQ2.out] at hb3 hs; obtain ⟨A4, c4, e4⟩ := hs.form 4 rfl; subst e4; have HB3 := aM hb3; clear HS hb3 y2; have HS := aM (show Sep X w wb [.box g2 28 [.slice none 0 0, .slice none 0 0, .slice none 0 0], .box gr 62 [vb3, .bool r2.short], .box gp 60 [.pointer (some ⟨gr, 0, none⟩)], .box gt 28 [(.slice none 0 0), (.slice none 0 0), (.slice none 0 0)], .row kInt 3 (.slice A4 cl.length c4) cl] from hs); clear hs))
   go_cut [37] (fun v37 wc => ∃ vC, Aside0 (Sep X w wc [.box g2 28 [.slice none 0 0, .slice none 0 0, .slice none 0 0], .box gr 62 [vb3, .bool r2.short], .box gp 60 [.pointer (some ⟨gr, 0, none⟩)], .box gt 28 [vC, (.slice none 0 0), (.slice none 0 0)], .row kInt 3 (.slice A4 cl.length c4) cl, .row kU8 5 vC cl]))
   case first =>
    have hs := HS.out.push_nil kU8 5
    clear HS
    have HS := aM hs
    clear hs
    go_wp2_with fail
    go_loopg [37] cl.length (fun m v37 w' => ∃ (i : Nat) (C : List Int) (vC : Value), v37 = .int .i64 i ∧ Aside0 (i + m = cl.length) ∧ Aside0 (C = cl.take i) ∧ Aside0 (Sep X w w' [.box g2 28 [.slice none 0 0, .slice none 0 0, .slice none 0 0], .box gr 62 [vb3, .bool r2.short], .box gp 60 [.pointer (some ⟨gr, 0, none⟩)], .box gt 28 [vC, (.slice none 0 0), (.slice none 0 0)], .row kInt 3 (.slice A4 cl.length c4) cl, .row kU8 5 vC C]))
    case atStart => exact ⟨0, [], _, rfl, ⟨by omega⟩, ⟨rfl⟩, HS⟩
    case round =>
     clear HS
     obtain ⟨i, C, vC, rfl, HJ, HC, HS⟩ := hrel
     obtain ⟨A5, c5, e5⟩ := HS.out.form 5 rfl
     subst e5
     cases gk with
     | zero =>
      have hi : i = cl.length := by have := HJ.out; omega
      have e1 : decide ((i : Int) < (cl.length : Int)) = false := dF (by omega)
      have e2 : decide (i < cl.length) = false := dF (by omega)
      have hc : C = cl := by rw [HC.out, hi, List.take_length]
      clear HC HJ hi
      subst hc
      go_wp2_with fail
      go_meet
      case rel => exact ⟨_, HS⟩
     | succ k1 =>
      have hi : i < cl.length := by have := HJ.out; omega
      have e1 : decide ((i : Int) < (cl.length : Int)) = true := dT (by omega)
      have e2 : decide (i < cl.length) = true := dT hi
      have hi0 : (0 : Int) ≤ (i : Int) := by omega
      have hi1 : (i : Int) < (cl.length : Int) := by omega
      obtain ⟨p, hp, hp1⟩ := u8s_at HCU.out.1 i hi
      obtain ⟨ga, ca, ea, ya, _, _⟩ := HS.out.int 4 rfl i hi
      cases ea
      rw [hp] at ya
      have HC2 := aM (show C ++ [(p : Int)] = cl.take (i + 1) by rw [take_at cl 0 i hi, HC.out, hp])
      have hq8 : IntKind.u8.wrap (p : Int) = (p : Int) := by rw [IntKind.wrap_u8']; omega
      have hcl9 := HCL.out
      have HCL2 := aM (show C.length + 1 ≤ 1000 by rw [HC.out, List.length_take]; have := HCL.out; omega)
      have y3 := (HS.out.box 3 rfl).cell 0 rfl
      clear HC hp
      go_wp2_with (first
       | ((with_reducible refine gate_dst (N := 45) rfl ?_); refine slit kU8 5 ?hg (N := 45) ?hd (xs := [(p : Int)]) (inner := [.int .u8 (p : Int)]) ?hr HS.out ?hp (by simp) ?_; (case hd => rfl); (case hg => rfl); (case hr => first | (go_simp; done) | (go_simp; rfl)); (case hp => exact Reps.one (PK.scalar _) (Reps.none _ _)); clear HS; intro v32 w32 hs; have HS := aM hs; clear hs)
       | ((with_reducible refine gate_builtin (b := .append) (xs := #[.tmp 42, .tmp 45]) rfl ?_); at_builtin; refine sgrow kU8 5 rfl (.tmp 42) (.tmp 45) 24 5 (.int .u8 0) 1 rfl Tryz.underlying24 info5 rfl (by decide) (by omega) _ _ C [(p : Int)] rfl rfl HS.out rfl (HS.out.ro 6 rfl) (by have := HCL2.out; rw [lS]; omega) ?_; clear HS; intro v33 w33 hs; obtain ⟨C1, hC1⟩ : ∃ q, q = C ++ [(p : Int)] := ⟨_, rfl⟩; rw [← hC1] at hs; have HZC1 := aM hC1; clear hC1; obtain ⟨Az, cz, ez⟩ := hs.form 5 rfl; subst ez; have hs := hs.take 6; have fz := (hs.box 3 rfl).open_ 0; have yz := (hs.box 3 rfl).cell 0 rfl; have HS := aM hs; clear hs))
      have hs := HS.out.set_box 3 rfl 0 (.slice Az C1.length cz)
      clear HS
      have HS := aM hs
      go_roundg k1
      case measure => omega
      case rel => exact ⟨i + 1, C1, _, by go_num, ⟨by have := HJ.out; omega⟩, ⟨by rw [HZC1.out]; exact HC2.out⟩, HS⟩
   case rest =>
    clear HS
    obtain ⟨vC, HS⟩ := hcut
    obtain ⟨A5, c5, e5⟩ := HS.out.form 5 rfl
    subst e5
    have y3 := (HS.out.box 3 rfl).cell 0 rfl
    rcases Nat.eq_zero_or_pos cl.length with hz | hz
    case inl =>
     have e1 : ((cl.length : Int) == 0) = true := by rw [hz]; rfl
     have HE := aM (show r = noTable by rw [HR5.out, decMid, if_pos hz])
     clear HR5 hz
     go_upto_if 52 with fail
     clear y3
     have x0 := (HS.out.box 0 rfl).cell 0 rfl
     have x1 := (HS.out.box 0 rfl).cell 1 rfl
     have x2 := (HS.out.box 0 rfl).cell 2 rfl
     have f0 := (HS.out.box 0 rfl).open_ 0
     have f1 := (HS.out.box 0 rfl).open_ 1
     have f2 := (HS.out.box 0 rfl).open_ 2
     go_wp2_with fail
     have HSF := aM (((HS.out.set_box 0 rfl 0 (.slice none 0 0)).set_box 0 rfl 1 (.slice none 0 0)).set_box 0 rfl 2 (.slice none 0 0))
     rw [Exit.noGoto_ret]
     refine bodyPost_ret (results_ct rfl _ _ g2 28 #[.slice none 0 0, .slice none 0 0, .slice none 0 0] (0, 0) _ rfl (HSF.out.box 0 rfl) Tryz.underlying28 rfl (by kernel_rfl)) rfl ?_
     rw [HE.out]
     exact ⟨_, _, _, rfl, PV.nil _ _ _, PV.nil _ _ _, PV.nil _ _ _, HSF.out.below⟩
    case inr =>
     have e1 : ((cl.length : Int) == 0) = false := bF (by omega)
     obtain ⟨mx, hmx⟩ : ∃ n : Nat, maxF cl = (n : Int) := ⟨(maxF cl).toNat, by have := maxF_in HCU.out.1 hz; omega⟩
     have hmx1 : mx < 256 := by have := maxF_in HCU.out.1 hz; omega
     obtain ⟨k, hk⟩ : ∃ k, k = mx + 1 := ⟨_, rfl⟩
     have HK := aM (show k ≤ 256 by omega)
     have HMX := aM hmx
     have HZ := aM hz
     obtain ⟨st, hst⟩ : ∃ s, s = statesR k many [] [] r2 := ⟨_, rfl⟩
     have HE := aM (show r = decEnd b cl st by rw [HR5.out, decMid, if_neg (show ¬ cl.length = 0 by omega)]; dsimp only; rw [hmx, Int.toNat_natCast, ← hk, hst])
     have HST := aM hst.symm
     clear HR5 hz hmx hst
     go_upto_block 2 with (first
      | (go_at_call 32; (refine (maxB_calls X _ cl _ (HS.out.res_row 5 rfl) HZ.out).mono ?_); rintro ee w6 ⟨rfl, rfl⟩; rw [HMX.out]))
     rw [show (mx : Int) + 1 = (k : Int) by omega]
     clear hk hmx1 e1 y3
     apply wp_label
     go_upto_block 2 with fail
     go_cut [60] (fun v60 wc => ∃ (N : List (List Int)) (T : List Int) (r3 : Rd) (vb4 vN vT : Value), Aside0 ((N, T, r3) = st) ∧ Aside0 (Sep X w wc [.box g2 28 [.slice none 0 0, .slice none 0 0, .slice none 0 0], .box gr 62 [vb4, .bool r3.short], .box gp 60 [.pointer (some ⟨gr, 0, none⟩)], .box gt 28 [(.slice A5 cl.length c5), vN, vT], .row kInt 3 (.slice A4 cl.length c4) cl, .row kU8 5 (.slice A5 cl.length c5) cl, .row kRow 26 vN N, .row kInt 3 vT T]))
     case first =>
      have hs := (HS.out.push_nil kRow 26).push_nil kInt 3
      have hr2 := HCU.out.2
      have hmany := HMANY.out
      clear HS
      have HS := aM hs
      clear hs
      have HR2 := aM hr2
      clear hr2
      go_wp2_with fail
      go_loopg [60] many (fun m v60 w' => ∃ (i : Nat) (N : List (List Int)) (T : List Int) (r3 : Rd) (vb4 vN vT : Value), v60 = .int .i64 i ∧ Aside0 (i + m = many) ∧ Aside0 (T.length = i ∧ N.length = i) ∧ Aside0 (U8s r3.b) ∧ Aside0 (PV kU8 X w vb4 r3.b) ∧ Aside0 (statesR k m N T r3 = st) ∧ Aside0 (Sep X w w' [.box g2 28 [.slice none 0 0, .slice none 0 0, .slice none 0 0], .box gr 62 [vb4, .bool r3.short], .box gp 60 [.pointer (some ⟨gr, 0, none⟩)], .box gt 28 [(.slice A5 cl.length c5), vN, vT], .row kInt 3 (.slice A4 cl.length c4) cl, .row kU8 5 (.slice A5 cl.length c5) cl, .row kRow 26 vN N, .row kInt 3 vT T]))
      case atStart => exact ⟨0, [], [], r2, _, _, _, rfl, ⟨by omega⟩, ⟨rfl, rfl⟩, HR2, HB3, HST, HS⟩
      case round =>
       clear HS HST HR2
       obtain ⟨i, N, T, r3, vb4, vN, vT, rfl, HJ, HNT, HU3, HB4, HST, HS⟩ := hrel
       obtain ⟨A6, c6, e6⟩ := HS.out.form 6 rfl
       subst e6
       obtain ⟨A7', c7', e7⟩ := HS.out.form 7 rfl
       subst e7
       cases gk with
       | zero =>
        have hi : i = many := by have := HJ.out; omega
        have e1 : decide ((i : Int) < (many : Int)) = false := dF (by omega)
        have e2 : decide (i < many) = false := dF (by omega)
        have HX := aM (show (N, T, r3) = st from HST.out)
        clear HST HJ hi
        go_wp2_with fail
        go_meet
        case rel => exact ⟨N, T, r3, _, _, _, HX, HS⟩
       | succ k1 =>
        have hi : i < many := by have := HJ.out; omega
        have e1 : decide ((i : Int) < (many : Int)) = true := dT (by omega)
        have e2 : decide (i < many) = true := dT hi
        obtain ⟨⟨y, ra⟩, hya⟩ : ∃ p, p = twoR r3 := ⟨_, rfl⟩
        have hyin := twoR_in HU3.out
        have hua : U8s ra.b := by have h : U8s (twoR r3).2.b := (takeR_u8 2 HU3.out).2; rw [← hya] at h; exact h
        rw [← hya] at hyin
        dsimp only at hyin
        have HQA := aM hya.symm
        have HUA := aM hua
        obtain ⟨⟨rw, rb⟩, hrb⟩ : ∃ p, p = rowR twoM k k [] ra := ⟨_, rfl⟩
        have hub := rowR_i k k HUA.out
        rw [← hrb] at hub
        dsimp only at hub
        have HQB := aM hrb.symm
        have HUB := aM hub
        have HST2 := HST.out
        rw [statesR, show twoM r3 = (y - 1, ra) by unfold twoM; rw [← hya]] at HST2
        dsimp only at HST2
        rw [← hrb] at HST2
        have HST3 := aM HST2
        clear HST HST2 hua hub hrb hya
        obtain ⟨z, hz⟩ : ∃ z, z = y - 1 := ⟨_, rfl⟩
        rw [← hz] at HST3
        have hz1 : y - 1 = z := hz.symm
        have hz2 : wrap64 z = z := IntWalk.wrap64_in _ (by omega)
        have HTL := aM (show T.length + 1 ≤ 100000 by have := HNT.out; have := HMANY.out; omega)
        have HNL := aM (show N.length + 1 ≤ 100000 by have := HNT.out; have := HMANY.out; omega)
        clear hz
        go_upto_region 16 with fail
        clear e1 e2
        have hs := HS.out.drew
        clear HS; have HS := aM hs; clear hs
        refine start_ (n := 9) (S := fun w' => w'.cell? ⟨gt, 2, none⟩ = some (.slice A7' T.length c7') ∧ w'.cell? ⟨gp, 0, none⟩ = some (.pointer (some ⟨gr, 0, none⟩))) (ds := [6, 8]) #[false, false, false, false, false, false, false, false, false] (by kernel_rfl) rfl rfl ⟨((HS.out.box 3 rfl).cell 2 rfl), ((HS.out.box 2 rfl).cell 0 rfl)⟩ (fun hHeld => ?_)
        refine pure_ (i := 0) (N := some 62) (v := ?_) (a' := ?_) (bv 9 1) rfl rfl (by kernel_rfl) (fun _ _ _ h => h) (Or.inl ⟨by rfl, ?_⟩) ?_ ?_
        rotate_left
        ·intro w'
         go_simp
         with_reducible rfl
        rotate_left
        ·simp only [Act.put, qA, qB, qC, i64_w, i32_w]
         rfl
        refine take_ (i := 1) (N := some 63) (v := ?_) (a' := ?_) (bv 9 3) rfl rfl (by kernel_rfl) (fun _ _ _ h => h) (Or.inl ⟨by rfl, ?_⟩) hHeld ?_ ?_
        rotate_left
        ·rintro w' ⟨s0, s1⟩
         go_simp
         with_reducible rfl
        rotate_left
        ·simp only [Act.put, qA, qB, qC, i64_w, i32_w]
         rfl
        refine take_ (i := 2) (N := some 64) (v := ?_) (a' := ?_) (bv 9 7) rfl rfl (by kernel_rfl) (fun _ _ _ h => h) (Or.inl ⟨by rfl, ?_⟩) hHeld ?_ ?_
        rotate_left
        ·rintro w' ⟨s0, s1⟩
         go_simp
         with_reducible rfl
        rotate_left
        ·simp only [Act.put, qA, qB, qC, i64_w, i32_w]
         rfl
        refine one_ (i := 3) (N := some 65) (bv 9 15) rfl rfl (by kernel_rfl) (by decide) (fun K hK => ?_)
        refine goes_ Tryz.func28 (by kernel_rfl) rfl #[.pointer (some ⟨gr, 0, none⟩)] (by rfl) rfl rfl (by simp only [List.map_toArray, List.map_cons, List.map_nil]; rfl) ?_
        with_reducible refine (rtwo_calls X w _ _ 1 gr _ r3 HS.out rfl HB4.out HU3.out).mono ?_
        rintro e wx ⟨rfl, vb5, hb5, hs⟩
        refine ⟨_, rfl, ?_⟩
        rw [HQA.out] at hb5 hs ⊢
        have HB5 := aM hb5
        clear hb5
        have hs : Sep X w wx [.box g2 28 [.slice none 0 0, .slice none 0 0, .slice none 0 0], .box gr 62 [vb5, .bool ra.short], .box gp 60 [.pointer (some ⟨gr, 0, none⟩)], .box gt 28 [(.slice A5 cl.length c5), (.slice A6 N.length c6), (.slice A7' T.length c7')], .row kInt 3 (.slice A4 cl.length c4) cl, .row kU8 5 (.slice A5 cl.length c5) cl, .row kRow 26 (.slice A6 N.length c6) N, .row kInt 3 (.slice A7' T.length c7') T] := hs
        clear HS; have HS := aM hs; clear hs
        refine hK.out _ _ ⟨((HS.out.box 3 rfl).cell 2 rfl), ((HS.out.box 2 rfl).cell 0 rfl)⟩ (fun hHeld => ?_)
        clear hK K
        refine norm_ (a' := ?_) ?_ ?_
        rotate_left
        ·show Act.put _ (some 65) _ = _
         simp only [Act.put, qA, qB, qC, i64_w, i32_w]
         rfl
        refine pure_ (i := 4) (N := some 66) (v := ?_) (a' := ?_) (bv 9 31) rfl rfl (by kernel_rfl) (fun _ _ _ h => h) (Or.inl ⟨by rfl, ?_⟩) ?_ ?_
        rotate_left
        ·intro w'
         go_simp
         with_reducible rfl
        rotate_left
        ·simp only [Act.put, qA, qB, qC, i64_w, i32_w]
         rfl
        refine one_ (i := 5) (N := some 67) (bv 9 63) rfl rfl (by kernel_rfl) (by decide) (fun K hK => ?_)
        refine value_ (w1 := ?_) (v := ?_) (by rfl) rfl ?_ ?_
        rotate_left 2
        ·go_simp
         constructor
         ·rfl
         ·rfl
        have hs := HS.out.lit_ro kInt 3 (xs := [z]) (inner := [.int .i64 z]) (Reps.one (PK.scalar _) (Reps.none _ _)) (by simp)
        clear HS; have HS := aM hs; clear hs
        refine hK.out _ _ ⟨((HS.out.box 3 rfl).cell 2 rfl), ((HS.out.box 2 rfl).cell 0 rfl)⟩ (fun hHeld => ?_)
        clear hK K
        refine norm_ (a' := ?_) ?_ ?_
        rotate_left
        ·show Act.put _ (some 67) _ = _
         simp only [Act.put, qA, qB, qC, i64_w, i32_w]
         rfl
        refine last_ (i := 6) (N := some 68) #[true, true, true, true, true, true, true, false, false] rfl rfl (by kernel_rfl) (by decide) (fun K hK => ?_)
        refine sgrow_step kInt 7 (by rfl) rfl (.tmp 63) (.tmp 67) 26 3 (.int .i64 0) 8 rfl Tryz.underlying26 info3' rfl (by decide) (by omega) _ (.slice (some ⟨_, 0, none⟩) [z].length [z].length) T [z] rfl rfl HS.out rfl (HS.out.ro 8 rfl) (by have := HTL.out; rw [lS]; omega) ?_
        intro v1 w1 hs
        obtain ⟨T1, hT1⟩ : ∃ q, q = T ++ [z] := ⟨_, rfl⟩
        rw [← hT1] at hs
        have HZT1 := aM hT1
        clear hT1
        obtain ⟨At, ct, et⟩ := hs.form 7 rfl
        subst et
        clear HS; have HS := aM hs; clear hs
        have hs := HS.out.take 8
        clear HS; have HS := aM hs; clear hs
        have fz := (HS.out.box 3 rfl).open_ 2
        have yz := (HS.out.box 3 rfl).cell 2 rfl
        refine hK.out _ _ ?_
        clear hK K
        refine norm_ (a' := ?_) ?_ ?_
        rotate_left
        ·show Act.put _ (some 68) _ = _
         simp only [Act.put, qA, qB, qC, i64_w, i32_w]
         rfl
        refine pure_ (i := 7) (N := some 69) (v := ?_) (a' := ?_) (bv 9 255) rfl rfl (by kernel_rfl) (fun _ _ _ h => h) (Or.inl ⟨by rfl, ?_⟩) ?_ ?_
        rotate_left
        ·intro w'
         go_simp
         with_reducible rfl
        rotate_left
        ·simp only [Act.put, qA, qB, qC, i64_w, i32_w]
         rfl
        refine last_ (i := 8) (N := none) #[true, true, true, true, true, true, true, true, true] rfl rfl (by kernel_rfl) (by decide) (fun K hK => ?_)
        refine skip_ (w1 := ?_) (by rfl) rfl ?_ ?_
        rotate_left
        ·go_simp
         rfl
        have hs := HS.out.set_box 3 rfl 2 (.slice At T1.length ct)
        clear HS; have HS := aM hs; clear hs
        refine hK.out _ _ ?_
        clear hK K
        refine done_ (by kernel_rfl) ?_
        clear hz1 hz2 hyin
        have hkb := HK.out
        go_upto_region 17 with fail
        have hs := HS.out.drew
        clear HS; have HS := aM hs; clear hs
        refine start_ (n := 10) (S := fun w' => w'.cell? ⟨gt, 1, none⟩ = some (.slice A6 N.length c6) ∧ w'.cell? ⟨gp, 0, none⟩ = some (.pointer (some ⟨gr, 0, none⟩))) (ds := [7, 9]) #[false, false, false, false, false, false, false, false, false, false] (by kernel_rfl) rfl rfl ⟨((HS.out.box 3 rfl).cell 1 rfl), ((HS.out.box 2 rfl).cell 0 rfl)⟩ (fun hHeld => ?_)
        refine pure_ (i := 0) (N := some 70) (v := ?_) (a' := ?_) (bv 10 1) rfl rfl (by kernel_rfl) (fun _ _ _ h => h) (Or.inl ⟨by rfl, ?_⟩) ?_ ?_
        rotate_left
        ·intro w'
         go_simp
         with_reducible rfl
        rotate_left
        ·simp only [Act.put, qA, qB, qC, i64_w, i32_w]
         rfl
        refine pure_ (i := 3) (N := some 73) (v := ?_) (a' := ?_) (bv 10 9) rfl rfl (by kernel_rfl) (fun _ _ _ h => h) (Or.inl ⟨by rfl, ?_⟩) ?_ ?_
        rotate_left
        ·intro w'
         go_simp
         with_reducible rfl
        rotate_left
        ·simp only [Act.put, qA, qB, qC, i64_w, i32_w]
         rfl
        refine pure_ (i := 4) (N := some 74) (v := ?_) (a' := ?_) (bv 10 25) rfl rfl (by kernel_rfl) (fun _ _ _ h => h) (Or.inl ⟨by rfl, ?_⟩) ?_ ?_
        rotate_left
        ·intro w'
         go_simp
         with_reducible rfl
        rotate_left
        ·simp only [Act.put, qA, qB, qC, i64_w, i32_w]
         rfl
        refine take_ (i := 1) (N := some 71) (v := ?_) (a' := ?_) (bv 10 27) rfl rfl (by kernel_rfl) (fun _ _ _ h => h) (Or.inl ⟨by rfl, ?_⟩) hHeld ?_ ?_
        rotate_left
        ·rintro w' ⟨s0, s1⟩
         go_simp
         with_reducible rfl
        rotate_left
        ·simp only [Act.put, qA, qB, qC, i64_w, i32_w]
         rfl
        refine take_ (i := 2) (N := some 72) (v := ?_) (a' := ?_) (bv 10 31) rfl rfl (by kernel_rfl) (fun _ _ _ h => h) (Or.inl ⟨by rfl, ?_⟩) hHeld ?_ ?_
        rotate_left
        ·rintro w' ⟨s0, s1⟩
         go_simp
         with_reducible rfl
        rotate_left
        ·simp only [Act.put, qA, qB, qC, i64_w, i32_w]
         rfl
        refine one_ (i := 5) (N := some 75) (bv 10 63) rfl rfl (by kernel_rfl) (by decide) (fun K hK => ?_)
        refine goes_ Tryz.func29 (by kernel_rfl) rfl #[.pointer (some ⟨gr, 0, none⟩), .int .i64 (k : Int), .func (.func 33) #[] #[.pointer (some ⟨gp, 0, none⟩)]] (by rfl) rfl rfl (by simp only [List.map_toArray, List.map_cons, List.map_nil]; rfl) ?_
        refine (row2_calls X w _ _ 1 2 gr gp _ ra k HS.out (by decide) rfl rfl HB5.out HUA.out (by omega)).mono ?_
        rintro e wy ⟨v9, rfl, vb6, hb6, hs⟩
        refine ⟨_, rfl, ?_⟩
        rw [HQB.out] at hb6 hs
        have HB6 := aM hb6
        clear hb6
        obtain ⟨Aw, cw, ew⟩ := hs.form 8 rfl
        subst ew
        have hs := hs.sealRo 8 rfl
        have hs : Sep X w wy [.box g2 28 [.slice none 0 0, .slice none 0 0, .slice none 0 0], .box gr 62 [vb6, .bool rb.short], .box gp 60 [.pointer (some ⟨gr, 0, none⟩)], .box gt 28 [(.slice A5 cl.length c5), (.slice A6 N.length c6), (.slice At T1.length ct)], .row kInt 3 (.slice A4 cl.length c4) cl, .row kU8 5 (.slice A5 cl.length c5) cl, .row kRow 26 (.slice A6 N.length c6) N, .row kInt 3 (.slice At T1.length ct) T1, .ro kInt (.slice Aw rw.length cw) rw] := hs
        clear HS; have HS := aM hs; clear hs
        refine hK.out _ _ ⟨((HS.out.box 3 rfl).cell 1 rfl), ((HS.out.box 2 rfl).cell 0 rfl)⟩ (fun hHeld => ?_)
        clear hK K
        refine norm_ (a' := ?_) ?_ ?_
        rotate_left
        ·show Act.put _ (some 75) _ = _
         simp only [Act.put, qA, qB, qC, i64_w, i32_w]
         rfl
        refine one_ (i := 6) (N := some 76) (bv 10 127) rfl rfl (by kernel_rfl) (by decide) (fun K hK => ?_)
        refine value_ (w1 := ?_) (v := ?_) (by rfl) rfl ?_ ?_
        rotate_left 2
        ·go_simp
         constructor
         ·rfl
         ·rfl
        have hs := HS.out.lit_ro kRow 26 (xs := [rw]) (inner := [.slice Aw rw.length cw]) (Reps.one (PK.slice (HS.out.ro 8 rfl)) (Reps.none _ _)) (by simp)
        clear HS; have HS := aM hs; clear hs
        refine hK.out _ _ ⟨((HS.out.box 3 rfl).cell 1 rfl), ((HS.out.box 2 rfl).cell 0 rfl)⟩ (fun hHeld => ?_)
        clear hK K
        refine norm_ (a' := ?_) ?_ ?_
        rotate_left
        ·show Act.put _ (some 76) _ = _
         simp only [Act.put, qA, qB, qC, i64_w, i32_w]
         rfl
        refine last_ (i := 7) (N := some 77) #[true, true, true, true, true, true, true, true, false, false] rfl rfl (by kernel_rfl) (by decide) (fun K hK => ?_)
        refine sgrow_step kRow 6 (by rfl) rfl (.tmp 71) (.tmp 76) 25 26 (.slice none 0 0) 24 rfl Tryz.underlying25 info26 rfl (by decide) (by omega) _ (.slice (some ⟨_, 0, none⟩) [rw].length [rw].length) N [rw] rfl rfl HS.out rfl (HS.out.ro 9 rfl) (by have := HNL.out; rw [lS]; omega) ?_
        intro v1 w1 hs
        obtain ⟨N1, hN1⟩ : ∃ q, q = N ++ [rw] := ⟨_, rfl⟩
        rw [← hN1] at hs
        have HZN1 := aM hN1
        clear hN1
        obtain ⟨An, cn, en⟩ := hs.form 6 rfl
        subst en
        clear HS; have HS := aM hs; clear hs
        have hs := HS.out.take 8
        clear HS; have HS := aM hs; clear hs
        have fz := (HS.out.box 3 rfl).open_ 1
        have yz := (HS.out.box 3 rfl).cell 1 rfl
        refine hK.out _ _ ?_
        clear hK K
        refine norm_ (a' := ?_) ?_ ?_
        rotate_left
        ·show Act.put _ (some 77) _ = _
         simp only [Act.put, qA, qB, qC, i64_w, i32_w]
         rfl
        refine pure_ (i := 8) (N := some 78) (v := ?_) (a' := ?_) (bv 10 511) rfl rfl (by kernel_rfl) (fun _ _ _ h => h) (Or.inl ⟨by rfl, ?_⟩) ?_ ?_
        rotate_left
        ·intro w'
         go_simp
         with_reducible rfl
        rotate_left
        ·simp only [Act.put, qA, qB, qC, i64_w, i32_w]
         rfl
        refine last_ (i := 9) (N := none) #[true, true, true, true, true, true, true, true, true, true] rfl rfl (by kernel_rfl) (by decide) (fun K hK => ?_)
        refine skip_ (w1 := ?_) (by rfl) rfl ?_ ?_
        rotate_left
        ·go_simp
         rfl
        have hs := HS.out.set_box 3 rfl 1 (.slice An N1.length cn)
        clear HS; have HS := aM hs; clear hs
        refine hK.out _ _ ?_
        clear hK K
        refine done_ (by kernel_rfl) ?_
        have y2 := (HS.out.box 2 rfl).cell 0 rfl
        have y4 := (HS.out.box 1 rfl).cell 1 rfl
        have HT1 := aM (show T1.length = i + 1 ∧ N1.length = i + 1 by rw [HZT1.out, HZN1.out, lA, lA, lS, lS]; have := HNT.out; omega)
        have HST4 := HST3.out
        rw [← HZT1.out, ← HZN1.out] at HST4
        clear HST3
        cases hsh : rb.short
        case true =>
         rw [hsh] at y4
         rw [if_pos hsh] at HST4
         have HX := aM HST4
         have HSH := aM hsh
         clear HST4 hsh
         go_wp2_with fail
         go_meet
         case rel => exact ⟨N1, T1, rb, _, _, _, HX, HS⟩
        case false =>
         rw [hsh] at y4
         rw [if_neg (by rw [hsh]; decide)] at HST4
         have HX := aM HST4
         clear HST4 hsh
         go_wp2_with fail
         go_roundg k1
         case measure => omega
         case rel => exact ⟨i + 1, N1, T1, rb, _, _, _, by go_num, ⟨by have := HJ.out; omega⟩, HT1, HUB, HB6, HX, HS⟩
     case rest =>
      clear HS HST
      obtain ⟨N, T, r3, vb4, vN, vT, HX, HS⟩ := hcut
      obtain ⟨A6, c6, e6⟩ := HS.out.form 6 rfl
      subst e6
      obtain ⟨A8, c8, e8⟩ := HS.out.form 7 rfl
      subst e8
      have hs := ((HS.out.sealRo 5 rfl).sealRo 6 rfl).sealRo 7 rfl
      clear HS
      have HS := aM (show Sep X w wc [.box g2 28 [.slice none 0 0, .slice none 0 0, .slice none 0 0], .box gr 62 [vb4, .bool r3.short], .box gp 60 [.pointer (some ⟨gr, 0, none⟩)], .box gt 28 [(.slice A5 cl.length c5), (.slice A6 N.length c6), (.slice A8 T.length c8)], .row kInt 3 (.slice A4 cl.length c4) cl, .ro kU8 (.slice A5 cl.length c5) cl, .ro kRow (.slice A6 N.length c6) N, .ro kInt (.slice A8 T.length c8) T] from hs)
      clear hs
      obtain ⟨⟨eb, ec⟩, hen⟩ : ∃ p, p = encR cl N T := ⟨_, rfl⟩
      have HEN := aM hen.symm
      have HEU := aM (show U8s eb by have h := encR_u8 HCU.out.1 N T; rw [← hen] at h; exact h)
      have hec : ec = 0 ∨ ec = 1 := by
       have h : ec = (encR cl N T).2 := by rw [← hen]
       rw [h]
       unfold encR
       split
       ·exact .inl rfl
       ·exact .inr rfl
      have HE2 := aM (show r = if r3.short = false ∧ ec = 0 ∧ eb = b then ((cl, N, T), 0) else noTable by rw [HE.out, ← HX.out]; unfold decEnd; dsimp only; rw [← hen])
      clear HE HX hen
      have z0 := (HS.out.box 3 rfl).cell 0 rfl
      have z1 := (HS.out.box 3 rfl).cell 1 rfl
      have z2 := (HS.out.box 3 rfl).cell 2 rfl
      go_upto_region 21 with (first
       | (go_at_call 6; (refine (encode_calls (Ys X _) _ _ _ cl N T _ HS.out.lt (HS.out.ro 5 rfl) (HS.out.ro 6 rfl) (HS.out.ro 7 rfl) HCU.out.1).mono ?_); rintro eq wq ⟨vq, rfl, hs2⟩; rw [HEN.out] at hs2 ⊢; have hs := HS.out.append hs2; obtain ⟨Aq, cq, eq2⟩ := hs.form 8 rfl; subst eq2; have hs := hs.sealRo 8 rfl; clear HS hs2 z0 z1 z2; have HS := aM (show Sep X w wq [.box g2 28 [.slice none 0 0, .slice none 0 0, .slice none 0 0], .box gr 62 [vb4, .bool r3.short], .box gp 60 [.pointer (some ⟨gr, 0, none⟩)], .box gt 28 [(.slice A5 cl.length c5), (.slice A6 N.length c6), (.slice A8 T.length c8)], .row kInt 3 (.slice A4 cl.length c4) cl, .ro kU8 (.slice A5 cl.length c5) cl, .ro kRow (.slice A6 N.length c6) N, .ro kInt (.slice A8 T.length c8) T, .ro kU8 (.slice Aq eb.length cq) eb] from hs); clear hs))
      have y2 := (HS.out.box 2 rfl).cell 0 rfl
      have y4 := (HS.out.box 1 rfl).cell 1 rfl
      cases hsh : r3.short
      case true =>
       rw [hsh] at y4
       have HE := aM (show r = noTable by rw [HE2.out, if_neg (fun h => by have h1 := h.1; rw [hsh] at h1; cases h1)])
       clear HE2 hsh
       go_upto_if 102 with fail
       clear y2 y4
       have x0 := (HS.out.box 0 rfl).cell 0 rfl
       have x1 := (HS.out.box 0 rfl).cell 1 rfl
       have x2 := (HS.out.box 0 rfl).cell 2 rfl
       have f0 := (HS.out.box 0 rfl).open_ 0
       have f1 := (HS.out.box 0 rfl).open_ 1
       have f2 := (HS.out.box 0 rfl).open_ 2
       go_wp2_with fail
       have HSF := aM (((HS.out.set_box 0 rfl 0 (.slice none 0 0)).set_box 0 rfl 1 (.slice none 0 0)).set_box 0 rfl 2 (.slice none 0 0))
       rw [Exit.noGoto_ret]
       refine bodyPost_ret (results_ct rfl _ _ g2 28 #[.slice none 0 0, .slice none 0 0, .slice none 0 0] (0, 0) _ rfl (HSF.out.box 0 rfl) Tryz.underlying28 rfl (by kernel_rfl)) rfl ?_
       rw [HE.out]
       exact ⟨_, _, _, rfl, PV.nil _ _ _, PV.nil _ _ _, PV.nil _ _ _, HSF.out.below⟩
      case false =>
       rw [hsh] at y4
       rcases hec with rfl | rfl
       case inr =>
        have HE := aM (show r = noTable by rw [HE2.out, if_neg (fun h => by have h1 := h.2.1; cases h1)])
        clear HE2 hsh
        go_upto_if 102 with fail
        clear y2 y4
        have x0 := (HS.out.box 0 rfl).cell 0 rfl
        have x1 := (HS.out.box 0 rfl).cell 1 rfl
        have x2 := (HS.out.box 0 rfl).cell 2 rfl
        have f0 := (HS.out.box 0 rfl).open_ 0
        have f1 := (HS.out.box 0 rfl).open_ 1
        have f2 := (HS.out.box 0 rfl).open_ 2
        go_wp2_with fail
        have HSF := aM (((HS.out.set_box 0 rfl 0 (.slice none 0 0)).set_box 0 rfl 1 (.slice none 0 0)).set_box 0 rfl 2 (.slice none 0 0))
        rw [Exit.noGoto_ret]
        refine bodyPost_ret (results_ct rfl _ _ g2 28 #[.slice none 0 0, .slice none 0 0, .slice none 0 0] (0, 0) _ rfl (HSF.out.box 0 rfl) Tryz.underlying28 rfl (by kernel_rfl)) rfl ?_
        rw [HE.out]
        exact ⟨_, _, _, rfl, PV.nil _ _ _, PV.nil _ _ _, PV.nil _ _ _, HSF.out.below⟩
       case inl =>
        obtain ⟨q, hq⟩ : ∃ q, q = decide (eb = b) := ⟨_, rfl⟩
        have HQ := aM hq.symm
        have HSH := aM hsh
        clear hq hsh
        go_upto_if 102 with (first
         | (go_at_call 34; (refine (bequal_calls (Ys X _) _ _ eb b _ (HS.out.ro 8 rfl) (HS.out.arg H1.out) HEU.out HU.out).mono ?_); rintro e9 w9 ⟨rfl, rfl⟩; rw [HQ.out]))
        clear y2 y4
        cases q
        case false =>
         have HE := aM (show r = noTable by rw [HE2.out, if_neg (fun h => of_decide_eq_false HQ.out h.2.2)])
         clear HE2
         have x0 := (HS.out.box 0 rfl).cell 0 rfl
         have x1 := (HS.out.box 0 rfl).cell 1 rfl
         have x2 := (HS.out.box 0 rfl).cell 2 rfl
         have f0 := (HS.out.box 0 rfl).open_ 0
         have f1 := (HS.out.box 0 rfl).open_ 1
         have f2 := (HS.out.box 0 rfl).open_ 2
         go_wp2_with fail
         have HSF := aM (((HS.out.set_box 0 rfl 0 (.slice none 0 0)).set_box 0 rfl 1 (.slice none 0 0)).set_box 0 rfl 2 (.slice none 0 0))
         rw [Exit.noGoto_ret]
         refine bodyPost_ret (results_ct rfl _ _ g2 28 #[.slice none 0 0, .slice none 0 0, .slice none 0 0] (0, 0) _ rfl (HSF.out.box 0 rfl) Tryz.underlying28 rfl (by kernel_rfl)) rfl ?_
         rw [HE.out]
         exact ⟨_, _, _, rfl, PV.nil _ _ _, PV.nil _ _ _, PV.nil _ _ _, HSF.out.below⟩
        case true =>
         have HE := aM (show r = ((cl, N, T), 0) by rw [HE2.out, if_pos ⟨HSH.out, by trivial, of_decide_eq_true HQ.out⟩])
         clear HE2
         have x0 := (HS.out.box 0 rfl).cell 0 rfl
         have x1 := (HS.out.box 0 rfl).cell 1 rfl
         have x2 := (HS.out.box 0 rfl).cell 2 rfl
         have f0 := (HS.out.box 0 rfl).open_ 0
         have f1 := (HS.out.box 0 rfl).open_ 1
         have f2 := (HS.out.box 0 rfl).open_ 2
         have z0 := (HS.out.box 3 rfl).cell 0 rfl
         have z1 := (HS.out.box 3 rfl).cell 1 rfl
         have z2 := (HS.out.box 3 rfl).cell 2 rfl
         go_wp2_with fail
         have HSF := aM (((HS.out.set_box 0 rfl 0 (.slice A5 cl.length c5)).set_box 0 rfl 1 (.slice A6 N.length c6)).set_box 0 rfl 2 (.slice A8 T.length c8))
         rw [Exit.noGoto_ret]
         refine bodyPost_ret (results_ct rfl _ _ g2 28 #[(.slice A5 cl.length c5), .slice A6 N.length c6, .slice A8 T.length c8] (0, 0) _ rfl (HSF.out.box 0 rfl) Tryz.underlying28 rfl (by kernel_rfl)) rfl ?_
         rw [HE.out]
         exact ⟨_, _, _, rfl, HSF.out.res 5 rfl, HSF.out.res 6 rfl, HSF.out.res 7 rfl, HSF.out.below⟩
end Go.Proofs.YtplhfgobeicegaaGreatDoor.P
