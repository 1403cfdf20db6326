/- Part 27 of the proof: T14, V14p, V14, PX9. -/
import Derived.Test.YtplhfgobeicegaaGreatDoorPe26
namespace Go.Proofs.YtplhfgobeicegaaGreatDoor.P
open Go Go.RowKit Go.Proofs.YtplhfgobeicegaaGreatDoorW.PrintWords Go.Proofs.YtplhfgobeicegaaGreatDoorW.PrintLast Go.Proofs.YtplhfgobeicegaaGreatDoorW.PrintMore Go.Proofs.YtplhfgobeicegaaGreatDoor.PX
set_option linter.unusedVariables false
set_option linter.unusedSimpArgs false
set_option maxRecDepth 100000
theorem PV.form2 {α : Type} {d : Kd α} {X : Nat → Prop} {w : World} {v : Value} {xs : List α} (h : PV d X w v xs) : ∃ A c, v = .slice A xs.length c := by
 obtain ⟨A, c, e, _⟩ := h
 exact ⟨A, c, e⟩
theorem of13_K (parts : List (List Sp)) (next : List (List Int)) (tags : List Int) (h15 : parts.length ≤ 15) (h9 : tags.length ≤ 9) (hp : SoundP parts next tags → ∀ p ∈ (leastL parts next tags).parts, PartP p) :
  ∃ K, SoundP parts next tags → ¬ longD (leastL parts next tags) → Of13Ok (leastL parts next tags) 40000 K := by
 by_cases h : SoundP parts next tags ∧ ¬ longD (leastL parts next tags)
 ·obtain ⟨⟨K, hK⟩, _⟩ := of13_good parts next tags h.1 h.2 h15 h9 (hp h.1)
  exact ⟨K, fun _ _ => hK⟩
 ·exact ⟨fun _ => True, fun a b => absurd ⟨a, b⟩ h⟩
theorem of13_sound (parts : List (List Sp)) (next : List (List Int)) (tags : List Int) (h15 : parts.length ≤ 15) (h9 : tags.length ≤ 9) (hp : SoundP parts next tags → ∀ p ∈ (leastL parts next tags).parts, PartP p) (h : (of13 40000 parts next tags).2 = 0) : BSound (of13 40000 parts next tags).1.1 (of13 40000 parts next tags).1.2 := by
 unfold of13 at h ⊢
 by_cases h1 : SoundP parts next tags
 ·rw [if_pos h1] at h ⊢
  by_cases h2 : longD (leastL parts next tags)
  ·rw [if_pos h2] at h; cases h
  ·rw [if_neg h2]
   exact (of13_good parts next tags h1 h2 h15 h9 (hp h1)).2
 ·rw [if_neg h1] at h; cases h
theorem of13_err (B : Nat) (parts : List (List Sp)) (next : List (List Int)) (tags : List Int) : (of13 B parts next tags).2 = 0 ∨ (of13 B parts next tags).2 = 1 ∨ (of13 B parts next tags).2 = 63 := by
 unfold of13
 split
 ·split
  ·exact .inr (.inr rfl)
  ·exact .inl rfl
 ·exact .inr (.inl rfl)
theorem dfa_tags (c : List (List Int)) (k : Int) (next tags : List Int) (hk : 0 ≤ k ∧ k < 256) : (dfa11 c k next tags).tags.length ≤ 9 := by
 show ((List.range (1 + k % 9).toNat).map (tag11 tags)).length ≤ 9
 rw [List.length_map, List.length_range]
 omega
theorem none_sound : SoundP [] [[]] [-1] := by decide +kernel
theorem none_parts : ∀ p ∈ (leastL [] [[]] [-1]).parts, PartP p := by
 have h := (least_parts [] [[]] [-1]).2
 have h2 : (bareP ([] : List (List Sp))).length = 0 := rfl
 intro p hp
 have h3 := List.length_pos_of_mem hp
 omega
theorem none_uni : UniOk (bareP ([] : List (List Sp))) := by
 intro g h1 h2 h3
 have h4 : (bareP ([] : List (List Sp))).length = 0 := rfl
 omega
theorem none_long : ¬ longD (leastL [] [[]] [-1]) := by
 have hok := sound_ok12 none_sound
 have hlr := least_rows [] [[]] [-1]
 have hle := least_le [] [[]] [-1] hok rfl (by decide)
 have h := (least_parts [] [[]] [-1]).2
 have h2 : (bareP ([] : List (List Sp))).length = 0 := rfl
 generalize leastL [] [[]] [-1] = d at *
 unfold longD
 have h3 : d.parts.length = 0 := by omega
 rw [List.length_eq_zero_iff.1 h3]
 have h4 : d.next.length ≤ 1 := hle.1
 show ¬ (100 < d.tags.length ∨ 100 < 0)
 omega
def b14 (c : List (List Int)) (k : Int) (next tags : List Int) : List (List Int) × List Int :=
 if (of13 40000 (dfa11 c k next tags).parts (dfa11 c k next tags).next (dfa11 c k next tags).tags).2 = 0 then (of13 40000 (dfa11 c k next tags).parts (dfa11 c k next tags).next (dfa11 c k next tags).tags).1 else (of13 40000 [] [[]] [-1]).1
theorem none_of : (of13 40000 [] [[]] [-1]).2 = 0 := by
 unfold of13
 rw [if_pos none_sound, if_neg none_long]
theorem b14_sound (c : List (List Int)) (k : Int) (next tags : List Int) (hk : 0 ≤ k ∧ k < 256) : BSound (b14 c k next tags).1 (b14 c k next tags).2 := by
 have h9 := dfa_tags c k next tags hk
 have h15 := (dfa_parts c k next tags).2
 have hp := fun hs => (dfa_uni c k next tags hs).2.1
 unfold b14
 generalize dfa11 c k next tags = d at *
 split
 ·next h => exact of13_sound d.parts d.next d.tags h15 h9 hp h
 ·exact of13_sound [] [[]] [-1] (by decide) (by decide) (fun _ => none_parts) none_of
set_option maxHeartbeats 16000000 in
theorem bytes14_calls (X : Nat → Prop) (v0 v2 v3 : Value) (c : List (List Int)) (k : Int) (next tags : List Int) (w : World) (hX : ∀ k, X k → k < w.heap.size) (h0 : PV kU16s X w v0 c) (h2 : PV (Kd.int .i8) X w v2 next) (h3 : PV (Kd.int .i8) X w v3 tags)
  (hc : ∀ l ∈ c, ∀ x ∈ l, 0 ≤ x ∧ x < 65536) (hk : 0 ≤ k ∧ k < 256) (hn : ∀ x ∈ next, -128 ≤ x ∧ x ≤ 127) (ht : ∀ x ∈ tags, -128 ≤ x ∧ x ≤ 127) :
  Calls Tryz.prog 14 #[v0, .int .u8 k, v2, v3] w fun e w' => ∃ vn vt, e = .returned (.agg #[vn, vt]) ∧ PV kRow X w' vn (b14 c k next tags).1 ∧ PV kInt X w' vt (b14 c k next tags).2 ∧ Below w.heap.size w w' := by
 have H0 := aM h0
 have H2 := aM h2
 have H3 := aM h3
 have HC := aM hc
 have HK := aM hk
 have HRN := aM hn
 have HRT := aM ht
 have HP := aM (dfa_parts c k next tags)
 have HU := aM (fun hs => dfa_uni c k next tags hs)
 obtain ⟨K, hK⟩ := of13_K (dfa11 c k next tags).parts (dfa11 c k next tags).next (dfa11 c k next tags).tags (dfa_parts c k next tags).2 (dfa_tags c k next tags hk) (fun hs => (dfa_uni c k next tags hs).2.1)
 have HOK := aM hK
 obtain ⟨K2, hK2⟩ := of13_K [] [[]] [-1] (by decide) (by decide) (fun _ => none_parts)
 have HOK2 := aM hK2
 have HS := aM ((Sep.start hX).push_box [.slice none 0 0, .slice none 0 0] 49)
 obtain ⟨g0, hg0⟩ : ∃ g, g = w.heap.size := ⟨_, rfl⟩
 obtain ⟨res, hres⟩ : ∃ r, r = b14 c k next tags := ⟨_, rfl⟩
 rw [← hres]
 obtain ⟨⟨⟨rn, rt⟩, re⟩, hr⟩ : ∃ r, r = of13 40000 (dfa11 c k next tags).parts (dfa11 c k next tags).next (dfa11 c k next tags).tags := ⟨_, rfl⟩
 have HR := aM hr.symm
 have HRE := aM (show re = 0 ∨ re = 1 ∨ re = 63 by have := of13_err 40000 (dfa11 c k next tags).parts (dfa11 c k next tags).next (dfa11 c k next tags).tags; rw [← hr] at this; exact this)
 have HRES := aM (show res = if re = 0 then (rn, rt) else (of13 40000 [] [[]] [-1]).1 by rw [hres, b14, ← hr])
 obtain ⟨⟨⟨sn, st⟩, se⟩, hs2⟩ : ∃ r, r = of13 40000 [] [[]] [-1] := ⟨_, rfl⟩
 have HR2 := aM hs2.symm
 rw [← hs2] at HRES
 clear h0 h2 h3 hc hn ht hX hK hK2 hr hres hs2
 go_enter Tryz.func14, Tryz.ntmps14
 go_upto_if 21 with (first
  | (go_at_call 41; (with_reducible refine (dfa11_calls _ _ _ _ c k next tags _ HS.out.lt (HS.out.arg H0.out) (HS.out.arg H2.out) (HS.out.arg H3.out) HC.out HK.out HRN.out HRT.out).mono ?_); rintro ee w5 ⟨vp, vn, vt, rfl, h0, h1, h2, hb⟩; have hs := ((HS.out.push_ro hb h0).push_ro (Below.refl _ _) (h1.to (fun _ _ h => Ys_ro h))).push_ro (Below.refl _ _) (h2.to (fun _ _ h => Ys_ro (Ys_ro h))); simp only [List.nil_append, List.cons_append] at hs; clear h0 h1 h2 hb; clear HS; have HS := aM hs; clear hs)
  | (go_at_call 40; (with_reducible refine (of13_calls _ _ _ _ _ _ _ _ HS.out.lt (HS.out.ro 1 rfl) (HS.out.ro 2 rfl) (HS.out.ro 3 rfl) (fun p hp => ⟨(HP.out.1.sm hp).1, by have := (HP.out.1.sm hp).2; omega⟩) (fun hs => ⟨(HU.out hs).1, (HU.out hs).2.1, by have := (HU.out hs).2.2; omega⟩) 40000 (by decide) K HOK.out).mono ?_); rintro ee w6 ⟨v0, v1, rfl, h0, h1, hb⟩; rw [HR.out] at h0 h1 ⊢; obtain ⟨A6, c6, e6⟩ := PV.form2 h0; subst e6; obtain ⟨A7, c7, e7⟩ := PV.form2 h1; subst e7; have hgw := Nat.lt_of_lt_of_le (HS.out.box 0 rfl).lt hb.size; have hs := ((HS.out.push_ro hb h0).push_ro (Below.refl _ _) (h1.to (fun _ _ h => Ys_ro h))).push_box [.slice A6 rn.length c6, .slice A7 rt.length c7] 49; simp only [List.nil_append, List.cons_append] at hs; clear h0 h1 hb; clear HS; have HS := aM hs; clear hs))
 obtain ⟨g1, hg1⟩ : ∃ g, g = w6.heap.size := ⟨_, rfl⟩
 rw [← hg0, ← hg1] at HS ⊢
 have hgg : g0 ≠ g1 := by omega
 have hgg' : g1 ≠ g0 := by omega
 clear hg0 hg1 hgw
 have x0 := ((HS.out.box 6 rfl).cell 0 rfl)
 have x1 := ((HS.out.box 6 rfl).cell 1 rfl)
 have z0 := ((HS.out.box 0 rfl).cell 0 rfl)
 have z1 := ((HS.out.box 0 rfl).cell 1 rfl)
 have f0 := (HS.out.box 0 rfl).open_ 0
 have f1 := (HS.out.box 0 rfl).open_ 1
 rcases HRE.out with rfl | hne
 case inl =>
  have HE := aM (show res = (rn, rt) by rw [HRES.out, if_pos rfl])
  clear HRES HRE
  go_wp2_with fail
  have HSF := aM ((HS.out.set_box 0 rfl 0 (.slice A6 rn.length c6)).set_box 0 rfl 1 (.slice A7 rt.length c7))
  refine bodyPost_ret (results_cell_row rfl _ _ g0 49 #[.slice A6 rn.length c6, .slice A7 rt.length c7] (0, 0) _ rfl (HSF.out.box 0 rfl) Tryz.underlying49 rfl (by kernel_rfl)) rfl ?_
  rw [HE.out]
  exact ⟨_, _, rfl, HSF.out.res 4 rfl, HSF.out.res 5 rfl, HSF.out.below⟩
 case inr =>
  have HE := aM (show res = (sn, st) by rw [HRES.out, if_neg (by omega)])
  have h0 : (re != 0) = true := by simp; omega
  clear HRES HRE hne x0 x1 z0 z1 f0 f1
  rw [h0]
  clear h0
  go_wp2_with (first
   | ((with_reducible refine gate_dst (N := 23) rfl ?_); refine slit kRow 26 ?hg (N := 23) ?hd (xs := [([] : List Int)]) (inner := [.slice none 0 0]) ?hr HS.out ?hp (by simp) ?_; (case hd => rfl); (case hg => rfl); (case hr => first | (go_simp; done) | (go_simp; rfl)); (case hp => exact Reps.one (PK.slice (PV.nil _ _ _)) (Reps.none _ _)); clear HS; intro v30 w30 hs; simp only [List.nil_append, List.cons_append] at hs; obtain ⟨B0, d0, e0⟩ := hs.rform 7 rfl; subst e0; have HS := aM hs; clear hs)
   | ((with_reducible refine gate_dst (N := 24) rfl ?_); refine slit kInt 3 ?hg (N := 24) ?hd (xs := [(-1 : Int)]) (inner := [.int .i64 (-1)]) ?hr HS.out ?hp (by simp) ?_; (case hd => rfl); (case hg => rfl); (case hr => first | (go_simp; done) | (go_simp; rfl)); (case hp => exact Reps.one (PK.scalar _) (Reps.none _ _)); clear HS; intro v31 w31 hs; simp only [List.nil_append, List.cons_append] at hs; obtain ⟨B1, d1, e1⟩ := hs.rform 8 rfl; subst e1; have HS := aM hs; clear hs)
   | (go_at_call 40; (refine (of13_calls _ _ _ _ [] [[]] [-1] _ HS.out.lt (PV.nil _ _ _) (HS.out.ro 7 rfl) (HS.out.ro 8 rfl) (fun p hp => by cases hp) (fun hs => ⟨none_uni, none_parts, by have h1 := (least_parts [] [[]] [-1]).2; have h2 : (bareP ([] : List (List Sp))).length = 0 := rfl; omega⟩) 40000 (by decide) K2 HOK2.out).mono ?_); rintro ee w7 ⟨v0, v1, rfl, h0, h1, hb⟩; rw [HR2.out] at h0 h1 ⊢; obtain ⟨A8, c8, e8⟩ := PV.form2 h0; subst e8; obtain ⟨A9, c9, e9⟩ := PV.form2 h1; subst e9; have hs := ((HS.out.push_ro hb h0).push_ro (Below.refl _ _) (h1.to (fun _ _ h => Ys_ro h))); simp only [List.nil_append, List.cons_append] at hs; clear h0 h1 hb; have y0 := (hs.box 6 rfl).open_ 0; have y1 := (hs.box 6 rfl).open_ 1; have x0 := (hs.box 6 rfl).cell 0 rfl; have x1 := (hs.box 6 rfl).cell 1 rfl; have z0 := (hs.box 0 rfl).cell 0 rfl; have z1 := (hs.box 0 rfl).cell 1 rfl; have f0 := (hs.box 0 rfl).open_ 0; have f1 := (hs.box 0 rfl).open_ 1; clear HS; have HS := aM hs; clear hs))
  have HSF := aM ((((HS.out.set_box 6 rfl 0 (.slice A8 sn.length c8)).set_box 6 rfl 1 (.slice A9 st.length c9)).set_box 0 rfl 0 (.slice A8 sn.length c8)).set_box 0 rfl 1 (.slice A9 st.length c9))
  refine bodyPost_ret (results_cell_row rfl _ _ g0 49 #[.slice A8 sn.length c8, .slice A9 st.length c9] (0, 0) _ rfl (HSF.out.box 0 rfl) Tryz.underlying49 rfl (by kernel_rfl)) rfl ?_
  rw [HE.out]
  exact ⟨_, _, rfl, HSF.out.res 9 rfl, HSF.out.res 10 rfl, HSF.out.below⟩
end Go.Proofs.YtplhfgobeicegaaGreatDoor.P
namespace Go.Proofs.YtplhfgobeicegaaGreatDoor.P
open Go Go.RowKit Go.Proofs.YtplhfgobeicegaaGreatDoorW.PrintWords Go.Proofs.YtplhfgobeicegaaGreatDoor.PX
set_option linter.unusedVariables false
set_option maxRecDepth 100000
def t15 (c : List (List Int)) (k : Int) (next tags : List Int) : List Int × List (List Int) × List Int := (of14 (b14 c k next tags).1 (b14 c k next tags).2).1
def eC : List Int := List.replicate 256 0
def eN : List (List Int) := [[-1]]
def eT : List Int := [-1]
theorem e_table : t15 [] 0 [] [] = (eC, eN, eT) := by decide +kernel
theorem e_sum0 : sumL [] = 2166136261 := by decide +kernel
theorem e_suma : sumL [97] = 3826002220 := by decide +kernel
def eB : List Int := (encR eC eN eT).1
theorem e_enc2 : (encR eC eN eT).2 = 0 := by decide +kernel
theorem e_enc : encR eC eN eT = (eB, 0) := Prod.ext rfl e_enc2
theorem e_len : eB.length = 18 := by decide +kernel
theorem e_head : eB.getD 0 0 = 71 := by decide +kernel
theorem e_dec : decF eB = ((eC, eN, eT), 0) := by decide +kernel
theorem e_dec0 : decF [] = noTable := by decide +kernel
theorem e_enc0 : encR [] [] [] = ([], 1) := by decide +kernel
theorem e_u8 : U8s eC := by unfold U8s; decide +kernel
theorem eB_u8 : U8s eB := encR_u8 e_u8 eN eT
end Go.Proofs.YtplhfgobeicegaaGreatDoor.P
namespace Go.Proofs.YtplhfgobeicegaaGreatDoor.P
open Go Go.RowKit Go.Proofs.YtplhfgobeicegaaGreatDoorW.PrintWords Go.Proofs.YtplhfgobeicegaaGreatDoorW.PrintLast Go.Proofs.YtplhfgobeicegaaGreatDoorW.PrintMore Go.Proofs.YtplhfgobeicegaaGreatDoor.PX
set_option linter.unusedVariables false
set_option linter.unusedSimpArgs false
set_option maxRecDepth 100000
set_option maxHeartbeats 16000000 in
theorem table15_calls (X : Nat → Prop) (v0 v2 v3 : Value) (c : List (List Int)) (k : Int) (next tags : List Int) (w : World) (hX : ∀ k, X k → k < w.heap.size) (h0 : PV kU16s X w v0 c) (h2 : PV (Kd.int .i8) X w v2 next) (h3 : PV (Kd.int .i8) X w v3 tags)
  (hc : ∀ l ∈ c, ∀ x ∈ l, 0 ≤ x ∧ x < 65536) (hk : 0 ≤ k ∧ k < 256) (hn : ∀ x ∈ next, -128 ≤ x ∧ x ≤ 127) (ht : ∀ x ∈ tags, -128 ≤ x ∧ x ≤ 127) :
  Calls Tryz.prog 5 #[v0, .int .u8 k, v2, v3] w fun e w' => ∃ a0 a1 a2, e = .returned (.agg #[a0, a1, a2]) ∧ PV kU8 X w' a0 (t15 c k next tags).1 ∧ PV kRow X w' a1 (t15 c k next tags).2.1 ∧ PV kInt X w' a2 (t15 c k next tags).2.2 ∧ Below w.heap.size w w' := by
 have H0 := aM h0
 have H2 := aM h2
 have H3 := aM h3
 have HC := aM hc
 have HK := aM hk
 have HRN := aM hn
 have HRT := aM ht
 obtain ⟨⟨N, T⟩, hb14⟩ : ∃ p, p = b14 c k next tags := ⟨_, rfl⟩
 have HBE := aM hb14.symm
 obtain ⟨⟨⟨rc, rn, rt⟩, er⟩, hr⟩ : ∃ p, p = of14 N T := ⟨_, rfl⟩
 have HR := aM hr.symm
 rw [show t15 c k next tags = (rc, rn, rt) by unfold t15; rw [← hb14]; dsimp only; rw [← hr]]
 have HS := aM ((Sep.start hX).push_box [.slice none 0 0, .slice none 0 0, .slice none 0 0] 28)
 obtain ⟨g8, hg8⟩ : ∃ g, g = w.heap.size := ⟨_, rfl⟩
 clear h0 h2 h3 hc hn ht hX hb14 hr hk
 go_enter Tryz.func5, Tryz.ntmps5
 go_upto_region 2 with (first
  | (go_at_call 14; (with_reducible refine (bytes14_calls _ _ _ _ c k next tags _ HS.out.lt (HS.out.arg H0.out) (HS.out.arg H2.out) (HS.out.arg H3.out) HC.out HK.out HRN.out HRT.out).mono ?_); rintro ee w5 ⟨v0, v1, rfl, h0, h1, hb⟩; rw [HBE.out] at h0 h1; obtain ⟨A4, c4, e4⟩ := PV.form2 h0; subst e4; obtain ⟨A5, c5, e5⟩ := PV.form2 h1; subst e5; have hs := (HS.out.push_ro hb h0).push_ro (Below.refl _ _) (h1.to (fun _ _ h => Ys_ro h)); simp only [List.nil_append, List.cons_append] at hs; clear h0 h1 hb; clear HS; have HS := aM hs; clear hs)
  | (go_at_call 13; (with_reducible refine (of14_calls _ _ _ N T _ HS.out.lt (HS.out.ro 1 rfl) (HS.out.ro 2 rfl)).mono ?_); rintro ee w7 ⟨v0, v1, v2, rfl, h0, h1, h2, hb⟩; rw [HR.out] at h0 h1 h2 ⊢; obtain ⟨A9, c9, e9⟩ := PV.form2 h0; subst e9; obtain ⟨A10, c10, e10⟩ := PV.form2 h1; subst e10; obtain ⟨A11, c11, e11⟩ := PV.form2 h2; subst e11; have hs := (((HS.out.push_ro hb h0).push_ro (Below.refl _ _) (h1.to (fun _ _ h => Ys_ro h))).push_ro (Below.refl _ _) (h2.to (fun _ _ h => Ys_ro (Ys_ro h)))).push_box [.slice A9 rc.length c9, .slice A10 rn.length c10, .slice A11 rt.length c11] 28; simp only [List.nil_append, List.cons_append] at hs; clear h0 h1 h2 hb; clear HS; have HS := aM hs; clear hs))
 rw [← hg8] at HS ⊢
 clear hg8
 have xt0 := (HS.out.box 6 rfl).cell 0 rfl
 have xt1 := (HS.out.box 6 rfl).cell 1 rfl
 have xt2 := (HS.out.box 6 rfl).cell 2 rfl
 have x0 := (HS.out.box 0 rfl).cell 0 rfl
 have x1 := (HS.out.box 0 rfl).cell 1 rfl
 have x2 := (HS.out.box 0 rfl).cell 2 rfl
 have f0 := (HS.out.box 0 rfl).open_ 0
 have f1 := (HS.out.box 0 rfl).open_ 1
 have f2 := (HS.out.box 0 rfl).open_ 2
 go_wp2_with fail
 have HSF := aM (((HS.out.set_box 0 rfl 0 (.slice A9 rc.length c9)).set_box 0 rfl 1 (.slice A10 rn.length c10)).set_box 0 rfl 2 (.slice A11 rt.length c11))
 refine bodyPost_ret (results_cell_row rfl _ _ g8 28 #[.slice A9 rc.length c9, .slice A10 rn.length c10, .slice A11 rt.length c11] (0, 0) _ rfl (HSF.out.box 0 rfl) Tryz.underlying28 rfl (by kernel_rfl)) rfl ?_
 exact ⟨_, _, _, rfl, HSF.out.res 3 rfl, HSF.out.res 4 rfl, HSF.out.res 5 rfl, HSF.out.below⟩
end Go.Proofs.YtplhfgobeicegaaGreatDoor.P
namespace Go.Proofs.YtplhfgobeicegaaGreatDoor.PX
open Go Go.RowKit Go.Proofs.YtplhfgobeicegaaGreatDoorW.PrintWords
set_option linter.unusedVariables false
theorem Ys_join {X : Nat → Prop} {L L' : List Item} {k : Nat} : Ys X (L ++ L') k ↔ Ys (Ys X L) L' k := by
 constructor
 ·rintro (hx | ⟨c, hc, hcb⟩)
  ·exact .inl (.inl hx)
  ·rcases List.mem_append.1 hc with hc | hc
   ·exact .inl (.inr ⟨c, hc, hcb⟩)
   ·exact .inr ⟨c, hc, hcb⟩
 ·rintro ((hx | ⟨c, hc, hcb⟩) | ⟨c, hc, hcb⟩)
  ·exact .inl hx
  ·exact .inr ⟨c, List.mem_append_left _ hc, hcb⟩
  ·exact .inr ⟨c, List.mem_append_right _ hc, hcb⟩
theorem Sep.append {X : Nat → Prop} {w0 w w' : World} {L L' : List Item} (h : Sep X w0 w L) (h' : Sep (Ys X L) w w' L') : Sep X w0 w' (L ++ L') := by
 have hlow : ∀ c ∈ L', ∀ k, c.blk = some k → w.heap.size ≤ k := fun c hc k hk => (Item.ok_lt (h'.ok c hc) hk).2
 refine ⟨fun it hm => ?_, List.pairwise_append.2 ⟨h.ne, h'.ne, fun a ha c hc k hk hck => ?_⟩, h.old, below_step h.below h'.below⟩
 ·rcases List.mem_append.1 hm with hL | hL
  ·refine Item.ok_step (h.ok it hL) ?_ (fun k hk => .inr ⟨it, hm, hk⟩) (.of_below h'.below) (fun k hk => h'.below.block k (Item.ok_lt (h.ok it hL) hk).1)
   rintro k hk (hx | ⟨c, hc, hcb⟩)
   ·exact .inl hx
   ·rcases List.mem_append.1 hc with hc | hc
    ·exact .inr ⟨c, hc, hcb⟩
    ·have := hlow c hc k hcb
     omega
  ·have hs := Item.ok_step (Y' := Ys X (L ++ L')) (h'.ok it hL) (fun k _ hk => Ys_join.1 hk) (fun k hk => .inr ⟨it, hm, hk⟩) (Agree.refl _ _) (fun _ _ => rfl)
   have hb := h.below.size
   cases it with
   | row d e v xs => exact Own.base_le hs hb
   | box g e vals => exact ⟨hs.1, Nat.le_trans hb hs.2⟩
   | ro d v xs => exact hs
   | obj g Pr => exact ⟨hs.1, Nat.le_trans hb hs.2⟩
 ·have := hlow c hc k hck
  have := (Item.ok_lt (h.ok a ha) hk).1
  omega
section
variable {α : Type} {d : Kd α} {e b : Nat} {X : Nat → Prop} {w w0 : World} {L : List Item}
theorem ownBlock_len (A : Option Addr) (m n c : Nat) : (Value.slice A m c).ownBlock = (Value.slice A n c).ownBlock := by cases A <;> rfl
theorem Own.cut {A : Option Addr} {n c : Nat} {xs : List α} (h : Own d e X w b (.slice A n c) xs) (m : Nat) (hm : m ≤ xs.length) : Own d e X w b (.slice A m c) (xs.take m) := by
 obtain ⟨⟨inner, ho, hr⟩, hx⟩ := h
 obtain ⟨A', c', e1⟩ := own_slice ho
 cases e1
 refine ⟨⟨inner.take (m * d.sz), by rw [List.length_take, Nat.min_eq_left hm]; exact own_take ho hm, ?_⟩, fun k hk => hx k ((ownBlock_len A m xs.length c) ▸ hk)⟩
 have hl := hr.1
 have hle : m * d.sz ≤ xs.length * d.sz := Nat.mul_le_mul_right _ hm
 refine ⟨by rw [List.length_take, List.length_take, Nat.min_eq_left hm]; omega, fun j p hj => ?_⟩
 have hjm : j < m := by
  have := (List.getElem?_eq_some_iff.1 hj).1
  rw [List.length_take] at this
  omega
 have hj2 : xs[j]? = some p := by rw [← hj, List.getElem?_take, if_pos hjm]
 have hp := hr.2 j p hj2
 have h3 : (j + 1) * d.sz ≤ m * d.sz := Nat.mul_le_mul_right _ hjm
 rw [Nat.add_mul, Nat.one_mul] at h3
 rw [List.drop_take, List.take_take, Nat.min_eq_left (by omega)]
 exact hp
end
section
variable {α : Type} {d : Kd α} {e e2 E : Nat} {X : Nat → Prop} {w w0 : World} {v : Value} {us : List SlT} {gs : List (List α)}
theorem Sep.group_ro (A : List Item) (hlen : us.length = gs.length) (h : Sep X w0 w (A ++ (.row kSl e2 v us :: rows d e us gs))) : Sep X w0 w (A ++ [.ro (Kd.slice E d) v gs]) := by
 have hA : Sep X w0 w A := h.sub (List.sublist_append_left _ _)
 have hi : (A ++ (.row kSl e2 v us :: rows d e us gs))[A.length]? = some (.row kSl e2 v us) := by rw [List.getElem?_append_right (Nat.le_refl _), Nat.sub_self]; rfl
 have hg : ∀ j, j < gs.length → (A ++ (.row kSl e2 v us :: rows d e us gs))[A.length + 1 + j]? = some (.row d e (encS (us.getD j (none, 0, 0))) (gs.getD j [])) := fun j hj => by
  rw [List.getElem?_append_right (by omega), show A.length + 1 + j - A.length = j + 1 by omega, List.getElem?_cons_succ]
  exact rows_at j hlen hj
 have ha : ∀ k, v.ownBlock = some k → ¬ Ys X A k := by
  rintro k hk (hx | ⟨c, hc, hcb⟩)
  ·have := h.old k hx
   have := (h.row _ hi).base k hk
   omega
  ·obtain ⟨j, hj, rfl⟩ := List.getElem_of_mem hc
   exact h.apart (i := j) (j := A.length) (by rw [List.getElem?_append_left hj]; exact List.getElem?_eq_getElem hj) hi (by omega) k hcb hk
 refine hA.push_ro (Below.refl _ _) ?_
 have ho := h.row _ hi
 obtain ⟨⟨inner, hown, hrep⟩, _⟩ := ho
 refine Own.sealRo (e := e2) (b := w0.heap.size) (X := Xp (Ys X A) v) ⟨⟨inner, by rw [← hlen]; exact hown, ?_⟩, fun k hk => .inr hk⟩ (fun k _ hk => .inl hk) ha
 refine ⟨by rw [hrep.1, hlen]; rfl, fun j p hj => ?_⟩
 obtain ⟨hjl, hp⟩ := List.getElem?_eq_some_iff.1 hj
 have hu := hrep.2 j (us[j]'(by omega)) (List.getElem?_eq_getElem (by omega))
 have hc3 := PK.of_scalar hu
 have hro := hg j hjl
 have hpv : PV d (Xp (Ys X A) v) w (encS (us.getD j (none, 0, 0))) (gs.getD j []) := by
  refine (h.row _ hro).sealRo ?_ ?_
  ·rintro k hk ((hx | ⟨c, hc, hcb⟩) | hx)
   ·exact .inl hx
   ·exact .inr ⟨c, List.mem_append_left _ hc, hcb⟩
   ·exact .inr ⟨_, List.mem_of_getElem? hi, hx⟩
  ·rintro k hk ((hx | ⟨c, hc, hcb⟩) | hx)
   ·have := h.old k hx
    have := (h.row _ hro).base k hk
    omega
   ·obtain ⟨j', hj', rfl⟩ := List.getElem_of_mem hc
    exact h.apart (i := j') (j := A.length + 1 + j) (by rw [List.getElem?_append_left hj']; exact List.getElem?_eq_getElem hj') hro (by omega) k hcb hk
   ·exact h.apart hi hro (by omega) k hx hk
 have e1 : gs.getD j [] = p := by rw [List.getD_eq_getElem?_getD, hj]; rfl
 have e3 : us.getD j (none, 0, 0) = us[j]'(by omega) := by simp [List.getD_eq_getElem?_getD, show j < us.length by omega]
 rw [e1, e3] at hpv
 show PK (Kd.slice E d) _ _ _ (List.take kSl.sz (List.drop (j * kSl.sz) inner))
 rw [hc3]
 exact PK.slice hpv
end
end Go.Proofs.YtplhfgobeicegaaGreatDoor.PX
