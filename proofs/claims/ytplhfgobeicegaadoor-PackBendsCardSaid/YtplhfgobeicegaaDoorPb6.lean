/- Part 6 of the proof: S10b, S10c. -/
import Derived.Test.YtplhfgobeicegaaDoorPb5
namespace Go.Proofs.YtplhfgobeicegaaDoor.P
open Go Go.RowKit Go.Proofs.YtplhfgobeicegaaDoorW.PrintWords Go.Proofs.YtplhfgobeicegaaDoorW.PrintLast Go.Proofs.YtplhfgobeicegaaDoorW.PrintMore Go.Proofs.YtplhfgobeicegaaDoor.PX
set_option linter.unusedVariables false
set_option linter.unusedSimpArgs false
set_option maxRecDepth 100000
theorem mkGo_len (a b : List Sp) (n : Int) (e : List Int) : ∀ (d i : Nat) (out : List Sp), (mkGo a b n e d i out).length ≤ out.length + d
 | 0, _, out => Nat.le_refl _
 | d + 1, i, out => by
  unfold mkGo
  have h := mkGo_len a b n e d (i + 1) (if mkBit n (mkK a b (e.getD i 0)) = 0 then out else mkOut out (e.getD i 0) (mkHi e i))
  have h2 := mkOut_len out (e.getD i 0) (mkHi e i)
  split at h
  ·rename_i c
   rw [if_pos c]
   omega
  ·rename_i c
   rw [if_neg c]
   omega
theorem make_len (a b : List Sp) (n : Int) : (makeL a b n).length ≤ 4 + 2 * a.length + 2 * b.length := by
 have h1 := mkGo_len a b n (layAll (edgesL a) (edgesL b)) (layAll (edgesL a) (edgesL b)).length 0 []
 have h2 := layAll_len (edgesL b) (edgesL a)
 have h3 := edges_len a
 have h4 := edges_len b
 unfold makeL
 simp at h1
 omega
def InS (s : Sp) : Prop := (0 ≤ s.f0 ∧ s.f0 ≤ 1114111) ∧ (-1 ≤ s.f1 ∧ s.f1 ≤ 1114111)
theorem mkHi_in (e : List Int) (i : Nat) (he : ∀ x ∈ e, 0 ≤ x ∧ x ≤ 1114111) : -1 ≤ mkHi e i ∧ mkHi e i ≤ 1114111 := by
 unfold mkHi
 have h : ∀ k, k < e.length → 0 ≤ e.getD k 0 ∧ e.getD k 0 ≤ 1114111 := fun k hk => he _ (mem_getD e 0 k hk)
 have h2 : ∀ g : Int, (-1 ≤ g ∧ g ≤ 1114111) → -1 ≤ mn g 55295 ∧ mn g 55295 ≤ 1114111 := fun g hg => by unfold mn; split <;> omega
 have h3 : -1 ≤ (if i + 1 < e.length then e.getD (i + 1) 0 - 1 else 1114111) ∧ (if i + 1 < e.length then e.getD (i + 1) 0 - 1 else 1114111) ≤ 1114111 := by
  split
  ·have := h (i + 1) (by assumption); omega
  ·omega
 split
 ·exact h2 _ h3
 ·exact h3
theorem mkOut_in (out : List Sp) (x hi : Int) (ho : ∀ s ∈ out, InS s) (hx : 0 ≤ x ∧ x ≤ 1114111) (hh : -1 ≤ hi ∧ hi ≤ 1114111) : ∀ s ∈ mkOut out x hi, InS s := by
 unfold mkOut
 split
 ·rename_i c
  intro s hs
  rcases List.mem_or_eq_of_mem_set hs with h | h
  ·exact ho s h
  ·subst h
   exact ⟨(ho _ (mem_getD out _ _ (by omega))).1, hh⟩
 ·intro s hs
  rcases List.mem_append.1 hs with h | h
  ·exact ho s h
  ·simp at h
   subst h
   exact ⟨hx, hh⟩
theorem mkGo_in (a b : List Sp) (n : Int) (e : List Int) (he : ∀ x ∈ e, 0 ≤ x ∧ x ≤ 1114111) : ∀ (d i : Nat) (out : List Sp), i + d ≤ e.length → (∀ s ∈ out, InS s) → ∀ s ∈ mkGo a b n e d i out, InS s
 | 0, _, out, _, h => h
 | d + 1, i, out, hd, h => by
  unfold mkGo
  refine mkGo_in a b n e he d (i + 1) _ (by omega) ?_
  split
  ·exact h
  ·exact mkOut_in _ _ _ h (he _ (mem_getD e 0 i (by omega))) (mkHi_in e i he)
theorem make_in (a b : List Sp) (n : Int) : ∀ s ∈ makeL a b n, InS s :=
 mkGo_in a b n _ (layAll_range _ _ (edges_range b) (edges_range a)) _ 0 [] (by omega) (by intro s hs; cases hs)
theorem InS.sm {l : List Sp} (h : ∀ s ∈ l, InS s) : Sm l := fun s hs => by have := h s hs; unfold InS at this; omega
theorem make_sm (a b : List Sp) (n : Int) : Sm (makeL a b n) := InS.sm (make_in a b n)
def cutGo (x : List Sp) (next : List (List Sp)) : List (List Sp) → List (List Sp)
 | [] => next
 | p :: t => cutGo x (some10 (some10 next (makeL p x 8)) (makeL p x 2)) t
def of10Go (out : List (List Sp)) (rest : List Sp) : List (List Sp) → List (List Sp)
 | [] => out
 | x :: t => of10Go (some10 (cutGo x [] out) (makeL rest x 8)) (makeL rest x 2) t
def of10 (l : List (List Sp)) : List (List Sp) := sortGo [] (of10Go [] [⟨0, 1114111⟩] l)
def Pt (B : Nat) (l : List (List Sp)) : Prop := ∀ p ∈ l, p.length ≠ 0 ∧ p.length ≤ B ∧ ∀ s ∈ p, InS s
theorem pt_nil (B : Nat) : Pt B [] := fun p hp => by cases hp
theorem some10_pt {B : Nat} {l : List (List Sp)} {x : List Sp} (h : Pt B l) (hx : x.length ≤ B) (hi : ∀ s ∈ x, InS s) : Pt B (some10 l x) := by
 unfold some10
 split
 ·exact h
 ·rename_i c
  intro p hp
  rcases List.mem_append.1 hp with hp | hp
  ·exact h p hp
  ·simp at hp
   subst hp
   exact ⟨c, hx, hi⟩
theorem some10_len (l : List (List Sp)) (x : List Sp) : (some10 l x).length ≤ l.length + 1 := by
 unfold some10
 split <;> simp
theorem cut_pt {B C : Nat} (x : List Sp) : ∀ (l next : List (List Sp)), Pt B l → Pt C next → 4 + 2 * B + 2 * x.length ≤ C → Pt C (cutGo x next l)
 | [], next, _, h, _ => h
 | p :: t, next, hl, h, hc => by
  have hp := (hl p List.mem_cons_self).2.1
  have m8 := make_len p x 8
  have m2 := make_len p x 2
  exact cut_pt x t _ (fun q hq => hl q (List.mem_cons_of_mem _ hq)) (some10_pt (some10_pt h (by omega) (make_in _ _ _)) (by omega) (make_in _ _ _)) hc
theorem cut_len (x : List Sp) : ∀ (l next : List (List Sp)), (cutGo x next l).length ≤ next.length + 2 * l.length
 | [], next => by simp [cutGo]
 | p :: t, next => by
  have h1 := cut_len x t (some10 (some10 next (makeL p x 8)) (makeL p x 2))
  have h2 := some10_len (some10 next (makeL p x 8)) (makeL p x 2)
  have h3 := some10_len next (makeL p x 8)
  simp [cutGo]
  omega
def bd : Nat → Nat
 | 0 => 1
 | i + 1 => 64 + 2 * bd i
def cn : Nat → Nat
 | 0 => 0
 | i + 1 => 2 * cn i + 1
theorem top_in : ([(⟨0, 1114111⟩ : Sp)].length ≤ bd 0) ∧ ∀ s ∈ [(⟨0, 1114111⟩ : Sp)], InS s := ⟨by decide, fun s hs => by simp at hs; subst hs; unfold InS; simp⟩
theorem bd_le (i : Nat) (h : i ≤ 4) : bd i ≤ 2000 ∧ cn i ≤ 15 := by
 have : i = 0 ∨ i = 1 ∨ i = 2 ∨ i = 3 ∨ i = 4 := by omega
 rcases this with rfl | rfl | rfl | rfl | rfl <;> decide
theorem cut_split (x : List Sp) (next : List (List Sp)) (l : List (List Sp)) (j : Nat) (h : j < l.length) : cutGo x next (l.drop j) = cutGo x (some10 (some10 next (makeL (l.getD j []) x 8)) (makeL (l.getD j []) x 2)) (l.drop (j + 1)) := by
 rw [drop_ats l j h, cutGo]
theorem pair_len (next : List (List Sp)) (p x : List Sp) : (some10 (some10 next (makeL p x 8)) (makeL p x 2)).length ≤ next.length + 2 := by
 have h2 := some10_len (some10 next (makeL p x 8)) (makeL p x 2)
 have h3 := some10_len next (makeL p x 8)
 omega
theorem sortGo_len : ∀ (l out : List (List Sp)), (sortGo out l).length = out.length + l.length
 | [], out => rfl
 | x :: t, out => by
  have h := sortGo_len t (ins10 x out)
  rw [ins_len] at h
  simp [sortGo]
  omega
theorem of10Go_len : ∀ (l out : List (List Sp)) (rest : List Sp) (i : Nat), out.length ≤ cn i → (of10Go out rest l).length ≤ cn (i + l.length)
 | [], out, rest, i, h => h
 | x :: t, out, rest, i, h => by
  have h1 := some10_len (cutGo x [] out) (makeL rest x 8)
  have h2 := cut_len x out []
  have h3 := of10Go_len t (some10 (cutGo x [] out) (makeL rest x 8)) (makeL rest x 2) (i + 1) (by simp [cn] at h2 ⊢; omega)
  rw [show i + (x :: t).length = i + 1 + t.length by simp; omega]
  exact h3
theorem of10_len (l : List (List Sp)) (h : l.length ≤ 4) : (of10 l).length ≤ 15 := by
 have h1 := of10Go_len l [] [⟨0, 1114111⟩] 0 (Nat.zero_le _)
 have h2 := sortGo_len (of10Go [] [⟨0, 1114111⟩] l) []
 have h3 := (bd_le (0 + l.length) (by omega)).2
 unfold of10
 rw [h2]
 simp at h1 h3 ⊢
 omega
theorem Pt.sm {B : Nat} {l : List (List Sp)} (h : Pt B l) {p : List Sp} (hp : p ∈ l) : Sm p ∧ p.length ≤ B := ⟨InS.sm (h p hp).2.2, (h p hp).2.1⟩
end Go.Proofs.YtplhfgobeicegaaDoor.P
namespace Go.Proofs.YtplhfgobeicegaaDoor.P
open Go Go.RowKit Go.Proofs.YtplhfgobeicegaaDoorW.PrintWords Go.Proofs.YtplhfgobeicegaaDoorW.PrintLast Go.Proofs.YtplhfgobeicegaaDoorW.PrintMore Go.Proofs.YtplhfgobeicegaaDoor.PX
set_option linter.unusedVariables false
set_option linter.unusedSimpArgs false
set_option maxRecDepth 100000
set_option maxHeartbeats 4000000 in
theorem of10_calls (X : Nat → Prop) (v0 : Value) (l : List (List Sp)) (w : World) (hX : ∀ k, X k → k < w.heap.size) (h0 : PV kSps X w v0 l) (hl : l.length ≤ 4) (hs : ∀ x ∈ l, Sm x ∧ x.length ≤ 30) :
  Calls Tryd.prog 48 #[v0] w fun e w' => ∃ v, e = .returned v ∧ PV kSps X w' v (of10 l) ∧ Below w.heap.size w w' := by
 have H0 := Aside0.mk h0
 have HX := Aside0.mk hX
 have HL := Aside0.mk hl
 have HSM := Aside0.mk hs
 obtain ⟨r0, hr0⟩ : ∃ r0, r0 = of10Go [] [⟨0, 1114111⟩] l := ⟨_, rfl⟩
 have HS := Aside0.mk (show of10Go [] [⟨0, 1114111⟩] (l.drop 0) = r0 from hr0.symm)
 have HR := Aside0.mk (show of10 l = sortGo [] r0 by rw [hr0]; rfl)
 obtain ⟨A0, c0, rfl, _, _⟩ := h0.now
 clear h0 hX hl hs hr0
 go_enter Tryd.func48, Tryd.ntmps48
 go_wp2_with (first
  | ((with_reducible refine gate_dst (N := 9) rfl ?_); refine lit kSp 116 (X := X) ?hg (N := 9) ?hd (xs := [(⟨0, 1114111⟩ : Sp)]) (inner := [.int .i64 0, .int .i64 1114111]) ?hr ?hp HX.out (by simp) (Below.refl _ _) (Nat.le_refl _) ?_; (case hd => rfl); (case hg => rfl); (case hr => first | (go_simp; done) | (go_simp; rfl)); (case hp => exact sp_rep _ _ 0 1114111); intro v9 w9 hv hb3 hb; have H9 := Aside0.mk hv; have HB9 := Aside0.mk hb; clear hv hb3 hb; obtain ⟨A_v9, c_v9, e_v9, _⟩ := H9.out.now; subst e_v9))
 go_loopg [3, 4, 5] l.length (fun m v3 v4 v5 w' => ∃ (i : Nat) (out : List (List Sp)) (rest : List Sp), v5 = .int .i64 i ∧ Aside0 (i + m = l.length) ∧ Aside0 (PV kSps X w' v3 out) ∧ Aside0 (PV kSp X w' v4 rest) ∧ Aside0 ((Pt (bd i) out ∧ out.length ≤ cn i) ∧ rest.length ≤ bd i ∧ ∀ s ∈ rest, InS s) ∧ Aside0 (of10Go out rest (l.drop i) = r0) ∧ Aside0 (Below w.heap.size w w'))
 case atStart => exact ⟨0, [], [⟨0, 1114111⟩], rfl, ⟨by omega⟩, ⟨PV.nil _ _ _⟩, H9, ⟨⟨pt_nil _, Nat.zero_le _⟩, top_in⟩, HS, HB9⟩
 case round =>
  clear HS H9 HB9
  obtain ⟨i, out, rest, rfl, HJ, HO, HRE, HP, HS, HB⟩ := hrel
  cases gk with
  | zero =>
   have hd : decide ((i : Int) < (l.length : Int)) = false := decide_eq_false (by have := HJ.out; omega)
   have hd2 : decide (i < l.length) = false := decide_eq_false (by have := HJ.out; omega)
   have e0 : out = r0 := by
    have := HS.out
    rw [List.drop_eq_nil_of_le (by have := HJ.out; omega)] at this
    exact this
   subst e0
   have HB1 := Aside0.mk (bd_le i (by have := HJ.out; have := HL.out; omega))
   go_wp2_with fail
   refine (sorted_calls X _ out _ (fun k hk => Nat.lt_of_lt_of_le (HX.out k hk) HB.out.size) HO.out (fun x hx => (HP.out.1.1 x hx).1) (by have := HP.out.1.2; have := HB1.out.2; omega)).mono ?_
   rintro e w3 ⟨v, rfl, hv, hb⟩
   have HV := Aside0.mk hv
   have HB3 := Aside0.mk (below_step HB.out hb)
   clear hv hb
   go_wp2_with fail
   go_ret
   exact ⟨_, rfl, by rw [HR.out]; exact HV.out, HB3.out⟩
  | succ k1 =>
   have hj : i < l.length := by have := HJ.out; omega
   have hj4 : i < 4 := by have := HL.out; omega
   obtain ⟨ax, cx, ux, ex, hux, hcx⟩ := H0.out.row i hj
   cases ex
   have HXS := Aside0.mk (HSM.out _ (mem_getD l [] i hj))
   have HBD := Aside0.mk (bd_le i (by omega))
   have HBD1 := Aside0.mk (bd_le (i + 1) (by omega))
   have HS1 := HS.out
   rw [drop_ats l i hj, of10Go] at HS1
   generalize l.getD i [] = x at *
   have HU := Aside0.mk hux
   have HC := Aside0.mk hcx
   obtain ⟨cut, hcut0⟩ : ∃ c, c = cutGo x [] out := ⟨_, rfl⟩
   rw [← hcut0] at HS1
   have HCUT := Aside0.mk (show cutGo x [] (out.drop 0) = cut from hcut0.symm)
   have HS2 := Aside0.mk HS1
   clear HS1 HS hux hcx hcut0
   obtain ⟨Ao, co, rfl, _, _⟩ := HO.out.now
   obtain ⟨Ar, cr, rfl, _, _⟩ := HRE.out.now
   have hi0 : (0 : Int) ≤ (i : Int) := by omega
   have hi1 : (i : Int) < (l.length : Int) := by omega
   go_wp2_with fail
   go_loopg [6, 7] out.length (fun m v6 v7 w' => ∃ (k : Nat) (next : List (List Sp)), v7 = .int .i64 k ∧ Aside0 (k + m = out.length) ∧ Aside0 (PV kSps X w' v6 next) ∧ Aside0 (PV kSps X w' (.slice Ao out.length co) out) ∧ Aside0 (PV kSp X w' (.slice Ar rest.length cr) rest) ∧ Aside0 (Pt (64 + 2 * bd i) next ∧ next.length ≤ 2 * k) ∧ Aside0 (cutGo x next (out.drop k) = cut) ∧ Aside0 (Below w.heap.size w w'))
   case atStart => exact ⟨0, [], rfl, ⟨by omega⟩, ⟨PV.nil _ _ _⟩, HO, HRE, ⟨pt_nil _, Nat.zero_le _⟩, HCUT, HB⟩
   case round =>
    clear HCUT HO HRE HB
    obtain ⟨k, next, rfl, HK, HN, HO, HRE, HPN, HCUT, HB⟩ := hrel
    have HXw := Aside0.mk (show ∀ k, X k → k < _ from fun k hk => Nat.lt_of_lt_of_le (HX.out k hk) HB.out.size)
    have HUX := Aside0.mk (HU.out.below HB.out)
    have y1 := pw_cell_below HB.out HC.out
    cases gk with
    | succ k2 =>
     have hk : k < out.length := by have := HK.out; omega
     obtain ⟨ao, co', uo, eo, huo, hco⟩ := HO.out.row k hk
     cases eo
     have HPP := Aside0.mk (HP.out.1.1.sm (mem_getD out [] k hk))
     have HC2 := Aside0.mk (show cutGo x (some10 (some10 next (makeL (out.getD k []) x 8)) (makeL (out.getD k []) x 2)) (out.drop (k + 1)) = cut by rw [← cut_split x next out k hk]; exact HCUT.out)
     have HPL := Aside0.mk (pair_len next (out.getD k []) x)
     have HPT := Aside0.mk (cut_pt (B := bd i) (C := 64 + 2 * bd i) x [out.getD k []] next (fun q hq => HP.out.1.1 q (by simp at hq; subst hq; exact mem_getD out [] k hk)) HPN.out.1 (by have := HXS.out.2; omega))
     have HM8 := Aside0.mk (make_len (out.getD k []) x 8)
     have HM2 := Aside0.mk (make_len (out.getD k []) x 2)
     generalize out.getD k [] = p at *
     have hk0 : (0 : Int) ≤ (k : Int) := by omega
     have hk3 : (k : Int) < (out.length : Int) := by omega
     have hk5 : k < 100 := by have := HP.out.1.2; have := HBD.out.2; omega
     have HUO := Aside0.mk huo
     clear huo
     have b1 : Below wr.heap.size wr wr.drew := below_drew (Below.refl _ _)
     have HB1 := Aside0.mk b1
     have yd0 := pw_cell_below b1 hco
     have yd1 := pw_cell_below b1 y1
     clear b1
     obtain ⟨A6, c6, e6, _, _⟩ := HN.out.now
     subst e6
     go_wp2_with fail
     refine start_ (n := 12) (S := fun w' => w'.cell? (ao.add k) = some uo ∧ w'.cell? (ax.add i) = some ux) (ds := []) #[false, false, false, false, false, false, false, false, false, false, false, false] (by kernel_rfl) rfl rfl ⟨yd0, yd1⟩ (fun hHeld => ?_)
     refine pure_ (i := 0) (N := some 22) (v := ?_) (a' := ?_) #[true, false, false, false, false, false, false, false, false, false, false, false] rfl rfl (by kernel_rfl) (fun _ _ _ h => h) (Or.inl ⟨by rfl, ?_⟩) ?_ ?_
     rotate_left
     ·intro w'
      go_simp
      with_reducible rfl
     rotate_left
     ·simp only [Act.put, List.setIfInBounds_toArray, List.set_cons_zero, List.set_cons_succ, i64_w, i32_w]
      rfl
     refine pure_ (i := 1) (N := some 23) (v := ?_) (a' := ?_) #[true, true, false, false, false, false, false, false, false, false, false, false] rfl rfl (by kernel_rfl) (fun _ _ _ h => h) (Or.inl ⟨by rfl, ?_⟩) ?_ ?_
     rotate_left
     ·intro w'
      go_simp
      with_reducible rfl
     rotate_left
     ·simp only [Act.put, List.setIfInBounds_toArray, List.set_cons_zero, List.set_cons_succ, i64_w, i32_w]
      rfl
     refine pure_ (i := 2) (N := some 24) (v := ?_) (a' := ?_) #[true, true, true, false, false, false, false, false, false, false, false, false] rfl rfl (by kernel_rfl) (fun _ _ _ h => h) (Or.inl ⟨by rfl, ?_⟩) ?_ ?_
     rotate_left
     ·intro w'
      go_simp
      with_reducible rfl
     rotate_left
     ·simp only [Act.put, List.setIfInBounds_toArray, List.set_cons_zero, List.set_cons_succ, i64_w, i32_w]
      rfl
     refine pure_ (i := 3) (N := some 25) (v := ?_) (a' := ?_) #[true, true, true, true, false, false, false, false, false, false, false, false] rfl rfl (by kernel_rfl) (fun _ _ _ h => h) (Or.inl ⟨by rfl, ?_⟩) ?_ ?_
     rotate_left
     ·intro w'
      go_simp
      with_reducible rfl
     rotate_left
     ·simp only [Act.put, List.setIfInBounds_toArray, List.set_cons_zero, List.set_cons_succ, i64_w, i32_w]
      rfl
     refine pure_ (i := 5) (N := some 27) (v := ?_) (a' := ?_) #[true, true, true, true, false, true, false, false, false, false, false, false] rfl rfl (by kernel_rfl) (fun _ _ _ h => h) (Or.inl ⟨by rfl, ?_⟩) ?_ ?_
     rotate_left
     ·intro w'
      go_simp
      with_reducible rfl
     rotate_left
     ·simp only [Act.put, List.setIfInBounds_toArray, List.set_cons_zero, List.set_cons_succ, i64_w, i32_w]
      rfl
     refine pure_ (i := 6) (N := some 28) (v := ?_) (a' := ?_) #[true, true, true, true, false, true, true, false, false, false, false, false] rfl rfl (by kernel_rfl) (fun _ _ _ h => h) (Or.inl ⟨by rfl, ?_⟩) ?_ ?_
     rotate_left
     ·intro w'
      go_simp
      with_reducible rfl
     rotate_left
     ·simp only [Act.put, List.setIfInBounds_toArray, List.set_cons_zero, List.set_cons_succ, i64_w, i32_w]
      rfl
     refine pure_ (i := 7) (N := some 29) (v := ?_) (a' := ?_) #[true, true, true, true, false, true, true, true, false, false, false, false] rfl rfl (by kernel_rfl) (fun _ _ _ h => h) (Or.inl ⟨by rfl, ?_⟩) ?_ ?_
     rotate_left
     ·intro w'
      go_simp
      with_reducible rfl
     rotate_left
     ·simp only [Act.put, List.setIfInBounds_toArray, List.set_cons_zero, List.set_cons_succ, i64_w, i32_w]
      rfl
     refine take_ (i := 4) (N := some 26) (v := ?_) (a' := ?_) #[true, true, true, true, true, true, true, true, false, false, false, false] rfl rfl (by kernel_rfl) (fun _ _ _ h => h) (Or.inl ⟨by rfl, ?_⟩) hHeld ?_ ?_
     rotate_left
     ·rintro w' ⟨s0, s1⟩
      go_simp
      with_reducible rfl
     rotate_left
     ·simp only [Act.put, List.setIfInBounds_toArray, List.set_cons_zero, List.set_cons_succ, i64_w, i32_w]
      rfl
     refine take_ (i := 8) (N := some 30) (v := ?_) (a' := ?_) #[true, true, true, true, true, true, true, true, true, false, false, false] rfl rfl (by kernel_rfl) (fun _ _ _ h => h) (Or.inl ⟨by rfl, ?_⟩) hHeld ?_ ?_
     rotate_left
     ·rintro w' ⟨s0, s1⟩
      go_simp
      with_reducible rfl
     rotate_left
     ·simp only [Act.put, List.setIfInBounds_toArray, List.set_cons_zero, List.set_cons_succ, i64_w, i32_w]
      rfl
     refine one_ (i := 9) (N := some 31) #[true, true, true, true, true, true, true, true, true, true, false, false] rfl rfl (by kernel_rfl) (by decide) (fun K hK => ?_)
     refine goes_ Tryd.func53 (by kernel_rfl) rfl #[uo, ux] (by rfl) rfl rfl (by simp only [List.map_toArray, List.map_cons, List.map_nil]; rfl) ?_
     with_reducible refine (Inter_calls X uo ux p x _ (fun k hk => Nat.lt_of_lt_of_le (HXw.out k hk) HB1.out.size) (HUO.out.below HB1.out) (HUX.out.below HB1.out) HPP.out.1 HXS.out.1 (by have := HPP.out.2; have := HBD.out.1; omega) (by have := HXS.out.2; omega)).mono ?_
     rintro e w5 ⟨v5, rfl, hv5, hb5⟩
     refine ⟨_, rfl, ?_⟩
     have H5 := Aside0.mk hv5
     have HB5 := Aside0.mk (below_step HB1.out hb5)
     have z0 := pw_cell_below hb5 hHeld.1
     have z1 := pw_cell_below hb5 hHeld.2
     clear hv5 hb5 hHeld
     refine hK.out _ _ ⟨z0, z1⟩ (fun hHeld => ?_)
     clear hK K
     refine norm_ (a' := ?_) ?_ ?_
     rotate_left
     ·show Act.put _ (some 31) _ = _
      simp only [Act.put, List.setIfInBounds_toArray, List.set_cons_zero, List.set_cons_succ, i64_w, i32_w]
      rfl
     refine one_ (i := 10) (N := some 32) #[true, true, true, true, true, true, true, true, true, true, true, false] rfl rfl (by kernel_rfl) (by decide) (fun K hK => ?_)
     refine goes_ Tryd.func64 (by kernel_rfl) rfl #[.slice A6 next.length c6, v5] (by rfl) rfl rfl (by simp only [List.map_toArray, List.map_cons, List.map_nil]; rfl) ?_
     with_reducible refine (some10_calls X _ v5 next (makeL p x 8) _ (fun k hk => Nat.lt_of_lt_of_le (HXw.out k hk) HB5.out.size) (HN.out.below HB5.out) H5.out (by have := HPN.out.2; omega)).mono ?_
     rintro e w6 ⟨v6, rfl, hv6, hb6⟩
     refine ⟨_, rfl, ?_⟩
     have H6 := Aside0.mk hv6
     have HB6 := Aside0.mk (below_step HB5.out hb6)
     have z2 := pw_cell_below hb6 hHeld.1
     have z3 := pw_cell_below hb6 hHeld.2
     clear hv6 hb6 hHeld
     refine hK.out _ _ ⟨z2, z3⟩ (fun hHeld => ?_)
     clear hK K
     refine norm_ (a' := ?_) ?_ ?_
     rotate_left
     ·show Act.put _ (some 32) _ = _
      simp only [Act.put, List.setIfInBounds_toArray, List.set_cons_zero, List.set_cons_succ, i64_w, i32_w]
      rfl
     refine pure_ (i := 11) (N := some 6) (v := ?_) (a' := ?_) #[true, true, true, true, true, true, true, true, true, true, true, true] rfl rfl (by kernel_rfl) (fun _ _ _ h => h) (Or.inl ⟨by rfl, ?_⟩) ?_ ?_
     rotate_left
     ·intro w'
      go_simp
      with_reducible rfl
     rotate_left
     ·simp only [Act.put, List.setIfInBounds_toArray, List.set_cons_zero, List.set_cons_succ, i64_w, i32_w]
      rfl
     refine done_ (by kernel_rfl) ?_
     clear hHeld
     go_wp2_with fail
     have b2 := below_drew HB6.out
     have HB7 := Aside0.mk b2
     have ye0 := pw_cell_below b2 hco
     have ye1 := pw_cell_below b2 y1
     clear b2 z0 z1 z2 z3 yd0 yd1
     have HS8 := Aside0.mk (some10_len next (makeL p x 8))
     refine start_ (n := 12) (S := fun w' => w'.cell? (ao.add k) = some uo ∧ w'.cell? (ax.add i) = some ux) (ds := []) #[false, false, false, false, false, false, false, false, false, false, false, false] (by kernel_rfl) rfl rfl ⟨ye0, ye1⟩ (fun hHeld => ?_)
     refine pure_ (i := 0) (N := some 33) (v := ?_) (a' := ?_) #[true, false, false, false, false, false, false, false, false, false, false, false] rfl rfl (by kernel_rfl) (fun _ _ _ h => h) (Or.inl ⟨by rfl, ?_⟩) ?_ ?_
     rotate_left
     ·intro w'
      go_simp
      with_reducible rfl
     rotate_left
     ·simp only [Act.put, List.setIfInBounds_toArray, List.set_cons_zero, List.set_cons_succ, i64_w, i32_w]
      rfl
     refine pure_ (i := 1) (N := some 34) (v := ?_) (a' := ?_) #[true, true, false, false, false, false, false, false, false, false, false, false] rfl rfl (by kernel_rfl) (fun _ _ _ h => h) (Or.inl ⟨by rfl, ?_⟩) ?_ ?_
     rotate_left
     ·intro w'
      go_simp
      with_reducible rfl
     rotate_left
     ·simp only [Act.put, List.setIfInBounds_toArray, List.set_cons_zero, List.set_cons_succ, i64_w, i32_w]
      rfl
     refine pure_ (i := 2) (N := some 35) (v := ?_) (a' := ?_) #[true, true, true, false, false, false, false, false, false, false, false, false] rfl rfl (by kernel_rfl) (fun _ _ _ h => h) (Or.inl ⟨by rfl, ?_⟩) ?_ ?_
     rotate_left
     ·intro w'
      go_simp
      with_reducible rfl
     rotate_left
     ·simp only [Act.put, List.setIfInBounds_toArray, List.set_cons_zero, List.set_cons_succ, i64_w, i32_w]
      rfl
     refine pure_ (i := 3) (N := some 36) (v := ?_) (a' := ?_) #[true, true, true, true, false, false, false, false, false, false, false, false] rfl rfl (by kernel_rfl) (fun _ _ _ h => h) (Or.inl ⟨by rfl, ?_⟩) ?_ ?_
     rotate_left
     ·intro w'
      go_simp
      with_reducible rfl
     rotate_left
     ·simp only [Act.put, List.setIfInBounds_toArray, List.set_cons_zero, List.set_cons_succ, i64_w, i32_w]
      rfl
     refine pure_ (i := 5) (N := some 38) (v := ?_) (a' := ?_) #[true, true, true, true, false, true, false, false, false, false, false, false] rfl rfl (by kernel_rfl) (fun _ _ _ h => h) (Or.inl ⟨by rfl, ?_⟩) ?_ ?_
     rotate_left
     ·intro w'
      go_simp
      with_reducible rfl
     rotate_left
     ·simp only [Act.put, List.setIfInBounds_toArray, List.set_cons_zero, List.set_cons_succ, i64_w, i32_w]
      rfl
     refine pure_ (i := 6) (N := some 39) (v := ?_) (a' := ?_) #[true, true, true, true, false, true, true, false, false, false, false, false] rfl rfl (by kernel_rfl) (fun _ _ _ h => h) (Or.inl ⟨by rfl, ?_⟩) ?_ ?_
     rotate_left
     ·intro w'
      go_simp
      with_reducible rfl
     rotate_left
     ·simp only [Act.put, List.setIfInBounds_toArray, List.set_cons_zero, List.set_cons_succ, i64_w, i32_w]
      rfl
     refine pure_ (i := 7) (N := some 40) (v := ?_) (a' := ?_) #[true, true, true, true, false, true, true, true, false, false, false, false] rfl rfl (by kernel_rfl) (fun _ _ _ h => h) (Or.inl ⟨by rfl, ?_⟩) ?_ ?_
     rotate_left
     ·intro w'
      go_simp
      with_reducible rfl
     rotate_left
     ·simp only [Act.put, List.setIfInBounds_toArray, List.set_cons_zero, List.set_cons_succ, i64_w, i32_w]
      rfl
     refine take_ (i := 4) (N := some 37) (v := ?_) (a' := ?_) #[true, true, true, true, true, true, true, true, false, false, false, false] rfl rfl (by kernel_rfl) (fun _ _ _ h => h) (Or.inl ⟨by rfl, ?_⟩) hHeld ?_ ?_
     rotate_left
     ·rintro w' ⟨s0, s1⟩
      go_simp
      with_reducible rfl
     rotate_left
     ·simp only [Act.put, List.setIfInBounds_toArray, List.set_cons_zero, List.set_cons_succ, i64_w, i32_w]
      rfl
     refine take_ (i := 8) (N := some 41) (v := ?_) (a' := ?_) #[true, true, true, true, true, true, true, true, true, false, false, false] rfl rfl (by kernel_rfl) (fun _ _ _ h => h) (Or.inl ⟨by rfl, ?_⟩) hHeld ?_ ?_
     rotate_left
     ·rintro w' ⟨s0, s1⟩
      go_simp
      with_reducible rfl
     rotate_left
     ·simp only [Act.put, List.setIfInBounds_toArray, List.set_cons_zero, List.set_cons_succ, i64_w, i32_w]
      rfl
     refine one_ (i := 9) (N := some 42) #[true, true, true, true, true, true, true, true, true, true, false, false] rfl rfl (by kernel_rfl) (by decide) (fun K hK => ?_)
     refine goes_ Tryd.func65 (by kernel_rfl) rfl #[uo, ux] (by rfl) rfl rfl (by simp only [List.map_toArray, List.map_cons, List.map_nil]; rfl) ?_
     with_reducible refine (Minus_calls X uo ux p x _ (fun k hk => Nat.lt_of_lt_of_le (HXw.out k hk) HB7.out.size) (HUO.out.below HB7.out) (HUX.out.below HB7.out) HPP.out.1 HXS.out.1 (by have := HPP.out.2; have := HBD.out.1; omega) (by have := HXS.out.2; omega)).mono ?_
     rintro e w8 ⟨v8, rfl, hv8, hb8⟩
     refine ⟨_, rfl, ?_⟩
     have H8 := Aside0.mk hv8
     have H68 := Aside0.mk ((H6.out.below (below_drew (Below.refl _ _))).below hb8)
     have HB8 := Aside0.mk (below_step HB7.out hb8)
     have z0 := pw_cell_below hb8 hHeld.1
     have z1 := pw_cell_below hb8 hHeld.2
     clear hv8 hb8 hHeld
     refine hK.out _ _ ⟨z0, z1⟩ (fun hHeld => ?_)
     clear hK K
     refine norm_ (a' := ?_) ?_ ?_
     rotate_left
     ·show Act.put _ (some 42) _ = _
      simp only [Act.put, List.setIfInBounds_toArray, List.set_cons_zero, List.set_cons_succ, i64_w, i32_w]
      rfl
     refine one_ (i := 10) (N := some 43) #[true, true, true, true, true, true, true, true, true, true, true, false] rfl rfl (by kernel_rfl) (by decide) (fun K hK => ?_)
     refine goes_ Tryd.func64 (by kernel_rfl) rfl #[v6, v8] (by rfl) rfl rfl (by simp only [List.map_toArray, List.map_cons, List.map_nil]; rfl) ?_
     with_reducible refine (some10_calls X v6 v8 (some10 next (makeL p x 8)) (makeL p x 2) _ (fun k hk => Nat.lt_of_lt_of_le (HXw.out k hk) HB8.out.size) H68.out H8.out (by have := HPN.out.2; have := HS8.out; omega)).mono ?_
     rintro e w9 ⟨v9, rfl, hv9, hb9⟩
     refine ⟨_, rfl, ?_⟩
     have H9 := Aside0.mk hv9
     have HB9 := Aside0.mk (below_step HB8.out hb9)
     have z2 := pw_cell_below hb9 hHeld.1
     have z3 := pw_cell_below hb9 hHeld.2
     clear hv9 hb9 hHeld
     refine hK.out _ _ ⟨z2, z3⟩ (fun hHeld => ?_)
     clear hK K
     refine norm_ (a' := ?_) ?_ ?_
     rotate_left
     ·show Act.put _ (some 43) _ = _
      simp only [Act.put, List.setIfInBounds_toArray, List.set_cons_zero, List.set_cons_succ, i64_w, i32_w]
      rfl
     refine pure_ (i := 11) (N := some 6) (v := ?_) (a' := ?_) #[true, true, true, true, true, true, true, true, true, true, true, true] rfl rfl (by kernel_rfl) (fun _ _ _ h => h) (Or.inl ⟨by rfl, ?_⟩) ?_ ?_
     rotate_left
     ·intro w'
      go_simp
      with_reducible rfl
     rotate_left
     ·simp only [Act.put, List.setIfInBounds_toArray, List.set_cons_zero, List.set_cons_succ, i64_w, i32_w]
      rfl
     refine done_ (by kernel_rfl) ?_
     clear hHeld z0 z1 z2 z3 ye0 ye1
     go_wp2_with fail
     go_roundg k2
     case measure => omega
     case rel => exact ⟨k + 1, _, by go_num, ⟨by have := HK.out; omega⟩, H9, ⟨HO.out.below HB9.out⟩, ⟨HRE.out.below HB9.out⟩, ⟨HPT.out, by have := HPL.out; have := HPN.out.2; omega⟩, HC2, ⟨below_step HB.out HB9.out⟩⟩
    | zero =>
     have hd : decide ((k : Int) < (out.length : Int)) = false := decide_eq_false (by have := HK.out; omega)
     have hd2 : decide (k < out.length) = false := decide_eq_false (by have := HK.out; omega)
     have e0 : next = cut := by
      have := HCUT.out
      rw [List.drop_eq_nil_of_le (by have := HK.out; omega)] at this
      exact this
     subst e0
     obtain ⟨A6, c6, e6, _, _⟩ := HN.out.now
     subst e6
     have HNL := Aside0.mk (show next.length ≤ 2 * cn i by have := HPN.out.2; have := HK.out; have := HP.out.1.2; omega)
     have HM8 := Aside0.mk (make_len rest x 8)
     have HM2 := Aside0.mk (make_len rest x 2)
     have HRL := Aside0.mk (show rest.length ≤ 2000 by have := HP.out.2.1; have := HBD.out.1; omega)
     have HRS := Aside0.mk (InS.sm HP.out.2.2)
     go_wp2_with (first
      | (go_at_call 53; (with_reducible refine (Inter_calls X _ _ rest x _ HXw.out HRE.out HUX.out HRS.out HXS.out.1 (by have := HRL.out; omega) (by have := HXS.out.2; omega)).mono ?_); rintro e w4 ⟨v4, rfl, hv, hb⟩; have H4 := Aside0.mk hv; have HB4 := Aside0.mk hb; have y4 := pw_cell_below hb y1; clear hv hb)
      | (go_at_call 64; (with_reducible refine (some10_calls X _ _ next (makeL rest x 8) _ (fun k hk => Nat.lt_of_lt_of_le (HXw.out k hk) HB4.out.size) (HN.out.below HB4.out) H4.out (by have := HNL.out; have := HBD.out.2; omega)).mono ?_); rintro e w5 ⟨v5, rfl, hv, hb⟩; have H5 := Aside0.mk hv; have HB5 := Aside0.mk (below_step HB4.out hb); have y5 := pw_cell_below hb y4; clear hv hb y4)
      | (go_at_call 65; (with_reducible refine (Minus_calls X _ _ rest x _ (fun k hk => Nat.lt_of_lt_of_le (HXw.out k hk) HB5.out.size) (HRE.out.below HB5.out) (HUX.out.below HB5.out) HRS.out HXS.out.1 (by have := HRL.out; omega) (by have := HXS.out.2; omega)).mono ?_); rintro e w6 ⟨v6, rfl, hv, hb⟩; have H6 := Aside0.mk hv; have H56 := Aside0.mk (H5.out.below hb); have HB6 := Aside0.mk (below_step HB5.out hb); clear hv hb))
     go_roundg k1
     case measure => omega
     case rel => exact ⟨i + 1, _, _, by go_num, ⟨by have := HJ.out; omega⟩, H56, H6, ⟨⟨some10_pt HPN.out.1 (by have := HM8.out; have := HXS.out.2; have := HP.out.2.1; show _ ≤ 64 + 2 * bd i; omega) (make_in _ _ _), by have := some10_len next (makeL rest x 8); have := HNL.out; show _ ≤ 2 * cn i + 1; omega⟩, by have := HM2.out; have := HXS.out.2; have := HP.out.2.1; show _ ≤ 64 + 2 * bd i; omega, make_in _ _ _⟩, HS2, ⟨below_step HB.out HB6.out⟩⟩
end Go.Proofs.YtplhfgobeicegaaDoor.P
