/- Part 6 of the proof: S10b, S10c, S11. -/
import Derived.Test.YtplhfgobeicegaaGreatDoorPe5
namespace Go.Proofs.YtplhfgobeicegaaGreatDoor.P
open Go Go.RowKit Go.Proofs.YtplhfgobeicegaaGreatDoorW.PrintWords Go.Proofs.YtplhfgobeicegaaGreatDoorW.PrintLast Go.Proofs.YtplhfgobeicegaaGreatDoorW.PrintMore Go.Proofs.YtplhfgobeicegaaGreatDoor.PX
set_option linter.unusedVariables false
set_option linter.unusedSimpArgs false
set_option maxRecDepth 100000
theorem mkGo_len (a b : List Sp) (n : Int) (e : List Int) : ∀ (d i : Nat) (out : List Sp), (mkGo a b n e d i out).length ≤ out.length + d
 | 0, _, out => Nat.le_refl _
 | d + 1, i, out => by
  unfold mkGo
  have h := mkGo_len a b n e d (i + 1) (if mkBit n (mkK a b (e.getD i 0)) = 0 then out else mkOut out (e.getD i 0) (mkHi e i))
  have h2 := mkOut_len out (e.getD i 0) (mkHi e i)
  split at h
  ·rename_i c
   rw [if_pos c]
   omega
  ·rename_i c
   rw [if_neg c]
   omega
theorem make_len (a b : List Sp) (n : Int) : (makeL a b n).length ≤ 4 + 2 * a.length + 2 * b.length := by
 have h1 := mkGo_len a b n (layAll (edgesL a) (edgesL b)) (layAll (edgesL a) (edgesL b)).length 0 []
 have h2 := layAll_len (edgesL b) (edgesL a)
 have h3 := edges_len a
 have h4 := edges_len b
 unfold makeL
 simp at h1
 omega
def InS (s : Sp) : Prop := (0 ≤ s.f0 ∧ s.f0 ≤ 1114111) ∧ (-1 ≤ s.f1 ∧ s.f1 ≤ 1114111)
theorem mkHi_in (e : List Int) (i : Nat) (he : ∀ x ∈ e, 0 ≤ x ∧ x ≤ 1114111) : -1 ≤ mkHi e i ∧ mkHi e i ≤ 1114111 := by
 unfold mkHi
 have h : ∀ k, k < e.length → 0 ≤ e.getD k 0 ∧ e.getD k 0 ≤ 1114111 := fun k hk => he _ (mem_getD e 0 k hk)
 have h2 : ∀ g : Int, (-1 ≤ g ∧ g ≤ 1114111) → -1 ≤ mn g 55295 ∧ mn g 55295 ≤ 1114111 := fun g hg => by unfold mn; split <;> omega
 have h3 : -1 ≤ (if i + 1 < e.length then e.getD (i + 1) 0 - 1 else 1114111) ∧ (if i + 1 < e.length then e.getD (i + 1) 0 - 1 else 1114111) ≤ 1114111 := by
  split
  ·have := h (i + 1) (by assumption); omega
  ·omega
 split
 ·exact h2 _ h3
 ·exact h3
theorem mkOut_in (out : List Sp) (x hi : Int) (ho : ∀ s ∈ out, InS s) (hx : 0 ≤ x ∧ x ≤ 1114111) (hh : -1 ≤ hi ∧ hi ≤ 1114111) : ∀ s ∈ mkOut out x hi, InS s := by
 unfold mkOut
 split
 ·rename_i c
  intro s hs
  rcases List.mem_or_eq_of_mem_set hs with h | h
  ·exact ho s h
  ·subst h
   exact ⟨(ho _ (mem_getD out _ _ (by omega))).1, hh⟩
 ·intro s hs
  rcases List.mem_append.1 hs with h | h
  ·exact ho s h
  ·simp at h
   subst h
   exact ⟨hx, hh⟩
theorem mkGo_in (a b : List Sp) (n : Int) (e : List Int) (he : ∀ x ∈ e, 0 ≤ x ∧ x ≤ 1114111) : ∀ (d i : Nat) (out : List Sp), i + d ≤ e.length → (∀ s ∈ out, InS s) → ∀ s ∈ mkGo a b n e d i out, InS s
 | 0, _, out, _, h => h
 | d + 1, i, out, hd, h => by
  unfold mkGo
  refine mkGo_in a b n e he d (i + 1) _ (by omega) ?_
  split
  ·exact h
  ·exact mkOut_in _ _ _ h (he _ (mem_getD e 0 i (by omega))) (mkHi_in e i he)
theorem make_in (a b : List Sp) (n : Int) : ∀ s ∈ makeL a b n, InS s :=
 mkGo_in a b n _ (layAll_range _ _ (edges_range b) (edges_range a)) _ 0 [] (by omega) (by intro s hs; cases hs)
theorem InS.sm {l : List Sp} (h : ∀ s ∈ l, InS s) : Sm l := fun s hs => by have := h s hs; unfold InS at this; omega
theorem make_sm (a b : List Sp) (n : Int) : Sm (makeL a b n) := InS.sm (make_in a b n)
def cutGo (x : List Sp) (next : List (List Sp)) : List (List Sp) → List (List Sp)
 | [] => next
 | p :: t => cutGo x (some10 (some10 next (makeL p x 8)) (makeL p x 2)) t
def of10Go (out : List (List Sp)) (rest : List Sp) : List (List Sp) → List (List Sp)
 | [] => out
 | x :: t => of10Go (some10 (cutGo x [] out) (makeL rest x 8)) (makeL rest x 2) t
def of10 (l : List (List Sp)) : List (List Sp) := sortGo [] (of10Go [] [⟨0, 1114111⟩] l)
def Pt (B : Nat) (l : List (List Sp)) : Prop := ∀ p ∈ l, p.length ≠ 0 ∧ p.length ≤ B ∧ ∀ s ∈ p, InS s
theorem pt_nil (B : Nat) : Pt B [] := fun p hp => by cases hp
theorem some10_pt {B : Nat} {l : List (List Sp)} {x : List Sp} (h : Pt B l) (hx : x.length ≤ B) (hi : ∀ s ∈ x, InS s) : Pt B (some10 l x) := by
 unfold some10
 split
 ·exact h
 ·rename_i c
  intro p hp
  rcases List.mem_append.1 hp with hp | hp
  ·exact h p hp
  ·simp at hp
   subst hp
   exact ⟨c, hx, hi⟩
theorem some10_len (l : List (List Sp)) (x : List Sp) : (some10 l x).length ≤ l.length + 1 := by
 unfold some10
 split <;> simp
theorem cut_pt {B C : Nat} (x : List Sp) : ∀ (l next : List (List Sp)), Pt B l → Pt C next → 4 + 2 * B + 2 * x.length ≤ C → Pt C (cutGo x next l)
 | [], next, _, h, _ => h
 | p :: t, next, hl, h, hc => by
  have hp := (hl p List.mem_cons_self).2.1
  have m8 := make_len p x 8
  have m2 := make_len p x 2
  exact cut_pt x t _ (fun q hq => hl q (List.mem_cons_of_mem _ hq)) (some10_pt (some10_pt h (by omega) (make_in _ _ _)) (by omega) (make_in _ _ _)) hc
theorem cut_len (x : List Sp) : ∀ (l next : List (List Sp)), (cutGo x next l).length ≤ next.length + 2 * l.length
 | [], next => by simp [cutGo]
 | p :: t, next => by
  have h1 := cut_len x t (some10 (some10 next (makeL p x 8)) (makeL p x 2))
  have h2 := some10_len (some10 next (makeL p x 8)) (makeL p x 2)
  have h3 := some10_len next (makeL p x 8)
  simp [cutGo]
  omega
def bd : Nat → Nat
 | 0 => 1
 | i + 1 => 64 + 2 * bd i
def cn : Nat → Nat
 | 0 => 0
 | i + 1 => 2 * cn i + 1
theorem top_in : ([(⟨0, 1114111⟩ : Sp)].length ≤ bd 0) ∧ ∀ s ∈ [(⟨0, 1114111⟩ : Sp)], InS s := ⟨by decide, fun s hs => by simp at hs; subst hs; unfold InS; simp⟩
theorem bd_le (i : Nat) (h : i ≤ 4) : bd i ≤ 2000 ∧ cn i ≤ 15 := by
 have : i = 0 ∨ i = 1 ∨ i = 2 ∨ i = 3 ∨ i = 4 := by omega
 rcases this with rfl | rfl | rfl | rfl | rfl <;> decide
theorem cut_split (x : List Sp) (next : List (List Sp)) (l : List (List Sp)) (j : Nat) (h : j < l.length) : cutGo x next (l.drop j) = cutGo x (some10 (some10 next (makeL (l.getD j []) x 8)) (makeL (l.getD j []) x 2)) (l.drop (j + 1)) := by
 rw [drop_ats l j h, cutGo]
theorem pair_len (next : List (List Sp)) (p x : List Sp) : (some10 (some10 next (makeL p x 8)) (makeL p x 2)).length ≤ next.length + 2 := by
 have h2 := some10_len (some10 next (makeL p x 8)) (makeL p x 2)
 have h3 := some10_len next (makeL p x 8)
 omega
theorem sortGo_len : ∀ (l out : List (List Sp)), (sortGo out l).length = out.length + l.length
 | [], out => rfl
 | x :: t, out => by
  have h := sortGo_len t (ins10 x out)
  rw [ins_len] at h
  simp [sortGo]
  omega
theorem of10Go_len : ∀ (l out : List (List Sp)) (rest : List Sp) (i : Nat), out.length ≤ cn i → (of10Go out rest l).length ≤ cn (i + l.length)
 | [], out, rest, i, h => h
 | x :: t, out, rest, i, h => by
  have h1 := some10_len (cutGo x [] out) (makeL rest x 8)
  have h2 := cut_len x out []
  have h3 := of10Go_len t (some10 (cutGo x [] out) (makeL rest x 8)) (makeL rest x 2) (i + 1) (by simp [cn] at h2 ⊢; omega)
  rw [show i + (x :: t).length = i + 1 + t.length by simp; omega]
  exact h3
theorem of10_len (l : List (List Sp)) (h : l.length ≤ 4) : (of10 l).length ≤ 15 := by
 have h1 := of10Go_len l [] [⟨0, 1114111⟩] 0 (Nat.zero_le _)
 have h2 := sortGo_len (of10Go [] [⟨0, 1114111⟩] l) []
 have h3 := (bd_le (0 + l.length) (by omega)).2
 unfold of10
 rw [h2]
 simp at h1 h3 ⊢
 omega
theorem Pt.sm {B : Nat} {l : List (List Sp)} (h : Pt B l) {p : List Sp} (hp : p ∈ l) : Sm p ∧ p.length ≤ B := ⟨InS.sm (h p hp).2.2, (h p hp).2.1⟩
end Go.Proofs.YtplhfgobeicegaaGreatDoor.P
namespace Go.Proofs.YtplhfgobeicegaaGreatDoor.P
open Go Go.RowKit Go.Proofs.YtplhfgobeicegaaGreatDoorW.PrintWords Go.Proofs.YtplhfgobeicegaaGreatDoorW.PrintLast Go.Proofs.YtplhfgobeicegaaGreatDoorW.PrintMore Go.Proofs.YtplhfgobeicegaaGreatDoor.PX
set_option linter.unusedVariables false
set_option linter.unusedSimpArgs false
set_option maxRecDepth 100000
set_option maxHeartbeats 4000000 in
theorem of10_calls (X : Nat → Prop) (v0 : Value) (l : List (List Sp)) (w : World) (hX : ∀ k, X k → k < w.heap.size) (h0 : PV kSps X w v0 l) (hl : l.length ≤ 4) (hs : ∀ x ∈ l, Sm x ∧ x.length ≤ 30) :
  Calls Tryz.prog 53 #[v0] w fun e w' => ∃ v, e = .returned v ∧ PV kSps X w' v (of10 l) ∧ Below w.heap.size w w' := by
 have H0 := aM h0
 have HX := aM hX
 have HL := aM hl
 have HSM := aM hs
 obtain ⟨r0, hr0⟩ : ∃ r0, r0 = of10Go [] [⟨0, 1114111⟩] l := ⟨_, rfl⟩
 have HS := aM (show of10Go [] [⟨0, 1114111⟩] (l.drop 0) = r0 from hr0.symm)
 have HR := aM (show of10 l = sortGo [] r0 by rw [hr0]; rfl)
 obtain ⟨A0, c0, rfl, _, _⟩ := h0.now
 clear h0 hX hl hs hr0
 go_enter Tryz.func53, Tryz.ntmps53
 go_wp2_with (first
  | ((with_reducible refine gate_dst (N := 9) rfl ?_); refine lit kSp 124 (X := X) ?hg (N := 9) ?hd (xs := [(⟨0, 1114111⟩ : Sp)]) (inner := [.int .i64 0, .int .i64 1114111]) ?hr ?hp HX.out (by simp) (Below.refl _ _) (Nat.le_refl _) ?_; (case hd => rfl); (case hg => rfl); (case hr => first | (go_simp; done) | (go_simp; rfl)); (case hp => exact sp_rep _ _ 0 1114111); intro v9 w9 hv hb3 hb; have H9 := aM hv; have HB9 := aM hb; clear hv hb3 hb; obtain ⟨A_v9, c_v9, e_v9, _⟩ := H9.out.now; subst e_v9))
 go_loopg [3, 4, 5] l.length (fun m v3 v4 v5 w' => ∃ (i : Nat) (out : List (List Sp)) (rest : List Sp), v5 = .int .i64 i ∧ Aside0 (i + m = l.length) ∧ Aside0 (PV kSps X w' v3 out) ∧ Aside0 (PV kSp X w' v4 rest) ∧ Aside0 ((Pt (bd i) out ∧ out.length ≤ cn i) ∧ rest.length ≤ bd i ∧ ∀ s ∈ rest, InS s) ∧ Aside0 (of10Go out rest (l.drop i) = r0) ∧ Aside0 (Below w.heap.size w w'))
 case atStart => exact ⟨0, [], [⟨0, 1114111⟩], rfl, ⟨by omega⟩, ⟨PV.nil _ _ _⟩, H9, ⟨⟨pt_nil _, Nat.zero_le _⟩, top_in⟩, HS, HB9⟩
 case round =>
  clear HS H9 HB9
  obtain ⟨i, out, rest, rfl, HJ, HO, HRE, HP, HS, HB⟩ := hrel
  cases gk with
  | zero =>
   have hd : decide ((i : Int) < (l.length : Int)) = false := dF (by have := HJ.out; omega)
   have hd2 : decide (i < l.length) = false := dF (by have := HJ.out; omega)
   have e0 : out = r0 := by
    have := HS.out
    rw [List.drop_eq_nil_of_le (by have := HJ.out; omega)] at this
    exact this
   subst e0
   have HB1 := aM (bd_le i (by have := HJ.out; have := HL.out; omega))
   go_wp2_with fail
   refine (sorted_calls X _ out _ (fun k hk => Nat.lt_of_lt_of_le (HX.out k hk) HB.out.size) HO.out (fun x hx => (HP.out.1.1 x hx).1) (by have := HP.out.1.2; have := HB1.out.2; omega)).mono ?_
   rintro e w3 ⟨v, rfl, hv, hb⟩
   have HV := aM hv
   have HB3 := aM (below_step HB.out hb)
   clear hv hb
   go_wp2_with fail
   go_ret
   exact ⟨_, rfl, by rw [HR.out]; exact HV.out, HB3.out⟩
  | succ k1 =>
   have hj : i < l.length := by have := HJ.out; omega
   have hj4 : i < 4 := by have := HL.out; omega
   obtain ⟨ax, cx, ux, ex, hux, hcx⟩ := H0.out.row i hj
   cases ex
   have HXS := aM (HSM.out _ (mem_getD l [] i hj))
   have HBD := aM (bd_le i (by omega))
   have HBD1 := aM (bd_le (i + 1) (by omega))
   have HS1 := HS.out
   rw [drop_ats l i hj, of10Go] at HS1
   generalize l.getD i [] = x at *
   have HU := aM hux
   have HC := aM hcx
   obtain ⟨cut, hcut0⟩ : ∃ c, c = cutGo x [] out := ⟨_, rfl⟩
   rw [← hcut0] at HS1
   have HCUT := aM (show cutGo x [] (out.drop 0) = cut from hcut0.symm)
   have HS2 := aM HS1
   clear HS1 HS hux hcx hcut0
   obtain ⟨Ao, co, rfl, _, _⟩ := HO.out.now
   obtain ⟨Ar, cr, rfl, _, _⟩ := HRE.out.now
   have hi0 : (0 : Int) ≤ (i : Int) := by omega
   have hi1 : (i : Int) < (l.length : Int) := by omega
   go_wp2_with fail
   go_loopg [6, 7] out.length (fun m v6 v7 w' => ∃ (k : Nat) (next : List (List Sp)), v7 = .int .i64 k ∧ Aside0 (k + m = out.length) ∧ Aside0 (PV kSps X w' v6 next) ∧ Aside0 (PV kSps X w' (.slice Ao out.length co) out) ∧ Aside0 (PV kSp X w' (.slice Ar rest.length cr) rest) ∧ Aside0 (Pt (64 + 2 * bd i) next ∧ next.length ≤ 2 * k) ∧ Aside0 (cutGo x next (out.drop k) = cut) ∧ Aside0 (Below w.heap.size w w'))
   case atStart => exact ⟨0, [], rfl, ⟨by omega⟩, ⟨PV.nil _ _ _⟩, HO, HRE, ⟨pt_nil _, Nat.zero_le _⟩, HCUT, HB⟩
   case round =>
    clear HCUT HO HRE HB
    obtain ⟨k, next, rfl, HK, HN, HO, HRE, HPN, HCUT, HB⟩ := hrel
    have HXw := aM (show ∀ k, X k → k < _ from fun k hk => Nat.lt_of_lt_of_le (HX.out k hk) HB.out.size)
    have HUX := aM (HU.out.below HB.out)
    have y1 := pw_cell_below HB.out HC.out
    cases gk with
    | succ k2 =>
     have hk : k < out.length := by have := HK.out; omega
     obtain ⟨ao, co', uo, eo, huo, hco⟩ := HO.out.row k hk
     cases eo
     have HPP := aM (HP.out.1.1.sm (mem_getD out [] k hk))
     have HC2 := aM (show cutGo x (some10 (some10 next (makeL (out.getD k []) x 8)) (makeL (out.getD k []) x 2)) (out.drop (k + 1)) = cut by rw [← cut_split x next out k hk]; exact HCUT.out)
     have HPL := aM (pair_len next (out.getD k []) x)
     have HPT := aM (cut_pt (B := bd i) (C := 64 + 2 * bd i) x [out.getD k []] next (fun q hq => HP.out.1.1 q (by simp at hq; subst hq; exact mem_getD out [] k hk)) HPN.out.1 (by have := HXS.out.2; omega))
     have HM8 := aM (make_len (out.getD k []) x 8)
     have HM2 := aM (make_len (out.getD k []) x 2)
     generalize out.getD k [] = p at *
     have hk0 : (0 : Int) ≤ (k : Int) := by omega
     have hk3 : (k : Int) < (out.length : Int) := by omega
     have hk5 : k < 100 := by have := HP.out.1.2; have := HBD.out.2; omega
     have HUO := aM huo
     clear huo
     have b1 : Below wr.heap.size wr wr.drew := below_drew (Below.refl _ _)
     have HB1 := aM b1
     have yd0 := pw_cell_below b1 hco
     have yd1 := pw_cell_below b1 y1
     clear b1
     obtain ⟨A6, c6, e6, _, _⟩ := HN.out.now
     subst e6
     go_wp2_with fail
     refine start_ (n := 12) (S := fun w' => w'.cell? (ao.add k) = some uo ∧ w'.cell? (ax.add i) = some ux) (ds := []) #[false, false, false, false, false, false, false, false, false, false, false, false] (by kernel_rfl) rfl rfl ⟨yd0, yd1⟩ (fun hHeld => ?_)
     refine pure_ (i := 0) (N := some 22) (v := ?_) (a' := ?_) (bv 12 1) rfl rfl (by kernel_rfl) (fun _ _ _ h => h) (Or.inl ⟨by rfl, ?_⟩) ?_ ?_
     rotate_left
     ·intro w'
      go_simp
      with_reducible rfl
     rotate_left
     ·simp only [Act.put, qA, qB, qC, i64_w, i32_w]
      rfl
     refine pure_ (i := 1) (N := some 23) (v := ?_) (a' := ?_) (bv 12 3) rfl rfl (by kernel_rfl) (fun _ _ _ h => h) (Or.inl ⟨by rfl, ?_⟩) ?_ ?_
     rotate_left
     ·intro w'
      go_simp
      with_reducible rfl
     rotate_left
     ·simp only [Act.put, qA, qB, qC, i64_w, i32_w]
      rfl
     refine pure_ (i := 2) (N := some 24) (v := ?_) (a' := ?_) (bv 12 7) rfl rfl (by kernel_rfl) (fun _ _ _ h => h) (Or.inl ⟨by rfl, ?_⟩) ?_ ?_
     rotate_left
     ·intro w'
      go_simp
      with_reducible rfl
     rotate_left
     ·simp only [Act.put, qA, qB, qC, i64_w, i32_w]
      rfl
     refine pure_ (i := 3) (N := some 25) (v := ?_) (a' := ?_) (bv 12 15) rfl rfl (by kernel_rfl) (fun _ _ _ h => h) (Or.inl ⟨by rfl, ?_⟩) ?_ ?_
     rotate_left
     ·intro w'
      go_simp
      with_reducible rfl
     rotate_left
     ·simp only [Act.put, qA, qB, qC, i64_w, i32_w]
      rfl
     refine pure_ (i := 5) (N := some 27) (v := ?_) (a' := ?_) (bv 12 47) rfl rfl (by kernel_rfl) (fun _ _ _ h => h) (Or.inl ⟨by rfl, ?_⟩) ?_ ?_
     rotate_left
     ·intro w'
      go_simp
      with_reducible rfl
     rotate_left
     ·simp only [Act.put, qA, qB, qC, i64_w, i32_w]
      rfl
     refine pure_ (i := 6) (N := some 28) (v := ?_) (a' := ?_) (bv 12 111) rfl rfl (by kernel_rfl) (fun _ _ _ h => h) (Or.inl ⟨by rfl, ?_⟩) ?_ ?_
     rotate_left
     ·intro w'
      go_simp
      with_reducible rfl
     rotate_left
     ·simp only [Act.put, qA, qB, qC, i64_w, i32_w]
      rfl
     refine pure_ (i := 7) (N := some 29) (v := ?_) (a' := ?_) (bv 12 239) rfl rfl (by kernel_rfl) (fun _ _ _ h => h) (Or.inl ⟨by rfl, ?_⟩) ?_ ?_
     rotate_left
     ·intro w'
      go_simp
      with_reducible rfl
     rotate_left
     ·simp only [Act.put, qA, qB, qC, i64_w, i32_w]
      rfl
     refine take_ (i := 4) (N := some 26) (v := ?_) (a' := ?_) (bv 12 255) rfl rfl (by kernel_rfl) (fun _ _ _ h => h) (Or.inl ⟨by rfl, ?_⟩) hHeld ?_ ?_
     rotate_left
     ·rintro w' ⟨s0, s1⟩
      go_simp
      with_reducible rfl
     rotate_left
     ·simp only [Act.put, qA, qB, qC, i64_w, i32_w]
      rfl
     refine take_ (i := 8) (N := some 30) (v := ?_) (a' := ?_) (bv 12 511) rfl rfl (by kernel_rfl) (fun _ _ _ h => h) (Or.inl ⟨by rfl, ?_⟩) hHeld ?_ ?_
     rotate_left
     ·rintro w' ⟨s0, s1⟩
      go_simp
      with_reducible rfl
     rotate_left
     ·simp only [Act.put, qA, qB, qC, i64_w, i32_w]
      rfl
     refine one_ (i := 9) (N := some 31) (bv 12 1023) rfl rfl (by kernel_rfl) (by decide) (fun K hK => ?_)
     refine goes_ Tryz.func59 (by kernel_rfl) rfl #[uo, ux] (by rfl) rfl rfl (by simp only [List.map_toArray, List.map_cons, List.map_nil]; rfl) ?_
     with_reducible refine (Inter_calls X uo ux p x _ (fun k hk => Nat.lt_of_lt_of_le (HXw.out k hk) HB1.out.size) (HUO.out.below HB1.out) (HUX.out.below HB1.out) HPP.out.1 HXS.out.1 (by have := HPP.out.2; have := HBD.out.1; omega) (by have := HXS.out.2; omega)).mono ?_
     rintro e w5 ⟨v5, rfl, hv5, hb5⟩
     refine ⟨_, rfl, ?_⟩
     have H5 := aM hv5
     have HB5 := aM (below_step HB1.out hb5)
     have z0 := pw_cell_below hb5 hHeld.1
     have z1 := pw_cell_below hb5 hHeld.2
     clear hv5 hb5 hHeld
     refine hK.out _ _ ⟨z0, z1⟩ (fun hHeld => ?_)
     clear hK K
     refine norm_ (a' := ?_) ?_ ?_
     rotate_left
     ·show Act.put _ (some 31) _ = _
      simp only [Act.put, qA, qB, qC, i64_w, i32_w]
      rfl
     refine one_ (i := 10) (N := some 32) (bv 12 2047) rfl rfl (by kernel_rfl) (by decide) (fun K hK => ?_)
     refine goes_ Tryz.func70 (by kernel_rfl) rfl #[.slice A6 next.length c6, v5] (by rfl) rfl rfl (by simp only [List.map_toArray, List.map_cons, List.map_nil]; rfl) ?_
     with_reducible refine (some10_calls X _ v5 next (makeL p x 8) _ (fun k hk => Nat.lt_of_lt_of_le (HXw.out k hk) HB5.out.size) (HN.out.below HB5.out) H5.out (by have := HPN.out.2; omega)).mono ?_
     rintro e w6 ⟨v6, rfl, hv6, hb6⟩
     refine ⟨_, rfl, ?_⟩
     have H6 := aM hv6
     have HB6 := aM (below_step HB5.out hb6)
     have z2 := pw_cell_below hb6 hHeld.1
     have z3 := pw_cell_below hb6 hHeld.2
     clear hv6 hb6 hHeld
     refine hK.out _ _ ⟨z2, z3⟩ (fun hHeld => ?_)
     clear hK K
     refine norm_ (a' := ?_) ?_ ?_
     rotate_left
     ·show Act.put _ (some 32) _ = _
      simp only [Act.put, qA, qB, qC, i64_w, i32_w]
      rfl
     refine pure_ (i := 11) (N := some 6) (v := ?_) (a' := ?_) (bv 12 4095) rfl rfl (by kernel_rfl) (fun _ _ _ h => h) (Or.inl ⟨by rfl, ?_⟩) ?_ ?_
     rotate_left
     ·intro w'
      go_simp
      with_reducible rfl
     rotate_left
     ·simp only [Act.put, qA, qB, qC, i64_w, i32_w]
      rfl
     refine done_ (by kernel_rfl) ?_
     clear hHeld
     go_wp2_with fail
     have b2 := below_drew HB6.out
     have HB7 := aM b2
     have ye0 := pw_cell_below b2 hco
     have ye1 := pw_cell_below b2 y1
     clear b2 z0 z1 z2 z3 yd0 yd1
     have HS8 := aM (some10_len next (makeL p x 8))
     refine start_ (n := 12) (S := fun w' => w'.cell? (ao.add k) = some uo ∧ w'.cell? (ax.add i) = some ux) (ds := []) #[false, false, false, false, false, false, false, false, false, false, false, false] (by kernel_rfl) rfl rfl ⟨ye0, ye1⟩ (fun hHeld => ?_)
     refine pure_ (i := 0) (N := some 33) (v := ?_) (a' := ?_) (bv 12 1) rfl rfl (by kernel_rfl) (fun _ _ _ h => h) (Or.inl ⟨by rfl, ?_⟩) ?_ ?_
     rotate_left
     ·intro w'
      go_simp
      with_reducible rfl
     rotate_left
     ·simp only [Act.put, qA, qB, qC, i64_w, i32_w]
      rfl
     refine pure_ (i := 1) (N := some 34) (v := ?_) (a' := ?_) (bv 12 3) rfl rfl (by kernel_rfl) (fun _ _ _ h => h) (Or.inl ⟨by rfl, ?_⟩) ?_ ?_
     rotate_left
     ·intro w'
      go_simp
      with_reducible rfl
     rotate_left
     ·simp only [Act.put, qA, qB, qC, i64_w, i32_w]
      rfl
     refine pure_ (i := 2) (N := some 35) (v := ?_) (a' := ?_) (bv 12 7) rfl rfl (by kernel_rfl) (fun _ _ _ h => h) (Or.inl ⟨by rfl, ?_⟩) ?_ ?_
     rotate_left
     ·intro w'
      go_simp
      with_reducible rfl
     rotate_left
     ·simp only [Act.put, qA, qB, qC, i64_w, i32_w]
      rfl
     refine pure_ (i := 3) (N := some 36) (v := ?_) (a' := ?_) (bv 12 15) rfl rfl (by kernel_rfl) (fun _ _ _ h => h) (Or.inl ⟨by rfl, ?_⟩) ?_ ?_
     rotate_left
     ·intro w'
      go_simp
      with_reducible rfl
     rotate_left
     ·simp only [Act.put, qA, qB, qC, i64_w, i32_w]
      rfl
     refine pure_ (i := 5) (N := some 38) (v := ?_) (a' := ?_) (bv 12 47) rfl rfl (by kernel_rfl) (fun _ _ _ h => h) (Or.inl ⟨by rfl, ?_⟩) ?_ ?_
     rotate_left
     ·intro w'
      go_simp
      with_reducible rfl
     rotate_left
     ·simp only [Act.put, qA, qB, qC, i64_w, i32_w]
      rfl
     refine pure_ (i := 6) (N := some 39) (v := ?_) (a' := ?_) (bv 12 111) rfl rfl (by kernel_rfl) (fun _ _ _ h => h) (Or.inl ⟨by rfl, ?_⟩) ?_ ?_
     rotate_left
     ·intro w'
      go_simp
      with_reducible rfl
     rotate_left
     ·simp only [Act.put, qA, qB, qC, i64_w, i32_w]
      rfl
     refine pure_ (i := 7) (N := some 40) (v := ?_) (a' := ?_) (bv 12 239) rfl rfl (by kernel_rfl) (fun _ _ _ h => h) (Or.inl ⟨by rfl, ?_⟩) ?_ ?_
     rotate_left
     ·intro w'
      go_simp
      with_reducible rfl
     rotate_left
     ·simp only [Act.put, qA, qB, qC, i64_w, i32_w]
      rfl
     refine take_ (i := 4) (N := some 37) (v := ?_) (a' := ?_) (bv 12 255) rfl rfl (by kernel_rfl) (fun _ _ _ h => h) (Or.inl ⟨by rfl, ?_⟩) hHeld ?_ ?_
     rotate_left
     ·rintro w' ⟨s0, s1⟩
      go_simp
      with_reducible rfl
     rotate_left
     ·simp only [Act.put, qA, qB, qC, i64_w, i32_w]
      rfl
     refine take_ (i := 8) (N := some 41) (v := ?_) (a' := ?_) (bv 12 511) rfl rfl (by kernel_rfl) (fun _ _ _ h => h) (Or.inl ⟨by rfl, ?_⟩) hHeld ?_ ?_
     rotate_left
     ·rintro w' ⟨s0, s1⟩
      go_simp
      with_reducible rfl
     rotate_left
     ·simp only [Act.put, qA, qB, qC, i64_w, i32_w]
      rfl
     refine one_ (i := 9) (N := some 42) (bv 12 1023) rfl rfl (by kernel_rfl) (by decide) (fun K hK => ?_)
     refine goes_ Tryz.func71 (by kernel_rfl) rfl #[uo, ux] (by rfl) rfl rfl (by simp only [List.map_toArray, List.map_cons, List.map_nil]; rfl) ?_
     with_reducible refine (Minus_calls X uo ux p x _ (fun k hk => Nat.lt_of_lt_of_le (HXw.out k hk) HB7.out.size) (HUO.out.below HB7.out) (HUX.out.below HB7.out) HPP.out.1 HXS.out.1 (by have := HPP.out.2; have := HBD.out.1; omega) (by have := HXS.out.2; omega)).mono ?_
     rintro e w8 ⟨v8, rfl, hv8, hb8⟩
     refine ⟨_, rfl, ?_⟩
     have H8 := aM hv8
     have H68 := aM ((H6.out.below (below_drew (Below.refl _ _))).below hb8)
     have HB8 := aM (below_step HB7.out hb8)
     have z0 := pw_cell_below hb8 hHeld.1
     have z1 := pw_cell_below hb8 hHeld.2
     clear hv8 hb8 hHeld
     refine hK.out _ _ ⟨z0, z1⟩ (fun hHeld => ?_)
     clear hK K
     refine norm_ (a' := ?_) ?_ ?_
     rotate_left
     ·show Act.put _ (some 42) _ = _
      simp only [Act.put, qA, qB, qC, i64_w, i32_w]
      rfl
     refine one_ (i := 10) (N := some 43) (bv 12 2047) rfl rfl (by kernel_rfl) (by decide) (fun K hK => ?_)
     refine goes_ Tryz.func70 (by kernel_rfl) rfl #[v6, v8] (by rfl) rfl rfl (by simp only [List.map_toArray, List.map_cons, List.map_nil]; rfl) ?_
     with_reducible refine (some10_calls X v6 v8 (some10 next (makeL p x 8)) (makeL p x 2) _ (fun k hk => Nat.lt_of_lt_of_le (HXw.out k hk) HB8.out.size) H68.out H8.out (by have := HPN.out.2; have := HS8.out; omega)).mono ?_
     rintro e w9 ⟨v9, rfl, hv9, hb9⟩
     refine ⟨_, rfl, ?_⟩
     have H9 := aM hv9
     have HB9 := aM (below_step HB8.out hb9)
     have z2 := pw_cell_below hb9 hHeld.1
     have z3 := pw_cell_below hb9 hHeld.2
     clear hv9 hb9 hHeld
     refine hK.out _ _ ⟨z2, z3⟩ (fun hHeld => ?_)
     clear hK K
     refine norm_ (a' := ?_) ?_ ?_
     rotate_left
     ·show Act.put _ (some 43) _ = _
      simp only [Act.put, qA, qB, qC, i64_w, i32_w]
      rfl
     refine pure_ (i := 11) (N := some 6) (v := ?_) (a' := ?_) (bv 12 4095) rfl rfl (by kernel_rfl) (fun _ _ _ h => h) (Or.inl ⟨by rfl, ?_⟩) ?_ ?_
     rotate_left
     ·intro w'
      go_simp
      with_reducible rfl
     rotate_left
     ·simp only [Act.put, qA, qB, qC, i64_w, i32_w]
      rfl
     refine done_ (by kernel_rfl) ?_
     clear hHeld z0 z1 z2 z3 ye0 ye1
     go_wp2_with fail
     go_roundg k2
     case measure => omega
     case rel => exact ⟨k + 1, _, by go_num, ⟨by have := HK.out; omega⟩, H9, ⟨HO.out.below HB9.out⟩, ⟨HRE.out.below HB9.out⟩, ⟨HPT.out, by have := HPL.out; have := HPN.out.2; omega⟩, HC2, ⟨below_step HB.out HB9.out⟩⟩
    | zero =>
     have hd : decide ((k : Int) < (out.length : Int)) = false := dF (by have := HK.out; omega)
     have hd2 : decide (k < out.length) = false := dF (by have := HK.out; omega)
     have e0 : next = cut := by
      have := HCUT.out
      rw [List.drop_eq_nil_of_le (by have := HK.out; omega)] at this
      exact this
     subst e0
     obtain ⟨A6, c6, e6, _, _⟩ := HN.out.now
     subst e6
     have HNL := aM (show next.length ≤ 2 * cn i by have := HPN.out.2; have := HK.out; have := HP.out.1.2; omega)
     have HM8 := aM (make_len rest x 8)
     have HM2 := aM (make_len rest x 2)
     have HRL := aM (show rest.length ≤ 2000 by have := HP.out.2.1; have := HBD.out.1; omega)
     have HRS := aM (InS.sm HP.out.2.2)
     go_wp2_with (first
      | (go_at_call 59; (with_reducible refine (Inter_calls X _ _ rest x _ HXw.out HRE.out HUX.out HRS.out HXS.out.1 (by have := HRL.out; omega) (by have := HXS.out.2; omega)).mono ?_); rintro e w4 ⟨v4, rfl, hv, hb⟩; have H4 := aM hv; have HB4 := aM hb; have y4 := pw_cell_below hb y1; clear hv hb)
      | (go_at_call 70; (with_reducible refine (some10_calls X _ _ next (makeL rest x 8) _ (fun k hk => Nat.lt_of_lt_of_le (HXw.out k hk) HB4.out.size) (HN.out.below HB4.out) H4.out (by have := HNL.out; have := HBD.out.2; omega)).mono ?_); rintro e w5 ⟨v5, rfl, hv, hb⟩; have H5 := aM hv; have HB5 := aM (below_step HB4.out hb); have y5 := pw_cell_below hb y4; clear hv hb y4)
      | (go_at_call 71; (with_reducible refine (Minus_calls X _ _ rest x _ (fun k hk => Nat.lt_of_lt_of_le (HXw.out k hk) HB5.out.size) (HRE.out.below HB5.out) (HUX.out.below HB5.out) HRS.out HXS.out.1 (by have := HRL.out; omega) (by have := HXS.out.2; omega)).mono ?_); rintro e w6 ⟨v6, rfl, hv, hb⟩; have H6 := aM hv; have H56 := aM (H5.out.below hb); have HB6 := aM (below_step HB5.out hb); clear hv hb))
     go_roundg k1
     case measure => omega
     case rel => exact ⟨i + 1, _, _, by go_num, ⟨by have := HJ.out; omega⟩, H56, H6, ⟨⟨some10_pt HPN.out.1 (by have := HM8.out; have := HXS.out.2; have := HP.out.2.1; show _ ≤ 64 + 2 * bd i; omega) (make_in _ _ _), by have := some10_len next (makeL rest x 8); have := HNL.out; show _ ≤ 2 * cn i + 1; omega⟩, by have := HM2.out; have := HXS.out.2; have := HP.out.2.1; show _ ≤ 64 + 2 * bd i; omega, make_in _ _ _⟩, HS2, ⟨below_step HB.out HB6.out⟩⟩
end Go.Proofs.YtplhfgobeicegaaGreatDoor.P
namespace Go.Proofs.YtplhfgobeicegaaGreatDoor.P
open Go Go.RowKit Go.Proofs.YtplhfgobeicegaaGreatDoorW.PrintWords Go.Proofs.YtplhfgobeicegaaGreatDoorW.PrintLast Go.Proofs.YtplhfgobeicegaaGreatDoorW.PrintMore Go.Proofs.YtplhfgobeicegaaGreatDoor.PX
attribute [local go_sem] max2_int min2_int max_two min_two
set_option linter.unusedVariables false
set_option linter.unusedSimpArgs false
set_option maxRecDepth 100000
abbrev kRow : Kd (List Int) := Kd.slice 3 kInt
abbrev kU16s : Kd (List Int) := Kd.slice 30 (Kd.int .u16)
structure DfaS where
 parts : List (List Sp)
 next : List (List Int)
 tags : List Int
def lists11 (c : List (List Int)) : List (List Sp) := ((c.take 4).filter (fun x => decide (x.length < 8))).map spansL
def cell11 (next : List Int) (many : Int) (at_ : Nat) : Int := if 0 < next.length then mx ((next.getD (at_ % next.length) 0).tmod many) (-1) else 0
def row11 (next : List Int) (many : Int) (P i : Nat) : List Int := (List.range P).map (fun j => cell11 next many (i * P + j))
def tag11 (tags : List Int) (i : Nat) : Int := if i < tags.length then mx ((tags.getD i 0).tmod 4) (-1) else -1
def dfa11 (c : List (List Int)) (k : Int) (next tags : List Int) : DfaS :=
 ⟨of10 (lists11 c), (List.range (1 + k % 9).toNat).map (row11 next (1 + k % 9) (of10 (lists11 c)).length), (List.range (1 + k % 9).toNat).map (tag11 tags)⟩
theorem spans_len (l : List Int) : (spansL l).length ≤ 30 := by
 unfold spansL manyC
 rw [List.length_map, List.length_range]
 split <;> omega
theorem spans_sm (l : List Int) (h : ∀ x ∈ l, 0 ≤ x ∧ x < 65536) : Sm (spansL l) := by
 intro s hs
 unfold spansL at hs
 obtain ⟨j, hj, rfl⟩ := List.mem_map.1 hs
 have hj1 : j < manyC l := List.mem_range.1 hj
 have hj2 : 2 * j + 1 < l.length := by unfold manyC at hj1; split at hj1 <;> omega
 have p := place_in _ (h _ (mem_getD l 0 (2 * j) (by omega))).1
 have q := h _ (mem_getD l 0 (2 * j + 1) (by omega))
 unfold choice
 dsimp only
 omega
def l11 (c : List (List Int)) (i : Nat) : List (List Sp) := ((c.take i).filter (fun x => decide (x.length < 8))).map spansL
theorem l11_step (c : List (List Int)) (i : Nat) (h : i < c.length) : l11 c (i + 1) = if (c.getD i []).length < 8 then l11 c i ++ [spansL (c.getD i [])] else l11 c i := by
 unfold l11
 rw [take_at c [] i h, List.filter_append, List.map_append]
 split
 ·rename_i q
  rw [List.filter_cons_of_pos (by simpa using q)]
  rfl
 ·rename_i q
  rw [List.filter_cons_of_neg (by simpa using q)]
  simp
theorem l11_len (c : List (List Int)) (i : Nat) : (l11 c i).length ≤ i := by
 unfold l11
 rw [List.length_map]
 exact Nat.le_trans (List.length_filter_le _ _) (by rw [List.length_take]; omega)
theorem l11_mem (c : List (List Int)) (i : Nat) (hc : ∀ l ∈ c, ∀ x ∈ l, 0 ≤ x ∧ x < 65536) : ∀ x ∈ l11 c i, Sm x ∧ x.length ≤ 30 := by
 intro x hx
 unfold l11 at hx
 obtain ⟨y, hy, rfl⟩ := List.mem_map.1 hx
 exact ⟨spans_sm y (hc y (List.mem_of_mem_take (List.mem_filter.1 hy).1)), spans_len y⟩
theorem l11_all (c : List (List Int)) (i : Nat) (h : i = 4 ∨ (i ≤ 4 ∧ c.length ≤ i)) : l11 c i = lists11 c := by
 unfold l11 lists11
 rcases h with rfl | ⟨h, h2⟩
 ·rfl
 ·rw [List.take_of_length_le h2, List.take_of_length_le (by omega)]
set_option maxHeartbeats 4000000 in
theorem dfa11_calls (X : Nat → Prop) (v0 v2 v3 : Value) (c : List (List Int)) (k : Int) (next tags : List Int) (w : World) (hX : ∀ k, X k → k < w.heap.size) (h0 : PV kU16s X w v0 c) (h2 : PV (Kd.int .i8) X w v2 next) (h3 : PV (Kd.int .i8) X w v3 tags)
  (hc : ∀ l ∈ c, ∀ x ∈ l, 0 ≤ x ∧ x < 65536) (hk : 0 ≤ k ∧ k < 256) (hn : ∀ x ∈ next, -128 ≤ x ∧ x ≤ 127) (ht : ∀ x ∈ tags, -128 ≤ x ∧ x ≤ 127) :
  Calls Tryz.prog 41 #[v0, .int .u8 k, v2, v3] w fun e w' => ∃ vp vn vt, e = .returned (.agg #[vp, vn, vt]) ∧ PV kSps X w' vp (dfa11 c k next tags).parts ∧ PV kRow X w' vn (dfa11 c k next tags).next ∧ PV kInt X w' vt (dfa11 c k next tags).tags ∧ Below w.heap.size w w' := by
 have H0 := aM h0
 have H2 := aM h2
 have H3 := aM h3
 have HX := aM hX
 have HC := aM hc
 have HRN := aM hn
 have HRT := aM ht
 obtain ⟨A0, c0, rfl, _, _⟩ := h0.now
 obtain ⟨A2, c2, rfl, _, _⟩ := h2.now
 obtain ⟨A3, c3, rfl, _, _⟩ := h3.now
 have m0 := h0.max
 have m2 := h2.max
 have m3 := h3.max
 clear h0 h2 h3 hX hc hn ht
 obtain ⟨res, hres⟩ : ∃ r, r = dfa11 c k next tags := ⟨_, rfl⟩
 rw [← hres]
 obtain ⟨parts, hparts⟩ : ∃ p, p = of10 (lists11 c) := ⟨_, rfl⟩
 have HPA := aM hparts
 have HRES := aM (show res = ⟨parts, (List.range (1 + k % 9).toNat).map (row11 next (1 + k % 9) parts.length), (List.range (1 + k % 9).toNat).map (tag11 tags)⟩ by rw [hres, hparts]; rfl)
 clear hres hparts
 go_enter Tryz.func41, Tryz.ntmps41
 go_wp2_with fail
 obtain ⟨w1, hw1⟩ : ∃ w1, w1 = w.alloc (.cells #[.slice none 0 0, .slice none 0 0, .slice none 0 0] 80) := ⟨_, rfl⟩
 rw [← hw1]
 have HB1 := aM (show Below w.heap.size w w1 by rw [hw1]; exact below_alloc (Below.refl _ _) _)
 have HG8 := aM (show Box w1 w.heap.size 80 [.slice none 0 0, .slice none 0 0, .slice none 0 0] by rw [hw1]; exact Box.alloc w _ _)
 have HX1 := aM (show ∀ k, Xb X w.heap.size k → k < w1.heap.size from fun k hk => hk.elim (fun h => Nat.lt_of_lt_of_le (HX.out k h) HB1.out.size) (fun e => by rw [e]; exact HG8.out.lt))
 have HV0 := aM (H0.out.new HB1.out (Nat.le_refl _))
 have HV2 := aM (H2.out.new HB1.out (Nat.le_refl _))
 have HV3 := aM (H3.out.new HB1.out (Nat.le_refl _))
 have HXE := aM (show ∀ k, X k → Xb X w.heap.size k from fun k h => .inl h)
 have HXG8 := aM (show Xb X w.heap.size w.heap.size from .inr rfl)
 clear hw1 H0 H2 H3
 generalize hg8 : w.heap.size = g8 at *
 have HG0 := aM hg8
 clear hg8
 generalize Xb X g8 = Xa at *
 obtain ⟨n1, hn1⟩ : ∃ n1, n1 = if c.length ≤ 4 then c.length else 4 := ⟨_, rfl⟩
 have HN1 := aM (show n1 ≤ 4 ∧ n1 ≤ c.length ∧ (n1 = 4 ∨ c.length ≤ n1) by rw [hn1]; split <;> omega)
 clear hn1
 go_loopg [9, 10] n1 (fun m v9 v10 w' => ∃ (i : Nat) (out : List (List Sp)), v10 = .int .i64 i ∧ Aside0 (i + m = n1) ∧ Aside0 (out = l11 c i) ∧ Aside0 (Own kSps 91 (Xp Xa v9) w' w1.heap.size v9 out) ∧ Aside0 (Below w1.heap.size w1 w'))
 case atStart => exact ⟨0, [], rfl, ⟨by omega⟩, ⟨by unfold l11; rfl⟩, ⟨Own.nil _ _ _ _ _⟩, ⟨Below.refl _ _⟩⟩
 case round =>
  obtain ⟨i, out, rfl, HJ, HO, HW, HB⟩ := hrel
  obtain ⟨A9, c9, e9, _, _⟩ := HW.out.now
  subst e9
  cases gk with
  | succ k1 =>
   have hi4 : i < 4 := by have := HJ.out; have := HN1.out; omega
   have hic : i < c.length := by have := HJ.out; have := HN1.out; omega
   have d1 : decide ((i : Int) < (c.length : Int)) = true := dT (by omega)
   have d2 : decide ((i : Int) < 4) = true := dT (by omega)
   have d3 : decide (i < 4) = true := dT hi4
   have d4 : decide (i < c.length) = true := dT hic
   have hi0 : (0 : Int) ≤ (i : Int) := by omega
   have hi1 : (i : Int) < (c.length : Int) := by omega
   obtain ⟨ax, cx, ux, ex, hux, hcx⟩ := (HV0.out.under HB.out HW.out.base).row i hic
   cases ex
   have HST := aM (l11_step c i hic)
   have HXC := aM (HC.out _ (mem_getD c [] i hic))
   generalize c.getD i [] = x at *
   obtain ⟨Ax, cx2, rfl, _, _⟩ := hux.now
   have HU := aM hux
   have HXU := aM (HW.out.under (fun k hk => Nat.lt_of_lt_of_le (HX1.out k hk) HB.out.size))
   have HOL := aM (show out.length ≤ i by rw [HO.out]; exact l11_len c i)
   clear hux
   by_cases q : x.length < 8
   ·have d5 : decide ((x.length : Int) < 8) = true := dT (by omega)
    have d6 : decide (x.length < 8) = true := dT q
    have HO2 := aM (show out ++ [spansL x] = l11 c (i + 1) by rw [HST.out, if_pos q, HO.out])
    clear HO HST
    go_wp2_with (first
     | (go_at_call 52; (with_reducible refine (spans_calls _ _ x _ HXU.out HU.out HXC.out).mono ?_); rintro ee w5 ⟨v5, rfl, hv, hb⟩; have H5 := aM hv; have HB5 := aM (below_step HB.out hb); have HW5 := aM (HW.out.below hb); clear hv hb; obtain ⟨A5, c5, e5, _, _⟩ := H5.out.now; subst e5)
     | ((with_reducible refine gate_dst (N := 41) rfl ?_); refine lit kSps 91 (X := _) ?hg (N := 41) ?hd (xs := [spansL x]) (inner := [.slice A5 (spansL x).length c5]) ?hr ?hp (fun k hk => Nat.lt_of_lt_of_le (HW5.out.under (fun k hk => Nat.lt_of_lt_of_le (HX1.out k hk) HB5.out.size) k hk) (Nat.le_refl _)) (by simp) HB5.out HB5.out.size ?_; (case hd => rfl); (case hg => rfl); (case hr => first | (go_simp; done) | (go_simp; rfl)); (case hp => exact Reps.one (PK.slice H5.out) (Reps.none _ _)); intro v7 w7 hv hb3 hb; have H7 := aM hv; have HW7 := aM (HW5.out.below hb3); have HB7 := aM hb; clear hv hb3 hb; obtain ⟨A_v7, c_v7, e_v7, _⟩ := H7.out.now; subst e_v7)
     | ((with_reducible refine gate_builtin (b := .append) (xs := #[.tmp 35, .tmp 41]) rfl ?_); at_builtin; refine grow kSps w1.heap.size rfl (.tmp 35) (.tmp 41) 78 91 (.slice none 0 0) 24 rfl Tryz.underlying78 info91 rfl (by decide) (by omega) _ _ out [spansL x] rfl rfl HW7.out H7.out HB7.out.size (by have := HOL.out; simp; omega) HB7.out ?_; intro v8 w8 ho hat hg hb; have HW8 := aM ho; have HB8 := aM hb; clear ho hat hg hb))
    go_roundg k1
    case measure => omega
    case rel => exact ⟨i + 1, _, by go_num, ⟨by have := HJ.out; omega⟩, HO2, HW8, HB8⟩
   ·have d5 : decide ((x.length : Int) < 8) = false := dF (by omega)
    have d6 : decide (x.length < 8) = false := dF q
    have HO2 := aM (show out = l11 c (i + 1) by rw [HST.out, if_neg q, HO.out])
    clear HO HST
    go_wp2_with fail
    go_roundg k1
    case measure => omega
    case rel => exact ⟨i + 1, _, by go_num, ⟨by have := HJ.out; omega⟩, HO2, HW, HB⟩
  | zero =>
   have HF := aM (show out = lists11 c by rw [HO.out]; exact l11_all c i (by have := HJ.out; have := HN1.out; omega))
   have hcs : c.length ≤ i ∨ (i < c.length ∧ i = 4) := by have := HJ.out; have := HN1.out; omega
   have hi4 : i ≤ 4 := by have := HJ.out; have := HN1.out; omega
   have HPV := aM (HW.out.done HX1.out)
   have HOL := aM (show out.length ≤ 4 by rw [HO.out]; exact Nat.le_trans (l11_len c i) hi4)
   have HOM := aM (show ∀ x ∈ out, Sm x ∧ x.length ≤ 30 by rw [HO.out]; exact l11_mem c i HC.out)
   have HPA2 := aM (show parts = of10 out by rw [HPA.out, HF.out])
   clear HPA HF
   rcases hcs with h | ⟨h, h2⟩
   case' inl =>
    have d1 : decide ((i : Int) < (c.length : Int)) = false := dF (by omega)
    have d4 : decide (i < c.length) = false := dF (by omega)
   case' inr =>
    have d1 : decide ((i : Int) < (c.length : Int)) = true := dT (by omega)
    have d2 : decide ((i : Int) < 4) = false := dF (by omega)
    have d3 : decide (i < 4) = false := dF (by omega)
    have d4 : decide (i < c.length) = true := dT h
   all_goals
    go_wp2_with (first
     | (go_at_call 53; (with_reducible refine (of10_calls Xa _ out _ (fun k hk => Nat.lt_of_lt_of_le (HX1.out k hk) HB.out.size) HPV.out HOL.out HOM.out).mono ?_); rintro ee w5 ⟨v5, rfl, hv, hb⟩; have H5 := aM hv; have HB5 := aM (below_step HB.out hb); clear hv hb; obtain ⟨A5, c5, e5, _, _⟩ := H5.out.now; subst e5))
    obtain ⟨w6, hw6⟩ : ∃ w6, w6 = w5.alloc (.cells #[.slice A5 (of10 out).length c5, .slice none 0 0, .slice none 0 0] 80) := ⟨_, rfl⟩
    rw [← hw6]
    have HG11 := aM (show Box w6 w5.heap.size 80 [.slice A5 (of10 out).length c5, .slice none 0 0, .slice none 0 0] by rw [hw6]; exact Box.alloc w5 _ _)
    have hb6 : Below w5.heap.size w5 w6 := by rw [hw6]; exact below_alloc (Below.refl _ _) _
    have HB6 := aM hb6
    have HP6 := aM (H5.out.new hb6 (Nat.le_refl _))
    have HV26 := aM ((HV2.out.below HB5.out).new hb6 (Nat.le_refl _))
    have HV36 := aM ((HV3.out.below HB5.out).new hb6 (Nat.le_refl _))
    have hpo := HPA2.out
    rw [← hpo] at HG11 HP6 ⊢
    have HX5 := aM (show ∀ k, Xa k → k < w5.heap.size from fun k hk => Nat.lt_of_lt_of_le (HX1.out k hk) HB5.out.size)
    have HX6 := aM (show ∀ (W : World) (vals : List Value), Below w5.heap.size w5 W → Box W w5.heap.size 80 vals → ∀ k, Xb Xa w5.heap.size k → k < W.heap.size from fun W vals hb hg k hk => hk.elim (fun h => Nat.lt_of_lt_of_le (HX5.out k h) hb.size) (fun e => by rw [e]; exact hg.lt))
    have HXG := aM (show Xb Xa w5.heap.size w5.heap.size from .inr rfl)
    have HXE6 := aM (show ∀ k, Xa k → Xb Xa w5.heap.size k from fun k h => .inl h)
    have HPO := aM hpo
    clear hw6 hb6 hpo HPA2 HOM HPV H5 HW HV0 HV2 HV3 h d1 d4 HN1 HO HJ
    generalize Xb Xa w5.heap.size = Xc at *
    obtain ⟨M, hM⟩ : ∃ M : Nat, M = (1 + k % 9).toNat := ⟨_, rfl⟩
    have hM2 : 1 + k % 9 = (M : Int) := by omega
    have hM3 : 1 ≤ M ∧ M ≤ 9 := by omega
    rw [hM2] at HRES ⊢
    rw [Int.toNat_natCast] at HRES
    have HMM := aM hM3
    clear hM hM2 hM3
    obtain ⟨P, hP⟩ : ∃ P, P = parts.length := ⟨_, rfl⟩
    have HPP := aM hP
    rw [← hP] at HRES HG11 ⊢
    clear hP
    have HPM := aM (show P ≤ 15 by rw [HPP.out, HPO.out]; exact of10_len out HOL.out)
    clear HPO HOL
    go_loopg [13, 14] M (fun m v13 v14 w' => ∃ (i : Nat) (vN vT : Value) (nx : List (List Int)) (tg : List Int), (v14 = .int .i64 i ∧ v13 = .int .i64 ((i * P : Nat) : Int)) ∧ Aside0 (i + m = M) ∧ Aside0 (Box w' w5.heap.size 80 [.slice A5 P c5, vN, vT]) ∧ Aside0 (nx = (List.range i).map (row11 next M P) ∧ tg = (List.range i).map (tag11 tags)) ∧
     Aside0 (Own kRow 26 (Xp (Xp Xc vT) vN) w' w5.heap.size vN nx) ∧ Aside0 (Own kInt 3 (Xp (Xp Xc vT) vN) w' w5.heap.size vT tg) ∧ Aside0 (PV kSps (Xp (Xp Xc vT) vN) w' (.slice A5 parts.length c5) parts) ∧ Aside0 (PV (Kd.int .i8) (Xp (Xp Xc vT) vN) w' (.slice A2 next.length c2) next) ∧ Aside0 (PV (Kd.int .i8) (Xp (Xp Xc vT) vN) w' (.slice A3 tags.length c3) tags) ∧ Aside0 (Below w5.heap.size w5 w'))
    case atStart => exact ⟨0, .slice none 0 0, .slice none 0 0, [], [], ⟨rfl, by simp⟩, ⟨by omega⟩, HG11, ⟨rfl, rfl⟩, ⟨Own.nil _ _ _ _ _⟩, ⟨Own.nil _ _ _ _ _⟩, ⟨(HP6.out.to Xp_nil).to Xp_nil⟩, ⟨(HV26.out.to Xp_nil).to Xp_nil⟩, ⟨(HV36.out.to Xp_nil).to Xp_nil⟩, HB6⟩
    case round =>
     clear HG11 HP6 HV26 HV36
     obtain ⟨i, vN, vT, nx, tg, ⟨rfl, rfl⟩, HJ, HG, HE, HN, HT, HP, HV2, HV3, HB⟩ := hrel
     cases gk with
     | zero =>
      have d1 : decide ((i : Int) < (M : Int)) = false := dF (by have := HJ.out; omega)
      have d2 : decide (i < M) = false := dF (by have := HJ.out; omega)
      have q0 : (M : Int) ≤ (i : Int) := by have := HJ.out; omega
      obtain ⟨AN, cN, eN, _, _⟩ := HN.out.now
      subst eN
      obtain ⟨AT, cT, eT, _, _⟩ := HT.out.now
      subst eT
      have y0 := HG.out.cell 0 rfl
      have y1 := HG.out.cell 1 rfl
      have y2 := HG.out.cell 2 rfl
      have HG8w := aM ((HG8.out.below HB5.out (HG8.out.lt)).step HB.out)
      have z0 := HG8w.out.cell 0 rfl
      have z1 := HG8w.out.cell 1 rfl
      have z2 := HG8w.out.cell 2 rfl
      have f0 := HG8w.out.open_ 0
      have f1 := HG8w.out.open_ 1
      have f2 := HG8w.out.open_ 2
      go_wp2_with fail
      have HBF := aM (show Box (((wr.setCell ⟨g8, 0, none⟩ (.slice A5 P c5)).setCell ⟨g8, 1, none⟩ (.slice AN nx.length cN)).setCell ⟨g8, 2, none⟩ (.slice AT tg.length cT)) g8 80 [.slice A5 P c5, .slice AN nx.length cN, .slice AT tg.length cT] from ((HG8w.out.set 0 _).set 1 _).set 2 _)
      refine bodyPost_ret (results_cell_row rfl _ _ g8 80 #[.slice A5 P c5, .slice AN nx.length cN, .slice AT tg.length cT] (0, 0) _ rfl HBF.out Tryz.underlying80 rfl (by kernel_rfl)) rfl ?_
      have hXX : ∀ k, X k → Xp (Xp Xc (.slice AT tg.length cT)) (.slice AN nx.length cN) k := fun k hk => .inl (.inl (HXE6.out k (HXE.out k hk)))
      have hg : Xp (Xp Xc (.slice AT tg.length cT)) (.slice AN nx.length cN) g8 := .inl (.inl (HXE6.out _ HXG8.out))
      have hg5 : g8 < w5.heap.size := Nat.lt_of_lt_of_le HG8.out.lt HB5.out.size
      have hXl : ∀ k, X k → k < w5.heap.size := fun k hk => HX5.out k (HXE.out k hk)
      refine ⟨_, _, _, rfl, ?_, ?_, ?_, ?_⟩
      ·rw [HRES.out, HPP.out]
       exact (((HP.out.box hg 0 _).box hg 1 _).box hg 2 _).to (fun k _ hk => hXX k hk)
      ·have e : (List.range M).map (row11 next M P) = nx := by rw [HE.out.1, show i = M by have := HJ.out; omega]
       rw [HRES.out]
       show PV kRow X _ _ ((List.range M).map (row11 next M P))
       rw [e]
       have hne : ∀ k, (Value.slice AN nx.length cN).ownBlock = some k → k ≠ g8 := fun k hk => by have := HN.out.base k hk; omega
       exact (((HN.out.box hg hne 0 _).box hg hne 1 _).box hg hne 2 _).sealRo (fun k _ hk => hXX k hk) (fun k hk hx => by have := HN.out.base k hk; have := hXl k hx; omega)
      ·have e : (List.range M).map (tag11 tags) = tg := by rw [HE.out.2, show i = M by have := HJ.out; omega]
       rw [HRES.out]
       show PV kInt X _ _ ((List.range M).map (tag11 tags))
       rw [e]
       have hne : ∀ k, (Value.slice AT tg.length cT).ownBlock = some k → k ≠ g8 := fun k hk => by have := HT.out.base k hk; omega
       exact (((HT.out.box hg hne 0 _).box hg hne 1 _).box hg hne 2 _).sealRo (fun k _ hk => hXX k hk) (fun k hk hx => by have := HT.out.base k hk; have := hXl k hx; omega)
      ·have hg0 := HG0.out
       subst hg0
       exact (((below_step (below_step HB1.out HB5.out) HB.out).setCell (Nat.le_refl _) _).setCell (Nat.le_refl _) _).setCell (Nat.le_refl _) _
     | succ k1 =>
      have hiM : i < M := by have := HJ.out; omega
      have hi9 : i < 9 := by have := HMM.out; omega
      have d1 : decide ((i : Int) < (M : Int)) = true := dT (by omega)
      have d2 : decide (i < M) = true := dT hiM
      have HXo := aM (HN.out.under (fun k hk => hk.elim (HX6.out _ _ HB.out HG.out k) (HT.out.lt k)))
      obtain ⟨wo, hwo⟩ : ∃ wo, wo = wr := ⟨_, rfl⟩
      subst hwo
      go_wp2_with fail
      go_loopg [13, 15, 16] P (fun m v13 v15 v16 w' => ∃ (j : Nat) (row : List Int), (v16 = .int .i64 j ∧ v13 = .int .i64 ((i * P + j : Nat) : Int)) ∧ Aside0 (j + m = P) ∧ Aside0 (row = (List.range j).map (fun j => cell11 next M (i * P + j))) ∧ Aside0 (Own kInt 3 (Xp (Xp (Xp Xc vT) vN) v15) w' wo.heap.size v15 row) ∧ Aside0 (Below wo.heap.size wo w'))
      case atStart => exact ⟨0, [], ⟨rfl, by simp⟩, ⟨by omega⟩, ⟨rfl⟩, ⟨Own.nil _ _ _ _ _⟩, ⟨Below.refl _ _⟩⟩
      case round =>
       obtain ⟨j, row, ⟨rfl, rfl⟩, HJ2, HR, HW, HB2⟩ := hrel
       have HBX := aM (HG.out.step HB2.out)
       have y0 := HBX.out.cell 0 rfl
       obtain ⟨A15, c15, e15, _, _⟩ := HW.out.now
       subst e15
       cases gk with
       | zero =>
        have hj : j = P := by have := HJ2.out; omega
        have d3 : decide ((j : Int) < (P : Int)) = false := dF (by omega)
        have d4 : decide (j < P) = false := dF (by omega)
        have q0 : (P : Int) ≤ (j : Int) := by omega
        have HRW := aM (show row = row11 next M P i by rw [HR.out, hj]; rfl)
        have HNX := aM (show nx ++ [row] = (List.range (i + 1)).map (row11 next M P) by rw [HE.out.1, HRW.out, List.range_succ, List.map_append]; rfl)
        have HNL := aM (show nx.length = i ∧ tg.length = i by rw [HE.out.1, HE.out.2]; simp)
        obtain ⟨t, ht⟩ : ∃ t, t = tag11 tags i := ⟨_, rfl⟩
        have HTG := aM (show tg ++ [t] = (List.range (i + 1)).map (tag11 tags) by rw [HE.out.2, ht, List.range_succ, List.map_append]; rfl)
        have HTT := aM ht
        have HIP := aM (show i * P + j = (i + 1) * P by rw [hj, Nat.succ_mul])
        have HROW := aM (HW.out.done HXo.out)
        have HB3 := aM (below_step HB.out HB2.out)
        have HNr := aM (HN.out.below HB2.out)
        have HTr := aM (HT.out.below HB2.out)
        have HPr := aM (HP.out.below HB2.out)
        have HV2r := aM (HV2.out.below HB2.out)
        have HV3r := aM (HV3.out.below HB2.out)
        rw [HIP.out]
        have HXr := aM (show ∀ k, Xp (Xp Xc vT) vN k → k < _ from fun k hk => Nat.lt_of_lt_of_le (HXo.out k hk) HB2.out.size)
        clear ht hj HR HE HN HT HP HV2 HV3 HW
        go_upto_if 85 with (fail)
        go_cut [18] (fun v18 wc => v18 = .int .i64 t ∧ wc = wr)
        case first =>
         rcases Nat.lt_or_ge i tags.length with h0 | h0
         ·have d5 : decide ((i : Int) < (tags.length : Int)) = true := dT (by omega)
          have d6 : decide (i < tags.length) = true := dT h0
          obtain ⟨an, cn2, en, yn⟩ := intk_cell HV3r.out i h0
          cases en
          obtain ⟨z, hz⟩ : ∃ z, z = tags.getD i 0 := ⟨_, rfl⟩
          obtain ⟨y, hy⟩ : ∃ y, y = z.tmod 4 := ⟨_, rfl⟩
          have HX2 := aM (show t = mx y (-1) by rw [HTT.out]; unfold tag11; rw [if_pos h0, hy, hz])
          have hzr := HRT.out _ (mem_getD tags 0 i h0)
          rw [← hz] at yn hzr
          have hw1 : wrap64 z = z := IntWalk.wrap64_in _ (by omega)
          have hyr : -1000 ≤ y ∧ y ≤ 1000 := by
           rw [hy]
           have h1 := Int.tmod_lt_of_pos z (b := 4) (by omega)
           have h2 := Int.lt_tmod_of_pos z (b := 4) (by omega)
           omega
          obtain ⟨hy1, hy2⟩ := hyr
          replace hy := hy.symm
          clear hz hzr
          go_wp2_with fail
          all_goals
           go_meet
           case rel => exact ⟨by first | (rw [HX2.out]; done) | (rw [HX2.out]; rfl) | (rw [HX2.out]; unfold mx; split <;> first | rfl | (exfalso; omega)), rfl⟩
         ·have d5 : decide ((i : Int) < (tags.length : Int)) = false := dF (by omega)
          have d6 : decide (i < tags.length) = false := dF (by omega)
          have q1 : tags.length ≤ i := h0
          have q2 : (tags.length : Int) ≤ (i : Int) := by omega
          have HX2 := aM (show t = -1 by rw [HTT.out]; unfold tag11; rw [if_neg (by omega)])
          go_wp2_with fail
          go_meet
          case rel => exact ⟨by rw [HX2.out], rfl⟩
        case rest =>
         obtain ⟨rfl, hw⟩ := hcut
         obtain rfl := hw.symm
         clear HTT
         have yb1 := HBX.out.cell 1 rfl
         go_wp2_with (first
          | ((with_reducible refine gate_dst (N := 96) rfl ?_); refine lit kRow 26 (X := _) ?hg (N := 96) ?hd (xs := [row]) (inner := [.slice A15 row.length c15]) ?hr ?hp HXr.out (by simp) HB3.out HB3.out.size ?_; (case hd => rfl); (case hg => rfl); (case hr => first | (go_simp; done) | (go_simp; rfl)); (case hp => exact Reps.one (PK.slice HROW.out) (Reps.none _ _)); intro v7 w7 hv hb3 hb; have H7 := aM hv; have HN7 := aM (HNr.out.below hb3); have HT7 := aM (HTr.out.below hb3); have HP7 := aM (HPr.out.below hb3); have HV27 := aM (HV2r.out.below hb3); have HV37 := aM (HV3r.out.below hb3); have HG7 := aM (HBX.out.step hb3); have HB7 := aM hb; clear hv hb3 hb; obtain ⟨A_v7, c_v7, e_v7, _⟩ := H7.out.now; subst e_v7)
          | ((with_reducible refine gate_builtin (b := .append) (xs := #[.tmp 94, .tmp 96]) rfl ?_); at_builtin; refine grow kRow w5.heap.size rfl (.tmp 94) (.tmp 96) 25 26 (.slice none 0 0) 24 rfl Tryz.underlying25 info26 rfl (by decide) (by omega) _ _ nx [row] rfl rfl HN7.out H7.out HB7.out.size (by have := HNL.out.1; simp; omega) HB7.out ?_; intro v8 w8 ho hat hg hb; have HN8 := aM ho; obtain ⟨nx1, hnx1⟩ : ∃ q, q = nx ++ [row] := ⟨_, rfl⟩; rw [← hnx1] at ho; obtain ⟨A8, c8, e8, _, _⟩ := ho.now; subst e8; have HNE := aM hnx1; clear hnx1; have HT8 := aM (HT7.out.app hat hg (HT7.out.ne HN7.out (by decide))); have HP8 := aM (HP7.out.app hat hg); have HV28 := aM (HV27.out.app hat hg); have HV38 := aM (HV37.out.app hat hg); have HG8b := aM (HG7.out.grown hg (fun e => HN7.out.ne_box HG7.out (by decide) _ e.symm rfl)); have yc1 := HG8b.out.cell 1 rfl; have yf1 := HG8b.out.open_ 1; have HG9 := aM (HG8b.out.set 1 (.slice A8 nx1.length c8)); have HX8 := aM (show Xp (Xp Xc vT) (.slice A8 nx1.length c8) w5.heap.size from .inl (.inl HXG.out)); have HN9 := aM ((ho.box HX8.out (ho.ne_box HG8b.out (by decide)) 1 (.slice A8 nx1.length c8)).swap); have HT9 := aM ((HT8.out.box HX8.out (HT8.out.ne_box HG8b.out (by decide)) 1 (.slice A8 nx1.length c8)).swap); have HP9 := aM ((HP8.out.box HX8.out 1 (.slice A8 nx1.length c8)).swap); have HV29 := aM ((HV28.out.box HX8.out 1 (.slice A8 nx1.length c8)).swap); have HV39 := aM ((HV38.out.box HX8.out 1 (.slice A8 nx1.length c8)).swap); have HB9 := aM (below_set (j := 1) (v := (.slice A8 nx1.length c8)) hb (Nat.le_refl _)); have yd2 := HG9.out.cell 2 rfl; have HB8 := aM hb; clear ho hat hg hb)
          | ((with_reducible refine gate_dst (N := 102) rfl ?_); refine lit kInt 3 (X := _) ?hg (N := 102) ?hd (xs := [t]) (inner := [.int .i64 t]) ?hr ?hp (HT9.out.under (fun k hk => hk.elim (HX6.out _ _ HB9.out HG9.out k) (HN9.out.lt k))) (by simp) HB9.out HB9.out.size ?_; (case hd => rfl); (case hg => rfl); (case hr => first | (go_simp; done) | (go_simp; rfl)); (case hp => exact Reps.one (PK.scalar t) (Reps.none _ _)); intro v10 w10 hv hb3 hb; have H10 := aM hv; have HN10 := aM (HN9.out.below hb3); have HT10 := aM (HT9.out.below hb3); have HP10 := aM (HP9.out.below hb3); have HV210 := aM (HV29.out.below hb3); have HV310 := aM (HV39.out.below hb3); have HG10 := aM (HG9.out.step hb3); have HB10 := aM hb; clear hv hb3 hb; obtain ⟨A_v10, c_v10, e_v10, _⟩ := H10.out.now; subst e_v10)
          | ((with_reducible refine gate_builtin (b := .append) (xs := #[.tmp 100, .tmp 102]) rfl ?_); at_builtin; refine grow kInt w5.heap.size rfl (.tmp 100) (.tmp 102) 26 3 (.int .i64 0) 8 rfl Tryz.underlying26 info3 rfl (by decide) (by omega) _ _ tg [t] rfl rfl HT10.out H10.out HB10.out.size (by have := HNL.out.2; simp; omega) HB10.out ?_; intro v11 w11 ho hat hg hb; have HT11 := aM ho; obtain ⟨tg1, htg1⟩ : ∃ q, q = tg ++ [t] := ⟨_, rfl⟩; rw [← htg1] at ho; obtain ⟨A11, c11, e11, _, _⟩ := ho.now; subst e11; have HTE := aM htg1; clear htg1; have HN11 := aM (HN10.out.app hat hg (HN10.out.ne HT10.out (by decide))); have HP11 := aM (HP10.out.app hat hg); have HV211 := aM (HV210.out.app hat hg); have HV311 := aM (HV310.out.app hat hg); have HG11 := aM (HG10.out.grown hg (fun e => HT10.out.ne_box HG10.out (by decide) _ e.symm rfl)); have ye2 := HG11.out.cell 2 rfl; have yf2 := HG11.out.open_ 2; have HG12 := aM (HG11.out.set 2 (.slice A11 tg1.length c11)); have HX11 := aM (show Xp (Xp Xc (.slice A8 nx1.length c8)) (.slice A11 tg1.length c11) w5.heap.size from .inl (.inl HXG.out)); have HT12 := aM ((ho.box HX11.out (ho.ne_box HG11.out (by decide)) 2 (.slice A11 tg1.length c11)).swap); have HN12 := aM ((HN11.out.box HX11.out (HN11.out.ne_box HG11.out (by decide)) 2 (.slice A11 tg1.length c11)).swap); have HP12 := aM ((HP11.out.box HX11.out 2 (.slice A11 tg1.length c11)).swap); have HV212 := aM ((HV211.out.box HX11.out 2 (.slice A11 tg1.length c11)).swap); have HV312 := aM ((HV311.out.box HX11.out 2 (.slice A11 tg1.length c11)).swap); have HB12 := aM (below_set (j := 2) (v := (.slice A11 tg1.length c11)) hb (Nat.le_refl _)); have HB11 := aM hb; clear ho hat hg hb))
         go_roundg k1
         case measure => omega
         case rel => exact ⟨i + 1, _, _, nx1, tg1, ⟨by go_num, by go_num⟩, ⟨by have := HJ.out; omega⟩, HG12, ⟨by rw [HNE.out]; exact HNX.out, by rw [HTE.out]; exact HTG.out⟩, HN12, HT12, HP12, HV212, HV312, HB12⟩
       | succ k2 =>
        have hj : j < P := by have := HJ2.out; omega
        have hj15 : j < 15 := by have := HPM.out; omega
        have d3 : decide ((j : Int) < (P : Int)) = true := dT (by omega)
        have d4 : decide (j < P) = true := dT hj
        have HRW := aM (show row.length = j by rw [HR.out]; simp)
        obtain ⟨a, ha⟩ : ∃ a, a = i * P + j := ⟨_, rfl⟩
        have ha2 : a ≤ 1000 := by
         rw [ha]
         have : i * P ≤ 9 * 15 := Nat.mul_le_mul (by omega) HPM.out
         omega
        obtain ⟨x, hx⟩ : ∃ x, x = cell11 next M a := ⟨_, rfl⟩
        have HR2 := aM (show row ++ [x] = (List.range (j + 1)).map (fun j => cell11 next M (i * P + j)) by rw [HR.out, List.range_succ, List.map_append, hx, ha]; rfl)
        have HA := aM (show a + 1 = i * P + (j + 1) by omega)
        have HXX := aM hx
        rw [← ha]
        clear hx ha HR
        go_upto_if 64 with (fail)
        go_cut [17] (fun v17 wc => v17 = .int .i64 x ∧ wc = wr)
        case first =>
         rcases Nat.eq_zero_or_pos next.length with h0 | h0
         ·have d5 : decide ((next.length : Int) > 0) = false := dF (by omega)
          have d6 : decide (0 < next.length) = false := dF (by omega)
          have HX2 := aM (show x = 0 by rw [HXX.out]; unfold cell11; rw [if_neg (by omega)])
          have q1 : next.length ≤ 0 := by omega
          have q2 : (next.length : Int) ≤ 0 := by omega
          clear h0
          go_wp2_with fail
          go_meet
          case rel => exact ⟨by rw [HX2.out], rfl⟩
         ·have d5 : decide ((next.length : Int) > 0) = true := dT (by omega)
          have d6 : decide (0 < next.length) = true := dT h0
          obtain ⟨an, cn2, en, yn⟩ := intk_cell (HV2.out.below HB2.out) (a % next.length) (Nat.mod_lt _ h0)
          cases en
          obtain ⟨z, hz⟩ : ∃ z, z = next.getD (a % next.length) 0 := ⟨_, rfl⟩
          obtain ⟨y, hy⟩ : ∃ y, y = z.tmod (M : Int) := ⟨_, rfl⟩
          have HX2 := aM (show x = mx y (-1) by rw [HXX.out]; unfold cell11; rw [if_pos h0, hy, hz])
          have hzr := HRN.out _ (mem_getD next 0 (a % next.length) (Nat.mod_lt _ h0))
          rw [← hz] at yn hzr
          have hm : ((a : Int) % (next.length : Int)) = ((a % next.length : Nat) : Int) := (Int.natCast_emod _ _).symm
          have hm0 : (0 : Int) ≤ (a : Int) % (next.length : Int) := by rw [hm]; omega
          have hm1 : (a : Int) % (next.length : Int) < (next.length : Int) := by rw [hm]; have := Nat.mod_lt a h0; omega
          have hm2 : ((a : Int) % (next.length : Int)).toNat = a % next.length := by rw [hm]; rfl
          have hml : a % next.length < next.length := Nat.mod_lt _ h0
          obtain ⟨q, hq⟩ : ∃ q, q = a % next.length := ⟨_, rfl⟩
          rw [← hq] at hm hml yn hm2
          clear hm
          have hw1 : wrap64 z = z := IntWalk.wrap64_in _ (by omega)
          have hM1 : (1 : Int) ≤ (M : Int) := by have := HMM.out; omega
          have hyr : -1000 ≤ y ∧ y ≤ 1000 := by
           rw [hy]
           have := HMM.out
           have h1 := Int.tmod_lt_of_pos z (b := (M : Int)) (by omega)
           have h2 := Int.lt_tmod_of_pos z (b := (M : Int)) (by omega)
           omega
          obtain ⟨hy1, hy2⟩ := hyr
          replace hy := hy.symm
          clear hz hq hzr
          go_wp2_with fail
          all_goals
           go_meet
           case rel => exact ⟨by first | (rw [HX2.out]; done) | (rw [HX2.out]; rfl) | (rw [HX2.out]; unfold mx; split <;> first | rfl | (exfalso; omega)), rfl⟩
        case rest =>
         obtain ⟨rfl, hw⟩ := hcut
         obtain rfl := hw.symm
         clear HXX
         go_wp2_with (first
          | ((with_reducible refine gate_dst (N := 78) rfl ?_); refine lit kInt 3 (X := _) ?hg (N := 78) ?hd (xs := [x]) (inner := [.int .i64 x]) ?hr ?hp (HW.out.under (fun k hk => Nat.lt_of_lt_of_le (HXo.out k hk) HB2.out.size)) (by simp) HB2.out HB2.out.size ?_; (case hd => rfl); (case hg => rfl); (case hr => first | (go_simp; done) | (go_simp; rfl)); (case hp => exact Reps.one (PK.scalar x) (Reps.none _ _)); intro v7 w7 hv hb3 hb; have H7 := aM hv; have HW7 := aM (HW.out.below hb3); have HB7 := aM hb; clear hv hb3 hb; obtain ⟨A_v7, c_v7, e_v7, _⟩ := H7.out.now; subst e_v7)
          | ((with_reducible refine gate_builtin (b := .append) (xs := #[.tmp 76, .tmp 78]) rfl ?_); at_builtin; refine grow kInt wo.heap.size rfl (.tmp 76) (.tmp 78) 26 3 (.int .i64 0) 8 rfl Tryz.underlying26 info3 rfl (by decide) (by omega) _ _ row [x] rfl rfl HW7.out H7.out HB7.out.size (by have := HRW.out; simp; omega) HB7.out ?_; intro v8 w8 ho hat hg hb; have HW8 := aM ho; have HB8 := aM hb; clear ho hat hg hb))
         go_roundg k2
         case measure => omega
         case rel => exact ⟨j + 1, _, ⟨by go_num, by rw [← HA.out]; go_num⟩, ⟨by have := HJ2.out; omega⟩, HR2, HW8, HB8⟩
end Go.Proofs.YtplhfgobeicegaaGreatDoor.P
