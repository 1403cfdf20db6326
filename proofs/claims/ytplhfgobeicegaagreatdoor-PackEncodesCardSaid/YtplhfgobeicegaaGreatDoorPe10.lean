/- Part 10 of the proof: S13g, S13h, S14a. -/
import Derived.Test.YtplhfgobeicegaaGreatDoorPe7
namespace Go.Proofs.YtplhfgobeicegaaGreatDoor.P
open Go Go.RowKit Go.Proofs.YtplhfgobeicegaaGreatDoorW.PrintWords Go.Proofs.YtplhfgobeicegaaGreatDoorW.PrintLast Go.Proofs.YtplhfgobeicegaaGreatDoorW.PrintMore Go.Proofs.YtplhfgobeicegaaGreatDoor.PX
set_option linter.unusedVariables false
set_option linter.unusedSimpArgs false
set_option maxRecDepth 100000
def inB (l : List Sp) (x : Int) : Bool := l.any (fun s => decide (s.f0 ≤ x) && decide (x ≤ s.f1))
theorem in_calls (X : Nat → Prop) (v0 : Value) (l : List Sp) (r : Int) (w : World) (h0 : PV kSp X w v0 l) :
  Calls Tryz.prog 63 #[v0, .int .i64 r] w fun e w' => e = .returned (.bool (inB l r)) ∧ w' = w := by
 have H0 := aM h0
 have HS := aM (show ((l.drop 0).any fun s => decide (s.f0 ≤ r) && decide (r ≤ s.f1)) = inB l r from rfl)
 generalize inB l r = q at *
 obtain ⟨A0, c0, rfl, _, _⟩ := h0.now
 have hmx := h0.max
 clear h0
 go_enter Tryz.func63, Tryz.ntmps63
 go_wp2_with fail
 go_loopg [5] l.length (fun m v5 w' => ∃ (i : Nat), v5 = .int .i64 i ∧ Aside0 (i + m = l.length) ∧ Aside0 (((l.drop i).any fun s => decide (s.f0 ≤ r) && decide (r ≤ s.f1)) = q) ∧ w' = w)
 case atStart => exact ⟨0, rfl, ⟨by omega⟩, HS, rfl⟩
 case round =>
  clear HS
  obtain ⟨i, rfl, HJ, HS, hw⟩ := hrel
  subst hw
  cases gk with
  | zero =>
   have hd : decide ((i : Int) < (l.length : Int)) = false := dF (by have := HJ.out; omega)
   have hd2 : decide (i < l.length) = false := dF (by have := HJ.out; omega)
   have e0 : false = q := by
    have := HS.out
    rw [List.drop_eq_nil_of_le (by have := HJ.out; omega)] at this
    simpa using this
   subst e0
   go_wp2_with fail
   go_ret
   exact ⟨rfl, rfl⟩
  | succ k1 =>
   have hj : i < l.length := by have := HJ.out; omega
   have hj0 : (0 : Int) ≤ (i : Int) := by omega
   have hj1 : (i : Int) < (l.length : Int) := by omega
   obtain ⟨ad, c, e, y0, y1⟩ := sp_cell H0.out i hj
   cases e
   have HS1 := HS.out
   rw [drop_at l z124 i hj, List.any_cons] at HS1
   generalize l.getD i z124 = s at *
   clear HS
   by_cases c1 : s.f0 ≤ r
   ·by_cases c2 : r ≤ s.f1
    ·have d1 : decide (r ≥ s.f0) = true := dT c1
     have d2 : decide (r ≤ s.f1) = true := dT c2
     rw [dT c1, dT c2] at HS1
     have q0 : true = q := by simpa using HS1
     clear c1 c2 HS1
     subst q0
     go_wp2_with fail
     go_ret
     exact ⟨rfl, rfl⟩
    ·have d1 : decide (r ≥ s.f0) = true := dT c1
     have d2 : decide (r ≤ s.f1) = false := dF c2
     rw [dF c2, Bool.and_false, Bool.false_or] at HS1
     have HS2 := aM HS1
     clear HS1 c1 c2
     go_wp2_with fail
     go_roundg k1
     case measure => omega
     case rel => exact ⟨i + 1, by go_num, ⟨by have := HJ.out; omega⟩, HS2, rfl⟩
   ·have d1 : decide (r ≥ s.f0) = false := dF c1
    rw [dF c1, Bool.false_and, Bool.false_or] at HS1
    have HS2 := aM HS1
    clear HS1 c1
    go_wp2_with fail
    go_roundg k1
    case measure => omega
    case rel => exact ⟨i + 1, by go_num, ⟨by have := HJ.out; omega⟩, HS2, rfl⟩
def asL (next : List (List Int)) (tags firsts : List Int) : DfaS := ⟨firsts.map (fun f => [(⟨f, f⟩ : Sp)]), next.map (fun row => firsts.map (fun f => row.getD f.toNat 0)), tags⟩
set_option maxHeartbeats 8000000 in
theorem as_calls (X : Nat → Prop) (vn vt vf : Value) (next : List (List Int)) (tags firsts : List Int) (w : World) (hX : ∀ k, X k → k < w.heap.size) (hn : PV kRow X w vn next) (ht : PV kInt X w vt tags) (hf : PV kInt X w vf firsts)
  (hrow : ∀ i, i < next.length → (next.getD i []).length = 256) (hfr : ∀ f ∈ firsts, 0 ≤ f ∧ f < 256) (hfl : firsts.length ≤ 256) (hnl : next.length ≤ 100000000) :
  Calls Tryz.prog 62 #[.agg #[vn, vt], vf] w fun e w' => ∃ v0 v1, e = .returned (.agg #[v0, v1, vt]) ∧ PV kSps X w' v0 (asL next tags firsts).parts ∧ PV kRow X w' v1 (asL next tags firsts).next ∧ Below w.heap.size w w' := by
 have H1 := aM hn
 have H2 := aM ht
 have H3 := aM hf
 have HROW := aM hrow
 have HFR := aM hfr
 obtain ⟨An, cn, rfl, _, _⟩ := hn.now
 obtain ⟨At, ct, rfl, _, _⟩ := ht.now
 obtain ⟨Af, cf, rfl, _, _⟩ := hf.now
 have HS := aM (((((Sep.start hX).push_box [.slice An next.length cn, .slice At tags.length ct] 49).push_box' [.slice none 0 0, .slice none 0 0, .slice none 0 0] 80 (w.heap.size + 1) (by simp)).push_box' [.slice none 0 0, .slice none 0 0, .slice At tags.length ct] 80 (w.heap.size + 1 + 1) (by simp)).push_nil kSps 91 |>.push_nil kRow 26)
 clear hn ht hf hX hrow hfr
 show Calls _ _ _ _ fun e w' => ∃ v0 v1, e = .returned (.agg #[v0, v1, .slice At tags.length ct]) ∧ PV kSps X w' v0 (firsts.map (fun f => [(⟨f, f⟩ : Sp)])) ∧ PV kRow X w' v1 (next.map (fun row => firsts.map (fun f => row.getD f.toNat 0))) ∧ Below w.heap.size w w'
 obtain ⟨rP, hrP⟩ : ∃ q, q = firsts.map (fun f => [(⟨f, f⟩ : Sp)]) := ⟨_, rfl⟩
 obtain ⟨rN, hrN⟩ : ∃ q, q = next.map (fun row => firsts.map (fun f => row.getD f.toNat 0)) := ⟨_, rfl⟩
 rw [← hrP, ← hrN]
 have HRP := aM hrP.symm
 have HRN := aM hrN.symm
 clear hrP hrN
 go_enter Tryz.func62, Tryz.ntmps62
 go_wp2_with fail
 obtain ⟨g2, hg2⟩ : ∃ g, g = w.heap.size + 1 + 1 := ⟨_, rfl⟩
 obtain ⟨g1, hg1⟩ : ∃ g, g = w.heap.size + 1 := ⟨_, rfl⟩
 obtain ⟨g0, hg0⟩ : ∃ g, g = w.heap.size := ⟨_, rfl⟩
 rw [← hg2, ← hg1, ← hg0] at HS ⊢
 clear hg0 hg1 hg2
 go_loopg [6] firsts.length (fun m v6 w' => ∃ (k : Nat) (vP : Value) (P : List (List Sp)), v6 = .int .i64 k ∧ Aside0 (k + m = firsts.length) ∧ Aside0 (P = (firsts.take k).map (fun f => [(⟨f, f⟩ : Sp)])) ∧ Aside0 (Sep X w w' [.box g0 49 [.slice An next.length cn, .slice At tags.length ct], .box g1 80 [.slice none 0 0, .slice none 0 0, .slice none 0 0], .box g2 80 [vP, (.slice none 0 0), .slice At tags.length ct], .row kSps 91 vP P, .row kRow 26 (.slice none 0 0) []]))
 case atStart => exact ⟨0, _, [], rfl, ⟨by omega⟩, ⟨rfl⟩, HS⟩
 case round =>
  clear HS
  obtain ⟨k, vP, P, rfl, HJ, HP, HS⟩ := hrel
  cases gk with
  | succ k1 =>
   have hk : k < firsts.length := by have := HJ.out; omega
   have e1 : decide ((k : Int) < (firsts.length : Int)) = true := dT (by omega)
   have e2 : decide (k < firsts.length) = true := dT hk
   have hk0 : (0 : Int) ≤ (k : Int) := by omega
   have hk1 : (k : Int) < (firsts.length : Int) := by omega
   obtain ⟨af, cf', ef, yf⟩ := int_cell H3.out k hk
   cases ef
   have HP2 := aM (show P ++ [[(⟨firsts.getD k 0, firsts.getD k 0⟩ : Sp)]] = (firsts.take (k + 1)).map (fun f => [(⟨f, f⟩ : Sp)]) by rw [take_at firsts 0 k hk, List.map_append, HP.out]; rfl)
   have HPL := aM (show P.length + 1 ≤ 1000 by rw [HP.out]; simp; omega)
   generalize firsts.getD k 0 = f at *
   have HYF := aM yf
   clear yf HP
   go_wp2_with fail
   have hs := HS.out.drew
   clear HS; have HS := aM hs; clear hs
   refine start_ (n := 16) (S := fun w' => w'.cell? ⟨g2, 0, none⟩ = some vP ∧ w'.cell? (af.add k) = some (.int .i64 f)) (ds := [13, 15]) #[false, false, false, false, false, false, false, false, false, false, false, false, false, false, false, false] (by kernel_rfl) rfl rfl ⟨((HS.out.box 2 rfl).cell 0 rfl), (pw_cell_below HS.out.below HYF.out)⟩ (fun hHeld => ?_)
   generalize wr.drew = wd at HS hHeld ⊢
   refine pure_ (i := 0) (N := some 19) (v := ?_) (a' := ?_) (bv 16 1) rfl rfl (by kernel_rfl) (fun _ _ _ h => h) (Or.inl ⟨by rfl, ?_⟩) ?_ ?_
   rotate_left
   ·intro w'
    go_simp
    with_reducible rfl
   rotate_left
   ·simp only [Act.put, qA, qB, qC, i64_w, i32_w]
    rfl
   refine pure_ (i := 2) (N := some 21) (v := ?_) (a' := ?_) (bv 16 5) rfl rfl (by kernel_rfl) (fun _ _ _ h => h) (Or.inl ⟨by rfl, ?_⟩) ?_ ?_
   rotate_left
   ·intro w'
    go_simp
    with_reducible rfl
   rotate_left
   ·simp only [Act.put, qA, qB, qC, i64_w, i32_w]
    rfl
   refine pure_ (i := 3) (N := some 22) (v := ?_) (a' := ?_) (bv 16 13) rfl rfl (by kernel_rfl) (fun _ _ _ h => h) (Or.inl ⟨by rfl, ?_⟩) ?_ ?_
   rotate_left
   ·intro w'
    go_simp
    with_reducible rfl
   rotate_left
   ·simp only [Act.put, qA, qB, qC, i64_w, i32_w]
    rfl
   refine pure_ (i := 4) (N := some 23) (v := ?_) (a' := ?_) (bv 16 29) rfl rfl (by kernel_rfl) (fun _ _ _ h => h) (Or.inl ⟨by rfl, ?_⟩) ?_ ?_
   rotate_left
   ·intro w'
    go_simp
    with_reducible rfl
   rotate_left
   ·simp only [Act.put, qA, qB, qC, i64_w, i32_w]
    rfl
   refine pure_ (i := 6) (N := some 25) (v := ?_) (a' := ?_) (bv 16 93) rfl rfl (by kernel_rfl) (fun _ _ _ h => h) (Or.inl ⟨by rfl, ?_⟩) ?_ ?_
   rotate_left
   ·intro w'
    go_simp
    with_reducible rfl
   rotate_left
   ·simp only [Act.put, qA, qB, qC, i64_w, i32_w]
    rfl
   refine pure_ (i := 7) (N := some 26) (v := ?_) (a' := ?_) (bv 16 221) rfl rfl (by kernel_rfl) (fun _ _ _ h => h) (Or.inl ⟨by rfl, ?_⟩) ?_ ?_
   rotate_left
   ·intro w'
    go_simp
    with_reducible rfl
   rotate_left
   ·simp only [Act.put, qA, qB, qC, i64_w, i32_w]
    rfl
   refine pure_ (i := 8) (N := some 27) (v := ?_) (a' := ?_) (bv 16 477) rfl rfl (by kernel_rfl) (fun _ _ _ h => h) (Or.inl ⟨by rfl, ?_⟩) ?_ ?_
   rotate_left
   ·intro w'
    go_simp
    with_reducible rfl
   rotate_left
   ·simp only [Act.put, qA, qB, qC, i64_w, i32_w]
    rfl
   refine take_ (i := 1) (N := some 20) (v := ?_) (a' := ?_) (bv 16 479) rfl rfl (by kernel_rfl) (fun _ _ _ h => h) (Or.inl ⟨by rfl, ?_⟩) hHeld ?_ ?_
   rotate_left
   ·rintro w' ⟨s0, s1⟩
    go_simp
    with_reducible rfl
   rotate_left
   ·simp only [Act.put, qA, qB, qC, i64_w, i32_w]
    rfl
   refine take_ (i := 5) (N := some 24) (v := ?_) (a' := ?_) (bv 16 511) rfl rfl (by kernel_rfl) (fun _ _ _ h => h) (Or.inl ⟨by rfl, ?_⟩) hHeld ?_ ?_
   rotate_left
   ·rintro w' ⟨s0, s1⟩
    go_simp
    with_reducible rfl
   rotate_left
   ·simp only [Act.put, qA, qB, qC, i64_w, i32_w]
    rfl
   refine take_ (i := 9) (N := some 28) (v := ?_) (a' := ?_) (bv 16 1023) rfl rfl (by kernel_rfl) (fun _ _ _ h => h) (Or.inl ⟨by rfl, ?_⟩) hHeld ?_ ?_
   rotate_left
   ·rintro w' ⟨s0, s1⟩
    go_simp
    with_reducible rfl
   rotate_left
   ·simp only [Act.put, qA, qB, qC, i64_w, i32_w]
    rfl
   refine pure_ (i := 10) (N := some 29) (v := ?_) (a' := ?_) (bv 16 2047) rfl rfl (by kernel_rfl) (fun _ _ _ h => h) (Or.inl ⟨by rfl, ?_⟩) ?_ ?_
   rotate_left
   ·intro w'
    go_simp
    with_reducible rfl
   rotate_left
   ·simp only [Act.put, qA, qB, qC, i64_w, i32_w]
    rfl
   refine one_ (i := 11) (N := some 30) (bv 16 4095) rfl rfl (by kernel_rfl) (by decide) (fun K hK => ?_)
   refine value_ (w1 := ?_) (v := ?_) (by rfl) rfl ?_ ?_
   rotate_left 2
   ·go_simp
    constructor
    ·rfl
    ·rfl
   have hs := HS.out.lit_ro kSp 124 (xs := [(⟨f, f⟩ : Sp)]) (inner := [.int .i64 f, .int .i64 f]) (sp_rep _ _ f f) (by simp)
   clear HS; have HS := aM hs; clear hs
   refine hK.out _ _ ⟨((HS.out.box 2 rfl).cell 0 rfl), (pw_cell_below HS.out.below HYF.out)⟩ (fun hHeld => ?_)
   clear hK K
   refine norm_ (a' := ?_) ?_ ?_
   rotate_left
   ·show Act.put _ (some 30) _ = _
    simp only [Act.put, qA, qB, qC, i64_w, i32_w]
    rfl
   refine one_ (i := 12) (N := some 31) (bv 16 8191) rfl rfl (by kernel_rfl) (by decide) (fun K hK => ?_)
   refine value_ (w1 := ?_) (v := ?_) (by rfl) rfl ?_ ?_
   rotate_left 2
   ·go_simp
    constructor
    ·rfl
    ·rfl
   have hs := HS.out.lit_ro' (wd.heap.size + 1) (by simp) kSps 91 (xs := [[(⟨f, f⟩ : Sp)]]) (inner := [.slice (some ⟨wd.heap.size, 0, none⟩) 1 1]) (Reps.one (PK.slice (HS.out.ro 5 rfl)) (Reps.none _ _)) (by simp)
   clear HS; have HS := aM hs; clear hs
   refine hK.out _ _ ⟨((HS.out.box 2 rfl).cell 0 rfl), (pw_cell_below HS.out.below HYF.out)⟩ (fun hHeld => ?_)
   clear hK K
   refine norm_ (a' := ?_) ?_ ?_
   rotate_left
   ·show Act.put _ (some 31) _ = _
    simp only [Act.put, qA, qB, qC, i64_w, i32_w]
    rfl
   refine last_ (i := 13) (N := some 32) #[true, true, true, true, true, true, true, true, true, true, true, true, true, true, false, false] rfl rfl (by kernel_rfl) (by decide) (fun K hK => ?_)
   refine sgrow_step kSps 3 (by rfl) rfl (.tmp 20) (.tmp 31) 78 91 (.slice none 0 0) 24 rfl Tryz.underlying78 info91 rfl (by decide) (by omega) _ (.slice (some ⟨wd.heap.size + 1, 0, none⟩) 1 1) P [[(⟨f, f⟩ : Sp)]] rfl rfl HS.out rfl (HS.out.ro 6 rfl) (by have := HPL.out; rw [lS]; omega) ?_
   intro v1 w1 hs
   obtain ⟨z1, hz1⟩ : ∃ q, q = P ++ [[(⟨f, f⟩ : Sp)]] := ⟨_, rfl⟩
   rw [← hz1] at hs
   have HZz1 := aM hz1
   clear hz1
   obtain ⟨A1, c1, e1⟩ := hs.form 3 rfl
   subst e1
   clear HS; have HS := aM hs; clear hs
   have fz := (HS.out.box 2 rfl).open_ 0
   have yz := (HS.out.box 2 rfl).cell 0 rfl
   refine hK.out _ _ ?_
   clear hK K
   refine norm_ (a' := ?_) ?_ ?_
   rotate_left
   ·show Act.put _ (some 32) _ = _
    simp only [Act.put, qA, qB, qC, i64_w, i32_w]
    rfl
   refine pure_ (i := 14) (N := some 33) (v := ?_) (a' := ?_) (bv 16 32767) rfl rfl (by kernel_rfl) (fun _ _ _ h => h) (Or.inl ⟨by rfl, ?_⟩) ?_ ?_
   rotate_left
   ·intro w'
    go_simp
    with_reducible rfl
   rotate_left
   ·simp only [Act.put, qA, qB, qC, i64_w, i32_w]
    rfl
   refine last_ (i := 15) (N := none) #[true, true, true, true, true, true, true, true, true, true, true, true, true, true, true, true] rfl rfl (by kernel_rfl) (by decide) (fun K hK => ?_)
   refine skip_ (w1 := ?_) (by rfl) rfl ?_ ?_
   rotate_left
   ·go_simp
    rfl
   have hs := HS.out.set_box 2 rfl 0 (.slice A1 z1.length c1)
   clear HS; have HS := aM hs; clear hs
   refine hK.out _ _ ?_
   clear hK K
   refine done_ (by kernel_rfl) ?_
   go_wp2_with fail
   go_roundg k1
   case measure => omega
   case rel => exact ⟨k + 1, _, z1, by go_num, ⟨by have := HJ.out; omega⟩, ⟨by rw [HZz1.out]; exact HP2.out⟩, ⟨HS.out.take 5⟩⟩
  | zero =>
   have hk : k = firsts.length := by have := HJ.out; omega
   have e1 : decide ((k : Int) < (firsts.length : Int)) = false := dF (by omega)
   have e2 : decide (k < firsts.length) = false := dF (by omega)
   have q0 : P = rP := by rw [HP.out, hk, List.take_length]; exact HRP.out
   clear HP HJ hk HRP
   subst q0
   obtain ⟨A3, c3, e3⟩ := HS.out.form 3 rfl
   subst e3
   go_wp2_with fail
   clear e1 e2
   go_loopg [7] next.length (fun m v7 w' => ∃ (i : Nat) (vN : Value) (N : List (List Int)), v7 = .int .i64 i ∧ Aside0 (i + m = next.length) ∧ Aside0 (N = (next.take i).map (fun row => firsts.map (fun f => row.getD f.toNat 0))) ∧ Aside0 (Sep X w w' [.box g0 49 [.slice An next.length cn, .slice At tags.length ct], .box g1 80 [.slice none 0 0, .slice none 0 0, .slice none 0 0], .box g2 80 [(.slice A3 P.length c3), vN, .slice At tags.length ct], .row kSps 91 (.slice A3 P.length c3) P, .row kRow 26 vN N]))
   case atStart => exact ⟨0, _, [], rfl, ⟨by omega⟩, ⟨rfl⟩, HS⟩
   case round =>
    clear HS
    obtain ⟨i, vN, N, rfl, HJ, HN, HS⟩ := hrel
    obtain ⟨A4, c4, e4⟩ := HS.out.form 4 rfl
    subst e4
    have y1 := ((HS.out.box 0 rfl).cell 0 rfl)
    cases gk with
    | zero =>
     have hi : i = next.length := by have := HJ.out; omega
     have e1 : decide ((i : Int) < (next.length : Int)) = false := dF (by omega)
     have e2 : decide (i < next.length) = false := dF (by omega)
     have q0 : N = rN := by rw [HN.out, hi, List.take_length]; exact HRN.out
     clear HN HJ hi HRN
     subst q0
     have z0 := ((HS.out.box 2 rfl).cell 0 rfl)
     have z1 := ((HS.out.box 2 rfl).cell 1 rfl)
     have z2 := ((HS.out.box 2 rfl).cell 2 rfl)
     have x0 := ((HS.out.box 1 rfl).cell 0 rfl)
     have x1 := ((HS.out.box 1 rfl).cell 1 rfl)
     have x2 := ((HS.out.box 1 rfl).cell 2 rfl)
     have f0 := (HS.out.box 1 rfl).open_ 0
     have f1 := (HS.out.box 1 rfl).open_ 1
     have f2 := (HS.out.box 1 rfl).open_ 2
     go_wp2_with fail
     have HSF := aM (((HS.out.set_box 1 rfl 0 (.slice A3 P.length c3)).set_box 1 rfl 1 (.slice A4 N.length c4)).set_box 1 rfl 2 (.slice At tags.length ct))
     refine bodyPost_ret (results_cell_row rfl _ _ g1 80 #[.slice A3 P.length c3, .slice A4 N.length c4, .slice At tags.length ct] (0, 0) _ rfl (HSF.out.box 1 rfl) Tryz.underlying80 rfl (by kernel_rfl)) rfl ?_
     exact ⟨_, _, rfl, HSF.out.res_row 3 rfl, HSF.out.res_row 4 rfl, HSF.out.below⟩
    | succ k1 =>
     have hi : i < next.length := by have := HJ.out; omega
     have e1 : decide ((i : Int) < (next.length : Int)) = true := dT (by omega)
     have e2 : decide (i < next.length) = true := dT hi
     have hi0 : (0 : Int) ≤ (i : Int) := by omega
     have hi1 : (i : Int) < (next.length : Int) := by omega
     obtain ⟨an, cn', u, en, hu, yn⟩ := H1.out.row i hi
     cases en
     obtain ⟨Au, cu, rfl, _, _⟩ := hu.now
     have HU := aM hu
     have HY := aM yn
     have HRL := aM (HROW.out i hi)
     have HN2 := aM (show N ++ [firsts.map (fun f => (next.getD i []).getD f.toNat 0)] = (next.take (i + 1)).map (fun row => firsts.map (fun f => row.getD f.toNat 0)) by rw [take_at next [] i hi, List.map_append, HN.out]; rfl)
     have HPL := aM (show N.length + 1 ≤ 100000001 by rw [HN.out]; simp; omega)
     generalize next.getD i [] = row at *
     have hs := HS.out.push_nil kInt 3
     clear hu yn HN HS
     have HS := aM hs
     clear hs
     go_wp2_with fail
     clear y1 e1 e2
     go_loopg [8, 9] firsts.length (fun m v8 v9 w' => ∃ (k : Nat) (R : List Int), v9 = .int .i64 k ∧ Aside0 (k + m = firsts.length) ∧ Aside0 (R = (firsts.take k).map (fun f => row.getD f.toNat 0)) ∧ Aside0 (Sep X w w' [.box g0 49 [.slice (some an) next.length cn, .slice At tags.length ct], .box g1 80 [.slice none 0 0, .slice none 0 0, .slice none 0 0], .box g2 80 [(.slice A3 P.length c3), (.slice A4 N.length c4), .slice At tags.length ct], .row kSps 91 (.slice A3 P.length c3) P, .row kRow 26 (.slice A4 N.length c4) N, .row kInt 3 v8 R]))
     case atStart => exact ⟨0, [], rfl, ⟨by omega⟩, ⟨rfl⟩, HS⟩
     case round =>
      clear HS
      obtain ⟨k, R, rfl, HK, HR, HS⟩ := hrel
      cases gk with
      | succ k2 =>
       have hk : k < firsts.length := by have := HK.out; omega
       have e1 : decide ((k : Int) < (firsts.length : Int)) = true := dT (by omega)
       have e2 : decide (k < firsts.length) = true := dT hk
       have hk0 : (0 : Int) ≤ (k : Int) := by omega
       have hk1 : (k : Int) < (firsts.length : Int) := by omega
       obtain ⟨af, cf', ef, yf⟩ := int_cell H3.out k hk
       cases ef
       have hfx := HFR.out _ (mem_getD firsts 0 k hk)
       have HR2 := aM (show R ++ [row.getD (firsts.getD k 0).toNat 0] = (firsts.take (k + 1)).map (fun f => row.getD f.toNat 0) by rw [take_at firsts 0 k hk, List.map_append, HR.out]; rfl)
       have HRL2 := aM (show R.length + 1 ≤ 1000 by rw [HR.out]; simp; omega)
       generalize firsts.getD k 0 = f at *
       obtain ⟨fn, rfl⟩ := Int.eq_ofNat_of_zero_le hfx.1
       rw [Int.toNat_natCast] at HR2
       have hfn : fn < row.length := by have := HRL.out; omega
       have hfn0 : (0 : Int) ≤ (fn : Int) := by omega
       have hfn1 : (fn : Int) < (row.length : Int) := by omega
       obtain ⟨ar, cr, er, yr⟩ := int_cell HU.out fn hfn
       cases er
       generalize row.getD fn 0 = x at *
       have HYF := aM (And.intro yf yr)
       clear yf yr HR hfx
       go_wp2_with fail
       have hs := HS.out.drew
       clear HS; have HS := aM hs; clear hs
       refine start_ (n := 15) (S := fun w' => w'.cell? ⟨g0, 0, none⟩ = some (.slice (some an) next.length cn) ∧ w'.cell? (an.add i) = some (.slice (some ar) row.length cu) ∧ w'.cell? (af.add k) = some (.int .i64 (fn : Int)) ∧ w'.cell? (ar.add fn) = some (.int .i64 x)) (ds := [13]) #[false, false, false, false, false, false, false, false, false, false, false, false, false, false, false] (by kernel_rfl) rfl rfl ⟨((HS.out.box 0 rfl).cell 0 rfl), (pw_cell_below HS.out.below HY.out), (pw_cell_below HS.out.below HYF.out.1), (pw_cell_below HS.out.below HYF.out.2)⟩ (fun hHeld => ?_)
       refine pure_ (i := 0) (N := some 47) (v := ?_) (a' := ?_) (bv 15 1) rfl rfl (by kernel_rfl) (fun _ _ _ h => h) (Or.inl ⟨by rfl, ?_⟩) ?_ ?_
       rotate_left
       ·intro w'
        go_simp
        with_reducible rfl
       rotate_left
       ·simp only [Act.put, qA, qB, qC, i64_w, i32_w]
        rfl
       refine pure_ (i := 1) (N := some 48) (v := ?_) (a' := ?_) (bv 15 3) rfl rfl (by kernel_rfl) (fun _ _ _ h => h) (Or.inl ⟨by rfl, ?_⟩) ?_ ?_
       rotate_left
       ·intro w'
        go_simp
        with_reducible rfl
       rotate_left
       ·simp only [Act.put, qA, qB, qC, i64_w, i32_w]
        rfl
       refine pure_ (i := 3) (N := some 50) (v := ?_) (a' := ?_) (bv 15 11) rfl rfl (by kernel_rfl) (fun _ _ _ h => h) (Or.inl ⟨by rfl, ?_⟩) ?_ ?_
       rotate_left
       ·intro w'
        go_simp
        with_reducible rfl
       rotate_left
       ·simp only [Act.put, qA, qB, qC, i64_w, i32_w]
        rfl
       refine pure_ (i := 6) (N := some 53) (v := ?_) (a' := ?_) (bv 15 75) rfl rfl (by kernel_rfl) (fun _ _ _ h => h) (Or.inl ⟨by rfl, ?_⟩) ?_ ?_
       rotate_left
       ·intro w'
        go_simp
        with_reducible rfl
       rotate_left
       ·simp only [Act.put, qA, qB, qC, i64_w, i32_w]
        rfl
       refine pure_ (i := 7) (N := some 54) (v := ?_) (a' := ?_) (bv 15 203) rfl rfl (by kernel_rfl) (fun _ _ _ h => h) (Or.inl ⟨by rfl, ?_⟩) ?_ ?_
       rotate_left
       ·intro w'
        go_simp
        with_reducible rfl
       rotate_left
       ·simp only [Act.put, qA, qB, qC, i64_w, i32_w]
        rfl
       refine pure_ (i := 8) (N := some 55) (v := ?_) (a' := ?_) (bv 15 459) rfl rfl (by kernel_rfl) (fun _ _ _ h => h) (Or.inl ⟨by rfl, ?_⟩) ?_ ?_
       rotate_left
       ·intro w'
        go_simp
        with_reducible rfl
       rotate_left
       ·simp only [Act.put, qA, qB, qC, i64_w, i32_w]
        rfl
       refine take_ (i := 2) (N := some 49) (v := ?_) (a' := ?_) (bv 15 463) rfl rfl (by kernel_rfl) (fun _ _ _ h => h) (Or.inl ⟨by rfl, ?_⟩) hHeld ?_ ?_
       rotate_left
       ·rintro w' ⟨s0, s1, s2, s3⟩
        go_simp
        with_reducible rfl
       rotate_left
       ·simp only [Act.put, qA, qB, qC, i64_w, i32_w]
        rfl
       refine pure_ (i := 4) (N := some 51) (v := ?_) (a' := ?_) (bv 15 479) rfl rfl (by kernel_rfl) (fun _ _ _ h => h) (Or.inl ⟨by rfl, ?_⟩) ?_ ?_
       rotate_left
       ·intro w'
        go_simp
        with_reducible rfl
       rotate_left
       ·simp only [Act.put, qA, qB, qC, i64_w, i32_w]
        rfl
       refine take_ (i := 5) (N := some 52) (v := ?_) (a' := ?_) (bv 15 511) rfl rfl (by kernel_rfl) (fun _ _ _ h => h) (Or.inl ⟨by rfl, ?_⟩) hHeld ?_ ?_
       rotate_left
       ·rintro w' ⟨s0, s1, s2, s3⟩
        go_simp
        with_reducible rfl
       rotate_left
       ·simp only [Act.put, qA, qB, qC, i64_w, i32_w]
        rfl
       refine take_ (i := 9) (N := some 56) (v := ?_) (a' := ?_) (bv 15 1023) rfl rfl (by kernel_rfl) (fun _ _ _ h => h) (Or.inl ⟨by rfl, ?_⟩) hHeld ?_ ?_
       rotate_left
       ·rintro w' ⟨s0, s1, s2, s3⟩
        go_simp
        with_reducible rfl
       rotate_left
       ·simp only [Act.put, qA, qB, qC, i64_w, i32_w]
        rfl
       refine pure_ (i := 10) (N := some 57) (v := ?_) (a' := ?_) (bv 15 2047) rfl rfl (by kernel_rfl) (fun _ _ _ h => h) (Or.inl ⟨by rfl, ?_⟩) ?_ ?_
       rotate_left
       ·intro w'
        go_simp
        with_reducible rfl
       rotate_left
       ·simp only [Act.put, qA, qB, qC, i64_w, i32_w]
        rfl
       refine take_ (i := 11) (N := some 58) (v := ?_) (a' := ?_) (bv 15 4095) rfl rfl (by kernel_rfl) (fun _ _ _ h => h) (Or.inl ⟨by rfl, ?_⟩) hHeld ?_ ?_
       rotate_left
       ·rintro w' ⟨s0, s1, s2, s3⟩
        go_simp
        with_reducible rfl
       rotate_left
       ·simp only [Act.put, qA, qB, qC, i64_w, i32_w]
        rfl
       refine one_ (i := 12) (N := some 59) (bv 15 8191) rfl rfl (by kernel_rfl) (by decide) (fun K hK => ?_)
       refine value_ (w1 := ?_) (v := ?_) (by rfl) rfl ?_ ?_
       rotate_left 2
       ·go_simp
        constructor
        ·rfl
        ·rfl
       have hs := HS.out.lit_ro kInt 3 (xs := [x]) (inner := [.int .i64 x]) (Reps.one (PK.scalar _) (Reps.none _ _)) (by simp)
       clear HS; have HS := aM hs; clear hs
       refine hK.out _ _ ⟨((HS.out.box 0 rfl).cell 0 rfl), (pw_cell_below HS.out.below HY.out), (pw_cell_below HS.out.below HYF.out.1), (pw_cell_below HS.out.below HYF.out.2)⟩ (fun hHeld => ?_)
       clear hK K
       refine norm_ (a' := ?_) ?_ ?_
       rotate_left
       ·show Act.put _ (some 59) _ = _
        simp only [Act.put, qA, qB, qC, i64_w, i32_w]
        rfl
       refine last_ (i := 13) (N := some 60) #[true, true, true, true, true, true, true, true, true, true, true, true, true, true, false] rfl rfl (by kernel_rfl) (by decide) (fun K hK => ?_)
       refine sgrow_step kInt 5 (by rfl) rfl (.tmp 47) (.tmp 59) 26 3 (.int .i64 0) 8 rfl Tryz.underlying26 info3' rfl (by decide) (by omega) _ _ R [x] rfl rfl HS.out rfl (HS.out.ro 6 rfl) (by have := HRL2.out; rw [lS]; omega) ?_
       intro v1 w1 hs
       clear HS; have HS := aM hs; clear hs
       refine hK.out _ _ ?_
       clear hK K
       refine norm_ (a' := ?_) ?_ ?_
       rotate_left
       ·show Act.put _ (some 60) _ = _
        simp only [Act.put, qA, qB, qC, i64_w, i32_w]
        rfl
       refine pure_ (i := 14) (N := some 8) (v := ?_) (a' := ?_) (bv 15 32767) rfl rfl (by kernel_rfl) (fun _ _ _ h => h) (Or.inl ⟨by rfl, ?_⟩) ?_ ?_
       rotate_left
       ·intro w'
        go_simp
        with_reducible rfl
       rotate_left
       ·simp only [Act.put, qA, qB, qC, i64_w, i32_w]
        rfl
       refine done_ (by kernel_rfl) ?_
       go_wp2_with fail
       go_roundg k2
       case measure => omega
       case rel => exact ⟨k + 1, _, by go_num, ⟨by have := HK.out; omega⟩, HR2, ⟨HS.out.take 6⟩⟩
      | zero =>
       have hk : k = firsts.length := by have := HK.out; omega
       have e1 : decide ((k : Int) < (firsts.length : Int)) = false := dF (by omega)
       have e2 : decide (k < firsts.length) = false := dF (by omega)
       have q0 : R = firsts.map (fun f => row.getD f.toNat 0) := by rw [HR.out, hk, List.take_length]
       rw [← q0] at HN2
       clear HR q0 hk
       obtain ⟨A6, c6, e6⟩ := HS.out.form 5 rfl
       subst e6
       have hs := HS.out.sealRo 5 rfl
       clear HS
       have HS := aM hs
       have y2 := ((HS.out.box 2 rfl).cell 1 rfl)
       clear hs
       go_wp2_with (first
        | ((with_reducible refine gate_dst (N := 64) rfl ?_); refine slit kRow 26 ?hg (N := 64) ?hd (xs := [R]) (inner := [.slice A6 R.length c6]) ?hr HS.out ?hp (by simp) ?_; (case hd => rfl); (case hg => rfl); (case hr => first | (go_simp; done) | (go_simp; rfl)); (case hp => exact Reps.one (PK.slice (HS.out.ro 5 rfl)) (Reps.none _ _)); clear HS; intro v30 w30 hs; have HS := aM hs; clear hs)
        | ((with_reducible refine gate_builtin (b := .append) (xs := #[.tmp 62, .tmp 64]) rfl ?_); at_builtin; refine sgrow kRow 4 rfl (.tmp 62) (.tmp 64) 25 26 (.slice none 0 0) 24 rfl Tryz.underlying25 info26 rfl (by decide) (by omega) _ _ N [R] rfl rfl HS.out rfl (HS.out.ro 6 rfl) (by have := HPL.out; rw [lS]; omega) ?_; clear HS; intro v1 w1 hs; obtain ⟨n1, hn1⟩ : ∃ q, q = N ++ [R] := ⟨_, rfl⟩; rw [← hn1] at hs; have HZn1 := aM hn1; clear hn1; obtain ⟨A1, c1, e1⟩ := hs.form 4 rfl; subst e1; have fz := (hs.box 2 rfl).open_ 1; have yz := (hs.box 2 rfl).cell 1 rfl; have HS := aM hs; clear hs))
       have hs := HS.out.set_box 2 rfl 1 (.slice A1 n1.length c1)
       clear HS
       have HS := aM hs
       go_roundg k1
       case measure => omega
       case rel => exact ⟨i + 1, _, n1, by go_num, ⟨by have := HJ.out; omega⟩, ⟨by rw [HZn1.out]; exact HN2.out⟩, ⟨HS.out.take 5⟩⟩
def sameCol (next : List (List Int)) (a b : Nat) : Bool := next.all (fun row => decide (row.getD a 0 = row.getD b 0))
def colGo (next : List (List Int)) (c : Nat) : List Int → Nat → Int
 | [], _ => -1
 | f :: t, k => if sameCol next c f.toNat = true then (k : Int) else colGo next c t (k + 1)
def clStep (next : List (List Int)) (c : Nat) (p : List Int × List Int) : List Int × List Int :=
 if colGo next c p.1 0 < 0 then (p.1 ++ [(c : Int)], p.2 ++ [(p.1.length : Int)]) else (p.1, p.2 ++ [colGo next c p.1 0])
def clGo (next : List (List Int)) : Nat → Nat → List Int × List Int → List Int × List Int
 | 0, _, p => p
 | m + 1, c, p => clGo next m (c + 1) (clStep next c p)
def classesL (next : List (List Int)) : List Int × List Int := clGo next 256 0 ([], [])
structure ClOk (c : Nat) (p : List Int × List Int) : Prop where
 f : ∀ x ∈ p.1, 0 ≤ x ∧ x < 256
 len : p.1.length ≤ c
 of_ : p.2.length = c ∧ ∀ x ∈ p.2, 0 ≤ x ∧ x < (p.1.length : Int)
theorem colGo_lt (next : List (List Int)) (c : Nat) : ∀ (l : List Int) (k : Nat), -1 ≤ colGo next c l k ∧ colGo next c l k < ((k + l.length : Nat) : Int) ∧ (0 ≤ colGo next c l k → (k : Int) ≤ colGo next c l k)
 | [], k => by simp [colGo]; omega
 | f :: t, k => by
  have := colGo_lt next c t (k + 1)
  rw [colGo]
  simp only [List.length_cons]
  split <;> omega
theorem ClOk.step {c : Nat} {p : List Int × List Int} (h : ClOk c p) (hc : c < 256) (next : List (List Int)) : ClOk (c + 1) (clStep next c p) := by
 have ha := colGo_lt next c p.1 0
 unfold clStep
 split
 ·refine ⟨fun x hx => ?_, by simp; exact h.len, by simp [h.of_.1], fun x hx => ?_⟩
  ·rcases List.mem_append.1 hx with hx | hx
   ·exact h.f x hx
   ·obtain rfl := List.mem_singleton.1 hx
    omega
  ·simp only [lA, lS]
   rcases List.mem_append.1 hx with hx | hx
   ·have := h.of_.2 x hx; omega
   ·obtain rfl := List.mem_singleton.1 hx
    omega
 ·refine ⟨h.f, by have := h.len; show p.1.length ≤ c + 1; omega, by simp [h.of_.1], fun x hx => ?_⟩
  rcases List.mem_append.1 hx with hx | hx
  ·exact h.of_.2 x hx
  ·obtain rfl := List.mem_singleton.1 hx
   show 0 ≤ colGo next c p.1 0 ∧ colGo next c p.1 0 < (p.1.length : Int)
   omega
theorem ClOk.go (next : List (List Int)) : ∀ (m c : Nat) (p : List Int × List Int), c + m = 256 → ClOk c p → ClOk 256 (clGo next m c p)
  | 0, c, p, h, hp => by obtain rfl : c = 256 := by omega
                         exact hp
  | m + 1, c, p, h, hp => ClOk.go next m (c + 1) _ (by omega) (hp.step (by omega) next)
theorem clok_nil : ClOk 0 ([], []) := ⟨fun x hx => (by simp at hx), Nat.le_refl _, rfl, fun x hx => (by simp at hx)⟩
theorem classes_ok (next : List (List Int)) : ClOk 256 (classesL next) := ClOk.go next 256 0 _ rfl clok_nil
set_option maxHeartbeats 8000000 in
theorem classes_calls (X : Nat → Prop) (vn vt : Value) (next : List (List Int)) (tags : List Int) (w : World) (hX : ∀ k, X k → k < w.heap.size) (hn : PV kRow X w vn next) (ht : PV kInt X w vt tags)
    (hrow : ∀ i, i < next.length → (next.getD i []).length = 256) :
    Calls Tryz.prog 61 #[.agg #[vn, vt]] w fun e w' => ∃ v1 v2, e = .returned (.tuple #[v1, v2]) ∧ PV kInt X w' v1 (classesL next).1 ∧ PV kInt X w' v2 (classesL next).2 ∧ Below w.heap.size w w' := by
  have H1 := aM hn
  have H2 := aM ht
  have HROW := aM hrow
  have mn := hn.max
  obtain ⟨An, cn, rfl, _, _⟩ := hn.now
  obtain ⟨At, ct, rfl, _, _⟩ := ht.now
  have HS := aM ((((Sep.start hX).push_box [.slice An next.length cn, .slice At tags.length ct] 49).push_nil kInt 3).push_nil kInt 3)
  obtain ⟨r, hr⟩ : ∃ r, r = classesL next := ⟨_, rfl⟩
  rw [← hr]
  have HR := aM (show clGo next 256 0 ([], []) = r from hr.symm)
  clear hn ht hX hrow hr
  go_enter Tryz.func61, Tryz.ntmps61
  go_wp2_with fail
  obtain ⟨g0, hg0⟩ : ∃ g, g = w.heap.size := ⟨_, rfl⟩
  rw [← hg0] at HS ⊢
  clear hg0
  go_loopg [4, 5, 6] 256 (fun m v4 v5 v6 w' => ∃ (c : Nat) (p : List Int × List Int), v6 = .int .i64 c ∧ Aside0 (c + m = 256) ∧ Aside0 (ClOk c p) ∧ Aside0 (clGo next m c p = r) ∧ Aside0 (Sep X w w' [.box g0 49 [.slice An next.length cn, .slice At tags.length ct], .row kInt 3 v4 p.1, .row kInt 3 v5 p.2]))
  case atStart => exact ⟨0, ([], []), rfl, ⟨by omega⟩, ⟨clok_nil⟩, HR, HS⟩
  case round =>
    clear HS HR
    obtain ⟨c, p, rfl, HJ, HP, HR, HS⟩ := hrel
    obtain ⟨A4, c4, e4⟩ := HS.out.form 1 rfl
    subst e4
    obtain ⟨A5, c5, e5⟩ := HS.out.form 2 rfl
    subst e5
    cases gk with
    | zero =>
      have e1 : decide ((c : Int) < 256) = false := dF (by have := HJ.out; omega)
      have e2 : decide (c < 256) = false := dF (by have := HJ.out; omega)
      have q0 : p = r := HR.out
      clear HR
      subst q0
      go_wp2_with fail
      go_ret2
      exact ⟨_, _, rfl, HS.out.res_row 1 rfl, HS.out.res_row 2 rfl, HS.out.below⟩
    | succ k1 =>
      have hc : c < 256 := by have := HJ.out; omega
      have e1 : decide ((c : Int) < 256) = true := dT (by omega)
      have e2 : decide (c < 256) = true := dT hc
      have hc0 : (0 : Int) ≤ (c : Int) := by omega
      have HR1 := HR.out
      rw [clGo, clStep] at HR1
      have hp2 := HP.out.step hc next
      rw [clStep] at hp2
      have ha := colGo_lt next c p.1 0
      obtain ⟨a, hca⟩ : ∃ a, a = colGo next c p.1 0 := ⟨_, rfl⟩
      rw [← hca] at HR1 hp2 ha
      have HP2 := aM hp2
      have HR2 := aM HR1
      have HA := aM ha
      have HCG := aM (show colGo next c (p.1.drop 0) 0 = a from hca.symm)
      have hpl : p.1.length ≤ 256 := by have := HP.out.len; omega
      clear HR1 hp2 ha hca HR
      go_wp2_with fail
      clear e1 e2
      go_loopg [7, 8] p.1.length (fun m v7 v8 w' => ∃ (k : Nat) (x : Int), (v8 = .int .i64 k ∧ v7 = .int .i64 x) ∧ Aside0 (k ≤ p.1.length) ∧ Aside0 ((x = -1 ∧ k + m = p.1.length ∧ colGo next c (p.1.drop k) k = a) ∨ (x = a ∧ 0 ≤ a ∧ m = 0)) ∧ Aside0 (Sep X w w' [.box g0 49 [.slice An next.length cn, .slice At tags.length ct], .row kInt 3 (.slice A4 p.1.length c4) p.1, .row kInt 3 (.slice A5 p.2.length c5) p.2]))
      case atStart => exact ⟨0, -1, ⟨by go_num, rfl⟩, ⟨by omega⟩, ⟨.inl ⟨rfl, by omega, HCG.out⟩⟩, HS⟩
      case round =>
        clear HS HCG
        obtain ⟨k, x, ⟨rfl, rfl⟩, HKL, HK, HS⟩ := hrel
        by_cases hx : x < 0 ∧ k < p.1.length
        case neg =>
          have HXA := aM (show x = a by
            rcases HK.out with ⟨h1, h2, h3⟩ | ⟨h1, _, _⟩
            · have h4 : ¬ k < p.1.length := fun h => hx ⟨by omega, h⟩
              rw [List.drop_eq_nil_of_le (by omega), colGo] at h3
              omega
            · exact h1)
          have HOL := aM (show p.2.length = c from HP.out.of_.1)
          have HXX := aM hx
          rcases Nat.lt_or_ge k p.1.length with c1 | c1
          case' inl =>
            have f1 : decide ((k : Int) < (p.1.length : Int)) = true := dT (by omega)
            have f2 : decide (k < p.1.length) = true := dT c1
            have f3 : decide (x < 0) = false := dF (fun h => hx ⟨h, c1⟩)
          case' inr =>
            have f1 : decide ((k : Int) < (p.1.length : Int)) = false := dF (by omega)
            have f2 : decide (k < p.1.length) = false := dF (by omega)
          all_goals
            have hxa : x = a := HXA.out
            clear HK HXA hx c1
            subst hxa
            rcases Int.lt_or_le x 0 with c2 | c2
            · have d1 : decide (x < 0) = true := dT c2
              have HR3 := aM (show clGo next k1 (c + 1) (p.1 ++ [(c : Int)], p.2 ++ [(p.1.length : Int)]) = r by have := HR2.out; rwa [if_pos c2] at this)
              have HP3 := aM (show ClOk (c + 1) (p.1 ++ [(c : Int)], p.2 ++ [(p.1.length : Int)]) by have := HP2.out; rwa [if_pos c2] at this)
              clear HR2 HP2 c2
              first
                | (exfalso; have := d1.symm.trans f3; cases this; done)
                | go_wp2_with (first
                    | ((with_reducible refine gate_dst (N := 63) rfl ?_); refine slit kInt 3 ?hg (N := 63) ?hd (xs := [(c : Int)]) (inner := [.int .i64 (c : Int)]) ?hr HS.out ?hp (by simp) ?_; (case hd => rfl); (case hg => rfl); (case hr => first | (go_simp; done) | (go_simp; rfl)); (case hp => exact Reps.one (PK.scalar _) (Reps.none _ _)); clear HS; intro v30 w30 hs; have HS := aM hs; clear hs)
                    | ((with_reducible refine gate_builtin (b := .append) (xs := #[.tmp 61, .tmp 63]) rfl ?_); at_builtin; refine sgrow kInt 1 rfl (.tmp 61) (.tmp 63) 26 3 (.int .i64 0) 8 rfl Tryz.underlying26 info3' rfl (by decide) (by omega) _ _ p.1 [(c : Int)] rfl rfl HS.out rfl (HS.out.ro 3 rfl) (by rw [lS]; omega) ?_; clear HS; intro v31 w31 hs; have HS := aM hs; clear hs)
                    | ((with_reducible refine gate_dst (N := 67) rfl ?_); refine slit kInt 3 ?hg (N := 67) ?hd (xs := [(p.1.length : Int)]) (inner := [.int .i64 (p.1.length : Int)]) ?hr HS.out ?hp (by simp) ?_; (case hd => rfl); (case hg => rfl); (case hr => first | (go_simp; done) | (go_simp; rfl)); (case hp => exact Reps.one (PK.scalar _) (Reps.none _ _)); clear HS; intro v32 w32 hs; have HS := aM hs; clear hs)
                    | ((with_reducible refine gate_builtin (b := .append) (xs := #[.tmp 65, .tmp 67]) rfl ?_); at_builtin; refine sgrow kInt 2 rfl (.tmp 65) (.tmp 67) 26 3 (.int .i64 0) 8 rfl Tryz.underlying26 info3' rfl (by decide) (by omega) _ _ p.2 [(p.1.length : Int)] rfl rfl HS.out rfl (HS.out.ro 4 rfl) (by have := HOL.out; rw [lS]; omega) ?_; clear HS; intro v33 w33 hs; have HS := aM hs; clear hs))
                  go_roundg k1
                  case measure => omega
                  case rel => exact ⟨c + 1, (p.1 ++ [(c : Int)], p.2 ++ [(p.1.length : Int)]), by go_num, ⟨by have := HJ.out; omega⟩, HP3, HR3, ⟨HS.out.take 3⟩⟩
            · have d1 : decide (x < 0) = false := dF (by omega)
              have HR3 := aM (show clGo next k1 (c + 1) (p.1, p.2 ++ [x]) = r by have := HR2.out; rwa [if_neg (by omega)] at this)
              have HP3 := aM (show ClOk (c + 1) (p.1, p.2 ++ [x]) by have := HP2.out; rwa [if_neg (by omega)] at this)
              clear HR2 HP2 c2
              go_wp2_with (first
                | ((with_reducible refine gate_dst (N := 67) rfl ?_); refine slit kInt 3 ?hg (N := 67) ?hd (xs := [x]) (inner := [.int .i64 x]) ?hr HS.out ?hp (by simp) ?_; (case hd => rfl); (case hg => rfl); (case hr => first | (go_simp; done) | (go_simp; rfl)); (case hp => exact Reps.one (PK.scalar _) (Reps.none _ _)); clear HS; intro v32 w32 hs; have HS := aM hs; clear hs)
                | ((with_reducible refine gate_builtin (b := .append) (xs := #[.tmp 65, .tmp 67]) rfl ?_); at_builtin; refine sgrow kInt 2 rfl (.tmp 65) (.tmp 67) 26 3 (.int .i64 0) 8 rfl Tryz.underlying26 info3' rfl (by decide) (by omega) _ _ p.2 [x] rfl rfl HS.out rfl (HS.out.ro 3 rfl) (by have := HOL.out; rw [lS]; omega) ?_; clear HS; intro v33 w33 hs; have HS := aM hs; clear hs))
              go_roundg k1
              case measure => omega
              case rel => exact ⟨c + 1, (p.1, p.2 ++ [x]), by go_num, ⟨by have := HJ.out; omega⟩, HP3, HR3, ⟨HS.out.take 3⟩⟩
        case pos =>
          obtain ⟨hx0, hk⟩ := hx
          obtain ⟨rfl, hgk, hcg⟩ : x = -1 ∧ k + gk = p.1.length ∧ colGo next c (p.1.drop k) k = a := by
            rcases HK.out with h | ⟨h1, h2, _⟩
            · exact h
            · omega
          obtain ⟨m2, rfl⟩ : ∃ m2, gk = m2 + 1 := ⟨gk - 1, by omega⟩
          have f1 : decide ((k : Int) < (p.1.length : Int)) = true := dT (by omega)
          have f2 : decide (k < p.1.length) = true := dT hk
          have hk0 : (0 : Int) ≤ (k : Int) := by omega
          have hk1 : (k : Int) < (p.1.length : Int) := by omega
          have hfx := HP.out.f _ (mem_getD p.1 0 k hk)
          obtain ⟨fn, hfn⟩ : ∃ n : Nat, p.1.getD k 0 = (n : Int) := ⟨(p.1.getD k 0).toNat, by omega⟩
          rw [drop_at p.1 0 k hk, colGo, hfn, Int.toNat_natCast] at hcg
          have HFN := aM hfn
          have hfl : fn < 256 := by omega
          obtain ⟨ab, hab⟩ : ∃ b, b = sameCol next c fn := ⟨_, rfl⟩
          rw [← hab] at hcg
          have HAB := aM (show (true && (next.drop 0).all (fun row => decide (row.getD c 0 = row.getD fn 0))) = ab from hab.symm)
          have HCG := aM hcg
          have HGK := aM hgk
          clear HK hcg hgk hab hfn hfx hx0
          go_wp2_with fail
          clear f1 f2
          go_loopg [9, 10] next.length (fun m v9 v10 w' => ∃ (i : Nat) (q : Bool), (v10 = .int .i64 i ∧ v9 = .bool q) ∧ Aside0 (i + m = next.length) ∧ Aside0 ((q && (next.drop i).all (fun row => decide (row.getD c 0 = row.getD fn 0))) = ab) ∧ Aside0 (Sep X w w' [.box g0 49 [.slice An next.length cn, .slice At tags.length ct], .row kInt 3 (.slice A4 p.1.length c4) p.1, .row kInt 3 (.slice A5 p.2.length c5) p.2]))
          case atStart => exact ⟨0, true, ⟨by go_num, rfl⟩, ⟨by omega⟩, HAB, HS⟩
          case round =>
            clear HS HAB
            obtain ⟨i, q, ⟨rfl, rfl⟩, HI, HAB, HS⟩ := hrel
            have y0 := (HS.out.box 0 rfl).cell 0 rfl
            cases gk with
            | zero =>
              have e1 : decide ((i : Int) < (next.length : Int)) = false := dF (by have := HI.out; omega)
              have e2 : decide (i < next.length) = false := dF (by have := HI.out; omega)
              have q0 : q = ab := by have := HAB.out; rw [List.drop_eq_nil_of_le (by have := HI.out; omega)] at this; simpa using this
              clear HAB
              subst q0
              cases q
              case true =>
                have HCG2 := aM (show (k : Int) = a by have := HCG.out; rwa [if_pos rfl] at this)
                go_wp2_with fail
                go_roundg 0
                case measure => omega
                case rel => exact ⟨k + 1, (k : Int), ⟨by go_num, rfl⟩, ⟨by omega⟩, ⟨.inr ⟨HCG2.out, by have := HCG2.out; omega, rfl⟩⟩, HS⟩
              case false =>
                have HCG2 := aM (show colGo next c (p.1.drop (k + 1)) (k + 1) = a by have := HCG.out; rwa [if_neg (by decide)] at this)
                go_wp2_with fail
                go_roundg m2
                case measure => omega
                case rel => exact ⟨k + 1, -1, ⟨by go_num, rfl⟩, ⟨by omega⟩, ⟨.inl ⟨rfl, by have := HGK.out; omega, HCG2.out⟩⟩, HS⟩
            | succ i1 =>
              have hi : i < next.length := by have := HI.out; omega
              have e1 : decide ((i : Int) < (next.length : Int)) = true := dT (by omega)
              have e2 : decide (i < next.length) = true := dT hi
              have hi0 : (0 : Int) ≤ (i : Int) := by omega
              have hi1 : (i : Int) < (next.length : Int) := by omega
              have HAB1 := HAB.out
              rw [drop_at next [] i hi, List.all_cons] at HAB1
              cases q
              case false =>
                have HAB2 := aM (show (false && (next.drop (i + 1)).all (fun row => decide (row.getD c 0 = row.getD fn 0))) = ab from HAB1)
                clear HAB1 HAB
                go_wp2_with fail
                go_quiet (fail)
                have HS2 := aM (HS.out.drewN nq)
                go_wp2_with fail
                go_roundg i1
                case measure => omega
                case rel => exact ⟨i + 1, false, ⟨by go_num, rfl⟩, ⟨by have := HI.out; omega⟩, HAB2, HS2⟩
              case true =>
                obtain ⟨an, cn', u, en, hu, yn0⟩ := H1.out.row i hi
                cases en
                have hrl := HROW.out i hi
                obtain ⟨ar, cr, eu, yc0⟩ := int_cell hu c (by omega)
                subst eu
                obtain ⟨ar2, cr2, er2, yf0⟩ := int_cell hu fn (by omega)
                cases er2
                have yn := pw_cell_below HS.out.below yn0
                have yc := pw_cell_below HS.out.below yc0
                have yf := pw_cell_below HS.out.below yf0
                obtain ⟨gf, cf, ef, yk, _, _⟩ := HS.out.int 1 rfl k hk
                cases ef
                rw [HFN.out] at yk
                have hcl : (c : Int) < ((next.getD i []).length : Int) := by omega
                have hfl1 : (fn : Int) < ((next.getD i []).length : Int) := by omega
                have hfn0 : (0 : Int) ≤ (fn : Int) := by omega
                generalize next.getD i [] = row at *
                generalize row.getD c 0 = xc at *
                generalize row.getD fn 0 = xf at *
                clear yn0 yc0 yf0 hu HAB
                by_cases c2 : xc = xf
                · have d1 : (xc == xf) = true := beq_iff_eq.mpr c2
                  have HAB2 := aM (show (true && (next.drop (i + 1)).all (fun row => decide (row.getD c 0 = row.getD fn 0))) = ab by rw [← HAB1, dT c2]; rfl)
                  clear HAB1 c2
                  go_wp2_with fail
                  go_quiet (fail)
                  have HS2 := aM (HS.out.drewN nq)
                  go_wp2_with fail
                  go_roundg i1
                  case measure => omega
                  case rel => exact ⟨i + 1, true, ⟨by go_num, rfl⟩, ⟨by have := HI.out; omega⟩, HAB2, HS2⟩
                · have d1 : (xc == xf) = false := bF c2
                  have HAB2 := aM (show (false && (next.drop (i + 1)).all (fun row => decide (row.getD c 0 = row.getD fn 0))) = ab by rw [← HAB1, dF c2]; rfl)
                  clear HAB1 c2
                  go_wp2_with fail
                  go_quiet (fail)
                  have HS2 := aM (HS.out.drewN nq)
                  go_wp2_with fail
                  go_roundg i1
                  case measure => omega
                  case rel => exact ⟨i + 1, false, ⟨by go_num, rfl⟩, ⟨by have := HI.out; omega⟩, HAB2, HS2⟩
end Go.Proofs.YtplhfgobeicegaaGreatDoor.P
namespace Go.Proofs.YtplhfgobeicegaaGreatDoor.P
open Go Go.RowKit Go.Proofs.YtplhfgobeicegaaGreatDoorW.PrintWords Go.Proofs.YtplhfgobeicegaaGreatDoorW.PrintLast Go.Proofs.YtplhfgobeicegaaGreatDoorW.PrintMore Go.Proofs.YtplhfgobeicegaaGreatDoor.PX
set_option linter.unusedVariables false
set_option linter.unusedSimpArgs false
set_option maxRecDepth 100000
theorem sameCol_iff (next : List (List Int)) (a b : Nat) : sameCol next a b = true ↔ ∀ i, i < next.length → (next.getD i []).getD a 0 = (next.getD i []).getD b 0 := by
 unfold sameCol
 rw [List.all_eq_true]
 constructor
 ·intro h i hi
  have := h (next.getD i []) (by rw [List.getD_eq_getElem?_getD, List.getElem?_eq_getElem hi]; exact List.getElem_mem hi)
  exact of_decide_eq_true this
 ·intro h x hx
  obtain ⟨i, hi, rfl⟩ := List.getElem_of_mem hx
  have := h i hi
  rw [show next.getD i [] = next[i] by rw [List.getD_eq_getElem?_getD, List.getElem?_eq_getElem hi]; rfl] at this
  exact dT this
set_option maxHeartbeats 8000000 in
theorem alike14_calls (X : Nat → Prop) (vn : Value) (next : List (List Int)) (a b : Nat) (w : World) (hn : PV kRow X w vn next) (hr : ∀ row ∈ next, a < row.length ∧ b < row.length) :
  Calls Tryz.prog 39 #[vn, .int .i64 a, .int .i64 b] w fun e w' => e = .returned (.bool (sameCol next a b)) ∧ Below w.heap.size w w' := by
 have H1 := aM hn
 have HW := aM (show ∀ i, i < next.length → a < (next.getD i []).length ∧ b < (next.getD i []).length from fun i hi => hr _ (by rw [List.getD_eq_getElem?_getD, List.getElem?_eq_getElem hi]; exact List.getElem_mem hi))
 have m1 := hn.max
 obtain ⟨An, cn, rfl, _, _⟩ := hn.now
 have HQ := aM (sameCol_iff next a b)
 generalize sameCol next a b = q at *
 clear hn hr
 have no : (¬ ∀ i, i < next.length → (next.getD i []).getD a 0 = (next.getD i []).getD b 0) → q = false := fun h => by
  cases hqq : q
  ·rfl
  ·exact absurd (HQ.out.1 hqq) h
 have HNO := aM no
 clear no
 go_enter Tryz.func39, Tryz.ntmps39
 go_wp2_with fail
 go_loopg [7] next.length (fun m v7 w' => ∃ (i : Nat), v7 = .int .i64 i ∧ Aside0 (i + m = next.length) ∧ Aside0 (∀ i', i' < i → (next.getD i' []).getD a 0 = (next.getD i' []).getD b 0) ∧ Aside0 (Below w.heap.size w w'))
 case atStart => exact ⟨0, rfl, ⟨by omega⟩, ⟨fun i' h => by omega⟩, ⟨Below.refl _ _⟩⟩
 case round =>
  obtain ⟨i, rfl, HJ, HI, HB⟩ := hrel
  cases gk with
  | zero =>
   have e1 : decide ((i : Int) < (next.length : Int)) = false := dF (by have := HJ.out; omega)
   have e2 : decide (i < next.length) = false := dF (by have := HJ.out; omega)
   have q0 : q = true := HQ.out.2 (fun i' h => HI.out i' (by have := HJ.out; omega))
   clear HQ HNO
   subst q0
   go_wp2_with fail
   go_ret
   exact ⟨rfl, HB.out⟩
  | succ k1 =>
   have hi : i < next.length := by have := HJ.out; omega
   have e1 : decide ((i : Int) < (next.length : Int)) = true := dT (by omega)
   have e2 : decide (i < next.length) = true := dT hi
   have hi0 : (0 : Int) ≤ (i : Int) := by omega
   have hi1 : (i : Int) < (next.length : Int) := by omega
   have ha0 : (0 : Int) ≤ (a : Int) := by omega
   have hb0 : (0 : Int) ≤ (b : Int) := by omega
   obtain ⟨an, cn', u, en, hun, yn0⟩ := H1.out.row i hi
   cases en
   obtain ⟨hal, hbl⟩ := HW.out i hi
   have HNE := aM (fun (h : (next.getD i []).getD a 0 ≠ (next.getD i []).getD b 0) => HNO.out (fun hs => h (hs i hi)))
   have HST := aM (show (next.getD i []).getD a 0 = (next.getD i []).getD b 0 → ∀ i', i' < i + 1 → (next.getD i' []).getD a 0 = (next.getD i' []).getD b 0 from fun h i' h1 => (Nat.lt_or_ge i' i).elim (HI.out i') (fun h2 => by
    have : i' = i := by omega
    rw [this]; exact h))
   obtain ⟨row, hrow⟩ : ∃ r, r = next.getD i [] := ⟨_, rfl⟩
   rw [← hrow] at hun hal hbl HNE HST
   clear hrow
   have ha1 : (a : Int) < (row.length : Int) := by omega
   have hb1 : (b : Int) < (row.length : Int) := by omega
   obtain ⟨Au, cu, rfl, _, _⟩ := hun.now
   obtain ⟨ar, cr, er, yr0⟩ := int_cell hun a hal
   cases er
   obtain ⟨ar2, cr2, er2, yr2⟩ := int_cell hun b hbl
   cases er2
   have yn := pw_cell_below HB.out yn0
   have yr := pw_cell_below HB.out yr0
   have ys := pw_cell_below HB.out yr2
   clear hun yn0 yr0 yr2 hal hbl
   generalize row.getD a 0 = x at *
   generalize row.getD b 0 = y at *
   by_cases c : x = y
   case' pos =>
    have HT3 := aM (HST.out c)
    subst c
   case' neg =>
    have q0 : q = false := HNE.out c
    have d3 : (x == y) = false := bF c
    have d3' : (x != y) = true := bne_iff_ne.mpr c
    clear HQ HNO HNE HST c
    subst q0
   case neg =>
    go_wp2_with fail
    go_quiet (fail)
    have HB2 := aM (pw_below_drewN HB.out nq)
    go_wp2_with fail
    go_ret
    exact ⟨rfl, HB2.out⟩
   case pos =>
    go_wp2_with fail
    go_quiet (fail)
    have HB2 := aM (pw_below_drewN HB.out nq)
    go_wp2_with fail
    go_roundg k1
    case measure => omega
    case rel => exact ⟨i + 1, by go_num, ⟨by have := HJ.out; omega⟩, HT3, HB2⟩
def manyGo : List Int → Int → Int
 | [], n => n
 | c :: t, n => if c > n then -1 else manyGo t (max n (c + 1))
def many14 (l : List Int) : Int := if manyGo l 0 = -1 ∨ l.length ≠ 256 then 0 else manyGo l 0
set_option maxHeartbeats 8000000 in
theorem many14_calls (X : Nat → Prop) (vl : Value) (l : List Int) (w : World) (hl : PV kU8 X w vl l) (hu : U8s l) :
  Calls Tryz.prog 46 #[vl] w fun e w' => e = .returned (.int .i64 (many14 l)) ∧ Below w.heap.size w w' := by
 have H1 := aM hl
 have HU := aM hu
 have m1 := hl.max
 obtain ⟨An, cn, rfl, _, _⟩ := hl.now
 obtain ⟨r, hr⟩ : ∃ r, r = many14 l := ⟨_, rfl⟩
 rw [← hr]
 obtain ⟨g, hg⟩ : ∃ g, g = manyGo l 0 := ⟨_, rfl⟩
 have HR := aM (show r = if g = -1 ∨ l.length ≠ 256 then 0 else g by rw [hr, many14, ← hg])
 have HG := aM (show manyGo (l.drop 0) 0 = g from hg.symm)
 clear hl hu hr hg
 go_enter Tryz.func46, Tryz.ntmps46
 go_wp2_with fail
 go_loopg [3, 4] l.length (fun m v3 v4 w' => ∃ (i : Nat) (n : Int), v3 = .int .i64 n ∧ v4 = .int .i64 i ∧ Aside0 (i + m = l.length) ∧ (0 ≤ n ∧ n ≤ 256) ∧ Aside0 (manyGo (l.drop i) n = g) ∧ Aside0 (Below w.heap.size w w'))
 case atStart => exact ⟨0, 0, rfl, rfl, ⟨by omega⟩, by omega, HG, ⟨Below.refl _ _⟩⟩
 case round =>
  clear HG
  obtain ⟨i, n, rfl, rfl, HJ, ⟨hn0, hn1⟩, HG, HB⟩ := hrel
  cases gk with
  | zero =>
   have e1 : decide ((i : Int) < (l.length : Int)) = false := dF (by have := HJ.out; omega)
   have e2 : decide (i < l.length) = false := dF (by have := HJ.out; omega)
   have q0 : n = g := by have h := HG.out; rw [List.drop_of_length_le (by have := HJ.out; omega)] at h; exact h
   subst q0
   rcases Nat.decEq l.length 256 with h | h
   case' isTrue =>
    have d1 : ((l.length : Int) == 256) = true := beq_iff_eq.mpr (by omega)
    have d1' : ((l.length : Int) != 256) = false := bne_eq_false_iff_eq.mpr (by omega)
    have q1 : r = n := by rw [HR.out, if_neg (by omega)]
   case' isFalse =>
    have d1 : ((l.length : Int) == 256) = false := bF (by omega)
    have d1' : ((l.length : Int) != 256) = true := bne_iff_ne.mpr (by omega)
    have q1 : r = 0 := by rw [HR.out, if_pos (.inr h)]
   all_goals
    clear HR h
    subst q1
    go_wp2_with fail
    go_ret
    exact ⟨rfl, HB.out⟩
  | succ k1 =>
   have hi : i < l.length := by have := HJ.out; omega
   have e1 : decide ((i : Int) < (l.length : Int)) = true := dT (by omega)
   have e2 : decide (i < l.length) = true := dT hi
   have hi0 : (0 : Int) ≤ (i : Int) := by omega
   have hi1 : (i : Int) < (l.length : Int) := by omega
   obtain ⟨c, hc, hc2⟩ := u8s_at HU.out i hi
   obtain ⟨as_, cs', es, ys0⟩ := u8_cell H1.out i hi
   cases es
   rw [hc] at ys0
   have ys := pw_cell_below HB.out ys0
   have HR3 := HG.out
   rw [drop_at l 0 i hi, hc, manyGo] at HR3
   clear hc ys0 HG
   rcases Int.lt_or_le n c with h | h
   case inl =>
    have d1 : decide ((c : Int) > n) = true := dT h
    have d1' : decide (n < (c : Int)) = true := dT h
    rw [if_pos h] at HR3
    have q1 : r = 0 := by rw [HR.out, if_pos (.inl HR3.symm)]
    clear HR HR3
    subst q1
    go_wp2_with fail
    go_ret
    exact ⟨rfl, HB.out⟩
   case inr =>
    have d1 : decide ((c : Int) > n) = false := dF (by omega)
    have d1' : decide (n < (c : Int)) = false := dF (by omega)
    rw [if_neg (by omega)] at HR3
    have HR4 := aM HR3
    clear HR3
    rcases Int.lt_or_le c n with h2 | h2
    case inl =>
     have HM := aM (show max n ((c : Int) + 1) = n by omega)
     have d2 : decide (n < (c : Int) + 1) = false := dF (by omega)
     have d3 : ¬ (n < (c : Int) + 1) := by omega
     have d4 : (c : Int) + 1 ≤ n := by omega
     have d5 : decide ((c : Int) + 1 ≤ n) = true := dT d4
     go_wp2_with fail
     go_roundg k1
     case measure => omega
     case rel => exact ⟨i + 1, n, rfl, by go_num, ⟨by have := HJ.out; omega⟩, by omega, ⟨by rw [← HR4.out, HM.out]⟩, HB⟩
    case inr =>
     have HM := aM (show max n ((c : Int) + 1) = (c : Int) + 1 by omega)
     have d2 : decide (n < (c : Int) + 1) = true := dT (by omega)
     have d3 : (n < (c : Int) + 1) := by omega
     have d4 : ¬ (c : Int) + 1 ≤ n := by omega
     have d5 : decide ((c : Int) + 1 ≤ n) = false := dF d4
     go_wp2_with fail
     go_roundg k1
     case measure => omega
     case rel => exact ⟨i + 1, (c : Int) + 1, rfl, by go_num, ⟨by have := HJ.out; omega⟩, by omega, ⟨by rw [← HR4.out, HM.out]⟩, HB⟩
end Go.Proofs.YtplhfgobeicegaaGreatDoor.P
