/- Part 19 of the proof: S12f, S12i. -/
import Derived.Test.YtplhfgobeicegaaGreatDoorPd16
namespace Go.Proofs.YtplhfgobeicegaaGreatDoor.P
open Go Go.RowKit Go.Proofs.YtplhfgobeicegaaGreatDoorW.PrintWords Go.Proofs.YtplhfgobeicegaaGreatDoorW.PrintLast Go.Proofs.YtplhfgobeicegaaGreatDoorW.PrintMore Go.Proofs.YtplhfgobeicegaaGreatDoor.PX
set_option linter.unusedVariables false
set_option linter.unusedSimpArgs false
set_option maxRecDepth 100000
def alike12 (next : List (List Int)) (l of_ states : List Int) (a b : Nat) : Bool := states.all (fun s => decide (kindL next l of_ s.toNat a = kindL next l of_ s.toNat b))
theorem alike12_cons (next : List (List Int)) (l of_ : List Int) (s : Int) (t : List Int) (a b : Nat) : alike12 next l of_ (s :: t) a b = (decide (kindL next l of_ s.toNat a = kindL next l of_ s.toNat b) && alike12 next l of_ t a b) := rfl
set_option maxHeartbeats 4000000 in
theorem alike12_calls (X : Nat → Prop) (vp vn vt vl vo vs : Value) (parts : List (List Sp)) (next : List (List Int)) (tags l of_ states : List Int) (a b : Nat) (w : World) (hp : PV kSps X w vp parts) (hn : PV kRow X w vn next) (ht : PV kInt X w vt tags) (hl : PV kInt X w vl l) (ho : PV kInt X w vo of_) (hs : PV kInt X w vs states)
  (ha : a < parts.length) (hb : b < parts.length) (hst : ∀ s ∈ states, 0 ≤ s ∧ s < (next.length : Int)) (hol : of_.length = l.length) (hnl : next.length = l.length) (hok : Ok12 parts.length l.length next) :
  Calls Tryz.prog 92 #[.agg #[vp, vn, vt], vl, vo, vs, .int .i64 (a : Int), .int .i64 (b : Int)] w fun e w' => e = .returned (.bool (alike12 next l of_ states a b)) ∧ Below w.heap.size w w' := by
 have ms := hs.max
 have H0 := aM hp
 have H1 := aM hn
 have H2 := aM ht
 have H3 := aM hl
 have H4 := aM ho
 have H5 := aM hs
 have HOK := aM hok
 have HST := aM hst
 have HLE := aM (show a < parts.length ∧ b < parts.length ∧ of_.length = l.length from ⟨ha, hb, hol⟩)
 obtain ⟨Ap, cp, rfl, _, _⟩ := hp.now
 obtain ⟨An, cn, rfl, _, _⟩ := hn.now
 obtain ⟨At, ct, rfl, _, _⟩ := ht.now
 obtain ⟨Al, cl, rfl, _, _⟩ := hl.now
 obtain ⟨Ao, co, rfl, _, _⟩ := ho.now
 obtain ⟨As, cs, rfl, _, _⟩ := hs.now
 obtain ⟨q, hq⟩ : ∃ q, q = alike12 next l of_ states a b := ⟨_, rfl⟩
 rw [← hq]
 have HQ := aM (show alike12 next l of_ (states.drop 0) a b = q from hq.symm)
 clear hp hn ht hl ho hs ha hb hst hol hnl hok hq
 go_enter Tryz.func92, Tryz.ntmps92
 go_wp2_with fail
 have HB1 := aM (below_alloc (Below.refl w.heap.size w) (.cells #[.slice Ap parts.length cp, .slice An next.length cn, .slice At tags.length ct] 80))
 have HG := aM (Box.alloc w 80 [.slice Ap parts.length cp, .slice An next.length cn, .slice At tags.length ct])
 obtain ⟨w2, hw2⟩ : ∃ w2, w2 = w.alloc (.cells #[.slice Ap parts.length cp, .slice An next.length cn, .slice At tags.length ct] 80) := ⟨_, rfl⟩
 rw [← hw2] at HB1 ⊢
 have HG0 := aM (show Box w2 w.heap.size 80 [.slice Ap parts.length cp, .slice An next.length cn, .slice At tags.length ct] by rw [hw2]; exact HG.out)
 clear HG hw2
 obtain ⟨g, hg⟩ : ∃ g, g = w.heap.size := ⟨_, rfl⟩
 rw [← hg] at HG0 ⊢
 clear hg
 go_loopg [13] states.length (fun m v13 w' => ∃ (i : Nat), v13 = .int .i64 i ∧ Aside0 (i + m = states.length) ∧ Aside0 (alike12 next l of_ (states.drop i) a b = q) ∧ Aside0 (Below w2.heap.size w2 w'))
 case atStart => exact ⟨0, rfl, ⟨by omega⟩, HQ, ⟨Below.refl _ _⟩⟩
 case round =>
  clear HQ
  obtain ⟨k, rfl, HJ, HQ, HB⟩ := hrel
  have HGi := aM (HG0.out.step HB.out)
  have y0 := HGi.out.cell 0 rfl
  have y1 := HGi.out.cell 1 rfl
  have y2 := HGi.out.cell 2 rfl
  have HBB := aM (below_step HB1.out HB.out)
  cases gk with
  | zero =>
   have e1 : decide ((k : Int) < (states.length : Int)) = false := dF (by have := HJ.out; omega)
   have e2 : decide (k < states.length) = false := dF (by have := HJ.out; omega)
   have q0 : true = q := by have := HQ.out; rw [List.drop_eq_nil_of_le (by have := HJ.out; omega)] at this; exact this
   clear HQ
   subst q0
   go_wp2_with fail
   go_ret
   exact ⟨rfl, HBB.out⟩
  | succ k1 =>
   have hk : k < states.length := by have := HJ.out; omega
   have e1 : decide ((k : Int) < (states.length : Int)) = true := dT (by omega)
   have e2 : decide (k < states.length) = true := dT hk
   have hk0 : (0 : Int) ≤ (k : Int) := by omega
   have hk1 : (k : Int) < (states.length : Int) := by omega
   obtain ⟨as_, cs', es, ys0⟩ := int_cell H5.out k hk
   cases es
   have HSK := HST.out _ (mem_getD states 0 k hk)
   have HQ1 := HQ.out
   rw [drop_at states 0 k hk, alike12_cons] at HQ1
   generalize states.getD k 0 = s at *
   obtain ⟨sn, rfl⟩ := Int.eq_ofNat_of_zero_le HSK.1
   rw [Int.toNat_natCast] at HQ1
   have HSN := aM (show sn < next.length by omega)
   obtain ⟨r1, hr1⟩ : ∃ r, r = kindL next l of_ sn a := ⟨_, rfl⟩
   obtain ⟨r2, hr2⟩ : ∃ r, r = kindL next l of_ sn b := ⟨_, rfl⟩
   rw [← hr1, ← hr2] at HQ1
   have HQ2 := aM HQ1
   have HR1 := aM hr1
   have HR2 := aM hr2
   clear hr1 hr2 HQ1 HQ HSK
   have HBd := aM (below_drew (Below.refl wr.heap.size wr))
   have ys := pw_cell_below HBB.out ys0
   have yd0 := pw_cell_below HBd.out y0
   have yd1 := pw_cell_below HBd.out y1
   have yd2 := pw_cell_below HBd.out y2
   have yd3 := pw_cell_below HBd.out ys
   have HD := aM (fun (W : World) (hb : Below wr.heap.size wr W) => kind_calls X (.slice Ap parts.length cp) (.slice An next.length cn) (.slice At tags.length ct) (.slice Al l.length cl) (.slice Ao of_.length co) parts next tags l of_ sn a W ((H0.out.below HBB.out).below hb) ((H1.out.below HBB.out).below hb) ((H2.out.below HBB.out).below hb) ((H3.out.below HBB.out).below hb) ((H4.out.below HBB.out).below hb) HSN.out (by rw [(HOK.out sn HSN.out).1]; exact HLE.out.1) ((HOK.out sn HSN.out).2 a HLE.out.1) HLE.out.2.2)
   have HD2 := aM (fun (W : World) (hb : Below wr.heap.size wr W) => kind_calls X (.slice Ap parts.length cp) (.slice An next.length cn) (.slice At tags.length ct) (.slice Al l.length cl) (.slice Ao of_.length co) parts next tags l of_ sn b W ((H0.out.below HBB.out).below hb) ((H1.out.below HBB.out).below hb) ((H2.out.below HBB.out).below hb) ((H3.out.below HBB.out).below hb) ((H4.out.below HBB.out).below hb) HSN.out (by rw [(HOK.out sn HSN.out).1]; exact HLE.out.2.1) ((HOK.out sn HSN.out).2 b HLE.out.2.1) HLE.out.2.2)
   go_wp2_with fail
   refine start_ (n := 19) (S := fun w' => w'.cell? ⟨g, 0, none⟩ = some (.slice Ap parts.length cp) ∧ w'.cell? ⟨g, 1, none⟩ = some (.slice An next.length cn) ∧ w'.cell? ⟨g, 2, none⟩ = some (.slice At tags.length ct) ∧ w'.cell? (as_.add k) = some (.int .i64 (sn : Int))) (ds := []) #[false, false, false, false, false, false, false, false, false, false, false, false, false, false, false, false, false, false, false] (by kernel_rfl) rfl rfl ⟨yd0, yd1, yd2, yd3⟩ (fun hHeld => ?_)
   refine pure_ (i := 1) (N := some 21) (v := ?_) (a' := ?_) (bv 19 2) rfl rfl (by kernel_rfl) (fun _ _ _ h => h) (Or.inl ⟨by rfl, ?_⟩) ?_ ?_
   rotate_left
   ·intro w'
    go_simp
    with_reducible rfl
   rotate_left
   ·simp only [Act.put, qA, qB, qC, i64_w, i32_w]
    rfl
   refine pure_ (i := 2) (N := some 22) (v := ?_) (a' := ?_) (bv 19 6) rfl rfl (by kernel_rfl) (fun _ _ _ h => h) (Or.inl ⟨by rfl, ?_⟩) ?_ ?_
   rotate_left
   ·intro w'
    go_simp
    with_reducible rfl
   rotate_left
   ·simp only [Act.put, qA, qB, qC, i64_w, i32_w]
    rfl
   refine pure_ (i := 3) (N := some 23) (v := ?_) (a' := ?_) (bv 19 14) rfl rfl (by kernel_rfl) (fun _ _ _ h => h) (Or.inl ⟨by rfl, ?_⟩) ?_ ?_
   rotate_left
   ·intro w'
    go_simp
    with_reducible rfl
   rotate_left
   ·simp only [Act.put, qA, qB, qC, i64_w, i32_w]
    rfl
   refine pure_ (i := 4) (N := some 24) (v := ?_) (a' := ?_) (bv 19 30) rfl rfl (by kernel_rfl) (fun _ _ _ h => h) (Or.inl ⟨by rfl, ?_⟩) ?_ ?_
   rotate_left
   ·intro w'
    go_simp
    with_reducible rfl
   rotate_left
   ·simp only [Act.put, qA, qB, qC, i64_w, i32_w]
    rfl
   refine pure_ (i := 5) (N := some 25) (v := ?_) (a' := ?_) (bv 19 62) rfl rfl (by kernel_rfl) (fun _ _ _ h => h) (Or.inl ⟨by rfl, ?_⟩) ?_ ?_
   rotate_left
   ·intro w'
    go_simp
    with_reducible rfl
   rotate_left
   ·simp only [Act.put, qA, qB, qC, i64_w, i32_w]
    rfl
   refine pure_ (i := 7) (N := some 27) (v := ?_) (a' := ?_) (bv 19 190) rfl rfl (by kernel_rfl) (fun _ _ _ h => h) (Or.inl ⟨by rfl, ?_⟩) ?_ ?_
   rotate_left
   ·intro w'
    go_simp
    with_reducible rfl
   rotate_left
   ·simp only [Act.put, qA, qB, qC, i64_w, i32_w]
    rfl
   refine pure_ (i := 10) (N := some 30) (v := ?_) (a' := ?_) (bv 19 1214) rfl rfl (by kernel_rfl) (fun _ _ _ h => h) (Or.inl ⟨by rfl, ?_⟩) ?_ ?_
   rotate_left
   ·intro w'
    go_simp
    with_reducible rfl
   rotate_left
   ·simp only [Act.put, qA, qB, qC, i64_w, i32_w]
    rfl
   refine pure_ (i := 11) (N := some 31) (v := ?_) (a' := ?_) (bv 19 3262) rfl rfl (by kernel_rfl) (fun _ _ _ h => h) (Or.inl ⟨by rfl, ?_⟩) ?_ ?_
   rotate_left
   ·intro w'
    go_simp
    with_reducible rfl
   rotate_left
   ·simp only [Act.put, qA, qB, qC, i64_w, i32_w]
    rfl
   refine pure_ (i := 12) (N := some 32) (v := ?_) (a' := ?_) (bv 19 7358) rfl rfl (by kernel_rfl) (fun _ _ _ h => h) (Or.inl ⟨by rfl, ?_⟩) ?_ ?_
   rotate_left
   ·intro w'
    go_simp
    with_reducible rfl
   rotate_left
   ·simp only [Act.put, qA, qB, qC, i64_w, i32_w]
    rfl
   refine pure_ (i := 13) (N := some 33) (v := ?_) (a' := ?_) (bv 19 15550) rfl rfl (by kernel_rfl) (fun _ _ _ h => h) (Or.inl ⟨by rfl, ?_⟩) ?_ ?_
   rotate_left
   ·intro w'
    go_simp
    with_reducible rfl
   rotate_left
   ·simp only [Act.put, qA, qB, qC, i64_w, i32_w]
    rfl
   refine pure_ (i := 14) (N := some 34) (v := ?_) (a' := ?_) (bv 19 31934) rfl rfl (by kernel_rfl) (fun _ _ _ h => h) (Or.inl ⟨by rfl, ?_⟩) ?_ ?_
   rotate_left
   ·intro w'
    go_simp
    with_reducible rfl
   rotate_left
   ·simp only [Act.put, qA, qB, qC, i64_w, i32_w]
    rfl
   refine pure_ (i := 16) (N := some 36) (v := ?_) (a' := ?_) (bv 19 97470) rfl rfl (by kernel_rfl) (fun _ _ _ h => h) (Or.inl ⟨by rfl, ?_⟩) ?_ ?_
   rotate_left
   ·intro w'
    go_simp
    with_reducible rfl
   rotate_left
   ·simp only [Act.put, qA, qB, qC, i64_w, i32_w]
    rfl
   refine take_ (i := 0) (N := some 20) (v := ?_) (a' := ?_) (bv 19 97471) rfl rfl (by kernel_rfl) (fun _ _ _ h => h) (Or.inl ⟨by rfl, ?_⟩) hHeld ?_ ?_
   rotate_left
   ·rintro w' ⟨s0, s1, s2, s3⟩
    go_simp
    with_reducible rfl
   rotate_left
   ·simp only [Act.put, qA, qB, qC, i64_w, i32_w]
    rfl
   refine take_ (i := 6) (N := some 26) (v := ?_) (a' := ?_) (bv 19 97535) rfl rfl (by kernel_rfl) (fun _ _ _ h => h) (Or.inl ⟨by rfl, ?_⟩) hHeld ?_ ?_
   rotate_left
   ·rintro w' ⟨s0, s1, s2, s3⟩
    go_simp
    with_reducible rfl
   rotate_left
   ·simp only [Act.put, qA, qB, qC, i64_w, i32_w]
    rfl
   refine take_ (i := 9) (N := some 29) (v := ?_) (a' := ?_) (bv 19 98047) rfl rfl (by kernel_rfl) (fun _ _ _ h => h) (Or.inl ⟨by rfl, ?_⟩) hHeld ?_ ?_
   rotate_left
   ·rintro w' ⟨s0, s1, s2, s3⟩
    go_simp
    with_reducible rfl
   rotate_left
   ·simp only [Act.put, qA, qB, qC, i64_w, i32_w]
    rfl
   refine take_ (i := 15) (N := some 35) (v := ?_) (a' := ?_) (bv 19 130815) rfl rfl (by kernel_rfl) (fun _ _ _ h => h) (Or.inl ⟨by rfl, ?_⟩) hHeld ?_ ?_
   rotate_left
   ·rintro w' ⟨s0, s1, s2, s3⟩
    go_simp
    with_reducible rfl
   rotate_left
   ·simp only [Act.put, qA, qB, qC, i64_w, i32_w]
    rfl
   refine one_ (i := 8) (N := some 28) (bv 19 131071) rfl rfl (by kernel_rfl) (by decide) (fun K hK => ?_)
   refine goes_ Tryz.func83 (by kernel_rfl) rfl #[.agg #[.slice Ap parts.length cp, .slice An next.length cn, .slice At tags.length ct], .slice Al l.length cl, .slice Ao of_.length co, .int .i64 (sn : Int), .int .i64 (a : Int)] (by rfl) rfl rfl (by simp only [List.map_toArray, List.map_cons, List.map_nil]; rfl) ?_
   with_reducible refine (HD.out _ HBd.out).mono ?_
   rintro e w5 ⟨rfl, hb5⟩
   refine ⟨_, rfl, ?_⟩
   rw [← HR1.out]
   have HB5 := aM (below_step HBd.out hb5)
   have z0 := pw_cell_below hb5 hHeld.1
   have z1 := pw_cell_below hb5 hHeld.2.1
   have z2 := pw_cell_below hb5 hHeld.2.2.1
   have z3 := pw_cell_below hb5 hHeld.2.2.2
   clear hb5 hHeld
   refine hK.out _ _ ⟨z0, z1, z2, z3⟩ (fun hHeld => ?_)
   clear hK K
   refine norm_ (a' := ?_) ?_ ?_
   rotate_left
   ·show Act.put _ (some 28) _ = _
    simp only [Act.put, qA, qB, qC, i64_w, i32_w]
    rfl
   refine one_ (i := 17) (N := some 37) (bv 19 262143) rfl rfl (by kernel_rfl) (by decide) (fun K hK => ?_)
   refine goes_ Tryz.func83 (by kernel_rfl) rfl #[.agg #[.slice Ap parts.length cp, .slice An next.length cn, .slice At tags.length ct], .slice Al l.length cl, .slice Ao of_.length co, .int .i64 (sn : Int), .int .i64 (b : Int)] (by rfl) rfl rfl (by simp only [List.map_toArray, List.map_cons, List.map_nil]; rfl) ?_
   with_reducible refine (HD2.out _ HB5.out).mono ?_
   rintro e w6 ⟨rfl, hb6⟩
   refine ⟨_, rfl, ?_⟩
   rw [← HR2.out]
   have HB6 := aM (below_step HB5.out hb6)
   have x0 := pw_cell_below hb6 hHeld.1
   have x1 := pw_cell_below hb6 hHeld.2.1
   have x2 := pw_cell_below hb6 hHeld.2.2.1
   have x3 := pw_cell_below hb6 hHeld.2.2.2
   clear hb6 hHeld
   refine hK.out _ _ ⟨x0, x1, x2, x3⟩ (fun hHeld => ?_)
   clear hK K
   refine norm_ (a' := ?_) ?_ ?_
   rotate_left
   ·show Act.put _ (some 37) _ = _
    simp only [Act.put, qA, qB, qC, i64_w, i32_w]
    rfl
   refine pure_ (i := 18) (N := some 38) (v := ?_) (a' := ?_) (bv 19 524287) rfl rfl (by kernel_rfl) (fun _ _ _ h => h) (Or.inl ⟨by rfl, ?_⟩) ?_ ?_
   rotate_left
   ·intro w'
    go_simp
    with_reducible rfl
   rotate_left
   ·simp only [Act.put, qA, qB, qC, i64_w, i32_w]
    rfl
   refine done_ (by kernel_rfl) ?_
   clear hHeld z0 z1 z2 z3 x0 x1 x2 x3 yd0 yd1 yd2 yd3 HD HD2
   by_cases c : r1 = r2
   ·have f1 : (r1 == r2) = true := beq_iff_eq.mpr c
    have f2 : (r1 != r2) = false := bne_eq_false_iff_eq.mpr c
    have HQ3 := aM (show alike12 next l of_ (states.drop (k + 1)) a b = q by have := HQ2.out; rwa [dT c, Bool.true_and] at this)
    clear c HQ2
    go_wp2_with fail
    go_roundg k1
    case measure => omega
    case rel => exact ⟨k + 1, by go_num, ⟨by have := HJ.out; omega⟩, HQ3, ⟨below_step HB.out HB6.out⟩⟩
   ·have f1 : (r1 == r2) = false := bF c
    have f2 : (r1 != r2) = true := bne_iff_ne.mpr c
    have q0 : false = q := by have := HQ2.out; rwa [dF c, Bool.false_and] at this
    clear HQ2
    subst q0
    go_wp2_with fail
    go_ret
    exact ⟨rfl, below_step HBB.out HB6.out⟩
def someTo (next : List (List Int)) (l states : List Int) (k : Nat) : Bool := states.any (fun s => decide (0 ≤ toL next l s.toNat k))
def grpAt (next : List (List Int)) (l of_ states : List Int) (k : Nat) : List (List Int) → Nat → Int → Int
 | [], _, a => a
 | g :: t, i, a => grpAt next l of_ states k t (i + 1) (if alike12 next l of_ states (g.getD 0 0).toNat k = true then (i : Int) else a)
def grpStep (next : List (List Int)) (l of_ states : List Int) (k : Nat) (gs : List (List Int)) : List (List Int) :=
 if someTo next l states k = true then
  if 0 ≤ grpAt next l of_ states k gs 0 (-1) then gs.set (grpAt next l of_ states k gs 0 (-1)).toNat (gs.getD (grpAt next l of_ states k gs 0 (-1)).toNat [] ++ [(k : Int)]) else gs ++ [[(k : Int)]]
 else gs
def grpGo (next : List (List Int)) (l of_ states : List Int) : Nat → Nat → List (List Int) → List (List Int)
 | 0, _, gs => gs
 | m + 1, k, gs => grpGo next l of_ states m (k + 1) (grpStep next l of_ states k gs)
def groupsL (P : Nat) (next : List (List Int)) (l of_ states : List Int) : List (List Int) := grpGo next l of_ states P 0 []
structure GQ (P k : Nat) (gs : List (List Int)) : Prop where
 len : gs.length ≤ k
 ne : ∀ g ∈ gs, 1 ≤ g.length ∧ g.length ≤ k ∧ ∀ x ∈ g, 0 ≤ x ∧ x < (P : Int)
theorem grpAt_lt (next : List (List Int)) (l of_ states : List Int) (k : Nat) : ∀ (gs : List (List Int)) (i : Nat) (a : Int), a < (i : Int) → -1 ≤ a → -1 ≤ grpAt next l of_ states k gs i a ∧ grpAt next l of_ states k gs i a < ((i + gs.length : Nat) : Int)
 | [], i, a, h, h2 => ⟨h2, by simpa [grpAt] using h⟩
 | g :: t, i, a, h, h2 => by
  have := grpAt_lt next l of_ states k t (i + 1) (if alike12 next l of_ states (g.getD 0 0).toNat k = true then (i : Int) else a) (by split <;> omega) (by split <;> omega)
  rw [grpAt]
  simp only [List.length_cons]
  omega
theorem GQ.step {P k : Nat} {gs : List (List Int)} (next : List (List Int)) (l of_ states : List Int) (h : GQ P k gs) (hk : k < P) : GQ P (k + 1) (grpStep next l of_ states k gs) := by
 have up : GQ P (k + 1) gs := ⟨by have := h.len; omega, fun g hg => ⟨(h.ne g hg).1, by have := (h.ne g hg).2.1; omega, (h.ne g hg).2.2⟩⟩
 unfold grpStep
 split
 ·have ha := grpAt_lt next l of_ states k gs 0 (-1) (by omega) (by omega)
  split
  ·next c =>
   generalize grpAt next l of_ states k gs 0 (-1) = a at *
   refine ⟨by rw [List.length_set]; exact up.len, fun g hg => ?_⟩
   rcases List.mem_or_eq_of_mem_set hg with hg | rfl
   ·exact up.ne g hg
   ·have h1 := h.ne _ (mem_getD gs [] a.toNat (by omega))
    refine ⟨by rw [lA, lS]; omega, by rw [lA, lS]; omega, fun x hx => ?_⟩
    rcases List.mem_append.1 hx with hx | hx
    ·exact h1.2.2 x hx
    ·obtain rfl := List.mem_singleton.1 hx
     omega
  ·refine ⟨by simp; have := h.len; omega, fun g hg => ?_⟩
   rcases List.mem_append.1 hg with hg | hg
   ·exact up.ne g hg
   ·obtain rfl := List.mem_singleton.1 hg
    exact ⟨by simp, by simp, fun x hx => by obtain rfl := List.mem_singleton.1 hx; omega⟩
 ·exact up
theorem GQ.go {P : Nat} (next : List (List Int)) (l of_ states : List Int) : ∀ m k gs, k + m = P → GQ P k gs → GQ P P (grpGo next l of_ states m k gs)
  | 0, k, gs, h, hg => by obtain rfl : k = P := by omega
                          exact hg
  | m + 1, k, gs, h, hg => GQ.go next l of_ states m (k + 1) _ (by omega) (hg.step next l of_ states (by omega))
theorem groups_gq (P : Nat) (next : List (List Int)) (l of_ states : List Int) : GQ P P (groupsL P next l of_ states) := GQ.go next l of_ states P 0 [] (by omega) ⟨Nat.le_refl _, fun g hg => by simp at hg⟩
theorem add_0 (a : Addr) : a.add 0 = a := by simp [Addr.add]
set_option maxHeartbeats 8000000 in
theorem groups_calls (X : Nat → Prop) (vp vn vt vl vo vs : Value) (parts : List (List Sp)) (next : List (List Int)) (tags l of_ states : List Int) (w : World) (hX : ∀ k, X k → k < w.heap.size) (hp : PV kSps X w vp parts) (hn : PV kRow X w vn next) (ht : PV kInt X w vt tags) (hl : PV kInt X w vl l) (ho : PV kInt X w vo of_) (hs : PV kInt X w vs states)
  (hst : ∀ s ∈ states, 0 ≤ s ∧ s < (next.length : Int)) (hol : of_.length = l.length) (hnl : next.length = l.length) (hok : Ok12 parts.length l.length next) (hpl : parts.length ≤ 100000) :
  Calls Tryz.prog 82 #[.agg #[vp, vn, vt], vl, vo, vs] w fun e w' => ∃ v, e = .returned v ∧ PV kRow X w' v (groupsL parts.length next l of_ states) ∧ Below w.heap.size w w' := by
 have ms := hs.max
 have H0 := aM hp
 have H1 := aM hn
 have H2 := aM ht
 have H3 := aM hl
 have H4 := aM ho
 have H5 := aM hs
 have HOK := aM hok
 have HST := aM hst
 have HLE := aM (show of_.length = l.length ∧ next.length = l.length from ⟨hol, hnl⟩)
 obtain ⟨Ap, cp, rfl, _, _⟩ := hp.now
 obtain ⟨An, cn, rfl, _, _⟩ := hn.now
 obtain ⟨At, ct, rfl, _, _⟩ := ht.now
 obtain ⟨Al, cl, rfl, _, _⟩ := hl.now
 obtain ⟨Ao, co, rfl, _, _⟩ := ho.now
 obtain ⟨As, cs, rfl, _, _⟩ := hs.now
 obtain ⟨r, hr⟩ : ∃ q, q = groupsL parts.length next l of_ states := ⟨_, rfl⟩
 rw [← hr]
 have HR := aM (show grpGo next l of_ states parts.length 0 [] = r from hr.symm)
 have HS := aM (((Sep.start hX).push_box [.slice Ap parts.length cp, .slice An next.length cn, .slice At tags.length ct] 80).push_nil kSl 26)
 clear hp hn ht hl ho hs hst hol hnl hok hX hr
 go_enter Tryz.func82, Tryz.ntmps82
 go_wp2_with fail
 go_loopg [9, 10] parts.length (fun m v9 v10 w' => ∃ (k : Nat) (us : List SlT) (gs : List (List Int)), v10 = .int .i64 k ∧ Aside0 (k + m = parts.length) ∧ Aside0 (us.length = gs.length) ∧ Aside0 (GQ parts.length k gs) ∧ Aside0 (grpGo next l of_ states m k gs = r) ∧ Aside0 (Sep X w w' ([.box w.heap.size 80 [.slice Ap parts.length cp, .slice An next.length cn, .slice At tags.length ct], .row kSl 26 v9 us] ++ rows kInt 3 us gs)))
 case atStart => exact ⟨0, [], [], rfl, ⟨by omega⟩, ⟨rfl⟩, ⟨⟨Nat.le_refl _, fun g hg => by simp at hg⟩⟩, HR, HS⟩
 case round =>
  clear HS HR
  obtain ⟨k, us, gs, rfl, HJ, HU, HQ, HR, HS⟩ := hrel
  obtain ⟨A9, c9, e9⟩ := HS.out.form 1 rfl
  rw [HU.out] at e9
  subst e9
  cases gk with
  | zero =>
   have e1 : decide ((k : Int) < (parts.length : Int)) = false := dF (by have := HJ.out; omega)
   have e2 : decide (k < parts.length) = false := dF (by have := HJ.out; omega)
   have y0 := ((HS.out.box 0 rfl).cell 0 rfl)
   have q0 : gs = r := HR.out
   clear HR
   subst q0
   go_wp2_with fail
   go_ret
   refine ⟨_, rfl, HS.out.res_rows (d := kInt) (e := 3) 1 2 rfl HU.out (fun j hj => ?_) (by omega), HS.out.below⟩
   rw [List.getElem?_append_right (by simp)]
   simpa using rows_at j HU.out hj
  | succ k1 =>
   have hk : k < parts.length := by have := HJ.out; omega
   have e1 : decide ((k : Int) < (parts.length : Int)) = true := dT (by omega)
   have e2 : decide (k < parts.length) = true := dT hk
   have y0 := ((HS.out.box 0 rfl).cell 0 rfl)
   have HR1 := HR.out
   rw [grpGo, grpStep] at HR1
   obtain ⟨sb, hsb⟩ : ∃ q, q = someTo next l states k := ⟨_, rfl⟩
   obtain ⟨a0, ha0⟩ : ∃ q, q = grpAt next l of_ states k gs 0 (-1) := ⟨_, rfl⟩
   rw [← hsb, ← ha0] at HR1
   have HR2 := aM HR1
   have HSB := aM (show (false || (states.drop 0).any (fun s => decide (0 ≤ toL next l s.toNat k))) = sb from hsb.symm)
   have HAT := aM (show grpAt next l of_ states k (gs.drop 0) 0 (-1) = a0 from ha0.symm)
   have HAR := aM (show -1 ≤ a0 ∧ a0 < (gs.length : Int) by have := grpAt_lt next l of_ states k gs 0 (-1) (by omega) (by omega); rw [ha0]; omega)
   have HQ2 := aM (show GQ parts.length (k + 1) (if sb = true then if 0 ≤ a0 then gs.set a0.toNat (gs.getD a0.toNat [] ++ [(k : Int)]) else gs ++ [[(k : Int)]] else gs) by have := HQ.out.step next l of_ states hk; rwa [grpStep, ← hsb, ← ha0] at this)
   clear HR HR1 hsb ha0
   go_wp2_with fail
   clear y0
   go_loopg [11, 12] states.length (fun m v11 v12 w' => ∃ (i : Nat) (q : Bool), (v12 = .int .i64 i ∧ v11 = .bool q) ∧ Aside0 (i + m = states.length) ∧ Aside0 ((q || (states.drop i).any (fun s => decide (0 ≤ toL next l s.toNat k))) = sb) ∧ Aside0 (Sep X w w' ([.box w.heap.size 80 [.slice Ap parts.length cp, .slice An next.length cn, .slice At tags.length ct], .row kSl 26 (.slice A9 gs.length c9) us] ++ rows kInt 3 us gs)))
   case atStart => exact ⟨0, false, ⟨by go_num, rfl⟩, ⟨by omega⟩, HSB, HS⟩
   case round =>
    clear HS HSB
    obtain ⟨i, q, ⟨rfl, rfl⟩, HI, HSB, HS⟩ := hrel
    cases gk with
    | succ k2 =>
     have hi : i < states.length := by have := HI.out; omega
     have e3 : decide ((i : Int) < (states.length : Int)) = true := dT (by omega)
     have e4 : decide (i < states.length) = true := dT hi
     have hi0 : (0 : Int) ≤ (i : Int) := by omega
     have hi1 : (i : Int) < (states.length : Int) := by omega
     have hs := HS.out.drew
     clear HS
     have HS := aM hs
     clear hs
     obtain ⟨as_, cs', es, ys0⟩ := int_cell H5.out i hi
     cases es
     have ys := pw_cell_below HS.out.below ys0
     have HSK := HST.out _ (mem_getD states 0 i hi)
     have HSB1 := HSB.out
     rw [drop_at states 0 i hi, List.any_cons] at HSB1
     generalize states.getD i 0 = s at *
     obtain ⟨sn, rfl⟩ := Int.eq_ofNat_of_zero_le HSK.1
     rw [Int.toNat_natCast] at HSB1
     have HSN := aM (show sn < next.length by omega)
     have HOKS := aM (show (next.getD sn []).length = parts.length ∧ ∀ k, k < parts.length → (next.getD sn []).getD k 0 < (l.length : Int) from HOK.out sn HSN.out)
     obtain ⟨x, hx⟩ : ∃ x, x = toL next l sn k := ⟨_, rfl⟩
     rw [← hx] at HSB1
     have HX := aM hx.symm
     have HSB2 := aM HSB1
     have y0 := ((HS.out.box 0 rfl).cell 0 rfl)
     have y1 := ((HS.out.box 0 rfl).cell 1 rfl)
     have y2 := ((HS.out.box 0 rfl).cell 2 rfl)
     clear hx HSB1 HSB ys0 HSK
     cases q
     case true =>
      have HSB3 := aM (show (true || (states.drop (i + 1)).any (fun s => decide (0 ≤ toL next l s.toNat k))) = sb by rw [← HSB2.out]; rfl)
      clear HSB2
      go_wp2_with fail
      refine start_ (n := 13) (S := fun w' => True) (ds := []) #[false, false, false, false, false, false, false, false, false, false, false, false, false] (by kernel_rfl) rfl rfl trivial (fun hHeld => ?_)
      refine pure_ (i := 0) (N := some 28) (v := ?_) (a' := ?_) (bv 13 1) rfl rfl (by kernel_rfl) (fun _ _ _ h => h) (Or.inl ⟨by rfl, ?_⟩) ?_ ?_
      rotate_left
      ·intro w'
       go_simp
       with_reducible rfl
      rotate_left
      ·simp only [Act.put, qA, qB, qC, i64_w, i32_w]
       rfl
      refine pure_ (i := 1) (N := some 29) (v := ?_) (a' := ?_) (bv 13 3) rfl rfl (by kernel_rfl) (fun _ _ _ h => h) (Or.inl ⟨by rfl, ?_⟩) ?_ ?_
      rotate_left
      ·intro w'
       go_simp
       with_reducible rfl
      rotate_left
      ·simp only [Act.put, qA, qB, qC, i64_w, i32_w]
       rfl
      refine pure_ (i := 2) (N := some 30) (v := undef) (a' := ?_) (bv 13 7) rfl rfl (by kernel_rfl) (fun _ _ _ h => h) (Or.inr ⟨by rfl, rfl⟩) ?_ ?_
      rotate_left
      ·simp only [Act.put, qA, qB, qC, i64_w, i32_w]
       rfl
      refine pure_ (i := 3) (N := some 31) (v := undef) (a' := ?_) (bv 13 15) rfl rfl (by kernel_rfl) (fun _ _ _ h => h) (Or.inr ⟨by rfl, rfl⟩) ?_ ?_
      rotate_left
      ·simp only [Act.put, qA, qB, qC, i64_w, i32_w]
       rfl
      refine pure_ (i := 4) (N := some 32) (v := undef) (a' := ?_) (bv 13 31) rfl rfl (by kernel_rfl) (fun _ _ _ h => h) (Or.inr ⟨by rfl, rfl⟩) ?_ ?_
      rotate_left
      ·simp only [Act.put, qA, qB, qC, i64_w, i32_w]
       rfl
      refine pure_ (i := 5) (N := some 33) (v := undef) (a' := ?_) (bv 13 63) rfl rfl (by kernel_rfl) (fun _ _ _ h => h) (Or.inr ⟨by rfl, rfl⟩) ?_ ?_
      rotate_left
      ·simp only [Act.put, qA, qB, qC, i64_w, i32_w]
       rfl
      refine pure_ (i := 6) (N := some 34) (v := undef) (a' := ?_) (bv 13 127) rfl rfl (by kernel_rfl) (fun _ _ _ h => h) (Or.inr ⟨by rfl, rfl⟩) ?_ ?_
      rotate_left
      ·simp only [Act.put, qA, qB, qC, i64_w, i32_w]
       rfl
      refine pure_ (i := 7) (N := some 35) (v := undef) (a' := ?_) (bv 13 255) rfl rfl (by kernel_rfl) (fun _ _ _ h => h) (Or.inr ⟨by rfl, rfl⟩) ?_ ?_
      rotate_left
      ·simp only [Act.put, qA, qB, qC, i64_w, i32_w]
       rfl
      refine pure_ (i := 8) (N := some 36) (v := undef) (a' := ?_) (bv 13 511) rfl rfl (by kernel_rfl) (fun _ _ _ h => h) (Or.inr ⟨by rfl, rfl⟩) ?_ ?_
      rotate_left
      ·simp only [Act.put, qA, qB, qC, i64_w, i32_w]
       rfl
      refine pure_ (i := 9) (N := some 37) (v := undef) (a' := ?_) (bv 13 1023) rfl rfl (by kernel_rfl) (fun _ _ _ h => h) (Or.inr ⟨by rfl, rfl⟩) ?_ ?_
      rotate_left
      ·simp only [Act.put, qA, qB, qC, i64_w, i32_w]
       rfl
      refine pure_ (i := 10) (N := some 38) (v := undef) (a' := ?_) (bv 13 2047) rfl rfl (by kernel_rfl) (fun _ _ _ h => h) (Or.inr ⟨by rfl, rfl⟩) ?_ ?_
      rotate_left
      ·simp only [Act.put, qA, qB, qC, i64_w, i32_w]
       rfl
      refine pure_ (i := 11) (N := some 39) (v := ?_) (a' := ?_) (bv 13 4095) rfl rfl (by kernel_rfl) (fun _ _ _ h => h) (Or.inl ⟨by rfl, ?_⟩) ?_ ?_
      rotate_left
      ·intro w'
       go_simp
       with_reducible rfl
      rotate_left
      ·simp only [Act.put, qA, qB, qC, i64_w, i32_w]
       rfl
      refine pure_ (i := 12) (N := some 11) (v := ?_) (a' := ?_) (bv 13 8191) rfl rfl (by kernel_rfl) (fun _ _ _ h => h) (Or.inl ⟨by rfl, ?_⟩) ?_ ?_
      rotate_left
      ·intro w'
       go_simp
       with_reducible rfl
      rotate_left
      ·simp only [Act.put, qA, qB, qC, i64_w, i32_w]
       rfl
      refine done_ (by kernel_rfl) ?_
      go_wp2_with fail
      go_roundg k2
      case measure => omega
      case rel => exact ⟨i + 1, true, ⟨by go_num, rfl⟩, ⟨by have := HI.out; omega⟩, HSB3, HS⟩
     case false =>
      have hxx : (false || decide (x ≥ 0)) = decide (0 ≤ x) := rfl
      go_wp2_with fail
      refine start_ (n := 13) (S := fun w' => w'.cell? ⟨w.heap.size, 0, none⟩ = some (.slice Ap parts.length cp) ∧ w'.cell? ⟨w.heap.size, 1, none⟩ = some (.slice An next.length cn) ∧ w'.cell? ⟨w.heap.size, 2, none⟩ = some (.slice At tags.length ct) ∧ w'.cell? (as_.add i) = some (.int .i64 (sn : Int))) (ds := [9]) #[false, false, false, false, false, false, false, false, false, false, false, false, false] (by kernel_rfl) rfl rfl ⟨y0, y1, y2, ys⟩ (fun hHeld => ?_)
      refine pure_ (i := 0) (N := some 28) (v := ?_) (a' := ?_) (bv 13 1) rfl rfl (by kernel_rfl) (fun _ _ _ h => h) (Or.inl ⟨by rfl, ?_⟩) ?_ ?_
      rotate_left
      ·intro w'
       go_simp
       with_reducible rfl
      rotate_left
      ·simp only [Act.put, qA, qB, qC, i64_w, i32_w]
       rfl
      refine pure_ (i := 1) (N := some 29) (v := ?_) (a' := ?_) (bv 13 3) rfl rfl (by kernel_rfl) (fun _ _ _ h => h) (Or.inl ⟨by rfl, ?_⟩) ?_ ?_
      rotate_left
      ·intro w'
       go_simp
       with_reducible rfl
      rotate_left
      ·simp only [Act.put, qA, qB, qC, i64_w, i32_w]
       rfl
      refine pure_ (i := 3) (N := some 31) (v := ?_) (a' := ?_) (bv 13 11) rfl rfl (by kernel_rfl) (fun _ _ _ h => h) (Or.inl ⟨by rfl, ?_⟩) ?_ ?_
      rotate_left
      ·intro w'
       go_simp
       with_reducible rfl
      rotate_left
      ·simp only [Act.put, qA, qB, qC, i64_w, i32_w]
       rfl
      refine pure_ (i := 4) (N := some 32) (v := ?_) (a' := ?_) (bv 13 27) rfl rfl (by kernel_rfl) (fun _ _ _ h => h) (Or.inl ⟨by rfl, ?_⟩) ?_ ?_
      rotate_left
      ·intro w'
       go_simp
       with_reducible rfl
      rotate_left
      ·simp only [Act.put, qA, qB, qC, i64_w, i32_w]
       rfl
      refine pure_ (i := 5) (N := some 33) (v := ?_) (a' := ?_) (bv 13 59) rfl rfl (by kernel_rfl) (fun _ _ _ h => h) (Or.inl ⟨by rfl, ?_⟩) ?_ ?_
      rotate_left
      ·intro w'
       go_simp
       with_reducible rfl
      rotate_left
      ·simp only [Act.put, qA, qB, qC, i64_w, i32_w]
       rfl
      refine pure_ (i := 6) (N := some 34) (v := ?_) (a' := ?_) (bv 13 123) rfl rfl (by kernel_rfl) (fun _ _ _ h => h) (Or.inl ⟨by rfl, ?_⟩) ?_ ?_
      rotate_left
      ·intro w'
       go_simp
       with_reducible rfl
      rotate_left
      ·simp only [Act.put, qA, qB, qC, i64_w, i32_w]
       rfl
      refine pure_ (i := 8) (N := some 36) (v := ?_) (a' := ?_) (bv 13 379) rfl rfl (by kernel_rfl) (fun _ _ _ h => h) (Or.inl ⟨by rfl, ?_⟩) ?_ ?_
      rotate_left
      ·intro w'
       go_simp
       with_reducible rfl
      rotate_left
      ·simp only [Act.put, qA, qB, qC, i64_w, i32_w]
       rfl
      refine take_ (i := 2) (N := some 30) (v := ?_) (a' := ?_) (bv 13 383) rfl rfl (by kernel_rfl) (fun _ _ _ h => h) (Or.inl ⟨by rfl, ?_⟩) hHeld ?_ ?_
      rotate_left
      ·rintro w' ⟨s0, s1, s2, s3⟩
       go_simp
       with_reducible rfl
      rotate_left
      ·simp only [Act.put, qA, qB, qC, i64_w, i32_w]
       rfl
      refine take_ (i := 7) (N := some 35) (v := ?_) (a' := ?_) (bv 13 511) rfl rfl (by kernel_rfl) (fun _ _ _ h => h) (Or.inl ⟨by rfl, ?_⟩) hHeld ?_ ?_
      rotate_left
      ·rintro w' ⟨s0, s1, s2, s3⟩
       go_simp
       with_reducible rfl
      rotate_left
      ·simp only [Act.put, qA, qB, qC, i64_w, i32_w]
       rfl
      refine last_ (i := 9) (N := some 37) #[true, true, true, true, true, true, true, true, true, true, false, false, false] rfl rfl (by kernel_rfl) (by decide) (fun K hK => ?_)
      refine goes_ Tryz.func91 (by kernel_rfl) rfl #[.agg #[.slice Ap parts.length cp, .slice An next.length cn, .slice At tags.length ct], .slice Al l.length cl, .int .i64 (sn : Int), .int .i64 (k : Int)] (by rfl) rfl rfl (by simp only [List.map_toArray, List.map_cons, List.map_nil]; rfl) ?_
      with_reducible refine (to_calls _ _ _ _ _ parts next tags l sn k _ (HS.out.arg H0.out) (HS.out.arg H1.out) (HS.out.arg H2.out) (HS.out.arg H3.out) HSN.out (by rw [HOKS.out.1]; exact hk) (HOKS.out.2 k hk)).mono ?_
      rintro e w5 ⟨rfl, hb5⟩
      refine ⟨_, rfl, ?_⟩
      rw [HX.out]
      have hs := HS.out.call hb5
      clear hb5
      clear HS; have HS := aM hs; clear hs
      refine hK.out _ _ ?_
      clear hK K
      refine norm_ (a' := ?_) ?_ ?_
      rotate_left
      ·show Act.put _ (some 37) _ = _
       simp only [Act.put, qA, qB, qC, i64_w, i32_w]
       rfl
      refine pure_ (i := 10) (N := some 38) (v := ?_) (a' := ?_) (bv 13 2047) rfl rfl (by kernel_rfl) (fun _ _ _ h => h) (Or.inl ⟨by rfl, ?_⟩) ?_ ?_
      rotate_left
      ·intro w'
       go_simp
       with_reducible rfl
      rotate_left
      ·simp only [Act.put, qA, qB, qC, i64_w, i32_w]
       rfl
      refine pure_ (i := 11) (N := some 39) (v := ?_) (a' := ?_) (bv 13 4095) rfl rfl (by kernel_rfl) (fun _ _ _ h => h) (Or.inl ⟨by rfl, ?_⟩) ?_ ?_
      rotate_left
      ·intro w'
       go_simp
       with_reducible rfl
      rotate_left
      ·simp only [Act.put, qA, qB, qC, i64_w, i32_w]
       rfl
      refine pure_ (i := 12) (N := some 11) (v := ?_) (a' := ?_) (bv 13 8191) rfl rfl (by kernel_rfl) (fun _ _ _ h => h) (Or.inl ⟨by rfl, ?_⟩) ?_ ?_
      rotate_left
      ·intro w'
       go_simp
       with_reducible rfl
      rotate_left
      ·simp only [Act.put, qA, qB, qC, i64_w, i32_w]
       rfl
      refine done_ (by kernel_rfl) ?_
      rcases Int.lt_or_le x 0 with c | c
      case inl =>
       have d1 : decide (x ≥ 0) = false := dF (by omega)
       have d2 : decide (0 ≤ x) = false := dF (by omega)
       have HSB3 := aM (show (false || (states.drop (i + 1)).any (fun s => decide (0 ≤ toL next l s.toNat k))) = sb by rw [← HSB2.out, d2]; rfl)
       clear HSB2 hxx
       go_wp2_with fail
       go_roundg k2
       case measure => omega
       case rel => exact ⟨i + 1, false, ⟨by go_num, by rw [d2]⟩, ⟨by have := HI.out; omega⟩, HSB3, HS⟩
      case inr =>
       have d1 : decide (x ≥ 0) = true := dT (by omega)
       have d2 : decide (0 ≤ x) = true := dT (by omega)
       have HSB3 := aM (show (true || (states.drop (i + 1)).any (fun s => decide (0 ≤ toL next l s.toNat k))) = sb by rw [← HSB2.out, d2]; rfl)
       clear HSB2 hxx
       go_wp2_with fail
       go_roundg k2
       case measure => omega
       case rel => exact ⟨i + 1, true, ⟨by go_num, by rw [d2]⟩, ⟨by have := HI.out; omega⟩, HSB3, HS⟩
    | zero =>
     have e3 : decide ((i : Int) < (states.length : Int)) = false := dF (by have := HI.out; omega)
     have e4 : decide (i < states.length) = false := dF (by have := HI.out; omega)
     have q0 : q = sb := by have := HSB.out; rw [List.drop_eq_nil_of_le (by have := HI.out; omega)] at this; simpa using this
     clear HSB
     subst q0
     cases q
     case false =>
      have HR3 := aM (show grpGo next l of_ states k1 (k + 1) gs = r from HR2.out)
      have HQ3 := aM (show GQ parts.length (k + 1) gs from HQ2.out)
      clear HR2 HQ2
      go_wp2_with fail
      go_loopg [13, 14] 0 (fun m v13 v14 w' => (v14 = .int .i64 0 ∧ v13 = .int .i64 (-1)) ∧ Aside0 (Sep X w w' ([.box w.heap.size 80 [.slice Ap parts.length cp, .slice An next.length cn, .slice At tags.length ct], .row kSl 26 (.slice A9 gs.length c9) us] ++ rows kInt 3 us gs)))
      case atStart => exact ⟨⟨rfl, rfl⟩, HS⟩
      case round =>
       clear HS e3 e4
       obtain ⟨⟨rfl, rfl⟩, HS⟩ := hrel
       rcases Nat.eq_zero_or_pos gs.length with c | c
       case' inl =>
        have f1 : decide ((0 : Int) < (gs.length : Int)) = false := dF (by omega)
        have f2 : decide (0 < gs.length) = false := dF (by omega)
       case' inr =>
        have f1 : decide ((0 : Int) < (gs.length : Int)) = true := dT (by omega)
        have f2 : decide (0 < gs.length) = true := dT (by omega)
       all_goals
        clear c
        go_wp2_with fail
        go_roundg k1
        case measure => omega
        case rel => exact ⟨k + 1, us, gs, by go_num, ⟨by have := HJ.out; omega⟩, HU, HQ3, HR3, HS⟩
     case true =>
      go_wp2_with fail
      clear e3 e4
      go_loopg [13, 14] gs.length (fun m v13 v14 w' => ∃ (g : Nat) (a : Int), (v14 = .int .i64 g ∧ v13 = .int .i64 a) ∧ Aside0 (g + m = gs.length) ∧ Aside0 (grpAt next l of_ states k (gs.drop g) g a = a0) ∧ Aside0 (Sep X w w' ([.box w.heap.size 80 [.slice Ap parts.length cp, .slice An next.length cn, .slice At tags.length ct], .row kSl 26 (.slice A9 gs.length c9) us] ++ rows kInt 3 us gs)))
      case atStart => exact ⟨0, -1, ⟨by go_num, rfl⟩, ⟨by omega⟩, HAT, HS⟩
      case round =>
       clear HS HAT
       obtain ⟨g, a, ⟨rfl, rfl⟩, HG, HAT, HS⟩ := hrel
       cases gk with
       | succ k2 =>
        have hg : g < gs.length := by have := HG.out; omega
        have f1 : decide ((g : Int) < (gs.length : Int)) = true := dT (by omega)
        have f2 : decide (g < gs.length) = true := dT hg
        have hg0 : (0 : Int) ≤ (g : Int) := by omega
        have hg1 : (g : Int) < (gs.length : Int) := by omega
        go_wp2_with fail
        have hs := HS.out.drew
        clear HS
        have HS := aM hs
        clear hs
        obtain ⟨g9, c9', e9, yo, _, _⟩ := HS.out.sc (none, 0, 0) 1 rfl g (by rw [HU.out]; exact hg)
        rw [HU.out] at e9
        cases e9
        have hgq := HQ.out.ne _ (mem_getD gs [] g hg)
        obtain ⟨gi, ci, ei, yi, _, _⟩ := HS.out.int (g + 2) (rows_at g HU.out hg) 0 hgq.1
        rw [ei] at yo
        have hx0 := hgq.2.2 _ (mem_getD (gs.getD g []) 0 0 hgq.1)
        have hgl : (0 : Int) < ((gs.getD g []).length : Int) := by omega
        have hgsl : gs.length ≤ 100000 := by have := HQ.out.len; omega
        have hgl2 : 0 < (gs.getD g []).length := by omega
        have hgm : (gs.getD g []).length ≤ 100000 := by have := hgq.2.1; omega
        have HAT1 := HAT.out
        rw [drop_at gs [] g hg, grpAt] at HAT1
        generalize gs.getD g [] = gr at *
        generalize gr.getD 0 0 = x0 at *
        obtain ⟨xn, rfl⟩ := Int.eq_ofNat_of_zero_le hx0.1
        rw [Int.toNat_natCast] at HAT1
        have HXN := aM (show xn < parts.length by omega)
        obtain ⟨ab, hab⟩ : ∃ b, b = alike12 next l of_ states xn k := ⟨_, rfl⟩
        rw [← hab] at HAT1
        have HAT2 := aM HAT1
        have HAB := aM hab.symm
        have y0 := ((HS.out.box 0 rfl).cell 0 rfl)
        have y1 := ((HS.out.box 0 rfl).cell 1 rfl)
        have y2 := ((HS.out.box 0 rfl).cell 2 rfl)
        clear hab HAT1 HAT hgq hx0 ei
        refine start_ (n := 12) (S := fun w' => w'.cell? ⟨w.heap.size, 0, none⟩ = some (.slice Ap parts.length cp) ∧ w'.cell? ⟨w.heap.size, 1, none⟩ = some (.slice An next.length cn) ∧ w'.cell? ⟨w.heap.size, 2, none⟩ = some (.slice At tags.length ct) ∧ w'.cell? ⟨g9, g, none⟩ = some (.slice (some ⟨gi, 0, none⟩) gr.length ci) ∧ w'.cell? ⟨gi, 0, none⟩ = some (.int .i64 (xn : Int))) (ds := [11]) #[false, false, false, false, false, false, false, false, false, false, false, false] (by kernel_rfl) rfl rfl ⟨y0, y1, y2, yo, yi⟩ (fun hHeld => ?_)
        refine pure_ (i := 1) (N := some 50) (v := ?_) (a' := ?_) (bv 12 2) rfl rfl (by kernel_rfl) (fun _ _ _ h => h) (Or.inl ⟨by rfl, ?_⟩) ?_ ?_
        rotate_left
        ·intro w'
         go_simp
         with_reducible rfl
        rotate_left
        ·simp only [Act.put, qA, qB, qC, i64_w, i32_w]
         rfl
        refine pure_ (i := 2) (N := some 51) (v := ?_) (a' := ?_) (bv 12 6) rfl rfl (by kernel_rfl) (fun _ _ _ h => h) (Or.inl ⟨by rfl, ?_⟩) ?_ ?_
        rotate_left
        ·intro w'
         go_simp
         with_reducible rfl
        rotate_left
        ·simp only [Act.put, qA, qB, qC, i64_w, i32_w]
         rfl
        refine pure_ (i := 3) (N := some 52) (v := ?_) (a' := ?_) (bv 12 14) rfl rfl (by kernel_rfl) (fun _ _ _ h => h) (Or.inl ⟨by rfl, ?_⟩) ?_ ?_
        rotate_left
        ·intro w'
         go_simp
         with_reducible rfl
        rotate_left
        ·simp only [Act.put, qA, qB, qC, i64_w, i32_w]
         rfl
        refine pure_ (i := 4) (N := some 53) (v := ?_) (a' := ?_) (bv 12 30) rfl rfl (by kernel_rfl) (fun _ _ _ h => h) (Or.inl ⟨by rfl, ?_⟩) ?_ ?_
        rotate_left
        ·intro w'
         go_simp
         with_reducible rfl
        rotate_left
        ·simp only [Act.put, qA, qB, qC, i64_w, i32_w]
         rfl
        refine pure_ (i := 5) (N := some 54) (v := ?_) (a' := ?_) (bv 12 62) rfl rfl (by kernel_rfl) (fun _ _ _ h => h) (Or.inl ⟨by rfl, ?_⟩) ?_ ?_
        rotate_left
        ·intro w'
         go_simp
         with_reducible rfl
        rotate_left
        ·simp only [Act.put, qA, qB, qC, i64_w, i32_w]
         rfl
        refine pure_ (i := 6) (N := some 55) (v := ?_) (a' := ?_) (bv 12 126) rfl rfl (by kernel_rfl) (fun _ _ _ h => h) (Or.inl ⟨by rfl, ?_⟩) ?_ ?_
        rotate_left
        ·intro w'
         go_simp
         with_reducible rfl
        rotate_left
        ·simp only [Act.put, qA, qB, qC, i64_w, i32_w]
         rfl
        refine pure_ (i := 10) (N := some 59) (v := ?_) (a' := ?_) (bv 12 1150) rfl rfl (by kernel_rfl) (fun _ _ _ h => h) (Or.inl ⟨by rfl, ?_⟩) ?_ ?_
        rotate_left
        ·intro w'
         go_simp
         with_reducible rfl
        rotate_left
        ·simp only [Act.put, qA, qB, qC, i64_w, i32_w]
         rfl
        refine take_ (i := 0) (N := some 49) (v := ?_) (a' := ?_) (bv 12 1151) rfl rfl (by kernel_rfl) (fun _ _ _ h => h) (Or.inl ⟨by rfl, ?_⟩) hHeld ?_ ?_
        rotate_left
        ·rintro w' ⟨s0, s1, s2, s3, s4⟩
         go_simp
         with_reducible rfl
        rotate_left
        ·simp only [Act.put, qA, qB, qC, i64_w, i32_w]
         rfl
        refine take_ (i := 7) (N := some 56) (v := ?_) (a' := ?_) (bv 12 1279) rfl rfl (by kernel_rfl) (fun _ _ _ h => h) (Or.inl ⟨by rfl, ?_⟩) hHeld ?_ ?_
        rotate_left
        ·rintro w' ⟨s0, s1, s2, s3, s4⟩
         go_simp
         with_reducible rfl
        rotate_left
        ·simp only [Act.put, qA, qB, qC, i64_w, i32_w]
         rfl
        refine pure_ (i := 8) (N := some 57) (v := ?_) (a' := ?_) (bv 12 1535) rfl rfl (by kernel_rfl) (fun _ _ _ h => h) (Or.inl ⟨by rfl, ?_⟩) ?_ ?_
        rotate_left
        ·intro w'
         go_simp
         with_reducible rfl
        rotate_left
        ·simp only [Act.put, qA, qB, qC, i64_w, i32_w]
         rfl
        refine take_ (i := 9) (N := some 58) (v := ?_) (a' := ?_) (bv 12 2047) rfl rfl (by kernel_rfl) (fun _ _ _ h => h) (Or.inl ⟨by rfl, ?_⟩) hHeld ?_ ?_
        rotate_left
        ·rintro w' ⟨s0, s1, s2, s3, s4⟩
         go_simp
         with_reducible rfl
        rotate_left
        ·simp only [Act.put, qA, qB, qC, i64_w, i32_w]
         rfl
        refine last_ (i := 11) (N := some 60) #[true, true, true, true, true, true, true, true, true, true, true, true] rfl rfl (by kernel_rfl) (by decide) (fun K hK => ?_)
        refine goes_ Tryz.func92 (by kernel_rfl) rfl #[.agg #[.slice Ap parts.length cp, .slice An next.length cn, .slice At tags.length ct], .slice Al l.length cl, .slice Ao of_.length co, .slice As states.length cs, .int .i64 (xn : Int), .int .i64 (k : Int)] (by rfl) rfl rfl (by simp only [List.map_toArray, List.map_cons, List.map_nil]; rfl) ?_
        with_reducible refine (alike12_calls _ _ _ _ _ _ _ parts next tags l of_ states xn k _ (HS.out.arg H0.out) (HS.out.arg H1.out) (HS.out.arg H2.out) (HS.out.arg H3.out) (HS.out.arg H4.out) (HS.out.arg H5.out) HXN.out hk HST.out HLE.out.1 HLE.out.2 HOK.out).mono ?_
        rintro e w5 ⟨rfl, hb5⟩
        refine ⟨_, rfl, ?_⟩
        rw [HAB.out]
        have hs := HS.out.call hb5
        clear hb5
        clear HS; have HS := aM hs; clear hs
        refine hK.out _ _ ?_
        clear hK K
        refine norm_ (a' := ?_) ?_ ?_
        rotate_left
        ·show Act.put _ (some 60) _ = _
         simp only [Act.put, qA, qB, qC, i64_w, i32_w]
         rfl
        refine done_ (by kernel_rfl) ?_
        cases ab
        case false =>
         have HAT3 := aM (show grpAt next l of_ states k (gs.drop (g + 1)) (g + 1) a = a0 from HAT2.out)
         clear HAT2
         go_wp2_with fail
         go_roundg k2
         case measure => omega
         case rel => exact ⟨g + 1, a, ⟨by go_num, rfl⟩, ⟨by have := HG.out; omega⟩, HAT3, HS⟩
        case true =>
         have HAT3 := aM (show grpAt next l of_ states k (gs.drop (g + 1)) (g + 1) (g : Int) = a0 from HAT2.out)
         clear HAT2
         go_wp2_with fail
         go_roundg k2
         case measure => omega
         case rel => exact ⟨g + 1, g, ⟨by go_num, rfl⟩, ⟨by have := HG.out; omega⟩, HAT3, HS⟩
       | zero =>
        have f1 : decide ((g : Int) < (gs.length : Int)) = false := dF (by have := HG.out; omega)
        have f2 : decide (g < gs.length) = false := dF (by have := HG.out; omega)
        have q0 : a = a0 := by have := HAT.out; rw [List.drop_eq_nil_of_le (by have := HG.out; omega)] at this; exact this
        clear HAT
        subst q0
        have HGL := aM (show gs.length ≤ 100000 by have := HQ.out.len; omega)
        rcases Int.lt_or_le a 0 with c | c
        case inr =>
         obtain ⟨n, rfl⟩ := Int.eq_ofNat_of_zero_le c
         have d1 : decide ((n : Int) ≥ 0) = true := dT (by omega)
         have d2 : decide (0 ≤ (n : Int)) = true := dT (by omega)
         have hn : n < gs.length := by have := HAR.out.2; omega
         have hn0 : (0 : Int) ≤ (n : Int) := by omega
         have hn1 : (n : Int) < (gs.length : Int) := by omega
         have HR3 := HR2.out
         have HQ3 := HQ2.out
         rw [if_pos (by trivial), if_pos c, Int.toNat_natCast] at HR3 HQ3
         obtain ⟨g9, c9', e9, yo, _, _⟩ := HS.out.sc (none, 0, 0) 1 rfl n (by rw [HU.out]; exact hn)
         rw [HU.out] at e9
         cases e9
         have hgq := HQ.out.ne _ (mem_getD gs [] n hn)
         have hrow := rows_at (d := kInt) (e := 3) n HU.out hn
         obtain ⟨gi, ci, ei, yi, _, _⟩ := HS.out.int (n + 2) hrow 0 hgq.1
         rw [ei] at yo hrow
         have HGM := aM (show (gs.getD n []).length ≤ 100000 by have := hgq.2.1; omega)
         generalize gs.getD n [] = gr at *
         have HROW := aM hrow
         have HR4 := aM HR3
         have HQ4 := aM HQ3
         clear hgq HR3 HQ3 HR2 HQ2 ei hrow yi
         go_wp2_with (first
          | ((with_reducible refine gate_dst (N := 74) rfl ?_); refine slit kInt 3 ?hg (N := 74) ?hd (xs := [(k : Int)]) (inner := [.int .i64 (k : Int)]) ?hr HS.out ?hp (by simp) ?_; (case hd => rfl); (case hg => rfl); (case hr => first | (go_simp; done) | (go_simp; rfl)); (case hp => exact Reps.one (PK.scalar _) (Reps.none _ _)); clear HS; intro v5 w5 hs; have HS := aM hs; clear hs)
          | ((with_reducible refine gate_builtin (b := .append) (xs := #[.tmp 72, .tmp 74]) rfl ?_); at_builtin; refine sgrow kInt (n + 2) rfl (.tmp 72) (.tmp 74) 26 3 (.int .i64 0) 8 rfl Tryz.underlying26 info3' rfl (by decide) (by omega) _ _ gr [(k : Int)] rfl rfl HS.out (atl HROW.out) (HS.out.ro _ List.getElem?_concat_length) (by have := HGM.out; simp; omega) ?_; clear HS; intro v1 w1 hs; obtain ⟨z1, hz1⟩ : ∃ q, q = gr ++ [(k : Int)] := ⟨_, rfl⟩; rw [← hz1] at hs; have HZz1 := aM hz1; clear hz1; obtain ⟨A1, c1, e1, hs2⟩ := grp_upd HU.out hn hs; subst e1; obtain ⟨gx, cx, ex, yx, fx, hset⟩ := hs2.sc (none, 0, 0) 1 rfl n (by rw [HU.out]; exact hn); rw [HU.out] at ex; cases ex; have HSET := aM (hset (A1, z1.length, c1)); clear hset hs2; have HS := aM hs; clear hs))
         go_roundg k1
         case measure => omega
         case rel => exact ⟨k + 1, us.set n (A1, z1.length, c1), gs.set n z1, by go_num, ⟨by have := HJ.out; omega⟩, ⟨by rw [List.length_set, List.length_set]; exact HU.out⟩, ⟨by rw [HZz1.out]; exact HQ4.out⟩, ⟨by rw [HZz1.out]; exact HR4.out⟩, HSET⟩
        case inl =>
         have d1 : decide (a ≥ 0) = false := dF (by omega)
         have d2 : decide (0 ≤ a) = false := dF (by omega)
         have HR3 := HR2.out
         have HQ3 := HQ2.out
         rw [if_pos (by trivial), if_neg (by omega)] at HR3 HQ3
         have HR4 := aM HR3
         have HQ4 := aM HQ3
         clear HR3 HQ3 HR2 HQ2
         go_wp2_with (first
          | ((with_reducible refine gate_dst (N := 80) rfl ?_); refine slit_row kInt 3 ?hg (N := 80) ?hd (xs := [(k : Int)]) (inner := [.int .i64 (k : Int)]) ?hr HS.out ?hp (by simp) ?_; (case hd => rfl); (case hg => rfl); (case hr => first | (go_simp; done) | (go_simp; rfl)); (case hp => exact Reps.one (PK.scalar _) (Reps.none _ _)); clear HS; intro v5 w5 hs; obtain ⟨A5, c5, e5⟩ := hs.form _ List.getElem?_concat_length; subst e5; have HS := aM hs; clear hs)
          | ((with_reducible refine gate_dst (N := 81) rfl ?_); refine slit kSl 26 ?hg (N := 81) ?hd (xs := [(A5, 1, c5)]) (inner := [.slice A5 1 c5]) ?hr HS.out ?hp (by simp) ?_; (case hd => rfl); (case hg => rfl); (case hr => first | (go_simp; done) | (go_simp; rfl)); (case hp => exact Reps.one (PK.scalar (enc := encS) (A5, 1, c5)) (Reps.none _ _)); clear HS; intro v6 w6 hs; have HS := aM hs; clear hs)
          | ((with_reducible refine gate_builtin (b := .append) (xs := #[.tmp 78, .tmp 81]) rfl ?_); at_builtin; refine sgrow kSl 1 rfl (.tmp 78) (.tmp 81) 25 26 (.slice none 0 0) 24 rfl Tryz.underlying25 info26 rfl (by decide) (by omega) _ _ us [(A5, 1, c5)] rfl rfl HS.out rfl (HS.out.ro _ List.getElem?_concat_length) (by have := HU.out; have := HGL.out; simp; omega) ?_; clear HS; intro v1 w1 hs; have HS := aM hs; clear hs))
         have HSE := aM (show Sep X w _ (_ :: _ :: rows kInt 3 (us ++ [(A5, 1, c5)]) (gs ++ [[(k : Int)]])) by
          rw [rows_snoc HU.out]
          exact HS.out.sub (List.Sublist.cons_cons _ (List.Sublist.cons_cons _ (List.sublist_append_left _ _))))
         go_roundg k1
         case measure => omega
         case rel => exact ⟨k + 1, us ++ [(A5, 1, c5)], gs ++ [[(k : Int)]], by go_num, ⟨by have := HJ.out; omega⟩, ⟨by rw [lA, lA, HU.out]; rfl⟩, HQ4, HR4, HSE⟩
end Go.Proofs.YtplhfgobeicegaaGreatDoor.P
