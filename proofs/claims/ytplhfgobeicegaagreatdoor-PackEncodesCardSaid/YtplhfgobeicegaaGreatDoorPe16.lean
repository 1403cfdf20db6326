/- Part 16 of the proof: S12, S12b, S12c, S12d, S12e0. -/
import Derived.Test.YtplhfgobeicegaaGreatDoorPe15
namespace Go.Proofs.YtplhfgobeicegaaGreatDoor.P
open Go Go.RowKit Go.Proofs.YtplhfgobeicegaaGreatDoorW.PrintWords Go.Proofs.YtplhfgobeicegaaGreatDoorW.PrintLast Go.Proofs.YtplhfgobeicegaaGreatDoorW.PrintMore Go.Proofs.YtplhfgobeicegaaGreatDoor.PX
set_option linter.unusedVariables false
set_option linter.unusedSimpArgs false
set_option maxRecDepth 100000
def toL (next : List (List Int)) (l : List Int) (i k : Nat) : Int := if (next.getD i []).getD k 0 < 0 ∨ l.getD ((next.getD i []).getD k 0).toNat 0 = 0 then -1 else (next.getD i []).getD k 0
def kindL (next : List (List Int)) (l of_ : List Int) (i k : Nat) : Int := if toL next l i k < 0 then -1 else of_.getD (toL next l i k).toNat 0
theorem toL_lt (next : List (List Int)) (l : List Int) (i k : Nat) (n : Int) (h : (next.getD i []).getD k 0 < n) (hn : 0 ≤ n) : toL next l i k < n := by
 unfold toL
 split <;> omega
set_option maxHeartbeats 2000000 in
theorem to_calls (X : Nat → Prop) (vp vn vt vl : Value) (parts : List (List Sp)) (next : List (List Int)) (tags l : List Int) (i k : Nat) (w : World) (hp : PV kSps X w vp parts) (hn : PV kRow X w vn next) (ht : PV kInt X w vt tags) (hl : PV kInt X w vl l)
  (hi : i < next.length) (hk : k < (next.getD i []).length) (hx : (next.getD i []).getD k 0 < (l.length : Int)) :
  Calls Tryz.prog 91 #[.agg #[vp, vn, vt], vl, .int .i64 (i : Int), .int .i64 (k : Int)] w fun e w' => e = .returned (.int .i64 (toL next l i k)) ∧ Below w.heap.size w w' := by
 have H1 := aM hn
 have H3 := aM hl
 have m1 := hn.max
 have m3 := hl.max
 obtain ⟨Ap, cp, rfl, _, _⟩ := hp.now
 obtain ⟨At, ct, rfl, _, _⟩ := ht.now
 obtain ⟨Al, cl, rfl, _, _⟩ := hl.now
 obtain ⟨an, cn, u, rfl, hu, hcu⟩ := hn.row i hi
 obtain ⟨ar, cr, rfl, hcr⟩ := int_cell hu k hk
 have mu := hu.max
 have yu := fun o => pw_cell_below (below_alloc (Below.refl w.heap.size w) o) hcu
 have yr := fun o => pw_cell_below (below_alloc (Below.refl w.heap.size w) o) hcr
 have hl1 := fun o => hl.below (below_alloc (Below.refl w.heap.size w) o)
 clear hp hn ht hl hu
 obtain ⟨r, hr⟩ : ∃ r, r = toL next l i k := ⟨_, rfl⟩
 rw [← hr]
 unfold toL at hr
 generalize (next.getD i []) = row at *
 generalize row.getD k 0 = x at *
 have HR := aM hr
 clear hr
 have hi0 : (0 : Int) ≤ (i : Int) := by omega
 have hi1 : (i : Int) < (next.length : Int) := by omega
 have hk0 : (0 : Int) ≤ (k : Int) := by omega
 have hk1 : (k : Int) < (row.length : Int) := by omega
 by_cases c : x < 0
 ·have d1 : decide (x < 0) = true := dT c
  have HR2 := aM (HR.out.trans (if_pos (.inl c)))
  go_enter Tryz.func91, Tryz.ntmps91
  go_wp2_with fail
  go_ret
  obtain rfl := HR2.out
  exact ⟨rfl, below_alloc (Below.refl _ _) _⟩
 ·have d1 : decide (x < 0) = false := dF c
  have hx0 : 0 ≤ x := by omega
  obtain ⟨n, rfl⟩ := Int.eq_ofNat_of_zero_le hx0
  rw [Int.toNat_natCast] at HR
  have hnl : n < l.length := by omega
  obtain ⟨al, cl2, e, yl0⟩ := int_cell (hl1 (.cells #[] 0)) n hnl
  cases e
  have yl : ∀ o, (w.alloc o).cell? (al.add n) = some (.int .i64 (l.getD n 0)) := fun o => by
   obtain ⟨al', cl3, e, y⟩ := int_cell (hl1 o) n hnl
   cases e
   exact y
  clear hl1 yl0
  generalize l.getD n 0 = z at *
  by_cases c2 : z = 0
  case' pos =>
   have d2 : (z == 0) = true := beq_iff_eq.mpr c2
   have HR2 := aM (HR.out.trans (if_pos (.inr c2)))
  case' neg =>
   have d2 : (z == 0) = false := bF c2
   have HR2 := aM (HR.out.trans (if_neg (fun h => h.elim c c2)))
  all_goals
   clear c2
   go_enter Tryz.func91, Tryz.ntmps91
   go_wp2_with fail
   go_ret
   obtain rfl := HR2.out
   exact ⟨rfl, below_alloc (Below.refl _ _) _⟩
set_option maxHeartbeats 2000000 in
theorem kind_calls (X : Nat → Prop) (vp vn vt vl vo : Value) (parts : List (List Sp)) (next : List (List Int)) (tags l of_ : List Int) (i k : Nat) (w : World) (hp : PV kSps X w vp parts) (hn : PV kRow X w vn next) (ht : PV kInt X w vt tags) (hl : PV kInt X w vl l) (ho : PV kInt X w vo of_)
  (hi : i < next.length) (hk : k < (next.getD i []).length) (hx : (next.getD i []).getD k 0 < (l.length : Int)) (hol : of_.length = l.length) :
  Calls Tryz.prog 83 #[.agg #[vp, vn, vt], vl, vo, .int .i64 (i : Int), .int .i64 (k : Int)] w fun e w' => e = .returned (.int .i64 (kindL next l of_ i k)) ∧ Below w.heap.size w w' := by
 have H0 := aM hp
 have H1 := aM hn
 have H2 := aM ht
 have H3 := aM hl
 have H4 := aM ho
 have HI := aM hi
 have HK := aM hk
 have HXX := aM hx
 have mo := ho.max
 obtain ⟨Ap, cp, rfl, _, _⟩ := hp.now
 obtain ⟨An, cn, rfl, _, _⟩ := hn.now
 obtain ⟨At, ct, rfl, _, _⟩ := ht.now
 obtain ⟨Al, cl, rfl, _, _⟩ := hl.now
 obtain ⟨Ao, co, rfl, _, _⟩ := ho.now
 have HT1 := aM (toL_lt next l i k (of_.length : Int) (by omega) (by omega))
 clear hp hn ht hl ho hx hi hk hol
 obtain ⟨r, hr⟩ : ∃ r, r = kindL next l of_ i k := ⟨_, rfl⟩
 rw [← hr]
 unfold kindL at hr
 have HR := aM hr
 clear hr
 obtain ⟨t, ht⟩ : ∃ t, t = toL next l i k := ⟨_, rfl⟩
 rw [← ht] at HR HT1
 have HTT := aM ht.symm
 clear ht
 rcases Int.lt_or_le t 0 with c | c
 case' inl =>
  have d1 : decide (t < 0) = true := dT c
  have HR2 := aM (HR.out.trans (if_pos c))
 case' inr =>
  have d1 : decide (t < 0) = false := dF (by omega)
  have HR2 := aM (HR.out.trans (if_neg (by omega)))
  obtain ⟨n, rfl⟩ := Int.eq_ofNat_of_zero_le c
  rw [Int.toNat_natCast] at HR2
  have hn0 : (0 : Int) ≤ (n : Int) := by omega
  have hn1 : (n : Int) < (of_.length : Int) := HT1.out
  have HC := aM (fun (W : World) (hb : Below w.heap.size w W) => int_cell (H4.out.below hb) n (by omega))
 all_goals
  go_enter Tryz.func83, Tryz.ntmps83
  go_wp2_with fail
  refine (to_calls X _ _ _ _ parts next tags l i k _ (H0.out.below (below_alloc (Below.refl _ _) _)) (H1.out.below (below_alloc (Below.refl _ _) _)) (H2.out.below (below_alloc (Below.refl _ _) _)) (H3.out.below (below_alloc (Below.refl _ _) _)) HI.out HK.out HXX.out).mono ?_
  rintro e w1 ⟨rfl, hb⟩
  have HB := aM (below_step (below_alloc (Below.refl w.heap.size w) _) hb)
  clear hb
  rw [HTT.out]
 ·obtain ⟨ao, co2, eo, yo⟩ := HC.out w1 HB.out
  cases eo
  go_wp2_with fail
  go_ret
  obtain rfl := HR2.out
  exact ⟨rfl, HB.out⟩
 ·go_wp2_with fail
  go_ret
  obtain rfl := HR2.out
  exact ⟨rfl, HB.out⟩
def Ok12 (P n : Nat) (next : List (List Int)) : Prop := ∀ i, i < next.length → (next.getD i []).length = P ∧ ∀ k, k < P → (next.getD i []).getD k 0 < (n : Int)
def StillP (P : Nat) (next : List (List Int)) (l of_ : List Int) (i j : Nat) : Prop := of_.getD i 0 = of_.getD j 0 ∧ ∀ k, k < P → kindL next l of_ i k = kindL next l of_ j k
instance (P : Nat) (next : List (List Int)) (l of_ : List Int) (i j : Nat) : Decidable (StillP P next l of_ i j) := by unfold StillP; infer_instance
set_option maxHeartbeats 4000000 in
theorem still_calls (X : Nat → Prop) (vp vn vt vl vo : Value) (parts : List (List Sp)) (next : List (List Int)) (tags l of_ : List Int) (i j : Nat) (w : World) (hp : PV kSps X w vp parts) (hn : PV kRow X w vn next) (ht : PV kInt X w vt tags) (hl : PV kInt X w vl l) (ho : PV kInt X w vo of_)
  (hi : i < next.length) (hj : j < next.length) (hol : of_.length = l.length) (hnl : next.length = l.length) (hok : Ok12 parts.length l.length next) :
  Calls Tryz.prog 100 #[.agg #[vp, vn, vt], vl, vo, .int .i64 (i : Int), .int .i64 (j : Int)] w fun e w' => e = .returned (.bool (decide (StillP parts.length next l of_ i j))) ∧ Below w.heap.size w w' := by
 have mo := ho.max
 have mp := hp.max
 obtain ⟨Ap, cp, rfl, _, _⟩ := hp.now
 obtain ⟨An, cn, rfl, _, _⟩ := hn.now
 obtain ⟨At, ct, rfl, _, _⟩ := ht.now
 obtain ⟨Al, cl, rfl, _, _⟩ := hl.now
 obtain ⟨ao, co, e1, yi⟩ := int_cell ho i (by omega)
 subst e1
 obtain ⟨ao', co', e1, yj⟩ := int_cell ho j (by omega)
 cases e1
 have H0 := aM hp
 have H1 := aM hn
 have H2 := aM ht
 have H3 := aM hl
 have H4 := aM ho
 have HOK := aM hok
 have HLE := aM (show i < next.length ∧ j < next.length ∧ of_.length = l.length from ⟨hi, hj, hol⟩)
 obtain ⟨q, hq⟩ : ∃ q, q = decide (StillP parts.length next l of_ i j) := ⟨_, rfl⟩
 rw [← hq]
 have hq2 : q = true ↔ StillP parts.length next l of_ i j := by rw [hq]; exact decide_eq_true_iff
 unfold StillP at hq2
 clear hq
 have hi0 : (0 : Int) ≤ (i : Int) := by omega
 have hi1 : (i : Int) < (of_.length : Int) := by omega
 have hj0 : (0 : Int) ≤ (j : Int) := by omega
 have hj1 : (j : Int) < (of_.length : Int) := by omega
 generalize of_.getD i 0 = a at *
 generalize of_.getD j 0 = b at *
 have HQ := aM hq2
 have yi' := fun o => pw_cell_below (below_alloc (Below.refl w.heap.size w) o) yi
 have yj' := fun o => pw_cell_below (below_alloc (Below.refl w.heap.size w) o) yj
 clear hp hn ht hl ho hi hj hol hok hq2 hnl
 by_cases c : a = b
 case neg =>
  have d1 : (a == b) = false := bF c
  have d2 : (a != b) = true := bne_iff_ne.mpr c
  have q0 : q = false := by
   cases hq : q
   ·rfl
   ·exact absurd (HQ.out.1 hq).1 c
  clear HQ
  subst q0
  go_enter Tryz.func100, Tryz.ntmps100
  go_wp2_with fail
  go_quiet (fail)
  have HB2 := aM (fun o => pw_below_drewN (below_alloc (Below.refl w.heap.size w) o) nq)
  go_wp2_with fail
  go_ret
  exact ⟨rfl, HB2.out _⟩
 case pos =>
  subst c
  have d1 : (a == a) = true := beq_iff_eq.mpr rfl
  have d2 : (a != a) = false := bne_eq_false_iff_eq.mpr rfl
  go_enter Tryz.func100, Tryz.ntmps100
  go_wp2_with fail
  go_quiet (fail)
  have HB2 := aM (fun o => pw_below_drewN (below_alloc (Below.refl w.heap.size w) o) nq)
  go_wp2_with fail
  obtain ⟨w1, hw1⟩ : ∃ w1, w1 = w.alloc (.cells #[.slice Ap parts.length cp, .slice An next.length cn, .slice At tags.length ct] 80) := ⟨_, rfl⟩
  have HG := aM (show Box (w1.drewN nq) w.heap.size 80 [.slice Ap parts.length cp, .slice An next.length cn, .slice At tags.length ct] from Box.step (by rw [hw1]; exact Box.alloc w _ _) (bn w1 nq))
  have hb1 : Below w.heap.size w (w1.drewN nq) := by rw [hw1]; exact HB2.out _
  rw [← hw1]
  obtain ⟨w2, hw2⟩ : ∃ w2, w2 = w1.drewN nq := ⟨_, rfl⟩
  rw [← hw2] at HG hb1 ⊢
  have HB1 := aM hb1
  clear hw1 hw2 hb1 HB2 yi yj yi' yj'
  obtain ⟨g, hg⟩ : ∃ g, g = w.heap.size := ⟨_, rfl⟩
  rw [← hg] at HG ⊢
  clear hg
  go_loopg [11] parts.length (fun m v11 w' => ∃ (k : Nat), v11 = .int .i64 k ∧ Aside0 (k + m = parts.length) ∧ Aside0 (∀ c, c < k → kindL next l of_ i c = kindL next l of_ j c) ∧ Aside0 (Below w2.heap.size w2 w'))
  case atStart => exact ⟨0, rfl, ⟨by omega⟩, ⟨fun a h => by omega⟩, ⟨Below.refl _ _⟩⟩
  case round =>
   obtain ⟨k, rfl, HJ, HO, HB⟩ := hrel
   have HGi := aM (HG.out.step HB.out)
   have y0 := HGi.out.cell 0 rfl
   have y1 := HGi.out.cell 1 rfl
   have y2 := HGi.out.cell 2 rfl
   have HBB := aM (below_step HB1.out HB.out)
   cases gk with
   | zero =>
    have e1 : decide ((k : Int) < (parts.length : Int)) = false := dF (by have := HJ.out; omega)
    have e2 : decide (k < parts.length) = false := dF (by have := HJ.out; omega)
    have q0 : q = true := HQ.out.2 ⟨by trivial, fun c hc => HO.out c (by have := HJ.out; omega)⟩
    clear HQ
    subst q0
    go_wp2_with fail
    go_ret
    exact ⟨rfl, HBB.out⟩
   | succ k1 =>
    have hk : k < parts.length := by have := HJ.out; omega
    have e1 : decide ((k : Int) < (parts.length : Int)) = true := dT (by omega)
    have e2 : decide (k < parts.length) = true := dT hk
    obtain ⟨r1, hr1⟩ : ∃ r, r = kindL next l of_ i k := ⟨_, rfl⟩
    obtain ⟨r2, hr2⟩ : ∃ r, r = kindL next l of_ j k := ⟨_, rfl⟩
    have HR1 := aM hr1
    have HR2 := aM hr2
    clear hr1 hr2
    have HBd := aM (below_drew (Below.refl wr.heap.size wr))
    have yd0 := pw_cell_below HBd.out y0
    have yd1 := pw_cell_below HBd.out y1
    have yd2 := pw_cell_below HBd.out y2
    have HD := aM (fun (W : World) (hb : Below wr.heap.size wr W) => kind_calls X (.slice Ap parts.length cp) (.slice An next.length cn) (.slice At tags.length ct) (.slice Al l.length cl) (.slice (some ao) of_.length co) parts next tags l of_ i k W ((H0.out.below HBB.out).below hb) ((H1.out.below HBB.out).below hb) ((H2.out.below HBB.out).below hb) ((H3.out.below HBB.out).below hb) ((H4.out.below HBB.out).below hb) HLE.out.1 (by rw [(HOK.out i HLE.out.1).1]; exact hk) ((HOK.out i HLE.out.1).2 k hk) HLE.out.2.2)
    have HD2 := aM (fun (W : World) (hb : Below wr.heap.size wr W) => kind_calls X (.slice Ap parts.length cp) (.slice An next.length cn) (.slice At tags.length ct) (.slice Al l.length cl) (.slice (some ao) of_.length co) parts next tags l of_ j k W ((H0.out.below HBB.out).below hb) ((H1.out.below HBB.out).below hb) ((H2.out.below HBB.out).below hb) ((H3.out.below HBB.out).below hb) ((H4.out.below HBB.out).below hb) HLE.out.2.1 (by rw [(HOK.out j HLE.out.2.1).1]; exact hk) ((HOK.out j HLE.out.2.1).2 k hk) HLE.out.2.2)
    go_wp2_with fail
    refine start_ (n := 13) (S := fun w' => w'.cell? ⟨g, 0, none⟩ = some (.slice Ap parts.length cp) ∧ w'.cell? ⟨g, 1, none⟩ = some (.slice An next.length cn) ∧ w'.cell? ⟨g, 2, none⟩ = some (.slice At tags.length ct)) (ds := []) #[false, false, false, false, false, false, false, false, false, false, false, false, false] (by kernel_rfl) rfl rfl ⟨yd0, yd1, yd2⟩ (fun hHeld => ?_)
    refine pure_ (i := 1) (N := some 29) (v := ?_) (a' := ?_) (bv 13 2) rfl rfl (by kernel_rfl) (fun _ _ _ h => h) (Or.inl ⟨by rfl, ?_⟩) ?_ ?_
    rotate_left
    ·intro w'
     go_simp
     with_reducible rfl
    rotate_left
    ·simp only [Act.put, qA, qB, qC, i64_w, i32_w]
     rfl
    refine pure_ (i := 2) (N := some 30) (v := ?_) (a' := ?_) (bv 13 6) rfl rfl (by kernel_rfl) (fun _ _ _ h => h) (Or.inl ⟨by rfl, ?_⟩) ?_ ?_
    rotate_left
    ·intro w'
     go_simp
     with_reducible rfl
    rotate_left
    ·simp only [Act.put, qA, qB, qC, i64_w, i32_w]
     rfl
    refine pure_ (i := 3) (N := some 31) (v := ?_) (a' := ?_) (bv 13 14) rfl rfl (by kernel_rfl) (fun _ _ _ h => h) (Or.inl ⟨by rfl, ?_⟩) ?_ ?_
    rotate_left
    ·intro w'
     go_simp
     with_reducible rfl
    rotate_left
    ·simp only [Act.put, qA, qB, qC, i64_w, i32_w]
     rfl
    refine pure_ (i := 4) (N := some 32) (v := ?_) (a' := ?_) (bv 13 30) rfl rfl (by kernel_rfl) (fun _ _ _ h => h) (Or.inl ⟨by rfl, ?_⟩) ?_ ?_
    rotate_left
    ·intro w'
     go_simp
     with_reducible rfl
    rotate_left
    ·simp only [Act.put, qA, qB, qC, i64_w, i32_w]
     rfl
    refine pure_ (i := 7) (N := some 35) (v := ?_) (a' := ?_) (bv 13 158) rfl rfl (by kernel_rfl) (fun _ _ _ h => h) (Or.inl ⟨by rfl, ?_⟩) ?_ ?_
    rotate_left
    ·intro w'
     go_simp
     with_reducible rfl
    rotate_left
    ·simp only [Act.put, qA, qB, qC, i64_w, i32_w]
     rfl
    refine pure_ (i := 8) (N := some 36) (v := ?_) (a' := ?_) (bv 13 414) rfl rfl (by kernel_rfl) (fun _ _ _ h => h) (Or.inl ⟨by rfl, ?_⟩) ?_ ?_
    rotate_left
    ·intro w'
     go_simp
     with_reducible rfl
    rotate_left
    ·simp only [Act.put, qA, qB, qC, i64_w, i32_w]
     rfl
    refine pure_ (i := 9) (N := some 37) (v := ?_) (a' := ?_) (bv 13 926) rfl rfl (by kernel_rfl) (fun _ _ _ h => h) (Or.inl ⟨by rfl, ?_⟩) ?_ ?_
    rotate_left
    ·intro w'
     go_simp
     with_reducible rfl
    rotate_left
    ·simp only [Act.put, qA, qB, qC, i64_w, i32_w]
     rfl
    refine pure_ (i := 10) (N := some 38) (v := ?_) (a' := ?_) (bv 13 1950) rfl rfl (by kernel_rfl) (fun _ _ _ h => h) (Or.inl ⟨by rfl, ?_⟩) ?_ ?_
    rotate_left
    ·intro w'
     go_simp
     with_reducible rfl
    rotate_left
    ·simp only [Act.put, qA, qB, qC, i64_w, i32_w]
     rfl
    refine take_ (i := 0) (N := some 28) (v := ?_) (a' := ?_) (bv 13 1951) rfl rfl (by kernel_rfl) (fun _ _ _ h => h) (Or.inl ⟨by rfl, ?_⟩) hHeld ?_ ?_
    rotate_left
    ·rintro w' ⟨s0, s1, s2⟩
     go_simp
     with_reducible rfl
    rotate_left
    ·simp only [Act.put, qA, qB, qC, i64_w, i32_w]
     rfl
    refine take_ (i := 6) (N := some 34) (v := ?_) (a' := ?_) (bv 13 2015) rfl rfl (by kernel_rfl) (fun _ _ _ h => h) (Or.inl ⟨by rfl, ?_⟩) hHeld ?_ ?_
    rotate_left
    ·rintro w' ⟨s0, s1, s2⟩
     go_simp
     with_reducible rfl
    rotate_left
    ·simp only [Act.put, qA, qB, qC, i64_w, i32_w]
     rfl
    refine one_ (i := 5) (N := some 33) (bv 13 2047) rfl rfl (by kernel_rfl) (by decide) (fun K hK => ?_)
    refine goes_ Tryz.func83 (by kernel_rfl) rfl #[.agg #[.slice Ap parts.length cp, .slice An next.length cn, .slice At tags.length ct], .slice Al l.length cl, .slice (some ao) of_.length co, .int .i64 (i : Int), .int .i64 (k : Int)] (by rfl) rfl rfl (by simp only [List.map_toArray, List.map_cons, List.map_nil]; rfl) ?_
    with_reducible refine (HD.out _ HBd.out).mono ?_
    rintro e w5 ⟨rfl, hb5⟩
    refine ⟨_, rfl, ?_⟩
    rw [← HR1.out]
    have HB5 := aM (below_step HBd.out hb5)
    have z0 := pw_cell_below hb5 hHeld.1
    have z1 := pw_cell_below hb5 hHeld.2.1
    have z2 := pw_cell_below hb5 hHeld.2.2
    clear hb5 hHeld
    refine hK.out _ _ ⟨z0, z1, z2⟩ (fun hHeld => ?_)
    clear hK K
    refine norm_ (a' := ?_) ?_ ?_
    rotate_left
    ·show Act.put _ (some 33) _ = _
     simp only [Act.put, qA, qB, qC, i64_w, i32_w]
     rfl
    refine one_ (i := 11) (N := some 39) (bv 13 4095) rfl rfl (by kernel_rfl) (by decide) (fun K hK => ?_)
    refine goes_ Tryz.func83 (by kernel_rfl) rfl #[.agg #[.slice Ap parts.length cp, .slice An next.length cn, .slice At tags.length ct], .slice Al l.length cl, .slice (some ao) of_.length co, .int .i64 (j : Int), .int .i64 (k : Int)] (by rfl) rfl rfl (by simp only [List.map_toArray, List.map_cons, List.map_nil]; rfl) ?_
    with_reducible refine (HD2.out _ HB5.out).mono ?_
    rintro e w6 ⟨rfl, hb6⟩
    refine ⟨_, rfl, ?_⟩
    rw [← HR2.out]
    have HB6 := aM (below_step HB5.out hb6)
    have z3 := pw_cell_below hb6 hHeld.1
    have z4 := pw_cell_below hb6 hHeld.2.1
    have z5 := pw_cell_below hb6 hHeld.2.2
    clear hb6 hHeld
    refine hK.out _ _ ⟨z3, z4, z5⟩ (fun hHeld => ?_)
    clear hK K
    refine norm_ (a' := ?_) ?_ ?_
    rotate_left
    ·show Act.put _ (some 39) _ = _
     simp only [Act.put, qA, qB, qC, i64_w, i32_w]
     rfl
    refine pure_ (i := 12) (N := some 40) (v := ?_) (a' := ?_) (bv 13 8191) rfl rfl (by kernel_rfl) (fun _ _ _ h => h) (Or.inl ⟨by rfl, ?_⟩) ?_ ?_
    rotate_left
    ·intro w'
     go_simp
     with_reducible rfl
    rotate_left
    ·simp only [Act.put, qA, qB, qC, i64_w, i32_w]
     rfl
    refine done_ (by kernel_rfl) ?_
    clear hHeld z0 z1 z2 z3 z4 z5 yd0 yd1 yd2 HD HD2
    by_cases c : r1 = r2
    ·have f1 : (r1 == r2) = true := beq_iff_eq.mpr c
     have f2 : (r1 != r2) = false := bne_eq_false_iff_eq.mpr c
     have HO3 := aM (show ∀ c, c < k + 1 → kindL next l of_ i c = kindL next l of_ j c from fun c0 h => by
      rcases Nat.lt_or_ge c0 k with h1 | h1
      ·exact HO.out c0 h1
      ·obtain rfl : c0 = k := by omega
       rw [← HR1.out, ← HR2.out, c])
     clear c
     go_wp2_with fail
     go_roundg k1
     case measure => omega
     case rel => exact ⟨k + 1, by go_num, ⟨by have := HJ.out; omega⟩, HO3, ⟨below_step HB.out HB6.out⟩⟩
    ·have f1 : (r1 == r2) = false := bF c
     have f2 : (r1 != r2) = true := bne_iff_ne.mpr c
     have q0 : q = false := by
      cases hq : q
      ·rfl
      ·have := (HQ.out.1 hq).2 k hk
       rw [← HR1.out, ← HR2.out] at this
       exact absurd this c
     clear HQ
     subst q0
     go_wp2_with fail
     go_ret
     exact ⟨rfl, below_step HBB.out HB6.out⟩
end Go.Proofs.YtplhfgobeicegaaGreatDoor.P
namespace Go.Proofs.YtplhfgobeicegaaGreatDoor.P
open Go Go.RowKit Go.Proofs.YtplhfgobeicegaaGreatDoorW.PrintWords Go.Proofs.YtplhfgobeicegaaGreatDoorW.PrintLast Go.Proofs.YtplhfgobeicegaaGreatDoorW.PrintMore Go.Proofs.YtplhfgobeicegaaGreatDoor.PX
set_option linter.unusedVariables false
set_option linter.unusedSimpArgs false
set_option maxRecDepth 100000
def refFind (P : Nat) (next : List (List Int)) (l of_ nx : List Int) (i : Nat) : Nat → Nat → Int
 | 0, _ => (i : Int)
 | m + 1, j => if nx.getD j 0 = (j : Int) ∧ StillP P next l of_ i j then (j : Int) else refFind P next l of_ nx i m (j + 1)
def refGo (P : Nat) (next : List (List Int)) (l of_ : List Int) : Nat → Nat → List Int → List Int
 | 0, _, nx => nx
 | m + 1, i, nx => refGo P next l of_ m (i + 1) ((nx.set i i).set i (refFind P next l of_ (nx.set i i) i i 0))
def refineL (P : Nat) (next : List (List Int)) (l of_ : List Int) : List Int := refGo P next l of_ of_.length 0 (List.replicate of_.length 0)
set_option maxHeartbeats 4000000 in
theorem refine_calls (X : Nat → Prop) (vp vn vt vl vo : Value) (parts : List (List Sp)) (next : List (List Int)) (tags l of_ : List Int) (w : World) (hX : ∀ k, X k → k < w.heap.size) (hp : PV kSps X w vp parts) (hn : PV kRow X w vn next) (ht : PV kInt X w vt tags) (hl : PV kInt X w vl l) (ho : PV kInt X w vo of_)
  (hol : of_.length = l.length) (hnl : next.length = l.length) (hok : Ok12 parts.length l.length next) (hlen : l.length ≤ 1000000) :
  Calls Tryz.prog 90 #[.agg #[vp, vn, vt], vl, vo] w fun e w' => ∃ v, e = .returned v ∧ PV kInt X w' v (refineL parts.length next l of_) ∧ Below w.heap.size w w' := by
 have H0 := aM hp
 have H1 := aM hn
 have H2 := aM ht
 have H3 := aM hl
 have H4 := aM ho
 have HX := aM hX
 have HOK := aM hok
 have HLE := aM (show of_.length = l.length ∧ next.length = l.length ∧ of_.length ≤ 1000000 from ⟨hol, hnl, by omega⟩)
 obtain ⟨Ap, cp, rfl, _, _⟩ := hp.now
 obtain ⟨An, cn, rfl, _, _⟩ := hn.now
 obtain ⟨At, ct, rfl, _, _⟩ := ht.now
 obtain ⟨Al, cl, rfl, _, _⟩ := hl.now
 obtain ⟨Ao, co, rfl, _, _⟩ := ho.now
 have hlen2 : of_.length ≤ 1000000 := by omega
 clear hp hn ht hl ho hX hok hol hnl hlen
 obtain ⟨r, hr⟩ : ∃ r, r = refineL parts.length next l of_ := ⟨_, rfl⟩
 rw [← hr]
 unfold refineL at hr
 have HS := aM hr.symm
 clear hr
 go_enter Tryz.func90, Tryz.ntmps90
 go_wp2_with (first
  | ((with_reducible refine gate_dst (N := 12) rfl ?_); refine mkrow .i64 3 (Y := X) (w0 := w) w.heap.size rfl (N := 12) rfl 26 (.tmp 11) (.tmp 11) rfl of_.length rfl rfl Tryz.underlying26 8 info3' (by omega) (by omega) (below_alloc (Below.refl _ _) _) (below_alloc (Below.refl w.heap.size w) _).size ?_; intro v1 w1 ho hb hg hat; obtain ⟨nx0, hnx0⟩ : ∃ q, q = List.replicate of_.length (0 : Int) := ⟨_, rfl⟩; rw [← hnx0] at ho; have HN0 := aM hnx0; clear hnx0; have HW := aM ho; have HB := aM hb; have HG := aM ((Box.alloc w 80 [.slice Ap parts.length cp, .slice An next.length cn, .slice At tags.length ct]).grown hg (by simp)); clear ho hb hg hat))
 have HS0 := aM (show refGo parts.length next l of_ of_.length 0 nx0 = r by rw [HN0.out]; exact HS.out)
 have HL0 := aM (show nx0.length = of_.length by rw [HN0.out]; simp)
 clear HS HN0
 obtain ⟨A7, c7, e7, _, _⟩ := HW.out.now
 rw [HL0.out] at e7
 subst e7
 go_loopg [8] of_.length (fun m v8 w' => ∃ (i : Nat) (nx : List Int), v8 = .int .i64 i ∧ Aside0 (i + m = of_.length) ∧ Aside0 (nx.length = of_.length) ∧ Aside0 (refGo parts.length next l of_ m i nx = r) ∧ Aside0 (Own kInt 3 (Xp X (.slice A7 of_.length c7)) w' w.heap.size (.slice A7 of_.length c7) nx) ∧ Aside0 (Below w.heap.size w w') ∧ Aside0 (Box w' w.heap.size 80 [.slice Ap parts.length cp, .slice An next.length cn, .slice At tags.length ct]))
 case atStart => exact ⟨0, nx0, rfl, ⟨by omega⟩, HL0, HS0, HW, HB, HG⟩
 case round =>
  clear HL0 HS0 HW HB HG
  obtain ⟨i, nx, rfl, HJ, HNL, HS, HW, HB, HG⟩ := hrel
  cases gk with
  | zero =>
   have e1 : decide ((i : Int) < (of_.length : Int)) = false := dF (by have := HJ.out; omega)
   have e2 : decide (i < of_.length) = false := dF (by have := HJ.out; omega)
   have e0 : nx = r := HS.out
   subst e0
   go_wp2_with fail
   go_ret
   exact ⟨_, rfl, HW.out.done HX.out, HB.out⟩
  | succ k1 =>
   have hi : i < of_.length := by have := HJ.out; omega
   have e1 : decide ((i : Int) < (of_.length : Int)) = true := dT (by omega)
   have e2 : decide (i < of_.length) = true := dT hi
   obtain ⟨g, cg, eg, hgb, hgl, yl, fl, hset⟩ := own_int HW.out i (by have := HNL.out; omega)
   rw [HNL.out] at eg
   cases eg
   have HSET := aM (hset (i : Int))
   clear hset
   have hi0 : (0 : Int) ≤ (i : Int) := by omega
   have hi1 : (i : Int) < (nx.length : Int) := by have := HNL.out; omega
   have HS1 := HS.out
   rw [refGo] at HS1
   have HS2 := aM HS1
   clear HS1 HS
   go_wp2_with fail
   have hne : w.heap.size ≠ g := fun e => HW.out.ne_box HG.out (by decide) g rfl e.symm
   have HB1 := aM (below_set (j := i) (v := .int .i64 (i : Int)) HB.out hgb)
   have HG1 := aM (HG.out.other ⟨g, i, none⟩ hne (.int .i64 (i : Int)))
   obtain ⟨wo, hwo⟩ : ∃ wo, wo = wr.setCell ⟨g, i, none⟩ (.int .i64 (i : Int)) := ⟨_, rfl⟩
   rw [← hwo] at HB1 HG1 HSET ⊢
   obtain ⟨nx1, hnx1⟩ : ∃ q, q = nx.set i (i : Int) := ⟨_, rfl⟩
   rw [← hnx1] at HSET HS2
   have HNL1 := aM (show nx1.length = of_.length by rw [hnx1, List.length_set]; exact HNL.out)
   have HSS := aM (show nx1.set i (i : Int) = nx1 by rw [hnx1, List.set_set])
   have HGB := aM hgb
   clear hwo hnx1 HW HB HG yl fl hgl HNL hgb
   obtain ⟨res, hres⟩ : ∃ q, q = refFind parts.length next l of_ nx1 i i 0 := ⟨_, rfl⟩
   rw [← hres] at HS2
   have HRS := aM hres.symm
   clear hres
   go_loopg [9] i (fun m v9 w' => ∃ (j : Nat), v9 = .int .i64 j ∧ Aside0 (j + m = i) ∧ Aside0 (refFind parts.length next l of_ nx1 i m j = res) ∧ Aside0 (Own kInt 3 (Xp X (.slice (some ⟨g, 0, none⟩) of_.length c7)) w' w.heap.size (.slice (some ⟨g, 0, none⟩) of_.length c7) nx1) ∧ Aside0 (Below w.heap.size w w') ∧ Aside0 (Box w' w.heap.size 80 [.slice Ap parts.length cp, .slice An next.length cn, .slice At tags.length ct]))
   case atStart => exact ⟨0, rfl, ⟨by omega⟩, HRS, HSET, HB1, HG1⟩
   case round =>
    clear HRS HSET HB1 HG1
    obtain ⟨j, rfl, HJ2, HRS, HW, HB, HG⟩ := hrel
    cases gk with
    | zero =>
     have hj : j = i := by have := HJ2.out; omega
     have e3 : decide ((j : Int) < (i : Int)) = false := dF (by omega)
     have e4 : decide (j < i) = false := dF (by omega)
     have HS3 := aM (show refGo parts.length next l of_ k1 (i + 1) nx1 = r by
      have h1 : res = (i : Int) := HRS.out.symm
      have := HS2.out
      rw [h1, HSS.out] at this
      exact this)
     clear hj
     go_wp2_with fail
     go_roundg k1
     case measure => omega
     case rel => exact ⟨i + 1, nx1, by go_num, ⟨by have := HJ.out; omega⟩, HNL1, HS3, HW, HB, HG⟩
    | succ k2 =>
     have hj : j < i := by have := HJ2.out; omega
     have e3 : decide ((j : Int) < (i : Int)) = true := dT (by omega)
     have e4 : decide (j < i) = true := dT hj
     have hj0 : (0 : Int) ≤ (j : Int) := by omega
     have hj1 : (j : Int) < (of_.length : Int) := by omega
     have hi2 : (i : Int) < (of_.length : Int) := by omega
     obtain ⟨g2, cg2, eg2, _, _, yj, _, _⟩ := own_int HW.out j (by have := HNL1.out; omega)
     rw [HNL1.out] at eg2
     cases eg2
     obtain ⟨z, hz⟩ : ∃ z, z = nx1.getD j 0 := ⟨_, rfl⟩
     rw [← hz] at yj
     have HRS1 := HRS.out
     rw [refFind, ← hz] at HRS1
     have yb0 := HG.out.cell 0 rfl
     have yb1 := HG.out.cell 1 rfl
     have yb2 := HG.out.cell 2 rfl
     clear hz HRS
     rcases Decidable.em (z = (j : Int)) with c | c
     case' inr =>
      have d1 : (z == (j : Int)) = false := bF c
      rw [if_neg (fun h => c h.1)] at HRS1
      have HRS2 := aM HRS1
      clear HRS1 c
      go_wp2_with fail
      go_roundg k2
      case measure => omega
      case rel => exact ⟨j + 1, by go_num, ⟨by have := HJ2.out; omega⟩, HRS2, HW, HB, HG⟩
     case inl =>
      have d1 : (z == (j : Int)) = true := beq_iff_eq.mpr c
      obtain ⟨bq, hbq⟩ : ∃ b, b = decide (StillP parts.length next l of_ i j) := ⟨_, rfl⟩
      have HBQ := aM hbq.symm
      have HRS2 := aM (show (if bq = true then (j : Int) else refFind parts.length next l of_ nx1 i k2 (j + 1)) = res by
       rw [← HRS1]
       by_cases s : StillP parts.length next l of_ i j
       ·rw [if_pos (show bq = true by rw [hbq]; exact dT s), if_pos ⟨c, s⟩]
       ·rw [if_neg (show ¬ bq = true by rw [hbq, dF s]; decide), if_neg (fun h => s h.2)])
      clear hbq HRS1 c
      have HLI := aM (show i < next.length ∧ j < next.length by have := HLE.out; omega)
      go_upto_if 41 with (first
       | (go_at_call 100; (with_reducible refine (still_calls X _ _ _ _ _ parts next tags l of_ i j _ (H0.out.below HB.out) (H1.out.below HB.out) (H2.out.below HB.out) (H3.out.below HB.out) (H4.out.below HB.out) HLI.out.1 HLI.out.2 HLE.out.1 HLE.out.2.1 HOK.out).mono ?_); rintro ee w5 ⟨rfl, hb⟩; rw [HBQ.out]; have HW5 := aM (HW.out.below hb); have HB5 := aM (below_step HB.out hb); have HG5 := aM (HG.out.step hb); clear hb))
      cases bq
      case false =>
       have HRS3 := aM (show refFind parts.length next l of_ nx1 i k2 (j + 1) = res from HRS2.out)
       clear HRS2
       go_wp2_with fail
       go_roundg k2
       case measure => omega
       case rel => exact ⟨j + 1, by go_num, ⟨by have := HJ2.out; omega⟩, HRS3, HW5, HB5, HG5⟩
      case true =>
       have HRS3 := aM (show (j : Int) = res from HRS2.out)
       obtain ⟨g3, cg3, eg3, hgb, _, yi, fi, hset⟩ := own_int HW5.out i (by have := HNL1.out; omega)
       rw [HNL1.out] at eg3
       cases eg3
       have HSET := aM (hset (j : Int))
       have hne : w.heap.size ≠ g := fun e => HW5.out.ne_box HG5.out (by decide) g rfl e.symm
       have HB6 := aM (below_set (j := i) (v := .int .i64 (j : Int)) HB5.out hgb)
       have HG6 := aM (HG5.out.other ⟨g, i, none⟩ hne (.int .i64 (j : Int)))
       have HS3 := aM (show refGo parts.length next l of_ k1 (i + 1) (nx1.set i (j : Int)) = r by rw [HRS3.out]; exact HS2.out)
       clear hset hne hgb HRS2
       go_wp2_with fail
       go_roundg k1
       case measure => omega
       case rel => exact ⟨i + 1, _, by go_num, ⟨by have := HJ.out; omega⟩, ⟨by rw [List.length_set]; exact HNL1.out⟩, HS3, HSET, HB6, HG6⟩
end Go.Proofs.YtplhfgobeicegaaGreatDoor.P
namespace Go.Proofs.YtplhfgobeicegaaGreatDoor.P
open Go Go.RowKit Go.Proofs.YtplhfgobeicegaaGreatDoorW.PrintWords Go.Proofs.YtplhfgobeicegaaGreatDoorW.PrintLast Go.Proofs.YtplhfgobeicegaaGreatDoorW.PrintMore Go.Proofs.YtplhfgobeicegaaGreatDoor.PX
set_option linter.unusedVariables false
set_option linter.unusedSimpArgs false
set_option maxRecDepth 100000
def anyLive (l : List Int) (row : List Int) : Bool := row.any (fun x => decide (0 ≤ x) && decide (l.getD x.toNat 0 = 1))
def isLive (next : List (List Int)) (tags l : List Int) (i : Nat) : Bool := decide (0 ≤ tags.getD i 0) || anyLive l (next.getD i [])
def lpass (next : List (List Int)) (tags : List Int) : Nat → Nat → List Int → Bool → List Int × Bool
 | 0, _, l, b => (l, b)
 | m + 1, i, l, b => if isLive next tags l i = true ∧ l.getD i 0 = 0 then lpass next tags m (i + 1) (l.set i 1) true else lpass next tags m (i + 1) l b
def liveGo (next : List (List Int)) (tags : List Int) : Nat → List Int → List Int
 | 0, l => l
 | f + 1, l => if (lpass next tags tags.length 0 l false).2 = true then liveGo next tags f (lpass next tags tags.length 0 l false).1 else (lpass next tags tags.length 0 l false).1
def liveL (next : List (List Int)) (tags : List Int) : List Int := liveGo next tags (tags.length + 1) (List.replicate tags.length 0)
def zeros (l : List Int) : Nat := l.countP (fun x => decide (x = 0))
theorem zeros_set : ∀ (l : List Int) (i : Nat), i < l.length → l.getD i 0 = 0 → zeros (l.set i 1) + 1 = zeros l
 | [], i, h, _ => by simp at h
 | x :: t, 0, _, h => by
  have h2 : x = 0 := h
  subst h2
  simp [zeros]
 | x :: t, i + 1, h, h0 => by
  have ih := zeros_set t i (by simpa using h) h0
  unfold zeros at ih ⊢
  simp only [List.set_cons_succ, List.countP_cons]
  omega
theorem zeros_rep (n : Nat) : zeros (List.replicate n 0) = n := by
 unfold zeros
 induction n with
 | zero => rfl
 | succ n ih => rw [List.replicate_succ, List.countP_cons, ih]; rfl
theorem lpass_len (next : List (List Int)) (tags : List Int) : ∀ (m i : Nat) (l : List Int) (b : Bool), (lpass next tags m i l b).1.length = l.length
 | 0, _, _, _ => rfl
 | m + 1, i, l, b => by
  unfold lpass
  split
  ·rw [lpass_len next tags m (i + 1)]; simp
  ·exact lpass_len next tags m (i + 1) l b
theorem anyLive_step (l row : List Int) (k : Nat) (h : k < row.length) : anyLive l (row.take (k + 1)) = (anyLive l (row.take k) || (decide (0 ≤ row.getD k 0) && decide (l.getD (row.getD k 0).toNat 0 = 1))) := by
 unfold anyLive
 rw [take_at row 0 k h, List.any_append]
 simp
set_option maxHeartbeats 8000000 in
theorem live_calls (X : Nat → Prop) (vp vn vt : Value) (parts : List (List Sp)) (next : List (List Int)) (tags : List Int) (w : World) (hX : ∀ k, X k → k < w.heap.size) (hp : PV kSps X w vp parts) (hn : PV kRow X w vn next) (ht : PV kInt X w vt tags)
  (hnl : next.length = tags.length) (hok : ∀ i, i < next.length → ∀ k, k < (next.getD i []).length → (next.getD i []).getD k 0 < (tags.length : Int)) (hlen : tags.length ≤ 1000000) :
  Calls Tryz.prog 78 #[.agg #[vp, vn, vt]] w fun e w' => ∃ v, e = .returned v ∧ PV kInt X w' v (liveL next tags) ∧ Below w.heap.size w w' := by
 have H1 := aM hn
 have H2 := aM ht
 have HX := aM hX
 have HOK := aM hok
 have HNL := aM hnl
 obtain ⟨Ap, cp, rfl, _, _⟩ := hp.now
 obtain ⟨An, cn, rfl, _, _⟩ := hn.now
 obtain ⟨At, ct, rfl, _, _⟩ := ht.now
 clear hp hn ht hX hok hnl
 obtain ⟨r, hr⟩ : ∃ r, r = liveL next tags := ⟨_, rfl⟩
 rw [← hr]
 unfold liveL at hr
 have HS := aM hr.symm
 clear hr
 go_enter Tryz.func78, Tryz.ntmps78
 go_wp2_with (first
  | ((with_reducible refine gate_dst (N := 11) rfl ?_); refine mkrow .i64 3 (Y := X) (w0 := w) w.heap.size rfl (N := 11) rfl 26 (.tmp 10) (.tmp 10) rfl tags.length rfl rfl Tryz.underlying26 8 info3' (by omega) (by omega) (below_alloc (Below.refl _ _) _) (below_alloc (Below.refl w.heap.size w) _).size ?_; intro v1 w1 ho hb hg hat; obtain ⟨nx0, hnx0⟩ : ∃ q, q = List.replicate tags.length (0 : Int) := ⟨_, rfl⟩; rw [← hnx0] at ho; have HN0 := aM hnx0; clear hnx0; have HW := aM ho; have HB := aM hb; have HG := aM ((Box.alloc w 80 [.slice Ap parts.length cp, .slice An next.length cn, .slice At tags.length ct]).grown hg (by simp)); clear ho hb hg hat))
 have HL0 := aM (show nx0.length = tags.length by rw [HN0.out]; simp)
 have HZ0 := aM (show zeros nx0 = tags.length by rw [HN0.out]; exact zeros_rep _)
 rw [← HN0.out] at HS
 clear HN0
 obtain ⟨A3, c3, e3, _, _⟩ := HW.out.now
 rw [HL0.out] at e3
 subst e3
 go_loopg [4] (tags.length + 1) (fun m v4 w' => ∃ (more : Bool) (l : List Int), v4 = .bool more ∧ Aside0 (l.length = tags.length) ∧ Aside0 ((more = true ∧ m = zeros l + 1 ∧ ∃ f, zeros l + 1 ≤ f ∧ liveGo next tags f l = r) ∨ (more = false ∧ m = 0 ∧ l = r)) ∧ Aside0 (Own kInt 3 (Xp X (.slice A3 tags.length c3)) w' w.heap.size (.slice A3 tags.length c3) l) ∧ Aside0 (Below w.heap.size w w') ∧ Aside0 (Box w' w.heap.size 80 [.slice Ap parts.length cp, .slice An next.length cn, .slice At tags.length ct]))
 case atStart => exact ⟨true, nx0, rfl, HL0, ⟨.inl ⟨rfl, by rw [HZ0.out], tags.length + 1, by rw [HZ0.out]; exact Nat.le_refl _, HS.out⟩⟩, HW, HB, HG⟩
 case round =>
  clear HL0 HZ0 HS HW HB HG
  obtain ⟨more, l, rfl, HLL, HM, HW, HB, HG⟩ := hrel
  cases gk with
  | zero =>
   obtain ⟨rfl, rfl⟩ : more = false ∧ l = r := by
    rcases HM.out with ⟨_, h, _⟩ | ⟨h1, _, h2⟩
    ·omega
    ·exact ⟨h1, h2⟩
   go_wp2_with fail
   go_ret
   exact ⟨_, rfl, HW.out.done HX.out, HB.out⟩
  | succ k1 =>
   obtain ⟨rfl, hk1, f, hf, hlf⟩ : more = true ∧ k1 = zeros l ∧ ∃ f, zeros l ≤ f ∧ liveGo next tags (f + 1) l = r := by
    rcases HM.out with ⟨h1, h2, f, h3, h4⟩ | ⟨_, h, _⟩
    ·cases f with
     | zero => omega
     | succ f => exact ⟨h1, by omega, f, by omega, h4⟩
    ·omega
   have HK1 := aM hk1
   have HF := aM (show zeros l ≤ f ∧ liveGo next tags (f + 1) l = r from ⟨hf, hlf⟩)
   clear HM hk1 hf hlf
   obtain ⟨res, hres⟩ : ∃ q, q = lpass next tags tags.length 0 l false := ⟨_, rfl⟩
   have HR := aM hres.symm
   have HR2 := aM (show (if res.2 = true then liveGo next tags f res.1 else res.1) = r by rw [hres]; exact HF.out.2)
   have HZZ := aM HF.out.1
   clear hres HF
   go_wp2_with fail
   go_loopg [4, 5] tags.length (fun m v4 v5 w' => ∃ (i : Nat) (l2 : List Int) (b : Bool), (v5 = .int .i64 i ∧ v4 = .bool b) ∧ Aside0 (i + m = tags.length) ∧ Aside0 (l2.length = tags.length) ∧ Aside0 (lpass next tags m i l2 b = res) ∧ Aside0 ((b = true → zeros l2 < zeros l) ∧ (b = false → zeros l2 = zeros l)) ∧ Aside0 (Own kInt 3 (Xp X (.slice A3 tags.length c3)) w' w.heap.size (.slice A3 tags.length c3) l2) ∧ Aside0 (Below w.heap.size w w') ∧ Aside0 (Box w' w.heap.size 80 [.slice Ap parts.length cp, .slice An next.length cn, .slice At tags.length ct]))
   case atStart => exact ⟨0, l, false, ⟨rfl, rfl⟩, ⟨by omega⟩, HLL, HR, ⟨⟨fun h => (by cases h), fun _ => rfl⟩⟩, HW, HB, HG⟩
   case round =>
    clear HR HW HB HG
    obtain ⟨i, l2, b, ⟨rfl, rfl⟩, HJ, HL2, HR, HZ, HW, HB, HG⟩ := hrel
    cases gk with
    | zero =>
     have e1 : decide ((i : Int) < (tags.length : Int)) = false := dF (by have := HJ.out; omega)
     have e2 : decide (i < tags.length) = false := dF (by have := HJ.out; omega)
     have HRE := aM (show (l2, b) = res from HR.out)
     cases b
     case' false => have HF2 := aM (show l2 = r by have := HR2.out; rw [← HRE.out] at this; exact this)
     case' true => have HF2 := aM (show liveGo next tags f l2 = r by have := HR2.out; rw [← HRE.out] at this; exact this)
     case false =>
      go_wp2_with fail
      go_roundg 0
      case measure => omega
      case rel => exact ⟨false, l2, rfl, HL2, ⟨.inr ⟨rfl, rfl, HF2.out⟩⟩, HW, HB, HG⟩
     case true =>
      go_wp2_with fail
      go_roundg (zeros l2 + 1)
      case measure => have := HZ.out.1 (by trivial); have := HK1.out; omega
      case rel => exact ⟨true, l2, rfl, HL2, ⟨.inl ⟨rfl, rfl, f, by have := HZ.out.1 (by trivial); have := HZZ.out; omega, HF2.out⟩⟩, HW, HB, HG⟩
    | succ k2 =>
     have hi : i < tags.length := by have := HJ.out; omega
     have hin : i < next.length := by have := HNL.out; omega
     have e1 : decide ((i : Int) < (tags.length : Int)) = true := dT (by omega)
     have e2 : decide (i < tags.length) = true := dT hi
     obtain ⟨at_, ct_, et, yt0⟩ := int_cell H2.out i hi
     cases et
     obtain ⟨an, cn', u, en, hu, hcu⟩ := H1.out.row i hin
     cases en
     obtain ⟨Ar, cr, rfl, _, _⟩ := hu.now
     have mu := hu.max
     have HU := aM hu
     have HCU := aM hcu
     have HOK1 := aM (HOK.out i hin)
     have HR1 := HR.out
     rw [lpass] at HR1
     obtain ⟨lv, hlv⟩ : ∃ q, q = isLive next tags l2 i := ⟨_, rfl⟩
     rw [← hlv] at HR1
     have HR3 := aM HR1
     unfold isLive at hlv
     generalize next.getD i [] = row at *
     generalize tags.getD i 0 = tg at *
     obtain ⟨bq, hbq⟩ : ∃ b, b = decide (0 ≤ tg) := ⟨_, rfl⟩
     have d1 : decide (tg ≥ 0) = bq := hbq.symm
     have d2 : decide (0 ≤ tg) = bq := hbq.symm
     rw [← hbq] at hlv
     have HLV := aM hlv
     have yt := pw_cell_below HB.out yt0
     have y2 := HG.out.cell 2 rfl
     have hi0 : (0 : Int) ≤ (i : Int) := by omega
     have hi1 : (i : Int) < (tags.length : Int) := by omega
     have hi2 : (i : Int) < (next.length : Int) := by omega
     clear hu hcu HR1 hlv hbq HR yt0
     go_wp2_with fail
     go_loopg [6, 7] row.length (fun m v6 v7 w' => ∃ (k : Nat) (q : Bool), (v7 = .int .i64 k ∧ v6 = .bool q) ∧ Aside0 (k + m = row.length) ∧ Aside0 (q = (bq || anyLive l2 (row.take k))) ∧ Aside0 (Own kInt 3 (Xp X (.slice A3 tags.length c3)) w' w.heap.size (.slice A3 tags.length c3) l2) ∧ Aside0 (Below w.heap.size w w') ∧ Aside0 (Box w' w.heap.size 80 [.slice Ap parts.length cp, .slice (some an) next.length cn, .slice (some at_) tags.length ct]))
     case atStart => exact ⟨0, bq, ⟨by go_num, rfl⟩, ⟨by omega⟩, ⟨by simp [anyLive]⟩, HW, HB, HG⟩
     case round =>
      clear HW HB HG y2 yt
      obtain ⟨k, q, ⟨rfl, rfl⟩, HK, HQ, HW, HB, HG⟩ := hrel
      have y1 := HG.out.cell 1 rfl
      have ycu := pw_cell_below HB.out HCU.out
      obtain ⟨g, cg, eg, hgb, hgl, yl, fl, hset⟩ := own_int HW.out i (by have := HL2.out; omega)
      rw [HL2.out] at eg
      cases eg
      cases gk with
      | zero =>
       have hk : k = row.length := by have := HK.out; omega
       have e3 : decide ((k : Int) < (row.length : Int)) = false := dF (by omega)
       have e4 : decide (k < row.length) = false := dF (by omega)
       have hq : q = lv := by rw [HQ.out, HLV.out, hk, List.take_length]
       subst hq
       have HSET := aM (hset 1)
       have HGB := aM hgb
       clear hk HQ HLV hset hgb
       cases q
       case false =>
        have HR4 := aM (show lpass next tags k2 (i + 1) l2 b = res by have := HR3.out; rwa [if_neg (fun h => by cases h.1)] at this)
        clear HSET
        go_wp2_with fail
        go_roundg k2
        case measure => omega
        case rel => exact ⟨i + 1, l2, b, ⟨by go_num, rfl⟩, ⟨by have := HJ.out; omega⟩, HL2, HR4, HZ, HW, HB, HG⟩
       case true =>
        obtain ⟨z, hz⟩ : ∃ z, z = l2.getD i 0 := ⟨_, rfl⟩
        rw [← hz] at yl
        have HZI := aM hz
        clear hz
        by_cases c : z = 0
        ·have f1 : (z == 0) = true := beq_iff_eq.mpr c
         have HR4 := aM (show lpass next tags k2 (i + 1) (l2.set i 1) true = res by have := HR3.out; rwa [if_pos ⟨rfl, HZI.out.symm.trans c⟩] at this)
         have HZ4 := aM (zeros_set l2 i (by have := HL2.out; omega) (HZI.out.symm.trans c))
         have hne : w.heap.size ≠ g := fun e => HW.out.ne_box HG.out (by decide) g rfl e.symm
         have HB6 := aM (below_set (j := i) (v := .int .i64 1) HB.out HGB.out)
         have HG6 := aM (HG.out.other ⟨g, i, none⟩ hne (.int .i64 1))
         clear hne HZI c
         go_wp2_with fail
         go_roundg k2
         case measure => omega
         case rel => exact ⟨i + 1, _, true, ⟨by go_num, rfl⟩, ⟨by have := HJ.out; omega⟩, ⟨by rw [List.length_set]; exact HL2.out⟩, HR4, ⟨⟨fun _ => (by have := HZ4.out; exact (Bool.eq_false_or_eq_true b).elim (fun h => by have := HZ.out.1 h; omega) (fun h => by have := HZ.out.2 h; omega)), fun h => (by cases h)⟩⟩, HSET, HB6, HG6⟩
        ·have f1 : (z == 0) = false := bF c
         have HR4 := aM (show lpass next tags k2 (i + 1) l2 b = res by have := HR3.out; rwa [if_neg (fun h => c (HZI.out.trans h.2))] at this)
         clear HSET HZI c
         go_wp2_with fail
         go_roundg k2
         case measure => omega
         case rel => exact ⟨i + 1, l2, b, ⟨by go_num, rfl⟩, ⟨by have := HJ.out; omega⟩, HL2, HR4, HZ, HW, HB, HG⟩
      | succ k3 =>
       have hk : k < row.length := by have := HK.out; omega
       have e3 : decide ((k : Int) < (row.length : Int)) = true := dT (by omega)
       have e4 : decide (k < row.length) = true := dT hk
       have hk0 : (0 : Int) ≤ (k : Int) := by omega
       have hk1 : (k : Int) < (row.length : Int) := by omega
       have HST := anyLive_step l2 row k hk
       have hxl := HOK1.out k hk
       obtain ⟨ar, cr', er, yr0⟩ := int_cell HU.out k hk
       cases er
       have yr := pw_cell_below HB.out yr0
       generalize row.getD k 0 = x at *
       clear yl fl hset yr0
       cases q
       case true =>
        have HQ2 := aM (show true = (bq || anyLive l2 (row.take (k + 1))) by rw [HST, ← Bool.or_assoc, ← HQ.out]; rfl)
        clear HST HQ
        go_wp2_with fail
        go_roundg k3
        case measure => omega
        case rel => exact ⟨k + 1, true, ⟨by go_num, rfl⟩, ⟨by have := HK.out; omega⟩, HQ2, HW, HB, HG⟩
       case false =>
        rcases Int.lt_or_le x 0 with c | c
        case inl =>
         have f1 : decide (x ≥ 0) = false := dF (by omega)
         have f2 : decide (0 ≤ x) = false := dF (by omega)
         have HQ2 := aM (show false = (bq || anyLive l2 (row.take (k + 1))) by rw [HST, ← Bool.or_assoc, ← HQ.out, f2]; rfl)
         clear HST HQ
         go_wp2_with fail
         go_roundg k3
         case measure => omega
         case rel => exact ⟨k + 1, false, ⟨by go_num, rfl⟩, ⟨by have := HK.out; omega⟩, HQ2, HW, HB, HG⟩
        case inr =>
         obtain ⟨n, rfl⟩ := Int.eq_ofNat_of_zero_le c
         have f1 : decide ((n : Int) ≥ 0) = true := dT (by omega)
         have f2 : decide (0 ≤ (n : Int)) = true := dT (by omega)
         obtain ⟨g2, cg2, eg2, _, _, yn, _, _⟩ := own_int HW.out n (by have := HL2.out; omega)
         rw [HL2.out] at eg2
         cases eg2
         rw [Int.toNat_natCast] at HST
         generalize l2.getD n 0 = z at *
         by_cases c2 : z = 1
         ·have f3 : (z == 1) = true := beq_iff_eq.mpr c2
          have HQ2 := aM (show true = (bq || anyLive l2 (row.take (k + 1))) by rw [HST, ← Bool.or_assoc, ← HQ.out, f2, dT c2]; rfl)
          clear HST HQ
          go_wp2_with fail
          go_roundg k3
          case measure => omega
          case rel => exact ⟨k + 1, true, ⟨by go_num, rfl⟩, ⟨by have := HK.out; omega⟩, HQ2, HW, HB, HG⟩
         ·have f3 : (z == 1) = false := bF c2
          have HQ2 := aM (show false = (bq || anyLive l2 (row.take (k + 1))) by rw [HST, ← Bool.or_assoc, ← HQ.out, f2, dF c2]; rfl)
          clear HST HQ
          go_wp2_with fail
          go_roundg k3
          case measure => omega
          case rel => exact ⟨k + 1, false, ⟨by go_num, rfl⟩, ⟨by have := HK.out; omega⟩, HQ2, HW, HB, HG⟩
end Go.Proofs.YtplhfgobeicegaaGreatDoor.P
namespace Go.Proofs.YtplhfgobeicegaaGreatDoor.P
open Go Go.RowKit Go.Proofs.YtplhfgobeicegaaGreatDoorW.PrintWords Go.Proofs.YtplhfgobeicegaaGreatDoor.PX
def of0L (tags : List Int) : List Int := tags.map (fun t => ((tags.findIdx (fun x => decide (x = t)) : Nat) : Int))
def firstsGo (P : Nat) (next : List (List Int)) (l : List Int) : Nat → List Int → List Int
 | 0, of_ => of_
 | f + 1, of_ => if refineL P next l of_ = of_ then of_ else firstsGo P next l f (refineL P next l of_)
def firstsL (P : Nat) (next : List (List Int)) (tags l : List Int) : List Int := firstsGo P next l (tags.length + 1) (of0L tags)
def Canon (of_ : List Int) : Prop := ∀ i, i < of_.length → ∃ j : Nat, of_.getD i 0 = (j : Int) ∧ j ≤ i ∧ of_.getD j 0 = (j : Int)
theorem Canon.nat {of_ : List Int} (h : Canon of_) : ∀ x ∈ of_, 0 ≤ x ∧ x < (of_.length : Int) := by
 intro x hx
 obtain ⟨i, hi, rfl⟩ := List.mem_iff_getElem.1 hx
 obtain ⟨j, h1, h2, _⟩ := h i hi
 rw [List.getD_eq_getElem?_getD, List.getElem?_eq_getElem hi, Option.getD_some] at h1
 omega
theorem of0_len (tags : List Int) : (of0L tags).length = tags.length := by simp [of0L]
theorem of0_at (tags : List Int) (i : Nat) (h : i < tags.length) : (of0L tags).getD i 0 = ((tags.findIdx (fun x => decide (x = tags.getD i 0)) : Nat) : Int) := by
 simp [of0L, List.getD_eq_getElem?_getD, h]
theorem ftag (tags : List Int) (i : Nat) (h : i < tags.length) : tags.findIdx (fun x => decide (x = tags.getD i 0)) ≤ i ∧ tags.getD (tags.findIdx (fun x => decide (x = tags.getD i 0))) 0 = tags.getD i 0 := by
 have e : tags.getD i 0 = tags[i] := by simp [List.getD_eq_getElem?_getD, h]
 have h1 : tags.findIdx (fun x => decide (x = tags.getD i 0)) < tags.length := List.findIdx_lt_length_of_exists ⟨tags[i], List.getElem_mem h, dT e.symm⟩
 constructor
 ·refine Nat.le_of_not_lt fun hlt => ?_
  exact absurd e.symm (of_decide_eq_false (List.not_of_lt_findIdx hlt))
 ·have := List.findIdx_getElem (w := h1)
  simp only [decide_eq_true_eq] at this
  rw [List.getD_eq_getElem?_getD, List.getElem?_eq_getElem h1, Option.getD_some]
  exact this
theorem ftag_eq (tags : List Int) (i j : Nat) (h : i < tags.length) (hj : j < tags.length) (h1 : tags.getD j 0 = tags.getD i 0) (h2 : ∀ k, k < j → tags.getD k 0 ≠ tags.getD i 0) : tags.findIdx (fun x => decide (x = tags.getD i 0)) = j := by
 have a := ftag tags i h
 rcases Nat.lt_trichotomy (tags.findIdx (fun x => decide (x = tags.getD i 0))) j with c | c | c
 ·exact absurd a.2 (h2 _ c)
 ·exact c
 ·have := List.not_of_lt_findIdx c
  have e : tags[j] = tags.getD j 0 := by simp [List.getD_eq_getElem?_getD, hj]
  exact absurd (e.trans h1) (of_decide_eq_false this)
theorem canon_of0 (tags : List Int) : Canon (of0L tags) := by
 intro i hi
 rw [of0_len] at hi
 have a := ftag tags i hi
 refine ⟨_, of0_at tags i hi, a.1, ?_⟩
 rw [of0_at tags _ (by omega), a.2]
theorem refFind_congr (P : Nat) (next : List (List Int)) (l of_ nx nx' : List Int) (i : Nat) : ∀ m j, j + m = i → (∀ k, k < i → nx.getD k 0 = nx'.getD k 0) → refFind P next l of_ nx i m j = refFind P next l of_ nx' i m j
 | 0, _, _, _ => rfl
 | m + 1, j, h, hk => by
  unfold refFind
  rw [hk j (by omega), refFind_congr P next l of_ nx nx' i m (j + 1) (by omega) hk]
theorem refFind_spec (P : Nat) (next : List (List Int)) (l of_ nx : List Int) (i : Nat) : ∀ m j, j + m = i → ∃ q : Nat, refFind P next l of_ nx i m j = (q : Int) ∧ q ≤ i ∧ (q = i ∨ nx.getD q 0 = (q : Int) ∧ StillP P next l of_ i q)
 | 0, _, _ => ⟨i, rfl, Nat.le_refl _, .inl rfl⟩
 | m + 1, j, h => by
  unfold refFind
  split
  ·exact ⟨j, rfl, by omega, .inr ‹_›⟩
  ·exact refFind_spec P next l of_ nx i m (j + 1) (by omega)
theorem refGo_len (P : Nat) (next : List (List Int)) (l of_ : List Int) : ∀ m i nx, (refGo P next l of_ m i nx).length = nx.length
 | 0, _, _ => rfl
 | m + 1, i, nx => by rw [refGo, refGo_len P next l of_ m (i + 1)]; simp
theorem getD_set_ne {α : Type} (l : List α) (i j : Nat) (x z : α) (h : i ≠ j) : (l.set i x).getD j z = l.getD j z := by
 simp [List.getD_eq_getElem?_getD, h]
theorem getD_set_eq {α : Type} (l : List α) (i : Nat) (x z : α) (h : i < l.length) : (l.set i x).getD i z = x := by
 simp [List.getD_eq_getElem?_getD, h]
theorem refGo_low (P : Nat) (next : List (List Int)) (l of_ : List Int) : ∀ m i nx, ∀ j, j < i → (refGo P next l of_ m i nx).getD j 0 = nx.getD j 0
 | 0, _, _, _, _ => rfl
 | m + 1, i, nx, j, h => by
  rw [refGo, refGo_low P next l of_ m (i + 1) _ j (by omega), getD_set_ne _ _ _ _ _ (by omega), getD_set_ne _ _ _ _ _ (by omega)]
theorem refGo_at (P : Nat) (next : List (List Int)) (l of_ : List Int) : ∀ m i nx, i + m = nx.length → ∀ j, i ≤ j → j < nx.length → (refGo P next l of_ m i nx).getD j 0 = refFind P next l of_ (refGo P next l of_ m i nx) j j 0
 | 0, i, nx, h, j, h1, h2 => by omega
 | m + 1, i, nx, h, j, h1, h2 => by
  rw [refGo]
  rcases Nat.lt_or_ge i j with c | c
  ·exact refGo_at P next l of_ m (i + 1) _ (by simp; omega) j (by omega) (by simpa using h2)
  ·obtain rfl : j = i := by omega
   rw [refGo_low P next l of_ m (j + 1) _ j (by omega), getD_set_eq _ _ _ _ (by simpa using h2)]
   refine refFind_congr P next l of_ _ _ j j 0 (by omega) (fun k hk => ?_)
   rw [refGo_low P next l of_ m (j + 1) _ k (by omega), getD_set_ne _ _ _ _ _ (by omega), getD_set_ne _ _ _ _ _ (by omega), getD_set_ne _ _ _ _ _ (by omega)]
theorem refine_len (P : Nat) (next : List (List Int)) (l of_ : List Int) : (refineL P next l of_).length = of_.length := by
 unfold refineL
 rw [refGo_len]; simp
theorem refine_at (P : Nat) (next : List (List Int)) (l of_ : List Int) (i : Nat) (h : i < of_.length) : ∃ q : Nat, (refineL P next l of_).getD i 0 = (q : Int) ∧ q ≤ i ∧ (q = i ∨ (refineL P next l of_).getD q 0 = (q : Int) ∧ StillP P next l of_ i q) := by
 have := refGo_at P next l of_ of_.length 0 (List.replicate of_.length 0) (by simp) i (Nat.zero_le _) (by simpa using h)
 unfold refineL
 rw [this]
 exact refFind_spec P next l of_ _ i i 0 (by omega)
theorem canon_refine (P : Nat) (next : List (List Int)) (l of_ : List Int) : Canon (refineL P next l of_) := by
 intro i hi
 rw [refine_len] at hi
 obtain ⟨q, h1, h2, h3⟩ := refine_at P next l of_ i hi
 refine ⟨q, h1, h2, ?_⟩
 rcases h3 with rfl | h3
 ·exact h1
 ·exact h3.1
def fixN (of_ : List Int) : Nat := (List.range of_.length).countP (fun i => decide (of_.getD i 0 = (i : Int)))
theorem fix_le (of_ : List Int) : fixN of_ ≤ of_.length := by
 have := List.countP_le_length (p := fun i => decide (of_.getD i 0 = (i : Int))) (l := List.range of_.length)
 simpa [fixN] using this
theorem countP_lt {p q : Nat → Bool} : ∀ l : List Nat, (∀ x ∈ l, p x = true → q x = true) → (∃ x ∈ l, q x = true ∧ p x = false) → l.countP p < l.countP q
 | [], _, ⟨x, hx, _⟩ => by simp at hx
 | y :: t, h, ⟨x, hx, h1, h2⟩ => by
  have hm : t.countP p ≤ t.countP q := List.countP_mono_left (fun a ha => h a (List.mem_cons_of_mem _ ha))
  rw [List.countP_cons, List.countP_cons]
  rcases List.mem_cons.1 hx with rfl | hx
  ·simp [h1, h2]; omega
  ·have ih := countP_lt t (fun a ha => h a (List.mem_cons_of_mem _ ha)) ⟨x, hx, h1, h2⟩
   have := h y List.mem_cons_self
   split <;> split <;> simp_all <;> omega
theorem fix_lt (P : Nat) (next : List (List Int)) (l of_ : List Int) (hc : Canon of_) (hne : refineL P next l of_ ≠ of_) : fixN of_ < fixN (refineL P next l of_) := by
 have hlen := refine_len P next l of_
 unfold fixN
 rw [hlen]
 have up : ∀ i, i < of_.length → of_.getD i 0 = (i : Int) → (refineL P next l of_).getD i 0 = (i : Int) := by
  intro i hi h0
  obtain ⟨q, h1, h2, h3⟩ := refine_at P next l of_ i hi
  rcases h3 with rfl | ⟨h3, h4⟩
  ·exact h1
  ·rw [h1]
   have h5 : of_.getD i 0 = of_.getD q 0 := h4.1
   obtain ⟨j, h6, h7, _⟩ := hc q (by omega)
   omega
 refine countP_lt _ (fun x hx hp => ?_) ?_
 ·simp only [List.mem_range, decide_eq_true_eq] at hx hp ⊢
  exact up x hx hp
 ·refine Decidable.byContradiction fun hno => hne ?_
  refine List.ext_getElem hlen (fun i h1 h2 => ?_)
  have hall : ∀ x, x < of_.length → (refineL P next l of_).getD x 0 = (x : Int) → of_.getD x 0 = (x : Int) := by
   intro x hx hq
   refine Decidable.byContradiction fun hp => hno ⟨x, List.mem_range.2 hx, by simpa using hq, by simpa using hp⟩
  obtain ⟨q, a1, a2, a3⟩ := refine_at P next l of_ i h2
  have g1 : (refineL P next l of_).getD i 0 = (refineL P next l of_)[i] := by simp [List.getD_eq_getElem?_getD, h1]
  have g2 : of_.getD i 0 = of_[i] := by simp [List.getD_eq_getElem?_getD, h2]
  rcases a3 with rfl | ⟨a3, a4⟩
  ·rw [← g1, ← g2, a1, hall q h2 a1]
  ·have h5 : of_.getD i 0 = of_.getD q 0 := a4.1
   rw [← g1, ← g2, a1, h5, hall q (by omega) a3]
theorem firstsGo_spec (P : Nat) (next : List (List Int)) (l : List Int) : ∀ f of_, Canon of_ → Canon (firstsGo P next l f of_) ∧ (firstsGo P next l f of_).length = of_.length
 | 0, of_, h => ⟨h, rfl⟩
 | f + 1, of_, h => by
  unfold firstsGo
  split
  ·exact ⟨h, rfl⟩
  ·have := firstsGo_spec P next l f (refineL P next l of_) (canon_refine P next l of_)
   exact ⟨this.1, this.2.trans (refine_len P next l of_)⟩
theorem firsts_canon (P : Nat) (next : List (List Int)) (tags l : List Int) : Canon (firstsL P next tags l) := (firstsGo_spec P next l _ _ (canon_of0 tags)).1
theorem firsts_len (P : Nat) (next : List (List Int)) (tags l : List Int) : (firstsL P next tags l).length = tags.length := ((firstsGo_spec P next l _ _ (canon_of0 tags)).2).trans (of0_len tags)
theorem ini_at (z : List Int) (i m : Nat) (h : i + (m + 1) = z.length) (j : Nat) (hj : j = i) : (z.take i ++ List.replicate (m + 1) (0 : Int)).getD j 0 = 0 := by
 subst hj
 simp [List.getD_eq_getElem?_getD, show min j z.length = j by omega]
theorem ini_set (z : List Int) (i m : Nat) (h : i + (m + 1) = z.length) (x : Int) (hx : x = z.getD i 0) : (z.take i ++ List.replicate (m + 1) (0 : Int)).set i x = z.take (i + 1) ++ List.replicate m 0 := by
 rw [take_at z 0 i (by omega), ← hx, List.append_assoc]
 rw [List.set_append, if_neg (by rw [List.length_take]; omega), List.length_take, Nat.min_eq_left (by omega), Nat.sub_self, List.replicate_succ]
 rfl
end Go.Proofs.YtplhfgobeicegaaGreatDoor.P
