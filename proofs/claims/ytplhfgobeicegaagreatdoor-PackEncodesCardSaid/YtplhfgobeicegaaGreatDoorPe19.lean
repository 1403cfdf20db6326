/- Part 19 of the proof: S12i, S12j. -/
import Derived.Test.YtplhfgobeicegaaGreatDoorPe18
namespace Go.Proofs.YtplhfgobeicegaaGreatDoor.P
open Go Go.RowKit Go.Proofs.YtplhfgobeicegaaGreatDoorW.PrintWords Go.Proofs.YtplhfgobeicegaaGreatDoorW.PrintLast Go.Proofs.YtplhfgobeicegaaGreatDoorW.PrintMore Go.Proofs.YtplhfgobeicegaaGreatDoor.PX
set_option linter.unusedVariables false
set_option linter.unusedSimpArgs false
set_option maxRecDepth 100000
def someTo (next : List (List Int)) (l states : List Int) (k : Nat) : Bool := states.any (fun s => decide (0 ≤ toL next l s.toNat k))
def grpAt (next : List (List Int)) (l of_ states : List Int) (k : Nat) : List (List Int) → Nat → Int → Int
 | [], _, a => a
 | g :: t, i, a => grpAt next l of_ states k t (i + 1) (if alike12 next l of_ states (g.getD 0 0).toNat k = true then (i : Int) else a)
def grpStep (next : List (List Int)) (l of_ states : List Int) (k : Nat) (gs : List (List Int)) : List (List Int) :=
 if someTo next l states k = true then
  if 0 ≤ grpAt next l of_ states k gs 0 (-1) then gs.set (grpAt next l of_ states k gs 0 (-1)).toNat (gs.getD (grpAt next l of_ states k gs 0 (-1)).toNat [] ++ [(k : Int)]) else gs ++ [[(k : Int)]]
 else gs
def grpGo (next : List (List Int)) (l of_ states : List Int) : Nat → Nat → List (List Int) → List (List Int)
 | 0, _, gs => gs
 | m + 1, k, gs => grpGo next l of_ states m (k + 1) (grpStep next l of_ states k gs)
def groupsL (P : Nat) (next : List (List Int)) (l of_ states : List Int) : List (List Int) := grpGo next l of_ states P 0 []
structure GQ (P k : Nat) (gs : List (List Int)) : Prop where
 len : gs.length ≤ k
 ne : ∀ g ∈ gs, 1 ≤ g.length ∧ g.length ≤ k ∧ ∀ x ∈ g, 0 ≤ x ∧ x < (P : Int)
theorem grpAt_lt (next : List (List Int)) (l of_ states : List Int) (k : Nat) : ∀ (gs : List (List Int)) (i : Nat) (a : Int), a < (i : Int) → -1 ≤ a → -1 ≤ grpAt next l of_ states k gs i a ∧ grpAt next l of_ states k gs i a < ((i + gs.length : Nat) : Int)
 | [], i, a, h, h2 => ⟨h2, by simpa [grpAt] using h⟩
 | g :: t, i, a, h, h2 => by
  have := grpAt_lt next l of_ states k t (i + 1) (if alike12 next l of_ states (g.getD 0 0).toNat k = true then (i : Int) else a) (by split <;> omega) (by split <;> omega)
  rw [grpAt]
  simp only [List.length_cons]
  omega
theorem GQ.step {P k : Nat} {gs : List (List Int)} (next : List (List Int)) (l of_ states : List Int) (h : GQ P k gs) (hk : k < P) : GQ P (k + 1) (grpStep next l of_ states k gs) := by
 have up : GQ P (k + 1) gs := ⟨by have := h.len; omega, fun g hg => ⟨(h.ne g hg).1, by have := (h.ne g hg).2.1; omega, (h.ne g hg).2.2⟩⟩
 unfold grpStep
 split
 ·have ha := grpAt_lt next l of_ states k gs 0 (-1) (by omega) (by omega)
  split
  ·next c =>
   generalize grpAt next l of_ states k gs 0 (-1) = a at *
   refine ⟨by rw [List.length_set]; exact up.len, fun g hg => ?_⟩
   rcases List.mem_or_eq_of_mem_set hg with hg | rfl
   ·exact up.ne g hg
   ·have h1 := h.ne _ (mem_getD gs [] a.toNat (by omega))
    refine ⟨by rw [lA, lS]; omega, by rw [lA, lS]; omega, fun x hx => ?_⟩
    rcases List.mem_append.1 hx with hx | hx
    ·exact h1.2.2 x hx
    ·obtain rfl := List.mem_singleton.1 hx
     omega
  ·refine ⟨by simp; have := h.len; omega, fun g hg => ?_⟩
   rcases List.mem_append.1 hg with hg | hg
   ·exact up.ne g hg
   ·obtain rfl := List.mem_singleton.1 hg
    exact ⟨by simp, by simp, fun x hx => by obtain rfl := List.mem_singleton.1 hx; omega⟩
 ·exact up
theorem GQ.go {P : Nat} (next : List (List Int)) (l of_ states : List Int) : ∀ m k gs, k + m = P → GQ P k gs → GQ P P (grpGo next l of_ states m k gs)
  | 0, k, gs, h, hg => by obtain rfl : k = P := by omega
                          exact hg
  | m + 1, k, gs, h, hg => GQ.go next l of_ states m (k + 1) _ (by omega) (hg.step next l of_ states (by omega))
theorem groups_gq (P : Nat) (next : List (List Int)) (l of_ states : List Int) : GQ P P (groupsL P next l of_ states) := GQ.go next l of_ states P 0 [] (by omega) ⟨Nat.le_refl _, fun g hg => by simp at hg⟩
theorem add_0 (a : Addr) : a.add 0 = a := by simp [Addr.add]
set_option maxHeartbeats 8000000 in
theorem groups_calls (X : Nat → Prop) (vp vn vt vl vo vs : Value) (parts : List (List Sp)) (next : List (List Int)) (tags l of_ states : List Int) (w : World) (hX : ∀ k, X k → k < w.heap.size) (hp : PV kSps X w vp parts) (hn : PV kRow X w vn next) (ht : PV kInt X w vt tags) (hl : PV kInt X w vl l) (ho : PV kInt X w vo of_) (hs : PV kInt X w vs states)
  (hst : ∀ s ∈ states, 0 ≤ s ∧ s < (next.length : Int)) (hol : of_.length = l.length) (hnl : next.length = l.length) (hok : Ok12 parts.length l.length next) (hpl : parts.length ≤ 100000) :
  Calls Tryz.prog 82 #[.agg #[vp, vn, vt], vl, vo, vs] w fun e w' => ∃ v, e = .returned v ∧ PV kRow X w' v (groupsL parts.length next l of_ states) ∧ Below w.heap.size w w' := by
 have ms := hs.max
 have H0 := aM hp
 have H1 := aM hn
 have H2 := aM ht
 have H3 := aM hl
 have H4 := aM ho
 have H5 := aM hs
 have HOK := aM hok
 have HST := aM hst
 have HLE := aM (show of_.length = l.length ∧ next.length = l.length from ⟨hol, hnl⟩)
 obtain ⟨Ap, cp, rfl, _, _⟩ := hp.now
 obtain ⟨An, cn, rfl, _, _⟩ := hn.now
 obtain ⟨At, ct, rfl, _, _⟩ := ht.now
 obtain ⟨Al, cl, rfl, _, _⟩ := hl.now
 obtain ⟨Ao, co, rfl, _, _⟩ := ho.now
 obtain ⟨As, cs, rfl, _, _⟩ := hs.now
 obtain ⟨r, hr⟩ : ∃ q, q = groupsL parts.length next l of_ states := ⟨_, rfl⟩
 rw [← hr]
 have HR := aM (show grpGo next l of_ states parts.length 0 [] = r from hr.symm)
 have HS := aM (((Sep.start hX).push_box [.slice Ap parts.length cp, .slice An next.length cn, .slice At tags.length ct] 80).push_nil kSl 26)
 clear hp hn ht hl ho hs hst hol hnl hok hX hr
 go_enter Tryz.func82, Tryz.ntmps82
 go_wp2_with fail
 go_loopg [9, 10] parts.length (fun m v9 v10 w' => ∃ (k : Nat) (us : List SlT) (gs : List (List Int)), v10 = .int .i64 k ∧ Aside0 (k + m = parts.length) ∧ Aside0 (us.length = gs.length) ∧ Aside0 (GQ parts.length k gs) ∧ Aside0 (grpGo next l of_ states m k gs = r) ∧ Aside0 (Sep X w w' ([.box w.heap.size 80 [.slice Ap parts.length cp, .slice An next.length cn, .slice At tags.length ct], .row kSl 26 v9 us] ++ rows kInt 3 us gs)))
 case atStart => exact ⟨0, [], [], rfl, ⟨by omega⟩, ⟨rfl⟩, ⟨⟨Nat.le_refl _, fun g hg => by simp at hg⟩⟩, HR, HS⟩
 case round =>
  clear HS HR
  obtain ⟨k, us, gs, rfl, HJ, HU, HQ, HR, HS⟩ := hrel
  obtain ⟨A9, c9, e9⟩ := HS.out.form 1 rfl
  rw [HU.out] at e9
  subst e9
  cases gk with
  | zero =>
   have e1 : decide ((k : Int) < (parts.length : Int)) = false := dF (by have := HJ.out; omega)
   have e2 : decide (k < parts.length) = false := dF (by have := HJ.out; omega)
   have y0 := ((HS.out.box 0 rfl).cell 0 rfl)
   have q0 : gs = r := HR.out
   clear HR
   subst q0
   go_wp2_with fail
   go_ret
   refine ⟨_, rfl, HS.out.res_rows (d := kInt) (e := 3) 1 2 rfl HU.out (fun j hj => ?_) (by omega), HS.out.below⟩
   rw [List.getElem?_append_right (by simp)]
   simpa using rows_at j HU.out hj
  | succ k1 =>
   have hk : k < parts.length := by have := HJ.out; omega
   have e1 : decide ((k : Int) < (parts.length : Int)) = true := dT (by omega)
   have e2 : decide (k < parts.length) = true := dT hk
   have y0 := ((HS.out.box 0 rfl).cell 0 rfl)
   have HR1 := HR.out
   rw [grpGo, grpStep] at HR1
   obtain ⟨sb, hsb⟩ : ∃ q, q = someTo next l states k := ⟨_, rfl⟩
   obtain ⟨a0, ha0⟩ : ∃ q, q = grpAt next l of_ states k gs 0 (-1) := ⟨_, rfl⟩
   rw [← hsb, ← ha0] at HR1
   have HR2 := aM HR1
   have HSB := aM (show (false || (states.drop 0).any (fun s => decide (0 ≤ toL next l s.toNat k))) = sb from hsb.symm)
   have HAT := aM (show grpAt next l of_ states k (gs.drop 0) 0 (-1) = a0 from ha0.symm)
   have HAR := aM (show -1 ≤ a0 ∧ a0 < (gs.length : Int) by have := grpAt_lt next l of_ states k gs 0 (-1) (by omega) (by omega); rw [ha0]; omega)
   have HQ2 := aM (show GQ parts.length (k + 1) (if sb = true then if 0 ≤ a0 then gs.set a0.toNat (gs.getD a0.toNat [] ++ [(k : Int)]) else gs ++ [[(k : Int)]] else gs) by have := HQ.out.step next l of_ states hk; rwa [grpStep, ← hsb, ← ha0] at this)
   clear HR HR1 hsb ha0
   go_wp2_with fail
   clear y0
   go_loopg [11, 12] states.length (fun m v11 v12 w' => ∃ (i : Nat) (q : Bool), (v12 = .int .i64 i ∧ v11 = .bool q) ∧ Aside0 (i + m = states.length) ∧ Aside0 ((q || (states.drop i).any (fun s => decide (0 ≤ toL next l s.toNat k))) = sb) ∧ Aside0 (Sep X w w' ([.box w.heap.size 80 [.slice Ap parts.length cp, .slice An next.length cn, .slice At tags.length ct], .row kSl 26 (.slice A9 gs.length c9) us] ++ rows kInt 3 us gs)))
   case atStart => exact ⟨0, false, ⟨by go_num, rfl⟩, ⟨by omega⟩, HSB, HS⟩
   case round =>
    clear HS HSB
    obtain ⟨i, q, ⟨rfl, rfl⟩, HI, HSB, HS⟩ := hrel
    cases gk with
    | succ k2 =>
     have hi : i < states.length := by have := HI.out; omega
     have e3 : decide ((i : Int) < (states.length : Int)) = true := dT (by omega)
     have e4 : decide (i < states.length) = true := dT hi
     have hi0 : (0 : Int) ≤ (i : Int) := by omega
     have hi1 : (i : Int) < (states.length : Int) := by omega
     have hs := HS.out.drew
     clear HS
     have HS := aM hs
     clear hs
     obtain ⟨as_, cs', es, ys0⟩ := int_cell H5.out i hi
     cases es
     have ys := pw_cell_below HS.out.below ys0
     have HSK := HST.out _ (mem_getD states 0 i hi)
     have HSB1 := HSB.out
     rw [drop_at states 0 i hi, List.any_cons] at HSB1
     generalize states.getD i 0 = s at *
     obtain ⟨sn, rfl⟩ := Int.eq_ofNat_of_zero_le HSK.1
     rw [Int.toNat_natCast] at HSB1
     have HSN := aM (show sn < next.length by omega)
     have HOKS := aM (show (next.getD sn []).length = parts.length ∧ ∀ k, k < parts.length → (next.getD sn []).getD k 0 < (l.length : Int) from HOK.out sn HSN.out)
     obtain ⟨x, hx⟩ : ∃ x, x = toL next l sn k := ⟨_, rfl⟩
     rw [← hx] at HSB1
     have HX := aM hx.symm
     have HSB2 := aM HSB1
     have y0 := ((HS.out.box 0 rfl).cell 0 rfl)
     have y1 := ((HS.out.box 0 rfl).cell 1 rfl)
     have y2 := ((HS.out.box 0 rfl).cell 2 rfl)
     clear hx HSB1 HSB ys0 HSK
     cases q
     case true =>
      have HSB3 := aM (show (true || (states.drop (i + 1)).any (fun s => decide (0 ≤ toL next l s.toNat k))) = sb by rw [← HSB2.out]; rfl)
      clear HSB2
      go_wp2_with fail
      refine start_ (n := 13) (S := fun w' => True) (ds := []) #[false, false, false, false, false, false, false, false, false, false, false, false, false] (by kernel_rfl) rfl rfl trivial (fun hHeld => ?_)
      refine pure_ (i := 0) (N := some 28) (v := ?_) (a' := ?_) (bv 13 1) rfl rfl (by kernel_rfl) (fun _ _ _ h => h) (Or.inl ⟨by rfl, ?_⟩) ?_ ?_
      rotate_left
      ·intro w'
       go_simp
       with_reducible rfl
      rotate_left
      ·simp only [Act.put, qA, qB, qC, i64_w, i32_w]
       rfl
      refine pure_ (i := 1) (N := some 29) (v := ?_) (a' := ?_) (bv 13 3) rfl rfl (by kernel_rfl) (fun _ _ _ h => h) (Or.inl ⟨by rfl, ?_⟩) ?_ ?_
      rotate_left
      ·intro w'
       go_simp
       with_reducible rfl
      rotate_left
      ·simp only [Act.put, qA, qB, qC, i64_w, i32_w]
       rfl
      refine pure_ (i := 2) (N := some 30) (v := undef) (a' := ?_) (bv 13 7) rfl rfl (by kernel_rfl) (fun _ _ _ h => h) (Or.inr ⟨by rfl, rfl⟩) ?_ ?_
      rotate_left
      ·simp only [Act.put, qA, qB, qC, i64_w, i32_w]
       rfl
      refine pure_ (i := 3) (N := some 31) (v := undef) (a' := ?_) (bv 13 15) rfl rfl (by kernel_rfl) (fun _ _ _ h => h) (Or.inr ⟨by rfl, rfl⟩) ?_ ?_
      rotate_left
      ·simp only [Act.put, qA, qB, qC, i64_w, i32_w]
       rfl
      refine pure_ (i := 4) (N := some 32) (v := undef) (a' := ?_) (bv 13 31) rfl rfl (by kernel_rfl) (fun _ _ _ h => h) (Or.inr ⟨by rfl, rfl⟩) ?_ ?_
      rotate_left
      ·simp only [Act.put, qA, qB, qC, i64_w, i32_w]
       rfl
      refine pure_ (i := 5) (N := some 33) (v := undef) (a' := ?_) (bv 13 63) rfl rfl (by kernel_rfl) (fun _ _ _ h => h) (Or.inr ⟨by rfl, rfl⟩) ?_ ?_
      rotate_left
      ·simp only [Act.put, qA, qB, qC, i64_w, i32_w]
       rfl
      refine pure_ (i := 6) (N := some 34) (v := undef) (a' := ?_) (bv 13 127) rfl rfl (by kernel_rfl) (fun _ _ _ h => h) (Or.inr ⟨by rfl, rfl⟩) ?_ ?_
      rotate_left
      ·simp only [Act.put, qA, qB, qC, i64_w, i32_w]
       rfl
      refine pure_ (i := 7) (N := some 35) (v := undef) (a' := ?_) (bv 13 255) rfl rfl (by kernel_rfl) (fun _ _ _ h => h) (Or.inr ⟨by rfl, rfl⟩) ?_ ?_
      rotate_left
      ·simp only [Act.put, qA, qB, qC, i64_w, i32_w]
       rfl
      refine pure_ (i := 8) (N := some 36) (v := undef) (a' := ?_) (bv 13 511) rfl rfl (by kernel_rfl) (fun _ _ _ h => h) (Or.inr ⟨by rfl, rfl⟩) ?_ ?_
      rotate_left
      ·simp only [Act.put, qA, qB, qC, i64_w, i32_w]
       rfl
      refine pure_ (i := 9) (N := some 37) (v := undef) (a' := ?_) (bv 13 1023) rfl rfl (by kernel_rfl) (fun _ _ _ h => h) (Or.inr ⟨by rfl, rfl⟩) ?_ ?_
      rotate_left
      ·simp only [Act.put, qA, qB, qC, i64_w, i32_w]
       rfl
      refine pure_ (i := 10) (N := some 38) (v := undef) (a' := ?_) (bv 13 2047) rfl rfl (by kernel_rfl) (fun _ _ _ h => h) (Or.inr ⟨by rfl, rfl⟩) ?_ ?_
      rotate_left
      ·simp only [Act.put, qA, qB, qC, i64_w, i32_w]
       rfl
      refine pure_ (i := 11) (N := some 39) (v := ?_) (a' := ?_) (bv 13 4095) rfl rfl (by kernel_rfl) (fun _ _ _ h => h) (Or.inl ⟨by rfl, ?_⟩) ?_ ?_
      rotate_left
      ·intro w'
       go_simp
       with_reducible rfl
      rotate_left
      ·simp only [Act.put, qA, qB, qC, i64_w, i32_w]
       rfl
      refine pure_ (i := 12) (N := some 11) (v := ?_) (a' := ?_) (bv 13 8191) rfl rfl (by kernel_rfl) (fun _ _ _ h => h) (Or.inl ⟨by rfl, ?_⟩) ?_ ?_
      rotate_left
      ·intro w'
       go_simp
       with_reducible rfl
      rotate_left
      ·simp only [Act.put, qA, qB, qC, i64_w, i32_w]
       rfl
      refine done_ (by kernel_rfl) ?_
      go_wp2_with fail
      go_roundg k2
      case measure => omega
      case rel => exact ⟨i + 1, true, ⟨by go_num, rfl⟩, ⟨by have := HI.out; omega⟩, HSB3, HS⟩
     case false =>
      have hxx : (false || decide (x ≥ 0)) = decide (0 ≤ x) := rfl
      go_wp2_with fail
      refine start_ (n := 13) (S := fun w' => w'.cell? ⟨w.heap.size, 0, none⟩ = some (.slice Ap parts.length cp) ∧ w'.cell? ⟨w.heap.size, 1, none⟩ = some (.slice An next.length cn) ∧ w'.cell? ⟨w.heap.size, 2, none⟩ = some (.slice At tags.length ct) ∧ w'.cell? (as_.add i) = some (.int .i64 (sn : Int))) (ds := [9]) #[false, false, false, false, false, false, false, false, false, false, false, false, false] (by kernel_rfl) rfl rfl ⟨y0, y1, y2, ys⟩ (fun hHeld => ?_)
      refine pure_ (i := 0) (N := some 28) (v := ?_) (a' := ?_) (bv 13 1) rfl rfl (by kernel_rfl) (fun _ _ _ h => h) (Or.inl ⟨by rfl, ?_⟩) ?_ ?_
      rotate_left
      ·intro w'
       go_simp
       with_reducible rfl
      rotate_left
      ·simp only [Act.put, qA, qB, qC, i64_w, i32_w]
       rfl
      refine pure_ (i := 1) (N := some 29) (v := ?_) (a' := ?_) (bv 13 3) rfl rfl (by kernel_rfl) (fun _ _ _ h => h) (Or.inl ⟨by rfl, ?_⟩) ?_ ?_
      rotate_left
      ·intro w'
       go_simp
       with_reducible rfl
      rotate_left
      ·simp only [Act.put, qA, qB, qC, i64_w, i32_w]
       rfl
      refine pure_ (i := 3) (N := some 31) (v := ?_) (a' := ?_) (bv 13 11) rfl rfl (by kernel_rfl) (fun _ _ _ h => h) (Or.inl ⟨by rfl, ?_⟩) ?_ ?_
      rotate_left
      ·intro w'
       go_simp
       with_reducible rfl
      rotate_left
      ·simp only [Act.put, qA, qB, qC, i64_w, i32_w]
       rfl
      refine pure_ (i := 4) (N := some 32) (v := ?_) (a' := ?_) (bv 13 27) rfl rfl (by kernel_rfl) (fun _ _ _ h => h) (Or.inl ⟨by rfl, ?_⟩) ?_ ?_
      rotate_left
      ·intro w'
       go_simp
       with_reducible rfl
      rotate_left
      ·simp only [Act.put, qA, qB, qC, i64_w, i32_w]
       rfl
      refine pure_ (i := 5) (N := some 33) (v := ?_) (a' := ?_) (bv 13 59) rfl rfl (by kernel_rfl) (fun _ _ _ h => h) (Or.inl ⟨by rfl, ?_⟩) ?_ ?_
      rotate_left
      ·intro w'
       go_simp
       with_reducible rfl
      rotate_left
      ·simp only [Act.put, qA, qB, qC, i64_w, i32_w]
       rfl
      refine pure_ (i := 6) (N := some 34) (v := ?_) (a' := ?_) (bv 13 123) rfl rfl (by kernel_rfl) (fun _ _ _ h => h) (Or.inl ⟨by rfl, ?_⟩) ?_ ?_
      rotate_left
      ·intro w'
       go_simp
       with_reducible rfl
      rotate_left
      ·simp only [Act.put, qA, qB, qC, i64_w, i32_w]
       rfl
      refine pure_ (i := 8) (N := some 36) (v := ?_) (a' := ?_) (bv 13 379) rfl rfl (by kernel_rfl) (fun _ _ _ h => h) (Or.inl ⟨by rfl, ?_⟩) ?_ ?_
      rotate_left
      ·intro w'
       go_simp
       with_reducible rfl
      rotate_left
      ·simp only [Act.put, qA, qB, qC, i64_w, i32_w]
       rfl
      refine take_ (i := 2) (N := some 30) (v := ?_) (a' := ?_) (bv 13 383) rfl rfl (by kernel_rfl) (fun _ _ _ h => h) (Or.inl ⟨by rfl, ?_⟩) hHeld ?_ ?_
      rotate_left
      ·rintro w' ⟨s0, s1, s2, s3⟩
       go_simp
       with_reducible rfl
      rotate_left
      ·simp only [Act.put, qA, qB, qC, i64_w, i32_w]
       rfl
      refine take_ (i := 7) (N := some 35) (v := ?_) (a' := ?_) (bv 13 511) rfl rfl (by kernel_rfl) (fun _ _ _ h => h) (Or.inl ⟨by rfl, ?_⟩) hHeld ?_ ?_
      rotate_left
      ·rintro w' ⟨s0, s1, s2, s3⟩
       go_simp
       with_reducible rfl
      rotate_left
      ·simp only [Act.put, qA, qB, qC, i64_w, i32_w]
       rfl
      refine last_ (i := 9) (N := some 37) #[true, true, true, true, true, true, true, true, true, true, false, false, false] rfl rfl (by kernel_rfl) (by decide) (fun K hK => ?_)
      refine goes_ Tryz.func91 (by kernel_rfl) rfl #[.agg #[.slice Ap parts.length cp, .slice An next.length cn, .slice At tags.length ct], .slice Al l.length cl, .int .i64 (sn : Int), .int .i64 (k : Int)] (by rfl) rfl rfl (by simp only [List.map_toArray, List.map_cons, List.map_nil]; rfl) ?_
      with_reducible refine (to_calls _ _ _ _ _ parts next tags l sn k _ (HS.out.arg H0.out) (HS.out.arg H1.out) (HS.out.arg H2.out) (HS.out.arg H3.out) HSN.out (by rw [HOKS.out.1]; exact hk) (HOKS.out.2 k hk)).mono ?_
      rintro e w5 ⟨rfl, hb5⟩
      refine ⟨_, rfl, ?_⟩
      rw [HX.out]
      have hs := HS.out.call hb5
      clear hb5
      clear HS; have HS := aM hs; clear hs
      refine hK.out _ _ ?_
      clear hK K
      refine norm_ (a' := ?_) ?_ ?_
      rotate_left
      ·show Act.put _ (some 37) _ = _
       simp only [Act.put, qA, qB, qC, i64_w, i32_w]
       rfl
      refine pure_ (i := 10) (N := some 38) (v := ?_) (a' := ?_) (bv 13 2047) rfl rfl (by kernel_rfl) (fun _ _ _ h => h) (Or.inl ⟨by rfl, ?_⟩) ?_ ?_
      rotate_left
      ·intro w'
       go_simp
       with_reducible rfl
      rotate_left
      ·simp only [Act.put, qA, qB, qC, i64_w, i32_w]
       rfl
      refine pure_ (i := 11) (N := some 39) (v := ?_) (a' := ?_) (bv 13 4095) rfl rfl (by kernel_rfl) (fun _ _ _ h => h) (Or.inl ⟨by rfl, ?_⟩) ?_ ?_
      rotate_left
      ·intro w'
       go_simp
       with_reducible rfl
      rotate_left
      ·simp only [Act.put, qA, qB, qC, i64_w, i32_w]
       rfl
      refine pure_ (i := 12) (N := some 11) (v := ?_) (a' := ?_) (bv 13 8191) rfl rfl (by kernel_rfl) (fun _ _ _ h => h) (Or.inl ⟨by rfl, ?_⟩) ?_ ?_
      rotate_left
      ·intro w'
       go_simp
       with_reducible rfl
      rotate_left
      ·simp only [Act.put, qA, qB, qC, i64_w, i32_w]
       rfl
      refine done_ (by kernel_rfl) ?_
      rcases Int.lt_or_le x 0 with c | c
      case inl =>
       have d1 : decide (x ≥ 0) = false := dF (by omega)
       have d2 : decide (0 ≤ x) = false := dF (by omega)
       have HSB3 := aM (show (false || (states.drop (i + 1)).any (fun s => decide (0 ≤ toL next l s.toNat k))) = sb by rw [← HSB2.out, d2]; rfl)
       clear HSB2 hxx
       go_wp2_with fail
       go_roundg k2
       case measure => omega
       case rel => exact ⟨i + 1, false, ⟨by go_num, by rw [d2]⟩, ⟨by have := HI.out; omega⟩, HSB3, HS⟩
      case inr =>
       have d1 : decide (x ≥ 0) = true := dT (by omega)
       have d2 : decide (0 ≤ x) = true := dT (by omega)
       have HSB3 := aM (show (true || (states.drop (i + 1)).any (fun s => decide (0 ≤ toL next l s.toNat k))) = sb by rw [← HSB2.out, d2]; rfl)
       clear HSB2 hxx
       go_wp2_with fail
       go_roundg k2
       case measure => omega
       case rel => exact ⟨i + 1, true, ⟨by go_num, by rw [d2]⟩, ⟨by have := HI.out; omega⟩, HSB3, HS⟩
    | zero =>
     have e3 : decide ((i : Int) < (states.length : Int)) = false := dF (by have := HI.out; omega)
     have e4 : decide (i < states.length) = false := dF (by have := HI.out; omega)
     have q0 : q = sb := by have := HSB.out; rw [List.drop_eq_nil_of_le (by have := HI.out; omega)] at this; simpa using this
     clear HSB
     subst q0
     cases q
     case false =>
      have HR3 := aM (show grpGo next l of_ states k1 (k + 1) gs = r from HR2.out)
      have HQ3 := aM (show GQ parts.length (k + 1) gs from HQ2.out)
      clear HR2 HQ2
      go_wp2_with fail
      go_loopg [13, 14] 0 (fun m v13 v14 w' => (v14 = .int .i64 0 ∧ v13 = .int .i64 (-1)) ∧ Aside0 (Sep X w w' ([.box w.heap.size 80 [.slice Ap parts.length cp, .slice An next.length cn, .slice At tags.length ct], .row kSl 26 (.slice A9 gs.length c9) us] ++ rows kInt 3 us gs)))
      case atStart => exact ⟨⟨rfl, rfl⟩, HS⟩
      case round =>
       clear HS e3 e4
       obtain ⟨⟨rfl, rfl⟩, HS⟩ := hrel
       rcases Nat.eq_zero_or_pos gs.length with c | c
       case' inl =>
        have f1 : decide ((0 : Int) < (gs.length : Int)) = false := dF (by omega)
        have f2 : decide (0 < gs.length) = false := dF (by omega)
       case' inr =>
        have f1 : decide ((0 : Int) < (gs.length : Int)) = true := dT (by omega)
        have f2 : decide (0 < gs.length) = true := dT (by omega)
       all_goals
        clear c
        go_wp2_with fail
        go_roundg k1
        case measure => omega
        case rel => exact ⟨k + 1, us, gs, by go_num, ⟨by have := HJ.out; omega⟩, HU, HQ3, HR3, HS⟩
     case true =>
      go_wp2_with fail
      clear e3 e4
      go_loopg [13, 14] gs.length (fun m v13 v14 w' => ∃ (g : Nat) (a : Int), (v14 = .int .i64 g ∧ v13 = .int .i64 a) ∧ Aside0 (g + m = gs.length) ∧ Aside0 (grpAt next l of_ states k (gs.drop g) g a = a0) ∧ Aside0 (Sep X w w' ([.box w.heap.size 80 [.slice Ap parts.length cp, .slice An next.length cn, .slice At tags.length ct], .row kSl 26 (.slice A9 gs.length c9) us] ++ rows kInt 3 us gs)))
      case atStart => exact ⟨0, -1, ⟨by go_num, rfl⟩, ⟨by omega⟩, HAT, HS⟩
      case round =>
       clear HS HAT
       obtain ⟨g, a, ⟨rfl, rfl⟩, HG, HAT, HS⟩ := hrel
       cases gk with
       | succ k2 =>
        have hg : g < gs.length := by have := HG.out; omega
        have f1 : decide ((g : Int) < (gs.length : Int)) = true := dT (by omega)
        have f2 : decide (g < gs.length) = true := dT hg
        have hg0 : (0 : Int) ≤ (g : Int) := by omega
        have hg1 : (g : Int) < (gs.length : Int) := by omega
        go_wp2_with fail
        have hs := HS.out.drew
        clear HS
        have HS := aM hs
        clear hs
        obtain ⟨g9, c9', e9, yo, _, _⟩ := HS.out.sc (none, 0, 0) 1 rfl g (by rw [HU.out]; exact hg)
        rw [HU.out] at e9
        cases e9
        have hgq := HQ.out.ne _ (mem_getD gs [] g hg)
        obtain ⟨gi, ci, ei, yi, _, _⟩ := HS.out.int (g + 2) (rows_at g HU.out hg) 0 hgq.1
        rw [ei] at yo
        have hx0 := hgq.2.2 _ (mem_getD (gs.getD g []) 0 0 hgq.1)
        have hgl : (0 : Int) < ((gs.getD g []).length : Int) := by omega
        have hgsl : gs.length ≤ 100000 := by have := HQ.out.len; omega
        have hgl2 : 0 < (gs.getD g []).length := by omega
        have hgm : (gs.getD g []).length ≤ 100000 := by have := hgq.2.1; omega
        have HAT1 := HAT.out
        rw [drop_at gs [] g hg, grpAt] at HAT1
        generalize gs.getD g [] = gr at *
        generalize gr.getD 0 0 = x0 at *
        obtain ⟨xn, rfl⟩ := Int.eq_ofNat_of_zero_le hx0.1
        rw [Int.toNat_natCast] at HAT1
        have HXN := aM (show xn < parts.length by omega)
        obtain ⟨ab, hab⟩ : ∃ b, b = alike12 next l of_ states xn k := ⟨_, rfl⟩
        rw [← hab] at HAT1
        have HAT2 := aM HAT1
        have HAB := aM hab.symm
        have y0 := ((HS.out.box 0 rfl).cell 0 rfl)
        have y1 := ((HS.out.box 0 rfl).cell 1 rfl)
        have y2 := ((HS.out.box 0 rfl).cell 2 rfl)
        clear hab HAT1 HAT hgq hx0 ei
        refine start_ (n := 12) (S := fun w' => w'.cell? ⟨w.heap.size, 0, none⟩ = some (.slice Ap parts.length cp) ∧ w'.cell? ⟨w.heap.size, 1, none⟩ = some (.slice An next.length cn) ∧ w'.cell? ⟨w.heap.size, 2, none⟩ = some (.slice At tags.length ct) ∧ w'.cell? ⟨g9, g, none⟩ = some (.slice (some ⟨gi, 0, none⟩) gr.length ci) ∧ w'.cell? ⟨gi, 0, none⟩ = some (.int .i64 (xn : Int))) (ds := [11]) #[false, false, false, false, false, false, false, false, false, false, false, false] (by kernel_rfl) rfl rfl ⟨y0, y1, y2, yo, yi⟩ (fun hHeld => ?_)
        refine pure_ (i := 1) (N := some 50) (v := ?_) (a' := ?_) (bv 12 2) rfl rfl (by kernel_rfl) (fun _ _ _ h => h) (Or.inl ⟨by rfl, ?_⟩) ?_ ?_
        rotate_left
        ·intro w'
         go_simp
         with_reducible rfl
        rotate_left
        ·simp only [Act.put, qA, qB, qC, i64_w, i32_w]
         rfl
        refine pure_ (i := 2) (N := some 51) (v := ?_) (a' := ?_) (bv 12 6) rfl rfl (by kernel_rfl) (fun _ _ _ h => h) (Or.inl ⟨by rfl, ?_⟩) ?_ ?_
        rotate_left
        ·intro w'
         go_simp
         with_reducible rfl
        rotate_left
        ·simp only [Act.put, qA, qB, qC, i64_w, i32_w]
         rfl
        refine pure_ (i := 3) (N := some 52) (v := ?_) (a' := ?_) (bv 12 14) rfl rfl (by kernel_rfl) (fun _ _ _ h => h) (Or.inl ⟨by rfl, ?_⟩) ?_ ?_
        rotate_left
        ·intro w'
         go_simp
         with_reducible rfl
        rotate_left
        ·simp only [Act.put, qA, qB, qC, i64_w, i32_w]
         rfl
        refine pure_ (i := 4) (N := some 53) (v := ?_) (a' := ?_) (bv 12 30) rfl rfl (by kernel_rfl) (fun _ _ _ h => h) (Or.inl ⟨by rfl, ?_⟩) ?_ ?_
        rotate_left
        ·intro w'
         go_simp
         with_reducible rfl
        rotate_left
        ·simp only [Act.put, qA, qB, qC, i64_w, i32_w]
         rfl
        refine pure_ (i := 5) (N := some 54) (v := ?_) (a' := ?_) (bv 12 62) rfl rfl (by kernel_rfl) (fun _ _ _ h => h) (Or.inl ⟨by rfl, ?_⟩) ?_ ?_
        rotate_left
        ·intro w'
         go_simp
         with_reducible rfl
        rotate_left
        ·simp only [Act.put, qA, qB, qC, i64_w, i32_w]
         rfl
        refine pure_ (i := 6) (N := some 55) (v := ?_) (a' := ?_) (bv 12 126) rfl rfl (by kernel_rfl) (fun _ _ _ h => h) (Or.inl ⟨by rfl, ?_⟩) ?_ ?_
        rotate_left
        ·intro w'
         go_simp
         with_reducible rfl
        rotate_left
        ·simp only [Act.put, qA, qB, qC, i64_w, i32_w]
         rfl
        refine pure_ (i := 10) (N := some 59) (v := ?_) (a' := ?_) (bv 12 1150) rfl rfl (by kernel_rfl) (fun _ _ _ h => h) (Or.inl ⟨by rfl, ?_⟩) ?_ ?_
        rotate_left
        ·intro w'
         go_simp
         with_reducible rfl
        rotate_left
        ·simp only [Act.put, qA, qB, qC, i64_w, i32_w]
         rfl
        refine take_ (i := 0) (N := some 49) (v := ?_) (a' := ?_) (bv 12 1151) rfl rfl (by kernel_rfl) (fun _ _ _ h => h) (Or.inl ⟨by rfl, ?_⟩) hHeld ?_ ?_
        rotate_left
        ·rintro w' ⟨s0, s1, s2, s3, s4⟩
         go_simp
         with_reducible rfl
        rotate_left
        ·simp only [Act.put, qA, qB, qC, i64_w, i32_w]
         rfl
        refine take_ (i := 7) (N := some 56) (v := ?_) (a' := ?_) (bv 12 1279) rfl rfl (by kernel_rfl) (fun _ _ _ h => h) (Or.inl ⟨by rfl, ?_⟩) hHeld ?_ ?_
        rotate_left
        ·rintro w' ⟨s0, s1, s2, s3, s4⟩
         go_simp
         with_reducible rfl
        rotate_left
        ·simp only [Act.put, qA, qB, qC, i64_w, i32_w]
         rfl
        refine pure_ (i := 8) (N := some 57) (v := ?_) (a' := ?_) (bv 12 1535) rfl rfl (by kernel_rfl) (fun _ _ _ h => h) (Or.inl ⟨by rfl, ?_⟩) ?_ ?_
        rotate_left
        ·intro w'
         go_simp
         with_reducible rfl
        rotate_left
        ·simp only [Act.put, qA, qB, qC, i64_w, i32_w]
         rfl
        refine take_ (i := 9) (N := some 58) (v := ?_) (a' := ?_) (bv 12 2047) rfl rfl (by kernel_rfl) (fun _ _ _ h => h) (Or.inl ⟨by rfl, ?_⟩) hHeld ?_ ?_
        rotate_left
        ·rintro w' ⟨s0, s1, s2, s3, s4⟩
         go_simp
         with_reducible rfl
        rotate_left
        ·simp only [Act.put, qA, qB, qC, i64_w, i32_w]
         rfl
        refine last_ (i := 11) (N := some 60) #[true, true, true, true, true, true, true, true, true, true, true, true] rfl rfl (by kernel_rfl) (by decide) (fun K hK => ?_)
        refine goes_ Tryz.func92 (by kernel_rfl) rfl #[.agg #[.slice Ap parts.length cp, .slice An next.length cn, .slice At tags.length ct], .slice Al l.length cl, .slice Ao of_.length co, .slice As states.length cs, .int .i64 (xn : Int), .int .i64 (k : Int)] (by rfl) rfl rfl (by simp only [List.map_toArray, List.map_cons, List.map_nil]; rfl) ?_
        with_reducible refine (alike12_calls _ _ _ _ _ _ _ parts next tags l of_ states xn k _ (HS.out.arg H0.out) (HS.out.arg H1.out) (HS.out.arg H2.out) (HS.out.arg H3.out) (HS.out.arg H4.out) (HS.out.arg H5.out) HXN.out hk HST.out HLE.out.1 HLE.out.2 HOK.out).mono ?_
        rintro e w5 ⟨rfl, hb5⟩
        refine ⟨_, rfl, ?_⟩
        rw [HAB.out]
        have hs := HS.out.call hb5
        clear hb5
        clear HS; have HS := aM hs; clear hs
        refine hK.out _ _ ?_
        clear hK K
        refine norm_ (a' := ?_) ?_ ?_
        rotate_left
        ·show Act.put _ (some 60) _ = _
         simp only [Act.put, qA, qB, qC, i64_w, i32_w]
         rfl
        refine done_ (by kernel_rfl) ?_
        cases ab
        case false =>
         have HAT3 := aM (show grpAt next l of_ states k (gs.drop (g + 1)) (g + 1) a = a0 from HAT2.out)
         clear HAT2
         go_wp2_with fail
         go_roundg k2
         case measure => omega
         case rel => exact ⟨g + 1, a, ⟨by go_num, rfl⟩, ⟨by have := HG.out; omega⟩, HAT3, HS⟩
        case true =>
         have HAT3 := aM (show grpAt next l of_ states k (gs.drop (g + 1)) (g + 1) (g : Int) = a0 from HAT2.out)
         clear HAT2
         go_wp2_with fail
         go_roundg k2
         case measure => omega
         case rel => exact ⟨g + 1, g, ⟨by go_num, rfl⟩, ⟨by have := HG.out; omega⟩, HAT3, HS⟩
       | zero =>
        have f1 : decide ((g : Int) < (gs.length : Int)) = false := dF (by have := HG.out; omega)
        have f2 : decide (g < gs.length) = false := dF (by have := HG.out; omega)
        have q0 : a = a0 := by have := HAT.out; rw [List.drop_eq_nil_of_le (by have := HG.out; omega)] at this; exact this
        clear HAT
        subst q0
        have HGL := aM (show gs.length ≤ 100000 by have := HQ.out.len; omega)
        rcases Int.lt_or_le a 0 with c | c
        case inr =>
         obtain ⟨n, rfl⟩ := Int.eq_ofNat_of_zero_le c
         have d1 : decide ((n : Int) ≥ 0) = true := dT (by omega)
         have d2 : decide (0 ≤ (n : Int)) = true := dT (by omega)
         have hn : n < gs.length := by have := HAR.out.2; omega
         have hn0 : (0 : Int) ≤ (n : Int) := by omega
         have hn1 : (n : Int) < (gs.length : Int) := by omega
         have HR3 := HR2.out
         have HQ3 := HQ2.out
         rw [if_pos (by trivial), if_pos c, Int.toNat_natCast] at HR3 HQ3
         obtain ⟨g9, c9', e9, yo, _, _⟩ := HS.out.sc (none, 0, 0) 1 rfl n (by rw [HU.out]; exact hn)
         rw [HU.out] at e9
         cases e9
         have hgq := HQ.out.ne _ (mem_getD gs [] n hn)
         have hrow := rows_at (d := kInt) (e := 3) n HU.out hn
         obtain ⟨gi, ci, ei, yi, _, _⟩ := HS.out.int (n + 2) hrow 0 hgq.1
         rw [ei] at yo hrow
         have HGM := aM (show (gs.getD n []).length ≤ 100000 by have := hgq.2.1; omega)
         generalize gs.getD n [] = gr at *
         have HROW := aM hrow
         have HR4 := aM HR3
         have HQ4 := aM HQ3
         clear hgq HR3 HQ3 HR2 HQ2 ei hrow yi
         go_wp2_with (first
          | ((with_reducible refine gate_dst (N := 74) rfl ?_); refine slit kInt 3 ?hg (N := 74) ?hd (xs := [(k : Int)]) (inner := [.int .i64 (k : Int)]) ?hr HS.out ?hp (by simp) ?_; (case hd => rfl); (case hg => rfl); (case hr => first | (go_simp; done) | (go_simp; rfl)); (case hp => exact Reps.one (PK.scalar _) (Reps.none _ _)); clear HS; intro v5 w5 hs; have HS := aM hs; clear hs)
          | ((with_reducible refine gate_builtin (b := .append) (xs := #[.tmp 72, .tmp 74]) rfl ?_); at_builtin; refine sgrow kInt (n + 2) rfl (.tmp 72) (.tmp 74) 26 3 (.int .i64 0) 8 rfl Tryz.underlying26 info3' rfl (by decide) (by omega) _ _ gr [(k : Int)] rfl rfl HS.out (atl HROW.out) (HS.out.ro _ List.getElem?_concat_length) (by have := HGM.out; simp; omega) ?_; clear HS; intro v1 w1 hs; obtain ⟨z1, hz1⟩ : ∃ q, q = gr ++ [(k : Int)] := ⟨_, rfl⟩; rw [← hz1] at hs; have HZz1 := aM hz1; clear hz1; obtain ⟨A1, c1, e1, hs2⟩ := grp_upd HU.out hn hs; subst e1; obtain ⟨gx, cx, ex, yx, fx, hset⟩ := hs2.sc (none, 0, 0) 1 rfl n (by rw [HU.out]; exact hn); rw [HU.out] at ex; cases ex; have HSET := aM (hset (A1, z1.length, c1)); clear hset hs2; have HS := aM hs; clear hs))
         go_roundg k1
         case measure => omega
         case rel => exact ⟨k + 1, us.set n (A1, z1.length, c1), gs.set n z1, by go_num, ⟨by have := HJ.out; omega⟩, ⟨by rw [List.length_set, List.length_set]; exact HU.out⟩, ⟨by rw [HZz1.out]; exact HQ4.out⟩, ⟨by rw [HZz1.out]; exact HR4.out⟩, HSET⟩
        case inl =>
         have d1 : decide (a ≥ 0) = false := dF (by omega)
         have d2 : decide (0 ≤ a) = false := dF (by omega)
         have HR3 := HR2.out
         have HQ3 := HQ2.out
         rw [if_pos (by trivial), if_neg (by omega)] at HR3 HQ3
         have HR4 := aM HR3
         have HQ4 := aM HQ3
         clear HR3 HQ3 HR2 HQ2
         go_wp2_with (first
          | ((with_reducible refine gate_dst (N := 80) rfl ?_); refine slit_row kInt 3 ?hg (N := 80) ?hd (xs := [(k : Int)]) (inner := [.int .i64 (k : Int)]) ?hr HS.out ?hp (by simp) ?_; (case hd => rfl); (case hg => rfl); (case hr => first | (go_simp; done) | (go_simp; rfl)); (case hp => exact Reps.one (PK.scalar _) (Reps.none _ _)); clear HS; intro v5 w5 hs; obtain ⟨A5, c5, e5⟩ := hs.form _ List.getElem?_concat_length; subst e5; have HS := aM hs; clear hs)
          | ((with_reducible refine gate_dst (N := 81) rfl ?_); refine slit kSl 26 ?hg (N := 81) ?hd (xs := [(A5, 1, c5)]) (inner := [.slice A5 1 c5]) ?hr HS.out ?hp (by simp) ?_; (case hd => rfl); (case hg => rfl); (case hr => first | (go_simp; done) | (go_simp; rfl)); (case hp => exact Reps.one (PK.scalar (enc := encS) (A5, 1, c5)) (Reps.none _ _)); clear HS; intro v6 w6 hs; have HS := aM hs; clear hs)
          | ((with_reducible refine gate_builtin (b := .append) (xs := #[.tmp 78, .tmp 81]) rfl ?_); at_builtin; refine sgrow kSl 1 rfl (.tmp 78) (.tmp 81) 25 26 (.slice none 0 0) 24 rfl Tryz.underlying25 info26 rfl (by decide) (by omega) _ _ us [(A5, 1, c5)] rfl rfl HS.out rfl (HS.out.ro _ List.getElem?_concat_length) (by have := HU.out; have := HGL.out; simp; omega) ?_; clear HS; intro v1 w1 hs; have HS := aM hs; clear hs))
         have HSE := aM (show Sep X w _ (_ :: _ :: rows kInt 3 (us ++ [(A5, 1, c5)]) (gs ++ [[(k : Int)]])) by
          rw [rows_snoc HU.out]
          exact HS.out.sub (List.Sublist.cons_cons _ (List.Sublist.cons_cons _ (List.sublist_append_left _ _))))
         go_roundg k1
         case measure => omega
         case rel => exact ⟨k + 1, us ++ [(A5, 1, c5)], gs ++ [[(k : Int)]], by go_num, ⟨by have := HJ.out; omega⟩, ⟨by rw [lA, lA, HU.out]; rfl⟩, HQ4, HR4, HSE⟩
def uni (parts : List (List Sp)) : List Int → List Sp
 | [] => []
 | k :: t => parts.getD k.toNat [] ++ uni parts t
def setsStep (parts : List (List Sp)) (g : List Int) (p : List (List Sp) × List Int) : List (List Sp) × List Int :=
 (ins10 (makeL (uni parts g) [] 2) p.1, p.2.take (ahead (makeL (uni parts g) [] 2) p.1) ++ [g.getD 0 0] ++ p.2.drop (ahead (makeL (uni parts g) [] 2) p.1))
def setsGo (parts : List (List Sp)) : List (List Int) → List (List Sp) × List Int → List (List Sp) × List Int
 | [], p => p
 | g :: t, p => setsGo parts t (setsStep parts g p)
def setsL (parts : List (List Sp)) (gs : List (List Int)) : List (List Sp) × List Int := setsGo parts gs ([], [])
theorem uni_sm (parts : List (List Sp)) (h : ∀ x ∈ parts, Sm x) : ∀ g : List Int, Sm (uni parts g)
 | [] => fun s hs => by cases hs
 | k :: t => fun s hs => by
  rcases List.mem_append.1 hs with hs | hs
  ·by_cases c : k.toNat < parts.length
   ·exact h _ (mem_getD parts [] _ c) s hs
   ·rw [List.getD_eq_getElem?_getD, List.getElem?_eq_none (by omega)] at hs
    cases hs
  ·exact uni_sm parts h t s hs
set_option maxHeartbeats 8000000 in
theorem sets_calls (X : Nat → Prop) (vp vn vt vg : Value) (parts : List (List Sp)) (next : List (List Int)) (tags : List Int) (gs : List (List Int)) (w : World) (hX : ∀ k, X k → k < w.heap.size) (hp : PV kSps X w vp parts) (hn : PV kRow X w vn next) (ht : PV kInt X w vt tags) (hg : PV kRow X w vg gs)
  (hq : GQ parts.length parts.length gs) (hpl : parts.length ≤ 100000) (hsm : ∀ x ∈ parts, Sm x) (hu : ∀ g ∈ gs, (uni parts g).length ≤ 10000 ∧ (makeL (uni parts g) [] 2).length ≠ 0) :
  Calls Tryz.prog 81 #[.agg #[vp, vn, vt], vg] w fun e w' => ∃ v1 v2, e = .returned (.tuple #[v1, v2]) ∧ PV kSps X w' v1 (setsL parts gs).1 ∧ PV kInt X w' v2 (setsL parts gs).2 ∧ Below w.heap.size w w' := by
 have H0 := aM hp
 have H1 := aM hn
 have H2 := aM ht
 have H3 := aM hg
 have HQ := aM hq
 have HSM := aM hsm
 have HU := aM hu
 obtain ⟨Ap, cp, rfl, _, _⟩ := hp.now
 obtain ⟨An, cn, rfl, _, _⟩ := hn.now
 obtain ⟨At, ct, rfl, _, _⟩ := ht.now
 obtain ⟨Ag, cg, rfl, _, _⟩ := hg.now
 have hgl : gs.length ≤ 100000 := by have := hq.len; omega
 obtain ⟨i0, hi0, _, hsz0, _⟩ := info_parts info91
 obtain ⟨j0, hj0, _, hjz0, _⟩ := info_parts info3'
 obtain ⟨r, hr⟩ : ∃ q, q = setsL parts gs := ⟨_, rfl⟩
 rw [← hr]
 have HR := aM (show setsGo parts (gs.drop 0) ([], []) = r from hr.symm)
 have HS := aM ((((Sep.start hX).push_box [.slice Ap parts.length cp, .slice An next.length cn, .slice At tags.length ct] 80).push_ro (Below.refl _ _) (PV.nil kSps _ _)).push_ro (Below.refl _ _) (PV.nil kInt _ _))
 clear hp hn ht hg hq hsm hu hX hr
 go_enter Tryz.func81, Tryz.ntmps81
 go_wp2_with fail
 go_loopg [6, 7, 8] gs.length (fun m v6 v7 v8 w' => ∃ (i : Nat) (p : List (List Sp) × List Int), v8 = .int .i64 i ∧ Aside0 (i + m = gs.length) ∧ Aside0 (p.1.length = i ∧ p.2.length = i ∧ ∀ x ∈ p.1, x.length ≠ 0) ∧ Aside0 (setsGo parts (gs.drop i) p = r) ∧ Aside0 (Sep X w w' [.box w.heap.size 80 [.slice Ap parts.length cp, .slice An next.length cn, .slice At tags.length ct], .ro kSps v6 p.1, .ro kInt v7 p.2]))
 case atStart => exact ⟨0, ([], []), rfl, ⟨by omega⟩, ⟨rfl, rfl, fun x hx => by cases hx⟩, HR, HS⟩
 case round =>
  clear HS HR
  obtain ⟨i, p, rfl, HJ, HP, HR, HS⟩ := hrel
  obtain ⟨A6, c6, e6⟩ := HS.out.rform 1 rfl
  obtain ⟨A7, c7, e7⟩ := HS.out.rform 2 rfl
  subst e6
  subst e7
  cases gk with
  | zero =>
   have e1 : decide ((i : Int) < (gs.length : Int)) = false := dF (by have := HJ.out; omega)
   have e2 : decide (i < gs.length) = false := dF (by have := HJ.out; omega)
   have q0 : p = r := by
    have := HR.out
    rw [List.drop_eq_nil_of_le (by have := HJ.out; omega)] at this
    exact this
   clear HR
   subst q0
   go_wp2_with fail
   go_ret2
   exact ⟨_, _, rfl, HS.out.res 1 rfl, HS.out.res 2 rfl, HS.out.below⟩
  | succ k1 =>
   have hi : i < gs.length := by have := HJ.out; omega
   have e1 : decide ((i : Int) < (gs.length : Int)) = true := dT (by omega)
   have e2 : decide (i < gs.length) = true := dT hi
   have hi0' : (0 : Int) ≤ (i : Int) := by omega
   have hi1 : (i : Int) < (gs.length : Int) := by omega
   obtain ⟨ag, cg', u, eg, hgu, yg⟩ := H3.out.row i hi
   cases eg
   obtain ⟨Au, cu, rfl, _, _⟩ := hgu.now
   have HGU := aM hgu
   have HYG := aM yg
   have hmem := mem_getD gs [] i hi
   have HGQ := aM (HQ.out.ne _ hmem)
   have HUU := aM (HU.out _ hmem)
   have HR1 := HR.out
   rw [drop_at gs [] i hi, setsGo] at HR1
   generalize gs.getD i [] = g at *
   have HR2 := aM HR1
   obtain ⟨un, hun⟩ : ∃ q, q = uni parts g := ⟨_, rfl⟩
   have HUN := aM (show [] ++ uni parts (g.drop 0) = un from hun.symm)
   rw [← hun] at HUU
   have HSU := aM (show Sm un by rw [hun]; exact uni_sm parts HSM.out g)
   have HST := aM (show setsStep parts g p = (ins10 (makeL un [] 2) p.1, p.2.take (ahead (makeL un [] 2) p.1) ++ [g.getD 0 0] ++ p.2.drop (ahead (makeL un [] 2) p.1)) by rw [hun]; rfl)
   have hs := HS.out.push_nil kSp 124
   clear HS hgu yg hmem HR1 HR hun
   have HS := aM hs
   have hgll : g.length ≤ 100000 := by have := HGQ.out.2.1; omega
   clear hs
   go_wp2_with fail
   go_loopg [9, 10] g.length (fun m v9 v10 w' => ∃ (k : Nat) (s : List Sp), v10 = .int .i64 k ∧ Aside0 (k + m = g.length) ∧ Aside0 (s ++ uni parts (g.drop k) = un) ∧ Aside0 (Sep X w w' [.box w.heap.size 80 [.slice Ap parts.length cp, .slice An next.length cn, .slice At tags.length ct], .ro kSps (.slice A6 p.1.length c6) p.1, .ro kInt (.slice A7 p.2.length c7) p.2, .row kSp 124 v9 s]))
   case atStart => exact ⟨0, [], rfl, ⟨by omega⟩, HUN, HS⟩
   case round =>
    clear HS HUN
    obtain ⟨k, s, rfl, HK, HUN, HS⟩ := hrel
    cases gk with
    | succ k2 =>
     have hk : k < g.length := by have := HK.out; omega
     have e3 : decide ((k : Int) < (g.length : Int)) = true := dT (by omega)
     have e4 : decide (k < g.length) = true := dT hk
     have hk0 : (0 : Int) ≤ (k : Int) := by omega
     have hk1 : (k : Int) < (g.length : Int) := by omega
     have yg1 := pw_cell_below HS.out.below HYG.out
     obtain ⟨au, cu', eu, yk⟩ := int_cell HGU.out k hk
     cases eu
     have hx := HGQ.out.2.2 _ (mem_getD g 0 k hk)
     have HUN1 := HUN.out
     rw [drop_at g 0 k hk, uni] at HUN1
     generalize g.getD k 0 = x at *
     obtain ⟨xn, rfl⟩ := Int.eq_ofNat_of_zero_le hx.1
     rw [Int.toNat_natCast, ← List.append_assoc] at HUN1
     have hxn : xn < parts.length := by omega
     have hxn0 : (0 : Int) ≤ (xn : Int) := by omega
     have hxn1 : (xn : Int) < (parts.length : Int) := by omega
     obtain ⟨ap, cp', up, ep, hup, yp⟩ := H0.out.row xn hxn
     cases ep
     obtain ⟨Aq, cq, rfl, _, _⟩ := hup.now
     have HUP := aM hup
     generalize parts.getD xn [] = q at *
     have HUN2 := aM HUN1
     have HYP := aM yp
     have HYK := aM yk
     have HLN := aM (show (s.length + q.length) * 16 ≤ 140737488355328 by have h1 := HUU.out.1; rw [← HUN2.out, lA, lA] at h1; omega)
     clear hup HUN1 HUN hx yp yk
     go_wp2_with fail
     have hs := HS.out.drew
     clear HS; have HS := aM hs; clear hs
     refine start_ (n := 14) (S := fun w' => w'.cell? ⟨w.heap.size, 0, none⟩ = some (.slice (some ap) parts.length cp) ∧ w'.cell? (ag.add i) = some (.slice (some au) g.length cu) ∧ w'.cell? (au.add k) = some (.int .i64 (xn : Int)) ∧ w'.cell? (ap.add xn) = some (.slice Aq q.length cq)) (ds := [12]) #[false, false, false, false, false, false, false, false, false, false, false, false, false, false] (by kernel_rfl) rfl rfl ⟨((HS.out.box 0 rfl).cell 0 rfl), (pw_cell_below HS.out.below HYG.out), (pw_cell_below HS.out.below HYK.out), (pw_cell_below HS.out.below HYP.out)⟩ (fun hHeld => ?_)
     refine pure_ (i := 0) (N := some 29) (v := ?_) (a' := ?_) (bv 14 1) rfl rfl (by kernel_rfl) (fun _ _ _ h => h) (Or.inl ⟨by rfl, ?_⟩) ?_ ?_
     rotate_left
     ·intro w'
      go_simp
      with_reducible rfl
     rotate_left
     ·simp only [Act.put, qA, qB, qC, i64_w, i32_w]
      rfl
     refine pure_ (i := 1) (N := some 30) (v := ?_) (a' := ?_) (bv 14 3) rfl rfl (by kernel_rfl) (fun _ _ _ h => h) (Or.inl ⟨by rfl, ?_⟩) ?_ ?_
     rotate_left
     ·intro w'
      go_simp
      with_reducible rfl
     rotate_left
     ·simp only [Act.put, qA, qB, qC, i64_w, i32_w]
      rfl
     refine pure_ (i := 3) (N := some 32) (v := ?_) (a' := ?_) (bv 14 11) rfl rfl (by kernel_rfl) (fun _ _ _ h => h) (Or.inl ⟨by rfl, ?_⟩) ?_ ?_
     rotate_left
     ·intro w'
      go_simp
      with_reducible rfl
     rotate_left
     ·simp only [Act.put, qA, qB, qC, i64_w, i32_w]
      rfl
     refine pure_ (i := 4) (N := some 33) (v := ?_) (a' := ?_) (bv 14 27) rfl rfl (by kernel_rfl) (fun _ _ _ h => h) (Or.inl ⟨by rfl, ?_⟩) ?_ ?_
     rotate_left
     ·intro w'
      go_simp
      with_reducible rfl
     rotate_left
     ·simp only [Act.put, qA, qB, qC, i64_w, i32_w]
      rfl
     refine pure_ (i := 5) (N := some 34) (v := ?_) (a' := ?_) (bv 14 59) rfl rfl (by kernel_rfl) (fun _ _ _ h => h) (Or.inl ⟨by rfl, ?_⟩) ?_ ?_
     rotate_left
     ·intro w'
      go_simp
      with_reducible rfl
     rotate_left
     ·simp only [Act.put, qA, qB, qC, i64_w, i32_w]
      rfl
     refine pure_ (i := 7) (N := some 36) (v := ?_) (a' := ?_) (bv 14 187) rfl rfl (by kernel_rfl) (fun _ _ _ h => h) (Or.inl ⟨by rfl, ?_⟩) ?_ ?_
     rotate_left
     ·intro w'
      go_simp
      with_reducible rfl
     rotate_left
     ·simp only [Act.put, qA, qB, qC, i64_w, i32_w]
      rfl
     refine take_ (i := 2) (N := some 31) (v := ?_) (a' := ?_) (bv 14 191) rfl rfl (by kernel_rfl) (fun _ _ _ h => h) (Or.inl ⟨by rfl, ?_⟩) hHeld ?_ ?_
     rotate_left
     ·rintro w' ⟨s0, s1, s2, s3⟩
      go_simp
      with_reducible rfl
     rotate_left
     ·simp only [Act.put, qA, qB, qC, i64_w, i32_w]
      rfl
     refine take_ (i := 6) (N := some 35) (v := ?_) (a' := ?_) (bv 14 255) rfl rfl (by kernel_rfl) (fun _ _ _ h => h) (Or.inl ⟨by rfl, ?_⟩) hHeld ?_ ?_
     rotate_left
     ·rintro w' ⟨s0, s1, s2, s3⟩
      go_simp
      with_reducible rfl
     rotate_left
     ·simp only [Act.put, qA, qB, qC, i64_w, i32_w]
      rfl
     refine pure_ (i := 8) (N := some 37) (v := ?_) (a' := ?_) (bv 14 511) rfl rfl (by kernel_rfl) (fun _ _ _ h => h) (Or.inl ⟨by rfl, ?_⟩) ?_ ?_
     rotate_left
     ·intro w'
      go_simp
      with_reducible rfl
     rotate_left
     ·simp only [Act.put, qA, qB, qC, i64_w, i32_w]
      rfl
     refine take_ (i := 9) (N := some 38) (v := ?_) (a' := ?_) (bv 14 1023) rfl rfl (by kernel_rfl) (fun _ _ _ h => h) (Or.inl ⟨by rfl, ?_⟩) hHeld ?_ ?_
     rotate_left
     ·rintro w' ⟨s0, s1, s2, s3⟩
      go_simp
      with_reducible rfl
     rotate_left
     ·simp only [Act.put, qA, qB, qC, i64_w, i32_w]
      rfl
     refine pure_ (i := 10) (N := some 39) (v := ?_) (a' := ?_) (bv 14 2047) rfl rfl (by kernel_rfl) (fun _ _ _ h => h) (Or.inl ⟨by rfl, ?_⟩) ?_ ?_
     rotate_left
     ·intro w'
      go_simp
      with_reducible rfl
     rotate_left
     ·simp only [Act.put, qA, qB, qC, i64_w, i32_w]
      rfl
     refine take_ (i := 11) (N := some 40) (v := ?_) (a' := ?_) (bv 14 4095) rfl rfl (by kernel_rfl) (fun _ _ _ h => h) (Or.inl ⟨by rfl, ?_⟩) hHeld ?_ ?_
     rotate_left
     ·rintro w' ⟨s0, s1, s2, s3⟩
      go_simp
      with_reducible rfl
     rotate_left
     ·simp only [Act.put, qA, qB, qC, i64_w, i32_w]
      rfl
     refine last_ (i := 12) (N := some 41) #[true, true, true, true, true, true, true, true, true, true, true, true, true, false] rfl rfl (by kernel_rfl) (by decide) (fun K hK => ?_)
     refine sgrow_step kSp 3 (by rfl) rfl (.tmp 29) (.tmp 40) 91 124 (.agg #[.int .i64 0, .int .i64 0]) 16 rfl Tryz.underlying91 info124 rfl (by decide) (by omega) _ _ s q rfl rfl HS.out rfl (HS.out.arg HUP.out) HLN.out ?_
     intro v1 w1 hs
     clear HS; have HS := aM hs; clear hs
     refine hK.out _ _ ?_
     clear hK K
     refine norm_ (a' := ?_) ?_ ?_
     rotate_left
     ·show Act.put _ (some 41) _ = _
      simp only [Act.put, qA, qB, qC, i64_w, i32_w]
      rfl
     refine pure_ (i := 13) (N := some 9) (v := ?_) (a' := ?_) (bv 14 16383) rfl rfl (by kernel_rfl) (fun _ _ _ h => h) (Or.inl ⟨by rfl, ?_⟩) ?_ ?_
     rotate_left
     ·intro w'
      go_simp
      with_reducible rfl
     rotate_left
     ·simp only [Act.put, qA, qB, qC, i64_w, i32_w]
      rfl
     refine done_ (by kernel_rfl) ?_
     go_wp2_with fail
     go_roundg k2
     case measure => omega
     case rel => exact ⟨k + 1, s ++ q, by go_num, ⟨by have := HK.out; omega⟩, HUN2, HS⟩
    | zero =>
     have e3 : decide ((k : Int) < (g.length : Int)) = false := dF (by have := HK.out; omega)
     have e4 : decide (k < g.length) = false := dF (by have := HK.out; omega)
     have yg1 := pw_cell_below HS.out.below HYG.out
     have q0 : s = un := by
      have := HUN.out
      rw [List.drop_eq_nil_of_le (by have := HK.out; omega)] at this
      simpa [uni] using this
     clear HUN
     subst q0
     have hs := HS.out.sealRo 3 rfl
     clear HS
     have HS := aM hs
     clear hs
     obtain ⟨A9, c9, e9⟩ := HS.out.rform 3 rfl
     subst e9
     have hsne := HUU.out.2
     obtain ⟨z, hz⟩ : ∃ q, q = makeL s [] 2 := ⟨_, rfl⟩
     rw [← hz] at HST hsne
     have HZ := aM hz.symm
     have HZN := aM hsne
     have HAL := aM (ahead_le z p.1)
     have HPL := aM (show p.1.length = i ∧ p.2.length = i ∧ i < 100000 from ⟨HP.out.1, HP.out.2.1, by omega⟩)
     clear hz hsne
     go_wp2_with (first
      | (go_at_call 58; (with_reducible refine (Norm_calls _ _ s _ HS.out.lt (HS.out.ro 3 rfl) HSU.out HUU.out.1).mono ?_); rintro ee w5 ⟨v5, rfl, hv, hb⟩; rw [HZ.out] at hv; have hs := HS.out.push_ro hb hv; clear hv hb; obtain ⟨A5, c5, e5⟩ := hs.rform 4 rfl; subst e5; clear HS; have HS := aM hs; clear hs))
     clear e3 e4
     go_loopg [11] (ahead z p.1) (fun m v11 w' => ∃ (k : Nat), v11 = .int .i64 k ∧ Aside0 (k + m = ahead z p.1) ∧ Aside0 (Sep X w w' [.box w.heap.size 80 [.slice Ap parts.length cp, .slice An next.length cn, .slice At tags.length ct], .ro kSps (.slice A6 p.1.length c6) p.1, .ro kInt (.slice A7 p.2.length c7) p.2, .ro kSp (.slice A9 s.length c9) s, .ro kSp (.slice A5 z.length c5) z]))
     case atStart => exact ⟨0, rfl, ⟨by omega⟩, HS⟩
     case round =>
      clear HS yg1
      obtain ⟨k, rfl, HK, HS⟩ := hrel
      obtain ⟨adz, cz, ez, hz0⟩ := first_cell (HS.out.ro 4 rfl) HZN.out
      cases ez
      have hk0 : (0 : Int) ≤ (k : Int) := by omega
      have hlz : (0 : Int) < (z.length : Int) := by have := HZN.out; omega
      cases gk with
      | succ k2 =>
       have hk : k < p.1.length := by have := HK.out; have := HAL.out; omega
       have hk3 : k < 100000 := by have := HPL.out; omega
       obtain ⟨ado, co', uo, eo, huo, hco2⟩ := (HS.out.ro 1 rfl).row k hk
       cases eo
       have hno := HP.out.2.2 _ (mem_at p.1 k hk)
       have hlt := ahead_lt z p.1 k (by have := HK.out; omega)
       obtain ⟨ad2, c2, rfl, hy0⟩ := first_cell huo hno
       have d1 : decide ((k : Int) < (p.1.length : Int)) = true := dT (by omega)
       have d2 : decide (lo10 (p.1.getD k []) < lo10 z) = true := dT hlt
       have hlo : (0 : Int) < ((p.1.getD k []).length : Int) := by omega
       have hk1 : (k : Int) < (p.1.length : Int) := by omega
       clear huo hlt hno
       generalize p.1.getD k [] = y at *
       generalize lo10 z = n1 at *
       generalize lo10 y = n2 at *
       go_wp2_with fail
       go_quiet (fail)
       have HS2 := aM (HS.out.drewN nq)
       go_wp2_with fail
       go_roundg k2
       case measure => omega
       case rel => exact ⟨k + 1, by go_num, ⟨by have := HK.out; omega⟩, HS2⟩
      | zero =>
       have hke : k = ahead z p.1 := by have := HK.out; omega
       have hkp : k ≤ p.1.length := by rw [hke]; exact HAL.out
       have HKE := aM hke
       have hkq : k ≤ p.2.length := by have := HPL.out; omega
       have hk3 : k < 100000 := by have := HPL.out; omega
       obtain ⟨u1, hu1, hrun1⟩ := (HS.out.ro 1 rfl).upto (P := Tryz.prog) 78 91 Tryz.underlying78 hi0 k hkp
       obtain ⟨u2, hu2, hrun2⟩ := (HS.out.ro 1 rfl).from_ (P := Tryz.prog) 78 91 Tryz.underlying78 hi0 hsz0 k hkp
       obtain ⟨u3, hu3, hrun3⟩ := (HS.out.ro 2 rfl).upto (P := Tryz.prog) 26 3 Tryz.underlying26 hj0 k hkq
       obtain ⟨u4, hu4, hrun4⟩ := (HS.out.ro 2 rfl).from_ (P := Tryz.prog) 26 3 Tryz.underlying26 hj0 hjz0 k hkq
       have hs := ((((((HS.out.push_ro (Below.refl _ _) hu1).push_ro (Below.refl _ _) (hu2.to (fun _ _ h => Ys_ro h))).push_ro (Below.refl _ _) (hu3.to (fun _ _ h => Ys_ro (Ys_ro h)))).push_ro (Below.refl _ _) (hu4.to (fun _ _ h => Ys_ro (Ys_ro (Ys_ro h))))).push_nil kSps 91).push_nil kInt 3)
       have HS2 := aM hs
       have HG0 := aM (show 1 ≤ g.length from HGQ.out.1)
       have hgn : 0 < g.length := by have := HG0.out; omega
       have hgn1 : (0 : Int) < (g.length : Int) := by omega
       obtain ⟨ag0, cg0, eg0, yg0⟩ := int_cell HGU.out 0 HG0.out
       cases eg0
       rw [add_0] at yg0
       have HYG0 := aM yg0
       have HFP := aM (show setsStep parts g p = ([] ++ p.1.take k ++ [z] ++ p.1.drop k, [] ++ p.2.take k ++ [g.getD 0 0] ++ p.2.drop k) by rw [HST.out, ← HKE.out]; unfold ins10; rw [← HKE.out]; rfl)
       have HPM := aM (show ∀ x ∈ [] ++ p.1.take k ++ [z] ++ p.1.drop k, x.length ≠ 0 from fun x hx => by
        simp only [List.nil_append, List.mem_append, List.mem_singleton] at hx
        rcases hx with (hx | rfl) | hx
        ·exact HP.out.2.2 _ (List.mem_of_mem_take hx)
        ·exact HZN.out
        ·exact HP.out.2.2 _ (List.mem_of_mem_drop hx))
       generalize g.getD 0 0 = g0 at *
       rcases Nat.lt_or_ge k p.1.length with hk | hk
       case' inl =>
        obtain ⟨ado, co', uo, eo, huo, hco2⟩ := (HS.out.ro 1 rfl).row k hk
        cases eo
        have hno := HP.out.2.2 _ (mem_at p.1 k hk)
        have hge := ahead_at z p.1 (by rw [← hke]; exact hk)
        rw [← hke] at hge
        obtain ⟨ad2, c2, rfl, hy0⟩ := first_cell huo hno
        have d1 : decide ((k : Int) < (p.1.length : Int)) = true := dT (by omega)
        have d2 : decide (lo10 (p.1.getD k []) < lo10 z) = false := dF hge
        have hlo : (0 : Int) < ((p.1.getD k []).length : Int) := by omega
        have hk1 : (k : Int) < (p.1.length : Int) := by omega
        clear huo hge hno
        generalize p.1.getD k [] = y at *
       case' inr =>
        have d1 : decide ((k : Int) < (p.1.length : Int)) = false := dF (by omega)
        have d3 : decide (k < p.1.length) = false := dF (by omega)
       all_goals
        clear hke hu1 hu2 hu3 hu4 HP HAL HST HUU hs HS
        go_wp2_with fail
        go_quiet (fail)
        have HS := aM (HS2.out.drewN nq)
        clear HS2
        go_wp2_with (first
         | ((with_reducible refine gate_builtin (b := .append) (xs := #[.tmp 64, .tmp 67]) rfl ?_); at_builtin; refine sgrow kSps 9 rfl (.tmp 64) (.tmp 67) 78 91 (.slice none 0 0) 24 rfl Tryz.underlying78 info91 rfl (by decide) (by omega) _ _ [] (p.1.take k) rfl rfl HS.out rfl (HS.out.ro 5 rfl) (by have := HPL.out; simp; omega) ?_; clear HS; intro v12 w12 hs; have HS := aM hs; clear hs)
         | ((with_reducible refine gate_dst (N := 71) rfl ?_); refine slit kSps 91 ?hg (N := 71) ?hd (xs := [z]) (inner := [.slice (some adz) z.length c5]) ?hr HS.out ?hp (by simp) ?_; (case hd => rfl); (case hg => rfl); (case hr => first | (go_simp; done) | (go_simp; rfl)); (case hp => exact Reps.one (PK.slice (HS.out.ro 4 rfl)) (Reps.none _ _)); clear HS; intro v13 w13 hs; have HS := aM hs; clear hs)
         | ((with_reducible refine gate_builtin (b := .append) (xs := #[.tmp 69, .tmp 71]) rfl ?_); at_builtin; refine sgrow kSps 9 rfl (.tmp 69) (.tmp 71) 78 91 (.slice none 0 0) 24 rfl Tryz.underlying78 info91 rfl (by decide) (by omega) _ _ ([] ++ p.1.take k) [z] rfl rfl HS.out rfl (HS.out.ro 11 rfl) (by have := HPL.out; simp; omega) ?_; clear HS; intro v14 w14 hs; have HS := aM hs; clear hs)
         | ((with_reducible refine gate_builtin (b := .append) (xs := #[.tmp 73, .tmp 76]) rfl ?_); at_builtin; refine sgrow kSps 9 rfl (.tmp 73) (.tmp 76) 78 91 (.slice none 0 0) 24 rfl Tryz.underlying78 info91 rfl (by decide) (by omega) _ _ ([] ++ p.1.take k ++ [z]) (p.1.drop k) rfl rfl HS.out rfl (HS.out.ro 6 rfl) (by have := HPL.out; simp; omega) ?_; clear HS; intro v15 w15 hs; have HS := aM hs; clear hs)
         | ((with_reducible refine gate_builtin (b := .append) (xs := #[.tmp 79, .tmp 82]) rfl ?_); at_builtin; refine sgrow kInt 10 rfl (.tmp 79) (.tmp 82) 26 3 (.int .i64 0) 8 rfl Tryz.underlying26 info3' rfl (by decide) (by omega) _ _ [] (p.2.take k) rfl rfl HS.out rfl (HS.out.ro 7 rfl) (by have := HPL.out; simp; omega) ?_; clear HS; intro v16 w16 hs; have yg2 := pw_cell_below hs.below HYG.out; have yg3 := pw_cell_below hs.below HYG0.out; have HS := aM hs; clear hs)
         | ((with_reducible refine gate_dst (N := 91) rfl ?_); refine slit kInt 3 ?hg (N := 91) ?hd (xs := [g0]) (inner := [.int .i64 g0]) ?hr HS.out ?hp (by simp) ?_; (case hd => rfl); (case hg => rfl); (case hr => first | (go_simp; done) | (go_simp; rfl)); (case hp => exact Reps.one (PK.scalar _) (Reps.none _ _)); clear HS; intro v17 w17 hs; have HS := aM hs; clear hs)
         | ((with_reducible refine gate_builtin (b := .append) (xs := #[.tmp 84, .tmp 91]) rfl ?_); at_builtin; refine sgrow kInt 10 rfl (.tmp 84) (.tmp 91) 26 3 (.int .i64 0) 8 rfl Tryz.underlying26 info3' rfl (by decide) (by omega) _ _ ([] ++ p.2.take k) [g0] rfl rfl HS.out rfl (HS.out.ro 12 rfl) (by have := HPL.out; simp; omega) ?_; clear HS; intro v18 w18 hs; have HS := aM hs; clear hs)
         | ((with_reducible refine gate_builtin (b := .append) (xs := #[.tmp 93, .tmp 96]) rfl ?_); at_builtin; refine sgrow kInt 10 rfl (.tmp 93) (.tmp 96) 26 3 (.int .i64 0) 8 rfl Tryz.underlying26 info3' rfl (by decide) (by omega) _ _ ([] ++ p.2.take k ++ [g0]) (p.2.drop k) rfl rfl HS.out rfl (HS.out.ro 8 rfl) (by have := HPL.out; simp; omega) ?_; clear HS; intro v19 w19 hs; have HS := aM hs; clear hs))
        have HSE := aM ((((HS.out.sealRo 9 rfl).sealRo 10 rfl).take 11).cut 1 8)
        go_roundg k1
        case measure => omega
        case rel => exact ⟨i + 1, ([] ++ p.1.take k ++ [z] ++ p.1.drop k, [] ++ p.2.take k ++ [g0] ++ p.2.drop k), by go_num, ⟨by have := HJ.out; omega⟩, ⟨by have := HPL.out; simp; omega, by have := HPL.out; simp; omega, HPM.out⟩, ⟨by rw [← HFP.out]; exact HR2.out⟩, HSE⟩
end Go.Proofs.YtplhfgobeicegaaGreatDoor.P
