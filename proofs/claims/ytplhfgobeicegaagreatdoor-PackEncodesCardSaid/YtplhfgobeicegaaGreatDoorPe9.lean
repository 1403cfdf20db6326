/- Part 9 of the proof: V4b, VC, V5, V1, V2. -/
import Derived.Laws.Bits64
import Derived.Test.YtplhfgobeicegaaGreatDoorPe8
namespace Go.Proofs.YtplhfgobeicegaaGreatDoor.P
open Go Go.RowKit Go.Proofs.YtplhfgobeicegaaGreatDoorW.PrintWords Go.Proofs.YtplhfgobeicegaaGreatDoorW.PrintLast Go.Proofs.YtplhfgobeicegaaGreatDoorW.PrintMore Go.Proofs.YtplhfgobeicegaaGreatDoor.PX
attribute [local go_sem] max2_int min2_int max_two min_two
set_option linter.unusedVariables false
set_option linter.unusedSimpArgs false
set_option maxRecDepth 100000
set_option maxHeartbeats 16000000 in
theorem runsI_calls (X : Nat → Prop) (w0 w : World) (L : List PX.Item) (i : Nat) (v vl : Value) (xs l : List Int) (hs : Sep X w0 w L) (hi : L[i]? = some (.row kU8 5 v xs)) (hl : PV kInt X w0 vl l) (hlen : xs.length + 3 * l.length ≤ 1000000000) (hb : ∀ x ∈ l, -1 ≤ x ∧ x < 1000000) :
  Calls Tryz.prog 21 #[v, vl, .func (.func 22) #[] #[]] w fun ee w' => ∃ v1, ee = .returned v1 ∧ Sep X w0 w' (L.set i (.row kU8 5 v1 (xs ++ runsF (fun x => two15 (x + 1)) l.length l))) := by
 have HS := aM hs
 have H1 := aM hl
 have HBD := aM hb
 clear hb
 have m0 := hl.max
 obtain ⟨A0, c0, rfl⟩ := hs.form i hi
 obtain ⟨A1, c1, rfl, _, _⟩ := hl.now
 have hlt : i < L.length := (List.getElem?_eq_some_iff.1 hi).1
 have HI := aM hi
 have HLEN := aM hlen
 have hs2 : Sep X w0 w (L.set i (.row kU8 5 (.slice A0 xs.length c0) xs)) := by
  rw [show L.set i (.row kU8 5 (.slice A0 xs.length c0) xs) = L from by
   obtain ⟨h1, h2⟩ := List.getElem?_eq_some_iff.1 hi
   rw [← h2]; exact List.set_getElem_self h1]
  exact hs
 obtain ⟨r, hr⟩ : ∃ r, r = xs ++ runsF (fun x => two15 (x + 1)) l.length l := ⟨_, rfl⟩
 rw [← hr]
 have HR := aM hr.symm
 clear HS
 have HS := aM hs2
 clear hs hi hl hlen hs2 hr
 go_enter Tryz.func21, Tryz.ntmps21
 go_wp2_with fail
 go_loopg [0, 1, 7] l.length (fun m v0 v1 v7 w' => ∃ (t ys : List Int) (f : Nat), Aside0 (t.length = m) ∧ Aside0 (PV kInt X w0 v1 t) ∧ Aside0 (t.length ≤ f ∧ ys ++ runsF (fun x => two15 (x + 1)) f t = r) ∧ Aside0 (ys.length + 3 * t.length ≤ 1000000000) ∧ Aside0 (∀ x ∈ t, -1 ≤ x ∧ x < 1000000) ∧ Aside0 (Sep X w0 w' (L.set i (.row kU8 5 v0 ys))))
 case atStart => exact ⟨l, xs, l.length, ⟨rfl⟩, H1, ⟨Nat.le_refl _, HR.out⟩, HLEN, HBD, HS⟩
 case round =>
  clear HS H1 HR HLEN
  obtain ⟨t, ys, f, HM, H1, HR, HLEN, HBD, HS⟩ := hrel
  obtain ⟨A2, c2, rfl, _, _⟩ := H1.out.now
  obtain ⟨A3, c3, e3⟩ := HS.out.form i (List.getElem?_set_self hlt)
  subst e3
  have m1 := H1.out.max
  cases gk with
  | zero =>
   have hz : t.length = 0 := HM.out
   have e1 : decide ((t.length : Int) > 0) = false := dF (by omega)
   have e2 : decide (0 < t.length) = false := dF (by omega)
   have hr : ys = r := by have h := HR.out.2; rw [List.length_eq_zero_iff.1 hz, runsF_nil, List.append_nil] at h; exact h
   subst hr
   clear HR HM hz
   go_wp2_with fail
   go_ret
   exact ⟨_, rfl, HS.out⟩
  | succ k1 =>
   have hz : t.length = k1 + 1 := HM.out
   have e1 : decide ((t.length : Int) > 0) = true := dT (by omega)
   have e2 : decide (0 < t.length) = true := dT (by omega)
   obtain ⟨x, hx⟩ : ∃ x, x = t.getD 0 0 := ⟨_, rfl⟩
   obtain ⟨q, hq⟩ : ∃ q, q = lead x 254 (t.drop 1) := ⟨_, rfl⟩
   have hql := lead_le x 254 (t.drop 1)
   rw [← hq, List.length_drop] at hql
   have HQL := aM hql
   have HR2 := aM (show ∃ f', k1 ≤ f' ∧ (ys ++ [((q + 1 : Nat) : Int)] ++ (fun x => two15 (x + 1)) x) ++ runsF (fun x => two15 (x + 1)) f' (t.drop (q + 1)) = r by
    obtain ⟨h1, h2⟩ := HR.out
    cases f with
    | zero => omega
    | succ f' =>
     refine ⟨f', by omega, ?_⟩
     have ht : t = x :: t.drop 1 := by
      rw [hx]
      have := drop_at t 0 0 (by omega)
      simpa using this
     rw [ht, runsF, ← hq, List.drop_drop] at h2
     rw [← h2, show q + 1 = 1 + q by omega]
     simp [Nat.add_comm])
   have HQ := aM (show 0 + lead x (255 - 1) (t.drop 1) = q by rw [hq, Nat.zero_add])
   obtain ⟨ad, cd, ed, ya0⟩ := int_cell H1.out 0 (by omega)
   cases ed
   rw [← hx] at ya0
   change World.cell? _ ad = _ at ya0
   have ht0 : 0 < t.length := by omega
   have ht1 : (0 : Int) < (t.length : Int) := by omega
   have HX := aM hx
   have HXB := aM (show -1 ≤ x ∧ x < 1000000 from by rw [hx]; exact HBD.out _ (mem_getD t 0 0 (by omega)))
   have HYA := aM ya0
   have HZ := aM hz
   clear hx hq hql HR HM ya0 hz
   go_upto_block 2 with fail
   clear e1 e2
   go_cut [7] (fun v7 wc => v7 = .int .i64 ((q + 1 : Nat) : Int) ∧ Aside0 (Sep X w0 wc (L.set i (.row kU8 5 (.slice A3 ys.length c3) ys))))
   case first =>
    go_wp2_with fail
    go_loopg [7] 254 (fun m v7 w' => ∃ (n : Nat), v7 = .int .i64 n ∧ Aside0 (n + m = 255) ∧ Aside0 (1 ≤ n ∧ n ≤ t.length) ∧ Aside0 ((n - 1) + lead x (255 - n) (t.drop n) = q) ∧ Aside0 (Sep X w0 w' (L.set i (.row kU8 5 (.slice A3 ys.length c3) ys))))
    case atStart => exact ⟨1, rfl, ⟨by omega⟩, ⟨by omega⟩, HQ, HS⟩
    case round =>
     clear HS HQ
     obtain ⟨n, rfl, HN, HNL, HQ, HS⟩ := hrel
     have hn := HN.out
     have hnl := HNL.out
     by_cases hcond : n < t.length ∧ n < 255 ∧ t.getD n 0 = x
     case pos =>
      obtain ⟨h1, h2, h3⟩ := hcond
      cases gk with
      | zero => omega
      | succ m1 =>
       have hn0 : (0 : Int) ≤ (n : Int) := by omega
       have hn1 : (n : Int) < (t.length : Int) := by omega
       obtain ⟨ad2, cd2, ed2, yb0⟩ := int_cell H1.out n h1
       cases ed2
       rw [h3] at yb0
       have HYB := aM yb0
       clear yb0
       have d1 : decide ((n : Int) < (if 255 < (t.length : Int) then 255 else (t.length : Int))) = true := by split <;> exact dT (by omega)
       have d3 : (x == x) = true := beq_self_eq_true x
       go_wp2_with fail
       have hs := HS.out.drew
       clear HS; have HS := aM hs; clear hs
       refine start_ (n := 15) (S := fun w' => w'.cell? ad = some (.int .i64 x) ∧ w'.cell? (ad.add n) = some (.int .i64 x)) (ds := []) #[false, false, false, false, false, false, false, false, false, false, false, false, false, false, false] (by kernel_rfl) rfl rfl ⟨(pw_cell_below HS.out.below HYA.out), (pw_cell_below HS.out.below HYB.out)⟩ (fun hHeld => ?_)
       refine pure_ (i := 0) (N := some 11) (v := ?_) (a' := ?_) (bv 15 1) rfl rfl (by kernel_rfl) (fun _ _ _ h => h) (Or.inl ⟨by rfl, ?_⟩) ?_ ?_
       rotate_left
       ·intro w'
        go_simp
        with_reducible rfl
       rotate_left
       ·simp only [Act.put, qA, qB, qC, i64_w, i32_w]
        rfl
       refine pure_ (i := 1) (N := some 12) (v := ?_) (a' := ?_) (bv 15 3) rfl rfl (by kernel_rfl) (fun _ _ _ h => h) (Or.inl ⟨by rfl, ?_⟩) ?_ ?_
       rotate_left
       ·intro w'
        go_simp
        with_reducible rfl
       rotate_left
       ·simp only [Act.put, qA, qB, qC, i64_w, i32_w]
        rfl
       refine pure_ (i := 2) (N := some 13) (v := ?_) (a' := ?_) (bv 15 7) rfl rfl (by kernel_rfl) (fun _ _ _ h => h) (Or.inl ⟨by rfl, ?_⟩) ?_ ?_
       rotate_left
       ·intro w'
        go_simp
        with_reducible rfl
       rotate_left
       ·simp only [Act.put, qA, qB, qC, i64_w, i32_w]
        rfl
       refine pure_ (i := 3) (N := some 14) (v := ?_) (a' := ?_) (bv 15 15) rfl rfl (by kernel_rfl) (fun _ _ _ h => h) (Or.inl ⟨by rfl, ?_⟩) ?_ ?_
       rotate_left
       ·intro w'
        go_simp
        with_reducible rfl
       rotate_left
       ·simp only [Act.put, qA, qB, qC, i64_w, i32_w]
        rfl
       refine pure_ (i := 4) (N := some 15) (v := ?_) (a' := ?_) (bv 15 31) rfl rfl (by kernel_rfl) (fun _ _ _ h => h) (Or.inl ⟨by rfl, ?_⟩) ?_ ?_
       rotate_left
       ·intro w'
        go_simp
        with_reducible rfl
       rotate_left
       ·simp only [Act.put, qA, qB, qC, i64_w, i32_w]
        rfl
       refine pure_ (i := 5) (N := some 16) (v := ?_) (a' := ?_) (bv 15 63) rfl rfl (by kernel_rfl) (fun _ _ _ h => h) (Or.inl ⟨by rfl, ?_⟩) ?_ ?_
       rotate_left
       ·intro w'
        go_simp
        with_reducible rfl
       rotate_left
       ·simp only [Act.put, qA, qB, qC, i64_w, i32_w]
        rfl
       refine pure_ (i := 6) (N := some 17) (v := ?_) (a' := ?_) (bv 15 127) rfl rfl (by kernel_rfl) (fun _ _ _ h => h) (Or.inl ⟨by rfl, ?_⟩) ?_ ?_
       rotate_left
       ·intro w'
        go_simp
        with_reducible rfl
       rotate_left
       ·simp only [Act.put, qA, qB, qC, i64_w, i32_w]
        rfl
       refine pure_ (i := 7) (N := some 18) (v := ?_) (a' := ?_) (bv 15 255) rfl rfl (by kernel_rfl) (fun _ _ _ h => h) (Or.inl ⟨by rfl, ?_⟩) ?_ ?_
       rotate_left
       ·intro w'
        go_simp
        with_reducible rfl
       rotate_left
       ·simp only [Act.put, qA, qB, qC, i64_w, i32_w]
        rfl
       refine pure_ (i := 8) (N := some 19) (v := ?_) (a' := ?_) (bv 15 511) rfl rfl (by kernel_rfl) (fun _ _ _ h => h) (Or.inl ⟨by rfl, ?_⟩) ?_ ?_
       rotate_left
       ·intro w'
        go_simp
        with_reducible rfl
       rotate_left
       ·simp only [Act.put, qA, qB, qC, i64_w, i32_w]
        rfl
       refine pure_ (i := 10) (N := some 21) (v := ?_) (a' := ?_) (bv 15 1535) rfl rfl (by kernel_rfl) (fun _ _ _ h => h) (Or.inl ⟨by rfl, ?_⟩) ?_ ?_
       rotate_left
       ·intro w'
        go_simp
        with_reducible rfl
       rotate_left
       ·simp only [Act.put, qA, qB, qC, i64_w, i32_w]
        rfl
       refine pure_ (i := 11) (N := some 22) (v := ?_) (a' := ?_) (bv 15 3583) rfl rfl (by kernel_rfl) (fun _ _ _ h => h) (Or.inl ⟨by rfl, ?_⟩) ?_ ?_
       rotate_left
       ·intro w'
        go_simp
        with_reducible rfl
       rotate_left
       ·simp only [Act.put, qA, qB, qC, i64_w, i32_w]
        rfl
       refine take_ (i := 9) (N := some 20) (v := ?_) (a' := ?_) (bv 15 4095) rfl rfl (by kernel_rfl) (fun _ _ _ h => h) (Or.inl ⟨by rfl, ?_⟩) hHeld ?_ ?_
       rotate_left
       ·rintro w' ⟨s0, s1⟩
        go_simp
        with_reducible rfl
       rotate_left
       ·simp only [Act.put, qA, qB, qC, i64_w, i32_w]
        rfl
       refine take_ (i := 12) (N := some 23) (v := ?_) (a' := ?_) (bv 15 8191) rfl rfl (by kernel_rfl) (fun _ _ _ h => h) (Or.inl ⟨by rfl, ?_⟩) hHeld ?_ ?_
       rotate_left
       ·rintro w' ⟨s0, s1⟩
        go_simp
        with_reducible rfl
       rotate_left
       ·simp only [Act.put, qA, qB, qC, i64_w, i32_w]
        rfl
       refine pure_ (i := 13) (N := some 24) (v := ?_) (a' := ?_) (bv 15 16383) rfl rfl (by kernel_rfl) (fun _ _ _ h => h) (Or.inl ⟨by rfl, ?_⟩) ?_ ?_
       rotate_left
       ·intro w'
        go_simp
        with_reducible rfl
       rotate_left
       ·simp only [Act.put, qA, qB, qC, i64_w, i32_w]
        rfl
       refine pure_ (i := 14) (N := some 25) (v := ?_) (a' := ?_) (bv 15 32767) rfl rfl (by kernel_rfl) (fun _ _ _ h => h) (Or.inl ⟨by rfl, ?_⟩) ?_ ?_
       rotate_left
       ·intro w'
        go_simp
        with_reducible rfl
       rotate_left
       ·simp only [Act.put, qA, qB, qC, i64_w, i32_w]
        rfl
       refine done_ (by kernel_rfl) ?_
       generalize (if 255 < (t.length : Int) then (255 : Int) else (t.length : Int)) = mn
       go_wp2_with fail
       go_roundg m1
       case measure => omega
       case rel =>
        have h := HQ.out
        rw [show 255 - n = (255 - (n + 1)) + 1 by omega, lead_at x _ t n h1, if_pos h3] at h
        exact ⟨n + 1, by go_num, ⟨by omega⟩, ⟨by omega⟩, ⟨by omega⟩, HS⟩
     case neg =>
      have hqn : n - 1 = q := by
       have h := HQ.out
       rcases Nat.lt_or_ge n 255 with h2 | h2
       ·rcases Nat.lt_or_ge n t.length with h1 | h1
        ·rw [show 255 - n = (254 - n) + 1 by omega, lead_at x _ t n h1, if_neg (fun h3 => hcond ⟨h1, h2, h3⟩)] at h
         exact h
        ·rw [List.drop_eq_nil_of_le h1, lead_nil] at h; exact h
       ·rw [show 255 - n = 0 by omega, lead_0] at h; exact h
      have HQN := aM (show n = q + 1 by omega)
      clear HQ hqn
      rcases Decidable.em (n < 255 ∧ n < t.length) with hb | hb
      case inl =>
       obtain ⟨h2, h1⟩ := hb
       have h3 : ¬ t.getD n 0 = x := fun h3 => hcond ⟨h1, h2, h3⟩
       clear hcond
       have hn0 : (0 : Int) ≤ (n : Int) := by omega
       have hn1 : (n : Int) < (t.length : Int) := by omega
       obtain ⟨ad2, cd2, ed2, yb0⟩ := int_cell H1.out n h1
       cases ed2
       generalize t.getD n 0 = y at *
       have d1 : decide ((n : Int) < (if 255 < (t.length : Int) then 255 else (t.length : Int))) = true := by split <;> exact dT (by omega)
       have d3 : (y == x) = false := bF h3
       have HYB := aM yb0
       clear yb0 h3
       go_wp2_with fail
       have hs := HS.out.drew
       clear HS; have HS := aM hs; clear hs
       refine start_ (n := 15) (S := fun w' => w'.cell? ad = some (.int .i64 x) ∧ w'.cell? (ad.add n) = some (.int .i64 y)) (ds := []) #[false, false, false, false, false, false, false, false, false, false, false, false, false, false, false] (by kernel_rfl) rfl rfl ⟨(pw_cell_below HS.out.below HYA.out), (pw_cell_below HS.out.below HYB.out)⟩ (fun hHeld => ?_)
       refine pure_ (i := 0) (N := some 11) (v := ?_) (a' := ?_) (bv 15 1) rfl rfl (by kernel_rfl) (fun _ _ _ h => h) (Or.inl ⟨by rfl, ?_⟩) ?_ ?_
       rotate_left
       ·intro w'
        go_simp
        with_reducible rfl
       rotate_left
       ·simp only [Act.put, qA, qB, qC, i64_w, i32_w]
        rfl
       refine pure_ (i := 1) (N := some 12) (v := ?_) (a' := ?_) (bv 15 3) rfl rfl (by kernel_rfl) (fun _ _ _ h => h) (Or.inl ⟨by rfl, ?_⟩) ?_ ?_
       rotate_left
       ·intro w'
        go_simp
        with_reducible rfl
       rotate_left
       ·simp only [Act.put, qA, qB, qC, i64_w, i32_w]
        rfl
       refine pure_ (i := 2) (N := some 13) (v := ?_) (a' := ?_) (bv 15 7) rfl rfl (by kernel_rfl) (fun _ _ _ h => h) (Or.inl ⟨by rfl, ?_⟩) ?_ ?_
       rotate_left
       ·intro w'
        go_simp
        with_reducible rfl
       rotate_left
       ·simp only [Act.put, qA, qB, qC, i64_w, i32_w]
        rfl
       refine pure_ (i := 3) (N := some 14) (v := ?_) (a' := ?_) (bv 15 15) rfl rfl (by kernel_rfl) (fun _ _ _ h => h) (Or.inl ⟨by rfl, ?_⟩) ?_ ?_
       rotate_left
       ·intro w'
        go_simp
        with_reducible rfl
       rotate_left
       ·simp only [Act.put, qA, qB, qC, i64_w, i32_w]
        rfl
       refine pure_ (i := 4) (N := some 15) (v := ?_) (a' := ?_) (bv 15 31) rfl rfl (by kernel_rfl) (fun _ _ _ h => h) (Or.inl ⟨by rfl, ?_⟩) ?_ ?_
       rotate_left
       ·intro w'
        go_simp
        with_reducible rfl
       rotate_left
       ·simp only [Act.put, qA, qB, qC, i64_w, i32_w]
        rfl
       refine pure_ (i := 5) (N := some 16) (v := ?_) (a' := ?_) (bv 15 63) rfl rfl (by kernel_rfl) (fun _ _ _ h => h) (Or.inl ⟨by rfl, ?_⟩) ?_ ?_
       rotate_left
       ·intro w'
        go_simp
        with_reducible rfl
       rotate_left
       ·simp only [Act.put, qA, qB, qC, i64_w, i32_w]
        rfl
       refine pure_ (i := 6) (N := some 17) (v := ?_) (a' := ?_) (bv 15 127) rfl rfl (by kernel_rfl) (fun _ _ _ h => h) (Or.inl ⟨by rfl, ?_⟩) ?_ ?_
       rotate_left
       ·intro w'
        go_simp
        with_reducible rfl
       rotate_left
       ·simp only [Act.put, qA, qB, qC, i64_w, i32_w]
        rfl
       refine pure_ (i := 7) (N := some 18) (v := ?_) (a' := ?_) (bv 15 255) rfl rfl (by kernel_rfl) (fun _ _ _ h => h) (Or.inl ⟨by rfl, ?_⟩) ?_ ?_
       rotate_left
       ·intro w'
        go_simp
        with_reducible rfl
       rotate_left
       ·simp only [Act.put, qA, qB, qC, i64_w, i32_w]
        rfl
       refine pure_ (i := 8) (N := some 19) (v := ?_) (a' := ?_) (bv 15 511) rfl rfl (by kernel_rfl) (fun _ _ _ h => h) (Or.inl ⟨by rfl, ?_⟩) ?_ ?_
       rotate_left
       ·intro w'
        go_simp
        with_reducible rfl
       rotate_left
       ·simp only [Act.put, qA, qB, qC, i64_w, i32_w]
        rfl
       refine pure_ (i := 10) (N := some 21) (v := ?_) (a' := ?_) (bv 15 1535) rfl rfl (by kernel_rfl) (fun _ _ _ h => h) (Or.inl ⟨by rfl, ?_⟩) ?_ ?_
       rotate_left
       ·intro w'
        go_simp
        with_reducible rfl
       rotate_left
       ·simp only [Act.put, qA, qB, qC, i64_w, i32_w]
        rfl
       refine pure_ (i := 11) (N := some 22) (v := ?_) (a' := ?_) (bv 15 3583) rfl rfl (by kernel_rfl) (fun _ _ _ h => h) (Or.inl ⟨by rfl, ?_⟩) ?_ ?_
       rotate_left
       ·intro w'
        go_simp
        with_reducible rfl
       rotate_left
       ·simp only [Act.put, qA, qB, qC, i64_w, i32_w]
        rfl
       refine take_ (i := 9) (N := some 20) (v := ?_) (a' := ?_) (bv 15 4095) rfl rfl (by kernel_rfl) (fun _ _ _ h => h) (Or.inl ⟨by rfl, ?_⟩) hHeld ?_ ?_
       rotate_left
       ·rintro w' ⟨s0, s1⟩
        go_simp
        with_reducible rfl
       rotate_left
       ·simp only [Act.put, qA, qB, qC, i64_w, i32_w]
        rfl
       refine take_ (i := 12) (N := some 23) (v := ?_) (a' := ?_) (bv 15 8191) rfl rfl (by kernel_rfl) (fun _ _ _ h => h) (Or.inl ⟨by rfl, ?_⟩) hHeld ?_ ?_
       rotate_left
       ·rintro w' ⟨s0, s1⟩
        go_simp
        with_reducible rfl
       rotate_left
       ·simp only [Act.put, qA, qB, qC, i64_w, i32_w]
        rfl
       refine pure_ (i := 13) (N := some 24) (v := ?_) (a' := ?_) (bv 15 16383) rfl rfl (by kernel_rfl) (fun _ _ _ h => h) (Or.inl ⟨by rfl, ?_⟩) ?_ ?_
       rotate_left
       ·intro w'
        go_simp
        with_reducible rfl
       rotate_left
       ·simp only [Act.put, qA, qB, qC, i64_w, i32_w]
        rfl
       refine pure_ (i := 14) (N := some 25) (v := ?_) (a' := ?_) (bv 15 32767) rfl rfl (by kernel_rfl) (fun _ _ _ h => h) (Or.inl ⟨by rfl, ?_⟩) ?_ ?_
       rotate_left
       ·intro w'
        go_simp
        with_reducible rfl
       rotate_left
       ·simp only [Act.put, qA, qB, qC, i64_w, i32_w]
        rfl
       refine done_ (by kernel_rfl) ?_
       generalize (if 255 < (t.length : Int) then (255 : Int) else (t.length : Int)) = mn
       go_wp2_with fail
       go_meet
       case rel => exact ⟨by rw [HQN.out], HS⟩
      case inr =>
       have d1 : decide ((n : Int) < (if 255 < (t.length : Int) then 255 else (t.length : Int))) = false := by split <;> exact dF (by omega)
       clear hcond hb
       go_wp2_with fail
       have hs := HS.out.drew
       clear HS; have HS := aM hs; clear hs
       refine start_ (n := 15) (S := fun w' => True) (ds := []) #[false, false, false, false, false, false, false, false, false, false, false, false, false, false, false] (by kernel_rfl) rfl rfl trivial (fun hHeld => ?_)
       refine pure_ (i := 0) (N := some 11) (v := ?_) (a' := ?_) (bv 15 1) rfl rfl (by kernel_rfl) (fun _ _ _ h => h) (Or.inl ⟨by rfl, ?_⟩) ?_ ?_
       rotate_left
       ·intro w'
        go_simp
        with_reducible rfl
       rotate_left
       ·simp only [Act.put, qA, qB, qC, i64_w, i32_w]
        rfl
       refine pure_ (i := 1) (N := some 12) (v := ?_) (a' := ?_) (bv 15 3) rfl rfl (by kernel_rfl) (fun _ _ _ h => h) (Or.inl ⟨by rfl, ?_⟩) ?_ ?_
       rotate_left
       ·intro w'
        go_simp
        with_reducible rfl
       rotate_left
       ·simp only [Act.put, qA, qB, qC, i64_w, i32_w]
        rfl
       refine pure_ (i := 2) (N := some 13) (v := ?_) (a' := ?_) (bv 15 7) rfl rfl (by kernel_rfl) (fun _ _ _ h => h) (Or.inl ⟨by rfl, ?_⟩) ?_ ?_
       rotate_left
       ·intro w'
        go_simp
        with_reducible rfl
       rotate_left
       ·simp only [Act.put, qA, qB, qC, i64_w, i32_w]
        rfl
       refine pure_ (i := 3) (N := some 14) (v := ?_) (a' := ?_) (bv 15 15) rfl rfl (by kernel_rfl) (fun _ _ _ h => h) (Or.inl ⟨by rfl, ?_⟩) ?_ ?_
       rotate_left
       ·intro w'
        go_simp
        with_reducible rfl
       rotate_left
       ·simp only [Act.put, qA, qB, qC, i64_w, i32_w]
        rfl
       refine pure_ (i := 4) (N := some 15) (v := ?_) (a' := ?_) (bv 15 31) rfl rfl (by kernel_rfl) (fun _ _ _ h => h) (Or.inl ⟨by rfl, ?_⟩) ?_ ?_
       rotate_left
       ·intro w'
        go_simp
        with_reducible rfl
       rotate_left
       ·simp only [Act.put, qA, qB, qC, i64_w, i32_w]
        rfl
       refine pure_ (i := 5) (N := some 16) (v := ?_) (a' := ?_) (bv 15 63) rfl rfl (by kernel_rfl) (fun _ _ _ h => h) (Or.inl ⟨by rfl, ?_⟩) ?_ ?_
       rotate_left
       ·intro w'
        go_simp
        with_reducible rfl
       rotate_left
       ·simp only [Act.put, qA, qB, qC, i64_w, i32_w]
        rfl
       refine pure_ (i := 6) (N := some 17) (v := undef) (a' := ?_) (bv 15 127) rfl rfl (by kernel_rfl) (fun _ _ _ h => h) (Or.inr ⟨by rfl, rfl⟩) ?_ ?_
       rotate_left
       ·simp only [Act.put, qA, qB, qC, i64_w, i32_w]
        rfl
       refine pure_ (i := 7) (N := some 18) (v := undef) (a' := ?_) (bv 15 255) rfl rfl (by kernel_rfl) (fun _ _ _ h => h) (Or.inr ⟨by rfl, rfl⟩) ?_ ?_
       rotate_left
       ·simp only [Act.put, qA, qB, qC, i64_w, i32_w]
        rfl
       refine pure_ (i := 8) (N := some 19) (v := undef) (a' := ?_) (bv 15 511) rfl rfl (by kernel_rfl) (fun _ _ _ h => h) (Or.inr ⟨by rfl, rfl⟩) ?_ ?_
       rotate_left
       ·simp only [Act.put, qA, qB, qC, i64_w, i32_w]
        rfl
       refine pure_ (i := 9) (N := some 20) (v := undef) (a' := ?_) (bv 15 1023) rfl rfl (by kernel_rfl) (fun _ _ _ h => h) (Or.inr ⟨by rfl, rfl⟩) ?_ ?_
       rotate_left
       ·simp only [Act.put, qA, qB, qC, i64_w, i32_w]
        rfl
       refine pure_ (i := 10) (N := some 21) (v := undef) (a' := ?_) (bv 15 2047) rfl rfl (by kernel_rfl) (fun _ _ _ h => h) (Or.inr ⟨by rfl, rfl⟩) ?_ ?_
       rotate_left
       ·simp only [Act.put, qA, qB, qC, i64_w, i32_w]
        rfl
       refine pure_ (i := 11) (N := some 22) (v := undef) (a' := ?_) (bv 15 4095) rfl rfl (by kernel_rfl) (fun _ _ _ h => h) (Or.inr ⟨by rfl, rfl⟩) ?_ ?_
       rotate_left
       ·simp only [Act.put, qA, qB, qC, i64_w, i32_w]
        rfl
       refine pure_ (i := 12) (N := some 23) (v := undef) (a' := ?_) (bv 15 8191) rfl rfl (by kernel_rfl) (fun _ _ _ h => h) (Or.inr ⟨by rfl, rfl⟩) ?_ ?_
       rotate_left
       ·simp only [Act.put, qA, qB, qC, i64_w, i32_w]
        rfl
       refine pure_ (i := 13) (N := some 24) (v := undef) (a' := ?_) (bv 15 16383) rfl rfl (by kernel_rfl) (fun _ _ _ h => h) (Or.inr ⟨by rfl, rfl⟩) ?_ ?_
       rotate_left
       ·simp only [Act.put, qA, qB, qC, i64_w, i32_w]
        rfl
       refine pure_ (i := 14) (N := some 25) (v := ?_) (a' := ?_) (bv 15 32767) rfl rfl (by kernel_rfl) (fun _ _ _ h => h) (Or.inl ⟨by rfl, ?_⟩) ?_ ?_
       rotate_left
       ·intro w'
        go_simp
        with_reducible rfl
       rotate_left
       ·simp only [Act.put, qA, qB, qC, i64_w, i32_w]
        rfl
       refine done_ (by kernel_rfl) ?_
       generalize (if 255 < (t.length : Int) then (255 : Int) else (t.length : Int)) = mn
       go_wp2_with fail
       go_meet
       case rel => exact ⟨by rw [HQN.out], HS⟩
   case rest =>
    clear HS HQ
    obtain ⟨rfl, HS⟩ := hcut
    have hq8 : IntKind.u8.wrap ((q + 1 : Nat) : Int) = ((q + 1 : Nat) : Int) := by have := HQL.out; rw [IntKind.wrap_u8']; omega
    have hg : (L.set i (.row kU8 5 (.slice A3 ys.length c3) ys))[i]? = some (.row kU8 5 (.slice A3 ys.length c3) ys) := List.getElem?_set_self hlt
    have hlt2 : i < (L.set i (.row kU8 5 (.slice A3 ys.length c3) ys)).length := by rw [List.length_set]; exact hlt
    obtain ⟨nq, hnq⟩ : ∃ k : Nat, k = q + 1 := ⟨_, rfl⟩
    rw [← hnq] at hq8 HR2 ⊢
    have HNQ := aM hnq
    clear hnq
    go_upto_region 5 with fail
    have hs := HS.out.drew
    clear HS; have HS := aM hs; clear hs
    refine start_ (n := 11) (S := fun w' => w'.cell? ad = some (.int .i64 x)) (ds := []) #[false, false, false, false, false, false, false, false, false, false, false] (by kernel_rfl) rfl rfl ((pw_cell_below HS.out.below HYA.out)) (fun hHeld => ?_)
    refine pure_ (i := 0) (N := some 28) (v := ?_) (a' := ?_) (bv 11 1) rfl rfl (by kernel_rfl) (fun _ _ _ h => h) (Or.inl ⟨by rfl, ?_⟩) ?_ ?_
    rotate_left
    ·intro w'
     go_simp
     with_reducible rfl
    rotate_left
    ·simp only [Act.put, qA, qB, qC, i64_w, i32_w]
     rfl
    refine pure_ (i := 1) (N := some 29) (v := ?_) (a' := ?_) (bv 11 3) rfl rfl (by kernel_rfl) (fun _ _ _ h => h) (Or.inl ⟨by rfl, ?_⟩) ?_ ?_
    rotate_left
    ·intro w'
     go_simp
     with_reducible rfl
    rotate_left
    ·simp only [Act.put, qA, qB, qC, i64_w, i32_w]
     rfl
    refine pure_ (i := 2) (N := some 30) (v := ?_) (a' := ?_) (bv 11 7) rfl rfl (by kernel_rfl) (fun _ _ _ h => h) (Or.inl ⟨by rfl, ?_⟩) ?_ ?_
    rotate_left
    ·intro w'
     go_simp
     with_reducible rfl
    rotate_left
    ·simp only [Act.put, qA, qB, qC, i64_w, i32_w]
     rfl
    refine pure_ (i := 3) (N := some 31) (v := ?_) (a' := ?_) (bv 11 15) rfl rfl (by kernel_rfl) (fun _ _ _ h => h) (Or.inl ⟨by rfl, ?_⟩) ?_ ?_
    rotate_left
    ·intro w'
     go_simp
     with_reducible rfl
    rotate_left
    ·simp only [Act.put, qA, qB, qC, i64_w, i32_w]
     rfl
    refine pure_ (i := 6) (N := some 34) (v := ?_) (a' := ?_) (bv 11 79) rfl rfl (by kernel_rfl) (fun _ _ _ h => h) (Or.inl ⟨by rfl, ?_⟩) ?_ ?_
    rotate_left
    ·intro w'
     go_simp
     with_reducible rfl
    rotate_left
    ·simp only [Act.put, qA, qB, qC, i64_w, i32_w]
     rfl
    refine pure_ (i := 7) (N := some 35) (v := ?_) (a' := ?_) (bv 11 207) rfl rfl (by kernel_rfl) (fun _ _ _ h => h) (Or.inl ⟨by rfl, ?_⟩) ?_ ?_
    rotate_left
    ·intro w'
     go_simp
     with_reducible rfl
    rotate_left
    ·simp only [Act.put, qA, qB, qC, i64_w, i32_w]
     rfl
    refine take_ (i := 8) (N := some 36) (v := ?_) (a' := ?_) (bv 11 463) rfl rfl (by kernel_rfl) (fun _ _ _ h => h) (Or.inl ⟨by rfl, ?_⟩) hHeld ?_ ?_
    rotate_left
    ·intro w' s0
     go_simp
     with_reducible rfl
    rotate_left
    ·simp only [Act.put, qA, qB, qC, i64_w, i32_w]
     rfl
    refine one_ (i := 4) (N := some 32) (bv 11 479) rfl rfl (by kernel_rfl) (by decide) (fun K hK => ?_)
    refine value_ (w1 := ?_) (v := ?_) (by rfl) rfl ?_ ?_
    rotate_left 2
    ·go_simp
     constructor
     ·rfl
     ·rfl
    have hs := HS.out.lit_ro kU8 5 (xs := [(nq : Int)]) (inner := [.int .u8 (nq : Int)]) (Reps.one (PK.scalar _) (Reps.none _ _)) (by simp)
    clear HS; have HS := aM hs; clear hs
    refine hK.out _ _ ((pw_cell_below HS.out.below HYA.out)) (fun hHeld => ?_)
    clear hK K
    refine norm_ (a' := ?_) ?_ ?_
    rotate_left
    ·show Act.put _ (some 32) _ = _
     simp only [Act.put, qA, qB, qC, i64_w, i32_w]
     rfl
    refine one_ (i := 5) (N := some 33) (bv 11 511) rfl rfl (by kernel_rfl) (by decide) (fun K hK => ?_)
    refine sgrow_step kU8 i (by rfl) rfl (.tmp 29) (.tmp 32) 24 5 (.int .u8 0) 1 rfl Tryz.underlying24 info5 rfl (by decide) (by omega) _ _ ys [(nq : Int)] rfl rfl HS.out (by rw [List.getElem?_append_left hlt2]; exact hg) (HS.out.ro _ List.getElem?_concat_length) (by have := HLEN.out; rw [lS]; omega) ?_
    intro v1 w1 hs
    rw [List.set_append, if_pos hlt2, List.set_set] at hs
    have hs := hs.sub (List.sublist_append_left _ _)
    clear HS; have HS := aM hs; clear hs
    refine hK.out _ _ ((pw_cell_below HS.out.below HYA.out)) (fun hHeld => ?_)
    clear hK K
    refine norm_ (a' := ?_) ?_ ?_
    rotate_left
    ·show Act.put _ (some 33) _ = _
     simp only [Act.put, qA, qB, qC, i64_w, i32_w]
     rfl
    refine one_ (i := 9) (N := some 37) (bv 11 1023) rfl rfl (by kernel_rfl) (by decide) (fun K hK => ?_)
    refine goesf_ Tryz.func22 (by kernel_rfl) rfl #[v1, .int .i64 x] (by rfl) rfl rfl (by rfl) (by simp only [List.map_toArray, List.map_cons, List.map_nil]; rfl) ?_
    with_reducible refine (lay2_calls X w0 _ (L.set i (.row kU8 5 v1 (ys ++ [(nq : Int)]))) i v1 (ys ++ [(nq : Int)]) x HS.out (List.getElem?_set_self hlt) HXB.out (by have := HLEN.out; rw [lA, lS]; omega)).mono ?_
    rintro e w9 ⟨v9, rfl, hs⟩
    refine ⟨_, rfl, ?_⟩
    rw [List.set_set] at hs
    clear HS; have HS := aM hs; clear hs
    refine hK.out _ _ ((pw_cell_below HS.out.below HYA.out)) (fun hHeld => ?_)
    clear hK K
    refine norm_ (a' := ?_) ?_ ?_
    rotate_left
    ·show Act.put _ (some 37) _ = _
     simp only [Act.put, qA, qB, qC, i64_w, i32_w]
     rfl
    refine pure_ (i := 10) (N := some 0) (v := ?_) (a' := ?_) (bv 11 2047) rfl rfl (by kernel_rfl) (fun _ _ _ h => h) (Or.inl ⟨by rfl, ?_⟩) ?_ ?_
    rotate_left
    ·intro w'
     go_simp
     with_reducible rfl
    rotate_left
    ·simp only [Act.put, qA, qB, qC, i64_w, i32_w]
     rfl
    refine done_ (by kernel_rfl) ?_
    obtain ⟨j0, hj0, _, hjz0, _⟩ := info_parts info3'
    obtain ⟨u9, hu9, hrun9⟩ := H1.out.from_ (P := Tryz.prog) 26 3 Tryz.underlying26 hj0 hjz0 nq (by have := HQL.out; have := HNQ.out; omega)
    clear hj0 hjz0
    have HU9 := aM hu9
    clear hu9
    go_wp2_with fail
    go_roundg (t.drop nq).length
    case measure => rw [List.length_drop]; have := HQL.out; have := HNQ.out; have := HZ.out; omega
    case rel =>
     obtain ⟨f', hf1, hf2⟩ := HR2.out
     refine ⟨t.drop nq, ys ++ [(nq : Int)] ++ (fun x => two15 (x + 1)) x, f', ⟨rfl⟩, HU9, ⟨by rw [List.length_drop]; have := HZ.out; have := HNQ.out; omega, hf2⟩, ⟨?_⟩, ⟨fun y hy => HBD.out y (List.mem_of_mem_drop hy)⟩, HS⟩
     have h1 := HLEN.out
     have h2 := HNQ.out
     have h3 := HQL.out
     simp only [lA, List.length_drop, lS, two15, List.length_cons, List.length_nil]
     omega
end Go.Proofs.YtplhfgobeicegaaGreatDoor.P
namespace Go.Proofs.YtplhfgobeicegaaGreatDoor.P
open Go Go.RowKit Go.Proofs.YtplhfgobeicegaaGreatDoorW.PrintWords Go.Proofs.YtplhfgobeicegaaGreatDoorW.PrintLast Go.Proofs.YtplhfgobeicegaaGreatDoorW.PrintMore Go.Proofs.YtplhfgobeicegaaGreatDoor.PX
set_option linter.unusedVariables false
set_option linter.unusedSimpArgs false
set_option maxRecDepth 100000
set_option maxHeartbeats 4000000 in
theorem two15_calls (X : Nat → Prop) (w0 w : World) (L : List PX.Item) (i : Nat) (v : Value) (xs : List Int) (n : Int) (hs : Sep X w0 w L) (hi : L[i]? = some (.row kU8 5 v xs)) (hn : 0 ≤ n ∧ n < 1000000000000) (hl : xs.length ≤ 1000000000) :
  Calls Tryz.prog 25 #[v, .int .i64 n] w fun ee w' => ∃ v1, ee = .returned v1 ∧ Sep X w0 w' (L.set i (.row kU8 5 v1 (xs ++ two15 n))) := by
 have HS := aM hs
 obtain ⟨A0, c0, rfl⟩ := hs.form i hi
 have HI := aM hi
 have hlt : i < L.length := (List.getElem?_eq_some_iff.1 hi).1
 obtain ⟨hn0, hn1⟩ := hn
 have hq1 : n.tdiv 256 = n / 256 := Int.tdiv_eq_ediv_of_nonneg hn0
 have hq2 : n.tmod 256 = n % 256 := Int.tmod_eq_emod_of_nonneg hn0
 clear hs hi
 go_enter Tryz.func25, Tryz.ntmps25
 go_wp2_with (first
  | ((with_reducible refine gate_dst (N := 12) rfl ?_); refine slit kU8 5 ?hg (N := 12) ?hd (xs := [n / 256 % 256, n % 256]) (inner := [.int .u8 (n / 256 % 256), .int .u8 (n % 256)]) ?hr HS.out ?hp (by simp) ?_; (case hd => rfl); (case hg => rfl); (case hr => first | (go_simp; done) | (go_simp; rfl)); (case hp => exact Reps.one (PK.scalar _) (Reps.one (PK.scalar _) (Reps.none _ _))); clear HS; intro v30 w30 hs; have HS := aM hs; clear hs)
  | ((with_reducible refine gate_builtin (b := .append) (xs := #[.tmp 5, .tmp 12]) rfl ?_); at_builtin; refine sgrow kU8 i rfl (.tmp 5) (.tmp 12) 24 5 (.int .u8 0) 1 rfl Tryz.underlying24 info5 rfl (by decide) (by omega) _ _ xs [n / 256 % 256, n % 256] rfl rfl HS.out (by rw [List.getElem?_append_left hlt]; exact HI.out) (HS.out.ro L.length List.getElem?_concat_length) (by rw [List.length_cons, lS]; omega) ?_; intro v1 w1 hs; rw [List.set_append, if_pos hlt] at hs; have hs2 := hs.sub (List.sublist_append_left _ _); clear HS; have HS := aM hs2; clear hs hs2))
 go_ret
 exact ⟨_, rfl, HS.out⟩
def lay15 (size : Nat) (x : Int) : List Int := if size = 2 then two15 x else [x]
def LayOk (size : Nat) (l : List Int) : Prop := ∀ x ∈ l, 0 ≤ x ∧ x < 1000000 ∧ (size ≠ 2 → x < 256)
set_option maxHeartbeats 16000000 in
theorem rruns_calls (X : Nat → Prop) (w0 w : World) (L : List PX.Item) (i j : Nat) (v vl : Value) (xs l : List Int) (size : Nat) (hs : Sep X w0 w L) (hij : i ≠ j) (hi : L[i]? = some (.row kU8 5 v xs)) (hj : L[j]? = some (.row kInt 3 vl l)) (hlen : xs.length + 3 * l.length ≤ 1000000000) (hx : LayOk size l) (hz : size ≤ 2) (sz : Int) (hsz : sz = (size : Int)) :
  Calls Tryz.prog 26 #[v, vl, .int .i64 sz] w fun ee w' => ∃ v1, ee = .returned v1 ∧ Sep X w0 w' (L.set i (.row kU8 5 v1 (xs ++ runsF (lay15 size) l.length l))) := by
 subst hsz
 have HS := aM hs
 have m0 := (hs.res_row j hj).max
 obtain ⟨A0, c0, rfl⟩ := hs.form i hi
 obtain ⟨A1, c1, rfl⟩ := hs.form j hj
 have hlt : i < L.length := (List.getElem?_eq_some_iff.1 hi).1
 have HJ := aM (fun (b : PX.Item) => (show (L.set i b)[j]? = some (.row kInt 3 (.slice A1 l.length c1) l) by rw [List.getElem?_set_ne hij]; exact hj))
 have HLEN := aM hlen
 have HX := aM hx
 have HZ := aM hz
 have hs2 : Sep X w0 w (L.set i (.row kU8 5 (.slice A0 xs.length c0) xs)) := by
  rw [show L.set i (.row kU8 5 (.slice A0 xs.length c0) xs) = L from by
   obtain ⟨h1, h2⟩ := List.getElem?_eq_some_iff.1 hi
   rw [← h2]; exact List.set_getElem_self h1]
  exact hs
 obtain ⟨r, hr⟩ : ∃ r, r = xs ++ runsF (lay15 size) l.length l := ⟨_, rfl⟩
 rw [← hr]
 have HR := aM (show xs ++ runsF (lay15 size) l.length (l.drop 0) = r from hr.symm)
 clear HS
 have HS := aM hs2
 clear hs hi hj hlen hs2 hr hx hz
 go_enter Tryz.func26, Tryz.ntmps26
 go_wp2_with fail
 go_loopg [7, 8, 9] l.length (fun m v7 v8 v9 w' => ∃ (p : Nat) (ys : List Int) (f : Nat), v8 = .int .i64 p ∧ Aside0 (p + m = l.length) ∧ Aside0 (m ≤ f ∧ ys ++ runsF (lay15 size) f (l.drop p) = r) ∧ Aside0 (ys.length + 3 * m ≤ 1000000000) ∧ Aside0 (Sep X w0 w' (L.set i (.row kU8 5 v7 ys))))
 case atStart => exact ⟨0, xs, l.length, rfl, ⟨by omega⟩, ⟨Nat.le_refl _, HR.out⟩, HLEN, HS⟩
 case round =>
  clear HS HR HLEN
  obtain ⟨p, ys, f, rfl, HM, HR, HLEN, HS⟩ := hrel
  obtain ⟨A3, c3, e3⟩ := HS.out.form i (List.getElem?_set_self hlt)
  subst e3
  cases gk with
  | zero =>
   have hpl : p = l.length := by have := HM.out; omega
   have e1 : decide ((p : Int) < (l.length : Int)) = false := dF (by omega)
   have e2 : decide (p < l.length) = false := dF (by omega)
   have hr : ys = r := by have h := HR.out.2; rw [hpl, List.drop_length, runsF_nil, List.append_nil] at h; exact h
   subst hr
   clear HR HM hpl
   go_wp2_with fail
   go_ret
   exact ⟨_, rfl, HS.out⟩
  | succ k1 =>
   have hp : p < l.length := by have := HM.out; omega
   have e1 : decide ((p : Int) < (l.length : Int)) = true := dT (by omega)
   have e2 : decide (p < l.length) = true := dT hp
   obtain ⟨x, hx⟩ : ∃ x, x = l.getD p 0 := ⟨_, rfl⟩
   obtain ⟨q, hq⟩ : ∃ q, q = lead x 254 (l.drop (p + 1)) := ⟨_, rfl⟩
   have hql := lead_le x 254 (l.drop (p + 1))
   rw [← hq, List.length_drop] at hql
   have HQL := aM hql
   have HR2 := aM (show ∃ f', k1 ≤ f' ∧ (ys ++ [((q + 1 : Nat) : Int)] ++ lay15 size x) ++ runsF (lay15 size) f' (l.drop (p + (q + 1))) = r by
    obtain ⟨h1, h2⟩ := HR.out
    cases f with
    | zero => omega
    | succ f' =>
     refine ⟨f', by omega, ?_⟩
     rw [drop_at l 0 p hp, ← hx, runsF, ← hq, List.drop_drop] at h2
     rw [← h2, show p + (q + 1) = p + 1 + q by omega]
     simp [Nat.add_comm])
   have HQ := aM (show 0 + lead x (255 - 1) (l.drop (p + 1)) = q by rw [hq, Nat.zero_add])
   have hxb := HX.out _ (mem_getD l 0 p hp)
   rw [← hx] at hxb
   have HXB := aM hxb
   have HXE := aM hx.symm
   have hp0 : (0 : Int) ≤ (p : Int) := by omega
   have hp1 : (p : Int) < (l.length : Int) := by omega
   clear hx hq hql HR hxb
   go_upto_block 2 with fail
   clear e1 e2
   go_cut [9] (fun v9 wc => v9 = .int .i64 ((q + 1 : Nat) : Int) ∧ Aside0 (Sep X w0 wc (L.set i (.row kU8 5 (.slice A3 ys.length c3) ys))))
   case first =>
    go_wp2_with fail
    go_loopg [9] 254 (fun m v9 w' => ∃ (n : Nat), v9 = .int .i64 n ∧ Aside0 (n + m = 255) ∧ Aside0 (1 ≤ n ∧ p + n ≤ l.length) ∧ Aside0 ((n - 1) + lead x (255 - n) (l.drop (p + n)) = q) ∧ Aside0 (Sep X w0 w' (L.set i (.row kU8 5 (.slice A3 ys.length c3) ys))))
    case atStart => exact ⟨1, rfl, ⟨by omega⟩, ⟨by omega⟩, HQ, HS⟩
    case round =>
     clear HS HQ
     obtain ⟨n, rfl, HN, HNL, HQ, HS⟩ := hrel
     have hn := HN.out
     have hnl := HNL.out
     obtain ⟨pn, hpn⟩ : ∃ k, k = p + n := ⟨_, rfl⟩
     have hadd : (p : Int) + (n : Int) = (pn : Int) := by omega
     have HPN := aM hpn
     clear hpn
     rcases Nat.lt_or_ge pn l.length with h1 | h1
     case inr =>
      have hqn : n - 1 = q := by have h := HQ.out; rw [← HPN.out, List.drop_eq_nil_of_le h1, lead_nil] at h; exact h
      have HQN := aM (show n = q + 1 by omega)
      clear HQ hqn
      have d1 : decide ((pn : Int) < (l.length : Int)) = false := dF (by omega)
      have d2 : decide (pn < l.length) = false := dF (by omega)
      go_wp2_with fail
      go_quiet (fail)
      have HS2 := aM (HS.out.drewN nq)
      go_wp2_with fail
      go_meet
      case rel => exact ⟨by rw [HQN.out], HS2⟩
     case inl =>
      have d1 : decide ((pn : Int) < (l.length : Int)) = true := dT (by omega)
      have d2 : decide (pn < l.length) = true := dT h1
      have hn0 : (0 : Int) ≤ (pn : Int) := by omega
      have hn1 : (pn : Int) < (l.length : Int) := by omega
      obtain ⟨ad, cd, ed, ya⟩ := int_cell (HS.out.res_row j (HJ.out _)) p hp
      cases ed
      obtain ⟨ad2, cd2, ed2, yb⟩ := int_cell (HS.out.res_row j (HJ.out _)) pn h1
      cases ed2
      rw [HXE.out] at ya
      by_cases h3 : l.getD pn 0 = x
      case pos =>
       rw [h3] at yb
       have d3 : (x == x) = true := beq_self_eq_true x
       rcases Nat.lt_or_ge n 255 with h2 | h2
       case inl =>
        have d4 : decide ((n : Int) < 255) = true := dT (by omega)
        cases gk with
        | zero => omega
        | succ m1 =>
         go_wp2_with fail
         go_quiet (fail)
         have HS2 := aM (HS.out.drewN nq)
         go_wp2_with fail
         go_roundg m1
         case measure => omega
         case rel =>
          have h := HQ.out
          rw [← HPN.out, show 255 - n = (255 - (n + 1)) + 1 by omega, lead_at x _ l pn h1, if_pos h3] at h
          exact ⟨n + 1, by go_num, ⟨by omega⟩, ⟨by have := HPN.out; omega⟩, ⟨by rw [show p + (n + 1) = pn + 1 by have := HPN.out; omega]; omega⟩, HS2⟩
       case inr =>
        have d4 : decide ((n : Int) < 255) = false := dF (by omega)
        have hqn : n - 1 = q := by have h := HQ.out; rw [show 255 - n = 0 by omega, lead_0] at h; exact h
        have HQN := aM (show n = q + 1 by omega)
        clear HQ hqn
        go_wp2_with fail
        go_quiet (fail)
        have HS2 := aM (HS.out.drewN nq)
        go_wp2_with fail
        go_meet
        case rel => exact ⟨by rw [HQN.out], HS2⟩
      case neg =>
       have hqn : n - 1 = q := by
        have h := HQ.out
        rcases Nat.lt_or_ge n 255 with h2 | h2
        ·rw [← HPN.out, show 255 - n = (254 - n) + 1 by omega, lead_at x _ l pn h1, if_neg h3] at h
         exact h
        ·rw [show 255 - n = 0 by omega, lead_0] at h; exact h
       have HQN := aM (show n = q + 1 by omega)
       clear HQ hqn
       generalize l.getD pn 0 = y at *
       have d3 : (y == x) = false := bF h3
       go_wp2_with fail
       go_quiet (fail)
       have HS2 := aM (HS.out.drewN nq)
       go_wp2_with fail
       go_meet
       case rel => exact ⟨by rw [HQN.out], HS2⟩
   case rest =>
    clear HS HQ
    obtain ⟨rfl, HS⟩ := hcut
    have hq8 : IntKind.u8.wrap ((q + 1 : Nat) : Int) = ((q + 1 : Nat) : Int) := by have := HQL.out; rw [IntKind.wrap_u8']; omega
    have hlt2 : ∀ b, i < (L.set i b).length := fun b => by rw [List.length_set]; exact hlt
    obtain ⟨nq, hnq⟩ : ∃ k : Nat, k = q + 1 := ⟨_, rfl⟩
    rw [← hnq] at hq8 HR2 ⊢
    have hq8' : (nq : Int) % 256 = (nq : Int) := by have := HQL.out; omega
    have HNQ := aM hnq
    clear hnq
    go_upto_region 8 with (first
     | ((with_reducible refine gate_dst (N := 43) rfl ?_); refine slit kU8 5 ?hg (N := 43) ?hd (xs := [(nq : Int)]) (inner := [.int .u8 (nq : Int)]) ?hr HS.out ?hp (by simp) ?_; (case hd => rfl); (case hg => rfl); (case hr => first | (go_simp; done) | (go_simp; rfl)); (case hp => exact (Reps.one (PK.scalar _) (Reps.none _ _))); clear HS; intro v30 w30 hs; have HS := aM hs; clear hs)
     | ((with_reducible refine gate_builtin (b := .append) (xs := #[.tmp 40, .tmp 43]) rfl ?_); at_builtin; refine sgrow kU8 i rfl (.tmp 40) (.tmp 43) 24 5 (.int .u8 0) 1 rfl Tryz.underlying24 info5 rfl (by decide) (by omega) _ _ ys [(nq : Int)] rfl rfl HS.out (by rw [List.getElem?_append_left (hlt2 _)]; exact List.getElem?_set_self hlt) (HS.out.ro _ List.getElem?_concat_length) (by have := HLEN.out; rw [lS]; omega) ?_; intro v1 w1 hs; rw [List.set_append, if_pos (hlt2 _), List.set_set] at hs; have hs2 := hs.sub (List.sublist_append_left _ _); obtain ⟨y1, hy1⟩ : ∃ q, q = ys ++ [(nq : Int)] := ⟨_, rfl⟩; rw [← hy1] at hs2; have HZY := aM hy1; clear hy1; obtain ⟨A5, c5, e5⟩ := hs2.form i (List.getElem?_set_self hlt); subst e5; clear HS; have HS := aM hs2; clear hs hs2))
    have HYL := aM (show y1.length = ys.length + 1 by rw [HZY.out, lA]; rfl)
    rw [← HZY.out] at HR2
    obtain ⟨ad, cd, ed, ya⟩ := int_cell (HS.out.res_row j (HJ.out _)) p hp
    cases ed
    rw [HXE.out] at ya
    have HXB2 := HXB.out
    obtain ⟨hxb0, hxb1, hxb2⟩ := HXB2
    have hpq : p + nq ≤ l.length := by have := HQL.out; have := HNQ.out; omega
    by_cases hsz : size = 2
    case pos =>
     have d1 : ((size : Int) == 2) = true := by rw [hsz]; rfl
     have hlay : lay15 size x = two15 x := by unfold lay15; rw [if_pos hsz]
     clear hsz
     go_wp2_with (first
      | (go_at_call 25; (with_reducible refine (two15_calls X w0 _ (L.set i (.row kU8 5 (.slice A5 y1.length c5) y1)) i _ y1 x HS.out (List.getElem?_set_self hlt) (by omega) (by have := HLEN.out; have := HYL.out; omega)).mono ?_); rintro ee w9 ⟨v9, rfl, hs⟩; rw [List.set_set] at hs; clear HS; have HS := aM hs; clear hs))
     go_roundg (l.length - (p + nq))
     case measure => have := HQL.out; have := HNQ.out; have := HM.out; omega
     case rel =>
      obtain ⟨f', hf1, hf2⟩ := HR2.out
      have h2 := HNQ.out
      have h3 := HQL.out
      have h4 := HM.out
      refine ⟨p + nq, y1 ++ two15 x, f', by go_num, ⟨by omega⟩, ⟨by omega, by rw [← hlay]; exact hf2⟩, ⟨?_⟩, HS⟩
      have h1 := HLEN.out
      have h6 := HYL.out
      have h5 : (two15 x).length = 2 := rfl
      simp only [lA, lS]
      omega
    case neg =>
     have d1 : ((size : Int) == 2) = false := bF (by omega)
     have hlay : lay15 size x = [x] := by unfold lay15; rw [if_neg hsz]
     have hx8 := hxb2 hsz
     have hx8' : x % 256 = x := by omega
     go_wp2_with (first
      | ((with_reducible refine gate_dst (N := 59) rfl ?_); refine slit kU8 5 ?hg (N := 59) ?hd (xs := [x]) (inner := [.int .u8 x]) ?hr HS.out ?hp (by simp) ?_; (case hd => rfl); (case hg => rfl); (case hr => first | (go_simp; done) | (go_simp; rfl)); (case hp => exact (Reps.one (PK.scalar _) (Reps.none _ _))); clear HS; intro v31 w31 hs; have HS := aM hs; clear hs)
      | ((with_reducible refine gate_builtin (b := .append) (xs := #[.tmp 53, .tmp 59]) rfl ?_); at_builtin; refine sgrow kU8 i rfl (.tmp 53) (.tmp 59) 24 5 (.int .u8 0) 1 rfl Tryz.underlying24 info5 rfl (by decide) (by omega) _ _ y1 [x] rfl rfl HS.out (by rw [List.getElem?_append_left (hlt2 _)]; exact List.getElem?_set_self hlt) (HS.out.ro _ List.getElem?_concat_length) (by have := HLEN.out; have := HYL.out; rw [lS]; omega) ?_; intro v1 w1 hs; rw [List.set_append, if_pos (hlt2 _), List.set_set] at hs; have hs2 := hs.sub (List.sublist_append_left _ _); clear HS; have HS := aM hs2; clear hs hs2))
     go_roundg (l.length - (p + nq))
     case measure => have := HQL.out; have := HNQ.out; have := HM.out; omega
     case rel =>
      obtain ⟨f', hf1, hf2⟩ := HR2.out
      have h2 := HNQ.out
      have h3 := HQL.out
      have h4 := HM.out
      refine ⟨p + nq, y1 ++ [x], f', by go_num, ⟨by omega⟩, ⟨by omega, by rw [← hlay]; exact hf2⟩, ⟨?_⟩, HS⟩
      have h1 := HLEN.out
      have h6 := HYL.out
      simp only [lA, lS]
      omega
end Go.Proofs.YtplhfgobeicegaaGreatDoor.P
namespace Go.Proofs.YtplhfgobeicegaaGreatDoor.P
open Go Go.RowKit Go.Proofs.YtplhfgobeicegaaGreatDoorW.PrintWords Go.Proofs.YtplhfgobeicegaaGreatDoorW.PrintLast Go.Proofs.YtplhfgobeicegaaGreatDoorW.PrintMore Go.Proofs.YtplhfgobeicegaaGreatDoor.PX
attribute [local go_sem] max2_int min2_int max_two min_two
set_option linter.unusedVariables false
set_option linter.unusedSimpArgs false
set_option maxRecDepth 100000
def maxGo : List Int → Int → Int
 | [], a => a
 | x :: t, a => maxGo t (if a < x then x else a)
def maxF (xs : List Int) : Int := maxGo (xs.drop 1) (xs.getD 0 0)
theorem maxGo_le (m : Int) : ∀ (t : List Int) (a : Int), maxGo t a ≤ m ↔ a ≤ m ∧ ∀ x ∈ t, x ≤ m
 | [], a => by simp [maxGo]
 | x :: t, a => by
  rw [maxGo, maxGo_le m t]
  simp only [List.mem_cons, forall_eq_or_imp]
  split <;> constructor <;> (rintro ⟨h1, h2⟩; first | exact ⟨by omega, by omega, h2⟩ | (obtain ⟨h2, h3⟩ := h2; exact ⟨by omega, h3⟩))
theorem maxF_le (xs : List Int) (m : Int) (h : 1 ≤ xs.length) : maxF xs ≤ m ↔ ∀ x ∈ xs, x ≤ m := by
 unfold maxF
 rw [maxGo_le]
 cases xs with
 | nil => simp at h
 | cons y t => simp
set_option maxHeartbeats 4000000 in
theorem maxI_calls (X : Nat → Prop) (v : Value) (xs : List Int) (w : World) (hv : PV kInt X w v xs) (h1 : 1 ≤ xs.length) :
  Calls Tryz.prog 16 #[v] w fun e w' => e = .returned (.int .i64 (maxF xs)) ∧ w' = w := by
 have H0 := aM hv
 have m0 := hv.max
 obtain ⟨A0, c0, rfl, _, _⟩ := hv.now
 obtain ⟨r, hr⟩ : ∃ r, r = maxF xs := ⟨_, rfl⟩
 rw [← hr]
 have HR := aM (show maxGo (xs.drop 1) (xs.getD 0 0) = r from hr.symm)
 have e0 : decide ((xs.length : Int) < 1) = false := dF (by omega)
 have e0' : decide (xs.length < 1) = false := dF (by omega)
 have ht0 : 0 < xs.length := by omega
 have ht1 : (0 : Int) < (xs.length : Int) := by omega
 obtain ⟨ad, cd, ed, ya⟩ := int_cell H0.out 0 ht0
 cases ed
 change World.cell? _ ad = _ at ya
 generalize xs.getD 0 0 = a0 at *
 clear hv hr
 go_enter Tryz.func16, Tryz.ntmps16
 go_wp2_with fail
 clear e0 e0'
 go_loopg [3, 4] xs.length (fun m v3 v4 w' => ∃ (i : Nat) (a : Int), (v4 = .int .i64 i ∧ v3 = .int .i64 a) ∧ Aside0 (i + m = xs.length + 1) ∧ Aside0 (1 ≤ i ∧ i ≤ xs.length) ∧ Aside0 (maxGo (xs.drop i) a = r) ∧ w' = w)
 case atStart => exact ⟨1, a0, ⟨rfl, rfl⟩, ⟨by omega⟩, ⟨by omega⟩, HR, rfl⟩
 case round =>
  clear HR
  obtain ⟨i, a, ⟨rfl, rfl⟩, HJ, HI, HR, hw⟩ := hrel
  obtain rfl := hw.symm
  rcases Nat.lt_or_ge i xs.length with hi | hi
  case inr =>
   have e1 : decide ((i : Int) < (xs.length : Int)) = false := dF (by omega)
   have e2 : decide (i < xs.length) = false := dF (by omega)
   have hr : a = r := by have h := HR.out; rw [List.drop_eq_nil_of_le hi, maxGo] at h; exact h
   clear HR
   subst hr
   go_wp2_with fail
   go_ret
   exact ⟨rfl, rfl⟩
  case inl =>
   cases gk with
   | zero => have := HJ.out; omega
   | succ k1 =>
    have e1 : decide ((i : Int) < (xs.length : Int)) = true := dT (by omega)
    have e2 : decide (i < xs.length) = true := dT hi
    have hi0 : (0 : Int) ≤ (i : Int) := by omega
    have hi1 : (i : Int) < (xs.length : Int) := by omega
    obtain ⟨ad2, cd2, ed2, yb⟩ := int_cell H0.out i hi
    cases ed2
    have HR2 := aM (show maxGo (xs.drop (i + 1)) (if a < xs.getD i 0 then xs.getD i 0 else a) = r by rw [← HR.out, drop_at xs 0 i hi, maxGo])
    generalize xs.getD i 0 = b at *
    clear HR
    rcases Decidable.em (a < b) with hab | hab
    case' inl =>
     have HR3 := aM (show maxGo (xs.drop (i + 1)) b = r by have h := HR2.out; rw [if_pos hab] at h; exact h)
    case' inr =>
     have HR3 := aM (show maxGo (xs.drop (i + 1)) a = r by have h := HR2.out; rw [if_neg hab] at h; exact h)
    all_goals
     clear HR2
     go_wp2_with fail
     go_roundg k1
     case measure => omega
     case rel => exact ⟨i + 1, _, ⟨by go_num, rfl⟩, ⟨by have := HJ.out; omega⟩, ⟨by have := HI.out; omega⟩, HR3, rfl⟩
set_option maxHeartbeats 4000000 in
theorem maxB_calls (X : Nat → Prop) (v : Value) (xs : List Int) (w : World) (hv : PV kU8 X w v xs) (h1 : 1 ≤ xs.length) :
  Calls Tryz.prog 32 #[v] w fun e w' => e = .returned (.int .u8 (maxF xs)) ∧ w' = w := by
 have H0 := aM hv
 have m0 := hv.max
 obtain ⟨A0, c0, rfl, _, _⟩ := hv.now
 obtain ⟨r, hr⟩ : ∃ r, r = maxF xs := ⟨_, rfl⟩
 rw [← hr]
 have HR := aM (show maxGo (xs.drop 1) (xs.getD 0 0) = r from hr.symm)
 have e0 : decide ((xs.length : Int) < 1) = false := dF (by omega)
 have e0' : decide (xs.length < 1) = false := dF (by omega)
 have ht0 : 0 < xs.length := by omega
 have ht1 : (0 : Int) < (xs.length : Int) := by omega
 obtain ⟨ad, cd, ed, ya⟩ := u8_cell H0.out 0 ht0
 cases ed
 change World.cell? _ ad = _ at ya
 generalize xs.getD 0 0 = a0 at *
 clear hv hr
 go_enter Tryz.func32, Tryz.ntmps32
 go_wp2_with fail
 clear e0 e0'
 go_loopg [3, 4] xs.length (fun m v3 v4 w' => ∃ (i : Nat) (a : Int), (v4 = .int .i64 i ∧ v3 = .int .u8 a) ∧ Aside0 (i + m = xs.length + 1) ∧ Aside0 (1 ≤ i ∧ i ≤ xs.length) ∧ Aside0 (maxGo (xs.drop i) a = r) ∧ w' = w)
 case atStart => exact ⟨1, a0, ⟨rfl, rfl⟩, ⟨by omega⟩, ⟨by omega⟩, HR, rfl⟩
 case round =>
  clear HR
  obtain ⟨i, a, ⟨rfl, rfl⟩, HJ, HI, HR, hw⟩ := hrel
  obtain rfl := hw.symm
  rcases Nat.lt_or_ge i xs.length with hi | hi
  case inr =>
   have e1 : decide ((i : Int) < (xs.length : Int)) = false := dF (by omega)
   have e2 : decide (i < xs.length) = false := dF (by omega)
   have hr : a = r := by have h := HR.out; rw [List.drop_eq_nil_of_le hi, maxGo] at h; exact h
   clear HR
   subst hr
   go_wp2_with fail
   go_ret
   exact ⟨rfl, rfl⟩
  case inl =>
   cases gk with
   | zero => have := HJ.out; omega
   | succ k1 =>
    have e1 : decide ((i : Int) < (xs.length : Int)) = true := dT (by omega)
    have e2 : decide (i < xs.length) = true := dT hi
    have hi0 : (0 : Int) ≤ (i : Int) := by omega
    have hi1 : (i : Int) < (xs.length : Int) := by omega
    obtain ⟨ad2, cd2, ed2, yb⟩ := u8_cell H0.out i hi
    cases ed2
    have HR2 := aM (show maxGo (xs.drop (i + 1)) (if a < xs.getD i 0 then xs.getD i 0 else a) = r by rw [← HR.out, drop_at xs 0 i hi, maxGo])
    generalize xs.getD i 0 = b at *
    clear HR
    rcases Decidable.em (a < b) with hab | hab
    case' inl =>
     have HR3 := aM (show maxGo (xs.drop (i + 1)) b = r by have h := HR2.out; rw [if_pos hab] at h; exact h)
    case' inr =>
     have HR3 := aM (show maxGo (xs.drop (i + 1)) a = r by have h := HR2.out; rw [if_neg hab] at h; exact h)
    all_goals
     clear HR2
     go_wp2_with fail
     go_roundg k1
     case measure => omega
     case rel => exact ⟨i + 1, _, ⟨by go_num, rfl⟩, ⟨by have := HJ.out; omega⟩, ⟨by have := HI.out; omega⟩, HR3, rfl⟩
end Go.Proofs.YtplhfgobeicegaaGreatDoor.P
namespace Go.Proofs.YtplhfgobeicegaaGreatDoor.P
set_option linter.unusedVariables false
structure B32 (n : Nat) : Prop where
 lt : n < 4294967296
theorem mod32 (n : Nat) : B32 (n % 4294967296) := ⟨Nat.mod_lt _ (of_decide_eq_true rfl)⟩
def sumN (n c : Nat) : Nat := (n ^^^ c) * 16777619 % 4294967296
theorem sumN_lt (n c : Nat) : B32 (sumN n c) := mod32 _
def sumGo (b : List Int) (n : Nat) : Nat := b.foldl (fun m c => sumN m c.toNat) n
theorem sumGo_nil (n : Nat) : sumGo [] n = n := by unfold sumGo; rw [List.foldl_nil]
theorem sumGo_cons (c : Int) (t : List Int) (n : Nat) : sumGo (c :: t) n = sumGo t (sumN n c.toNat) := by unfold sumGo; rw [List.foldl_cons]
def sumL (b : List Int) : Nat := sumGo b 2166136261
theorem sumGo_lt (b : List Int) : ∀ n : Nat, B32 n → B32 (sumGo b n) := by
 induction b with
 | nil => intro n h; rw [sumGo_nil]; exact h
 | cons c t ih => intro n h; rw [sumGo_cons]; exact ih _ (sumN_lt _ _)
theorem b32 {c : Nat} (h : c < 256) : B32 c := ⟨Nat.lt_of_lt_of_le h (of_decide_eq_true rfl)⟩
theorem sum_start : B32 2166136261 := ⟨of_decide_eq_true rfl⟩
theorem sumL_lt (b : List Int) : B32 (sumL b) := sumGo_lt b _ sum_start
end Go.Proofs.YtplhfgobeicegaaGreatDoor.P
namespace Go.Proofs.YtplhfgobeicegaaGreatDoor.P
open Go Go.RowKit Go.Proofs.YtplhfgobeicegaaGreatDoorW.PrintWords Go.Proofs.YtplhfgobeicegaaGreatDoorW.PrintLast Go.Proofs.YtplhfgobeicegaaGreatDoorW.PrintMore Go.Proofs.YtplhfgobeicegaaGreatDoor.PX
set_option linter.unusedVariables false
set_option linter.unusedSimpArgs false
set_option maxRecDepth 100000
theorem step32 {n q : Nat} (hn : B32 n) (hq : q < 256) : bits .xor .u32 (n : Int) ((q : Int) % 4294967296) * 16777619 % 4294967296 = ((sumN n q : Nat) : Int) := by
 have h1 : (q : Int) % 4294967296 = q := Int.emod_eq_of_lt (Int.natCast_nonneg q) (by omega)
 rw [h1, u32_xor_nat n q hn.lt (b32 hq).lt]
 unfold sumN
 rw [Int.natCast_emod, Int.natCast_mul]
 rfl
theorem dvd64 : 4294967296 ∣ 18446744073709551616 := ⟨4294967296, by simp⟩
theorem step64 {n q : Nat} (hn : B32 n) (hq : q < 256) : (IntKind.u64.wrap (bits .xor .u64 (n : Int) (IntKind.u64.wrap (q : Int)) * 16777619)).tmod 4294967296 = ((sumN n q : Nat) : Int) := by
 have h0 : ∀ k : Nat, B32 k → k < 18446744073709551616 := fun k h => Nat.lt_trans h.lt (by simp)
 have h1 : IntKind.u64.wrap (q : Int) = q := by rw [IntKind.wrap_u64]; exact Int.emod_eq_of_lt (Int.natCast_nonneg q) (by omega)
 rw [h1, bits_xor_u64_nat n q (h0 n hn) (h0 q (b32 hq)), IntKind.wrap_u64]
 have h2 : ((n ^^^ q : Nat) : Int) * 16777619 % 18446744073709551616 = (((n ^^^ q) * 16777619 % 18446744073709551616 : Nat) : Int) := by
  rw [Int.natCast_emod, Int.natCast_mul]; rfl
 rw [h2, Int.tmod_eq_emod_of_nonneg (Int.natCast_nonneg _)]
 unfold sumN
 rw [← Nat.mod_mod_of_dvd _ dvd64, Int.natCast_emod]
 rfl
set_option maxHeartbeats 4000000 in
theorem psum_calls (X : Nat → Prop) (v : Value) (b : List Int) (w : World) (hv : PV kU8 X w v b) (hu : U8s b) :
  Calls Tryz.prog 23 #[v] w fun e w' => e = .returned (.int .u32 (sumL b)) ∧ w' = w := by
 have H0 := aM hv
 have HU := aM hu
 have m0 := hv.max
 obtain ⟨A0, c0, rfl, _, _⟩ := hv.now
 obtain ⟨r, hr⟩ : ∃ r, r = sumL b := ⟨_, rfl⟩
 rw [← hr]
 have HR := aM (show sumGo (b.drop 0) 2166136261 = r from hr.symm)
 have HB := aM sum_start
 clear hv hu hr
 go_enter Tryz.func23, Tryz.ntmps23
 go_wp2_with fail
 go_loopg [3, 5, 8] b.length (fun m v3 v5 v8 w' => ∃ (i n : Nat), (v8 = .int .i64 i ∧ v3 = .int .u32 n) ∧ Aside0 (i + m = b.length) ∧ Aside0 (B32 n) ∧ Aside0 (sumGo (b.drop i) n = r) ∧ w' = w)
 case atStart => exact ⟨0, 2166136261, ⟨rfl, rfl⟩, ⟨by omega⟩, HB, HR, rfl⟩
 case round =>
  clear HR HB
  obtain ⟨i, n, ⟨rfl, rfl⟩, HJ, HB, HR, hw⟩ := hrel
  obtain rfl := hw.symm
  cases gk with
  | zero =>
   have e1 : decide ((i : Int) < (b.length : Int)) = false := dF (by have := HJ.out; omega)
   have e2 : decide (i < b.length) = false := dF (by have := HJ.out; omega)
   have hr : n = r := by have h := HR.out; rw [List.drop_eq_nil_of_le (by have := HJ.out; omega), sumGo_nil] at h; exact h
   clear HR HB
   subst hr
   go_wp2_with fail
   go_ret
   exact ⟨rfl, rfl⟩
  | succ k1 =>
   have hi : i < b.length := by have := HJ.out; omega
   have e1 : decide ((i : Int) < (b.length : Int)) = true := dT (by omega)
   have e2 : decide (i < b.length) = true := dT hi
   have hi0 : (0 : Int) ≤ (i : Int) := by omega
   have hi1 : (i : Int) < (b.length : Int) := by omega
   obtain ⟨ad, cd, ed, ya⟩ := u8_cell H0.out i hi
   cases ed
   obtain ⟨q, hq, hq2⟩ := u8s_at HU.out i hi
   have HR2 := aM (show sumGo (b.drop (i + 1)) (sumN n q) = r by rw [← HR.out, drop_at b 0 i hi, sumGo_cons, hq, Int.toNat_natCast])
   rw [hq] at ya
   clear hq HR
   have HB2 := aM (sumN_lt n q)
   have HQ := aM (And.intro hq2 HB.out)
   clear hq2
   go_wp2_with fail
   rw [step32 HQ.out.2 HQ.out.1]
   go_roundg k1
   case measure => omega
   case rel => exact ⟨i + 1, sumN n q, ⟨by go_num, rfl⟩, ⟨by have := HJ.out; omega⟩, HB2, HR2, rfl⟩
set_option maxHeartbeats 4000000 in
theorem rsum_calls (X : Nat → Prop) (v : Value) (b : List Int) (w : World) (hv : PV kU8 X w v b) (hu : U8s b) :
  Calls Tryz.prog 12 #[v] w fun e w' => e = .returned (.int .u32 (sumL b)) ∧ w' = w := by
 have H0 := aM hv
 have HU := aM hu
 have m0 := hv.max
 obtain ⟨A0, c0, rfl, _, _⟩ := hv.now
 obtain ⟨r, hr⟩ : ∃ r, r = sumL b := ⟨_, rfl⟩
 rw [← hr]
 have HR := aM (show sumGo (b.drop 0) 2166136261 = r from hr.symm)
 have HB := aM sum_start
 clear hv hu hr
 go_enter Tryz.func12, Tryz.ntmps12
 go_wp2_with fail
 go_loopg [3, 4] b.length (fun m v3 v4 w' => ∃ (i n : Nat), (v4 = .int .i64 i ∧ v3 = .int .u64 n) ∧ Aside0 (i + m = b.length) ∧ Aside0 (B32 n) ∧ Aside0 (sumGo (b.drop i) n = r) ∧ w' = w)
 case atStart => exact ⟨0, 2166136261, ⟨rfl, rfl⟩, ⟨by omega⟩, HB, HR, rfl⟩
 case round =>
  clear HR HB
  obtain ⟨i, n, ⟨rfl, rfl⟩, HJ, HB, HR, hw⟩ := hrel
  obtain rfl := hw.symm
  cases gk with
  | zero =>
   have e1 : decide ((i : Int) < (b.length : Int)) = false := dF (by have := HJ.out; omega)
   have e2 : decide (i < b.length) = false := dF (by have := HJ.out; omega)
   have hr : n = r := by have h := HR.out; rw [List.drop_eq_nil_of_le (by have := HJ.out; omega), sumGo_nil] at h; exact h
   have HN := aM (show (n : Int) % 4294967296 = (n : Int) from Int.emod_eq_of_lt (Int.natCast_nonneg n) (by have := HB.out.lt; omega))
   clear HR HB
   subst hr
   go_wp2_with fail
   rw [HN.out]
   go_ret
   exact ⟨rfl, rfl⟩
  | succ k1 =>
   have hi : i < b.length := by have := HJ.out; omega
   have e1 : decide ((i : Int) < (b.length : Int)) = true := dT (by omega)
   have e2 : decide (i < b.length) = true := dT hi
   have hi0 : (0 : Int) ≤ (i : Int) := by omega
   have hi1 : (i : Int) < (b.length : Int) := by omega
   obtain ⟨ad, cd, ed, ya⟩ := u8_cell H0.out i hi
   cases ed
   obtain ⟨q, hq, hq2⟩ := u8s_at HU.out i hi
   have HR2 := aM (show sumGo (b.drop (i + 1)) (sumN n q) = r by rw [← HR.out, drop_at b 0 i hi, sumGo_cons, hq, Int.toNat_natCast])
   rw [hq] at ya
   clear hq HR
   have HB2 := aM (sumN_lt n q)
   have HQ := aM (And.intro hq2 HB.out)
   clear hq2
   go_wp2_with fail
   rw [step64 HQ.out.2 HQ.out.1]
   go_roundg k1
   case measure => omega
   case rel => exact ⟨i + 1, sumN n q, ⟨by go_num, rfl⟩, ⟨by have := HJ.out; omega⟩, HB2, HR2, rfl⟩
end Go.Proofs.YtplhfgobeicegaaGreatDoor.P
