/- Part 10 of the proof: V4b, V5, V1, V2. -/
import Derived.Laws.Bits64
import Derived.Test.YtplhfgobeicegaaDoorPb9
namespace Go.Proofs.YtplhfgobeicegaaDoor.P
open Go Go.RowKit Go.Proofs.YtplhfgobeicegaaDoorW.PrintWords Go.Proofs.YtplhfgobeicegaaDoorW.PrintLast Go.Proofs.YtplhfgobeicegaaDoorW.PrintMore Go.Proofs.YtplhfgobeicegaaDoor.PX
attribute [local go_sem] max2_int min2_int max_two min_two
set_option linter.unusedVariables false
set_option linter.unusedSimpArgs false
set_option maxRecDepth 100000
set_option maxHeartbeats 16000000 in
theorem runsI_calls (X : Nat → Prop) (w0 w : World) (L : List PX.Item) (i : Nat) (v vl : Value) (xs l : List Int) (hs : Sep X w0 w L) (hi : L[i]? = some (.row kU8 5 v xs)) (hl : PV kInt X w0 vl l) (hlen : xs.length + 3 * l.length ≤ 1000000000) (hb : ∀ x ∈ l, -1 ≤ x ∧ x < 1000000) :
  Calls Tryd.prog 19 #[v, vl, .func (.func 20) #[] #[]] w fun ee w' => ∃ v1, ee = .returned v1 ∧ Sep X w0 w' (L.set i (.row kU8 5 v1 (xs ++ runsF (fun x => two15 (x + 1)) l.length l))) := by
 have HS := Aside0.mk hs
 have H1 := Aside0.mk hl
 have HBD := Aside0.mk hb
 clear hb
 have m0 := hl.max
 obtain ⟨A0, c0, rfl⟩ := hs.form i hi
 obtain ⟨A1, c1, rfl, _, _⟩ := hl.now
 have hlt : i < L.length := (List.getElem?_eq_some_iff.1 hi).1
 have HI := Aside0.mk hi
 have HLEN := Aside0.mk hlen
 have hs2 : Sep X w0 w (L.set i (.row kU8 5 (.slice A0 xs.length c0) xs)) := by
  rw [show L.set i (.row kU8 5 (.slice A0 xs.length c0) xs) = L from by
   obtain ⟨h1, h2⟩ := List.getElem?_eq_some_iff.1 hi
   rw [← h2]; exact List.set_getElem_self h1]
  exact hs
 obtain ⟨r, hr⟩ : ∃ r, r = xs ++ runsF (fun x => two15 (x + 1)) l.length l := ⟨_, rfl⟩
 rw [← hr]
 have HR := Aside0.mk hr.symm
 clear HS
 have HS := Aside0.mk hs2
 clear hs hi hl hlen hs2 hr
 go_enter Tryd.func19, Tryd.ntmps19
 go_wp2_with fail
 go_loopg [0, 1, 7] l.length (fun m v0 v1 v7 w' => ∃ (t ys : List Int) (f : Nat), Aside0 (t.length = m) ∧ Aside0 (PV kInt X w0 v1 t) ∧ Aside0 (t.length ≤ f ∧ ys ++ runsF (fun x => two15 (x + 1)) f t = r) ∧ Aside0 (ys.length + 3 * t.length ≤ 1000000000) ∧ Aside0 (∀ x ∈ t, -1 ≤ x ∧ x < 1000000) ∧ Aside0 (Sep X w0 w' (L.set i (.row kU8 5 v0 ys))))
 case atStart => exact ⟨l, xs, l.length, ⟨rfl⟩, H1, ⟨Nat.le_refl _, HR.out⟩, HLEN, HBD, HS⟩
 case round =>
  clear HS H1 HR HLEN
  obtain ⟨t, ys, f, HM, H1, HR, HLEN, HBD, HS⟩ := hrel
  obtain ⟨A2, c2, rfl, _, _⟩ := H1.out.now
  obtain ⟨A3, c3, e3⟩ := HS.out.form i (List.getElem?_set_self hlt)
  subst e3
  have m1 := H1.out.max
  cases gk with
  | zero =>
   have hz : t.length = 0 := HM.out
   have e1 : decide ((t.length : Int) > 0) = false := decide_eq_false (by omega)
   have e2 : decide (0 < t.length) = false := decide_eq_false (by omega)
   have hr : ys = r := by have h := HR.out.2; rw [List.length_eq_zero_iff.1 hz, runsF_nil, List.append_nil] at h; exact h
   subst hr
   clear HR HM hz
   go_wp2_with fail
   go_ret
   exact ⟨_, rfl, HS.out⟩
  | succ k1 =>
   have hz : t.length = k1 + 1 := HM.out
   have e1 : decide ((t.length : Int) > 0) = true := decide_eq_true (by omega)
   have e2 : decide (0 < t.length) = true := decide_eq_true (by omega)
   obtain ⟨x, hx⟩ : ∃ x, x = t.getD 0 0 := ⟨_, rfl⟩
   obtain ⟨q, hq⟩ : ∃ q, q = lead x 254 (t.drop 1) := ⟨_, rfl⟩
   have hql := lead_le x 254 (t.drop 1)
   rw [← hq, List.length_drop] at hql
   have HQL := Aside0.mk hql
   have HR2 := Aside0.mk (show ∃ f', k1 ≤ f' ∧ (ys ++ [((q + 1 : Nat) : Int)] ++ (fun x => two15 (x + 1)) x) ++ runsF (fun x => two15 (x + 1)) f' (t.drop (q + 1)) = r by
    obtain ⟨h1, h2⟩ := HR.out
    cases f with
    | zero => omega
    | succ f' =>
     refine ⟨f', by omega, ?_⟩
     have ht : t = x :: t.drop 1 := by
      rw [hx]
      have := drop_at t 0 0 (by omega)
      simpa using this
     rw [ht, runsF, ← hq, List.drop_drop] at h2
     rw [← h2, show q + 1 = 1 + q by omega]
     simp [Nat.add_comm])
   have HQ := Aside0.mk (show 0 + lead x (255 - 1) (t.drop 1) = q by rw [hq, Nat.zero_add])
   obtain ⟨ad, cd, ed, ya0⟩ := int_cell H1.out 0 (by omega)
   cases ed
   rw [← hx] at ya0
   change World.cell? _ ad = _ at ya0
   have ht0 : 0 < t.length := by omega
   have ht1 : (0 : Int) < (t.length : Int) := by omega
   have HX := Aside0.mk hx
   have HXB := Aside0.mk (show -1 ≤ x ∧ x < 1000000 from by rw [hx]; exact HBD.out _ (mem_getD t 0 0 (by omega)))
   have HYA := Aside0.mk ya0
   have HZ := Aside0.mk hz
   clear hx hq hql HR HM ya0 hz
   go_upto_block 2 with fail
   clear e1 e2
   go_cut [7] (fun v7 wc => v7 = .int .i64 ((q + 1 : Nat) : Int) ∧ Aside0 (Sep X w0 wc (L.set i (.row kU8 5 (.slice A3 ys.length c3) ys))))
   case first =>
    go_wp2_with fail
    go_loopg [7] 254 (fun m v7 w' => ∃ (n : Nat), v7 = .int .i64 n ∧ Aside0 (n + m = 255) ∧ Aside0 (1 ≤ n ∧ n ≤ t.length) ∧ Aside0 ((n - 1) + lead x (255 - n) (t.drop n) = q) ∧ Aside0 (Sep X w0 w' (L.set i (.row kU8 5 (.slice A3 ys.length c3) ys))))
    case atStart => exact ⟨1, rfl, ⟨by omega⟩, ⟨by omega⟩, HQ, HS⟩
    case round =>
     clear HS HQ
     obtain ⟨n, rfl, HN, HNL, HQ, HS⟩ := hrel
     have hn := HN.out
     have hnl := HNL.out
     by_cases hcond : n < t.length ∧ n < 255 ∧ t.getD n 0 = x
     case pos =>
      obtain ⟨h1, h2, h3⟩ := hcond
      cases gk with
      | zero => omega
      | succ m1 =>
       have hn0 : (0 : Int) ≤ (n : Int) := by omega
       have hn1 : (n : Int) < (t.length : Int) := by omega
       obtain ⟨ad2, cd2, ed2, yb0⟩ := int_cell H1.out n h1
       cases ed2
       rw [h3] at yb0
       have HYB := Aside0.mk yb0
       clear yb0
       have d1 : decide ((n : Int) < (if 255 < (t.length : Int) then 255 else (t.length : Int))) = true := by split <;> exact decide_eq_true (by omega)
       have d3 : (x == x) = true := beq_self_eq_true x
       go_wp2_with fail
       have hs := HS.out.drew
       clear HS; have HS := Aside0.mk hs; clear hs
       refine start_ (n := 15) (S := fun w' => w'.cell? ad = some (.int .i64 x) ∧ w'.cell? (ad.add n) = some (.int .i64 x)) (ds := []) #[false, false, false, false, false, false, false, false, false, false, false, false, false, false, false] (by kernel_rfl) rfl rfl ⟨(pw_cell_below HS.out.below HYA.out), (pw_cell_below HS.out.below HYB.out)⟩ (fun hHeld => ?_)
       refine pure_ (i := 0) (N := some 11) (v := ?_) (a' := ?_) #[true, false, false, false, false, false, false, false, false, false, false, false, false, false, false] rfl rfl (by kernel_rfl) (fun _ _ _ h => h) (Or.inl ⟨by rfl, ?_⟩) ?_ ?_
       rotate_left
       ·intro w'
        go_simp
        with_reducible rfl
       rotate_left
       ·simp only [Act.put, List.setIfInBounds_toArray, List.set_cons_zero, List.set_cons_succ, i64_w, i32_w]
        rfl
       refine pure_ (i := 1) (N := some 12) (v := ?_) (a' := ?_) #[true, true, false, false, false, false, false, false, false, false, false, false, false, false, false] rfl rfl (by kernel_rfl) (fun _ _ _ h => h) (Or.inl ⟨by rfl, ?_⟩) ?_ ?_
       rotate_left
       ·intro w'
        go_simp
        with_reducible rfl
       rotate_left
       ·simp only [Act.put, List.setIfInBounds_toArray, List.set_cons_zero, List.set_cons_succ, i64_w, i32_w]
        rfl
       refine pure_ (i := 2) (N := some 13) (v := ?_) (a' := ?_) #[true, true, true, false, false, false, false, false, false, false, false, false, false, false, false] rfl rfl (by kernel_rfl) (fun _ _ _ h => h) (Or.inl ⟨by rfl, ?_⟩) ?_ ?_
       rotate_left
       ·intro w'
        go_simp
        with_reducible rfl
       rotate_left
       ·simp only [Act.put, List.setIfInBounds_toArray, List.set_cons_zero, List.set_cons_succ, i64_w, i32_w]
        rfl
       refine pure_ (i := 3) (N := some 14) (v := ?_) (a' := ?_) #[true, true, true, true, false, false, false, false, false, false, false, false, false, false, false] rfl rfl (by kernel_rfl) (fun _ _ _ h => h) (Or.inl ⟨by rfl, ?_⟩) ?_ ?_
       rotate_left
       ·intro w'
        go_simp
        with_reducible rfl
       rotate_left
       ·simp only [Act.put, List.setIfInBounds_toArray, List.set_cons_zero, List.set_cons_succ, i64_w, i32_w]
        rfl
       refine pure_ (i := 4) (N := some 15) (v := ?_) (a' := ?_) #[true, true, true, true, true, false, false, false, false, false, false, false, false, false, false] rfl rfl (by kernel_rfl) (fun _ _ _ h => h) (Or.inl ⟨by rfl, ?_⟩) ?_ ?_
       rotate_left
       ·intro w'
        go_simp
        with_reducible rfl
       rotate_left
       ·simp only [Act.put, List.setIfInBounds_toArray, List.set_cons_zero, List.set_cons_succ, i64_w, i32_w]
        rfl
       refine pure_ (i := 5) (N := some 16) (v := ?_) (a' := ?_) #[true, true, true, true, true, true, false, false, false, false, false, false, false, false, false] rfl rfl (by kernel_rfl) (fun _ _ _ h => h) (Or.inl ⟨by rfl, ?_⟩) ?_ ?_
       rotate_left
       ·intro w'
        go_simp
        with_reducible rfl
       rotate_left
       ·simp only [Act.put, List.setIfInBounds_toArray, List.set_cons_zero, List.set_cons_succ, i64_w, i32_w]
        rfl
       refine pure_ (i := 6) (N := some 17) (v := ?_) (a' := ?_) #[true, true, true, true, true, true, true, false, false, false, false, false, false, false, false] rfl rfl (by kernel_rfl) (fun _ _ _ h => h) (Or.inl ⟨by rfl, ?_⟩) ?_ ?_
       rotate_left
       ·intro w'
        go_simp
        with_reducible rfl
       rotate_left
       ·simp only [Act.put, List.setIfInBounds_toArray, List.set_cons_zero, List.set_cons_succ, i64_w, i32_w]
        rfl
       refine pure_ (i := 7) (N := some 18) (v := ?_) (a' := ?_) #[true, true, true, true, true, true, true, true, false, false, false, false, false, false, false] rfl rfl (by kernel_rfl) (fun _ _ _ h => h) (Or.inl ⟨by rfl, ?_⟩) ?_ ?_
       rotate_left
       ·intro w'
        go_simp
        with_reducible rfl
       rotate_left
       ·simp only [Act.put, List.setIfInBounds_toArray, List.set_cons_zero, List.set_cons_succ, i64_w, i32_w]
        rfl
       refine pure_ (i := 8) (N := some 19) (v := ?_) (a' := ?_) #[true, true, true, true, true, true, true, true, true, false, false, false, false, false, false] rfl rfl (by kernel_rfl) (fun _ _ _ h => h) (Or.inl ⟨by rfl, ?_⟩) ?_ ?_
       rotate_left
       ·intro w'
        go_simp
        with_reducible rfl
       rotate_left
       ·simp only [Act.put, List.setIfInBounds_toArray, List.set_cons_zero, List.set_cons_succ, i64_w, i32_w]
        rfl
       refine pure_ (i := 10) (N := some 21) (v := ?_) (a' := ?_) #[true, true, true, true, true, true, true, true, true, false, true, false, false, false, false] rfl rfl (by kernel_rfl) (fun _ _ _ h => h) (Or.inl ⟨by rfl, ?_⟩) ?_ ?_
       rotate_left
       ·intro w'
        go_simp
        with_reducible rfl
       rotate_left
       ·simp only [Act.put, List.setIfInBounds_toArray, List.set_cons_zero, List.set_cons_succ, i64_w, i32_w]
        rfl
       refine pure_ (i := 11) (N := some 22) (v := ?_) (a' := ?_) #[true, true, true, true, true, true, true, true, true, false, true, true, false, false, false] rfl rfl (by kernel_rfl) (fun _ _ _ h => h) (Or.inl ⟨by rfl, ?_⟩) ?_ ?_
       rotate_left
       ·intro w'
        go_simp
        with_reducible rfl
       rotate_left
       ·simp only [Act.put, List.setIfInBounds_toArray, List.set_cons_zero, List.set_cons_succ, i64_w, i32_w]
        rfl
       refine take_ (i := 9) (N := some 20) (v := ?_) (a' := ?_) #[true, true, true, true, true, true, true, true, true, true, true, true, false, false, false] rfl rfl (by kernel_rfl) (fun _ _ _ h => h) (Or.inl ⟨by rfl, ?_⟩) hHeld ?_ ?_
       rotate_left
       ·rintro w' ⟨s0, s1⟩
        go_simp
        with_reducible rfl
       rotate_left
       ·simp only [Act.put, List.setIfInBounds_toArray, List.set_cons_zero, List.set_cons_succ, i64_w, i32_w]
        rfl
       refine take_ (i := 12) (N := some 23) (v := ?_) (a' := ?_) #[true, true, true, true, true, true, true, true, true, true, true, true, true, false, false] rfl rfl (by kernel_rfl) (fun _ _ _ h => h) (Or.inl ⟨by rfl, ?_⟩) hHeld ?_ ?_
       rotate_left
       ·rintro w' ⟨s0, s1⟩
        go_simp
        with_reducible rfl
       rotate_left
       ·simp only [Act.put, List.setIfInBounds_toArray, List.set_cons_zero, List.set_cons_succ, i64_w, i32_w]
        rfl
       refine pure_ (i := 13) (N := some 24) (v := ?_) (a' := ?_) #[true, true, true, true, true, true, true, true, true, true, true, true, true, true, false] rfl rfl (by kernel_rfl) (fun _ _ _ h => h) (Or.inl ⟨by rfl, ?_⟩) ?_ ?_
       rotate_left
       ·intro w'
        go_simp
        with_reducible rfl
       rotate_left
       ·simp only [Act.put, List.setIfInBounds_toArray, List.set_cons_zero, List.set_cons_succ, i64_w, i32_w]
        rfl
       refine pure_ (i := 14) (N := some 25) (v := ?_) (a' := ?_) #[true, true, true, true, true, true, true, true, true, true, true, true, true, true, true] rfl rfl (by kernel_rfl) (fun _ _ _ h => h) (Or.inl ⟨by rfl, ?_⟩) ?_ ?_
       rotate_left
       ·intro w'
        go_simp
        with_reducible rfl
       rotate_left
       ·simp only [Act.put, List.setIfInBounds_toArray, List.set_cons_zero, List.set_cons_succ, i64_w, i32_w]
        rfl
       refine done_ (by kernel_rfl) ?_
       generalize (if 255 < (t.length : Int) then (255 : Int) else (t.length : Int)) = mn
       go_wp2_with fail
       go_roundg m1
       case measure => omega
       case rel =>
        have h := HQ.out
        rw [show 255 - n = (255 - (n + 1)) + 1 by omega, lead_at x _ t n h1, if_pos h3] at h
        exact ⟨n + 1, by go_num, ⟨by omega⟩, ⟨by omega⟩, ⟨by omega⟩, HS⟩
     case neg =>
      have hqn : n - 1 = q := by
       have h := HQ.out
       rcases Nat.lt_or_ge n 255 with h2 | h2
       ·rcases Nat.lt_or_ge n t.length with h1 | h1
        ·rw [show 255 - n = (254 - n) + 1 by omega, lead_at x _ t n h1, if_neg (fun h3 => hcond ⟨h1, h2, h3⟩)] at h
         exact h
        ·rw [List.drop_eq_nil_of_le h1, lead_nil] at h; exact h
       ·rw [show 255 - n = 0 by omega, lead_0] at h; exact h
      have HQN := Aside0.mk (show n = q + 1 by omega)
      clear HQ hqn
      rcases Decidable.em (n < 255 ∧ n < t.length) with hb | hb
      case inl =>
       obtain ⟨h2, h1⟩ := hb
       have h3 : ¬ t.getD n 0 = x := fun h3 => hcond ⟨h1, h2, h3⟩
       clear hcond
       have hn0 : (0 : Int) ≤ (n : Int) := by omega
       have hn1 : (n : Int) < (t.length : Int) := by omega
       obtain ⟨ad2, cd2, ed2, yb0⟩ := int_cell H1.out n h1
       cases ed2
       generalize t.getD n 0 = y at *
       have d1 : decide ((n : Int) < (if 255 < (t.length : Int) then 255 else (t.length : Int))) = true := by split <;> exact decide_eq_true (by omega)
       have d3 : (y == x) = false := beq_eq_false_iff_ne.mpr h3
       have HYB := Aside0.mk yb0
       clear yb0 h3
       go_wp2_with fail
       have hs := HS.out.drew
       clear HS; have HS := Aside0.mk hs; clear hs
       refine start_ (n := 15) (S := fun w' => w'.cell? ad = some (.int .i64 x) ∧ w'.cell? (ad.add n) = some (.int .i64 y)) (ds := []) #[false, false, false, false, false, false, false, false, false, false, false, false, false, false, false] (by kernel_rfl) rfl rfl ⟨(pw_cell_below HS.out.below HYA.out), (pw_cell_below HS.out.below HYB.out)⟩ (fun hHeld => ?_)
       refine pure_ (i := 0) (N := some 11) (v := ?_) (a' := ?_) #[true, false, false, false, false, false, false, false, false, false, false, false, false, false, false] rfl rfl (by kernel_rfl) (fun _ _ _ h => h) (Or.inl ⟨by rfl, ?_⟩) ?_ ?_
       rotate_left
       ·intro w'
        go_simp
        with_reducible rfl
       rotate_left
       ·simp only [Act.put, List.setIfInBounds_toArray, List.set_cons_zero, List.set_cons_succ, i64_w, i32_w]
        rfl
       refine pure_ (i := 1) (N := some 12) (v := ?_) (a' := ?_) #[true, true, false, false, false, false, false, false, false, false, false, false, false, false, false] rfl rfl (by kernel_rfl) (fun _ _ _ h => h) (Or.inl ⟨by rfl, ?_⟩) ?_ ?_
       rotate_left
       ·intro w'
        go_simp
        with_reducible rfl
       rotate_left
       ·simp only [Act.put, List.setIfInBounds_toArray, List.set_cons_zero, List.set_cons_succ, i64_w, i32_w]
        rfl
       refine pure_ (i := 2) (N := some 13) (v := ?_) (a' := ?_) #[true, true, true, false, false, false, false, false, false, false, false, false, false, false, false] rfl rfl (by kernel_rfl) (fun _ _ _ h => h) (Or.inl ⟨by rfl, ?_⟩) ?_ ?_
       rotate_left
       ·intro w'
        go_simp
        with_reducible rfl
       rotate_left
       ·simp only [Act.put, List.setIfInBounds_toArray, List.set_cons_zero, List.set_cons_succ, i64_w, i32_w]
        rfl
       refine pure_ (i := 3) (N := some 14) (v := ?_) (a' := ?_) #[true, true, true, true, false, false, false, false, false, false, false, false, false, false, false] rfl rfl (by kernel_rfl) (fun _ _ _ h => h) (Or.inl ⟨by rfl, ?_⟩) ?_ ?_
       rotate_left
       ·intro w'
        go_simp
        with_reducible rfl
       rotate_left
       ·simp only [Act.put, List.setIfInBounds_toArray, List.set_cons_zero, List.set_cons_succ, i64_w, i32_w]
        rfl
       refine pure_ (i := 4) (N := some 15) (v := ?_) (a' := ?_) #[true, true, true, true, true, false, false, false, false, false, false, false, false, false, false] rfl rfl (by kernel_rfl) (fun _ _ _ h => h) (Or.inl ⟨by rfl, ?_⟩) ?_ ?_
       rotate_left
       ·intro w'
        go_simp
        with_reducible rfl
       rotate_left
       ·simp only [Act.put, List.setIfInBounds_toArray, List.set_cons_zero, List.set_cons_succ, i64_w, i32_w]
        rfl
       refine pure_ (i := 5) (N := some 16) (v := ?_) (a' := ?_) #[true, true, true, true, true, true, false, false, false, false, false, false, false, false, false] rfl rfl (by kernel_rfl) (fun _ _ _ h => h) (Or.inl ⟨by rfl, ?_⟩) ?_ ?_
       rotate_left
       ·intro w'
        go_simp
        with_reducible rfl
       rotate_left
       ·simp only [Act.put, List.setIfInBounds_toArray, List.set_cons_zero, List.set_cons_succ, i64_w, i32_w]
        rfl
       refine pure_ (i := 6) (N := some 17) (v := ?_) (a' := ?_) #[true, true, true, true, true, true, true, false, false, false, false, false, false, false, false] rfl rfl (by kernel_rfl) (fun _ _ _ h => h) (Or.inl ⟨by rfl, ?_⟩) ?_ ?_
       rotate_left
       ·intro w'
        go_simp
        with_reducible rfl
       rotate_left
       ·simp only [Act.put, List.setIfInBounds_toArray, List.set_cons_zero, List.set_cons_succ, i64_w, i32_w]
        rfl
       refine pure_ (i := 7) (N := some 18) (v := ?_) (a' := ?_) #[true, true, true, true, true, true, true, true, false, false, false, false, false, false, false] rfl rfl (by kernel_rfl) (fun _ _ _ h => h) (Or.inl ⟨by rfl, ?_⟩) ?_ ?_
       rotate_left
       ·intro w'
        go_simp
        with_reducible rfl
       rotate_left
       ·simp only [Act.put, List.setIfInBounds_toArray, List.set_cons_zero, List.set_cons_succ, i64_w, i32_w]
        rfl
       refine pure_ (i := 8) (N := some 19) (v := ?_) (a' := ?_) #[true, true, true, true, true, true, true, true, true, false, false, false, false, false, false] rfl rfl (by kernel_rfl) (fun _ _ _ h => h) (Or.inl ⟨by rfl, ?_⟩) ?_ ?_
       rotate_left
       ·intro w'
        go_simp
        with_reducible rfl
       rotate_left
       ·simp only [Act.put, List.setIfInBounds_toArray, List.set_cons_zero, List.set_cons_succ, i64_w, i32_w]
        rfl
       refine pure_ (i := 10) (N := some 21) (v := ?_) (a' := ?_) #[true, true, true, true, true, true, true, true, true, false, true, false, false, false, false] rfl rfl (by kernel_rfl) (fun _ _ _ h => h) (Or.inl ⟨by rfl, ?_⟩) ?_ ?_
       rotate_left
       ·intro w'
        go_simp
        with_reducible rfl
       rotate_left
       ·simp only [Act.put, List.setIfInBounds_toArray, List.set_cons_zero, List.set_cons_succ, i64_w, i32_w]
        rfl
       refine pure_ (i := 11) (N := some 22) (v := ?_) (a' := ?_) #[true, true, true, true, true, true, true, true, true, false, true, true, false, false, false] rfl rfl (by kernel_rfl) (fun _ _ _ h => h) (Or.inl ⟨by rfl, ?_⟩) ?_ ?_
       rotate_left
       ·intro w'
        go_simp
        with_reducible rfl
       rotate_left
       ·simp only [Act.put, List.setIfInBounds_toArray, List.set_cons_zero, List.set_cons_succ, i64_w, i32_w]
        rfl
       refine take_ (i := 9) (N := some 20) (v := ?_) (a' := ?_) #[true, true, true, true, true, true, true, true, true, true, true, true, false, false, false] rfl rfl (by kernel_rfl) (fun _ _ _ h => h) (Or.inl ⟨by rfl, ?_⟩) hHeld ?_ ?_
       rotate_left
       ·rintro w' ⟨s0, s1⟩
        go_simp
        with_reducible rfl
       rotate_left
       ·simp only [Act.put, List.setIfInBounds_toArray, List.set_cons_zero, List.set_cons_succ, i64_w, i32_w]
        rfl
       refine take_ (i := 12) (N := some 23) (v := ?_) (a' := ?_) #[true, true, true, true, true, true, true, true, true, true, true, true, true, false, false] rfl rfl (by kernel_rfl) (fun _ _ _ h => h) (Or.inl ⟨by rfl, ?_⟩) hHeld ?_ ?_
       rotate_left
       ·rintro w' ⟨s0, s1⟩
        go_simp
        with_reducible rfl
       rotate_left
       ·simp only [Act.put, List.setIfInBounds_toArray, List.set_cons_zero, List.set_cons_succ, i64_w, i32_w]
        rfl
       refine pure_ (i := 13) (N := some 24) (v := ?_) (a' := ?_) #[true, true, true, true, true, true, true, true, true, true, true, true, true, true, false] rfl rfl (by kernel_rfl) (fun _ _ _ h => h) (Or.inl ⟨by rfl, ?_⟩) ?_ ?_
       rotate_left
       ·intro w'
        go_simp
        with_reducible rfl
       rotate_left
       ·simp only [Act.put, List.setIfInBounds_toArray, List.set_cons_zero, List.set_cons_succ, i64_w, i32_w]
        rfl
       refine pure_ (i := 14) (N := some 25) (v := ?_) (a' := ?_) #[true, true, true, true, true, true, true, true, true, true, true, true, true, true, true] rfl rfl (by kernel_rfl) (fun _ _ _ h => h) (Or.inl ⟨by rfl, ?_⟩) ?_ ?_
       rotate_left
       ·intro w'
        go_simp
        with_reducible rfl
       rotate_left
       ·simp only [Act.put, List.setIfInBounds_toArray, List.set_cons_zero, List.set_cons_succ, i64_w, i32_w]
        rfl
       refine done_ (by kernel_rfl) ?_
       generalize (if 255 < (t.length : Int) then (255 : Int) else (t.length : Int)) = mn
       go_wp2_with fail
       go_meet
       case rel => exact ⟨by rw [HQN.out], HS⟩
      case inr =>
       have d1 : decide ((n : Int) < (if 255 < (t.length : Int) then 255 else (t.length : Int))) = false := by split <;> exact decide_eq_false (by omega)
       clear hcond hb
       go_wp2_with fail
       have hs := HS.out.drew
       clear HS; have HS := Aside0.mk hs; clear hs
       refine start_ (n := 15) (S := fun w' => True) (ds := []) #[false, false, false, false, false, false, false, false, false, false, false, false, false, false, false] (by kernel_rfl) rfl rfl trivial (fun hHeld => ?_)
       refine pure_ (i := 0) (N := some 11) (v := ?_) (a' := ?_) #[true, false, false, false, false, false, false, false, false, false, false, false, false, false, false] rfl rfl (by kernel_rfl) (fun _ _ _ h => h) (Or.inl ⟨by rfl, ?_⟩) ?_ ?_
       rotate_left
       ·intro w'
        go_simp
        with_reducible rfl
       rotate_left
       ·simp only [Act.put, List.setIfInBounds_toArray, List.set_cons_zero, List.set_cons_succ, i64_w, i32_w]
        rfl
       refine pure_ (i := 1) (N := some 12) (v := ?_) (a' := ?_) #[true, true, false, false, false, false, false, false, false, false, false, false, false, false, false] rfl rfl (by kernel_rfl) (fun _ _ _ h => h) (Or.inl ⟨by rfl, ?_⟩) ?_ ?_
       rotate_left
       ·intro w'
        go_simp
        with_reducible rfl
       rotate_left
       ·simp only [Act.put, List.setIfInBounds_toArray, List.set_cons_zero, List.set_cons_succ, i64_w, i32_w]
        rfl
       refine pure_ (i := 2) (N := some 13) (v := ?_) (a' := ?_) #[true, true, true, false, false, false, false, false, false, false, false, false, false, false, false] rfl rfl (by kernel_rfl) (fun _ _ _ h => h) (Or.inl ⟨by rfl, ?_⟩) ?_ ?_
       rotate_left
       ·intro w'
        go_simp
        with_reducible rfl
       rotate_left
       ·simp only [Act.put, List.setIfInBounds_toArray, List.set_cons_zero, List.set_cons_succ, i64_w, i32_w]
        rfl
       refine pure_ (i := 3) (N := some 14) (v := ?_) (a' := ?_) #[true, true, true, true, false, false, false, false, false, false, false, false, false, false, false] rfl rfl (by kernel_rfl) (fun _ _ _ h => h) (Or.inl ⟨by rfl, ?_⟩) ?_ ?_
       rotate_left
       ·intro w'
        go_simp
        with_reducible rfl
       rotate_left
       ·simp only [Act.put, List.setIfInBounds_toArray, List.set_cons_zero, List.set_cons_succ, i64_w, i32_w]
        rfl
       refine pure_ (i := 4) (N := some 15) (v := ?_) (a' := ?_) #[true, true, true, true, true, false, false, false, false, false, false, false, false, false, false] rfl rfl (by kernel_rfl) (fun _ _ _ h => h) (Or.inl ⟨by rfl, ?_⟩) ?_ ?_
       rotate_left
       ·intro w'
        go_simp
        with_reducible rfl
       rotate_left
       ·simp only [Act.put, List.setIfInBounds_toArray, List.set_cons_zero, List.set_cons_succ, i64_w, i32_w]
        rfl
       refine pure_ (i := 5) (N := some 16) (v := ?_) (a' := ?_) #[true, true, true, true, true, true, false, false, false, false, false, false, false, false, false] rfl rfl (by kernel_rfl) (fun _ _ _ h => h) (Or.inl ⟨by rfl, ?_⟩) ?_ ?_
       rotate_left
       ·intro w'
        go_simp
        with_reducible rfl
       rotate_left
       ·simp only [Act.put, List.setIfInBounds_toArray, List.set_cons_zero, List.set_cons_succ, i64_w, i32_w]
        rfl
       refine pure_ (i := 6) (N := some 17) (v := undef) (a' := ?_) #[true, true, true, true, true, true, true, false, false, false, false, false, false, false, false] rfl rfl (by kernel_rfl) (fun _ _ _ h => h) (Or.inr ⟨by rfl, rfl⟩) ?_ ?_
       rotate_left
       ·simp only [Act.put, List.setIfInBounds_toArray, List.set_cons_zero, List.set_cons_succ, i64_w, i32_w]
        rfl
       refine pure_ (i := 7) (N := some 18) (v := undef) (a' := ?_) #[true, true, true, true, true, true, true, true, false, false, false, false, false, false, false] rfl rfl (by kernel_rfl) (fun _ _ _ h => h) (Or.inr ⟨by rfl, rfl⟩) ?_ ?_
       rotate_left
       ·simp only [Act.put, List.setIfInBounds_toArray, List.set_cons_zero, List.set_cons_succ, i64_w, i32_w]
        rfl
       refine pure_ (i := 8) (N := some 19) (v := undef) (a' := ?_) #[true, true, true, true, true, true, true, true, true, false, false, false, false, false, false] rfl rfl (by kernel_rfl) (fun _ _ _ h => h) (Or.inr ⟨by rfl, rfl⟩) ?_ ?_
       rotate_left
       ·simp only [Act.put, List.setIfInBounds_toArray, List.set_cons_zero, List.set_cons_succ, i64_w, i32_w]
        rfl
       refine pure_ (i := 9) (N := some 20) (v := undef) (a' := ?_) #[true, true, true, true, true, true, true, true, true, true, false, false, false, false, false] rfl rfl (by kernel_rfl) (fun _ _ _ h => h) (Or.inr ⟨by rfl, rfl⟩) ?_ ?_
       rotate_left
       ·simp only [Act.put, List.setIfInBounds_toArray, List.set_cons_zero, List.set_cons_succ, i64_w, i32_w]
        rfl
       refine pure_ (i := 10) (N := some 21) (v := undef) (a' := ?_) #[true, true, true, true, true, true, true, true, true, true, true, false, false, false, false] rfl rfl (by kernel_rfl) (fun _ _ _ h => h) (Or.inr ⟨by rfl, rfl⟩) ?_ ?_
       rotate_left
       ·simp only [Act.put, List.setIfInBounds_toArray, List.set_cons_zero, List.set_cons_succ, i64_w, i32_w]
        rfl
       refine pure_ (i := 11) (N := some 22) (v := undef) (a' := ?_) #[true, true, true, true, true, true, true, true, true, true, true, true, false, false, false] rfl rfl (by kernel_rfl) (fun _ _ _ h => h) (Or.inr ⟨by rfl, rfl⟩) ?_ ?_
       rotate_left
       ·simp only [Act.put, List.setIfInBounds_toArray, List.set_cons_zero, List.set_cons_succ, i64_w, i32_w]
        rfl
       refine pure_ (i := 12) (N := some 23) (v := undef) (a' := ?_) #[true, true, true, true, true, true, true, true, true, true, true, true, true, false, false] rfl rfl (by kernel_rfl) (fun _ _ _ h => h) (Or.inr ⟨by rfl, rfl⟩) ?_ ?_
       rotate_left
       ·simp only [Act.put, List.setIfInBounds_toArray, List.set_cons_zero, List.set_cons_succ, i64_w, i32_w]
        rfl
       refine pure_ (i := 13) (N := some 24) (v := undef) (a' := ?_) #[true, true, true, true, true, true, true, true, true, true, true, true, true, true, false] rfl rfl (by kernel_rfl) (fun _ _ _ h => h) (Or.inr ⟨by rfl, rfl⟩) ?_ ?_
       rotate_left
       ·simp only [Act.put, List.setIfInBounds_toArray, List.set_cons_zero, List.set_cons_succ, i64_w, i32_w]
        rfl
       refine pure_ (i := 14) (N := some 25) (v := ?_) (a' := ?_) #[true, true, true, true, true, true, true, true, true, true, true, true, true, true, true] rfl rfl (by kernel_rfl) (fun _ _ _ h => h) (Or.inl ⟨by rfl, ?_⟩) ?_ ?_
       rotate_left
       ·intro w'
        go_simp
        with_reducible rfl
       rotate_left
       ·simp only [Act.put, List.setIfInBounds_toArray, List.set_cons_zero, List.set_cons_succ, i64_w, i32_w]
        rfl
       refine done_ (by kernel_rfl) ?_
       generalize (if 255 < (t.length : Int) then (255 : Int) else (t.length : Int)) = mn
       go_wp2_with fail
       go_meet
       case rel => exact ⟨by rw [HQN.out], HS⟩
   case rest =>
    clear HS HQ
    obtain ⟨rfl, HS⟩ := hcut
    have hq8 : IntKind.u8.wrap ((q + 1 : Nat) : Int) = ((q + 1 : Nat) : Int) := by have := HQL.out; rw [IntKind.wrap_u8']; omega
    have hg : (L.set i (.row kU8 5 (.slice A3 ys.length c3) ys))[i]? = some (.row kU8 5 (.slice A3 ys.length c3) ys) := List.getElem?_set_self hlt
    have hlt2 : i < (L.set i (.row kU8 5 (.slice A3 ys.length c3) ys)).length := by rw [List.length_set]; exact hlt
    obtain ⟨nq, hnq⟩ : ∃ k : Nat, k = q + 1 := ⟨_, rfl⟩
    rw [← hnq] at hq8 HR2 ⊢
    have HNQ := Aside0.mk hnq
    clear hnq
    go_upto_region 5 with fail
    have hs := HS.out.drew
    clear HS; have HS := Aside0.mk hs; clear hs
    refine start_ (n := 11) (S := fun w' => w'.cell? ad = some (.int .i64 x)) (ds := []) #[false, false, false, false, false, false, false, false, false, false, false] (by kernel_rfl) rfl rfl ((pw_cell_below HS.out.below HYA.out)) (fun hHeld => ?_)
    refine pure_ (i := 0) (N := some 28) (v := ?_) (a' := ?_) #[true, false, false, false, false, false, false, false, false, false, false] rfl rfl (by kernel_rfl) (fun _ _ _ h => h) (Or.inl ⟨by rfl, ?_⟩) ?_ ?_
    rotate_left
    ·intro w'
     go_simp
     with_reducible rfl
    rotate_left
    ·simp only [Act.put, List.setIfInBounds_toArray, List.set_cons_zero, List.set_cons_succ, i64_w, i32_w]
     rfl
    refine pure_ (i := 1) (N := some 29) (v := ?_) (a' := ?_) #[true, true, false, false, false, false, false, false, false, false, false] rfl rfl (by kernel_rfl) (fun _ _ _ h => h) (Or.inl ⟨by rfl, ?_⟩) ?_ ?_
    rotate_left
    ·intro w'
     go_simp
     with_reducible rfl
    rotate_left
    ·simp only [Act.put, List.setIfInBounds_toArray, List.set_cons_zero, List.set_cons_succ, i64_w, i32_w]
     rfl
    refine pure_ (i := 2) (N := some 30) (v := ?_) (a' := ?_) #[true, true, true, false, false, false, false, false, false, false, false] rfl rfl (by kernel_rfl) (fun _ _ _ h => h) (Or.inl ⟨by rfl, ?_⟩) ?_ ?_
    rotate_left
    ·intro w'
     go_simp
     with_reducible rfl
    rotate_left
    ·simp only [Act.put, List.setIfInBounds_toArray, List.set_cons_zero, List.set_cons_succ, i64_w, i32_w]
     rfl
    refine pure_ (i := 3) (N := some 31) (v := ?_) (a' := ?_) #[true, true, true, true, false, false, false, false, false, false, false] rfl rfl (by kernel_rfl) (fun _ _ _ h => h) (Or.inl ⟨by rfl, ?_⟩) ?_ ?_
    rotate_left
    ·intro w'
     go_simp
     with_reducible rfl
    rotate_left
    ·simp only [Act.put, List.setIfInBounds_toArray, List.set_cons_zero, List.set_cons_succ, i64_w, i32_w]
     rfl
    refine pure_ (i := 6) (N := some 34) (v := ?_) (a' := ?_) #[true, true, true, true, false, false, true, false, false, false, false] rfl rfl (by kernel_rfl) (fun _ _ _ h => h) (Or.inl ⟨by rfl, ?_⟩) ?_ ?_
    rotate_left
    ·intro w'
     go_simp
     with_reducible rfl
    rotate_left
    ·simp only [Act.put, List.setIfInBounds_toArray, List.set_cons_zero, List.set_cons_succ, i64_w, i32_w]
     rfl
    refine pure_ (i := 7) (N := some 35) (v := ?_) (a' := ?_) #[true, true, true, true, false, false, true, true, false, false, false] rfl rfl (by kernel_rfl) (fun _ _ _ h => h) (Or.inl ⟨by rfl, ?_⟩) ?_ ?_
    rotate_left
    ·intro w'
     go_simp
     with_reducible rfl
    rotate_left
    ·simp only [Act.put, List.setIfInBounds_toArray, List.set_cons_zero, List.set_cons_succ, i64_w, i32_w]
     rfl
    refine take_ (i := 8) (N := some 36) (v := ?_) (a' := ?_) #[true, true, true, true, false, false, true, true, true, false, false] rfl rfl (by kernel_rfl) (fun _ _ _ h => h) (Or.inl ⟨by rfl, ?_⟩) hHeld ?_ ?_
    rotate_left
    ·intro w' s0
     go_simp
     with_reducible rfl
    rotate_left
    ·simp only [Act.put, List.setIfInBounds_toArray, List.set_cons_zero, List.set_cons_succ, i64_w, i32_w]
     rfl
    refine one_ (i := 4) (N := some 32) #[true, true, true, true, true, false, true, true, true, false, false] rfl rfl (by kernel_rfl) (by decide) (fun K hK => ?_)
    refine value_ (w1 := ?_) (v := ?_) (by rfl) rfl ?_ ?_
    rotate_left 2
    ·go_simp
     constructor
     ·rfl
     ·rfl
    have hs := HS.out.lit_ro kU8 5 (xs := [(nq : Int)]) (inner := [.int .u8 (nq : Int)]) (Reps.one (PK.scalar _) (Reps.none _ _)) (by simp)
    clear HS; have HS := Aside0.mk hs; clear hs
    refine hK.out _ _ ((pw_cell_below HS.out.below HYA.out)) (fun hHeld => ?_)
    clear hK K
    refine norm_ (a' := ?_) ?_ ?_
    rotate_left
    ·show Act.put _ (some 32) _ = _
     simp only [Act.put, List.setIfInBounds_toArray, List.set_cons_zero, List.set_cons_succ, i64_w, i32_w]
     rfl
    refine one_ (i := 5) (N := some 33) #[true, true, true, true, true, true, true, true, true, false, false] rfl rfl (by kernel_rfl) (by decide) (fun K hK => ?_)
    refine sgrow_step kU8 i (by rfl) rfl (.tmp 29) (.tmp 32) 22 5 (.int .u8 0) 1 rfl Tryd.underlying22 info5 rfl (by decide) (by omega) _ _ ys [(nq : Int)] rfl rfl HS.out (by rw [List.getElem?_append_left hlt2]; exact hg) (HS.out.ro _ List.getElem?_concat_length) (by have := HLEN.out; rw [List.length_singleton]; omega) ?_
    intro v1 w1 hs
    rw [List.set_append, if_pos hlt2, List.set_set] at hs
    have hs := hs.sub (List.sublist_append_left _ _)
    clear HS; have HS := Aside0.mk hs; clear hs
    refine hK.out _ _ ((pw_cell_below HS.out.below HYA.out)) (fun hHeld => ?_)
    clear hK K
    refine norm_ (a' := ?_) ?_ ?_
    rotate_left
    ·show Act.put _ (some 33) _ = _
     simp only [Act.put, List.setIfInBounds_toArray, List.set_cons_zero, List.set_cons_succ, i64_w, i32_w]
     rfl
    refine one_ (i := 9) (N := some 37) #[true, true, true, true, true, true, true, true, true, true, false] rfl rfl (by kernel_rfl) (by decide) (fun K hK => ?_)
    refine goesf_ Tryd.func20 (by kernel_rfl) rfl #[v1, .int .i64 x] (by rfl) rfl rfl (by rfl) (by simp only [List.map_toArray, List.map_cons, List.map_nil]; rfl) ?_
    with_reducible refine (lay2_calls X w0 _ (L.set i (.row kU8 5 v1 (ys ++ [(nq : Int)]))) i v1 (ys ++ [(nq : Int)]) x HS.out (List.getElem?_set_self hlt) HXB.out (by have := HLEN.out; rw [List.length_append, List.length_singleton]; omega)).mono ?_
    rintro e w9 ⟨v9, rfl, hs⟩
    refine ⟨_, rfl, ?_⟩
    rw [List.set_set] at hs
    clear HS; have HS := Aside0.mk hs; clear hs
    refine hK.out _ _ ((pw_cell_below HS.out.below HYA.out)) (fun hHeld => ?_)
    clear hK K
    refine norm_ (a' := ?_) ?_ ?_
    rotate_left
    ·show Act.put _ (some 37) _ = _
     simp only [Act.put, List.setIfInBounds_toArray, List.set_cons_zero, List.set_cons_succ, i64_w, i32_w]
     rfl
    refine pure_ (i := 10) (N := some 0) (v := ?_) (a' := ?_) #[true, true, true, true, true, true, true, true, true, true, true] rfl rfl (by kernel_rfl) (fun _ _ _ h => h) (Or.inl ⟨by rfl, ?_⟩) ?_ ?_
    rotate_left
    ·intro w'
     go_simp
     with_reducible rfl
    rotate_left
    ·simp only [Act.put, List.setIfInBounds_toArray, List.set_cons_zero, List.set_cons_succ, i64_w, i32_w]
     rfl
    refine done_ (by kernel_rfl) ?_
    obtain ⟨j0, hj0, _, hjz0, _⟩ := info_parts info3'
    obtain ⟨u9, hu9, hrun9⟩ := H1.out.from_ (P := Tryd.prog) 34 3 Tryd.underlying34 hj0 hjz0 nq (by have := HQL.out; have := HNQ.out; omega)
    clear hj0 hjz0
    have HU9 := Aside0.mk hu9
    clear hu9
    go_wp2_with fail
    go_roundg (t.drop nq).length
    case measure => rw [List.length_drop]; have := HQL.out; have := HNQ.out; have := HZ.out; omega
    case rel =>
     obtain ⟨f', hf1, hf2⟩ := HR2.out
     refine ⟨t.drop nq, ys ++ [(nq : Int)] ++ (fun x => two15 (x + 1)) x, f', ⟨rfl⟩, HU9, ⟨by rw [List.length_drop]; have := HZ.out; have := HNQ.out; omega, hf2⟩, ⟨?_⟩, ⟨fun y hy => HBD.out y (List.mem_of_mem_drop hy)⟩, HS⟩
     have h1 := HLEN.out
     have h2 := HNQ.out
     have h3 := HQL.out
     simp only [List.length_append, List.length_drop, List.length_singleton, two15, List.length_cons, List.length_nil]
     omega
end Go.Proofs.YtplhfgobeicegaaDoor.P
namespace Go.Proofs.YtplhfgobeicegaaDoor.P
open Go Go.RowKit Go.Proofs.YtplhfgobeicegaaDoorW.PrintWords Go.Proofs.YtplhfgobeicegaaDoorW.PrintLast Go.Proofs.YtplhfgobeicegaaDoorW.PrintMore Go.Proofs.YtplhfgobeicegaaDoor.PX
attribute [local go_sem] max2_int min2_int max_two min_two
set_option linter.unusedVariables false
set_option linter.unusedSimpArgs false
set_option maxRecDepth 100000
def maxGo : List Int → Int → Int
 | [], a => a
 | x :: t, a => maxGo t (if a < x then x else a)
def maxF (xs : List Int) : Int := maxGo (xs.drop 1) (xs.getD 0 0)
theorem maxGo_le (m : Int) : ∀ (t : List Int) (a : Int), maxGo t a ≤ m ↔ a ≤ m ∧ ∀ x ∈ t, x ≤ m
 | [], a => by simp [maxGo]
 | x :: t, a => by
  rw [maxGo, maxGo_le m t]
  simp only [List.mem_cons, forall_eq_or_imp]
  split <;> constructor <;> (rintro ⟨h1, h2⟩; first | exact ⟨by omega, by omega, h2⟩ | (obtain ⟨h2, h3⟩ := h2; exact ⟨by omega, h3⟩))
theorem maxF_le (xs : List Int) (m : Int) (h : 1 ≤ xs.length) : maxF xs ≤ m ↔ ∀ x ∈ xs, x ≤ m := by
 unfold maxF
 rw [maxGo_le]
 cases xs with
 | nil => simp at h
 | cons y t => simp
set_option maxHeartbeats 4000000 in
theorem maxI_calls (X : Nat → Prop) (v : Value) (xs : List Int) (w : World) (hv : PV kInt X w v xs) (h1 : 1 ≤ xs.length) :
  Calls Tryd.prog 14 #[v] w fun e w' => e = .returned (.int .i64 (maxF xs)) ∧ w' = w := by
 have H0 := Aside0.mk hv
 have m0 := hv.max
 obtain ⟨A0, c0, rfl, _, _⟩ := hv.now
 obtain ⟨r, hr⟩ : ∃ r, r = maxF xs := ⟨_, rfl⟩
 rw [← hr]
 have HR := Aside0.mk (show maxGo (xs.drop 1) (xs.getD 0 0) = r from hr.symm)
 have e0 : decide ((xs.length : Int) < 1) = false := decide_eq_false (by omega)
 have e0' : decide (xs.length < 1) = false := decide_eq_false (by omega)
 have ht0 : 0 < xs.length := by omega
 have ht1 : (0 : Int) < (xs.length : Int) := by omega
 obtain ⟨ad, cd, ed, ya⟩ := int_cell H0.out 0 ht0
 cases ed
 change World.cell? _ ad = _ at ya
 generalize xs.getD 0 0 = a0 at *
 clear hv hr
 go_enter Tryd.func14, Tryd.ntmps14
 go_wp2_with fail
 clear e0 e0'
 go_loopg [3, 4] xs.length (fun m v3 v4 w' => ∃ (i : Nat) (a : Int), (v4 = .int .i64 i ∧ v3 = .int .i64 a) ∧ Aside0 (i + m = xs.length + 1) ∧ Aside0 (1 ≤ i ∧ i ≤ xs.length) ∧ Aside0 (maxGo (xs.drop i) a = r) ∧ w' = w)
 case atStart => exact ⟨1, a0, ⟨rfl, rfl⟩, ⟨by omega⟩, ⟨by omega⟩, HR, rfl⟩
 case round =>
  clear HR
  obtain ⟨i, a, ⟨rfl, rfl⟩, HJ, HI, HR, hw⟩ := hrel
  obtain rfl := hw.symm
  rcases Nat.lt_or_ge i xs.length with hi | hi
  case inr =>
   have e1 : decide ((i : Int) < (xs.length : Int)) = false := decide_eq_false (by omega)
   have e2 : decide (i < xs.length) = false := decide_eq_false (by omega)
   have hr : a = r := by have h := HR.out; rw [List.drop_eq_nil_of_le hi, maxGo] at h; exact h
   clear HR
   subst hr
   go_wp2_with fail
   go_ret
   exact ⟨rfl, rfl⟩
  case inl =>
   cases gk with
   | zero => have := HJ.out; omega
   | succ k1 =>
    have e1 : decide ((i : Int) < (xs.length : Int)) = true := decide_eq_true (by omega)
    have e2 : decide (i < xs.length) = true := decide_eq_true hi
    have hi0 : (0 : Int) ≤ (i : Int) := by omega
    have hi1 : (i : Int) < (xs.length : Int) := by omega
    obtain ⟨ad2, cd2, ed2, yb⟩ := int_cell H0.out i hi
    cases ed2
    have HR2 := Aside0.mk (show maxGo (xs.drop (i + 1)) (if a < xs.getD i 0 then xs.getD i 0 else a) = r by rw [← HR.out, drop_at xs 0 i hi, maxGo])
    generalize xs.getD i 0 = b at *
    clear HR
    rcases Decidable.em (a < b) with hab | hab
    case' inl =>
     have HR3 := Aside0.mk (show maxGo (xs.drop (i + 1)) b = r by have h := HR2.out; rw [if_pos hab] at h; exact h)
    case' inr =>
     have HR3 := Aside0.mk (show maxGo (xs.drop (i + 1)) a = r by have h := HR2.out; rw [if_neg hab] at h; exact h)
    all_goals
     clear HR2
     go_wp2_with fail
     go_roundg k1
     case measure => omega
     case rel => exact ⟨i + 1, _, ⟨by go_num, rfl⟩, ⟨by have := HJ.out; omega⟩, ⟨by have := HI.out; omega⟩, HR3, rfl⟩
set_option maxHeartbeats 4000000 in
theorem maxB_calls (X : Nat → Prop) (v : Value) (xs : List Int) (w : World) (hv : PV kU8 X w v xs) (h1 : 1 ≤ xs.length) :
  Calls Tryd.prog 28 #[v] w fun e w' => e = .returned (.int .u8 (maxF xs)) ∧ w' = w := by
 have H0 := Aside0.mk hv
 have m0 := hv.max
 obtain ⟨A0, c0, rfl, _, _⟩ := hv.now
 obtain ⟨r, hr⟩ : ∃ r, r = maxF xs := ⟨_, rfl⟩
 rw [← hr]
 have HR := Aside0.mk (show maxGo (xs.drop 1) (xs.getD 0 0) = r from hr.symm)
 have e0 : decide ((xs.length : Int) < 1) = false := decide_eq_false (by omega)
 have e0' : decide (xs.length < 1) = false := decide_eq_false (by omega)
 have ht0 : 0 < xs.length := by omega
 have ht1 : (0 : Int) < (xs.length : Int) := by omega
 obtain ⟨ad, cd, ed, ya⟩ := u8_cell H0.out 0 ht0
 cases ed
 change World.cell? _ ad = _ at ya
 generalize xs.getD 0 0 = a0 at *
 clear hv hr
 go_enter Tryd.func28, Tryd.ntmps28
 go_wp2_with fail
 clear e0 e0'
 go_loopg [3, 4] xs.length (fun m v3 v4 w' => ∃ (i : Nat) (a : Int), (v4 = .int .i64 i ∧ v3 = .int .u8 a) ∧ Aside0 (i + m = xs.length + 1) ∧ Aside0 (1 ≤ i ∧ i ≤ xs.length) ∧ Aside0 (maxGo (xs.drop i) a = r) ∧ w' = w)
 case atStart => exact ⟨1, a0, ⟨rfl, rfl⟩, ⟨by omega⟩, ⟨by omega⟩, HR, rfl⟩
 case round =>
  clear HR
  obtain ⟨i, a, ⟨rfl, rfl⟩, HJ, HI, HR, hw⟩ := hrel
  obtain rfl := hw.symm
  rcases Nat.lt_or_ge i xs.length with hi | hi
  case inr =>
   have e1 : decide ((i : Int) < (xs.length : Int)) = false := decide_eq_false (by omega)
   have e2 : decide (i < xs.length) = false := decide_eq_false (by omega)
   have hr : a = r := by have h := HR.out; rw [List.drop_eq_nil_of_le hi, maxGo] at h; exact h
   clear HR
   subst hr
   go_wp2_with fail
   go_ret
   exact ⟨rfl, rfl⟩
  case inl =>
   cases gk with
   | zero => have := HJ.out; omega
   | succ k1 =>
    have e1 : decide ((i : Int) < (xs.length : Int)) = true := decide_eq_true (by omega)
    have e2 : decide (i < xs.length) = true := decide_eq_true hi
    have hi0 : (0 : Int) ≤ (i : Int) := by omega
    have hi1 : (i : Int) < (xs.length : Int) := by omega
    obtain ⟨ad2, cd2, ed2, yb⟩ := u8_cell H0.out i hi
    cases ed2
    have HR2 := Aside0.mk (show maxGo (xs.drop (i + 1)) (if a < xs.getD i 0 then xs.getD i 0 else a) = r by rw [← HR.out, drop_at xs 0 i hi, maxGo])
    generalize xs.getD i 0 = b at *
    clear HR
    rcases Decidable.em (a < b) with hab | hab
    case' inl =>
     have HR3 := Aside0.mk (show maxGo (xs.drop (i + 1)) b = r by have h := HR2.out; rw [if_pos hab] at h; exact h)
    case' inr =>
     have HR3 := Aside0.mk (show maxGo (xs.drop (i + 1)) a = r by have h := HR2.out; rw [if_neg hab] at h; exact h)
    all_goals
     clear HR2
     go_wp2_with fail
     go_roundg k1
     case measure => omega
     case rel => exact ⟨i + 1, _, ⟨by go_num, rfl⟩, ⟨by have := HJ.out; omega⟩, ⟨by have := HI.out; omega⟩, HR3, rfl⟩
end Go.Proofs.YtplhfgobeicegaaDoor.P
namespace Go.Proofs.YtplhfgobeicegaaDoor.P
set_option linter.unusedVariables false
structure B32 (n : Nat) : Prop where
 lt : n < 4294967296
theorem mod32 (n : Nat) : B32 (n % 4294967296) := ⟨Nat.mod_lt _ (of_decide_eq_true rfl)⟩
def sumN (n c : Nat) : Nat := (n ^^^ c) * 16777619 % 4294967296
theorem sumN_lt (n c : Nat) : B32 (sumN n c) := mod32 _
def sumGo (b : List Int) (n : Nat) : Nat := b.foldl (fun m c => sumN m c.toNat) n
theorem sumGo_nil (n : Nat) : sumGo [] n = n := by unfold sumGo; rw [List.foldl_nil]
theorem sumGo_cons (c : Int) (t : List Int) (n : Nat) : sumGo (c :: t) n = sumGo t (sumN n c.toNat) := by unfold sumGo; rw [List.foldl_cons]
def sumL (b : List Int) : Nat := sumGo b 2166136261
theorem sumGo_lt (b : List Int) : ∀ n : Nat, B32 n → B32 (sumGo b n) := by
 induction b with
 | nil => intro n h; rw [sumGo_nil]; exact h
 | cons c t ih => intro n h; rw [sumGo_cons]; exact ih _ (sumN_lt _ _)
theorem inv_mod (a P Q M : Nat) (h : P * Q % M = 1) (ha : a < M) : a * P % M * Q % M = a := by
 rw [Nat.mod_mul_mod, Nat.mul_assoc, ← Nat.mul_mod_mod, h, Nat.mul_one, Nat.mod_eq_of_lt ha]
theorem inv_one : 16777619 * 899433627 % 4294967296 = 1 := by simp
theorem mul_inj (a b P Q M : Nat) (h1 : P * Q % M = 1) (ha : a < M) (hb : b < M) (h : a * P % M = b * P % M) : a = b := by
 have e1 := inv_mod a P Q M h1 ha
 have e2 := inv_mod b P Q M h1 hb
 rw [h] at e1
 exact e1.symm.trans e2
theorem mul_inj32 {a b : Nat} (ha : B32 a) (hb : B32 b) (h : a * 16777619 % 4294967296 = b * 16777619 % 4294967296) : a = b := mul_inj a b _ _ _ inv_one ha.lt hb.lt h
theorem xor32 {n c : Nat} (hn : B32 n) (hc : B32 c) : B32 (n ^^^ c) := ⟨by
 have := Nat.xor_lt_two_pow (n := 32) (x := n) (y := c) hn.lt hc.lt
 exact this⟩
theorem b32 {c : Nat} (h : c < 256) : B32 c := ⟨Nat.lt_of_lt_of_le h (of_decide_eq_true rfl)⟩
theorem xor_inj {n m c : Nat} (h : n ^^^ c = m ^^^ c) : n = m := by
 have h2 : (n ^^^ c) ^^^ c = (m ^^^ c) ^^^ c := by rw [h]
 rwa [Nat.xor_assoc, Nat.xor_assoc, Nat.xor_self, Nat.xor_zero, Nat.xor_zero] at h2
theorem xor_inj2 {n c d : Nat} (h : n ^^^ c = n ^^^ d) : c = d := by
 rw [Nat.xor_comm n c, Nat.xor_comm n d] at h
 exact xor_inj h
theorem sumN_inj {n m c : Nat} (hn : B32 n) (hm : B32 m) (hc : c < 256) (h : sumN n c = sumN m c) : n = m := by
 unfold sumN at h
 exact xor_inj (mul_inj32 (xor32 hn (b32 hc)) (xor32 hm (b32 hc)) h)
theorem sumN_inj2 {n c d : Nat} (hn : B32 n) (hc : c < 256) (hd : d < 256) (h : sumN n c = sumN n d) : c = d := by
 unfold sumN at h
 exact xor_inj2 (mul_inj32 (xor32 hn (b32 hc)) (xor32 hn (b32 hd)) h)
theorem sumGo_inj (b : List Int) : ∀ n m : Nat, (∀ c ∈ b, 0 ≤ c ∧ c < 256) → B32 n → B32 m → sumGo b n = sumGo b m → n = m := by
 induction b with
 | nil => intro n m _ _ _ h; rw [sumGo_nil, sumGo_nil] at h; exact h
 | cons c t ih =>
  intro n m hb hn hm h
  have hc := hb c List.mem_cons_self
  rw [sumGo_cons, sumGo_cons] at h
  exact sumN_inj hn hm (by omega) (ih _ _ (fun x hx => hb x (List.mem_cons_of_mem _ hx)) (sumN_lt _ _) (sumN_lt _ _) h)
theorem sumGo_set (b : List Int) : ∀ (n k : Nat) (x : Int), (∀ c ∈ b, 0 ≤ c ∧ c < 256) → (0 ≤ x ∧ x < 256) → B32 n → k < b.length → sumGo (b.set k x) n = sumGo b n → x = b.getD k 0 := by
 induction b with
 | nil => intro n k x _ _ _ hk _; simp at hk
 | cons c t ih =>
  intro n k x hb hx hn hk h
  have hc := hb c List.mem_cons_self
  have ht : ∀ y ∈ t, 0 ≤ y ∧ y < 256 := fun y hy => hb y (List.mem_cons_of_mem _ hy)
  cases k with
  | zero =>
   rw [List.set_cons_zero, sumGo_cons, sumGo_cons] at h
   have h1 := sumGo_inj t _ _ ht (sumN_lt _ _) (sumN_lt _ _) h
   have h2 := sumN_inj2 hn (by omega) (by omega) h1
   rw [List.getD_cons_zero]
   omega
  | succ k =>
   rw [List.set_cons_succ, sumGo_cons, sumGo_cons] at h
   rw [List.getD_cons_succ]
   exact ih _ k x ht hx (sumN_lt _ _) (by simpa using hk) h
theorem sum_start : B32 2166136261 := ⟨of_decide_eq_true rfl⟩
theorem sumL_lt (b : List Int) : B32 (sumL b) := sumGo_lt b _ sum_start
theorem sumL_set (b : List Int) (k : Nat) (x : Int) (hb : ∀ c ∈ b, 0 ≤ c ∧ c < 256) (hx : 0 ≤ x ∧ x < 256) (hk : k < b.length) (h : sumL (b.set k x) = sumL b) : x = b.getD k 0 :=
 sumGo_set b _ k x hb hx sum_start hk h
end Go.Proofs.YtplhfgobeicegaaDoor.P
namespace Go.Proofs.YtplhfgobeicegaaDoor.P
open Go Go.RowKit Go.Proofs.YtplhfgobeicegaaDoorW.PrintWords Go.Proofs.YtplhfgobeicegaaDoorW.PrintLast Go.Proofs.YtplhfgobeicegaaDoorW.PrintMore Go.Proofs.YtplhfgobeicegaaDoor.PX
set_option linter.unusedVariables false
set_option linter.unusedSimpArgs false
set_option maxRecDepth 100000
theorem step32 {n q : Nat} (hn : B32 n) (hq : q < 256) : bits .xor .u32 (n : Int) ((q : Int) % 4294967296) * 16777619 % 4294967296 = ((sumN n q : Nat) : Int) := by
 have h1 : (q : Int) % 4294967296 = q := Int.emod_eq_of_lt (Int.natCast_nonneg q) (by omega)
 rw [h1, u32_xor_nat n q hn.lt (b32 hq).lt]
 unfold sumN
 rw [Int.natCast_emod, Int.natCast_mul]
 rfl
set_option maxHeartbeats 4000000 in
theorem psum_calls (X : Nat → Prop) (v : Value) (b : List Int) (w : World) (hv : PV kU8 X w v b) (hu : U8s b) :
  Calls Tryd.prog 7 #[v] w fun e w' => e = .returned (.int .u32 (sumL b)) ∧ w' = w := by
 have H0 := Aside0.mk hv
 have HU := Aside0.mk hu
 have m0 := hv.max
 obtain ⟨A0, c0, rfl, _, _⟩ := hv.now
 obtain ⟨r, hr⟩ : ∃ r, r = sumL b := ⟨_, rfl⟩
 rw [← hr]
 have HR := Aside0.mk (show sumGo (b.drop 0) 2166136261 = r from hr.symm)
 have HB := Aside0.mk sum_start
 clear hv hu hr
 go_enter Tryd.func7, Tryd.ntmps7
 go_wp2_with fail
 go_loopg [3, 5, 8] b.length (fun m v3 v5 v8 w' => ∃ (i n : Nat), (v8 = .int .i64 i ∧ v3 = .int .u32 n) ∧ Aside0 (i + m = b.length) ∧ Aside0 (B32 n) ∧ Aside0 (sumGo (b.drop i) n = r) ∧ w' = w)
 case atStart => exact ⟨0, 2166136261, ⟨rfl, rfl⟩, ⟨by omega⟩, HB, HR, rfl⟩
 case round =>
  clear HR HB
  obtain ⟨i, n, ⟨rfl, rfl⟩, HJ, HB, HR, hw⟩ := hrel
  obtain rfl := hw.symm
  cases gk with
  | zero =>
   have e1 : decide ((i : Int) < (b.length : Int)) = false := decide_eq_false (by have := HJ.out; omega)
   have e2 : decide (i < b.length) = false := decide_eq_false (by have := HJ.out; omega)
   have hr : n = r := by have h := HR.out; rw [List.drop_eq_nil_of_le (by have := HJ.out; omega), sumGo_nil] at h; exact h
   clear HR HB
   subst hr
   go_wp2_with fail
   go_ret
   exact ⟨rfl, rfl⟩
  | succ k1 =>
   have hi : i < b.length := by have := HJ.out; omega
   have e1 : decide ((i : Int) < (b.length : Int)) = true := decide_eq_true (by omega)
   have e2 : decide (i < b.length) = true := decide_eq_true hi
   have hi0 : (0 : Int) ≤ (i : Int) := by omega
   have hi1 : (i : Int) < (b.length : Int) := by omega
   obtain ⟨ad, cd, ed, ya⟩ := u8_cell H0.out i hi
   cases ed
   obtain ⟨q, hq, hq2⟩ := u8s_at HU.out i hi
   have HR2 := Aside0.mk (show sumGo (b.drop (i + 1)) (sumN n q) = r by rw [← HR.out, drop_at b 0 i hi, sumGo_cons, hq, Int.toNat_natCast])
   rw [hq] at ya
   clear hq HR
   have HB2 := Aside0.mk (sumN_lt n q)
   have HQ := Aside0.mk (And.intro hq2 HB.out)
   clear hq2
   go_wp2_with fail
   rw [step32 HQ.out.2 HQ.out.1]
   go_roundg k1
   case measure => omega
   case rel => exact ⟨i + 1, sumN n q, ⟨by go_num, rfl⟩, ⟨by have := HJ.out; omega⟩, HB2, HR2, rfl⟩
end Go.Proofs.YtplhfgobeicegaaDoor.P
