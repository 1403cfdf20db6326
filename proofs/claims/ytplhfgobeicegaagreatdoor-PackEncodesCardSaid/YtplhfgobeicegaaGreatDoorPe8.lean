/- Part 8 of the proof: V4. -/
import Derived.Laws.BitsAllLaws
import Derived.Test.YtplhfgobeicegaaGreatDoorPe7
namespace Go.Proofs.YtplhfgobeicegaaGreatDoor.PX
open Go Go.RowKit Go.Proofs.YtplhfgobeicegaaGreatDoorW.PrintWords Go.Proofs.YtplhfgobeicegaaGreatDoorW.PrintLast
section
variable {P : Program} {ops : Array Oper} {Q : Exit → Act → World → Prop}
theorem goesf_ {oi : Oper} {N : Option Tmp} {a : Act} {w : World} {K : Act → World → Prop} {f : FuncId} {fn : Func} {aa : Array Operand} {ts : Array TypeId} {o : Operand} {lb : Array Value} (hf : P.funcs[f]? = some fn) (hname : (fn.name == "runtime.NumGoroutine") = false) (hb : fn.body.isSome = true) (args : Array Value)
  (hw : Region.wanted oi (yielded ops a.tmps) = true) (hN : oi.dst = N) (hop : oi.op = .call { callee := .value o, args := aa, argTypes := ts }) (ho : a.eval o = .func (.func f) #[] lb) (hargs : aa.map a.eval ++ lb = args)
  (h : Calls P f args w fun e w' => ∃ v, e = .returned v ∧ K (a.put N v) w') : if Region.wanted oi (yielded ops a.tmps) = true then Oper.wp P oi a w K Q else K (a.put N undef) w := by
 refine call_ f args hw hN ?_ h
 have he := enters_ hf hname hb args w
 unfold execOp
 simp [hop, resolve, ho, Deferred.ofValue, invoke, hargs, he]
end
end Go.Proofs.YtplhfgobeicegaaGreatDoor.PX
namespace Go.Proofs.YtplhfgobeicegaaGreatDoor.P
open Go Go.RowKit Go.Proofs.YtplhfgobeicegaaGreatDoorW.PrintWords Go.Proofs.YtplhfgobeicegaaGreatDoorW.PrintLast Go.Proofs.YtplhfgobeicegaaGreatDoorW.PrintMore Go.Proofs.YtplhfgobeicegaaGreatDoor.PX
attribute [local go_sem] max2_int min2_int max_two min_two
set_option linter.unusedVariables false
set_option linter.unusedSimpArgs false
set_option maxRecDepth 100000
def lead (x : Int) : Nat → List Int → Nat
 | 0, _ => 0
 | _ + 1, [] => 0
 | f + 1, y :: t => if y = x then lead x f t + 1 else 0
def runsF (lay : Int → List Int) : Nat → List Int → List Int
 | 0, _ => []
 | _ + 1, [] => []
 | f + 1, x :: t => ((lead x 254 t + 1 : Nat) : Int) :: (lay x ++ runsF lay f (t.drop (lead x 254 t)))
theorem lead_le (x : Int) : ∀ (f : Nat) (t : List Int), lead x f t ≤ f ∧ lead x f t ≤ t.length
 | 0, t => by simp [lead]
 | f + 1, [] => by simp [lead]
 | f + 1, y :: t => by
  have := lead_le x f t
  rw [lead, List.length_cons]
  split <;> omega
theorem lead_at (x : Int) (f : Nat) (t : List Int) (n : Nat) (h : n < t.length) : lead x (f + 1) (t.drop n) = if t.getD n 0 = x then lead x f (t.drop (n + 1)) + 1 else 0 := by
 rw [drop_at t 0 n h, lead]
theorem lead_nil (x : Int) (f : Nat) : lead x f [] = 0 := by cases f <;> rfl
theorem lead_0 (x : Int) (t : List Int) : lead x 0 t = 0 := by cases t <;> rfl
theorem runsF_nil (lay : Int → List Int) (f : Nat) : runsF lay f [] = [] := by cases f <;> rfl
set_option maxHeartbeats 16000000 in
theorem runsB_calls (X : Nat → Prop) (w0 w : World) (L : List PX.Item) (i : Nat) (v vl : Value) (xs l : List Int) (hs : Sep X w0 w L) (hi : L[i]? = some (.row kU8 5 v xs)) (hl : PV kU8 X w0 vl l) (hlen : xs.length + 3 * l.length ≤ 1000000000) :
  Calls Tryz.prog 19 #[v, vl, .func (.func 20) #[] #[]] w fun ee w' => ∃ v1, ee = .returned v1 ∧ Sep X w0 w' (L.set i (.row kU8 5 v1 (xs ++ runsF (fun x => [x]) l.length l))) := by
 have HS := aM hs
 have H1 := aM hl
 have m0 := hl.max
 obtain ⟨A0, c0, rfl⟩ := hs.form i hi
 obtain ⟨A1, c1, rfl, _, _⟩ := hl.now
 have hlt : i < L.length := (List.getElem?_eq_some_iff.1 hi).1
 have HI := aM hi
 have HLEN := aM hlen
 have hs2 : Sep X w0 w (L.set i (.row kU8 5 (.slice A0 xs.length c0) xs)) := by
  rw [show L.set i (.row kU8 5 (.slice A0 xs.length c0) xs) = L from by
   obtain ⟨h1, h2⟩ := List.getElem?_eq_some_iff.1 hi
   rw [← h2]; exact List.set_getElem_self h1]
  exact hs
 obtain ⟨r, hr⟩ : ∃ r, r = xs ++ runsF (fun x => [x]) l.length l := ⟨_, rfl⟩
 rw [← hr]
 have HR := aM hr.symm
 clear HS
 have HS := aM hs2
 clear hs hi hl hlen hs2 hr
 go_enter Tryz.func19, Tryz.ntmps19
 go_wp2_with fail
 go_loopg [0, 1, 7] l.length (fun m v0 v1 v7 w' => ∃ (t ys : List Int) (f : Nat), Aside0 (t.length = m) ∧ Aside0 (PV kU8 X w0 v1 t) ∧ Aside0 (t.length ≤ f ∧ ys ++ runsF (fun x => [x]) f t = r) ∧ Aside0 (ys.length + 3 * t.length ≤ 1000000000) ∧ Aside0 (Sep X w0 w' (L.set i (.row kU8 5 v0 ys))))
 case atStart => exact ⟨l, xs, l.length, ⟨rfl⟩, H1, ⟨Nat.le_refl _, HR.out⟩, HLEN, HS⟩
 case round =>
  clear HS H1 HR HLEN
  obtain ⟨t, ys, f, HM, H1, HR, HLEN, HS⟩ := hrel
  obtain ⟨A2, c2, rfl, _, _⟩ := H1.out.now
  obtain ⟨A3, c3, e3⟩ := HS.out.form i (List.getElem?_set_self hlt)
  subst e3
  have m1 := H1.out.max
  cases gk with
  | zero =>
   have hz : t.length = 0 := HM.out
   have e1 : decide ((t.length : Int) > 0) = false := dF (by omega)
   have e2 : decide (0 < t.length) = false := dF (by omega)
   have hr : ys = r := by have h := HR.out.2; rw [List.length_eq_zero_iff.1 hz, runsF_nil, List.append_nil] at h; exact h
   subst hr
   clear HR HM hz
   go_wp2_with fail
   go_ret
   exact ⟨_, rfl, HS.out⟩
  | succ k1 =>
   have hz : t.length = k1 + 1 := HM.out
   have e1 : decide ((t.length : Int) > 0) = true := dT (by omega)
   have e2 : decide (0 < t.length) = true := dT (by omega)
   obtain ⟨x, hx⟩ : ∃ x, x = t.getD 0 0 := ⟨_, rfl⟩
   obtain ⟨q, hq⟩ : ∃ q, q = lead x 254 (t.drop 1) := ⟨_, rfl⟩
   have hql := lead_le x 254 (t.drop 1)
   rw [← hq, List.length_drop] at hql
   have HQL := aM hql
   have HR2 := aM (show ∃ f', k1 ≤ f' ∧ (ys ++ [((q + 1 : Nat) : Int)] ++ (fun x => [x]) x) ++ runsF (fun x => [x]) f' (t.drop (q + 1)) = r by
    obtain ⟨h1, h2⟩ := HR.out
    cases f with
    | zero => omega
    | succ f' =>
     refine ⟨f', by omega, ?_⟩
     have ht : t = x :: t.drop 1 := by
      rw [hx]
      have := drop_at t 0 0 (by omega)
      simpa using this
     rw [ht, runsF, ← hq, List.drop_drop] at h2
     rw [← h2, show q + 1 = 1 + q by omega]
     simp [Nat.add_comm])
   have HQ := aM (show 0 + lead x (255 - 1) (t.drop 1) = q by rw [hq, Nat.zero_add])
   obtain ⟨ad, cd, ed, ya0⟩ := u8_cell H1.out 0 (by omega)
   cases ed
   rw [← hx] at ya0
   change World.cell? _ ad = _ at ya0
   have ht0 : 0 < t.length := by omega
   have ht1 : (0 : Int) < (t.length : Int) := by omega
   have HX := aM hx
   have HYA := aM ya0
   have HZ := aM hz
   clear hx hq hql HR HM ya0 hz
   go_upto_block 2 with fail
   clear e1 e2
   go_cut [7] (fun v7 wc => v7 = .int .i64 ((q + 1 : Nat) : Int) ∧ Aside0 (Sep X w0 wc (L.set i (.row kU8 5 (.slice A3 ys.length c3) ys))))
   case first =>
    go_wp2_with fail
    go_loopg [7] 254 (fun m v7 w' => ∃ (n : Nat), v7 = .int .i64 n ∧ Aside0 (n + m = 255) ∧ Aside0 (1 ≤ n ∧ n ≤ t.length) ∧ Aside0 ((n - 1) + lead x (255 - n) (t.drop n) = q) ∧ Aside0 (Sep X w0 w' (L.set i (.row kU8 5 (.slice A3 ys.length c3) ys))))
    case atStart => exact ⟨1, rfl, ⟨by omega⟩, ⟨by omega⟩, HQ, HS⟩
    case round =>
     clear HS HQ
     obtain ⟨n, rfl, HN, HNL, HQ, HS⟩ := hrel
     have hn := HN.out
     have hnl := HNL.out
     by_cases hcond : n < t.length ∧ n < 255 ∧ t.getD n 0 = x
     case pos =>
      obtain ⟨h1, h2, h3⟩ := hcond
      cases gk with
      | zero => omega
      | succ m1 =>
       have hn0 : (0 : Int) ≤ (n : Int) := by omega
       have hn1 : (n : Int) < (t.length : Int) := by omega
       obtain ⟨ad2, cd2, ed2, yb0⟩ := u8_cell H1.out n h1
       cases ed2
       rw [h3] at yb0
       have HYB := aM yb0
       clear yb0
       have d1 : decide ((n : Int) < (if 255 < (t.length : Int) then 255 else (t.length : Int))) = true := by split <;> exact dT (by omega)
       have d3 : (x == x) = true := beq_self_eq_true x
       go_wp2_with fail
       have hs := HS.out.drew
       clear HS; have HS := aM hs; clear hs
       refine start_ (n := 15) (S := fun w' => w'.cell? ad = some (.int .u8 x) ∧ w'.cell? (ad.add n) = some (.int .u8 x)) (ds := []) #[false, false, false, false, false, false, false, false, false, false, false, false, false, false, false] (by kernel_rfl) rfl rfl ⟨(pw_cell_below HS.out.below HYA.out), (pw_cell_below HS.out.below HYB.out)⟩ (fun hHeld => ?_)
       refine pure_ (i := 0) (N := some 11) (v := ?_) (a' := ?_) (bv 15 1) rfl rfl (by kernel_rfl) (fun _ _ _ h => h) (Or.inl ⟨by rfl, ?_⟩) ?_ ?_
       rotate_left
       ·intro w'
        go_simp
        with_reducible rfl
       rotate_left
       ·simp only [Act.put, qA, qB, qC, i64_w, i32_w]
        rfl
       refine pure_ (i := 1) (N := some 12) (v := ?_) (a' := ?_) (bv 15 3) rfl rfl (by kernel_rfl) (fun _ _ _ h => h) (Or.inl ⟨by rfl, ?_⟩) ?_ ?_
       rotate_left
       ·intro w'
        go_simp
        with_reducible rfl
       rotate_left
       ·simp only [Act.put, qA, qB, qC, i64_w, i32_w]
        rfl
       refine pure_ (i := 2) (N := some 13) (v := ?_) (a' := ?_) (bv 15 7) rfl rfl (by kernel_rfl) (fun _ _ _ h => h) (Or.inl ⟨by rfl, ?_⟩) ?_ ?_
       rotate_left
       ·intro w'
        go_simp
        with_reducible rfl
       rotate_left
       ·simp only [Act.put, qA, qB, qC, i64_w, i32_w]
        rfl
       refine pure_ (i := 3) (N := some 14) (v := ?_) (a' := ?_) (bv 15 15) rfl rfl (by kernel_rfl) (fun _ _ _ h => h) (Or.inl ⟨by rfl, ?_⟩) ?_ ?_
       rotate_left
       ·intro w'
        go_simp
        with_reducible rfl
       rotate_left
       ·simp only [Act.put, qA, qB, qC, i64_w, i32_w]
        rfl
       refine pure_ (i := 4) (N := some 15) (v := ?_) (a' := ?_) (bv 15 31) rfl rfl (by kernel_rfl) (fun _ _ _ h => h) (Or.inl ⟨by rfl, ?_⟩) ?_ ?_
       rotate_left
       ·intro w'
        go_simp
        with_reducible rfl
       rotate_left
       ·simp only [Act.put, qA, qB, qC, i64_w, i32_w]
        rfl
       refine pure_ (i := 5) (N := some 16) (v := ?_) (a' := ?_) (bv 15 63) rfl rfl (by kernel_rfl) (fun _ _ _ h => h) (Or.inl ⟨by rfl, ?_⟩) ?_ ?_
       rotate_left
       ·intro w'
        go_simp
        with_reducible rfl
       rotate_left
       ·simp only [Act.put, qA, qB, qC, i64_w, i32_w]
        rfl
       refine pure_ (i := 6) (N := some 17) (v := ?_) (a' := ?_) (bv 15 127) rfl rfl (by kernel_rfl) (fun _ _ _ h => h) (Or.inl ⟨by rfl, ?_⟩) ?_ ?_
       rotate_left
       ·intro w'
        go_simp
        with_reducible rfl
       rotate_left
       ·simp only [Act.put, qA, qB, qC, i64_w, i32_w]
        rfl
       refine pure_ (i := 7) (N := some 18) (v := ?_) (a' := ?_) (bv 15 255) rfl rfl (by kernel_rfl) (fun _ _ _ h => h) (Or.inl ⟨by rfl, ?_⟩) ?_ ?_
       rotate_left
       ·intro w'
        go_simp
        with_reducible rfl
       rotate_left
       ·simp only [Act.put, qA, qB, qC, i64_w, i32_w]
        rfl
       refine pure_ (i := 8) (N := some 19) (v := ?_) (a' := ?_) (bv 15 511) rfl rfl (by kernel_rfl) (fun _ _ _ h => h) (Or.inl ⟨by rfl, ?_⟩) ?_ ?_
       rotate_left
       ·intro w'
        go_simp
        with_reducible rfl
       rotate_left
       ·simp only [Act.put, qA, qB, qC, i64_w, i32_w]
        rfl
       refine pure_ (i := 10) (N := some 21) (v := ?_) (a' := ?_) (bv 15 1535) rfl rfl (by kernel_rfl) (fun _ _ _ h => h) (Or.inl ⟨by rfl, ?_⟩) ?_ ?_
       rotate_left
       ·intro w'
        go_simp
        with_reducible rfl
       rotate_left
       ·simp only [Act.put, qA, qB, qC, i64_w, i32_w]
        rfl
       refine pure_ (i := 11) (N := some 22) (v := ?_) (a' := ?_) (bv 15 3583) rfl rfl (by kernel_rfl) (fun _ _ _ h => h) (Or.inl ⟨by rfl, ?_⟩) ?_ ?_
       rotate_left
       ·intro w'
        go_simp
        with_reducible rfl
       rotate_left
       ·simp only [Act.put, qA, qB, qC, i64_w, i32_w]
        rfl
       refine take_ (i := 9) (N := some 20) (v := ?_) (a' := ?_) (bv 15 4095) rfl rfl (by kernel_rfl) (fun _ _ _ h => h) (Or.inl ⟨by rfl, ?_⟩) hHeld ?_ ?_
       rotate_left
       ·rintro w' ⟨s0, s1⟩
        go_simp
        with_reducible rfl
       rotate_left
       ·simp only [Act.put, qA, qB, qC, i64_w, i32_w]
        rfl
       refine take_ (i := 12) (N := some 23) (v := ?_) (a' := ?_) (bv 15 8191) rfl rfl (by kernel_rfl) (fun _ _ _ h => h) (Or.inl ⟨by rfl, ?_⟩) hHeld ?_ ?_
       rotate_left
       ·rintro w' ⟨s0, s1⟩
        go_simp
        with_reducible rfl
       rotate_left
       ·simp only [Act.put, qA, qB, qC, i64_w, i32_w]
        rfl
       refine pure_ (i := 13) (N := some 24) (v := ?_) (a' := ?_) (bv 15 16383) rfl rfl (by kernel_rfl) (fun _ _ _ h => h) (Or.inl ⟨by rfl, ?_⟩) ?_ ?_
       rotate_left
       ·intro w'
        go_simp
        with_reducible rfl
       rotate_left
       ·simp only [Act.put, qA, qB, qC, i64_w, i32_w]
        rfl
       refine pure_ (i := 14) (N := some 25) (v := ?_) (a' := ?_) (bv 15 32767) rfl rfl (by kernel_rfl) (fun _ _ _ h => h) (Or.inl ⟨by rfl, ?_⟩) ?_ ?_
       rotate_left
       ·intro w'
        go_simp
        with_reducible rfl
       rotate_left
       ·simp only [Act.put, qA, qB, qC, i64_w, i32_w]
        rfl
       refine done_ (by kernel_rfl) ?_
       generalize (if 255 < (t.length : Int) then (255 : Int) else (t.length : Int)) = mn
       go_wp2_with fail
       go_roundg m1
       case measure => omega
       case rel =>
        have h := HQ.out
        rw [show 255 - n = (255 - (n + 1)) + 1 by omega, lead_at x _ t n h1, if_pos h3] at h
        exact ⟨n + 1, by go_num, ⟨by omega⟩, ⟨by omega⟩, ⟨by omega⟩, HS⟩
     case neg =>
      have hqn : n - 1 = q := by
       have h := HQ.out
       rcases Nat.lt_or_ge n 255 with h2 | h2
       ·rcases Nat.lt_or_ge n t.length with h1 | h1
        ·rw [show 255 - n = (254 - n) + 1 by omega, lead_at x _ t n h1, if_neg (fun h3 => hcond ⟨h1, h2, h3⟩)] at h
         exact h
        ·rw [List.drop_eq_nil_of_le h1, lead_nil] at h; exact h
       ·rw [show 255 - n = 0 by omega, lead_0] at h; exact h
      have HQN := aM (show n = q + 1 by omega)
      clear HQ hqn
      rcases Decidable.em (n < 255 ∧ n < t.length) with hb | hb
      case inl =>
       obtain ⟨h2, h1⟩ := hb
       have h3 : ¬ t.getD n 0 = x := fun h3 => hcond ⟨h1, h2, h3⟩
       clear hcond
       have hn0 : (0 : Int) ≤ (n : Int) := by omega
       have hn1 : (n : Int) < (t.length : Int) := by omega
       obtain ⟨ad2, cd2, ed2, yb0⟩ := u8_cell H1.out n h1
       cases ed2
       generalize t.getD n 0 = y at *
       have d1 : decide ((n : Int) < (if 255 < (t.length : Int) then 255 else (t.length : Int))) = true := by split <;> exact dT (by omega)
       have d3 : (y == x) = false := bF h3
       have HYB := aM yb0
       clear yb0 h3
       go_wp2_with fail
       have hs := HS.out.drew
       clear HS; have HS := aM hs; clear hs
       refine start_ (n := 15) (S := fun w' => w'.cell? ad = some (.int .u8 x) ∧ w'.cell? (ad.add n) = some (.int .u8 y)) (ds := []) #[false, false, false, false, false, false, false, false, false, false, false, false, false, false, false] (by kernel_rfl) rfl rfl ⟨(pw_cell_below HS.out.below HYA.out), (pw_cell_below HS.out.below HYB.out)⟩ (fun hHeld => ?_)
       refine pure_ (i := 0) (N := some 11) (v := ?_) (a' := ?_) (bv 15 1) rfl rfl (by kernel_rfl) (fun _ _ _ h => h) (Or.inl ⟨by rfl, ?_⟩) ?_ ?_
       rotate_left
       ·intro w'
        go_simp
        with_reducible rfl
       rotate_left
       ·simp only [Act.put, qA, qB, qC, i64_w, i32_w]
        rfl
       refine pure_ (i := 1) (N := some 12) (v := ?_) (a' := ?_) (bv 15 3) rfl rfl (by kernel_rfl) (fun _ _ _ h => h) (Or.inl ⟨by rfl, ?_⟩) ?_ ?_
       rotate_left
       ·intro w'
        go_simp
        with_reducible rfl
       rotate_left
       ·simp only [Act.put, qA, qB, qC, i64_w, i32_w]
        rfl
       refine pure_ (i := 2) (N := some 13) (v := ?_) (a' := ?_) (bv 15 7) rfl rfl (by kernel_rfl) (fun _ _ _ h => h) (Or.inl ⟨by rfl, ?_⟩) ?_ ?_
       rotate_left
       ·intro w'
        go_simp
        with_reducible rfl
       rotate_left
       ·simp only [Act.put, qA, qB, qC, i64_w, i32_w]
        rfl
       refine pure_ (i := 3) (N := some 14) (v := ?_) (a' := ?_) (bv 15 15) rfl rfl (by kernel_rfl) (fun _ _ _ h => h) (Or.inl ⟨by rfl, ?_⟩) ?_ ?_
       rotate_left
       ·intro w'
        go_simp
        with_reducible rfl
       rotate_left
       ·simp only [Act.put, qA, qB, qC, i64_w, i32_w]
        rfl
       refine pure_ (i := 4) (N := some 15) (v := ?_) (a' := ?_) (bv 15 31) rfl rfl (by kernel_rfl) (fun _ _ _ h => h) (Or.inl ⟨by rfl, ?_⟩) ?_ ?_
       rotate_left
       ·intro w'
        go_simp
        with_reducible rfl
       rotate_left
       ·simp only [Act.put, qA, qB, qC, i64_w, i32_w]
        rfl
       refine pure_ (i := 5) (N := some 16) (v := ?_) (a' := ?_) (bv 15 63) rfl rfl (by kernel_rfl) (fun _ _ _ h => h) (Or.inl ⟨by rfl, ?_⟩) ?_ ?_
       rotate_left
       ·intro w'
        go_simp
        with_reducible rfl
       rotate_left
       ·simp only [Act.put, qA, qB, qC, i64_w, i32_w]
        rfl
       refine pure_ (i := 6) (N := some 17) (v := ?_) (a' := ?_) (bv 15 127) rfl rfl (by kernel_rfl) (fun _ _ _ h => h) (Or.inl ⟨by rfl, ?_⟩) ?_ ?_
       rotate_left
       ·intro w'
        go_simp
        with_reducible rfl
       rotate_left
       ·simp only [Act.put, qA, qB, qC, i64_w, i32_w]
        rfl
       refine pure_ (i := 7) (N := some 18) (v := ?_) (a' := ?_) (bv 15 255) rfl rfl (by kernel_rfl) (fun _ _ _ h => h) (Or.inl ⟨by rfl, ?_⟩) ?_ ?_
       rotate_left
       ·intro w'
        go_simp
        with_reducible rfl
       rotate_left
       ·simp only [Act.put, qA, qB, qC, i64_w, i32_w]
        rfl
       refine pure_ (i := 8) (N := some 19) (v := ?_) (a' := ?_) (bv 15 511) rfl rfl (by kernel_rfl) (fun _ _ _ h => h) (Or.inl ⟨by rfl, ?_⟩) ?_ ?_
       rotate_left
       ·intro w'
        go_simp
        with_reducible rfl
       rotate_left
       ·simp only [Act.put, qA, qB, qC, i64_w, i32_w]
        rfl
       refine pure_ (i := 10) (N := some 21) (v := ?_) (a' := ?_) (bv 15 1535) rfl rfl (by kernel_rfl) (fun _ _ _ h => h) (Or.inl ⟨by rfl, ?_⟩) ?_ ?_
       rotate_left
       ·intro w'
        go_simp
        with_reducible rfl
       rotate_left
       ·simp only [Act.put, qA, qB, qC, i64_w, i32_w]
        rfl
       refine pure_ (i := 11) (N := some 22) (v := ?_) (a' := ?_) (bv 15 3583) rfl rfl (by kernel_rfl) (fun _ _ _ h => h) (Or.inl ⟨by rfl, ?_⟩) ?_ ?_
       rotate_left
       ·intro w'
        go_simp
        with_reducible rfl
       rotate_left
       ·simp only [Act.put, qA, qB, qC, i64_w, i32_w]
        rfl
       refine take_ (i := 9) (N := some 20) (v := ?_) (a' := ?_) (bv 15 4095) rfl rfl (by kernel_rfl) (fun _ _ _ h => h) (Or.inl ⟨by rfl, ?_⟩) hHeld ?_ ?_
       rotate_left
       ·rintro w' ⟨s0, s1⟩
        go_simp
        with_reducible rfl
       rotate_left
       ·simp only [Act.put, qA, qB, qC, i64_w, i32_w]
        rfl
       refine take_ (i := 12) (N := some 23) (v := ?_) (a' := ?_) (bv 15 8191) rfl rfl (by kernel_rfl) (fun _ _ _ h => h) (Or.inl ⟨by rfl, ?_⟩) hHeld ?_ ?_
       rotate_left
       ·rintro w' ⟨s0, s1⟩
        go_simp
        with_reducible rfl
       rotate_left
       ·simp only [Act.put, qA, qB, qC, i64_w, i32_w]
        rfl
       refine pure_ (i := 13) (N := some 24) (v := ?_) (a' := ?_) (bv 15 16383) rfl rfl (by kernel_rfl) (fun _ _ _ h => h) (Or.inl ⟨by rfl, ?_⟩) ?_ ?_
       rotate_left
       ·intro w'
        go_simp
        with_reducible rfl
       rotate_left
       ·simp only [Act.put, qA, qB, qC, i64_w, i32_w]
        rfl
       refine pure_ (i := 14) (N := some 25) (v := ?_) (a' := ?_) (bv 15 32767) rfl rfl (by kernel_rfl) (fun _ _ _ h => h) (Or.inl ⟨by rfl, ?_⟩) ?_ ?_
       rotate_left
       ·intro w'
        go_simp
        with_reducible rfl
       rotate_left
       ·simp only [Act.put, qA, qB, qC, i64_w, i32_w]
        rfl
       refine done_ (by kernel_rfl) ?_
       generalize (if 255 < (t.length : Int) then (255 : Int) else (t.length : Int)) = mn
       go_wp2_with fail
       go_meet
       case rel => exact ⟨by rw [HQN.out], HS⟩
      case inr =>
       have d1 : decide ((n : Int) < (if 255 < (t.length : Int) then 255 else (t.length : Int))) = false := by split <;> exact dF (by omega)
       clear hcond hb
       go_wp2_with fail
       have hs := HS.out.drew
       clear HS; have HS := aM hs; clear hs
       refine start_ (n := 15) (S := fun w' => True) (ds := []) #[false, false, false, false, false, false, false, false, false, false, false, false, false, false, false] (by kernel_rfl) rfl rfl trivial (fun hHeld => ?_)
       refine pure_ (i := 0) (N := some 11) (v := ?_) (a' := ?_) (bv 15 1) rfl rfl (by kernel_rfl) (fun _ _ _ h => h) (Or.inl ⟨by rfl, ?_⟩) ?_ ?_
       rotate_left
       ·intro w'
        go_simp
        with_reducible rfl
       rotate_left
       ·simp only [Act.put, qA, qB, qC, i64_w, i32_w]
        rfl
       refine pure_ (i := 1) (N := some 12) (v := ?_) (a' := ?_) (bv 15 3) rfl rfl (by kernel_rfl) (fun _ _ _ h => h) (Or.inl ⟨by rfl, ?_⟩) ?_ ?_
       rotate_left
       ·intro w'
        go_simp
        with_reducible rfl
       rotate_left
       ·simp only [Act.put, qA, qB, qC, i64_w, i32_w]
        rfl
       refine pure_ (i := 2) (N := some 13) (v := ?_) (a' := ?_) (bv 15 7) rfl rfl (by kernel_rfl) (fun _ _ _ h => h) (Or.inl ⟨by rfl, ?_⟩) ?_ ?_
       rotate_left
       ·intro w'
        go_simp
        with_reducible rfl
       rotate_left
       ·simp only [Act.put, qA, qB, qC, i64_w, i32_w]
        rfl
       refine pure_ (i := 3) (N := some 14) (v := ?_) (a' := ?_) (bv 15 15) rfl rfl (by kernel_rfl) (fun _ _ _ h => h) (Or.inl ⟨by rfl, ?_⟩) ?_ ?_
       rotate_left
       ·intro w'
        go_simp
        with_reducible rfl
       rotate_left
       ·simp only [Act.put, qA, qB, qC, i64_w, i32_w]
        rfl
       refine pure_ (i := 4) (N := some 15) (v := ?_) (a' := ?_) (bv 15 31) rfl rfl (by kernel_rfl) (fun _ _ _ h => h) (Or.inl ⟨by rfl, ?_⟩) ?_ ?_
       rotate_left
       ·intro w'
        go_simp
        with_reducible rfl
       rotate_left
       ·simp only [Act.put, qA, qB, qC, i64_w, i32_w]
        rfl
       refine pure_ (i := 5) (N := some 16) (v := ?_) (a' := ?_) (bv 15 63) rfl rfl (by kernel_rfl) (fun _ _ _ h => h) (Or.inl ⟨by rfl, ?_⟩) ?_ ?_
       rotate_left
       ·intro w'
        go_simp
        with_reducible rfl
       rotate_left
       ·simp only [Act.put, qA, qB, qC, i64_w, i32_w]
        rfl
       refine pure_ (i := 6) (N := some 17) (v := undef) (a' := ?_) (bv 15 127) rfl rfl (by kernel_rfl) (fun _ _ _ h => h) (Or.inr ⟨by rfl, rfl⟩) ?_ ?_
       rotate_left
       ·simp only [Act.put, qA, qB, qC, i64_w, i32_w]
        rfl
       refine pure_ (i := 7) (N := some 18) (v := undef) (a' := ?_) (bv 15 255) rfl rfl (by kernel_rfl) (fun _ _ _ h => h) (Or.inr ⟨by rfl, rfl⟩) ?_ ?_
       rotate_left
       ·simp only [Act.put, qA, qB, qC, i64_w, i32_w]
        rfl
       refine pure_ (i := 8) (N := some 19) (v := undef) (a' := ?_) (bv 15 511) rfl rfl (by kernel_rfl) (fun _ _ _ h => h) (Or.inr ⟨by rfl, rfl⟩) ?_ ?_
       rotate_left
       ·simp only [Act.put, qA, qB, qC, i64_w, i32_w]
        rfl
       refine pure_ (i := 9) (N := some 20) (v := undef) (a' := ?_) (bv 15 1023) rfl rfl (by kernel_rfl) (fun _ _ _ h => h) (Or.inr ⟨by rfl, rfl⟩) ?_ ?_
       rotate_left
       ·simp only [Act.put, qA, qB, qC, i64_w, i32_w]
        rfl
       refine pure_ (i := 10) (N := some 21) (v := undef) (a' := ?_) (bv 15 2047) rfl rfl (by kernel_rfl) (fun _ _ _ h => h) (Or.inr ⟨by rfl, rfl⟩) ?_ ?_
       rotate_left
       ·simp only [Act.put, qA, qB, qC, i64_w, i32_w]
        rfl
       refine pure_ (i := 11) (N := some 22) (v := undef) (a' := ?_) (bv 15 4095) rfl rfl (by kernel_rfl) (fun _ _ _ h => h) (Or.inr ⟨by rfl, rfl⟩) ?_ ?_
       rotate_left
       ·simp only [Act.put, qA, qB, qC, i64_w, i32_w]
        rfl
       refine pure_ (i := 12) (N := some 23) (v := undef) (a' := ?_) (bv 15 8191) rfl rfl (by kernel_rfl) (fun _ _ _ h => h) (Or.inr ⟨by rfl, rfl⟩) ?_ ?_
       rotate_left
       ·simp only [Act.put, qA, qB, qC, i64_w, i32_w]
        rfl
       refine pure_ (i := 13) (N := some 24) (v := undef) (a' := ?_) (bv 15 16383) rfl rfl (by kernel_rfl) (fun _ _ _ h => h) (Or.inr ⟨by rfl, rfl⟩) ?_ ?_
       rotate_left
       ·simp only [Act.put, qA, qB, qC, i64_w, i32_w]
        rfl
       refine pure_ (i := 14) (N := some 25) (v := ?_) (a' := ?_) (bv 15 32767) rfl rfl (by kernel_rfl) (fun _ _ _ h => h) (Or.inl ⟨by rfl, ?_⟩) ?_ ?_
       rotate_left
       ·intro w'
        go_simp
        with_reducible rfl
       rotate_left
       ·simp only [Act.put, qA, qB, qC, i64_w, i32_w]
        rfl
       refine done_ (by kernel_rfl) ?_
       generalize (if 255 < (t.length : Int) then (255 : Int) else (t.length : Int)) = mn
       go_wp2_with fail
       go_meet
       case rel => exact ⟨by rw [HQN.out], HS⟩
   case rest =>
    clear HS HQ
    obtain ⟨rfl, HS⟩ := hcut
    have hq8 : IntKind.u8.wrap ((q + 1 : Nat) : Int) = ((q + 1 : Nat) : Int) := by have := HQL.out; rw [IntKind.wrap_u8']; omega
    have hg : (L.set i (.row kU8 5 (.slice A3 ys.length c3) ys))[i]? = some (.row kU8 5 (.slice A3 ys.length c3) ys) := List.getElem?_set_self hlt
    have hlt2 : i < (L.set i (.row kU8 5 (.slice A3 ys.length c3) ys)).length := by rw [List.length_set]; exact hlt
    obtain ⟨nq, hnq⟩ : ∃ k : Nat, k = q + 1 := ⟨_, rfl⟩
    rw [← hnq] at hq8 HR2 ⊢
    have HNQ := aM hnq
    clear hnq
    go_upto_region 5 with fail
    have hs := HS.out.drew
    clear HS; have HS := aM hs; clear hs
    refine start_ (n := 11) (S := fun w' => w'.cell? ad = some (.int .u8 x)) (ds := []) #[false, false, false, false, false, false, false, false, false, false, false] (by kernel_rfl) rfl rfl ((pw_cell_below HS.out.below HYA.out)) (fun hHeld => ?_)
    refine pure_ (i := 0) (N := some 28) (v := ?_) (a' := ?_) (bv 11 1) rfl rfl (by kernel_rfl) (fun _ _ _ h => h) (Or.inl ⟨by rfl, ?_⟩) ?_ ?_
    rotate_left
    ·intro w'
     go_simp
     with_reducible rfl
    rotate_left
    ·simp only [Act.put, qA, qB, qC, i64_w, i32_w]
     rfl
    refine pure_ (i := 1) (N := some 29) (v := ?_) (a' := ?_) (bv 11 3) rfl rfl (by kernel_rfl) (fun _ _ _ h => h) (Or.inl ⟨by rfl, ?_⟩) ?_ ?_
    rotate_left
    ·intro w'
     go_simp
     with_reducible rfl
    rotate_left
    ·simp only [Act.put, qA, qB, qC, i64_w, i32_w]
     rfl
    refine pure_ (i := 2) (N := some 30) (v := ?_) (a' := ?_) (bv 11 7) rfl rfl (by kernel_rfl) (fun _ _ _ h => h) (Or.inl ⟨by rfl, ?_⟩) ?_ ?_
    rotate_left
    ·intro w'
     go_simp
     with_reducible rfl
    rotate_left
    ·simp only [Act.put, qA, qB, qC, i64_w, i32_w]
     rfl
    refine pure_ (i := 3) (N := some 31) (v := ?_) (a' := ?_) (bv 11 15) rfl rfl (by kernel_rfl) (fun _ _ _ h => h) (Or.inl ⟨by rfl, ?_⟩) ?_ ?_
    rotate_left
    ·intro w'
     go_simp
     with_reducible rfl
    rotate_left
    ·simp only [Act.put, qA, qB, qC, i64_w, i32_w]
     rfl
    refine pure_ (i := 6) (N := some 34) (v := ?_) (a' := ?_) (bv 11 79) rfl rfl (by kernel_rfl) (fun _ _ _ h => h) (Or.inl ⟨by rfl, ?_⟩) ?_ ?_
    rotate_left
    ·intro w'
     go_simp
     with_reducible rfl
    rotate_left
    ·simp only [Act.put, qA, qB, qC, i64_w, i32_w]
     rfl
    refine pure_ (i := 7) (N := some 35) (v := ?_) (a' := ?_) (bv 11 207) rfl rfl (by kernel_rfl) (fun _ _ _ h => h) (Or.inl ⟨by rfl, ?_⟩) ?_ ?_
    rotate_left
    ·intro w'
     go_simp
     with_reducible rfl
    rotate_left
    ·simp only [Act.put, qA, qB, qC, i64_w, i32_w]
     rfl
    refine take_ (i := 8) (N := some 36) (v := ?_) (a' := ?_) (bv 11 463) rfl rfl (by kernel_rfl) (fun _ _ _ h => h) (Or.inl ⟨by rfl, ?_⟩) hHeld ?_ ?_
    rotate_left
    ·intro w' s0
     go_simp
     with_reducible rfl
    rotate_left
    ·simp only [Act.put, qA, qB, qC, i64_w, i32_w]
     rfl
    refine one_ (i := 4) (N := some 32) (bv 11 479) rfl rfl (by kernel_rfl) (by decide) (fun K hK => ?_)
    refine value_ (w1 := ?_) (v := ?_) (by rfl) rfl ?_ ?_
    rotate_left 2
    ·go_simp
     constructor
     ·rfl
     ·rfl
    have hs := HS.out.lit_ro kU8 5 (xs := [(nq : Int)]) (inner := [.int .u8 (nq : Int)]) (Reps.one (PK.scalar _) (Reps.none _ _)) (by simp)
    clear HS; have HS := aM hs; clear hs
    refine hK.out _ _ ((pw_cell_below HS.out.below HYA.out)) (fun hHeld => ?_)
    clear hK K
    refine norm_ (a' := ?_) ?_ ?_
    rotate_left
    ·show Act.put _ (some 32) _ = _
     simp only [Act.put, qA, qB, qC, i64_w, i32_w]
     rfl
    refine one_ (i := 5) (N := some 33) (bv 11 511) rfl rfl (by kernel_rfl) (by decide) (fun K hK => ?_)
    refine sgrow_step kU8 i (by rfl) rfl (.tmp 29) (.tmp 32) 24 5 (.int .u8 0) 1 rfl Tryz.underlying24 info5 rfl (by decide) (by omega) _ _ ys [(nq : Int)] rfl rfl HS.out (by rw [List.getElem?_append_left hlt2]; exact hg) (HS.out.ro _ List.getElem?_concat_length) (by have := HLEN.out; rw [lS]; omega) ?_
    intro v1 w1 hs
    rw [List.set_append, if_pos hlt2, List.set_set] at hs
    have hs := hs.sub (List.sublist_append_left _ _)
    clear HS; have HS := aM hs; clear hs
    refine hK.out _ _ ((pw_cell_below HS.out.below HYA.out)) (fun hHeld => ?_)
    clear hK K
    refine norm_ (a' := ?_) ?_ ?_
    rotate_left
    ·show Act.put _ (some 33) _ = _
     simp only [Act.put, qA, qB, qC, i64_w, i32_w]
     rfl
    refine one_ (i := 9) (N := some 37) (bv 11 1023) rfl rfl (by kernel_rfl) (by decide) (fun K hK => ?_)
    refine goesf_ Tryz.func20 (by kernel_rfl) rfl #[v1, .int .u8 x] (by rfl) rfl rfl (by rfl) (by simp only [List.map_toArray, List.map_cons, List.map_nil]; rfl) ?_
    with_reducible refine (lay1_calls X w0 _ (L.set i (.row kU8 5 v1 (ys ++ [(nq : Int)]))) i v1 (ys ++ [(nq : Int)]) x HS.out (List.getElem?_set_self hlt) (by have := HLEN.out; rw [lA, lS]; omega)).mono ?_
    rintro e w9 ⟨v9, rfl, hs⟩
    refine ⟨_, rfl, ?_⟩
    rw [List.set_set] at hs
    clear HS; have HS := aM hs; clear hs
    refine hK.out _ _ ((pw_cell_below HS.out.below HYA.out)) (fun hHeld => ?_)
    clear hK K
    refine norm_ (a' := ?_) ?_ ?_
    rotate_left
    ·show Act.put _ (some 37) _ = _
     simp only [Act.put, qA, qB, qC, i64_w, i32_w]
     rfl
    refine pure_ (i := 10) (N := some 0) (v := ?_) (a' := ?_) (bv 11 2047) rfl rfl (by kernel_rfl) (fun _ _ _ h => h) (Or.inl ⟨by rfl, ?_⟩) ?_ ?_
    rotate_left
    ·intro w'
     go_simp
     with_reducible rfl
    rotate_left
    ·simp only [Act.put, qA, qB, qC, i64_w, i32_w]
     rfl
    refine done_ (by kernel_rfl) ?_
    obtain ⟨j0, hj0, _, hjz0, _⟩ := info_parts info5
    obtain ⟨u9, hu9, hrun9⟩ := H1.out.from_ (P := Tryz.prog) 24 5 Tryz.underlying24 hj0 hjz0 nq (by have := HQL.out; have := HNQ.out; omega)
    clear hj0 hjz0
    have HU9 := aM hu9
    clear hu9
    go_wp2_with fail
    go_roundg (t.drop nq).length
    case measure => rw [List.length_drop]; have := HQL.out; have := HNQ.out; have := HZ.out; omega
    case rel =>
     obtain ⟨f', hf1, hf2⟩ := HR2.out
     refine ⟨t.drop nq, ys ++ [(nq : Int)] ++ (fun x => [x]) x, f', ⟨rfl⟩, HU9, ⟨by rw [List.length_drop]; have := HZ.out; have := HNQ.out; omega, hf2⟩, ⟨?_⟩, HS⟩
     have h1 := HLEN.out
     have h2 := HNQ.out
     have h3 := HQL.out
     simp only [lA, List.length_drop, lS]
     omega
end Go.Proofs.YtplhfgobeicegaaGreatDoor.P
