/- Part 9 of the proof: V3, V4. -/
import Derived.Laws.BitsAllLaws
import Derived.Test.YtplhfgobeicegaaDoorPb7
namespace Go.Proofs.YtplhfgobeicegaaDoor.P
open Go Go.RowKit Go.Proofs.YtplhfgobeicegaaDoorW.PrintWords Go.Proofs.YtplhfgobeicegaaDoorW.PrintLast Go.Proofs.YtplhfgobeicegaaDoorW.PrintMore Go.Proofs.YtplhfgobeicegaaDoor.PX
set_option linter.unusedVariables false
set_option linter.unusedSimpArgs false
set_option maxRecDepth 100000
def two15 (n : Int) : List Int := [n / 256 % 256, n % 256]
theorem magic_calls (X : Nat → Prop) (w0 w : World) (L : List PX.Item) (hs : Sep X w0 w L) :
  Calls Tryd.prog 16 #[] w fun e w' => ∃ v, e = .returned v ∧ Sep X w0 w' (L ++ [.row kU8 5 v [71, 67, 1]]) := by
 have HS := Aside0.mk hs
 clear hs
 go_enter Tryd.func16, Tryd.ntmps16
 go_wp2_with (first
  | ((with_reducible refine gate_dst (N := 1) rfl ?_); refine slit_row kU8 5 ?hg (N := 1) ?hd (xs := [(71 : Int), 67, 1]) (inner := [.int .u8 71, .int .u8 67, .int .u8 1]) ?hr HS.out ?hp (by simp) ?_; (case hd => rfl); (case hg => rfl); (case hr => first | (go_simp; done) | (go_simp; rfl)); (case hp => exact Reps.one (PK.scalar _) (Reps.one (PK.scalar _) (Reps.one (PK.scalar _) (Reps.none _ _)))); clear HS; intro v30 w30 hs; have HS := Aside0.mk hs; clear hs))
 go_ret
 exact ⟨_, rfl, HS.out⟩
set_option maxHeartbeats 4000000 in
theorem two_calls (X : Nat → Prop) (w0 w : World) (L : List PX.Item) (i : Nat) (v : Value) (xs : List Int) (n : Int) (hs : Sep X w0 w L) (hi : L[i]? = some (.row kU8 5 v xs)) (hn : 0 ≤ n ∧ n < 1000000000000) (hl : xs.length ≤ 1000000000) :
  Calls Tryd.prog 15 #[v, .int .i64 n] w fun ee w' => ∃ v1, ee = .returned v1 ∧ Sep X w0 w' (L.set i (.row kU8 5 v1 (xs ++ two15 n))) := by
 have HS := Aside0.mk hs
 obtain ⟨A0, c0, rfl⟩ := hs.form i hi
 have HI := Aside0.mk hi
 have hlt : i < L.length := (List.getElem?_eq_some_iff.1 hi).1
 obtain ⟨hn0, hn1⟩ := hn
 clear hs hi
 go_enter Tryd.func15, Tryd.ntmps15
 go_wp2_with (first
  | ((with_reducible refine gate_dst (N := 11) rfl ?_); refine slit kU8 5 ?hg (N := 11) ?hd (xs := [n / 256 % 256, n % 256]) (inner := [.int .u8 (n / 256 % 256), .int .u8 (n % 256)]) ?hr HS.out ?hp (by simp) ?_; (case hd => rfl); (case hg => rfl); (case hr => first | (go_simp; done) | (go_simp; rfl)); (case hp => exact Reps.one (PK.scalar _) (Reps.one (PK.scalar _) (Reps.none _ _))); clear HS; intro v30 w30 hs; have HS := Aside0.mk hs; clear hs)
  | ((with_reducible refine gate_builtin (b := .append) (xs := #[.tmp 5, .tmp 11]) rfl ?_); at_builtin; refine sgrow kU8 i rfl (.tmp 5) (.tmp 11) 22 5 (.int .u8 0) 1 rfl Tryd.underlying22 info5 rfl (by decide) (by omega) _ _ xs [n / 256 % 256, n % 256] rfl rfl HS.out (by rw [List.getElem?_append_left hlt]; exact HI.out) (HS.out.ro L.length List.getElem?_concat_length) (by rw [List.length_cons, List.length_singleton]; omega) ?_; intro v1 w1 hs; rw [List.set_append, if_pos hlt] at hs; have hs2 := hs.sub (List.sublist_append_left _ _); clear HS; have HS := Aside0.mk hs2; clear hs hs2))
 go_ret
 exact ⟨_, rfl, HS.out⟩
set_option maxHeartbeats 4000000 in
theorem lay1_calls (X : Nat → Prop) (w0 w : World) (L : List PX.Item) (i : Nat) (v : Value) (xs : List Int) (k : Int) (hs : Sep X w0 w L) (hi : L[i]? = some (.row kU8 5 v xs)) (hl : xs.length ≤ 1000000000) :
  Calls Tryd.prog 18 #[v, .int .u8 k] w fun ee w' => ∃ v1, ee = .returned v1 ∧ Sep X w0 w' (L.set i (.row kU8 5 v1 (xs ++ [k]))) := by
 have HS := Aside0.mk hs
 obtain ⟨A0, c0, rfl⟩ := hs.form i hi
 have HI := Aside0.mk hi
 have hlt : i < L.length := (List.getElem?_eq_some_iff.1 hi).1
 clear hs hi
 go_enter Tryd.func18, Tryd.ntmps18
 go_wp2_with (first
  | ((with_reducible refine gate_dst (N := 7) rfl ?_); refine slit kU8 5 ?hg (N := 7) ?hd (xs := [k]) (inner := [.int .u8 k]) ?hr HS.out ?hp (by simp) ?_; (case hd => rfl); (case hg => rfl); (case hr => first | (go_simp; done) | (go_simp; rfl)); (case hp => exact Reps.one (PK.scalar _) (Reps.none _ _)); clear HS; intro v30 w30 hs; have HS := Aside0.mk hs; clear hs)
  | ((with_reducible refine gate_builtin (b := .append) (xs := #[.tmp 5, .tmp 7]) rfl ?_); at_builtin; refine sgrow kU8 i rfl (.tmp 5) (.tmp 7) 22 5 (.int .u8 0) 1 rfl Tryd.underlying22 info5 rfl (by decide) (by omega) _ _ xs [k] rfl rfl HS.out (by rw [List.getElem?_append_left hlt]; exact HI.out) (HS.out.ro L.length List.getElem?_concat_length) (by rw [List.length_singleton]; omega) ?_; intro v1 w1 hs; rw [List.set_append, if_pos hlt] at hs; have hs2 := hs.sub (List.sublist_append_left _ _); clear HS; have HS := Aside0.mk hs2; clear hs hs2))
 go_ret
 exact ⟨_, rfl, HS.out⟩
theorem lay2_calls (X : Nat → Prop) (w0 w : World) (L : List PX.Item) (i : Nat) (v : Value) (xs : List Int) (x : Int) (hs : Sep X w0 w L) (hi : L[i]? = some (.row kU8 5 v xs)) (hx : -1 ≤ x ∧ x < 1000000) (hl : xs.length ≤ 1000000000) :
  Calls Tryd.prog 20 #[v, .int .i64 x] w fun ee w' => ∃ v1, ee = .returned v1 ∧ Sep X w0 w' (L.set i (.row kU8 5 v1 (xs ++ two15 (x + 1)))) := by
 have HS := Aside0.mk hs
 obtain ⟨A0, c0, rfl⟩ := hs.form i hi
 have HI := Aside0.mk hi
 obtain ⟨hx0, hx1⟩ := hx
 clear hs hi
 go_enter Tryd.func20, Tryd.ntmps20
 go_wp2_with (first
  | (go_at_call 15; (with_reducible refine (two_calls X w0 _ L i _ xs (x + 1) HS.out HI.out (by omega) hl).mono ?_); rintro ee w5 ⟨v1, rfl, hs⟩; clear HS; have HS := Aside0.mk hs; clear hs))
 go_ret
 exact ⟨_, rfl, HS.out⟩
end Go.Proofs.YtplhfgobeicegaaDoor.P
namespace Go.Proofs.YtplhfgobeicegaaDoor.PX
open Go Go.RowKit Go.Proofs.YtplhfgobeicegaaDoorW.PrintWords Go.Proofs.YtplhfgobeicegaaDoorW.PrintLast
section
variable {P : Program} {ops : Array Oper} {Q : Exit → Act → World → Prop}
theorem goesf_ {oi : Oper} {N : Option Tmp} {a : Act} {w : World} {K : Act → World → Prop} {f : FuncId} {fn : Func} {aa : Array Operand} {ts : Array TypeId} {o : Operand} {lb : Array Value} (hf : P.funcs[f]? = some fn) (hname : (fn.name == "runtime.NumGoroutine") = false) (hb : fn.body.isSome = true) (args : Array Value)
  (hw : Region.wanted oi (yielded ops a.tmps) = true) (hN : oi.dst = N) (hop : oi.op = .call { callee := .value o, args := aa, argTypes := ts }) (ho : a.eval o = .func (.func f) #[] lb) (hargs : aa.map a.eval ++ lb = args)
  (h : Calls P f args w fun e w' => ∃ v, e = .returned v ∧ K (a.put N v) w') : if Region.wanted oi (yielded ops a.tmps) = true then Oper.wp P oi a w K Q else K (a.put N undef) w := by
 refine call_ f args hw hN ?_ h
 have he := enters_ hf hname hb args w
 unfold execOp
 simp [hop, resolve, ho, Deferred.ofValue, invoke, hargs, he]
end
end Go.Proofs.YtplhfgobeicegaaDoor.PX
namespace Go.Proofs.YtplhfgobeicegaaDoor.P
open Go Go.RowKit Go.Proofs.YtplhfgobeicegaaDoorW.PrintWords Go.Proofs.YtplhfgobeicegaaDoorW.PrintLast Go.Proofs.YtplhfgobeicegaaDoorW.PrintMore Go.Proofs.YtplhfgobeicegaaDoor.PX
attribute [local go_sem] max2_int min2_int max_two min_two
set_option linter.unusedVariables false
set_option linter.unusedSimpArgs false
set_option maxRecDepth 100000
def lead (x : Int) : Nat → List Int → Nat
 | 0, _ => 0
 | _ + 1, [] => 0
 | f + 1, y :: t => if y = x then lead x f t + 1 else 0
def runsF (lay : Int → List Int) : Nat → List Int → List Int
 | 0, _ => []
 | _ + 1, [] => []
 | f + 1, x :: t => ((lead x 254 t + 1 : Nat) : Int) :: (lay x ++ runsF lay f (t.drop (lead x 254 t)))
theorem lead_le (x : Int) : ∀ (f : Nat) (t : List Int), lead x f t ≤ f ∧ lead x f t ≤ t.length
 | 0, t => by simp [lead]
 | f + 1, [] => by simp [lead]
 | f + 1, y :: t => by
  have := lead_le x f t
  rw [lead, List.length_cons]
  split <;> omega
theorem lead_at (x : Int) (f : Nat) (t : List Int) (n : Nat) (h : n < t.length) : lead x (f + 1) (t.drop n) = if t.getD n 0 = x then lead x f (t.drop (n + 1)) + 1 else 0 := by
 rw [drop_at t 0 n h, lead]
theorem lead_nil (x : Int) (f : Nat) : lead x f [] = 0 := by cases f <;> rfl
theorem lead_0 (x : Int) (t : List Int) : lead x 0 t = 0 := by cases t <;> rfl
theorem runsF_nil (lay : Int → List Int) (f : Nat) : runsF lay f [] = [] := by cases f <;> rfl
set_option maxHeartbeats 16000000 in
theorem runsB_calls (X : Nat → Prop) (w0 w : World) (L : List PX.Item) (i : Nat) (v vl : Value) (xs l : List Int) (hs : Sep X w0 w L) (hi : L[i]? = some (.row kU8 5 v xs)) (hl : PV kU8 X w0 vl l) (hlen : xs.length + 3 * l.length ≤ 1000000000) :
  Calls Tryd.prog 17 #[v, vl, .func (.func 18) #[] #[]] w fun ee w' => ∃ v1, ee = .returned v1 ∧ Sep X w0 w' (L.set i (.row kU8 5 v1 (xs ++ runsF (fun x => [x]) l.length l))) := by
 have HS := Aside0.mk hs
 have H1 := Aside0.mk hl
 have m0 := hl.max
 obtain ⟨A0, c0, rfl⟩ := hs.form i hi
 obtain ⟨A1, c1, rfl, _, _⟩ := hl.now
 have hlt : i < L.length := (List.getElem?_eq_some_iff.1 hi).1
 have HI := Aside0.mk hi
 have HLEN := Aside0.mk hlen
 have hs2 : Sep X w0 w (L.set i (.row kU8 5 (.slice A0 xs.length c0) xs)) := by
  rw [show L.set i (.row kU8 5 (.slice A0 xs.length c0) xs) = L from by
   obtain ⟨h1, h2⟩ := List.getElem?_eq_some_iff.1 hi
   rw [← h2]; exact List.set_getElem_self h1]
  exact hs
 obtain ⟨r, hr⟩ : ∃ r, r = xs ++ runsF (fun x => [x]) l.length l := ⟨_, rfl⟩
 rw [← hr]
 have HR := Aside0.mk hr.symm
 clear HS
 have HS := Aside0.mk hs2
 clear hs hi hl hlen hs2 hr
 go_enter Tryd.func17, Tryd.ntmps17
 go_wp2_with fail
 go_loopg [0, 1, 7] l.length (fun m v0 v1 v7 w' => ∃ (t ys : List Int) (f : Nat), Aside0 (t.length = m) ∧ Aside0 (PV kU8 X w0 v1 t) ∧ Aside0 (t.length ≤ f ∧ ys ++ runsF (fun x => [x]) f t = r) ∧ Aside0 (ys.length + 3 * t.length ≤ 1000000000) ∧ Aside0 (Sep X w0 w' (L.set i (.row kU8 5 v0 ys))))
 case atStart => exact ⟨l, xs, l.length, ⟨rfl⟩, H1, ⟨Nat.le_refl _, HR.out⟩, HLEN, HS⟩
 case round =>
  clear HS H1 HR HLEN
  obtain ⟨t, ys, f, HM, H1, HR, HLEN, HS⟩ := hrel
  obtain ⟨A2, c2, rfl, _, _⟩ := H1.out.now
  obtain ⟨A3, c3, e3⟩ := HS.out.form i (List.getElem?_set_self hlt)
  subst e3
  have m1 := H1.out.max
  cases gk with
  | zero =>
   have hz : t.length = 0 := HM.out
   have e1 : decide ((t.length : Int) > 0) = false := decide_eq_false (by omega)
   have e2 : decide (0 < t.length) = false := decide_eq_false (by omega)
   have hr : ys = r := by have h := HR.out.2; rw [List.length_eq_zero_iff.1 hz, runsF_nil, List.append_nil] at h; exact h
   subst hr
   clear HR HM hz
   go_wp2_with fail
   go_ret
   exact ⟨_, rfl, HS.out⟩
  | succ k1 =>
   have hz : t.length = k1 + 1 := HM.out
   have e1 : decide ((t.length : Int) > 0) = true := decide_eq_true (by omega)
   have e2 : decide (0 < t.length) = true := decide_eq_true (by omega)
   obtain ⟨x, hx⟩ : ∃ x, x = t.getD 0 0 := ⟨_, rfl⟩
   obtain ⟨q, hq⟩ : ∃ q, q = lead x 254 (t.drop 1) := ⟨_, rfl⟩
   have hql := lead_le x 254 (t.drop 1)
   rw [← hq, List.length_drop] at hql
   have HQL := Aside0.mk hql
   have HR2 := Aside0.mk (show ∃ f', k1 ≤ f' ∧ (ys ++ [((q + 1 : Nat) : Int)] ++ (fun x => [x]) x) ++ runsF (fun x => [x]) f' (t.drop (q + 1)) = r by
    obtain ⟨h1, h2⟩ := HR.out
    cases f with
    | zero => omega
    | succ f' =>
     refine ⟨f', by omega, ?_⟩
     have ht : t = x :: t.drop 1 := by
      rw [hx]
      have := drop_at t 0 0 (by omega)
      simpa using this
     rw [ht, runsF, ← hq, List.drop_drop] at h2
     rw [← h2, show q + 1 = 1 + q by omega]
     simp [Nat.add_comm])
   have HQ := Aside0.mk (show 0 + lead x (255 - 1) (t.drop 1) = q by rw [hq, Nat.zero_add])
   obtain ⟨ad, cd, ed, ya0⟩ := u8_cell H1.out 0 (by omega)
   cases ed
   rw [← hx] at ya0
   change World.cell? _ ad = _ at ya0
   have ht0 : 0 < t.length := by omega
   have ht1 : (0 : Int) < (t.length : Int) := by omega
   have HX := Aside0.mk hx
   have HYA := Aside0.mk ya0
   have HZ := Aside0.mk hz
   clear hx hq hql HR HM ya0 hz
   go_upto_block 2 with fail
   clear e1 e2
   go_cut [7] (fun v7 wc => v7 = .int .i64 ((q + 1 : Nat) : Int) ∧ Aside0 (Sep X w0 wc (L.set i (.row kU8 5 (.slice A3 ys.length c3) ys))))
   case first =>
    go_wp2_with fail
    go_loopg [7] 254 (fun m v7 w' => ∃ (n : Nat), v7 = .int .i64 n ∧ Aside0 (n + m = 255) ∧ Aside0 (1 ≤ n ∧ n ≤ t.length) ∧ Aside0 ((n - 1) + lead x (255 - n) (t.drop n) = q) ∧ Aside0 (Sep X w0 w' (L.set i (.row kU8 5 (.slice A3 ys.length c3) ys))))
    case atStart => exact ⟨1, rfl, ⟨by omega⟩, ⟨by omega⟩, HQ, HS⟩
    case round =>
     clear HS HQ
     obtain ⟨n, rfl, HN, HNL, HQ, HS⟩ := hrel
     have hn := HN.out
     have hnl := HNL.out
     by_cases hcond : n < t.length ∧ n < 255 ∧ t.getD n 0 = x
     case pos =>
      obtain ⟨h1, h2, h3⟩ := hcond
      cases gk with
      | zero => omega
      | succ m1 =>
       have hn0 : (0 : Int) ≤ (n : Int) := by omega
       have hn1 : (n : Int) < (t.length : Int) := by omega
       obtain ⟨ad2, cd2, ed2, yb0⟩ := u8_cell H1.out n h1
       cases ed2
       rw [h3] at yb0
       have HYB := Aside0.mk yb0
       clear yb0
       have d1 : decide ((n : Int) < (if 255 < (t.length : Int) then 255 else (t.length : Int))) = true := by split <;> exact decide_eq_true (by omega)
       have d3 : (x == x) = true := beq_self_eq_true x
       go_wp2_with fail
       have hs := HS.out.drew
       clear HS; have HS := Aside0.mk hs; clear hs
       refine start_ (n := 15) (S := fun w' => w'.cell? ad = some (.int .u8 x) ∧ w'.cell? (ad.add n) = some (.int .u8 x)) (ds := []) #[false, false, false, false, false, false, false, false, false, false, false, false, false, false, false] (by kernel_rfl) rfl rfl ⟨(pw_cell_below HS.out.below HYA.out), (pw_cell_below HS.out.below HYB.out)⟩ (fun hHeld => ?_)
       refine pure_ (i := 0) (N := some 11) (v := ?_) (a' := ?_) #[true, false, false, false, false, false, false, false, false, false, false, false, false, false, false] rfl rfl (by kernel_rfl) (fun _ _ _ h => h) (Or.inl ⟨by rfl, ?_⟩) ?_ ?_
       rotate_left
       ·intro w'
        go_simp
        with_reducible rfl
       rotate_left
       ·simp only [Act.put, List.setIfInBounds_toArray, List.set_cons_zero, List.set_cons_succ, i64_w, i32_w]
        rfl
       refine pure_ (i := 1) (N := some 12) (v := ?_) (a' := ?_) #[true, true, false, false, false, false, false, false, false, false, false, false, false, false, false] rfl rfl (by kernel_rfl) (fun _ _ _ h => h) (Or.inl ⟨by rfl, ?_⟩) ?_ ?_
       rotate_left
       ·intro w'
        go_simp
        with_reducible rfl
       rotate_left
       ·simp only [Act.put, List.setIfInBounds_toArray, List.set_cons_zero, List.set_cons_succ, i64_w, i32_w]
        rfl
       refine pure_ (i := 2) (N := some 13) (v := ?_) (a' := ?_) #[true, true, true, false, false, false, false, false, false, false, false, false, false, false, false] rfl rfl (by kernel_rfl) (fun _ _ _ h => h) (Or.inl ⟨by rfl, ?_⟩) ?_ ?_
       rotate_left
       ·intro w'
        go_simp
        with_reducible rfl
       rotate_left
       ·simp only [Act.put, List.setIfInBounds_toArray, List.set_cons_zero, List.set_cons_succ, i64_w, i32_w]
        rfl
       refine pure_ (i := 3) (N := some 14) (v := ?_) (a' := ?_) #[true, true, true, true, false, false, false, false, false, false, false, false, false, false, false] rfl rfl (by kernel_rfl) (fun _ _ _ h => h) (Or.inl ⟨by rfl, ?_⟩) ?_ ?_
       rotate_left
       ·intro w'
        go_simp
        with_reducible rfl
       rotate_left
       ·simp only [Act.put, List.setIfInBounds_toArray, List.set_cons_zero, List.set_cons_succ, i64_w, i32_w]
        rfl
       refine pure_ (i := 4) (N := some 15) (v := ?_) (a' := ?_) #[true, true, true, true, true, false, false, false, false, false, false, false, false, false, false] rfl rfl (by kernel_rfl) (fun _ _ _ h => h) (Or.inl ⟨by rfl, ?_⟩) ?_ ?_
       rotate_left
       ·intro w'
        go_simp
        with_reducible rfl
       rotate_left
       ·simp only [Act.put, List.setIfInBounds_toArray, List.set_cons_zero, List.set_cons_succ, i64_w, i32_w]
        rfl
       refine pure_ (i := 5) (N := some 16) (v := ?_) (a' := ?_) #[true, true, true, true, true, true, false, false, false, false, false, false, false, false, false] rfl rfl (by kernel_rfl) (fun _ _ _ h => h) (Or.inl ⟨by rfl, ?_⟩) ?_ ?_
       rotate_left
       ·intro w'
        go_simp
        with_reducible rfl
       rotate_left
       ·simp only [Act.put, List.setIfInBounds_toArray, List.set_cons_zero, List.set_cons_succ, i64_w, i32_w]
        rfl
       refine pure_ (i := 6) (N := some 17) (v := ?_) (a' := ?_) #[true, true, true, true, true, true, true, false, false, false, false, false, false, false, false] rfl rfl (by kernel_rfl) (fun _ _ _ h => h) (Or.inl ⟨by rfl, ?_⟩) ?_ ?_
       rotate_left
       ·intro w'
        go_simp
        with_reducible rfl
       rotate_left
       ·simp only [Act.put, List.setIfInBounds_toArray, List.set_cons_zero, List.set_cons_succ, i64_w, i32_w]
        rfl
       refine pure_ (i := 7) (N := some 18) (v := ?_) (a' := ?_) #[true, true, true, true, true, true, true, true, false, false, false, false, false, false, false] rfl rfl (by kernel_rfl) (fun _ _ _ h => h) (Or.inl ⟨by rfl, ?_⟩) ?_ ?_
       rotate_left
       ·intro w'
        go_simp
        with_reducible rfl
       rotate_left
       ·simp only [Act.put, List.setIfInBounds_toArray, List.set_cons_zero, List.set_cons_succ, i64_w, i32_w]
        rfl
       refine pure_ (i := 8) (N := some 19) (v := ?_) (a' := ?_) #[true, true, true, true, true, true, true, true, true, false, false, false, false, false, false] rfl rfl (by kernel_rfl) (fun _ _ _ h => h) (Or.inl ⟨by rfl, ?_⟩) ?_ ?_
       rotate_left
       ·intro w'
        go_simp
        with_reducible rfl
       rotate_left
       ·simp only [Act.put, List.setIfInBounds_toArray, List.set_cons_zero, List.set_cons_succ, i64_w, i32_w]
        rfl
       refine pure_ (i := 10) (N := some 21) (v := ?_) (a' := ?_) #[true, true, true, true, true, true, true, true, true, false, true, false, false, false, false] rfl rfl (by kernel_rfl) (fun _ _ _ h => h) (Or.inl ⟨by rfl, ?_⟩) ?_ ?_
       rotate_left
       ·intro w'
        go_simp
        with_reducible rfl
       rotate_left
       ·simp only [Act.put, List.setIfInBounds_toArray, List.set_cons_zero, List.set_cons_succ, i64_w, i32_w]
        rfl
       refine pure_ (i := 11) (N := some 22) (v := ?_) (a' := ?_) #[true, true, true, true, true, true, true, true, true, false, true, true, false, false, false] rfl rfl (by kernel_rfl) (fun _ _ _ h => h) (Or.inl ⟨by rfl, ?_⟩) ?_ ?_
       rotate_left
       ·intro w'
        go_simp
        with_reducible rfl
       rotate_left
       ·simp only [Act.put, List.setIfInBounds_toArray, List.set_cons_zero, List.set_cons_succ, i64_w, i32_w]
        rfl
       refine take_ (i := 9) (N := some 20) (v := ?_) (a' := ?_) #[true, true, true, true, true, true, true, true, true, true, true, true, false, false, false] rfl rfl (by kernel_rfl) (fun _ _ _ h => h) (Or.inl ⟨by rfl, ?_⟩) hHeld ?_ ?_
       rotate_left
       ·rintro w' ⟨s0, s1⟩
        go_simp
        with_reducible rfl
       rotate_left
       ·simp only [Act.put, List.setIfInBounds_toArray, List.set_cons_zero, List.set_cons_succ, i64_w, i32_w]
        rfl
       refine take_ (i := 12) (N := some 23) (v := ?_) (a' := ?_) #[true, true, true, true, true, true, true, true, true, true, true, true, true, false, false] rfl rfl (by kernel_rfl) (fun _ _ _ h => h) (Or.inl ⟨by rfl, ?_⟩) hHeld ?_ ?_
       rotate_left
       ·rintro w' ⟨s0, s1⟩
        go_simp
        with_reducible rfl
       rotate_left
       ·simp only [Act.put, List.setIfInBounds_toArray, List.set_cons_zero, List.set_cons_succ, i64_w, i32_w]
        rfl
       refine pure_ (i := 13) (N := some 24) (v := ?_) (a' := ?_) #[true, true, true, true, true, true, true, true, true, true, true, true, true, true, false] rfl rfl (by kernel_rfl) (fun _ _ _ h => h) (Or.inl ⟨by rfl, ?_⟩) ?_ ?_
       rotate_left
       ·intro w'
        go_simp
        with_reducible rfl
       rotate_left
       ·simp only [Act.put, List.setIfInBounds_toArray, List.set_cons_zero, List.set_cons_succ, i64_w, i32_w]
        rfl
       refine pure_ (i := 14) (N := some 25) (v := ?_) (a' := ?_) #[true, true, true, true, true, true, true, true, true, true, true, true, true, true, true] rfl rfl (by kernel_rfl) (fun _ _ _ h => h) (Or.inl ⟨by rfl, ?_⟩) ?_ ?_
       rotate_left
       ·intro w'
        go_simp
        with_reducible rfl
       rotate_left
       ·simp only [Act.put, List.setIfInBounds_toArray, List.set_cons_zero, List.set_cons_succ, i64_w, i32_w]
        rfl
       refine done_ (by kernel_rfl) ?_
       generalize (if 255 < (t.length : Int) then (255 : Int) else (t.length : Int)) = mn
       go_wp2_with fail
       go_roundg m1
       case measure => omega
       case rel =>
        have h := HQ.out
        rw [show 255 - n = (255 - (n + 1)) + 1 by omega, lead_at x _ t n h1, if_pos h3] at h
        exact ⟨n + 1, by go_num, ⟨by omega⟩, ⟨by omega⟩, ⟨by omega⟩, HS⟩
     case neg =>
      have hqn : n - 1 = q := by
       have h := HQ.out
       rcases Nat.lt_or_ge n 255 with h2 | h2
       ·rcases Nat.lt_or_ge n t.length with h1 | h1
        ·rw [show 255 - n = (254 - n) + 1 by omega, lead_at x _ t n h1, if_neg (fun h3 => hcond ⟨h1, h2, h3⟩)] at h
         exact h
        ·rw [List.drop_eq_nil_of_le h1, lead_nil] at h; exact h
       ·rw [show 255 - n = 0 by omega, lead_0] at h; exact h
      have HQN := Aside0.mk (show n = q + 1 by omega)
      clear HQ hqn
      rcases Decidable.em (n < 255 ∧ n < t.length) with hb | hb
      case inl =>
       obtain ⟨h2, h1⟩ := hb
       have h3 : ¬ t.getD n 0 = x := fun h3 => hcond ⟨h1, h2, h3⟩
       clear hcond
       have hn0 : (0 : Int) ≤ (n : Int) := by omega
       have hn1 : (n : Int) < (t.length : Int) := by omega
       obtain ⟨ad2, cd2, ed2, yb0⟩ := u8_cell H1.out n h1
       cases ed2
       generalize t.getD n 0 = y at *
       have d1 : decide ((n : Int) < (if 255 < (t.length : Int) then 255 else (t.length : Int))) = true := by split <;> exact decide_eq_true (by omega)
       have d3 : (y == x) = false := beq_eq_false_iff_ne.mpr h3
       have HYB := Aside0.mk yb0
       clear yb0 h3
       go_wp2_with fail
       have hs := HS.out.drew
       clear HS; have HS := Aside0.mk hs; clear hs
       refine start_ (n := 15) (S := fun w' => w'.cell? ad = some (.int .u8 x) ∧ w'.cell? (ad.add n) = some (.int .u8 y)) (ds := []) #[false, false, false, false, false, false, false, false, false, false, false, false, false, false, false] (by kernel_rfl) rfl rfl ⟨(pw_cell_below HS.out.below HYA.out), (pw_cell_below HS.out.below HYB.out)⟩ (fun hHeld => ?_)
       refine pure_ (i := 0) (N := some 11) (v := ?_) (a' := ?_) #[true, false, false, false, false, false, false, false, false, false, false, false, false, false, false] rfl rfl (by kernel_rfl) (fun _ _ _ h => h) (Or.inl ⟨by rfl, ?_⟩) ?_ ?_
       rotate_left
       ·intro w'
        go_simp
        with_reducible rfl
       rotate_left
       ·simp only [Act.put, List.setIfInBounds_toArray, List.set_cons_zero, List.set_cons_succ, i64_w, i32_w]
        rfl
       refine pure_ (i := 1) (N := some 12) (v := ?_) (a' := ?_) #[true, true, false, false, false, false, false, false, false, false, false, false, false, false, false] rfl rfl (by kernel_rfl) (fun _ _ _ h => h) (Or.inl ⟨by rfl, ?_⟩) ?_ ?_
       rotate_left
       ·intro w'
        go_simp
        with_reducible rfl
       rotate_left
       ·simp only [Act.put, List.setIfInBounds_toArray, List.set_cons_zero, List.set_cons_succ, i64_w, i32_w]
        rfl
       refine pure_ (i := 2) (N := some 13) (v := ?_) (a' := ?_) #[true, true, true, false, false, false, false, false, false, false, false, false, false, false, false] rfl rfl (by kernel_rfl) (fun _ _ _ h => h) (Or.inl ⟨by rfl, ?_⟩) ?_ ?_
       rotate_left
       ·intro w'
        go_simp
        with_reducible rfl
       rotate_left
       ·simp only [Act.put, List.setIfInBounds_toArray, List.set_cons_zero, List.set_cons_succ, i64_w, i32_w]
        rfl
       refine pure_ (i := 3) (N := some 14) (v := ?_) (a' := ?_) #[true, true, true, true, false, false, false, false, false, false, false, false, false, false, false] rfl rfl (by kernel_rfl) (fun _ _ _ h => h) (Or.inl ⟨by rfl, ?_⟩) ?_ ?_
       rotate_left
       ·intro w'
        go_simp
        with_reducible rfl
       rotate_left
       ·simp only [Act.put, List.setIfInBounds_toArray, List.set_cons_zero, List.set_cons_succ, i64_w, i32_w]
        rfl
       refine pure_ (i := 4) (N := some 15) (v := ?_) (a' := ?_) #[true, true, true, true, true, false, false, false, false, false, false, false, false, false, false] rfl rfl (by kernel_rfl) (fun _ _ _ h => h) (Or.inl ⟨by rfl, ?_⟩) ?_ ?_
       rotate_left
       ·intro w'
        go_simp
        with_reducible rfl
       rotate_left
       ·simp only [Act.put, List.setIfInBounds_toArray, List.set_cons_zero, List.set_cons_succ, i64_w, i32_w]
        rfl
       refine pure_ (i := 5) (N := some 16) (v := ?_) (a' := ?_) #[true, true, true, true, true, true, false, false, false, false, false, false, false, false, false] rfl rfl (by kernel_rfl) (fun _ _ _ h => h) (Or.inl ⟨by rfl, ?_⟩) ?_ ?_
       rotate_left
       ·intro w'
        go_simp
        with_reducible rfl
       rotate_left
       ·simp only [Act.put, List.setIfInBounds_toArray, List.set_cons_zero, List.set_cons_succ, i64_w, i32_w]
        rfl
       refine pure_ (i := 6) (N := some 17) (v := ?_) (a' := ?_) #[true, true, true, true, true, true, true, false, false, false, false, false, false, false, false] rfl rfl (by kernel_rfl) (fun _ _ _ h => h) (Or.inl ⟨by rfl, ?_⟩) ?_ ?_
       rotate_left
       ·intro w'
        go_simp
        with_reducible rfl
       rotate_left
       ·simp only [Act.put, List.setIfInBounds_toArray, List.set_cons_zero, List.set_cons_succ, i64_w, i32_w]
        rfl
       refine pure_ (i := 7) (N := some 18) (v := ?_) (a' := ?_) #[true, true, true, true, true, true, true, true, false, false, false, false, false, false, false] rfl rfl (by kernel_rfl) (fun _ _ _ h => h) (Or.inl ⟨by rfl, ?_⟩) ?_ ?_
       rotate_left
       ·intro w'
        go_simp
        with_reducible rfl
       rotate_left
       ·simp only [Act.put, List.setIfInBounds_toArray, List.set_cons_zero, List.set_cons_succ, i64_w, i32_w]
        rfl
       refine pure_ (i := 8) (N := some 19) (v := ?_) (a' := ?_) #[true, true, true, true, true, true, true, true, true, false, false, false, false, false, false] rfl rfl (by kernel_rfl) (fun _ _ _ h => h) (Or.inl ⟨by rfl, ?_⟩) ?_ ?_
       rotate_left
       ·intro w'
        go_simp
        with_reducible rfl
       rotate_left
       ·simp only [Act.put, List.setIfInBounds_toArray, List.set_cons_zero, List.set_cons_succ, i64_w, i32_w]
        rfl
       refine pure_ (i := 10) (N := some 21) (v := ?_) (a' := ?_) #[true, true, true, true, true, true, true, true, true, false, true, false, false, false, false] rfl rfl (by kernel_rfl) (fun _ _ _ h => h) (Or.inl ⟨by rfl, ?_⟩) ?_ ?_
       rotate_left
       ·intro w'
        go_simp
        with_reducible rfl
       rotate_left
       ·simp only [Act.put, List.setIfInBounds_toArray, List.set_cons_zero, List.set_cons_succ, i64_w, i32_w]
        rfl
       refine pure_ (i := 11) (N := some 22) (v := ?_) (a' := ?_) #[true, true, true, true, true, true, true, true, true, false, true, true, false, false, false] rfl rfl (by kernel_rfl) (fun _ _ _ h => h) (Or.inl ⟨by rfl, ?_⟩) ?_ ?_
       rotate_left
       ·intro w'
        go_simp
        with_reducible rfl
       rotate_left
       ·simp only [Act.put, List.setIfInBounds_toArray, List.set_cons_zero, List.set_cons_succ, i64_w, i32_w]
        rfl
       refine take_ (i := 9) (N := some 20) (v := ?_) (a' := ?_) #[true, true, true, true, true, true, true, true, true, true, true, true, false, false, false] rfl rfl (by kernel_rfl) (fun _ _ _ h => h) (Or.inl ⟨by rfl, ?_⟩) hHeld ?_ ?_
       rotate_left
       ·rintro w' ⟨s0, s1⟩
        go_simp
        with_reducible rfl
       rotate_left
       ·simp only [Act.put, List.setIfInBounds_toArray, List.set_cons_zero, List.set_cons_succ, i64_w, i32_w]
        rfl
       refine take_ (i := 12) (N := some 23) (v := ?_) (a' := ?_) #[true, true, true, true, true, true, true, true, true, true, true, true, true, false, false] rfl rfl (by kernel_rfl) (fun _ _ _ h => h) (Or.inl ⟨by rfl, ?_⟩) hHeld ?_ ?_
       rotate_left
       ·rintro w' ⟨s0, s1⟩
        go_simp
        with_reducible rfl
       rotate_left
       ·simp only [Act.put, List.setIfInBounds_toArray, List.set_cons_zero, List.set_cons_succ, i64_w, i32_w]
        rfl
       refine pure_ (i := 13) (N := some 24) (v := ?_) (a' := ?_) #[true, true, true, true, true, true, true, true, true, true, true, true, true, true, false] rfl rfl (by kernel_rfl) (fun _ _ _ h => h) (Or.inl ⟨by rfl, ?_⟩) ?_ ?_
       rotate_left
       ·intro w'
        go_simp
        with_reducible rfl
       rotate_left
       ·simp only [Act.put, List.setIfInBounds_toArray, List.set_cons_zero, List.set_cons_succ, i64_w, i32_w]
        rfl
       refine pure_ (i := 14) (N := some 25) (v := ?_) (a' := ?_) #[true, true, true, true, true, true, true, true, true, true, true, true, true, true, true] rfl rfl (by kernel_rfl) (fun _ _ _ h => h) (Or.inl ⟨by rfl, ?_⟩) ?_ ?_
       rotate_left
       ·intro w'
        go_simp
        with_reducible rfl
       rotate_left
       ·simp only [Act.put, List.setIfInBounds_toArray, List.set_cons_zero, List.set_cons_succ, i64_w, i32_w]
        rfl
       refine done_ (by kernel_rfl) ?_
       generalize (if 255 < (t.length : Int) then (255 : Int) else (t.length : Int)) = mn
       go_wp2_with fail
       go_meet
       case rel => exact ⟨by rw [HQN.out], HS⟩
      case inr =>
       have d1 : decide ((n : Int) < (if 255 < (t.length : Int) then 255 else (t.length : Int))) = false := by split <;> exact decide_eq_false (by omega)
       clear hcond hb
       go_wp2_with fail
       have hs := HS.out.drew
       clear HS; have HS := Aside0.mk hs; clear hs
       refine start_ (n := 15) (S := fun w' => True) (ds := []) #[false, false, false, false, false, false, false, false, false, false, false, false, false, false, false] (by kernel_rfl) rfl rfl trivial (fun hHeld => ?_)
       refine pure_ (i := 0) (N := some 11) (v := ?_) (a' := ?_) #[true, false, false, false, false, false, false, false, false, false, false, false, false, false, false] rfl rfl (by kernel_rfl) (fun _ _ _ h => h) (Or.inl ⟨by rfl, ?_⟩) ?_ ?_
       rotate_left
       ·intro w'
        go_simp
        with_reducible rfl
       rotate_left
       ·simp only [Act.put, List.setIfInBounds_toArray, List.set_cons_zero, List.set_cons_succ, i64_w, i32_w]
        rfl
       refine pure_ (i := 1) (N := some 12) (v := ?_) (a' := ?_) #[true, true, false, false, false, false, false, false, false, false, false, false, false, false, false] rfl rfl (by kernel_rfl) (fun _ _ _ h => h) (Or.inl ⟨by rfl, ?_⟩) ?_ ?_
       rotate_left
       ·intro w'
        go_simp
        with_reducible rfl
       rotate_left
       ·simp only [Act.put, List.setIfInBounds_toArray, List.set_cons_zero, List.set_cons_succ, i64_w, i32_w]
        rfl
       refine pure_ (i := 2) (N := some 13) (v := ?_) (a' := ?_) #[true, true, true, false, false, false, false, false, false, false, false, false, false, false, false] rfl rfl (by kernel_rfl) (fun _ _ _ h => h) (Or.inl ⟨by rfl, ?_⟩) ?_ ?_
       rotate_left
       ·intro w'
        go_simp
        with_reducible rfl
       rotate_left
       ·simp only [Act.put, List.setIfInBounds_toArray, List.set_cons_zero, List.set_cons_succ, i64_w, i32_w]
        rfl
       refine pure_ (i := 3) (N := some 14) (v := ?_) (a' := ?_) #[true, true, true, true, false, false, false, false, false, false, false, false, false, false, false] rfl rfl (by kernel_rfl) (fun _ _ _ h => h) (Or.inl ⟨by rfl, ?_⟩) ?_ ?_
       rotate_left
       ·intro w'
        go_simp
        with_reducible rfl
       rotate_left
       ·simp only [Act.put, List.setIfInBounds_toArray, List.set_cons_zero, List.set_cons_succ, i64_w, i32_w]
        rfl
       refine pure_ (i := 4) (N := some 15) (v := ?_) (a' := ?_) #[true, true, true, true, true, false, false, false, false, false, false, false, false, false, false] rfl rfl (by kernel_rfl) (fun _ _ _ h => h) (Or.inl ⟨by rfl, ?_⟩) ?_ ?_
       rotate_left
       ·intro w'
        go_simp
        with_reducible rfl
       rotate_left
       ·simp only [Act.put, List.setIfInBounds_toArray, List.set_cons_zero, List.set_cons_succ, i64_w, i32_w]
        rfl
       refine pure_ (i := 5) (N := some 16) (v := ?_) (a' := ?_) #[true, true, true, true, true, true, false, false, false, false, false, false, false, false, false] rfl rfl (by kernel_rfl) (fun _ _ _ h => h) (Or.inl ⟨by rfl, ?_⟩) ?_ ?_
       rotate_left
       ·intro w'
        go_simp
        with_reducible rfl
       rotate_left
       ·simp only [Act.put, List.setIfInBounds_toArray, List.set_cons_zero, List.set_cons_succ, i64_w, i32_w]
        rfl
       refine pure_ (i := 6) (N := some 17) (v := undef) (a' := ?_) #[true, true, true, true, true, true, true, false, false, false, false, false, false, false, false] rfl rfl (by kernel_rfl) (fun _ _ _ h => h) (Or.inr ⟨by rfl, rfl⟩) ?_ ?_
       rotate_left
       ·simp only [Act.put, List.setIfInBounds_toArray, List.set_cons_zero, List.set_cons_succ, i64_w, i32_w]
        rfl
       refine pure_ (i := 7) (N := some 18) (v := undef) (a' := ?_) #[true, true, true, true, true, true, true, true, false, false, false, false, false, false, false] rfl rfl (by kernel_rfl) (fun _ _ _ h => h) (Or.inr ⟨by rfl, rfl⟩) ?_ ?_
       rotate_left
       ·simp only [Act.put, List.setIfInBounds_toArray, List.set_cons_zero, List.set_cons_succ, i64_w, i32_w]
        rfl
       refine pure_ (i := 8) (N := some 19) (v := undef) (a' := ?_) #[true, true, true, true, true, true, true, true, true, false, false, false, false, false, false] rfl rfl (by kernel_rfl) (fun _ _ _ h => h) (Or.inr ⟨by rfl, rfl⟩) ?_ ?_
       rotate_left
       ·simp only [Act.put, List.setIfInBounds_toArray, List.set_cons_zero, List.set_cons_succ, i64_w, i32_w]
        rfl
       refine pure_ (i := 9) (N := some 20) (v := undef) (a' := ?_) #[true, true, true, true, true, true, true, true, true, true, false, false, false, false, false] rfl rfl (by kernel_rfl) (fun _ _ _ h => h) (Or.inr ⟨by rfl, rfl⟩) ?_ ?_
       rotate_left
       ·simp only [Act.put, List.setIfInBounds_toArray, List.set_cons_zero, List.set_cons_succ, i64_w, i32_w]
        rfl
       refine pure_ (i := 10) (N := some 21) (v := undef) (a' := ?_) #[true, true, true, true, true, true, true, true, true, true, true, false, false, false, false] rfl rfl (by kernel_rfl) (fun _ _ _ h => h) (Or.inr ⟨by rfl, rfl⟩) ?_ ?_
       rotate_left
       ·simp only [Act.put, List.setIfInBounds_toArray, List.set_cons_zero, List.set_cons_succ, i64_w, i32_w]
        rfl
       refine pure_ (i := 11) (N := some 22) (v := undef) (a' := ?_) #[true, true, true, true, true, true, true, true, true, true, true, true, false, false, false] rfl rfl (by kernel_rfl) (fun _ _ _ h => h) (Or.inr ⟨by rfl, rfl⟩) ?_ ?_
       rotate_left
       ·simp only [Act.put, List.setIfInBounds_toArray, List.set_cons_zero, List.set_cons_succ, i64_w, i32_w]
        rfl
       refine pure_ (i := 12) (N := some 23) (v := undef) (a' := ?_) #[true, true, true, true, true, true, true, true, true, true, true, true, true, false, false] rfl rfl (by kernel_rfl) (fun _ _ _ h => h) (Or.inr ⟨by rfl, rfl⟩) ?_ ?_
       rotate_left
       ·simp only [Act.put, List.setIfInBounds_toArray, List.set_cons_zero, List.set_cons_succ, i64_w, i32_w]
        rfl
       refine pure_ (i := 13) (N := some 24) (v := undef) (a' := ?_) #[true, true, true, true, true, true, true, true, true, true, true, true, true, true, false] rfl rfl (by kernel_rfl) (fun _ _ _ h => h) (Or.inr ⟨by rfl, rfl⟩) ?_ ?_
       rotate_left
       ·simp only [Act.put, List.setIfInBounds_toArray, List.set_cons_zero, List.set_cons_succ, i64_w, i32_w]
        rfl
       refine pure_ (i := 14) (N := some 25) (v := ?_) (a' := ?_) #[true, true, true, true, true, true, true, true, true, true, true, true, true, true, true] rfl rfl (by kernel_rfl) (fun _ _ _ h => h) (Or.inl ⟨by rfl, ?_⟩) ?_ ?_
       rotate_left
       ·intro w'
        go_simp
        with_reducible rfl
       rotate_left
       ·simp only [Act.put, List.setIfInBounds_toArray, List.set_cons_zero, List.set_cons_succ, i64_w, i32_w]
        rfl
       refine done_ (by kernel_rfl) ?_
       generalize (if 255 < (t.length : Int) then (255 : Int) else (t.length : Int)) = mn
       go_wp2_with fail
       go_meet
       case rel => exact ⟨by rw [HQN.out], HS⟩
   case rest =>
    clear HS HQ
    obtain ⟨rfl, HS⟩ := hcut
    have hq8 : IntKind.u8.wrap ((q + 1 : Nat) : Int) = ((q + 1 : Nat) : Int) := by have := HQL.out; rw [IntKind.wrap_u8']; omega
    have hg : (L.set i (.row kU8 5 (.slice A3 ys.length c3) ys))[i]? = some (.row kU8 5 (.slice A3 ys.length c3) ys) := List.getElem?_set_self hlt
    have hlt2 : i < (L.set i (.row kU8 5 (.slice A3 ys.length c3) ys)).length := by rw [List.length_set]; exact hlt
    obtain ⟨nq, hnq⟩ : ∃ k : Nat, k = q + 1 := ⟨_, rfl⟩
    rw [← hnq] at hq8 HR2 ⊢
    have HNQ := Aside0.mk hnq
    clear hnq
    go_upto_region 5 with fail
    have hs := HS.out.drew
    clear HS; have HS := Aside0.mk hs; clear hs
    refine start_ (n := 11) (S := fun w' => w'.cell? ad = some (.int .u8 x)) (ds := []) #[false, false, false, false, false, false, false, false, false, false, false] (by kernel_rfl) rfl rfl ((pw_cell_below HS.out.below HYA.out)) (fun hHeld => ?_)
    refine pure_ (i := 0) (N := some 28) (v := ?_) (a' := ?_) #[true, false, false, false, false, false, false, false, false, false, false] rfl rfl (by kernel_rfl) (fun _ _ _ h => h) (Or.inl ⟨by rfl, ?_⟩) ?_ ?_
    rotate_left
    ·intro w'
     go_simp
     with_reducible rfl
    rotate_left
    ·simp only [Act.put, List.setIfInBounds_toArray, List.set_cons_zero, List.set_cons_succ, i64_w, i32_w]
     rfl
    refine pure_ (i := 1) (N := some 29) (v := ?_) (a' := ?_) #[true, true, false, false, false, false, false, false, false, false, false] rfl rfl (by kernel_rfl) (fun _ _ _ h => h) (Or.inl ⟨by rfl, ?_⟩) ?_ ?_
    rotate_left
    ·intro w'
     go_simp
     with_reducible rfl
    rotate_left
    ·simp only [Act.put, List.setIfInBounds_toArray, List.set_cons_zero, List.set_cons_succ, i64_w, i32_w]
     rfl
    refine pure_ (i := 2) (N := some 30) (v := ?_) (a' := ?_) #[true, true, true, false, false, false, false, false, false, false, false] rfl rfl (by kernel_rfl) (fun _ _ _ h => h) (Or.inl ⟨by rfl, ?_⟩) ?_ ?_
    rotate_left
    ·intro w'
     go_simp
     with_reducible rfl
    rotate_left
    ·simp only [Act.put, List.setIfInBounds_toArray, List.set_cons_zero, List.set_cons_succ, i64_w, i32_w]
     rfl
    refine pure_ (i := 3) (N := some 31) (v := ?_) (a' := ?_) #[true, true, true, true, false, false, false, false, false, false, false] rfl rfl (by kernel_rfl) (fun _ _ _ h => h) (Or.inl ⟨by rfl, ?_⟩) ?_ ?_
    rotate_left
    ·intro w'
     go_simp
     with_reducible rfl
    rotate_left
    ·simp only [Act.put, List.setIfInBounds_toArray, List.set_cons_zero, List.set_cons_succ, i64_w, i32_w]
     rfl
    refine pure_ (i := 6) (N := some 34) (v := ?_) (a' := ?_) #[true, true, true, true, false, false, true, false, false, false, false] rfl rfl (by kernel_rfl) (fun _ _ _ h => h) (Or.inl ⟨by rfl, ?_⟩) ?_ ?_
    rotate_left
    ·intro w'
     go_simp
     with_reducible rfl
    rotate_left
    ·simp only [Act.put, List.setIfInBounds_toArray, List.set_cons_zero, List.set_cons_succ, i64_w, i32_w]
     rfl
    refine pure_ (i := 7) (N := some 35) (v := ?_) (a' := ?_) #[true, true, true, true, false, false, true, true, false, false, false] rfl rfl (by kernel_rfl) (fun _ _ _ h => h) (Or.inl ⟨by rfl, ?_⟩) ?_ ?_
    rotate_left
    ·intro w'
     go_simp
     with_reducible rfl
    rotate_left
    ·simp only [Act.put, List.setIfInBounds_toArray, List.set_cons_zero, List.set_cons_succ, i64_w, i32_w]
     rfl
    refine take_ (i := 8) (N := some 36) (v := ?_) (a' := ?_) #[true, true, true, true, false, false, true, true, true, false, false] rfl rfl (by kernel_rfl) (fun _ _ _ h => h) (Or.inl ⟨by rfl, ?_⟩) hHeld ?_ ?_
    rotate_left
    ·intro w' s0
     go_simp
     with_reducible rfl
    rotate_left
    ·simp only [Act.put, List.setIfInBounds_toArray, List.set_cons_zero, List.set_cons_succ, i64_w, i32_w]
     rfl
    refine one_ (i := 4) (N := some 32) #[true, true, true, true, true, false, true, true, true, false, false] rfl rfl (by kernel_rfl) (by decide) (fun K hK => ?_)
    refine value_ (w1 := ?_) (v := ?_) (by rfl) rfl ?_ ?_
    rotate_left 2
    ·go_simp
     constructor
     ·rfl
     ·rfl
    have hs := HS.out.lit_ro kU8 5 (xs := [(nq : Int)]) (inner := [.int .u8 (nq : Int)]) (Reps.one (PK.scalar _) (Reps.none _ _)) (by simp)
    clear HS; have HS := Aside0.mk hs; clear hs
    refine hK.out _ _ ((pw_cell_below HS.out.below HYA.out)) (fun hHeld => ?_)
    clear hK K
    refine norm_ (a' := ?_) ?_ ?_
    rotate_left
    ·show Act.put _ (some 32) _ = _
     simp only [Act.put, List.setIfInBounds_toArray, List.set_cons_zero, List.set_cons_succ, i64_w, i32_w]
     rfl
    refine one_ (i := 5) (N := some 33) #[true, true, true, true, true, true, true, true, true, false, false] rfl rfl (by kernel_rfl) (by decide) (fun K hK => ?_)
    refine sgrow_step kU8 i (by rfl) rfl (.tmp 29) (.tmp 32) 22 5 (.int .u8 0) 1 rfl Tryd.underlying22 info5 rfl (by decide) (by omega) _ _ ys [(nq : Int)] rfl rfl HS.out (by rw [List.getElem?_append_left hlt2]; exact hg) (HS.out.ro _ List.getElem?_concat_length) (by have := HLEN.out; rw [List.length_singleton]; omega) ?_
    intro v1 w1 hs
    rw [List.set_append, if_pos hlt2, List.set_set] at hs
    have hs := hs.sub (List.sublist_append_left _ _)
    clear HS; have HS := Aside0.mk hs; clear hs
    refine hK.out _ _ ((pw_cell_below HS.out.below HYA.out)) (fun hHeld => ?_)
    clear hK K
    refine norm_ (a' := ?_) ?_ ?_
    rotate_left
    ·show Act.put _ (some 33) _ = _
     simp only [Act.put, List.setIfInBounds_toArray, List.set_cons_zero, List.set_cons_succ, i64_w, i32_w]
     rfl
    refine one_ (i := 9) (N := some 37) #[true, true, true, true, true, true, true, true, true, true, false] rfl rfl (by kernel_rfl) (by decide) (fun K hK => ?_)
    refine goesf_ Tryd.func18 (by kernel_rfl) rfl #[v1, .int .u8 x] (by rfl) rfl rfl (by rfl) (by simp only [List.map_toArray, List.map_cons, List.map_nil]; rfl) ?_
    with_reducible refine (lay1_calls X w0 _ (L.set i (.row kU8 5 v1 (ys ++ [(nq : Int)]))) i v1 (ys ++ [(nq : Int)]) x HS.out (List.getElem?_set_self hlt) (by have := HLEN.out; rw [List.length_append, List.length_singleton]; omega)).mono ?_
    rintro e w9 ⟨v9, rfl, hs⟩
    refine ⟨_, rfl, ?_⟩
    rw [List.set_set] at hs
    clear HS; have HS := Aside0.mk hs; clear hs
    refine hK.out _ _ ((pw_cell_below HS.out.below HYA.out)) (fun hHeld => ?_)
    clear hK K
    refine norm_ (a' := ?_) ?_ ?_
    rotate_left
    ·show Act.put _ (some 37) _ = _
     simp only [Act.put, List.setIfInBounds_toArray, List.set_cons_zero, List.set_cons_succ, i64_w, i32_w]
     rfl
    refine pure_ (i := 10) (N := some 0) (v := ?_) (a' := ?_) #[true, true, true, true, true, true, true, true, true, true, true] rfl rfl (by kernel_rfl) (fun _ _ _ h => h) (Or.inl ⟨by rfl, ?_⟩) ?_ ?_
    rotate_left
    ·intro w'
     go_simp
     with_reducible rfl
    rotate_left
    ·simp only [Act.put, List.setIfInBounds_toArray, List.set_cons_zero, List.set_cons_succ, i64_w, i32_w]
     rfl
    refine done_ (by kernel_rfl) ?_
    obtain ⟨j0, hj0, _, hjz0, _⟩ := info_parts info5
    obtain ⟨u9, hu9, hrun9⟩ := H1.out.from_ (P := Tryd.prog) 22 5 Tryd.underlying22 hj0 hjz0 nq (by have := HQL.out; have := HNQ.out; omega)
    clear hj0 hjz0
    have HU9 := Aside0.mk hu9
    clear hu9
    go_wp2_with fail
    go_roundg (t.drop nq).length
    case measure => rw [List.length_drop]; have := HQL.out; have := HNQ.out; have := HZ.out; omega
    case rel =>
     obtain ⟨f', hf1, hf2⟩ := HR2.out
     refine ⟨t.drop nq, ys ++ [(nq : Int)] ++ (fun x => [x]) x, f', ⟨rfl⟩, HU9, ⟨by rw [List.length_drop]; have := HZ.out; have := HNQ.out; omega, hf2⟩, ⟨?_⟩, HS⟩
     have h1 := HLEN.out
     have h2 := HNQ.out
     have h3 := HQL.out
     simp only [List.length_append, List.length_drop, List.length_singleton]
     omega
end Go.Proofs.YtplhfgobeicegaaDoor.P
