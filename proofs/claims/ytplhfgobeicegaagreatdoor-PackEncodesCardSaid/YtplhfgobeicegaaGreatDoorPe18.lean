/- Part 18 of the proof: S12h, S12f. -/
import Derived.Test.YtplhfgobeicegaaGreatDoorPe16
namespace Go.Proofs.YtplhfgobeicegaaGreatDoor.P
open Go Go.RowKit Go.Proofs.YtplhfgobeicegaaGreatDoorW.PrintWords Go.Proofs.YtplhfgobeicegaaGreatDoorW.PrintLast Go.Proofs.YtplhfgobeicegaaGreatDoorW.PrintMore Go.Proofs.YtplhfgobeicegaaGreatDoor.PX
set_option linter.unusedVariables false
set_option linter.unusedSimpArgs false
set_option maxRecDepth 100000
def bareR : List (List Sp) → List Int → List Int
 | p :: ps, x :: xs => if 0 < p.length then x :: bareR ps xs else bareR ps xs
 | _, _ => []
def bareP (parts : List (List Sp)) : List (List Sp) := parts.filter (fun p => decide (0 < p.length))
theorem bareR_cut (parts : List (List Sp)) (row : List Int) (k : Nat) (h : k < parts.length) (hr : row.length = parts.length) : bareR (parts.drop k) (row.drop k) = if 0 < (parts.getD k []).length then row.getD k 0 :: bareR (parts.drop (k + 1)) (row.drop (k + 1)) else bareR (parts.drop (k + 1)) (row.drop (k + 1)) := by
 rw [drop_at parts [] k h, drop_at row 0 k (by omega), bareR]
set_option maxHeartbeats 8000000 in
theorem bare_calls (X : Nat → Prop) (vp vn vt : Value) (parts : List (List Sp)) (next : List (List Int)) (tags : List Int) (w : World) (hX : ∀ k, X k → k < w.heap.size) (hp : PV kSps X w vp parts) (hn : PV kRow X w vn next) (ht : PV kInt X w vt tags)
  (hrow : ∀ i, i < next.length → (next.getD i []).length = parts.length) (hpl : parts.length ≤ 100000) (hnl : next.length ≤ 1000000) :
  Calls Tryz.prog 77 #[.agg #[vp, vn, vt]] w fun e w' => ∃ vp' vn', e = .returned (.agg #[vp', vn', vt]) ∧ PV kSps X w' vp' (bareP parts) ∧ PV kRow X w' vn' (next.map (bareR parts)) ∧ Below w.heap.size w w' := by
 have H0 := aM hp
 have H1 := aM hn
 have H2 := aM ht
 have HROW := aM hrow
 obtain ⟨Ap, cp, rfl, _, _⟩ := hp.now
 obtain ⟨An, cn, rfl, _, _⟩ := hn.now
 obtain ⟨At, ct, rfl, _, _⟩ := ht.now
 have HP0 := aM (show [] ++ (parts.drop 0).filter (fun p => decide (0 < p.length)) = bareP parts from rfl)
 have HN0 := aM (show [] ++ (next.drop 0).map (bareR parts) = next.map (bareR parts) from rfl)
 generalize bareP parts = rp at *
 generalize next.map (bareR parts) = rn at *
 have HS := aM (((((Sep.start hX).push_box [.slice Ap parts.length cp, .slice An next.length cn, .slice At tags.length ct] 80).push_box' [.slice none 0 0, .slice none 0 0, .slice none 0 0] 80 (w.heap.size + 1) (by simp)).push_box' [.slice none 0 0, .slice none 0 0, .slice At tags.length ct] 80 (w.heap.size + 1 + 1) (by simp)).push_nil kSps 91 |>.push_nil kRow 26)
 clear hp hn ht hX hrow
 go_enter Tryz.func77, Tryz.ntmps77
 go_wp2_with fail
 obtain ⟨g3, hg3⟩ : ∃ g, g = w.heap.size + 1 + 1 := ⟨_, rfl⟩
 obtain ⟨g2, hg2⟩ : ∃ g, g = w.heap.size + 1 := ⟨_, rfl⟩
 obtain ⟨g1, hg1⟩ : ∃ g, g = w.heap.size := ⟨_, rfl⟩
 rw [← hg3, ← hg2, ← hg1] at HS ⊢
 clear hg1 hg2 hg3
 go_loopg [4] parts.length (fun m v4 w' => ∃ (k : Nat) (vP : Value) (P : List (List Sp)), v4 = .int .i64 k ∧ Aside0 (k + m = parts.length ∧ P.length ≤ k) ∧ Aside0 (P ++ (parts.drop k).filter (fun p => decide (0 < p.length)) = rp) ∧ Aside0 (Sep X w w' [.box g1 80 [.slice Ap parts.length cp, .slice An next.length cn, .slice At tags.length ct], .box g2 80 [.slice none 0 0, .slice none 0 0, .slice none 0 0], .box g3 80 [vP, (.slice none 0 0), .slice At tags.length ct], .row kSps 91 vP P, .row kRow 26 (.slice none 0 0) []]))
 case atStart => exact ⟨0, _, [], rfl, ⟨by omega, by simp⟩, HP0, HS⟩
 case round =>
  clear HS HP0
  obtain ⟨k, vP, P, rfl, HJ, HP, HS⟩ := hrel
  have y0 := ((HS.out.box 0 rfl).cell 0 rfl)
  cases gk with
  | succ k1 =>
   have hk : k < parts.length := by have := HJ.out; omega
   have e1 : decide ((k : Int) < (parts.length : Int)) = true := dT (by omega)
   have e2 : decide (k < parts.length) = true := dT hk
   have hk0 : (0 : Int) ≤ (k : Int) := by omega
   have hk1 : (k : Int) < (parts.length : Int) := by omega
   obtain ⟨ap, cp', u, ep, hu, yp⟩ := H0.out.row k hk
   cases ep
   obtain ⟨Au, cu, rfl, _, _⟩ := hu.now
   have HU := aM hu
   have HY := aM yp
   have yp1 := pw_cell_below HS.out.below yp
   have HP1 := HP.out
   rw [drop_at parts [] k hk, List.filter_cons] at HP1
   generalize parts.getD k [] = p at *
   clear hu yp
   rcases Nat.eq_zero_or_pos p.length with c | c
   case inl =>
    have d1 : decide ((p.length : Int) > 0) = false := dF (by omega)
    have d2 : decide (0 < p.length) = false := dF (by omega)
    have d4 : decide (0 < (p.length : Int)) = false := dF (by omega)
    have d3 : p.length ≤ 0 := by omega
    have HP2 := aM (show P ++ (parts.drop (k + 1)).filter (fun p => decide (0 < p.length)) = rp by rw [d2, if_neg (by decide)] at HP1; exact HP1)
    clear HP1
    go_wp2_with fail
    go_roundg k1
    case measure => omega
    case rel => exact ⟨k + 1, vP, P, by go_num, ⟨by have := HJ.out; omega, by have := HJ.out; omega⟩, HP2, HS⟩
   case inr =>
    have d1 : decide ((p.length : Int) > 0) = true := dT (by omega)
    have d4 : decide (0 < (p.length : Int)) = true := dT (by omega)
    have d2 : decide (0 < p.length) = true := dT (by omega)
    have HP2 := aM (show (P ++ [p]) ++ (parts.drop (k + 1)).filter (fun p => decide (0 < p.length)) = rp by rw [d2, if_pos rfl] at HP1; rw [List.append_assoc]; exact HP1)
    have HPL := aM (show (P.length + 1) * 24 ≤ 140737488355328 by have := HJ.out; omega)
    clear HP1
    go_wp2_with fail
    clear y0 yp1
    have hs := HS.out.drew
    clear HS; have HS := aM hs; clear hs
    refine start_ (n := 11) (S := fun w' => w'.cell? ⟨g3, 0, none⟩ = some vP ∧ w'.cell? ⟨g1, 0, none⟩ = some (.slice (some ap) parts.length cp) ∧ w'.cell? (ap.add k) = some (.slice Au p.length cu)) (ds := [8, 10]) #[false, false, false, false, false, false, false, false, false, false, false] (by kernel_rfl) rfl rfl ⟨((HS.out.box 2 rfl).cell 0 rfl), ((HS.out.box 0 rfl).cell 0 rfl), (pw_cell_below HS.out.below HY.out)⟩ (fun hHeld => ?_)
    refine pure_ (i := 0) (N := some 25) (v := ?_) (a' := ?_) (bv 11 1) rfl rfl (by kernel_rfl) (fun _ _ _ h => h) (Or.inl ⟨by rfl, ?_⟩) ?_ ?_
    rotate_left
    ·intro w'
     go_simp
     with_reducible rfl
    rotate_left
    ·simp only [Act.put, qA, qB, qC, i64_w, i32_w]
     rfl
    refine pure_ (i := 2) (N := some 27) (v := ?_) (a' := ?_) (bv 11 5) rfl rfl (by kernel_rfl) (fun _ _ _ h => h) (Or.inl ⟨by rfl, ?_⟩) ?_ ?_
    rotate_left
    ·intro w'
     go_simp
     with_reducible rfl
    rotate_left
    ·simp only [Act.put, qA, qB, qC, i64_w, i32_w]
     rfl
    refine pure_ (i := 4) (N := some 29) (v := ?_) (a' := ?_) (bv 11 21) rfl rfl (by kernel_rfl) (fun _ _ _ h => h) (Or.inl ⟨by rfl, ?_⟩) ?_ ?_
    rotate_left
    ·intro w'
     go_simp
     with_reducible rfl
    rotate_left
    ·simp only [Act.put, qA, qB, qC, i64_w, i32_w]
     rfl
    refine take_ (i := 1) (N := some 26) (v := ?_) (a' := ?_) (bv 11 23) rfl rfl (by kernel_rfl) (fun _ _ _ h => h) (Or.inl ⟨by rfl, ?_⟩) hHeld ?_ ?_
    rotate_left
    ·rintro w' ⟨s0, s1, s2⟩
     go_simp
     with_reducible rfl
    rotate_left
    ·simp only [Act.put, qA, qB, qC, i64_w, i32_w]
     rfl
    refine take_ (i := 3) (N := some 28) (v := ?_) (a' := ?_) (bv 11 31) rfl rfl (by kernel_rfl) (fun _ _ _ h => h) (Or.inl ⟨by rfl, ?_⟩) hHeld ?_ ?_
    rotate_left
    ·rintro w' ⟨s0, s1, s2⟩
     go_simp
     with_reducible rfl
    rotate_left
    ·simp only [Act.put, qA, qB, qC, i64_w, i32_w]
     rfl
    refine pure_ (i := 5) (N := some 30) (v := ?_) (a' := ?_) (bv 11 63) rfl rfl (by kernel_rfl) (fun _ _ _ h => h) (Or.inl ⟨by rfl, ?_⟩) ?_ ?_
    rotate_left
    ·intro w'
     go_simp
     with_reducible rfl
    rotate_left
    ·simp only [Act.put, qA, qB, qC, i64_w, i32_w]
     rfl
    refine take_ (i := 6) (N := some 31) (v := ?_) (a' := ?_) (bv 11 127) rfl rfl (by kernel_rfl) (fun _ _ _ h => h) (Or.inl ⟨by rfl, ?_⟩) hHeld ?_ ?_
    rotate_left
    ·rintro w' ⟨s0, s1, s2⟩
     go_simp
     with_reducible rfl
    rotate_left
    ·simp only [Act.put, qA, qB, qC, i64_w, i32_w]
     rfl
    refine one_ (i := 7) (N := some 32) (bv 11 255) rfl rfl (by kernel_rfl) (by decide) (fun K hK => ?_)
    refine value_ (w1 := ?_) (v := ?_) (by rfl) rfl ?_ ?_
    rotate_left 2
    ·go_simp
     constructor
     ·rfl
     ·rfl
    have hs := HS.out.lit_ro kSps 91 (xs := [p]) (inner := [.slice Au p.length cu]) (Reps.one (PK.slice (HS.out.arg HU.out)) (Reps.none _ _)) (by simp)
    clear HS; have HS := aM hs; clear hs
    refine hK.out _ _ ⟨((HS.out.box 2 rfl).cell 0 rfl), ((HS.out.box 0 rfl).cell 0 rfl), (pw_cell_below HS.out.below HY.out)⟩ (fun hHeld => ?_)
    clear hK K
    refine norm_ (a' := ?_) ?_ ?_
    rotate_left
    ·show Act.put _ (some 32) _ = _
     simp only [Act.put, qA, qB, qC, i64_w, i32_w]
     rfl
    refine last_ (i := 8) (N := some 33) #[true, true, true, true, true, true, true, true, true, false, false] rfl rfl (by kernel_rfl) (by decide) (fun K hK => ?_)
    refine sgrow_step kSps 3 (by rfl) rfl (.tmp 26) (.tmp 32) 78 91 (.slice none 0 0) 24 rfl Tryz.underlying78 info91 rfl (by decide) (by omega) _ _ P [p] rfl rfl HS.out rfl (HS.out.ro 5 rfl) (by have := HPL.out; simpa using this) ?_
    intro v1 w1 hs
    obtain ⟨z1, hz1⟩ : ∃ q, q = P ++ [p] := ⟨_, rfl⟩
    rw [← hz1] at hs
    have HZz1 := aM hz1
    clear hz1
    obtain ⟨A1, c1, e1⟩ := hs.form 3 rfl
    subst e1
    clear HS; have HS := aM hs; clear hs
    have fz := (HS.out.box 2 rfl).open_ 0
    have yz := (HS.out.box 2 rfl).cell 0 rfl
    refine hK.out _ _ ?_
    clear hK K
    refine norm_ (a' := ?_) ?_ ?_
    rotate_left
    ·show Act.put _ (some 33) _ = _
     simp only [Act.put, qA, qB, qC, i64_w, i32_w]
     rfl
    refine pure_ (i := 9) (N := some 34) (v := ?_) (a' := ?_) (bv 11 1023) rfl rfl (by kernel_rfl) (fun _ _ _ h => h) (Or.inl ⟨by rfl, ?_⟩) ?_ ?_
    rotate_left
    ·intro w'
     go_simp
     with_reducible rfl
    rotate_left
    ·simp only [Act.put, qA, qB, qC, i64_w, i32_w]
     rfl
    refine last_ (i := 10) (N := none) #[true, true, true, true, true, true, true, true, true, true, true] rfl rfl (by kernel_rfl) (by decide) (fun K hK => ?_)
    refine skip_ (w1 := ?_) (by rfl) rfl ?_ ?_
    rotate_left
    ·go_simp
     rfl
    have hs := HS.out.set_box 2 rfl 0 (.slice A1 z1.length c1)
    clear HS; have HS := aM hs; clear hs
    refine hK.out _ _ ?_
    clear hK K
    refine done_ (by kernel_rfl) ?_
    go_wp2_with fail
    go_roundg k1
    case measure => omega
    case rel => exact ⟨k + 1, _, z1, by go_num, ⟨by have := HJ.out; omega, by rw [HZz1.out]; have := HJ.out; simp; omega⟩, ⟨by rw [HZz1.out]; exact HP2.out⟩, ⟨HS.out.take 5⟩⟩
  | zero =>
   have e1 : decide ((k : Int) < (parts.length : Int)) = false := dF (by have := HJ.out; omega)
   have e2 : decide (k < parts.length) = false := dF (by have := HJ.out; omega)
   have q0 : P = rp := by
    have := HP.out
    rw [List.drop_eq_nil_of_le (by have := HJ.out; omega)] at this
    simpa using this
   subst q0
   go_wp2_with fail
   clear HP HJ e1 e2 y0
   obtain ⟨A3, c3, e3⟩ := HS.out.form 3 rfl
   subst e3
   go_loopg [5] next.length (fun m v5 w' => ∃ (i : Nat) (vN : Value) (N : List (List Int)), v5 = .int .i64 i ∧ Aside0 (i + m = next.length ∧ N.length = i) ∧ Aside0 (N ++ (next.drop i).map (bareR parts) = rn) ∧ Aside0 (Sep X w w' [.box g1 80 [.slice Ap parts.length cp, .slice An next.length cn, .slice At tags.length ct], .box g2 80 [.slice none 0 0, .slice none 0 0, .slice none 0 0], .box g3 80 [(.slice A3 P.length c3), vN, .slice At tags.length ct], .row kSps 91 (.slice A3 P.length c3) P, .row kRow 26 vN N]))
   case atStart => exact ⟨0, _, [], rfl, ⟨by omega, rfl⟩, HN0, HS⟩
   case round =>
    clear HS HN0
    obtain ⟨i, vN, N, rfl, HJ, HN, HS⟩ := hrel
    obtain ⟨A4, c4, e4⟩ := HS.out.form 4 rfl
    subst e4
    have y1 := ((HS.out.box 0 rfl).cell 1 rfl)
    cases gk with
    | zero =>
     have e1 : decide ((i : Int) < (next.length : Int)) = false := dF (by have := HJ.out; omega)
     have e2 : decide (i < next.length) = false := dF (by have := HJ.out; omega)
     have q0 : N = rn := by
      have := HN.out
      rw [List.drop_eq_nil_of_le (by have := HJ.out; omega)] at this
      simpa using this
     subst q0
     have z0 := ((HS.out.box 2 rfl).cell 0 rfl)
     have z1 := ((HS.out.box 2 rfl).cell 1 rfl)
     have z2 := ((HS.out.box 2 rfl).cell 2 rfl)
     have x0 := ((HS.out.box 1 rfl).cell 0 rfl)
     have x1 := ((HS.out.box 1 rfl).cell 1 rfl)
     have x2 := ((HS.out.box 1 rfl).cell 2 rfl)
     have f0 := (HS.out.box 1 rfl).open_ 0
     have f1 := (HS.out.box 1 rfl).open_ 1
     have f2 := (HS.out.box 1 rfl).open_ 2
     go_wp2_with fail
     have HSF := aM (((HS.out.set_box 1 rfl 0 (.slice A3 P.length c3)).set_box 1 rfl 1 (.slice A4 N.length c4)).set_box 1 rfl 2 (.slice At tags.length ct))
     refine bodyPost_ret (results_cell_row rfl _ _ g2 80 #[.slice A3 P.length c3, .slice A4 N.length c4, .slice At tags.length ct] (0, 0) _ rfl (HSF.out.box 1 rfl) Tryz.underlying80 rfl (by kernel_rfl)) rfl ?_
     exact ⟨_, _, rfl, HSF.out.res_row 3 rfl, HSF.out.res_row 4 rfl, HSF.out.below⟩
    | succ k1 =>
     have hi : i < next.length := by have := HJ.out; omega
     have e1 : decide ((i : Int) < (next.length : Int)) = true := dT (by omega)
     have e2 : decide (i < next.length) = true := dT hi
     have hi0 : (0 : Int) ≤ (i : Int) := by omega
     have hi1 : (i : Int) < (next.length : Int) := by omega
     obtain ⟨an, cn', u, en, hu, yn⟩ := H1.out.row i hi
     cases en
     obtain ⟨Au, cu, rfl, _, _⟩ := hu.now
     have HU := aM hu
     have HY := aM yn
     have HRL := aM (HROW.out i hi)
     have HN1 := HN.out
     rw [drop_at next [] i hi, List.map_cons] at HN1
     generalize next.getD i [] = row at *
     obtain ⟨rr, hrr⟩ : ∃ q, q = bareR parts row := ⟨_, rfl⟩
     rw [← hrr] at HN1
     have HN2 := aM (show (N ++ [rr]) ++ (next.drop (i + 1)).map (bareR parts) = rn by rw [List.append_assoc]; exact HN1)
     have HR0 := aM (show [] ++ bareR (parts.drop 0) (row.drop 0) = rr from hrr.symm)
     have hs := HS.out.push_nil kInt 3
     clear hu yn HN1 HN hrr HS
     have HS := aM hs
     clear hs
     go_wp2_with fail
     clear y1
     go_loopg [6, 7] parts.length (fun m v6 v7 w' => ∃ (k : Nat) (R : List Int), v7 = .int .i64 k ∧ Aside0 (k + m = parts.length ∧ R.length ≤ k) ∧ Aside0 (R ++ bareR (parts.drop k) (row.drop k) = rr) ∧ Aside0 (Sep X w w' [.box g1 80 [.slice Ap parts.length cp, .slice (some an) next.length cn, .slice At tags.length ct], .box g2 80 [.slice none 0 0, .slice none 0 0, .slice none 0 0], .box g3 80 [(.slice A3 P.length c3), (.slice A4 N.length c4), .slice At tags.length ct], .row kSps 91 (.slice A3 P.length c3) P, .row kRow 26 (.slice A4 N.length c4) N, .row kInt 3 v6 R]))
     case atStart => exact ⟨0, [], rfl, ⟨by omega, by simp⟩, HR0, HS⟩
     case round =>
      clear HS HR0
      obtain ⟨k, R, rfl, HK, HR, HS⟩ := hrel
      have y0 := ((HS.out.box 0 rfl).cell 0 rfl)
      have y1 := ((HS.out.box 0 rfl).cell 1 rfl)
      cases gk with
      | succ k2 =>
       have hk : k < parts.length := by have := HK.out; omega
       have e1 : decide ((k : Int) < (parts.length : Int)) = true := dT (by omega)
       have e2 : decide (k < parts.length) = true := dT hk
       have hk0 : (0 : Int) ≤ (k : Int) := by omega
       have hk1 : (k : Int) < (parts.length : Int) := by omega
       have hkr : (k : Int) < (row.length : Int) := by have := HRL.out; omega
       obtain ⟨ap, cp', u, ep, hu, yp⟩ := H0.out.row k hk
       cases ep
       obtain ⟨Ap2, cp2, rfl, _, _⟩ := hu.now
       obtain ⟨ar, cr, er, yr⟩ := int_cell HU.out k (by have := HRL.out; omega)
       cases er
       have yp1 := pw_cell_below HS.out.below yp
       have yr1 := pw_cell_below HS.out.below yr
       have yn1 := pw_cell_below HS.out.below HY.out
       have HR1 := HR.out
       rw [bareR_cut parts row k hk HRL.out] at HR1
       generalize parts.getD k [] = p at *
       generalize row.getD k 0 = x at *
       clear hu yp yr
       rcases Nat.eq_zero_or_pos p.length with c | c
       case inl =>
        have d1 : decide ((p.length : Int) > 0) = false := dF (by omega)
        have d2 : decide (0 < p.length) = false := dF (by omega)
        have d4 : decide (0 < (p.length : Int)) = false := dF (by omega)
        have d3 : p.length ≤ 0 := by omega
        have HR2 := aM (show R ++ bareR (parts.drop (k + 1)) (row.drop (k + 1)) = rr by rwa [if_neg (by omega)] at HR1)
        clear HR1
        go_wp2_with fail
        go_roundg k2
        case measure => omega
        case rel => exact ⟨k + 1, R, by go_num, ⟨by have := HK.out; omega, by have := HK.out; omega⟩, HR2, HS⟩
       case inr =>
        have d1 : decide ((p.length : Int) > 0) = true := dT (by omega)
        have d4 : decide (0 < (p.length : Int)) = true := dT (by omega)
        have d2 : decide (0 < p.length) = true := dT (by omega)
        have HR2 := aM (show (R ++ [x]) ++ bareR (parts.drop (k + 1)) (row.drop (k + 1)) = rr by rw [if_pos c] at HR1; rw [List.append_assoc]; exact HR1)
        have HPL := aM (show (R.length + 1) * 8 ≤ 140737488355328 by have := HK.out; omega)
        clear HR1
        go_wp2_with (first
         | ((with_reducible refine gate_dst (N := 65) rfl ?_); refine slit kInt 3 ?hg (N := 65) ?hd (xs := [x]) (inner := [.int .i64 x]) ?hr HS.out ?hp (by simp) ?_; (case hd => rfl); (case hg => rfl); (case hr => first | (go_simp; done) | (go_simp; rfl)); (case hp => exact Reps.one (PK.scalar _) (Reps.none _ _)); clear HS; intro v8 w8 hs; have HS := aM hs; clear hs)
         | ((with_reducible refine gate_builtin (b := .append) (xs := #[.tmp 56, .tmp 65]) rfl ?_); at_builtin; refine sgrow kInt 5 rfl (.tmp 56) (.tmp 65) 26 3 (.int .i64 0) 8 rfl Tryz.underlying26 info3' rfl (by decide) (by omega) _ _ R [x] rfl rfl HS.out rfl (HS.out.ro 6 rfl) (by have := HPL.out; simpa using this) ?_; clear HS; intro v9 w9 hs; have HS := aM hs; clear hs))
        go_roundg k2
        case measure => omega
        case rel => exact ⟨k + 1, R ++ [x], by go_num, ⟨by have := HK.out; omega, by have := HK.out; simp; omega⟩, HR2, ⟨HS.out.take 6⟩⟩
      | zero =>
       have e1 : decide ((k : Int) < (parts.length : Int)) = false := dF (by have := HK.out; omega)
       have e2 : decide (k < parts.length) = false := dF (by have := HK.out; omega)
       have q0 : R = rr := by
        have := HR.out
        rw [List.drop_eq_nil_of_le (by have := HK.out; omega)] at this
        simpa [bareR] using this
       clear HR
       subst q0
       obtain ⟨A6, c6, e6⟩ := HS.out.form 5 rfl
       subst e6
       have hs := HS.out.sealRo 5 rfl
       clear HS
       have HS := aM hs
       have y2 := ((HS.out.box 2 rfl).cell 1 rfl)
       clear hs
       have HPL := aM (show (N.length + 1) * 24 ≤ 140737488355328 by have := HJ.out; omega)
       go_wp2_with (first
        | ((with_reducible refine gate_dst (N := 70) rfl ?_); refine slit kRow 26 ?hg (N := 70) ?hd (xs := [R]) (inner := [.slice A6 R.length c6]) ?hr HS.out ?hp (by simp) ?_; (case hd => rfl); (case hg => rfl); (case hr => first | (go_simp; done) | (go_simp; rfl)); (case hp => exact Reps.one (PK.slice (HS.out.ro 5 rfl)) (Reps.none _ _)); clear HS; intro v8 w8 hs; have HS := aM hs; clear hs)
        | ((with_reducible refine gate_builtin (b := .append) (xs := #[.tmp 68, .tmp 70]) rfl ?_); at_builtin; refine sgrow kRow 4 rfl (.tmp 68) (.tmp 70) 25 26 (.slice none 0 0) 24 rfl Tryz.underlying25 info26 rfl (by decide) (by omega) _ _ N [R] rfl rfl HS.out rfl (HS.out.ro 6 rfl) (by have := HPL.out; simpa using this) ?_; clear HS; intro v1 w1 hs; obtain ⟨n1, hn1⟩ : ∃ q, q = N ++ [R] := ⟨_, rfl⟩; rw [← hn1] at hs; have HZn1 := aM hn1; clear hn1; obtain ⟨A1, c1, e1⟩ := hs.form 4 rfl; subst e1; have fz := (hs.box 2 rfl).open_ 1; have yz := (hs.box 2 rfl).cell 1 rfl; have HS := aM hs; clear hs))
       have hs := HS.out.set_box 2 rfl 1 (.slice A1 n1.length c1)
       clear HS
       have HS := aM hs
       go_roundg k1
       case measure => omega
       case rel => exact ⟨i + 1, _, n1, by go_num, ⟨by have := HJ.out; omega, by rw [HZn1.out]; have := HJ.out; simp; omega⟩, ⟨by rw [HZn1.out]; exact HN2.out⟩, ⟨HS.out.take 5⟩⟩
def alike12 (next : List (List Int)) (l of_ states : List Int) (a b : Nat) : Bool := states.all (fun s => decide (kindL next l of_ s.toNat a = kindL next l of_ s.toNat b))
theorem alike12_cons (next : List (List Int)) (l of_ : List Int) (s : Int) (t : List Int) (a b : Nat) : alike12 next l of_ (s :: t) a b = (decide (kindL next l of_ s.toNat a = kindL next l of_ s.toNat b) && alike12 next l of_ t a b) := rfl
set_option maxHeartbeats 4000000 in
theorem alike12_calls (X : Nat → Prop) (vp vn vt vl vo vs : Value) (parts : List (List Sp)) (next : List (List Int)) (tags l of_ states : List Int) (a b : Nat) (w : World) (hp : PV kSps X w vp parts) (hn : PV kRow X w vn next) (ht : PV kInt X w vt tags) (hl : PV kInt X w vl l) (ho : PV kInt X w vo of_) (hs : PV kInt X w vs states)
  (ha : a < parts.length) (hb : b < parts.length) (hst : ∀ s ∈ states, 0 ≤ s ∧ s < (next.length : Int)) (hol : of_.length = l.length) (hnl : next.length = l.length) (hok : Ok12 parts.length l.length next) :
  Calls Tryz.prog 92 #[.agg #[vp, vn, vt], vl, vo, vs, .int .i64 (a : Int), .int .i64 (b : Int)] w fun e w' => e = .returned (.bool (alike12 next l of_ states a b)) ∧ Below w.heap.size w w' := by
 have ms := hs.max
 have H0 := aM hp
 have H1 := aM hn
 have H2 := aM ht
 have H3 := aM hl
 have H4 := aM ho
 have H5 := aM hs
 have HOK := aM hok
 have HST := aM hst
 have HLE := aM (show a < parts.length ∧ b < parts.length ∧ of_.length = l.length from ⟨ha, hb, hol⟩)
 obtain ⟨Ap, cp, rfl, _, _⟩ := hp.now
 obtain ⟨An, cn, rfl, _, _⟩ := hn.now
 obtain ⟨At, ct, rfl, _, _⟩ := ht.now
 obtain ⟨Al, cl, rfl, _, _⟩ := hl.now
 obtain ⟨Ao, co, rfl, _, _⟩ := ho.now
 obtain ⟨As, cs, rfl, _, _⟩ := hs.now
 obtain ⟨q, hq⟩ : ∃ q, q = alike12 next l of_ states a b := ⟨_, rfl⟩
 rw [← hq]
 have HQ := aM (show alike12 next l of_ (states.drop 0) a b = q from hq.symm)
 clear hp hn ht hl ho hs ha hb hst hol hnl hok hq
 go_enter Tryz.func92, Tryz.ntmps92
 go_wp2_with fail
 have HB1 := aM (below_alloc (Below.refl w.heap.size w) (.cells #[.slice Ap parts.length cp, .slice An next.length cn, .slice At tags.length ct] 80))
 have HG := aM (Box.alloc w 80 [.slice Ap parts.length cp, .slice An next.length cn, .slice At tags.length ct])
 obtain ⟨w2, hw2⟩ : ∃ w2, w2 = w.alloc (.cells #[.slice Ap parts.length cp, .slice An next.length cn, .slice At tags.length ct] 80) := ⟨_, rfl⟩
 rw [← hw2] at HB1 ⊢
 have HG0 := aM (show Box w2 w.heap.size 80 [.slice Ap parts.length cp, .slice An next.length cn, .slice At tags.length ct] by rw [hw2]; exact HG.out)
 clear HG hw2
 obtain ⟨g, hg⟩ : ∃ g, g = w.heap.size := ⟨_, rfl⟩
 rw [← hg] at HG0 ⊢
 clear hg
 go_loopg [13] states.length (fun m v13 w' => ∃ (i : Nat), v13 = .int .i64 i ∧ Aside0 (i + m = states.length) ∧ Aside0 (alike12 next l of_ (states.drop i) a b = q) ∧ Aside0 (Below w2.heap.size w2 w'))
 case atStart => exact ⟨0, rfl, ⟨by omega⟩, HQ, ⟨Below.refl _ _⟩⟩
 case round =>
  clear HQ
  obtain ⟨k, rfl, HJ, HQ, HB⟩ := hrel
  have HGi := aM (HG0.out.step HB.out)
  have y0 := HGi.out.cell 0 rfl
  have y1 := HGi.out.cell 1 rfl
  have y2 := HGi.out.cell 2 rfl
  have HBB := aM (below_step HB1.out HB.out)
  cases gk with
  | zero =>
   have e1 : decide ((k : Int) < (states.length : Int)) = false := dF (by have := HJ.out; omega)
   have e2 : decide (k < states.length) = false := dF (by have := HJ.out; omega)
   have q0 : true = q := by have := HQ.out; rw [List.drop_eq_nil_of_le (by have := HJ.out; omega)] at this; exact this
   clear HQ
   subst q0
   go_wp2_with fail
   go_ret
   exact ⟨rfl, HBB.out⟩
  | succ k1 =>
   have hk : k < states.length := by have := HJ.out; omega
   have e1 : decide ((k : Int) < (states.length : Int)) = true := dT (by omega)
   have e2 : decide (k < states.length) = true := dT hk
   have hk0 : (0 : Int) ≤ (k : Int) := by omega
   have hk1 : (k : Int) < (states.length : Int) := by omega
   obtain ⟨as_, cs', es, ys0⟩ := int_cell H5.out k hk
   cases es
   have HSK := HST.out _ (mem_getD states 0 k hk)
   have HQ1 := HQ.out
   rw [drop_at states 0 k hk, alike12_cons] at HQ1
   generalize states.getD k 0 = s at *
   obtain ⟨sn, rfl⟩ := Int.eq_ofNat_of_zero_le HSK.1
   rw [Int.toNat_natCast] at HQ1
   have HSN := aM (show sn < next.length by omega)
   obtain ⟨r1, hr1⟩ : ∃ r, r = kindL next l of_ sn a := ⟨_, rfl⟩
   obtain ⟨r2, hr2⟩ : ∃ r, r = kindL next l of_ sn b := ⟨_, rfl⟩
   rw [← hr1, ← hr2] at HQ1
   have HQ2 := aM HQ1
   have HR1 := aM hr1
   have HR2 := aM hr2
   clear hr1 hr2 HQ1 HQ HSK
   have HBd := aM (below_drew (Below.refl wr.heap.size wr))
   have ys := pw_cell_below HBB.out ys0
   have yd0 := pw_cell_below HBd.out y0
   have yd1 := pw_cell_below HBd.out y1
   have yd2 := pw_cell_below HBd.out y2
   have yd3 := pw_cell_below HBd.out ys
   have HD := aM (fun (W : World) (hb : Below wr.heap.size wr W) => kind_calls X (.slice Ap parts.length cp) (.slice An next.length cn) (.slice At tags.length ct) (.slice Al l.length cl) (.slice Ao of_.length co) parts next tags l of_ sn a W ((H0.out.below HBB.out).below hb) ((H1.out.below HBB.out).below hb) ((H2.out.below HBB.out).below hb) ((H3.out.below HBB.out).below hb) ((H4.out.below HBB.out).below hb) HSN.out (by rw [(HOK.out sn HSN.out).1]; exact HLE.out.1) ((HOK.out sn HSN.out).2 a HLE.out.1) HLE.out.2.2)
   have HD2 := aM (fun (W : World) (hb : Below wr.heap.size wr W) => kind_calls X (.slice Ap parts.length cp) (.slice An next.length cn) (.slice At tags.length ct) (.slice Al l.length cl) (.slice Ao of_.length co) parts next tags l of_ sn b W ((H0.out.below HBB.out).below hb) ((H1.out.below HBB.out).below hb) ((H2.out.below HBB.out).below hb) ((H3.out.below HBB.out).below hb) ((H4.out.below HBB.out).below hb) HSN.out (by rw [(HOK.out sn HSN.out).1]; exact HLE.out.2.1) ((HOK.out sn HSN.out).2 b HLE.out.2.1) HLE.out.2.2)
   go_wp2_with fail
   refine start_ (n := 19) (S := fun w' => w'.cell? ⟨g, 0, none⟩ = some (.slice Ap parts.length cp) ∧ w'.cell? ⟨g, 1, none⟩ = some (.slice An next.length cn) ∧ w'.cell? ⟨g, 2, none⟩ = some (.slice At tags.length ct) ∧ w'.cell? (as_.add k) = some (.int .i64 (sn : Int))) (ds := []) #[false, false, false, false, false, false, false, false, false, false, false, false, false, false, false, false, false, false, false] (by kernel_rfl) rfl rfl ⟨yd0, yd1, yd2, yd3⟩ (fun hHeld => ?_)
   refine pure_ (i := 1) (N := some 21) (v := ?_) (a' := ?_) (bv 19 2) rfl rfl (by kernel_rfl) (fun _ _ _ h => h) (Or.inl ⟨by rfl, ?_⟩) ?_ ?_
   rotate_left
   ·intro w'
    go_simp
    with_reducible rfl
   rotate_left
   ·simp only [Act.put, qA, qB, qC, i64_w, i32_w]
    rfl
   refine pure_ (i := 2) (N := some 22) (v := ?_) (a' := ?_) (bv 19 6) rfl rfl (by kernel_rfl) (fun _ _ _ h => h) (Or.inl ⟨by rfl, ?_⟩) ?_ ?_
   rotate_left
   ·intro w'
    go_simp
    with_reducible rfl
   rotate_left
   ·simp only [Act.put, qA, qB, qC, i64_w, i32_w]
    rfl
   refine pure_ (i := 3) (N := some 23) (v := ?_) (a' := ?_) (bv 19 14) rfl rfl (by kernel_rfl) (fun _ _ _ h => h) (Or.inl ⟨by rfl, ?_⟩) ?_ ?_
   rotate_left
   ·intro w'
    go_simp
    with_reducible rfl
   rotate_left
   ·simp only [Act.put, qA, qB, qC, i64_w, i32_w]
    rfl
   refine pure_ (i := 4) (N := some 24) (v := ?_) (a' := ?_) (bv 19 30) rfl rfl (by kernel_rfl) (fun _ _ _ h => h) (Or.inl ⟨by rfl, ?_⟩) ?_ ?_
   rotate_left
   ·intro w'
    go_simp
    with_reducible rfl
   rotate_left
   ·simp only [Act.put, qA, qB, qC, i64_w, i32_w]
    rfl
   refine pure_ (i := 5) (N := some 25) (v := ?_) (a' := ?_) (bv 19 62) rfl rfl (by kernel_rfl) (fun _ _ _ h => h) (Or.inl ⟨by rfl, ?_⟩) ?_ ?_
   rotate_left
   ·intro w'
    go_simp
    with_reducible rfl
   rotate_left
   ·simp only [Act.put, qA, qB, qC, i64_w, i32_w]
    rfl
   refine pure_ (i := 7) (N := some 27) (v := ?_) (a' := ?_) (bv 19 190) rfl rfl (by kernel_rfl) (fun _ _ _ h => h) (Or.inl ⟨by rfl, ?_⟩) ?_ ?_
   rotate_left
   ·intro w'
    go_simp
    with_reducible rfl
   rotate_left
   ·simp only [Act.put, qA, qB, qC, i64_w, i32_w]
    rfl
   refine pure_ (i := 10) (N := some 30) (v := ?_) (a' := ?_) (bv 19 1214) rfl rfl (by kernel_rfl) (fun _ _ _ h => h) (Or.inl ⟨by rfl, ?_⟩) ?_ ?_
   rotate_left
   ·intro w'
    go_simp
    with_reducible rfl
   rotate_left
   ·simp only [Act.put, qA, qB, qC, i64_w, i32_w]
    rfl
   refine pure_ (i := 11) (N := some 31) (v := ?_) (a' := ?_) (bv 19 3262) rfl rfl (by kernel_rfl) (fun _ _ _ h => h) (Or.inl ⟨by rfl, ?_⟩) ?_ ?_
   rotate_left
   ·intro w'
    go_simp
    with_reducible rfl
   rotate_left
   ·simp only [Act.put, qA, qB, qC, i64_w, i32_w]
    rfl
   refine pure_ (i := 12) (N := some 32) (v := ?_) (a' := ?_) (bv 19 7358) rfl rfl (by kernel_rfl) (fun _ _ _ h => h) (Or.inl ⟨by rfl, ?_⟩) ?_ ?_
   rotate_left
   ·intro w'
    go_simp
    with_reducible rfl
   rotate_left
   ·simp only [Act.put, qA, qB, qC, i64_w, i32_w]
    rfl
   refine pure_ (i := 13) (N := some 33) (v := ?_) (a' := ?_) (bv 19 15550) rfl rfl (by kernel_rfl) (fun _ _ _ h => h) (Or.inl ⟨by rfl, ?_⟩) ?_ ?_
   rotate_left
   ·intro w'
    go_simp
    with_reducible rfl
   rotate_left
   ·simp only [Act.put, qA, qB, qC, i64_w, i32_w]
    rfl
   refine pure_ (i := 14) (N := some 34) (v := ?_) (a' := ?_) (bv 19 31934) rfl rfl (by kernel_rfl) (fun _ _ _ h => h) (Or.inl ⟨by rfl, ?_⟩) ?_ ?_
   rotate_left
   ·intro w'
    go_simp
    with_reducible rfl
   rotate_left
   ·simp only [Act.put, qA, qB, qC, i64_w, i32_w]
    rfl
   refine pure_ (i := 16) (N := some 36) (v := ?_) (a' := ?_) (bv 19 97470) rfl rfl (by kernel_rfl) (fun _ _ _ h => h) (Or.inl ⟨by rfl, ?_⟩) ?_ ?_
   rotate_left
   ·intro w'
    go_simp
    with_reducible rfl
   rotate_left
   ·simp only [Act.put, qA, qB, qC, i64_w, i32_w]
    rfl
   refine take_ (i := 0) (N := some 20) (v := ?_) (a' := ?_) (bv 19 97471) rfl rfl (by kernel_rfl) (fun _ _ _ h => h) (Or.inl ⟨by rfl, ?_⟩) hHeld ?_ ?_
   rotate_left
   ·rintro w' ⟨s0, s1, s2, s3⟩
    go_simp
    with_reducible rfl
   rotate_left
   ·simp only [Act.put, qA, qB, qC, i64_w, i32_w]
    rfl
   refine take_ (i := 6) (N := some 26) (v := ?_) (a' := ?_) (bv 19 97535) rfl rfl (by kernel_rfl) (fun _ _ _ h => h) (Or.inl ⟨by rfl, ?_⟩) hHeld ?_ ?_
   rotate_left
   ·rintro w' ⟨s0, s1, s2, s3⟩
    go_simp
    with_reducible rfl
   rotate_left
   ·simp only [Act.put, qA, qB, qC, i64_w, i32_w]
    rfl
   refine take_ (i := 9) (N := some 29) (v := ?_) (a' := ?_) (bv 19 98047) rfl rfl (by kernel_rfl) (fun _ _ _ h => h) (Or.inl ⟨by rfl, ?_⟩) hHeld ?_ ?_
   rotate_left
   ·rintro w' ⟨s0, s1, s2, s3⟩
    go_simp
    with_reducible rfl
   rotate_left
   ·simp only [Act.put, qA, qB, qC, i64_w, i32_w]
    rfl
   refine take_ (i := 15) (N := some 35) (v := ?_) (a' := ?_) (bv 19 130815) rfl rfl (by kernel_rfl) (fun _ _ _ h => h) (Or.inl ⟨by rfl, ?_⟩) hHeld ?_ ?_
   rotate_left
   ·rintro w' ⟨s0, s1, s2, s3⟩
    go_simp
    with_reducible rfl
   rotate_left
   ·simp only [Act.put, qA, qB, qC, i64_w, i32_w]
    rfl
   refine one_ (i := 8) (N := some 28) (bv 19 131071) rfl rfl (by kernel_rfl) (by decide) (fun K hK => ?_)
   refine goes_ Tryz.func83 (by kernel_rfl) rfl #[.agg #[.slice Ap parts.length cp, .slice An next.length cn, .slice At tags.length ct], .slice Al l.length cl, .slice Ao of_.length co, .int .i64 (sn : Int), .int .i64 (a : Int)] (by rfl) rfl rfl (by simp only [List.map_toArray, List.map_cons, List.map_nil]; rfl) ?_
   with_reducible refine (HD.out _ HBd.out).mono ?_
   rintro e w5 ⟨rfl, hb5⟩
   refine ⟨_, rfl, ?_⟩
   rw [← HR1.out]
   have HB5 := aM (below_step HBd.out hb5)
   have z0 := pw_cell_below hb5 hHeld.1
   have z1 := pw_cell_below hb5 hHeld.2.1
   have z2 := pw_cell_below hb5 hHeld.2.2.1
   have z3 := pw_cell_below hb5 hHeld.2.2.2
   clear hb5 hHeld
   refine hK.out _ _ ⟨z0, z1, z2, z3⟩ (fun hHeld => ?_)
   clear hK K
   refine norm_ (a' := ?_) ?_ ?_
   rotate_left
   ·show Act.put _ (some 28) _ = _
    simp only [Act.put, qA, qB, qC, i64_w, i32_w]
    rfl
   refine one_ (i := 17) (N := some 37) (bv 19 262143) rfl rfl (by kernel_rfl) (by decide) (fun K hK => ?_)
   refine goes_ Tryz.func83 (by kernel_rfl) rfl #[.agg #[.slice Ap parts.length cp, .slice An next.length cn, .slice At tags.length ct], .slice Al l.length cl, .slice Ao of_.length co, .int .i64 (sn : Int), .int .i64 (b : Int)] (by rfl) rfl rfl (by simp only [List.map_toArray, List.map_cons, List.map_nil]; rfl) ?_
   with_reducible refine (HD2.out _ HB5.out).mono ?_
   rintro e w6 ⟨rfl, hb6⟩
   refine ⟨_, rfl, ?_⟩
   rw [← HR2.out]
   have HB6 := aM (below_step HB5.out hb6)
   have x0 := pw_cell_below hb6 hHeld.1
   have x1 := pw_cell_below hb6 hHeld.2.1
   have x2 := pw_cell_below hb6 hHeld.2.2.1
   have x3 := pw_cell_below hb6 hHeld.2.2.2
   clear hb6 hHeld
   refine hK.out _ _ ⟨x0, x1, x2, x3⟩ (fun hHeld => ?_)
   clear hK K
   refine norm_ (a' := ?_) ?_ ?_
   rotate_left
   ·show Act.put _ (some 37) _ = _
    simp only [Act.put, qA, qB, qC, i64_w, i32_w]
    rfl
   refine pure_ (i := 18) (N := some 38) (v := ?_) (a' := ?_) (bv 19 524287) rfl rfl (by kernel_rfl) (fun _ _ _ h => h) (Or.inl ⟨by rfl, ?_⟩) ?_ ?_
   rotate_left
   ·intro w'
    go_simp
    with_reducible rfl
   rotate_left
   ·simp only [Act.put, qA, qB, qC, i64_w, i32_w]
    rfl
   refine done_ (by kernel_rfl) ?_
   clear hHeld z0 z1 z2 z3 x0 x1 x2 x3 yd0 yd1 yd2 yd3 HD HD2
   by_cases c : r1 = r2
   ·have f1 : (r1 == r2) = true := beq_iff_eq.mpr c
    have f2 : (r1 != r2) = false := bne_eq_false_iff_eq.mpr c
    have HQ3 := aM (show alike12 next l of_ (states.drop (k + 1)) a b = q by have := HQ2.out; rwa [dT c, Bool.true_and] at this)
    clear c HQ2
    go_wp2_with fail
    go_roundg k1
    case measure => omega
    case rel => exact ⟨k + 1, by go_num, ⟨by have := HJ.out; omega⟩, HQ3, ⟨below_step HB.out HB6.out⟩⟩
   ·have f1 : (r1 == r2) = false := bF c
    have f2 : (r1 != r2) = true := bne_iff_ne.mpr c
    have q0 : false = q := by have := HQ2.out; rwa [dF c, Bool.false_and] at this
    clear HQ2
    subst q0
    go_wp2_with fail
    go_ret
    exact ⟨rfl, below_step HBB.out HB6.out⟩
end Go.Proofs.YtplhfgobeicegaaGreatDoor.P
