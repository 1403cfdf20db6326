/- Part 22 of the proof: S13d, S13e, S13f0. -/
import Derived.Test.YtplhfgobeicegaaGreatDoorPe21
namespace Go.Proofs.YtplhfgobeicegaaGreatDoor.P
open Go Go.RowKit Go.Proofs.YtplhfgobeicegaaGreatDoorW.PrintWords Go.Proofs.YtplhfgobeicegaaGreatDoorW.PrintLast Go.Proofs.YtplhfgobeicegaaGreatDoorW.PrintMore Go.Proofs.YtplhfgobeicegaaGreatDoor.PX
set_option linter.unusedVariables false
set_option linter.unusedSimpArgs false
set_option maxRecDepth 100000
def waysOf (rs : List (List Rg)) (x : Int) : List Wy := if 0 ≤ x then rs.map (fun r => (⟨r, x⟩ : Wy)) else []
def waysGo (row : List Int) : List (List (List Rg)) → Nat → List Wy
 | [], _ => []
 | rs :: t, k => waysOf rs (row.getD k 0) ++ waysGo row t (k + 1)
def waysL (row : List Int) (rows : List (List (List Rg))) : List Wy := waysGo row rows 0
set_option maxHeartbeats 8000000 in
theorem ways_calls (X : Nat → Prop) (vp vn vt vr : Value) (parts : List (List Sp)) (next : List (List Int)) (tags : List Int) (rows : List (List (List Rg))) (i : Nat) (w : World) (hX : ∀ k, X k → k < w.heap.size) (hp : PV kSps X w vp parts) (hn : PV kRow X w vn next) (ht : PV kInt X w vt tags) (hr : PV kRgss X w vr rows)
  (hi : i < next.length) (hlen : (next.getD i []).length = rows.length) (htot : (waysL (next.getD i []) rows).length ≤ 1000000000) :
  Calls Tryz.prog 65 #[.agg #[vp, vn, vt], vr, .int .i64 (i : Int)] w fun e w' => ∃ v, e = .returned v ∧ PV kWy X w' v (waysL (next.getD i []) rows) ∧ Below w.heap.size w w' := by
 have H1 := aM hn
 have H3 := aM hr
 have mr := hr.max
 obtain ⟨Ap, cp, rfl, _, _⟩ := hp.now
 obtain ⟨an, cn, un, rfl, hu, yn⟩ := hn.row i hi
 obtain ⟨At, ct, rfl, _, _⟩ := ht.now
 obtain ⟨Ar, cr, rfl, _, _⟩ := hr.now
 obtain ⟨Au, cu, rfl, _, _⟩ := hu.now
 have HS := aM (((Sep.start hX).push_box [.slice Ap parts.length cp, .slice (some an) next.length cn, .slice At tags.length ct] 80).push_nil kWy 141)
 have HYN := aM yn
 have HU := aM hu
 generalize next.getD i [] = row at *
 obtain ⟨res, hres⟩ : ∃ r, r = waysL row rows := ⟨_, rfl⟩
 rw [← hres] at htot ⊢
 have HR := aM (show [] ++ waysGo row (rows.drop 0) 0 = res from hres.symm)
 have HT := aM htot
 have HL := aM hlen
 have hi0 : (0 : Int) ≤ (i : Int) := by omega
 have hi1 : (i : Int) < (next.length : Int) := by omega
 clear hp hn ht hr hX hu yn hres htot hlen
 go_enter Tryz.func65, Tryz.ntmps65
 go_wp2_with fail
 obtain ⟨g0, hg0⟩ : ∃ g, g = w.heap.size := ⟨_, rfl⟩
 rw [← hg0] at HS ⊢
 clear hg0
 go_loopg [7, 8] rows.length (fun m v7 v8 w' => ∃ (k : Nat) (o : List Wy), v8 = .int .i64 k ∧ Aside0 (k + m = rows.length) ∧ Aside0 (o ++ waysGo row (rows.drop k) k = res) ∧ Aside0 (Sep X w w' [.box g0 80 [.slice Ap parts.length cp, .slice (some an) next.length cn, .slice At tags.length ct], .row kWy 141 v7 o]))
 case atStart => exact ⟨0, [], rfl, ⟨by omega⟩, HR, HS⟩
 case round =>
  clear HS HR
  obtain ⟨k, o, rfl, HJ, HR, HS⟩ := hrel
  cases gk with
  | zero =>
   have e1 : decide ((k : Int) < (rows.length : Int)) = false := dF (by have := HJ.out; omega)
   have e2 : decide (k < rows.length) = false := dF (by have := HJ.out; omega)
   have q0 : o = res := by
    have := HR.out
    rw [List.drop_eq_nil_of_le (by have := HJ.out; omega)] at this
    simpa [waysGo] using this
   clear HR
   subst q0
   go_wp2_with fail
   go_ret
   exact ⟨_, rfl, HS.out.res_row 1 rfl, HS.out.below⟩
  | succ k1 =>
   have hk : k < rows.length := by have := HJ.out; omega
   have hkr : k < row.length := by have := HL.out; omega
   have e1 : decide ((k : Int) < (rows.length : Int)) = true := dT (by omega)
   have e2 : decide (k < rows.length) = true := dT hk
   have hk0 : (0 : Int) ≤ (k : Int) := by omega
   have hk1 : (k : Int) < (rows.length : Int) := by omega
   have hk2 : (k : Int) < (row.length : Int) := by omega
   obtain ⟨ar, cr', ur, er, hur, yr⟩ := H3.out.row k hk
   cases er
   obtain ⟨Aq, cq, rfl, _, _⟩ := hur.now
   obtain ⟨au, cu', eu, yx⟩ := int_cell HU.out k hkr
   cases eu
   have HR1 := HR.out
   rw [drop_at rows [] k hk, waysGo] at HR1
   have mq := hur.max
   have HUR := aM hur
   have HY := aM (And.intro yr yx)
   generalize rows.getD k [] = rs at *
   generalize row.getD k 0 = x at *
   have HR2 := aM HR1
   clear hur HR1 HR yr yx
   go_wp2_with fail
   clear e1 e2
   rcases Int.lt_or_le x 0 with c | c
   case inl =>
    have d1 : decide (x ≥ 0) = false := dF (by omega)
    have d2 : decide (0 ≤ x) = false := dF (by omega)
    have HR3 := aM (show o ++ waysGo row (rows.drop (k + 1)) (k + 1) = res by have := HR2.out; rwa [waysOf, if_neg (by omega), List.nil_append] at this)
    clear HR2
    go_loopg [7, 9] 0 (fun m v7 v9 w' => v9 = .int .i64 0 ∧ Aside0 (Sep X w w' [.box g0 80 [.slice Ap parts.length cp, .slice (some an) next.length cn, .slice At tags.length ct], .row kWy 141 v7 o]))
    case atStart => exact ⟨rfl, HS⟩
    case round =>
     clear HS
     obtain ⟨rfl, HS⟩ := hrel
     have y0 := (HS.out.box 0 rfl).cell 1 rfl
     have y1 := pw_cell_below HS.out.below HYN.out
     have y2 := pw_cell_below HS.out.below HY.out.1
     have y3 := pw_cell_below HS.out.below HY.out.2
     rcases Nat.eq_zero_or_pos rs.length with c2 | c2
     case' inl =>
      have f1 : decide ((0 : Int) < (rs.length : Int)) = false := dF (by omega)
      have f2 : decide (0 < rs.length) = false := dF (by omega)
     case' inr =>
      have f1 : decide ((0 : Int) < (rs.length : Int)) = true := dT (by omega)
      have f2 : decide (0 < rs.length) = true := dT (by omega)
     all_goals
      clear c2
      go_wp2_with fail
      go_roundg k1
      case measure => omega
      case rel => exact ⟨k + 1, o, by go_num, ⟨by have := HJ.out; omega⟩, HR3, HS⟩
   case inr =>
    have d1 : decide (x ≥ 0) = true := dT (by omega)
    have d2 : decide (0 ≤ x) = true := dT (by omega)
    have HR3 := aM (show o ++ ((rs.drop 0).map (fun r => (⟨r, x⟩ : Wy)) ++ waysGo row (rows.drop (k + 1)) (k + 1)) = res by have := HR2.out; rwa [waysOf, if_pos c] at this)
    clear HR2
    go_loopg [7, 9] rs.length (fun m v7 v9 w' => ∃ (j : Nat) (o : List Wy), v9 = .int .i64 j ∧ Aside0 (j + m = rs.length) ∧ Aside0 (o ++ ((rs.drop j).map (fun r => (⟨r, x⟩ : Wy)) ++ waysGo row (rows.drop (k + 1)) (k + 1)) = res) ∧ Aside0 (Sep X w w' [.box g0 80 [.slice Ap parts.length cp, .slice (some an) next.length cn, .slice At tags.length ct], .row kWy 141 v7 o]))
    case atStart => exact ⟨0, o, rfl, ⟨by omega⟩, HR3, HS⟩
    case round =>
     clear HS HR3
     obtain ⟨j, o, rfl, HJ2, HR, HS⟩ := hrel
     have y0 := (HS.out.box 0 rfl).cell 1 rfl
     have y1 := pw_cell_below HS.out.below HYN.out
     have y2 := pw_cell_below HS.out.below HY.out.1
     have y3 := pw_cell_below HS.out.below HY.out.2
     cases gk with
     | zero =>
      have e1 : decide ((j : Int) < (rs.length : Int)) = false := dF (by have := HJ2.out; omega)
      have e2 : decide (j < rs.length) = false := dF (by have := HJ2.out; omega)
      have HR3 := aM (show o ++ waysGo row (rows.drop (k + 1)) (k + 1) = res by
       have := HR.out
       rw [List.drop_eq_nil_of_le (by have := HJ2.out; omega)] at this
       exact this)
      go_wp2_with fail
      go_roundg k1
      case measure => omega
      case rel => exact ⟨k + 1, o, by go_num, ⟨by have := HJ.out; omega⟩, HR3, HS⟩
     | succ j1 =>
      have hj : j < rs.length := by have := HJ2.out; omega
      have e1 : decide ((j : Int) < (rs.length : Int)) = true := dT (by omega)
      have e2 : decide (j < rs.length) = true := dT hj
      have hj0 : (0 : Int) ≤ (j : Int) := by omega
      have hj1 : (j : Int) < (rs.length : Int) := by omega
      obtain ⟨aq, cq', uq, eq, huq, yq⟩ := HUR.out.row j hj
      cases eq
      obtain ⟨Az, cz, rfl, _, _⟩ := huq.now
      have HR1 := HR.out
      rw [drop_at rs [] j hj, List.map_cons] at HR1
      generalize rs.getD j [] = rr at *
      have HLN := aM (show o.length + 1 ≤ 1000000000 by have h1 := HT.out; rw [← HR1] at h1; simp at h1; omega)
      have HR2 := aM (show (o ++ [(⟨rr, x⟩ : Wy)]) ++ ((rs.drop (j + 1)).map (fun r => (⟨r, x⟩ : Wy)) ++ waysGo row (rows.drop (k + 1)) (k + 1)) = res by rw [← HR1]; simp)
      have HUQ := aM huq
      have HYQ := aM yq
      clear huq HR1 HR yq
      go_wp2_with fail
      clear y0 y1 y2 y3
      have hs := HS.out.drew
      clear HS; have HS := aM hs; clear hs
      refine start_ (n := 20) (S := fun w' => w'.cell? ⟨g0, 1, none⟩ = some (.slice (some an) next.length cn) ∧ w'.cell? (an.add i) = some (.slice (some au) row.length cu) ∧ w'.cell? (au.add k) = some (.int .i64 x) ∧ w'.cell? (ar.add k) = some (.slice (some aq) rs.length cq) ∧ w'.cell? (aq.add j) = some (.slice Az rr.length cz)) (ds := [18]) #[false, false, false, false, false, false, false, false, false, false, false, false, false, false, false, false, false, false, false, false] (by kernel_rfl) rfl rfl ⟨((HS.out.box 0 rfl).cell 1 rfl), (pw_cell_below HS.out.below HYN.out), (pw_cell_below HS.out.below HY.out.2), (pw_cell_below HS.out.below HY.out.1), (pw_cell_below HS.out.below HYQ.out)⟩ (fun hHeld => ?_)
      refine pure_ (i := 0) (N := some 36) (v := ?_) (a' := ?_) (bv 20 1) rfl rfl (by kernel_rfl) (fun _ _ _ h => h) (Or.inl ⟨by rfl, ?_⟩) ?_ ?_
      rotate_left
      ·intro w'
       go_simp
       with_reducible rfl
      rotate_left
      ·simp only [Act.put, qA, qB, qC, i64_w, i32_w]
       rfl
      refine pure_ (i := 1) (N := some 37) (v := ?_) (a' := ?_) (bv 20 3) rfl rfl (by kernel_rfl) (fun _ _ _ h => h) (Or.inl ⟨by rfl, ?_⟩) ?_ ?_
      rotate_left
      ·intro w'
       go_simp
       with_reducible rfl
      rotate_left
      ·simp only [Act.put, qA, qB, qC, i64_w, i32_w]
       rfl
      refine pure_ (i := 2) (N := some 38) (v := ?_) (a' := ?_) (bv 20 7) rfl rfl (by kernel_rfl) (fun _ _ _ h => h) (Or.inl ⟨by rfl, ?_⟩) ?_ ?_
      rotate_left
      ·intro w'
       go_simp
       with_reducible rfl
      rotate_left
      ·simp only [Act.put, qA, qB, qC, i64_w, i32_w]
       rfl
      refine pure_ (i := 3) (N := some 39) (v := ?_) (a' := ?_) (bv 20 15) rfl rfl (by kernel_rfl) (fun _ _ _ h => h) (Or.inl ⟨by rfl, ?_⟩) ?_ ?_
      rotate_left
      ·intro w'
       go_simp
       with_reducible rfl
      rotate_left
      ·simp only [Act.put, qA, qB, qC, i64_w, i32_w]
       rfl
      refine pure_ (i := 5) (N := some 41) (v := ?_) (a' := ?_) (bv 20 47) rfl rfl (by kernel_rfl) (fun _ _ _ h => h) (Or.inl ⟨by rfl, ?_⟩) ?_ ?_
      rotate_left
      ·intro w'
       go_simp
       with_reducible rfl
      rotate_left
      ·simp only [Act.put, qA, qB, qC, i64_w, i32_w]
       rfl
      refine pure_ (i := 8) (N := some 44) (v := ?_) (a' := ?_) (bv 20 303) rfl rfl (by kernel_rfl) (fun _ _ _ h => h) (Or.inl ⟨by rfl, ?_⟩) ?_ ?_
      rotate_left
      ·intro w'
       go_simp
       with_reducible rfl
      rotate_left
      ·simp only [Act.put, qA, qB, qC, i64_w, i32_w]
       rfl
      refine pure_ (i := 10) (N := some 46) (v := ?_) (a' := ?_) (bv 20 1327) rfl rfl (by kernel_rfl) (fun _ _ _ h => h) (Or.inl ⟨by rfl, ?_⟩) ?_ ?_
      rotate_left
      ·intro w'
       go_simp
       with_reducible rfl
      rotate_left
      ·simp only [Act.put, qA, qB, qC, i64_w, i32_w]
       rfl
      refine pure_ (i := 13) (N := some 49) (v := ?_) (a' := ?_) (bv 20 9519) rfl rfl (by kernel_rfl) (fun _ _ _ h => h) (Or.inl ⟨by rfl, ?_⟩) ?_ ?_
      rotate_left
      ·intro w'
       go_simp
       with_reducible rfl
      rotate_left
      ·simp only [Act.put, qA, qB, qC, i64_w, i32_w]
       rfl
      refine take_ (i := 4) (N := some 40) (v := ?_) (a' := ?_) (bv 20 9535) rfl rfl (by kernel_rfl) (fun _ _ _ h => h) (Or.inl ⟨by rfl, ?_⟩) hHeld ?_ ?_
      rotate_left
      ·rintro w' ⟨s0, s1, s2, s3, s4⟩
       go_simp
       with_reducible rfl
      rotate_left
      ·simp only [Act.put, qA, qB, qC, i64_w, i32_w]
       rfl
      refine pure_ (i := 6) (N := some 42) (v := ?_) (a' := ?_) (bv 20 9599) rfl rfl (by kernel_rfl) (fun _ _ _ h => h) (Or.inl ⟨by rfl, ?_⟩) ?_ ?_
      rotate_left
      ·intro w'
       go_simp
       with_reducible rfl
      rotate_left
      ·simp only [Act.put, qA, qB, qC, i64_w, i32_w]
       rfl
      refine take_ (i := 7) (N := some 43) (v := ?_) (a' := ?_) (bv 20 9727) rfl rfl (by kernel_rfl) (fun _ _ _ h => h) (Or.inl ⟨by rfl, ?_⟩) hHeld ?_ ?_
      rotate_left
      ·rintro w' ⟨s0, s1, s2, s3, s4⟩
       go_simp
       with_reducible rfl
      rotate_left
      ·simp only [Act.put, qA, qB, qC, i64_w, i32_w]
       rfl
      refine take_ (i := 9) (N := some 45) (v := ?_) (a' := ?_) (bv 20 10239) rfl rfl (by kernel_rfl) (fun _ _ _ h => h) (Or.inl ⟨by rfl, ?_⟩) hHeld ?_ ?_
      rotate_left
      ·rintro w' ⟨s0, s1, s2, s3, s4⟩
       go_simp
       with_reducible rfl
      rotate_left
      ·simp only [Act.put, qA, qB, qC, i64_w, i32_w]
       rfl
      refine pure_ (i := 11) (N := some 47) (v := ?_) (a' := ?_) (bv 20 12287) rfl rfl (by kernel_rfl) (fun _ _ _ h => h) (Or.inl ⟨by rfl, ?_⟩) ?_ ?_
      rotate_left
      ·intro w'
       go_simp
       with_reducible rfl
      rotate_left
      ·simp only [Act.put, qA, qB, qC, i64_w, i32_w]
       rfl
      refine take_ (i := 12) (N := some 48) (v := ?_) (a' := ?_) (bv 20 16383) rfl rfl (by kernel_rfl) (fun _ _ _ h => h) (Or.inl ⟨by rfl, ?_⟩) hHeld ?_ ?_
      rotate_left
      ·rintro w' ⟨s0, s1, s2, s3, s4⟩
       go_simp
       with_reducible rfl
      rotate_left
      ·simp only [Act.put, qA, qB, qC, i64_w, i32_w]
       rfl
      refine pure_ (i := 14) (N := some 50) (v := ?_) (a' := ?_) (bv 20 32767) rfl rfl (by kernel_rfl) (fun _ _ _ h => h) (Or.inl ⟨by rfl, ?_⟩) ?_ ?_
      rotate_left
      ·intro w'
       go_simp
       with_reducible rfl
      rotate_left
      ·simp only [Act.put, qA, qB, qC, i64_w, i32_w]
       rfl
      refine take_ (i := 15) (N := some 51) (v := ?_) (a' := ?_) (bv 20 65535) rfl rfl (by kernel_rfl) (fun _ _ _ h => h) (Or.inl ⟨by rfl, ?_⟩) hHeld ?_ ?_
      rotate_left
      ·rintro w' ⟨s0, s1, s2, s3, s4⟩
       go_simp
       with_reducible rfl
      rotate_left
      ·simp only [Act.put, qA, qB, qC, i64_w, i32_w]
       rfl
      refine pure_ (i := 16) (N := some 52) (v := ?_) (a' := ?_) (bv 20 131071) rfl rfl (by kernel_rfl) (fun _ _ _ h => h) (Or.inl ⟨by rfl, ?_⟩) ?_ ?_
      rotate_left
      ·intro w'
       go_simp
       with_reducible rfl
      rotate_left
      ·simp only [Act.put, qA, qB, qC, i64_w, i32_w]
       rfl
      refine one_ (i := 17) (N := some 53) (bv 20 262143) rfl rfl (by kernel_rfl) (by decide) (fun K hK => ?_)
      refine value_ (w1 := ?_) (v := ?_) (by rfl) rfl ?_ ?_
      rotate_left 2
      ·go_simp
       constructor
       ·rfl
       ·rfl
      have hs := HS.out.lit_ro kWy 141 (xs := [(⟨rr, x⟩ : Wy)]) (inner := [.slice Az rr.length cz, .int .i64 x]) (wy_rep x (HS.out.arg HUQ.out)) (by simp)
      clear HS; have HS := aM hs; clear hs
      refine hK.out _ _ ⟨((HS.out.box 0 rfl).cell 1 rfl), (pw_cell_below HS.out.below HYN.out), (pw_cell_below HS.out.below HY.out.2), (pw_cell_below HS.out.below HY.out.1), (pw_cell_below HS.out.below HYQ.out)⟩ (fun hHeld => ?_)
      clear hK K
      refine norm_ (a' := ?_) ?_ ?_
      rotate_left
      ·show Act.put _ (some 53) _ = _
       simp only [Act.put, qA, qB, qC, i64_w, i32_w]
       rfl
      refine last_ (i := 18) (N := some 54) #[true, true, true, true, true, true, true, true, true, true, true, true, true, true, true, true, true, true, true, false] rfl rfl (by kernel_rfl) (by decide) (fun K hK => ?_)
      refine sgrow_step kWy 1 (by rfl) rfl (.tmp 36) (.tmp 53) 113 141 (.agg #[.slice none 0 0, .int .i64 0]) 32 rfl Tryz.underlying113 info141 rfl (by decide) (by omega) _ _ o [(⟨rr, x⟩ : Wy)] rfl rfl HS.out rfl (HS.out.ro 2 rfl) (by have := HLN.out; simp; omega) ?_
      intro v1 w1 hs
      clear HS; have HS := aM hs; clear hs
      refine hK.out _ _ ?_
      clear hK K
      refine norm_ (a' := ?_) ?_ ?_
      rotate_left
      ·show Act.put _ (some 54) _ = _
       simp only [Act.put, qA, qB, qC, i64_w, i32_w]
       rfl
      refine pure_ (i := 19) (N := some 7) (v := ?_) (a' := ?_) (bv 20 1048575) rfl rfl (by kernel_rfl) (fun _ _ _ h => h) (Or.inl ⟨by rfl, ?_⟩) ?_ ?_
      rotate_left
      ·intro w'
       go_simp
       with_reducible rfl
      rotate_left
      ·simp only [Act.put, qA, qB, qC, i64_w, i32_w]
       rfl
      refine done_ (by kernel_rfl) ?_
      go_wp2_with fail
      go_roundg j1
      case measure => omega
      case rel => exact ⟨j + 1, _, by go_num, ⟨by have := HJ2.out; omega⟩, HR2, ⟨HS.out.take 2⟩⟩
def stepGo (c : Int) : List Wy → List Wy → Pl × Bool
 | [], acc => (⟨-1, acc⟩, decide (0 < acc.length))
 | y :: t, acc => if c < (y.f0.getD 0 z143).f0 ∨ (y.f0.getD 0 z143).f1 < c then stepGo c t acc else if y.f0.length = 1 then (⟨y.f1, []⟩, true) else stepGo c t (acc ++ [⟨y.f0.drop 1, y.f1⟩])
def stepL (c : Int) (l : List Wy) : Pl × Bool := stepGo c l []
set_option maxHeartbeats 8000000 in
theorem step_calls (X : Nat → Prop) (vl : Value) (l : List Wy) (c : Int) (w : World) (hX : ∀ k, X k → k < w.heap.size) (hl : PV kWy X w vl l) (hne : ∀ y ∈ l, 1 ≤ y.f0.length) (hlen : l.length ≤ 1000000000) :
  Calls Tryz.prog 66 #[vl, .int .u8 c] w fun e w' => ∃ v, e = .returned (.tuple #[.agg #[.int .i64 (stepL c l).1.f0, v], .bool (stepL c l).2]) ∧ PV kWy X w' v (stepL c l).1.f1 ∧ Below w.heap.size w w' := by
 have H0 := aM hl
 obtain ⟨Al, cl, rfl, _, _⟩ := hl.now
 have HS := aM ((((Sep.start hX).push_box [.int .i64 0, .slice none 0 0] 115).push_box' [.int .i64 (-1), .slice none 0 0] 115 (w.heap.size + 1) (by simp)).push_nil kWy 141)
 obtain ⟨r, hr⟩ : ∃ r, r = stepL c l := ⟨_, rfl⟩
 rw [← hr]
 have HR := aM (show stepGo c (l.drop 0) [] = r from hr.symm)
 have HNE := aM hne
 obtain ⟨i0, hi0', _, hsz0, _⟩ := info_parts info143
 clear hl hX hne hr
 go_enter Tryz.func66, Tryz.ntmps66
 go_wp2_with fail
 obtain ⟨g1, hg1⟩ : ∃ g, g = w.heap.size + 1 := ⟨_, rfl⟩
 obtain ⟨g0, hg0⟩ : ∃ g, g = w.heap.size := ⟨_, rfl⟩
 rw [← hg1, ← hg0] at HS ⊢
 clear hg0 hg1
 go_loopg [7] l.length (fun m v7 w' => ∃ (i : Nat) (vp : Value) (acc : List Wy), v7 = .int .i64 i ∧ Aside0 (i + m = l.length ∧ acc.length ≤ i) ∧ Aside0 (stepGo c (l.drop i) acc = r) ∧ Aside0 (Sep X w w' [.box g0 115 [.int .i64 0, .slice none 0 0], .box g1 115 [.int .i64 (-1), vp], .row kWy 141 vp acc]))
 case atStart => exact ⟨0, _, [], rfl, ⟨by omega, by simp⟩, HR, HS⟩
 case round =>
  clear HS HR
  obtain ⟨i, vp, acc, rfl, HJ, HR, HS⟩ := hrel
  obtain ⟨Ap, cp, ep⟩ := HS.out.form 2 rfl
  subst ep
  cases gk with
  | zero =>
   have e1 : decide ((i : Int) < (l.length : Int)) = false := dF (by have := HJ.out; omega)
   have e2 : decide (i < l.length) = false := dF (by have := HJ.out; omega)
   have q0 : ((⟨-1, acc⟩ : Pl), decide (0 < acc.length)) = r := by
    have := HR.out
    rw [List.drop_eq_nil_of_le (by have := HJ.out; omega)] at this
    exact this
   clear HR
   obtain ⟨qb, hqb⟩ : ∃ b, b = decide (0 < acc.length) := ⟨_, rfl⟩
   rw [← hqb] at q0
   have f1 : decide ((acc.length : Int) > 0) = qb := by rw [hqb]; simp
   have f2 : decide (0 < acc.length) = qb := hqb.symm
   have f3 : decide (0 < (acc.length : Int)) = qb := f1
   clear hqb
   subst q0
   go_wp2_with fail
   have hs := HS.out.drew
   clear HS; have HS := aM hs; clear hs
   refine start_ (n := 7) (S := fun w' => w'.cell? ⟨g1, 0, none⟩ = some (.int .i64 (-1)) ∧ w'.cell? ⟨g1, 1, none⟩ = some (.slice Ap acc.length cp)) (ds := []) #[false, false, false, false, false, false, false] (by kernel_rfl) rfl rfl ⟨((HS.out.box 1 rfl).cell 0 rfl), ((HS.out.box 1 rfl).cell 1 rfl)⟩ (fun hHeld => ?_)
   generalize wr.drew = wd at HS hHeld ⊢
   refine pure_ (i := 1) (N := some 68) (v := ?_) (a' := ?_) (bv 7 2) rfl rfl (by kernel_rfl) (fun _ _ _ h => h) (Or.inl ⟨by rfl, ?_⟩) ?_ ?_
   rotate_left
   ·intro w'
    go_simp
    with_reducible rfl
   rotate_left
   ·simp only [Act.put, qA, qB, qC, i64_w, i32_w]
    rfl
   refine take_ (i := 0) (N := some 67) (v := ?_) (a' := ?_) (bv 7 3) rfl rfl (by kernel_rfl) (fun _ _ _ h => h) (Or.inl ⟨by rfl, ?_⟩) hHeld ?_ ?_
   rotate_left
   ·rintro w' ⟨s0, s1⟩
    go_simp
    with_reducible rfl
   rotate_left
   ·simp only [Act.put, qA, qB, qC, i64_w, i32_w]
    rfl
   refine take_ (i := 2) (N := some 69) (v := ?_) (a' := ?_) (bv 7 7) rfl rfl (by kernel_rfl) (fun _ _ _ h => h) (Or.inl ⟨by rfl, ?_⟩) hHeld ?_ ?_
   rotate_left
   ·rintro w' ⟨s0, s1⟩
    go_simp
    with_reducible rfl
   rotate_left
   ·simp only [Act.put, qA, qB, qC, i64_w, i32_w]
    rfl
   refine pure_ (i := 3) (N := some 70) (v := ?_) (a' := ?_) (bv 7 15) rfl rfl (by kernel_rfl) (fun _ _ _ h => h) (Or.inl ⟨by rfl, ?_⟩) ?_ ?_
   rotate_left
   ·intro w'
    go_simp
    with_reducible rfl
   rotate_left
   ·simp only [Act.put, qA, qB, qC, i64_w, i32_w]
    rfl
   refine pure_ (i := 4) (N := some 71) (v := ?_) (a' := ?_) (bv 7 31) rfl rfl (by kernel_rfl) (fun _ _ _ h => h) (Or.inl ⟨by rfl, ?_⟩) ?_ ?_
   rotate_left
   ·intro w'
    go_simp
    with_reducible rfl
   rotate_left
   ·simp only [Act.put, qA, qB, qC, i64_w, i32_w]
    rfl
   refine one_ (i := 5) (N := none) (bv 7 63) rfl rfl (by kernel_rfl) (by decide) (fun K hK => ?_)
   have x0 := ((HS.out.box 0 rfl).cell 0 rfl)
   have x1 := ((HS.out.box 0 rfl).cell 1 rfl)
   have o0 := (HS.out.box 0 rfl).open_ 0
   have o1 := (HS.out.box 0 rfl).open_ 1
   refine skip_ (w1 := ?_) (by rfl) rfl ?_ ?_
   rotate_left
   ·go_simp
    rfl
   have hs := (HS.out.set_box 0 rfl 0 (.int .i64 (-1))).set_box 0 rfl 1 (.slice Ap acc.length cp)
   clear HS; have HS := aM hs; clear hs
   refine hK.out _ _ ⟨((HS.out.box 1 rfl).cell 0 rfl), ((HS.out.box 1 rfl).cell 1 rfl)⟩ (fun hHeld => ?_)
   clear hK K
   refine pure_ (i := 6) (N := some 5) (v := ?_) (a' := ?_) (bv 7 127) rfl rfl (by kernel_rfl) (fun _ _ _ h => h) (Or.inl ⟨by rfl, ?_⟩) ?_ ?_
   rotate_left
   ·intro w'
    go_simp
    with_reducible rfl
   rotate_left
   ·simp only [Act.put, qA, qB, qC, i64_w, i32_w]
    rfl
   refine done_ (by kernel_rfl) ?_
   go_wp2_with fail
   refine bodyPost_ret (results_ct rfl _ _ g0 115 #[.int .i64 (-1), .slice Ap acc.length cp] (0, 0) _ rfl (HS.out.box 0 rfl) Tryz.underlying115 rfl (by kernel_rfl)) rfl ?_
   exact ⟨_, rfl, HS.out.res_row 2 rfl, HS.out.below⟩
  | succ k1 =>
   have hj : i < l.length := by have := HJ.out; omega
   have e1 : decide ((i : Int) < (l.length : Int)) = true := dT (by omega)
   have e2 : decide (i < l.length) = true := dT hj
   have hi0 : (0 : Int) ≤ (i : Int) := by omega
   have hi1 : (i : Int) < (l.length : Int) := by omega
   obtain ⟨al, cl', u, el, y0, y1, hu⟩ := wy_cell H0.out i hj
   cases el
   have hn1 := HNE.out _ (mem_getD l z141 i hj)
   have HR1 := HR.out
   rw [drop_at l z141 i hj, stepGo] at HR1
   generalize l.getD i z141 = y at *
   obtain ⟨au, cu, eu, x0, x1⟩ := rg_cell hu 0 (by omega)
   subst eu
   rw [Nat.zero_mul, show au.add 0 = au by simp [Addr.add]] at x0 x1
   have hn2 : 0 < y.f0.length := by omega
   have hn3 : (0 : Int) < (y.f0.length : Int) := by omega
   generalize (y.f0.getD 0 z143).f0 = lo at *
   generalize (y.f0.getD 0 z143).f1 = hi at *
   have HU := aM hu
   have HY := aM (And.intro y0 y1)
   have y2 := pw_cell_below HS.out.below y0
   have y3 := pw_cell_below HS.out.below x0
   have y4 := pw_cell_below HS.out.below x1
   have y5 := pw_cell_below HS.out.below y1
   clear x0 x1 hu HR y0 y1
   rcases Decidable.em (c < lo ∨ hi < c) with h1 | h1
   case inl =>
    have HR2 := aM (show stepGo c (l.drop (i + 1)) acc = r by rwa [if_pos h1] at HR1)
    rcases Decidable.em (c < lo) with h2 | h2
    case' inl => have d1 : decide (c < lo) = true := dT h2
    case' inr =>
     have d1 : decide (c < lo) = false := dF h2
     have d2 : decide (c > hi) = true := dT (by omega)
     have d3 : decide (hi < c) = true := dT (by omega)
    all_goals
     clear h1 h2 HR1
     go_wp2_with fail
     go_roundg k1
     case measure => omega
     case rel => exact ⟨i + 1, _, acc, by go_num, ⟨by have := HJ.out; omega, by have := HJ.out; omega⟩, HR2, HS⟩
   case inr =>
    have d1 : decide (c < lo) = false := dF (by omega)
    have d2 : decide (c > hi) = false := dF (by omega)
    have d3 : decide (hi < c) = false := dF (by omega)
    rw [if_neg h1] at HR1
    clear h1
    by_cases c4 : y.f0.length = 1
    case pos =>
     have d4 : ((y.f0.length : Int) == 1) = true := beq_iff_eq.mpr (by omega)
     have q0 : ((⟨y.f1, []⟩ : Pl), true) = r := by rwa [if_pos c4] at HR1
     clear HR1
     subst q0
     have x0 := ((HS.out.box 0 rfl).cell 0 rfl)
     have x1 := ((HS.out.box 0 rfl).cell 1 rfl)
     have o0 := (HS.out.box 0 rfl).open_ 0
     have o1 := (HS.out.box 0 rfl).open_ 1
     go_wp2_with fail
     have HSF := aM ((HS.out.set_box 0 rfl 0 (.int .i64 y.f1)).set_box 0 rfl 1 (.slice none 0 0))
     refine bodyPost_ret (results_ct rfl _ _ g0 115 #[.int .i64 y.f1, .slice none 0 0] (0, 0) _ rfl (HSF.out.box 0 rfl) Tryz.underlying115 rfl (by kernel_rfl)) rfl ?_
     exact ⟨_, rfl, PV.nil _ _ _, HSF.out.below⟩
    case neg =>
     have d4 : ((y.f0.length : Int) == 1) = false := bF (by omega)
     obtain ⟨z9, hz9⟩ : ∃ z, z = y.f0.drop 1 := ⟨_, rfl⟩
     have HR2 := aM (show stepGo c (l.drop (i + 1)) (acc ++ [⟨z9, y.f1⟩]) = r by rwa [if_neg c4, ← hz9] at HR1)
     obtain ⟨u9, hu9, hrun9⟩ := HU.out.from_ (P := Tryz.prog) 139 143 Tryz.underlying139 hi0' hsz0 1 hn1
     rw [← hz9] at hu9
     obtain ⟨A9, c9, rfl, _, _⟩ := hu9.now
     have hrun : ∀ W : World, (Instr.slice 139 (.slice (some au) y.f0.length cu) (some (.int .i64 1)) none none).run Tryz.prog W = .ok (.slice A9 z9.length c9) W := hrun9
     have H9 := aM hu9
     clear hrun9 hz9
     have HLN := aM (show acc.length + 1 ≤ 1000000000 by have := HJ.out; omega)
     clear HR1 hu9
     go_wp2_with fail
     clear y2 y3 y4 y5
     have hs := HS.out.drew
     clear HS; have HS := aM hs; clear hs
     refine start_ (n := 18) (S := fun w' => w'.cell? ⟨g1, 1, none⟩ = some (.slice Ap acc.length cp) ∧ w'.cell? (al.add (i * 2)) = some (.slice (some au) y.f0.length cu) ∧ w'.cell? ⟨(al.add (i * 2)).block, (al.add (i * 2)).off + 1, none⟩ = some (.int .i64 y.f1)) (ds := [15, 17]) #[false, false, false, false, false, false, false, false, false, false, false, false, false, false, false, false, false, false] (by kernel_rfl) rfl rfl ⟨((HS.out.box 1 rfl).cell 1 rfl), (pw_cell_below HS.out.below HY.out.1), (pw_cell_below HS.out.below HY.out.2)⟩ (fun hHeld => ?_)
     refine pure_ (i := 0) (N := some 50) (v := ?_) (a' := ?_) (bv 18 1) rfl rfl (by kernel_rfl) (fun _ _ _ h => h) (Or.inl ⟨by rfl, ?_⟩) ?_ ?_
     rotate_left
     ·intro w'
      go_simp
      with_reducible rfl
     rotate_left
     ·simp only [Act.put, qA, qB, qC, i64_w, i32_w]
      rfl
     refine pure_ (i := 2) (N := some 52) (v := ?_) (a' := ?_) (bv 18 5) rfl rfl (by kernel_rfl) (fun _ _ _ h => h) (Or.inl ⟨by rfl, ?_⟩) ?_ ?_
     rotate_left
     ·intro w'
      go_simp
      with_reducible rfl
     rotate_left
     ·simp only [Act.put, qA, qB, qC, i64_w, i32_w]
      rfl
     refine pure_ (i := 3) (N := some 53) (v := ?_) (a' := ?_) (bv 18 13) rfl rfl (by kernel_rfl) (fun _ _ _ h => h) (Or.inl ⟨by rfl, ?_⟩) ?_ ?_
     rotate_left
     ·intro w'
      go_simp
      with_reducible rfl
     rotate_left
     ·simp only [Act.put, qA, qB, qC, i64_w, i32_w]
      rfl
     refine pure_ (i := 4) (N := some 54) (v := ?_) (a' := ?_) (bv 18 29) rfl rfl (by kernel_rfl) (fun _ _ _ h => h) (Or.inl ⟨by rfl, ?_⟩) ?_ ?_
     rotate_left
     ·intro w'
      go_simp
      with_reducible rfl
     rotate_left
     ·simp only [Act.put, qA, qB, qC, i64_w, i32_w]
      rfl
     refine pure_ (i := 5) (N := some 55) (v := ?_) (a' := ?_) (bv 18 61) rfl rfl (by kernel_rfl) (fun _ _ _ h => h) (Or.inl ⟨by rfl, ?_⟩) ?_ ?_
     rotate_left
     ·intro w'
      go_simp
      with_reducible rfl
     rotate_left
     ·simp only [Act.put, qA, qB, qC, i64_w, i32_w]
      rfl
     refine pure_ (i := 8) (N := some 58) (v := ?_) (a' := ?_) (bv 18 317) rfl rfl (by kernel_rfl) (fun _ _ _ h => h) (Or.inl ⟨by rfl, ?_⟩) ?_ ?_
     rotate_left
     ·intro w'
      go_simp
      with_reducible rfl
     rotate_left
     ·simp only [Act.put, qA, qB, qC, i64_w, i32_w]
      rfl
     refine pure_ (i := 9) (N := some 59) (v := ?_) (a' := ?_) (bv 18 829) rfl rfl (by kernel_rfl) (fun _ _ _ h => h) (Or.inl ⟨by rfl, ?_⟩) ?_ ?_
     rotate_left
     ·intro w'
      go_simp
      with_reducible rfl
     rotate_left
     ·simp only [Act.put, qA, qB, qC, i64_w, i32_w]
      rfl
     refine pure_ (i := 10) (N := some 60) (v := ?_) (a' := ?_) (bv 18 1853) rfl rfl (by kernel_rfl) (fun _ _ _ h => h) (Or.inl ⟨by rfl, ?_⟩) ?_ ?_
     rotate_left
     ·intro w'
      go_simp
      with_reducible rfl
     rotate_left
     ·simp only [Act.put, qA, qB, qC, i64_w, i32_w]
      rfl
     refine pure_ (i := 11) (N := some 61) (v := ?_) (a' := ?_) (bv 18 3901) rfl rfl (by kernel_rfl) (fun _ _ _ h => h) (Or.inl ⟨by rfl, ?_⟩) ?_ ?_
     rotate_left
     ·intro w'
      go_simp
      with_reducible rfl
     rotate_left
     ·simp only [Act.put, qA, qB, qC, i64_w, i32_w]
      rfl
     refine take_ (i := 1) (N := some 51) (v := ?_) (a' := ?_) (bv 18 3903) rfl rfl (by kernel_rfl) (fun _ _ _ h => h) (Or.inl ⟨by rfl, ?_⟩) hHeld ?_ ?_
     rotate_left
     ·rintro w' ⟨s0, s1, s2⟩
      go_simp
      with_reducible rfl
     rotate_left
     ·simp only [Act.put, qA, qB, qC, i64_w, i32_w]
      rfl
     refine take_ (i := 6) (N := some 56) (v := ?_) (a' := ?_) (bv 18 3967) rfl rfl (by kernel_rfl) (fun _ _ _ h => h) (Or.inl ⟨by rfl, ?_⟩) hHeld ?_ ?_
     rotate_left
     ·rintro w' ⟨s0, s1, s2⟩
      go_simp
      with_reducible rfl
     rotate_left
     ·simp only [Act.put, qA, qB, qC, i64_w, i32_w]
      rfl
     refine pure_ (i := 7) (N := some 57) (v := ?_) (a' := ?_) (bv 18 4095) rfl rfl (by kernel_rfl) (fun _ _ _ h => h) (Or.inl ⟨by rfl, ?_⟩) ?_ ?_
     rotate_left
     ·intro w'
      go_simp
      with_reducible rfl
     rotate_left
     ·simp only [Act.put, qA, qB, qC, i64_w, i32_w]
      rfl
     refine take_ (i := 12) (N := some 62) (v := ?_) (a' := ?_) (bv 18 8191) rfl rfl (by kernel_rfl) (fun _ _ _ h => h) (Or.inl ⟨by rfl, ?_⟩) hHeld ?_ ?_
     rotate_left
     ·rintro w' ⟨s0, s1, s2⟩
      go_simp
      with_reducible rfl
     rotate_left
     ·simp only [Act.put, qA, qB, qC, i64_w, i32_w]
      rfl
     refine pure_ (i := 13) (N := some 63) (v := ?_) (a' := ?_) (bv 18 16383) rfl rfl (by kernel_rfl) (fun _ _ _ h => h) (Or.inl ⟨by rfl, ?_⟩) ?_ ?_
     rotate_left
     ·intro w'
      go_simp
      with_reducible rfl
     rotate_left
     ·simp only [Act.put, qA, qB, qC, i64_w, i32_w]
      rfl
     refine one_ (i := 14) (N := some 64) (bv 18 32767) rfl rfl (by kernel_rfl) (by decide) (fun K hK => ?_)
     refine value_ (w1 := ?_) (v := ?_) (by rfl) rfl ?_ ?_
     rotate_left 2
     ·go_simp
      constructor
      ·rfl
      ·rfl
     have hs := HS.out.lit_ro kWy 141 (xs := [(⟨z9, y.f1⟩ : Wy)]) (inner := [.slice A9 z9.length c9, .int .i64 y.f1]) (wy_rep y.f1 (HS.out.arg H9.out)) (by simp)
     clear HS; have HS := aM hs; clear hs
     refine hK.out _ _ ⟨((HS.out.box 1 rfl).cell 1 rfl), (pw_cell_below HS.out.below HY.out.1), (pw_cell_below HS.out.below HY.out.2)⟩ (fun hHeld => ?_)
     clear hK K
     refine norm_ (a' := ?_) ?_ ?_
     rotate_left
     ·show Act.put _ (some 64) _ = _
      simp only [Act.put, qA, qB, qC, i64_w, i32_w]
      rfl
     refine last_ (i := 15) (N := some 65) #[true, true, true, true, true, true, true, true, true, true, true, true, true, true, true, true, false, false] rfl rfl (by kernel_rfl) (by decide) (fun K hK => ?_)
     refine sgrow_step kWy 2 (by rfl) rfl (.tmp 51) (.tmp 64) 113 141 (.agg #[.slice none 0 0, .int .i64 0]) 32 rfl Tryz.underlying113 info141 rfl (by decide) (by omega) _ _ acc [(⟨z9, y.f1⟩ : Wy)] rfl rfl HS.out rfl (HS.out.ro 3 rfl) (by have := HLN.out; simp; omega) ?_
     intro v1 w1 hs
     obtain ⟨n1, hn1⟩ : ∃ q, q = acc ++ [(⟨z9, y.f1⟩ : Wy)] := ⟨_, rfl⟩
     rw [← hn1] at hs
     have HZn1 := aM hn1
     clear hn1
     obtain ⟨A1, c1, e1⟩ := hs.form 2 rfl
     subst e1
     clear HS; have HS := aM hs; clear hs
     have fz := (HS.out.box 1 rfl).open_ 1
     have yz := (HS.out.box 1 rfl).cell 1 rfl
     refine hK.out _ _ ?_
     clear hK K
     refine norm_ (a' := ?_) ?_ ?_
     rotate_left
     ·show Act.put _ (some 65) _ = _
      simp only [Act.put, qA, qB, qC, i64_w, i32_w]
      rfl
     refine pure_ (i := 16) (N := some 66) (v := ?_) (a' := ?_) (bv 18 131071) rfl rfl (by kernel_rfl) (fun _ _ _ h => h) (Or.inl ⟨by rfl, ?_⟩) ?_ ?_
     rotate_left
     ·intro w'
      go_simp
      with_reducible rfl
     rotate_left
     ·simp only [Act.put, qA, qB, qC, i64_w, i32_w]
      rfl
     refine last_ (i := 17) (N := none) #[true, true, true, true, true, true, true, true, true, true, true, true, true, true, true, true, true, true] rfl rfl (by kernel_rfl) (by decide) (fun K hK => ?_)
     refine skip_ (w1 := ?_) (by rfl) rfl ?_ ?_
     rotate_left
     ·go_simp
      rfl
     have hs := HS.out.set_box 1 rfl 1 (.slice A1 n1.length c1)
     clear HS; have HS := aM hs; clear hs
     refine hK.out _ _ ?_
     clear hK K
     refine done_ (by kernel_rfl) ?_
     go_wp2_with fail
     go_roundg k1
     case measure => omega
     case rel => exact ⟨i + 1, _, n1, by go_num, ⟨by have := HJ.out; omega, by rw [HZn1.out]; have := HJ.out; simp; omega⟩, ⟨by rw [HZn1.out]; exact HR2.out⟩, ⟨HS.out.take 3⟩⟩
end Go.Proofs.YtplhfgobeicegaaGreatDoor.P
namespace Go.Proofs.YtplhfgobeicegaaGreatDoor.PX
open Go Go.RowKit Go.Proofs.YtplhfgobeicegaaGreatDoorW.PrintWords
set_option linter.unusedVariables false
theorem Own.elem {α : Type} {d : Kd α} {e b : Nat} {X : Nat → Prop} {w : World} {v : Value} {xs : List α} (h : Own d e X w b v xs) (z : α) (j : Nat) (hj : j < xs.length) : ∃ ad c cs, v = .slice (some ad) xs.length c ∧ cs.length = d.sz ∧ PK d X w (xs.getD j z) cs ∧ ∀ i u, cs[i]? = some u → w.cell? (ad.add (j * d.sz + i)) = some u := by
 obtain ⟨⟨inner, ho, hr⟩, hx⟩ := h
 obtain ⟨A, c, hs, hrow⟩ := own_reads_row (R := PK d X w) ho hr rfl
 obtain ⟨ad, hA, hc⟩ := hrow.2.2 (by omega)
 obtain ⟨cs, hl, hK, hcell⟩ := hc j _ (List.getElem?_eq_getElem hj)
 refine ⟨ad, c, cs, by rw [hs, hA], hl, ?_, hcell⟩
 rw [List.getD_eq_getElem?_getD, List.getElem?_eq_getElem hj, Option.getD_some]
 exact hK
end Go.Proofs.YtplhfgobeicegaaGreatDoor.PX
namespace Go.Proofs.YtplhfgobeicegaaGreatDoor.P
open Go Go.RowKit Go.Proofs.YtplhfgobeicegaaGreatDoorW.PrintWords Go.Proofs.YtplhfgobeicegaaGreatDoor.PX
set_option linter.unusedVariables false
theorem pl_ocell {X : Nat → Prop} {w w0 : World} {v : Value} {xs : List Pl} {L : List PX.Item} {e : Nat} (h : PX.Sep X w0 w L) (n : Nat) (hn : L[n]? = some (.row kPl e v xs)) (j : Nat) (hj : j < xs.length) : ∃ ad c u, v = .slice (some ad) xs.length c ∧ w.cell? (ad.add (j * 2)) = some (.int .i64 (xs.getD j z115).f0) ∧ w.cell? ⟨(ad.add (j * 2)).block, (ad.add (j * 2)).off + 1, none⟩ = some u ∧ PV kWy (Ys X L) w u (xs.getD j z115).f1 := by
 obtain ⟨ad, c, cs, hv, hl, hK, hc⟩ := (h.row n hn).elem z115 j hj
 obtain ⟨c0, c1, rfl, h0, h1⟩ := PK.of_pair (PK.iso.1 hK)
 obtain ⟨u, rfl, hu⟩ := h1.of_slice
 obtain rfl := h0.of_scalar
 have hc' : ∀ i u', ([Value.int .i64 (xs.getD j z115).f0] ++ [u])[i]? = some u' → w.cell? (ad.add (j * 2 + i)) = some u' := hc
 exact ⟨ad, c, u, hv, by simpa using hc' 0 _ rfl, by rw [← add_field _ _ 1 (by omega)]; exact hc' 1 _ rfl, hu⟩
def waysAt (next : List (List Int)) (rows : List (List (List Rg))) (p : Pl) : List Wy := if 0 ≤ p.f0 then waysL (next.getD p.f0.toNat []) rows else p.f1
structure BySt where
 l : List Pl
 x : Int
 last : Pl
 row : List Int
def byX (s : BySt) (q : Pl × Bool) : Int := if q.2 = true then (if s.x < 0 ∨ q.1 ≠ s.last then (findP q.1 s.l : Int) else s.x) else -1
def byteStep (ws : List Wy) (c : Int) (s : BySt) : BySt :=
 ⟨if byX s (stepL c ws) = (s.l.length : Int) then s.l ++ [(stepL c ws).1] else s.l, byX s (stepL c ws), (stepL c ws).1, s.row ++ [byX s (stepL c ws)]⟩
def bytesGo (ws : List Wy) : Nat → Nat → BySt → BySt
 | 0, _, s => s
 | m + 1, c, s => bytesGo ws m (c + 1) (byteStep ws (c : Int) s)
structure RawSt where
 l : List Pl
 next : List (List Int)
 tags : List Int
def rawStep (next : List (List Int)) (tags : List Int) (rows : List (List (List Rg))) (i : Nat) (s : RawSt) : RawSt :=
 ⟨(bytesGo (waysAt next rows (s.l.getD i z115)) 256 0 ⟨s.l, -1, ⟨-1, []⟩, []⟩).l, s.next ++ [(bytesGo (waysAt next rows (s.l.getD i z115)) 256 0 ⟨s.l, -1, ⟨-1, []⟩, []⟩).row], s.tags ++ [if 0 ≤ (s.l.getD i z115).f0 then tags.getD (s.l.getD i z115).f0.toNat 0 else -1]⟩
def rawGo (next : List (List Int)) (tags : List Int) (rows : List (List (List Rg))) : Nat → Nat → RawSt → RawSt
 | 0, _, s => s
 | f + 1, i, s => if i < s.l.length then rawGo next tags rows f (i + 1) (rawStep next tags rows i s) else s
structure RawOk (next : List (List Int)) (rows : List (List (List Rg))) (B : Nat) (K : List Pl → Prop) : Prop where
 start : K [⟨0, []⟩]
 len : ∀ l, K l → l.length ≤ B
 at_ : ∀ l, K l → ∀ p ∈ l, p.f0 < (next.length : Int)
 ne : ∀ l, K l → ∀ p ∈ l, ∀ y ∈ waysAt next rows p, 1 ≤ y.f0.length
 wl : ∀ l, K l → ∀ p ∈ l, (waysAt next rows p).length ≤ 1000000000
 step : ∀ l, K l → ∀ p ∈ l, ∀ c : Int, 0 ≤ c → c < 256 → (stepL c (waysAt next rows p)).2 = true → (stepL c (waysAt next rows p)).1 ∉ l → K (l ++ [(stepL c (waysAt next rows p)).1])
theorem findP_lt (p : Pl) : ∀ l : List Pl, findP p l < l.length ↔ p ∈ l
 | [] => by simp [findP]
 | x :: t => by
  have ih := findP_lt p t
  rw [findP]
  split
  ·next h => subst h; simp
  ·next h =>
   simp only [List.length_cons, Nat.add_lt_add_iff_right, ih, List.mem_cons]
   exact ⟨.inr, fun h' => h'.elim (fun e => absurd e.symm h) id⟩
theorem byX_le (s : BySt) (q : Pl × Bool) (h : s.x < (s.l.length : Int)) (h2 : -1 ≤ s.x) : -1 ≤ byX s q ∧ byX s q ≤ (s.l.length : Int) := by
 unfold byX
 have := findP_le q.1 s.l
 split
 ·split <;> omega
 ·omega
theorem byX_new (s : BySt) (q : Pl × Bool) (h : s.x < (s.l.length : Int)) (h2 : -1 ≤ s.x) (he : byX s q = (s.l.length : Int)) : q.2 = true ∧ q.1 ∉ s.l := by
 unfold byX at he
 have h0 : 0 ≤ (s.l.length : Int) := by omega
 split at he
 ·next c =>
  refine ⟨c, fun hm => ?_⟩
  have := (findP_lt q.1 s.l).2 hm
  split at he <;> omega
 ·omega
structure ByOk (K : List Pl → Prop) (i : Nat) (p : Pl) (c : Nat) (s : BySt) : Prop where
 k : K s.l
 i_ : i < s.l.length ∧ s.l.getD i z115 = p
 x : s.x < (s.l.length : Int) ∧ -1 ≤ s.x
 row : s.row.length = c
theorem ByOk.step {next : List (List Int)} {rows : List (List (List Rg))} {B : Nat} {K : List Pl → Prop} (hR : RawOk next rows B K) {i : Nat} {p : Pl} {c : Nat} {s : BySt} (h : ByOk K i p c s) (hc : c < 256) : ByOk K i p (c + 1) (byteStep (waysAt next rows p) (c : Int) s) := by
 have hm : p ∈ s.l := by rw [← h.i_.2]; exact mem_getD _ _ _ h.i_.1
 have hx := byX_le s (stepL (c : Int) (waysAt next rows p)) h.x.1 h.x.2
 unfold byteStep
 refine ⟨?_, ?_, ?_, by simp [h.row]⟩
 ·show K (if _ then _ else _)
  split
  ·next he =>
   obtain ⟨h1, h2⟩ := byX_new s _ h.x.1 h.x.2 he
   exact hR.step s.l h.k p hm (c : Int) (by omega) (by omega) h1 h2
  ·exact h.k
 ·show i < (if _ then _ else _ : List Pl).length ∧ (if _ then _ else _ : List Pl).getD i z115 = p
  split
  ·refine ⟨by rw [lA]; have := h.i_.1; omega, ?_⟩
   rw [List.getD_eq_getElem?_getD, List.getElem?_append_left h.i_.1, ← List.getD_eq_getElem?_getD]
   exact h.i_.2
  ·exact h.i_
 ·show byX _ _ < ((if _ then _ else _ : List Pl).length : Int) ∧ _
  split
  ·next he => rw [lA, lS]; exact ⟨by omega, hx.1⟩
  ·next he => exact ⟨by omega, hx.1⟩
theorem ByOk.go {next : List (List Int)} {rows : List (List (List Rg))} {B : Nat} {K : List Pl → Prop} (hR : RawOk next rows B K) {i : Nat} {p : Pl} : ∀ (m c : Nat) (s : BySt), c + m = 256 → ByOk K i p c s → ByOk K i p 256 (bytesGo (waysAt next rows p) m c s)
  | 0, c, s, h, hs => by obtain rfl : c = 256 := by omega
                         exact hs
  | m + 1, c, s, h, hs => ByOk.go hR m (c + 1) _ (by omega) (hs.step hR (by omega))
end Go.Proofs.YtplhfgobeicegaaGreatDoor.P
