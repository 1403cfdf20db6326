/- One function of the given program as a plain Lean function, and the proof that the call comes to its answer; written by a program (mp.py). -/
import Derived.Test.YtpikhloemhbecaaPx0
import Derived.Test.YtpikhloemhbecaaPx1011
import Derived.Test.YtpikhloemhbecaaPx1012
import Derived.Test.YtpikhloemhbecaaPx1013
import Derived.Test.YtpikhloemhbecaaUL
namespace Go.Proofs.Ytpikhloemhbecaa.P
open Go.RowKit Go.Proofs.YtpikhloemhbecaaW.PrintWords Go.Proofs.YtpikhloemhbecaaW.PrintLast Go.Proofs.YtpikhloemhbecaaW.PrintMore
attribute [local go_sem] max2_int min2_int max_two min_two max_three min_three max_four min_four   -- for this text's walks alone
set_option linter.unusedVariables false
set_option linter.unusedSimpArgs false

/-! ### glyphcutterlaw02_UtfWhole: function 6 -/
def glyphcutterlaw02_UtfWhole.f (l0 : List Int) : Option Bool := if (∀ x ∈ l0, 0 ≤ x ∧ x ≤ 255) then some true else none
open Go.Proofs.Ytpikhloemhbecaa.U8 in
/-- what a round finds of the chars: the one at hand, and those behind it -/
theorem glyphcutterlaw02_UtfWhole.step (b : List Int) (hb : U8.Bytes b) (L : List S30) (i a : Nat) (hlt : i < L.length) (hC : L.drop i = U8.C (a : Int) (b.drop a)) :
    ∃ (R : Int) (n : Nat), rd_T30 L (i : Int) = ⟨R, (a : Int), (n : Int)⟩ ∧ 1 ≤ n ∧ n ≤ 4 ∧ a + n ≤ b.length ∧ L.drop (i + 1) = U8.C ((a + n : Nat) : Int) (b.drop (a + n)) ∧
      (0 ≤ R ∧ utf_Encode.f R = some (utf_Encode.l R) ∧ (b.take (a + n)).drop a = utf_Encode.l R ∨ R = -1 ∧ n ≤ 3) := by
  have hne : b.drop a ≠ [] := by
    intro h; rw [h, C_nil, List.drop_eq_nil_iff] at hC; omega
  have hD := D_len _ hne
  rw [List.length_drop] at hD
  rw [List.drop_eq_getElem_cons hlt, C_cons _ _ hne] at hC
  obtain ⟨h1, h2⟩ := List.cons.inj hC
  rw [List.drop_drop] at h2
  obtain ⟨n, hn2⟩ : ∃ n : Nat, (D (b.drop a)).2 = (n : Int) := ⟨(D (b.drop a)).2.toNat, by omega⟩
  have hsc := D_scalar (b.drop a) (hb.drop a)
  have hbad := D_bad (b.drop a) (hb.drop a)
  have hor := D_or (b.drop a) (hb.drop a)
  rw [hn2] at hD hbad hsc h2 h1
  generalize (D (b.drop a)).1 = R at *
  refine ⟨R, n, ?_, ?_⟩
  · rw [rd_getElem L i hlt, h1]
  · refine ⟨by omega, by omega, by omega, ?_, ?_⟩
    · rw [h2, Int.toNat_natCast]
      congr 1
    · rcases hor with hr | hr
      · obtain ⟨q1, q2⟩ := hbad (by omega)
        exact .inr ⟨hr, by omega⟩
      · obtain ⟨q1, q2, q3⟩ := hsc hr
        refine .inl ⟨hr, enc_f _ q1, ?_⟩
        have q4 : n = (utf_Encode.l R).length := by omega
        rw [List.drop_take, q3, show a + n - a = (utf_Encode.l R).length by omega, List.take_left']
        rfl
set_option maxHeartbeats 8000000 in
set_option maxRecDepth 100000 in
theorem glyphcutterlaw02_UtfWhole.calls (A0 : Option Addr) (c0 : Nat) (l0 : List Int) (r : Bool) (w : World) (hr0 : Kd.C (Kd.int .u8) w A0 l0.length l0) (hc0 : l0.length ≤ c0) (h : glyphcutterlaw02_UtfWhole.f l0 = some r) :
    Calls Try.prog 6 #[.slice A0 l0.length c0] w fun e w' => e = .returned (.bool r) ∧ Below w.heap.size w w' := by
  have hu30 := Try.underlying30
  have HR0 := Aside0.mk hr0
  have HC0 := Aside0.mk hc0
  clear hr0 hc0
  unfold glyphcutterlaw02_UtfWhole.f at h
  by_cases hg : (∀ x ∈ l0, 0 ≤ x ∧ x ≤ 255)
  · rw [if_pos hg] at h
    obtain rfl := Option.some.inj h
    clear h
    have HG := Aside0.mk (show U8.Bytes l0 from hg)
    clear hg
    go_enter Try.func6, Try.ntmps6
    by_cases c60 : (1000 : Int) < (l0.length : Int)
    · have hd : decide ((1000 : Int) < (l0.length : Int)) = true := decide_eq_true c60
      go_wp2_with fail
      refine (glyphcutterlaw02_known.calls _ _ rfl).mono ?_
      rintro e w1 ⟨rfl, hb1⟩
      go_wp2_with fail
      go_ret
      exact ⟨rfl, hb1⟩
    · have hd : decide ((1000 : Int) < (l0.length : Int)) = false := decide_eq_false c60
      go_wp2_with fail
      refine (glyphcutterlaw02_known.calls _ _ rfl).mono ?_
      rintro e w1 ⟨rfl, hb1⟩
      have HB1 := Aside0.mk hb1
      clear hb1
      go_wp2_with fail
      have HN := Aside0.mk (show l0.length ≤ 1000 by omega)
      refine (utf_Chars.calls 1001 _ _ l0 _ _ (Kd.C_below HR0.out HB1.out) HC0.out (U8.chars_eq l0 HG.out (by have := HN.out; omega) 1001 (by have := HN.out; omega))).mono ?_
      rintro e w2 ⟨v, rfl, hv, hb2⟩
      have HB2 := Aside0.mk hb2
      have HV := Aside0.mk hv
      clear hb2 hv
      obtain ⟨Ao, co, eo⟩ := Kd.R_slice HV.out
      subst eo
      have HLN := Aside0.mk (U8.C_length _ 0 l0 (Nat.le_refl _))
      have HST := Aside0.mk (show ∃ a : Nat, a ≤ l0.length ∧ (a : Int) = 0 ∧ (U8.C 0 l0).drop 0 = U8.C (a : Int) (l0.drop a) from ⟨0, Nat.zero_le _, rfl, rfl⟩)
      generalize U8.C 0 l0 = L at HV HLN HST ⊢
      go_wp2_with fail
      go_loopg [4, 5] L.length (fun m v4 v5 w' => ∃ (a i : Nat), v4 = .int .i64 a ∧ v5 = .int .i64 i ∧ Aside0 (i + m = L.length) ∧ Aside0 (a ≤ l0.length ∧ L.drop i = U8.C (a : Int) (l0.drop a)) ∧ Aside0 (Kd.R k30 30 w' w1.heap.size (fun _ => True) (.slice Ao L.length co) L) ∧ Aside0 (Below w1.heap.size w1 w'))
      case atStart =>
        obtain ⟨a, h1, h2, h3⟩ := HST.out
        exact ⟨a, 0, by rw [h2], rfl, ⟨by omega⟩, ⟨h1, h3⟩, HV, HB2⟩
      case round =>
        clear HV HB2 HST
        obtain ⟨a, i, rfl, rfl, HI, HS, HV, HBq⟩ := hrel
        cases gk with
        | zero =>
          have hi : i = L.length := by have := HI.out; omega
          subst hi
          have ha : a = l0.length := by
            obtain ⟨h1, h2⟩ := HS.out
            rw [List.drop_length] at h2
            have : l0.drop a = [] := by
              apply Classical.byContradiction
              intro h; rw [U8.C_cons _ _ h] at h2; cases h2
            rw [List.drop_eq_nil_iff] at this
            omega
          subst ha
          have hd1 : decide ((L.length : Int) < (L.length : Int)) = false := decide_eq_false (by omega)
          go_wp2_with fail
          go_ret
          exact ⟨rfl, below_step HB1.out HBq.out⟩
        | succ k1 =>
          have hi1 : i < L.length := by have := HI.out; omega
          have hd1 : decide ((i : Int) < (L.length : Int)) = true := decide_eq_true (by omega)
          have p1 : (0 : Int) ≤ (i : Int) := by omega
          have p2 : (i : Int) < (L.length : Int) := by omega
          obtain ⟨ad, ead, hx0, hx1, hx2⟩ := at_T30 (Kd.R_reads' HV.out).2.2 (i : Int) p1 p2
          subst ead
          obtain ⟨R, n, erd, HF⟩ := glyphcutterlaw02_UtfWhole.step l0 HG.out L i a hi1 HS.out.2
          rw [erd] at hx0 hx1 hx2
          dsimp only at hx0 hx1 hx2
          rw [Int.toNat_natCast] at hx0 hx1 hx2
          have HF := Aside0.mk HF
          have n1 : (1 : Int) ≤ (n : Int) := by have := HF.out.1; omega
          have n2 : (n : Int) ≤ 4 := by have := HF.out.2.1; omega
          have n3 : (a : Int) + (n : Int) ≤ (l0.length : Int) := by have := HF.out.2.2.1; omega
          have d1 : decide ((n : Int) < 1) = false := decide_eq_false (by omega)
          have d2 : decide ((4 : Int) < (n : Int)) = false := decide_eq_false (by omega)
          have d3 : decide ((l0.length : Int) < (a : Int) + (n : Int)) = false := decide_eq_false (by omega)
          have hLi : (i : Int) ≤ 1000 := by have := HLN.out; have := HN.out; omega
          by_cases hR : 0 ≤ R
          · go_wp2_with fail
            have hc0 : (wr.alloc (.cells #[.int .i64 R, .int .i64 a, .int .i64 n] 30)).cell? ⟨wr.heap.size, 0, none⟩ = some (.int .i64 R) := (blk_cell (blk_new wr _) 0).trans rfl
            have hc2 : (wr.alloc (.cells #[.int .i64 R, .int .i64 a, .int .i64 n] 30)).cell? ⟨wr.heap.size, 2, none⟩ = some (.int .i64 n) := (blk_cell (blk_new wr _) 2).trans rfl
            have HCb := Aside0.mk (Kd.C_alloc (Kd.C_below (Kd.C_below HR0.out HB1.out) HBq.out) (.cells #[.int .i64 R, .int .i64 a, .int .i64 n] 30))
            have HVa := Aside0.mk (Kd.R_alloc HV.out (.cells #[.int .i64 R, .int .i64 a, .int .i64 n] 30))
            have HBa := Aside0.mk (below_alloc HBq.out (.cells #[.int .i64 R, .int .i64 a, .int .i64 n] 30))
            clear HV HBq hx0 hx1 hx2
            generalize wr.alloc (.cells #[.int .i64 R, .int .i64 a, .int .i64 n] 30) = wA at hc0 hc2 HCb HVa HBa ⊢
            generalize wr.heap.size = gb at hc0 hc2 ⊢
            have hEf : utf_Encode.f R = some (utf_Encode.l R) ∧ (l0.take (a + n)).drop a = utf_Encode.l R := (HF.out.2.2.2.2.resolve_right (fun h => by omega)).2
            have HE := Aside0.mk hEf
            clear hEf
            obtain ⟨i0, hi0, _, hsz0, _⟩ := info_parts info5
            obtain ⟨As, hcut, hAs, hCs⟩ := print_mid_of (P := Try.prog) (Value.int .u8) 0 23 5 .i64 .i64 Try.underlying23 hi0 hsz0 A0 c0 l0 (a : Int) ((a : Int) + (n : Int)) (by omega) (by omega) (by omega) HC0.out
            have e1 : ((a : Int) + (n : Int)).toNat = a + n := by omega
            rw [e1, Int.toNat_natCast] at hcut hAs hCs
            have HAs := Aside0.mk hAs
            clear hAs hCs hi0 hsz0
            rw [HE.out.2] at hcut
            have hconv : ∀ W : World, Kd.C (Kd.int .u8) W A0 l0.length l0 → (convert 23 9 (.slice As (utf_Encode.l R).length (c0 - a))).run Try.prog W = .ok (.string (strOfNums (utf_Encode.l R))) W := by
              intro W hW
              have := HAs.out W (Kd.reads_of_C hW)
              rw [HE.out.2] at this
              exact Kd.C_string Try.underlying23 Try.underlying5 Try.underlying9 (Kd.C_of_reads (h1 := fun _ => rfl) this)
            have HCV := Aside0.mk hconv
            clear hconv
            have hd0 : wA.drew.cell? ⟨gb, 0, none⟩ = some (.int .i64 R) := hc0
            have hd2 : wA.drew.cell? ⟨gb, 2, none⟩ = some (.int .i64 n) := hc2
            have hdc := HCV.out wA.drew HCb.out
            have gR : decide (0 ≤ R) = true := decide_eq_true hR
            have gR2 : decide (R < 0) = false := decide_eq_false (by omega)
            have hwn : wrap64 ((a : Int) + (n : Int)) = (a : Int) + (n : Int) := U8.wrap_id _ (by omega) (by omega)
            have HCd := Aside0.mk (Kd.C_drew HCb.out)
            have HVd := Aside0.mk (Kd.R_drewN HVa.out 1)
            have HBd := Aside0.mk (pw_below_drewN HBa.out 1)
            change Aside0 (Kd.R _ _ wA.drew _ _ _ _) at HVd
            change Aside0 (Below _ _ wA.drew) at HBd
            refine start_ (n := 33) (S := fun w' => w'.cell? ⟨gb, 0, none⟩ = some (.int .i64 R) ∧ w'.cell? ⟨gb, 2, none⟩ = some (.int .i64 n) ∧ (convert 23 9 (.slice As (utf_Encode.l R).length (c0 - a))).run Try.prog w' = .ok (.string (strOfNums (utf_Encode.l R))) w') (ds := []) #[false, false, false, false, false, false, false, false, false, false, false, false, false, false, false, false, false, false, false, false, false, false, false, false, false, false, false, false, false, false, false, false, false] (by kernel_rfl) rfl rfl ⟨hd0, hd2, hdc⟩ (fun hHeld => ?_)
            generalize wA.drew = wd at hd0 hd2 hdc HCd HVd HBd hHeld ⊢
            refine pure_ (i := 0) (N := some 50) (v := ?_) (a' := ?_) #[true, false, false, false, false, false, false, false, false, false, false, false, false, false, false, false, false, false, false, false, false, false, false, false, false, false, false, false, false, false, false, false, false] rfl rfl (by kernel_rfl) (fun _ _ _ h => h) (Or.inl ⟨by rfl, ?_⟩) ?_ ?_
            rotate_left
            · intro w'
              go_simp
              with_reducible rfl
            rotate_left
            · simp only [Act.put, List.setIfInBounds_toArray, List.set_cons_zero, List.set_cons_succ, i64_w, i32_w]
              rfl
            refine take_ (i := 1) (N := some 51) (v := ?_) (a' := ?_) #[true, true, false, false, false, false, false, false, false, false, false, false, false, false, false, false, false, false, false, false, false, false, false, false, false, false, false, false, false, false, false, false, false] rfl rfl (by kernel_rfl) (fun _ _ _ h => h) (Or.inl ⟨by rfl, ?_⟩) hHeld ?_ ?_
            rotate_left
            · rintro w' ⟨s0, s1, s2⟩
              go_simp
              with_reducible rfl
            rotate_left
            · simp only [Act.put, List.setIfInBounds_toArray, List.set_cons_zero, List.set_cons_succ, i64_w, i32_w]
              rfl
            refine pure_ (i := 2) (N := some 52) (v := ?_) (a' := ?_) #[true, true, true, false, false, false, false, false, false, false, false, false, false, false, false, false, false, false, false, false, false, false, false, false, false, false, false, false, false, false, false, false, false] rfl rfl (by kernel_rfl) (fun _ _ _ h => h) (Or.inl ⟨by rfl, ?_⟩) ?_ ?_
            rotate_left
            · intro w'
              go_simp
              with_reducible rfl
            rotate_left
            · simp only [Act.put, List.setIfInBounds_toArray, List.set_cons_zero, List.set_cons_succ, i64_w, i32_w]
              rfl
            refine pure_ (i := 3) (N := some 53) (v := ?_) (a' := ?_) #[true, true, true, true, false, false, false, false, false, false, false, false, false, false, false, false, false, false, false, false, false, false, false, false, false, false, false, false, false, false, false, false, false] rfl rfl (by kernel_rfl) (fun _ _ _ h => h) (Or.inl ⟨by rfl, ?_⟩) ?_ ?_
            rotate_left
            · intro w'
              go_simp
              with_reducible rfl
            rotate_left
            · simp only [Act.put, List.setIfInBounds_toArray, List.set_cons_zero, List.set_cons_succ, i64_w, i32_w]
              rfl
            refine pure_ (i := 4) (N := some 54) (v := ?_) (a' := ?_) #[true, true, true, true, true, false, false, false, false, false, false, false, false, false, false, false, false, false, false, false, false, false, false, false, false, false, false, false, false, false, false, false, false] rfl rfl (by kernel_rfl) (fun _ _ _ h => h) (Or.inl ⟨by rfl, ?_⟩) ?_ ?_
            rotate_left
            · intro w'
              go_simp
              with_reducible rfl
            rotate_left
            · simp only [Act.put, List.setIfInBounds_toArray, List.set_cons_zero, List.set_cons_succ, i64_w, i32_w]
              rfl
            refine pure_ (i := 8) (N := some 58) (v := ?_) (a' := ?_) #[true, true, true, true, true, false, false, false, true, false, false, false, false, false, false, false, false, false, false, false, false, false, false, false, false, false, false, false, false, false, false, false, false] rfl rfl (by kernel_rfl) (fun _ _ _ h => h) (Or.inl ⟨by rfl, ?_⟩) ?_ ?_
            rotate_left
            · intro w'
              go_simp
              with_reducible rfl
            rotate_left
            · simp only [Act.put, List.setIfInBounds_toArray, List.set_cons_zero, List.set_cons_succ, i64_w, i32_w]
              rfl
            refine pure_ (i := 9) (N := some 59) (v := ?_) (a' := ?_) #[true, true, true, true, true, false, false, false, true, true, false, false, false, false, false, false, false, false, false, false, false, false, false, false, false, false, false, false, false, false, false, false, false] rfl rfl (by kernel_rfl) (fun _ _ _ h => h) (Or.inl ⟨by rfl, ?_⟩) ?_ ?_
            rotate_left
            · intro w'
              go_simp
              with_reducible rfl
            rotate_left
            · simp only [Act.put, List.setIfInBounds_toArray, List.set_cons_zero, List.set_cons_succ, i64_w, i32_w]
              rfl
            refine pure_ (i := 10) (N := some 60) (v := ?_) (a' := ?_) #[true, true, true, true, true, false, false, false, true, true, true, false, false, false, false, false, false, false, false, false, false, false, false, false, false, false, false, false, false, false, false, false, false] rfl rfl (by kernel_rfl) (fun _ _ _ h => h) (Or.inl ⟨by rfl, ?_⟩) ?_ ?_
            rotate_left
            · intro w'
              go_simp
              with_reducible rfl
            rotate_left
            · simp only [Act.put, List.setIfInBounds_toArray, List.set_cons_zero, List.set_cons_succ, i64_w, i32_w]
              rfl
            refine pure_ (i := 11) (N := some 61) (v := ?_) (a' := ?_) #[true, true, true, true, true, false, false, false, true, true, true, true, false, false, false, false, false, false, false, false, false, false, false, false, false, false, false, false, false, false, false, false, false] rfl rfl (by kernel_rfl) (fun _ _ _ h => h) (Or.inl ⟨by rfl, ?_⟩) ?_ ?_
            rotate_left
            · intro w'
              go_simp
              with_reducible rfl
            rotate_left
            · simp only [Act.put, List.setIfInBounds_toArray, List.set_cons_zero, List.set_cons_succ, i64_w, i32_w]
              rfl
            refine take_ (i := 5) (N := some 55) (v := ?_) (a' := ?_) #[true, true, true, true, true, true, false, false, true, true, true, true, false, false, false, false, false, false, false, false, false, false, false, false, false, false, false, false, false, false, false, false, false] rfl rfl (by kernel_rfl) (fun _ _ _ h => h) (Or.inl ⟨by rfl, ?_⟩) hHeld ?_ ?_
            rotate_left
            · rintro w' ⟨s0, s1, s2⟩
              go_simp
              with_reducible rfl
            rotate_left
            · simp only [Act.put, List.setIfInBounds_toArray, List.set_cons_zero, List.set_cons_succ, i64_w, i32_w]
              rfl
            refine take_ (i := 12) (N := some 62) (v := ?_) (a' := ?_) #[true, true, true, true, true, true, false, false, true, true, true, true, true, false, false, false, false, false, false, false, false, false, false, false, false, false, false, false, false, false, false, false, false] rfl rfl (by kernel_rfl) (fun _ _ _ h => h) (Or.inl ⟨by rfl, ?_⟩) hHeld ?_ ?_
            rotate_left
            · rintro w' ⟨s0, s1, s2⟩
              go_simp
              with_reducible rfl
            rotate_left
            · simp only [Act.put, List.setIfInBounds_toArray, List.set_cons_zero, List.set_cons_succ, i64_w, i32_w]
              rfl
            refine pure_ (i := 13) (N := some 63) (v := ?_) (a' := ?_) #[true, true, true, true, true, true, false, false, true, true, true, true, true, true, false, false, false, false, false, false, false, false, false, false, false, false, false, false, false, false, false, false, false] rfl rfl (by kernel_rfl) (fun _ _ _ h => h) (Or.inl ⟨by rfl, ?_⟩) ?_ ?_
            rotate_left
            · intro w'
              go_simp
              with_reducible rfl
            rotate_left
            · simp only [Act.put, List.setIfInBounds_toArray, List.set_cons_zero, List.set_cons_succ, i64_w, i32_w]
              rfl
            refine pure_ (i := 14) (N := some 64) (v := ?_) (a' := ?_) #[true, true, true, true, true, true, false, false, true, true, true, true, true, true, true, false, false, false, false, false, false, false, false, false, false, false, false, false, false, false, false, false, false] rfl rfl (by kernel_rfl) (fun _ _ _ h => h) (Or.inl ⟨by rfl, ?_⟩) ?_ ?_
            rotate_left
            · intro w'
              go_simp
              with_reducible rfl
            rotate_left
            · simp only [Act.put, List.setIfInBounds_toArray, List.set_cons_zero, List.set_cons_succ, i64_w, i32_w]
              rfl
            refine take_ (i := 15) (N := some 65) (v := ?_) (a' := ?_) #[true, true, true, true, true, true, false, false, true, true, true, true, true, true, true, true, false, false, false, false, false, false, false, false, false, false, false, false, false, false, false, false, false] rfl rfl (by kernel_rfl) (fun _ _ _ h => h) (Or.inl ⟨by rfl, ?_⟩) hHeld ?_ ?_
            rotate_left
            · rintro w' ⟨s0, s1, s2⟩
              go_simp
              with_reducible rfl
            rotate_left
            · simp only [Act.put, List.setIfInBounds_toArray, List.set_cons_zero, List.set_cons_succ, i64_w, i32_w]
              rfl
            refine one_ (i := 6) (N := some 56) #[true, true, true, true, true, true, true, false, true, true, true, true, true, true, true, true, false, false, false, false, false, false, false, false, false, false, false, false, false, false, false, false, false] rfl rfl (by kernel_rfl) (by decide) (fun K hK => ?_)
            refine goes_ Try.func12 (by kernel_rfl) rfl #[.int .i64 R] (by rfl) rfl rfl (by simp only [List.map_toArray, List.map_cons, List.map_nil]; rfl) ?_
            with_reducible refine (utf_Encode.calls R _ _ HE.out.1).mono ?_
            rintro e w3 ⟨v3, rfl, ho3, hb3⟩
            refine ⟨_, rfl, ?_⟩
            have hq0 := pw_cell_below hb3 hd0
            have hq2 := pw_cell_below hb3 hd2
            have H3V := Aside0.mk (Kd.R_below HVd.out hb3)
            have H3B := Aside0.mk (below_step HBd.out hb3)
            have hqc := HCV.out w3 (Kd.C_below HCd.out hb3)
            have hqs := own_string (P := Try.prog) Try.underlying23 Try.underlying5 Try.underlying9 (Kd.own_of_R ho3)
            clear ho3 hb3
            refine hK.out _ _ ⟨hq0, hq2, hqc⟩ (fun hHeld => ?_)
            clear hK K
            refine norm_ (a' := ?_) ?_ ?_
            rotate_left
            · show Act.put _ (some 56) _ = _
              simp only [Act.put, List.setIfInBounds_toArray, List.set_cons_zero, List.set_cons_succ, i64_w, i32_w]
              rfl
            refine one_ (i := 7) (N := some 57) #[true, true, true, true, true, true, true, true, true, true, true, true, true, true, true, true, false, false, false, false, false, false, false, false, false, false, false, false, false, false, false, false, false] rfl rfl (by kernel_rfl) (by decide) (fun K hK => ?_)
            refine value_ (w1 := ?_) (v := ?_) (by rfl) rfl ?_ ?_
            rotate_left 2
            · go_simp
              constructor
              · rfl
              · rfl
            refine hK.out _ _ ⟨hq0, hq2, hqc⟩ (fun hHeld => ?_)
            clear hK K
            refine norm_ (a' := ?_) ?_ ?_
            rotate_left
            · show Act.put _ (some 57) _ = _
              simp only [Act.put, List.setIfInBounds_toArray, List.set_cons_zero, List.set_cons_succ, i64_w, i32_w]
              rfl
            refine pure_ (i := 16) (N := some 66) (v := ?_) (a' := ?_) #[true, true, true, true, true, true, true, true, true, true, true, true, true, true, true, true, true, false, false, false, false, false, false, false, false, false, false, false, false, false, false, false, false] rfl rfl (by kernel_rfl) (fun _ _ _ h => h) (Or.inl ⟨by rfl, ?_⟩) ?_ ?_
            rotate_left
            · intro w'
              go_simp
              with_reducible rfl
            rotate_left
            · simp only [Act.put, List.setIfInBounds_toArray, List.set_cons_zero, List.set_cons_succ, i64_w, i32_w]
              rfl
            refine pure_ (i := 17) (N := some 67) (v := ?_) (a' := ?_) #[true, true, true, true, true, true, true, true, true, true, true, true, true, true, true, true, true, true, false, false, false, false, false, false, false, false, false, false, false, false, false, false, false] rfl rfl (by kernel_rfl) (fun _ _ _ h => h) (Or.inl ⟨by rfl, ?_⟩) ?_ ?_
            rotate_left
            · intro w'
              go_simp
              with_reducible rfl
            rotate_left
            · simp only [Act.put, List.setIfInBounds_toArray, List.set_cons_zero, List.set_cons_succ, i64_w, i32_w]
              rfl
            refine pure_ (i := 18) (N := some 68) (v := ?_) (a' := ?_) #[true, true, true, true, true, true, true, true, true, true, true, true, true, true, true, true, true, true, true, false, false, false, false, false, false, false, false, false, false, false, false, false, false] rfl rfl (by kernel_rfl) (fun _ _ _ h => h) (Or.inl ⟨by rfl, ?_⟩) ?_ ?_
            rotate_left
            · intro w'
              go_simp
              with_reducible rfl
            rotate_left
            · simp only [Act.put, List.setIfInBounds_toArray, List.set_cons_zero, List.set_cons_succ, i64_w, i32_w]
              rfl
            refine pure_ (i := 19) (N := some 69) (v := ?_) (a' := ?_) #[true, true, true, true, true, true, true, true, true, true, true, true, true, true, true, true, true, true, true, true, false, false, false, false, false, false, false, false, false, false, false, false, false] rfl rfl (by kernel_rfl) (fun _ _ _ h => h) (Or.inl ⟨by rfl, ?_⟩) ?_ ?_
            rotate_left
            · intro w'
              go_simp
              with_reducible rfl
            rotate_left
            · simp only [Act.put, List.setIfInBounds_toArray, List.set_cons_zero, List.set_cons_succ, i64_w, i32_w]
              rfl
            refine take_ (i := 20) (N := some 70) (v := ?_) (a' := ?_) #[true, true, true, true, true, true, true, true, true, true, true, true, true, true, true, true, true, true, true, true, true, false, false, false, false, false, false, false, false, false, false, false, false] rfl rfl (by kernel_rfl) (fun _ _ _ h => h) (Or.inl ⟨by rfl, ?_⟩) hHeld ?_ ?_
            rotate_left
            · rintro w' ⟨s0, s1, s2⟩
              go_simp
              with_reducible rfl
            rotate_left
            · simp only [Act.put, List.setIfInBounds_toArray, List.set_cons_zero, List.set_cons_succ, i64_w, i32_w]
              rfl
            refine pure_ (i := 21) (N := some 71) (v := ?_) (a' := ?_) #[true, true, true, true, true, true, true, true, true, true, true, true, true, true, true, true, true, true, true, true, true, true, false, false, false, false, false, false, false, false, false, false, false] rfl rfl (by kernel_rfl) (fun _ _ _ h => h) (Or.inl ⟨by rfl, ?_⟩) ?_ ?_
            rotate_left
            · intro w'
              go_simp
              with_reducible rfl
            rotate_left
            · simp only [Act.put, List.setIfInBounds_toArray, List.set_cons_zero, List.set_cons_succ, i64_w, i32_w]
              rfl
            refine pure_ (i := 22) (N := some 72) (v := ?_) (a' := ?_) #[true, true, true, true, true, true, true, true, true, true, true, true, true, true, true, true, true, true, true, true, true, true, true, false, false, false, false, false, false, false, false, false, false] rfl rfl (by kernel_rfl) (fun _ _ _ h => h) (Or.inl ⟨by rfl, ?_⟩) ?_ ?_
            rotate_left
            · intro w'
              go_simp
              with_reducible rfl
            rotate_left
            · simp only [Act.put, List.setIfInBounds_toArray, List.set_cons_zero, List.set_cons_succ, i64_w, i32_w]
              rfl
            refine pure_ (i := 23) (N := some 73) (v := undef) (a' := ?_) #[true, true, true, true, true, true, true, true, true, true, true, true, true, true, true, true, true, true, true, true, true, true, true, true, false, false, false, false, false, false, false, false, false] rfl rfl (by kernel_rfl) (fun _ _ _ h => h) (Or.inr ⟨by rfl, rfl⟩) ?_ ?_
            rotate_left
            · simp only [Act.put, List.setIfInBounds_toArray, List.set_cons_zero, List.set_cons_succ, i64_w, i32_w]
              rfl
            refine pure_ (i := 24) (N := some 74) (v := undef) (a' := ?_) #[true, true, true, true, true, true, true, true, true, true, true, true, true, true, true, true, true, true, true, true, true, true, true, true, true, false, false, false, false, false, false, false, false] rfl rfl (by kernel_rfl) (fun _ _ _ h => h) (Or.inr ⟨by rfl, rfl⟩) ?_ ?_
            rotate_left
            · simp only [Act.put, List.setIfInBounds_toArray, List.set_cons_zero, List.set_cons_succ, i64_w, i32_w]
              rfl
            refine pure_ (i := 25) (N := some 75) (v := undef) (a' := ?_) #[true, true, true, true, true, true, true, true, true, true, true, true, true, true, true, true, true, true, true, true, true, true, true, true, true, true, false, false, false, false, false, false, false] rfl rfl (by kernel_rfl) (fun _ _ _ h => h) (Or.inr ⟨by rfl, rfl⟩) ?_ ?_
            rotate_left
            · simp only [Act.put, List.setIfInBounds_toArray, List.set_cons_zero, List.set_cons_succ, i64_w, i32_w]
              rfl
            refine pure_ (i := 26) (N := some 76) (v := undef) (a' := ?_) #[true, true, true, true, true, true, true, true, true, true, true, true, true, true, true, true, true, true, true, true, true, true, true, true, true, true, true, false, false, false, false, false, false] rfl rfl (by kernel_rfl) (fun _ _ _ h => h) (Or.inr ⟨by rfl, rfl⟩) ?_ ?_
            rotate_left
            · simp only [Act.put, List.setIfInBounds_toArray, List.set_cons_zero, List.set_cons_succ, i64_w, i32_w]
              rfl
            refine pure_ (i := 27) (N := some 77) (v := undef) (a' := ?_) #[true, true, true, true, true, true, true, true, true, true, true, true, true, true, true, true, true, true, true, true, true, true, true, true, true, true, true, true, false, false, false, false, false] rfl rfl (by kernel_rfl) (fun _ _ _ h => h) (Or.inr ⟨by rfl, rfl⟩) ?_ ?_
            rotate_left
            · simp only [Act.put, List.setIfInBounds_toArray, List.set_cons_zero, List.set_cons_succ, i64_w, i32_w]
              rfl
            refine pure_ (i := 28) (N := some 78) (v := undef) (a' := ?_) #[true, true, true, true, true, true, true, true, true, true, true, true, true, true, true, true, true, true, true, true, true, true, true, true, true, true, true, true, true, false, false, false, false] rfl rfl (by kernel_rfl) (fun _ _ _ h => h) (Or.inr ⟨by rfl, rfl⟩) ?_ ?_
            rotate_left
            · simp only [Act.put, List.setIfInBounds_toArray, List.set_cons_zero, List.set_cons_succ, i64_w, i32_w]
              rfl
            refine pure_ (i := 29) (N := some 79) (v := undef) (a' := ?_) #[true, true, true, true, true, true, true, true, true, true, true, true, true, true, true, true, true, true, true, true, true, true, true, true, true, true, true, true, true, true, false, false, false] rfl rfl (by kernel_rfl) (fun _ _ _ h => h) (Or.inr ⟨by rfl, rfl⟩) ?_ ?_
            rotate_left
            · simp only [Act.put, List.setIfInBounds_toArray, List.set_cons_zero, List.set_cons_succ, i64_w, i32_w]
              rfl
            refine pure_ (i := 30) (N := some 80) (v := undef) (a' := ?_) #[true, true, true, true, true, true, true, true, true, true, true, true, true, true, true, true, true, true, true, true, true, true, true, true, true, true, true, true, true, true, true, false, false] rfl rfl (by kernel_rfl) (fun _ _ _ h => h) (Or.inr ⟨by rfl, rfl⟩) ?_ ?_
            rotate_left
            · simp only [Act.put, List.setIfInBounds_toArray, List.set_cons_zero, List.set_cons_succ, i64_w, i32_w]
              rfl
            refine pure_ (i := 31) (N := some 81) (v := ?_) (a' := ?_) #[true, true, true, true, true, true, true, true, true, true, true, true, true, true, true, true, true, true, true, true, true, true, true, true, true, true, true, true, true, true, true, true, false] rfl rfl (by kernel_rfl) (fun _ _ _ h => h) (Or.inl ⟨by rfl, ?_⟩) ?_ ?_
            rotate_left
            · intro w'
              go_simp
              with_reducible rfl
            rotate_left
            · simp only [Act.put, List.setIfInBounds_toArray, List.set_cons_zero, List.set_cons_succ, i64_w, i32_w]
              rfl
            refine pure_ (i := 32) (N := some 82) (v := ?_) (a' := ?_) #[true, true, true, true, true, true, true, true, true, true, true, true, true, true, true, true, true, true, true, true, true, true, true, true, true, true, true, true, true, true, true, true, true] rfl rfl (by kernel_rfl) (fun _ _ _ h => h) (Or.inl ⟨by rfl, ?_⟩) ?_ ?_
            rotate_left
            · intro w'
              go_simp
              with_reducible rfl
            rotate_left
            · simp only [Act.put, List.setIfInBounds_toArray, List.set_cons_zero, List.set_cons_succ, i64_w, i32_w]
              rfl
            refine done_ (by kernel_rfl) ?_

            -- region end
            go_wp2_with fail
            go_roundg k1
            case measure => omega
            case rel =>
              refine ⟨a + n, i + 1, by simp, by simp, ⟨by have := HI.out; omega⟩, ⟨by omega, HF.out.2.2.2.1⟩, ⟨Kd.R_drewN H3V.out 0⟩, ⟨H3B.out⟩⟩
          · have hRm : R = -1 ∧ n ≤ 3 := HF.out.2.2.2.2.resolve_left (fun h => hR h.1)
            obtain ⟨rfl, hn3⟩ := hRm
            have d4 : decide ((3 : Int) < (n : Int)) = false := decide_eq_false (by omega)
            go_wp2_with fail
            have hc0 : (wr.alloc (.cells #[.int .i64 (-1), .int .i64 a, .int .i64 n] 30)).cell? ⟨wr.heap.size, 0, none⟩ = some (.int .i64 (-1)) := (blk_cell (blk_new wr _) 0).trans rfl
            have hc2 : (wr.alloc (.cells #[.int .i64 (-1), .int .i64 a, .int .i64 n] 30)).cell? ⟨wr.heap.size, 2, none⟩ = some (.int .i64 n) := (blk_cell (blk_new wr _) 2).trans rfl
            have HVa := Aside0.mk (Kd.R_alloc HV.out (.cells #[.int .i64 (-1), .int .i64 a, .int .i64 n] 30))
            have HBa := Aside0.mk (below_alloc HBq.out (.cells #[.int .i64 (-1), .int .i64 a, .int .i64 n] 30))
            clear HV HBq hx0 hx1 hx2
            generalize wr.alloc (.cells #[.int .i64 (-1), .int .i64 a, .int .i64 n] 30) = wA at hc0 hc2 HVa HBa ⊢
            generalize wr.heap.size = gb at hc0 hc2 ⊢
            go_quiet (fail)
            go_wp2_with fail
            go_roundg k1
            case measure => omega
            case rel =>
              refine ⟨a + n, i + 1, by simp, by simp, ⟨by have := HI.out; omega⟩, ⟨by omega, HF.out.2.2.2.1⟩, ⟨Kd.R_drewN HVa.out _⟩, ⟨pw_below_drewN HBa.out _⟩⟩
  · rw [if_neg hg] at h
    cases h


/-- THE ONE PURE STATEMENT of glyphcutterlaw02_UtfWhole: yours. -/
def glyphcutterlaw02_UtfWhole.Pure : Prop := ∀ (l0 : List Int), l0.length ≤ maxLen → l0.length * 1 ≤ 140737488351232 → (∀ x ∈ l0, (Lit.int .u8 x).wf = true) → glyphcutterlaw02_UtfWhole.f l0 = some true
theorem glyphcutterlaw02_UtfWhole.walk (P : glyphcutterlaw02_UtfWhole.Pure) (a0 : Option Addr) (len0 cap0 : Nat) (z0 : List Int) (w : World) (w0 : (a0 = none ∧ len0 = 0 ∧ cap0 = 0 ∧ z0 = []) ∨ ∃ x, a0 = some x ∧ len0 ≤ cap0 ∧ cap0 ≤ maxLen ∧ z0.length = cap0 ∧ (∀ i, i < z0.length → w.cell? (x.add i) = some (.int .u8 (z0.getD i 0))) ∧ ∀ n ∈ z0, (Lit.int .u8 n).wf = true) (y0 : len0 * 1 ≤ 140737488351232) :
    Calls Try.prog 6 #[.slice a0 len0 cap0] w fun e w' => e = .returned (.bool true) ∧ Below w.heap.size w w' := by
  obtain ⟨l0, rfl, hr0, hm0, hw0, hc0⟩ := ReadsInt.ofRowC w0
  have h := P l0 hm0 y0 hw0
  refine (glyphcutterlaw02_UtfWhole.calls _ _ l0 true w (Kd.C_of_reads (d := (0 : Int)) (h1 := fun _ => rfl) hr0) hc0 h).mono ?_
  rintro e w' ⟨rfl, hd⟩
  exact ⟨rfl, hd⟩

end Go.Proofs.Ytpikhloemhbecaa.P
