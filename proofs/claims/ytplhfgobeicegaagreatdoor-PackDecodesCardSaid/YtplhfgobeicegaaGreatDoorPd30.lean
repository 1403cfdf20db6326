/- Part 30 of the proof: VF, VB. -/
import Derived.Test.YtplhfgobeicegaaGreatDoorPd29
namespace Go.Proofs.YtplhfgobeicegaaGreatDoor.P
open Go Go.RowKit Go.Proofs.YtplhfgobeicegaaGreatDoorW.PrintWords Go.Proofs.YtplhfgobeicegaaGreatDoorW.PrintLast Go.Proofs.YtplhfgobeicegaaGreatDoorW.PrintMore Go.Proofs.YtplhfgobeicegaaGreatDoor.PX
attribute [local go_sem] max2_int min2_int max_two min_two
set_option linter.unusedVariables false
set_option linter.unusedSimpArgs false
set_option maxRecDepth 100000
theorem three_cast : (3 : Int) = ((3 : Nat) : Int) := rfl
theorem c256_cast : (256 : Int) = ((256 : Nat) : Int) := rfl
theorem c256_le : 256 ≤ 1000000 := by decide
theorem two_le3 : 2 ≤ 3 := by decide
theorem three_le3 : 3 ≤ 3 := by decide
theorem num2_in {b : List Int} (hu : U8s b) (a : Nat) (bad : Bool) : 0 ≤ (numS b 2 0 a bad).1 ∧ (numS b 2 0 a bad).1 < 65536 := by
 rw [numS]
 split
 ·next h =>
  rw [numS]
  have h1 := hu _ (mem_getD b 0 a h)
  split
  ·next h2 =>
   rw [numS]
   have := hu _ (mem_getD b 0 _ h2)
   dsimp only
   omega
  ·dsimp only; omega
 ·dsimp only; omega
theorem dec_step (r : List Int) (j : Nat) (hj : j < r.length) : ((r.take j).map (fun x => x - 1) ++ r.drop j).set j (r.getD j 0 - 1) = (r.take (j + 1)).map (fun x => x - 1) ++ r.drop (j + 1) := by
 have h1 : ((r.take j).map (fun x => x - 1)).length = j := by rw [List.length_map, List.length_take]; omega
 rw [List.set_append_right _ _ (by omega), h1, Nat.sub_self, drop_at r 0 j hj, List.set_cons_zero, take_at r 0 j hj, List.map_append, List.append_assoc]
 rfl
theorem dec_at (r : List Int) (j : Nat) (hj : j < r.length) : ((r.take j).map (fun x => x - 1) ++ r.drop j).getD j 0 = r.getD j 0 := by
 have h1 : ((r.take j).map (fun x => x - 1)).length = j := by rw [List.length_map, List.length_take]; omega
 rw [List.getD_eq_getElem?_getD, List.getElem?_append_right (by omega), h1, Nat.sub_self, drop_at r 0 j hj]
 rfl
theorem dec_len (r : List Int) (j : Nat) (hj : j ≤ r.length) : ((r.take j).map (fun x => x - 1) ++ r.drop j).length = r.length := by
 rw [lA, List.length_map, List.length_take, List.length_drop]; omega
set_option maxHeartbeats 16000000 in
theorem rdecode_calls (X : Nat → Prop) (vb : Value) (b : List Int) (w : World) (hX : ∀ k, X k → k < w.heap.size) (hb : PV kU8 X w vb b) (hu : U8s b) :
    Calls Tryz.prog 11 #[vb] w fun e w' => ∃ v0 v1 v2, e = .returned (.tuple #[.agg #[v0, v1, v2], .int .i64 (decF b).2]) ∧ PV kU8 X w' v0 (decF b).1.1 ∧ PV kRow X w' v1 (decF b).1.2.1 ∧ PV kInt X w' v2 (decF b).1.2.2 ∧ Below w.heap.size w w' := by
  rw [← decS_eq hu]
  have H1 := aM hb
  have HU := aM hu
  have m1 := hb.max
  obtain ⟨A1, c1, rfl, _, _⟩ := hb.now
  have HS := aM ((Sep.start hX).push_box [.slice none 0 0, .slice none 0 0, .slice none 0 0] 28)
  obtain ⟨r, hr⟩ : ∃ r, r = decS b := ⟨_, rfl⟩
  rw [← hr]
  have HR := aM hr
  obtain ⟨⟨n3, a3, b3⟩, h3⟩ : ∃ p, p = numS b 3 0 0 false := ⟨_, rfl⟩
  have HN3 := aM h3.symm
  clear hb hX hr hu
  go_enter Tryz.func11, Tryz.ntmps11
  go_upto_region 2 with fail
  have hs := HS.out.push_box' [.slice A1 b.length c1, .int .i64 0, .bool false] 70 (w.heap.size + 1) (by simp)
  obtain ⟨gr, hgr⟩ : ∃ g, g = w.heap.size + 1 := ⟨_, rfl⟩
  obtain ⟨g2, hg2⟩ : ∃ g, g = w.heap.size := ⟨_, rfl⟩
  rw [← hgr, ← hg2] at hs ⊢
  simp only [List.nil_append, List.cons_append] at hs
  obtain ⟨w4, hw4⟩ : ∃ x, x = (w.alloc (.cells #[.slice none 0 0, .slice none 0 0, .slice none 0 0] 28)).alloc (.cells #[.slice A1 b.length c1, .int .i64 0, .bool false] 70) := ⟨_, rfl⟩
  change Sep X w ((w.alloc (.cells #[.slice none 0 0, .slice none 0 0, .slice none 0 0] 28)).alloc (.cells #[.slice A1 b.length c1, .int .i64 0, .bool false] 70)) _ at hs
  rw [← hw4] at hs ⊢
  have hs : Sep X w w4 [.box g2 28 [.slice none 0 0, .slice none 0 0, .slice none 0 0], .box gr 70 [.slice A1 b.length c1, .int .i64 ((0 : Nat) : Int), .bool false]] := hs
  clear HS hw4 hgr hg2 h3
  have HS := aM hs
  clear hs
  go_upto_if 20 with (first
    | (go_at_call 36; (with_reducible refine (num15_calls X w _ _ 1 gr _ b 0 false 3 HS.out rfl H1.out HU.out three_le3 3 three_cast).mono ?_); rintro ee w5 ⟨rfl, hs⟩; rw [HN3.out] at hs ⊢; have hs : Sep X w w5 [.box g2 28 [.slice none 0 0, .slice none 0 0, .slice none 0 0], .box gr 70 [.slice A1 b.length c1, .int .i64 (a3 : Int), .bool b3]] := hs; clear HS; have HS := aM hs; clear hs))
  by_cases hm : n3 = 4670209
  case neg =>
    have d1 : (n3 == 4670209) = false := bF hm
    have d2 : (n3 != 4670209) = true := by rw [bne, d1]; rfl
    have HE := aM (show r = noTable by rw [HR.out, decS, HN3.out, if_neg hm])
    clear hm HR
    have x0 := (HS.out.box 0 rfl).cell 0 rfl
    have f0 := (HS.out.box 0 rfl).open_ 0
    have x1 := (HS.out.box 0 rfl).cell 1 rfl
    have f1 := (HS.out.box 0 rfl).open_ 1
    have x2 := (HS.out.box 0 rfl).cell 2 rfl
    have f2 := (HS.out.box 0 rfl).open_ 2
    go_wp2_with fail
    have HSF := aM (((HS.out.set_box 0 rfl 0 (.slice none 0 0)).set_box 0 rfl 1 (.slice none 0 0)).set_box 0 rfl 2 (.slice none 0 0))
    refine bodyPost_ret (results_ct rfl _ _ g2 28 #[.slice none 0 0, .slice none 0 0, .slice none 0 0] (0, 0) _ rfl (HSF.out.box 0 rfl) Tryz.underlying28 rfl (by kernel_rfl)) rfl ?_
    rw [HE.out]
    exact ⟨_, _, _, rfl, PV.nil _ _ _, PV.nil _ _ _, PV.nil _ _ _, HSF.out.below⟩
  case pos =>
    have d1 : (n3 == 4670209) = true := beq_iff_eq.2 hm
    have d2 : (n3 != 4670209) = false := by rw [bne, d1]; rfl
    obtain ⟨⟨n2, a4, b4⟩, h2⟩ : ∃ p, p = numS b 2 0 a3 b3 := ⟨_, rfl⟩
    have hin := num2_in HU.out a3 b3
    rw [← h2] at hin
    dsimp only at hin
    obtain ⟨many, rfl⟩ : ∃ k : Nat, n2 = k := ⟨n2.toNat, by omega⟩
    have HN2 := aM h2.symm
    obtain ⟨⟨cl, a5, b5⟩, hc⟩ : ∃ p, p = rowS b 256 1 256 [] a4 b4 := ⟨_, rfl⟩
    have hcu := row1_u8 HU.out 256 256 a4 b4
    rw [← hc] at hcu
    dsimp only at hcu
    have HCR := aM hc.symm
    have HCU := aM hcu.1
    have HCL := aM hcu.2
    have HMANY := aM hin.2
    obtain ⟨k, hk⟩ : ∃ k, k = (clsS cl).toNat := ⟨_, rfl⟩
    have HK := aM (show k ≤ 256 ∧ clsS cl = (k : Int) by have := clsS_in hcu.1; omega)
    obtain ⟨st, hst⟩ : ∃ s, s = stS b k many [] [] a5 b5 := ⟨_, rfl⟩
    have HST := aM hst.symm
    have HE := aM (show r = endS b cl st by rw [HR.out, decS, HN3.out, if_pos hm]; dsimp only; rw [HN2.out]; dsimp only; rw [Int.toNat_natCast, HCR.out, midS]; dsimp only; rw [← hk, hst])
    clear hm HR h2 hin hc hcu hk hst
    go_upto_region 5 with (first
      | (go_at_call 36; (with_reducible refine (num15_calls X w _ _ 1 gr _ b a3 b3 2 HS.out rfl H1.out HU.out two_le3 2 two_cast).mono ?_); rintro ee w6 ⟨rfl, hs⟩; rw [HN2.out] at hs ⊢; have hs : Sep X w w6 [.box g2 28 [.slice none 0 0, .slice none 0 0, .slice none 0 0], .box gr 70 [.slice A1 b.length c1, .int .i64 (a4 : Int), .bool b4]] := hs; clear HS; have HS := aM hs; clear hs))
    clear d1 d2
    go_upto_region 6 with fail
    have hs := HS.out.push_box [.slice none 0 0, .slice none 0 0, .slice none 0 0] 28
    obtain ⟨gt, hgt⟩ : ∃ g, g = w6.heap.size := ⟨_, rfl⟩
    rw [← hgt] at hs ⊢
    simp only [List.nil_append, List.cons_append] at hs
    obtain ⟨wa, hwa⟩ : ∃ x, x = w6.alloc (.cells #[.slice none 0 0, .slice none 0 0, .slice none 0 0] 28) := ⟨_, rfl⟩
    change Sep X w (w6.alloc (.cells #[.slice none 0 0, .slice none 0 0, .slice none 0 0] 28)) _ at hs
    rw [← hwa] at hs ⊢
    clear hgt hwa HS
    have HS := aM hs
    clear hs
    go_upto_region 8 with (first
      | (go_at_call 37; (with_reducible refine (row15_calls X w _ _ 1 gr _ b a4 b4 256 1 HS.out rfl H1.out HU.out one_le3 c256_le 1 256 one_cast c256_cast).mono ?_); rintro ee wb ⟨v4, rfl, hs⟩; rw [HCR.out] at hs; obtain ⟨A4, c4, e4⟩ := hs.form 3 rfl; subst e4; have hs : Sep X w wb [.box g2 28 [.slice none 0 0, .slice none 0 0, .slice none 0 0], .box gr 70 [.slice A1 b.length c1, .int .i64 (a5 : Int), .bool b5], .box gt 28 [(.slice none 0 0), (.slice none 0 0), (.slice none 0 0)], .row kInt 3 (.slice A4 cl.length c4) cl] := hs; have hs := hs.push_nil kU8 5; simp only [List.nil_append, List.cons_append] at hs; clear HS; have HS := aM hs; clear hs))
    go_wp2_with fail
    go_loopg [7, 9] cl.length (fun m v7 v9 w' => ∃ (i : Nat) (C : List Int) (vC : Value), (v9 = .int .i64 i ∧ v7 = .int .i64 (clsS C)) ∧ Aside0 (i + m = cl.length) ∧ Aside0 (C = cl.take i) ∧ Aside0 (Sep X w w' [.box g2 28 [.slice none 0 0, .slice none 0 0, .slice none 0 0], .box gr 70 [.slice A1 b.length c1, .int .i64 (a5 : Int), .bool b5], .box gt 28 [vC, (.slice none 0 0), (.slice none 0 0)], .row kInt 3 (.slice A4 cl.length c4) cl, .row kU8 5 vC C]))
    case atStart => exact ⟨0, [], _, ⟨rfl, rfl⟩, ⟨by omega⟩, ⟨rfl⟩, HS⟩
    case round =>
      clear HS
      obtain ⟨i, C, vC, ⟨rfl, rfl⟩, HJ, HC, HS⟩ := hrel
      obtain ⟨A5, c5, e5⟩ := HS.out.form 4 rfl
      subst e5
      cases gk with
      | succ k1 =>
        have hi : i < cl.length := by have := HJ.out; omega
        have e1 : decide ((i : Int) < (cl.length : Int)) = true := dT (by omega)
        have e2 : decide (i < cl.length) = true := dT hi
        have hi0 : (0 : Int) ≤ (i : Int) := by omega
        have hi1 : (i : Int) < (cl.length : Int) := by omega
        have hcl9 := HCL.out
        obtain ⟨p, hp, hp1⟩ := u8s_at HCU.out i hi
        obtain ⟨ga, ca, ea, ya, _, _⟩ := HS.out.int 3 rfl i hi
        cases ea
        rw [hp] at ya
        have HP := aM hp
        have HC2 := aM (show C ++ [(p : Int)] = cl.take (i + 1) by rw [take_at cl 0 i hi, HC.out, hp])
        have HCS := aM (show clsS (C ++ [(p : Int)]) = mx (clsS C) ((p : Int) + 1) from clsS_snoc C p)
        have hq8 : IntKind.u8.wrap (p : Int) = (p : Int) := by rw [IntKind.wrap_u8']; omega
        have hq9 : (p : Int) % 256 = (p : Int) := by omega
        have HCL2 := aM (show C.length + 1 ≤ 1000 by rw [HC.out, List.length_take]; have := HCL.out; omega)
        clear HC hp
        generalize clsS C = cs at *
        go_upto_region 12 with fail
        all_goals
          clear ya
          have hs := HS.out.drew
          clear HS; have HS := aM hs; clear hs
          refine start_ (n := 11) (S := fun w' => w'.cell? ⟨gt, 0, none⟩ = some (.slice A5 C.length c5) ∧ w'.cell? ⟨ga, i, none⟩ = some (.int .i64 (p : Int))) (ds := [8, 10]) #[false, false, false, false, false, false, false, false, false, false, false] (by kernel_rfl) rfl rfl ⟨((HS.out.box 2 rfl).cell 0 rfl), (row_cellk HS.out 3 rfl i hi HP.out)⟩ (fun hHeld => ?_)
          refine pure_ (i := 0) (N := some 40) (v := ?_) (a' := ?_) (bv 11 1) rfl rfl (by kernel_rfl) (fun _ _ _ h => h) (Or.inl ⟨by rfl, ?_⟩) ?_ ?_
          rotate_left
          · intro w'
            go_simp
            with_reducible rfl
          rotate_left
          · simp only [Act.put, qA, qB, qC, i64_w, i32_w]
            rfl
          refine pure_ (i := 2) (N := some 42) (v := ?_) (a' := ?_) (bv 11 5) rfl rfl (by kernel_rfl) (fun _ _ _ h => h) (Or.inl ⟨by rfl, ?_⟩) ?_ ?_
          rotate_left
          · intro w'
            go_simp
            with_reducible rfl
          rotate_left
          · simp only [Act.put, qA, qB, qC, i64_w, i32_w]
            rfl
          refine pure_ (i := 3) (N := some 43) (v := ?_) (a' := ?_) (bv 11 13) rfl rfl (by kernel_rfl) (fun _ _ _ h => h) (Or.inl ⟨by rfl, ?_⟩) ?_ ?_
          rotate_left
          · intro w'
            go_simp
            with_reducible rfl
          rotate_left
          · simp only [Act.put, qA, qB, qC, i64_w, i32_w]
            rfl
          refine pure_ (i := 4) (N := some 44) (v := ?_) (a' := ?_) (bv 11 29) rfl rfl (by kernel_rfl) (fun _ _ _ h => h) (Or.inl ⟨by rfl, ?_⟩) ?_ ?_
          rotate_left
          · intro w'
            go_simp
            with_reducible rfl
          rotate_left
          · simp only [Act.put, qA, qB, qC, i64_w, i32_w]
            rfl
          refine take_ (i := 1) (N := some 41) (v := ?_) (a' := ?_) (bv 11 31) rfl rfl (by kernel_rfl) (fun _ _ _ h => h) (Or.inl ⟨by rfl, ?_⟩) hHeld ?_ ?_
          rotate_left
          · rintro w' ⟨s0, s1⟩
            go_simp
            with_reducible rfl
          rotate_left
          · simp only [Act.put, qA, qB, qC, i64_w, i32_w]
            rfl
          refine take_ (i := 5) (N := some 45) (v := ?_) (a' := ?_) (bv 11 63) rfl rfl (by kernel_rfl) (fun _ _ _ h => h) (Or.inl ⟨by rfl, ?_⟩) hHeld ?_ ?_
          rotate_left
          · rintro w' ⟨s0, s1⟩
            go_simp
            with_reducible rfl
          rotate_left
          · simp only [Act.put, qA, qB, qC, i64_w, i32_w]
            rfl
          refine pure_ (i := 6) (N := some 46) (v := ?_) (a' := ?_) (bv 11 127) rfl rfl (by kernel_rfl) (fun _ _ _ h => h) (Or.inl ⟨by rfl, ?_⟩) ?_ ?_
          rotate_left
          · intro w'
            go_simp
            with_reducible rfl
          rotate_left
          · simp only [Act.put, qA, qB, qC, i64_w, i32_w]
            rfl
          refine one_ (i := 7) (N := some 47) (bv 11 255) rfl rfl (by kernel_rfl) (by decide) (fun K hK => ?_)
          refine value_ (w1 := ?_) (v := ?_) (by rfl) rfl ?_ ?_
          rotate_left 2
          · go_simp
            constructor
            · rfl
            · rfl
          have hs := HS.out.lit_ro kU8 5 (xs := [(p : Int)]) (inner := [.int .u8 (p : Int)]) (Reps.one (PK.scalar _) (Reps.none _ _)) (by simp)
          clear HS; have HS := aM hs; clear hs
          refine hK.out _ _ ⟨((HS.out.box 2 rfl).cell 0 rfl), (row_cellk HS.out 3 rfl i hi HP.out)⟩ (fun hHeld => ?_)
          clear hK K
          refine norm_ (a' := ?_) ?_ ?_
          rotate_left
          · show Act.put _ (some 47) _ = _
            simp only [Act.put, qA, qB, qC, i64_w, i32_w]
            rfl
          refine last_ (i := 8) (N := some 48) #[true, true, true, true, true, true, true, true, true, false, false] rfl rfl (by kernel_rfl) (by decide) (fun K hK => ?_)
          refine sgrow_step kU8 4 (by rfl) rfl (.tmp 41) (.tmp 47) 24 5 (.int .u8 0) 1 rfl Tryz.underlying24 info5 rfl (by decide) (by omega) _ (.slice (some ⟨_, 0, none⟩) [(p : Int)].length [(p : Int)].length) C [(p : Int)] rfl rfl HS.out rfl (HS.out.ro 5 rfl) (by have := HCL2.out; rw [lS]; omega) ?_
          intro v1 w1 hs
          obtain ⟨C1, hC1⟩ : ∃ q, q = C ++ [(p : Int)] := ⟨_, rfl⟩
          rw [← hC1] at hs
          have HZC1 := aM hC1
          clear hC1
          obtain ⟨Az, cz, ez⟩ := hs.form 4 rfl
          subst ez
          clear HS; have HS := aM hs; clear hs
          have hs := HS.out.take 5
          clear HS; have HS := aM hs; clear hs
          have fz := (HS.out.box 2 rfl).open_ 0
          have yz := (HS.out.box 2 rfl).cell 0 rfl
          refine hK.out _ _ ?_
          clear hK K
          refine norm_ (a' := ?_) ?_ ?_
          rotate_left
          · show Act.put _ (some 48) _ = _
            simp only [Act.put, qA, qB, qC, i64_w, i32_w]
            rfl
          refine pure_ (i := 9) (N := some 49) (v := ?_) (a' := ?_) (bv 11 1023) rfl rfl (by kernel_rfl) (fun _ _ _ h => h) (Or.inl ⟨by rfl, ?_⟩) ?_ ?_
          rotate_left
          · intro w'
            go_simp
            with_reducible rfl
          rotate_left
          · simp only [Act.put, qA, qB, qC, i64_w, i32_w]
            rfl
          refine last_ (i := 10) (N := none) #[true, true, true, true, true, true, true, true, true, true, true] rfl rfl (by kernel_rfl) (by decide) (fun K hK => ?_)
          refine skip_ (w1 := ?_) (by rfl) rfl ?_ ?_
          rotate_left
          · go_simp
            rfl
          have hs := HS.out.set_box 2 rfl 0 (.slice Az C1.length cz)
          clear HS; have HS := aM hs; clear hs
          refine hK.out _ _ ?_
          clear hK K
          refine done_ (by kernel_rfl) ?_
          go_wp2_with fail
          all_goals
            go_roundg k1
            case measure => omega
            case rel => exact ⟨i + 1, C1, _, ⟨by go_num, by rw [HZC1.out, HCS.out, mx]; split <;> first | rfl | (exfalso; omega)⟩, ⟨by have := HJ.out; omega⟩, ⟨by rw [HZC1.out]; exact HC2.out⟩, HS⟩
      | zero =>
        have hi : i = cl.length := by have := HJ.out; omega
        have e1 : decide ((i : Int) < (cl.length : Int)) = false := dF (by omega)
        have e2 : decide (i < cl.length) = false := dF (by omega)
        have hc : C = cl := by rw [HC.out, hi, List.take_length]
        clear HC HJ hi
        subst hc
        rw [HK.out.2]
        go_upto_block 2 with fail
        clear e1 e2
        have hs := (HS.out.push_nil kRow 26).push_nil kInt 3
        simp only [List.nil_append, List.cons_append] at hs
        clear HS
        have HS := aM hs
        clear hs
        go_cut [10, 11, 12] (fun v10 v11 v12 wc => ∃ (N : List (List Int)) (T : List Int) (a : Nat) (bd : Bool) (vN vT : Value), Aside0 ((N, T, a, bd) = st) ∧ Aside0 (Sep X w wc [.box g2 28 [.slice none 0 0, .slice none 0 0, .slice none 0 0], .box gr 70 [.slice A1 b.length c1, .int .i64 (a : Int), .bool bd], .box gt 28 [(.slice A5 C.length c5), vN, vT], .row kInt 3 (.slice A4 C.length c4) C, .row kU8 5 (.slice A5 C.length c5) C, .row kRow 26 vN N, .row kInt 3 vT T]))
        case first =>
         go_wp2_with fail
         go_loopg [10, 11, 12] many (fun m v10 v11 v12 w' => ∃ (i : Nat) (N : List (List Int)) (T : List Int) (a : Nat) (bd : Bool) (vN vT : Value), v10 = .int .i64 i ∧ Aside0 (i + m = many) ∧ Aside0 (T.length = i ∧ N.length = i) ∧ Aside0 (stS b k m N T a bd = st) ∧ Aside0 (Sep X w w' [.box g2 28 [.slice none 0 0, .slice none 0 0, .slice none 0 0], .box gr 70 [.slice A1 b.length c1, .int .i64 (a : Int), .bool bd], .box gt 28 [(.slice A5 C.length c5), vN, vT], .row kInt 3 (.slice A4 C.length c4) C, .row kU8 5 (.slice A5 C.length c5) C, .row kRow 26 vN N, .row kInt 3 vT T]))
         case atStart => exact ⟨0, [], [], a5, b5, _, _, rfl, ⟨by omega⟩, ⟨rfl, rfl⟩, HST, HS⟩
         case round =>
           clear HS HST
           obtain ⟨i, N, T, a, bd, vN, vT, rfl, HJ, HNT, HST, HS⟩ := hrel
           obtain ⟨A6, c6, e6⟩ := HS.out.form 5 rfl
           subst e6
           obtain ⟨A7, c7, e7⟩ := HS.out.form 6 rfl
           subst e7
           have y2 := (HS.out.box 1 rfl).cell 2 rfl
           by_cases hgo : i < many ∧ bd = false
           case pos =>
             obtain ⟨hi, rfl⟩ := hgo
             cases gk with
             | zero => have := HJ.out; omega
             | succ k1 =>
               have e1 : decide ((i : Int) < (many : Int)) = true := dT (by omega)
               have e2 : decide (i < many) = true := dT hi
               have hmb := HMANY.out
               have hk9 := HK.out.1
               obtain ⟨⟨y, aa, ba⟩, hya⟩ : ∃ p, p = numS b 2 0 a false := ⟨_, rfl⟩
               have hyin := num2_in HU.out a false
               rw [← hya] at hyin
               dsimp only at hyin
               have HQA := aM hya.symm
               obtain ⟨⟨rw, ab, bb⟩, hrb⟩ : ∃ p, p = rowS b k 2 k [] aa ba := ⟨_, rfl⟩
               have hrg := rowS_good (fun x => 0 ≤ x ∧ x < 65536) 2 (fun a bad => num2_in HU.out a bad) k k [] aa ba (Nat.zero_le _) (fun x h => by cases h)
               rw [← hrb] at hrg
               dsimp only at hrg
               have HRG := aM hrg
               have HQB := aM hrb.symm
               have HST2 := HST.out
               rw [stS, if_neg (by decide), HQA.out] at HST2
               dsimp only at HST2
               rw [HQB.out] at HST2
               have HST3 := aM HST2
               clear HST HST2 hrg hrb hya
               obtain ⟨z, hz⟩ : ∃ z, z = y - 1 := ⟨_, rfl⟩
               rw [← hz] at HST3
               have hz1 : y - 1 = z := hz.symm
               have hz2 : wrap64 z = z := IntWalk.wrap64_in _ (by omega)
               have HTL := aM (show T.length + 1 ≤ 100000 by have := HNT.out; have := HMANY.out; omega)
               have HNL := aM (show N.length + 1 ≤ 100000 by have := HNT.out; have := HMANY.out; omega)
               clear hz
               go_upto_region 16 with fail
               clear e1 e2 y2
               have hs := HS.out.drew
               clear HS; have HS := aM hs; clear hs
               refine start_ (n := 9) (S := fun w' => w'.cell? ⟨gt, 2, none⟩ = some (.slice A7 T.length c7)) (ds := [6, 8]) #[false, false, false, false, false, false, false, false, false] (by kernel_rfl) rfl rfl (((HS.out.box 2 rfl).cell 2 rfl)) (fun hHeld => ?_)
               refine pure_ (i := 0) (N := some 62) (v := ?_) (a' := ?_) (bv 9 1) rfl rfl (by kernel_rfl) (fun _ _ _ h => h) (Or.inl ⟨by rfl, ?_⟩) ?_ ?_
               rotate_left
               · intro w'
                 go_simp
                 with_reducible rfl
               rotate_left
               · simp only [Act.put, qA, qB, qC, i64_w, i32_w]
                 rfl
               refine pure_ (i := 2) (N := some 64) (v := ?_) (a' := ?_) (bv 9 5) rfl rfl (by kernel_rfl) (fun _ _ _ h => h) (Or.inl ⟨by rfl, ?_⟩) ?_ ?_
               rotate_left
               · intro w'
                 go_simp
                 with_reducible rfl
               rotate_left
               · simp only [Act.put, qA, qB, qC, i64_w, i32_w]
                 rfl
               refine take_ (i := 1) (N := some 63) (v := ?_) (a' := ?_) (bv 9 7) rfl rfl (by kernel_rfl) (fun _ _ _ h => h) (Or.inl ⟨by rfl, ?_⟩) hHeld ?_ ?_
               rotate_left
               · intro w' s0
                 go_simp
                 with_reducible rfl
               rotate_left
               · simp only [Act.put, qA, qB, qC, i64_w, i32_w]
                 rfl
               refine one_ (i := 3) (N := some 65) (bv 9 15) rfl rfl (by kernel_rfl) (by decide) (fun K hK => ?_)
               refine goes_ Tryz.func36 (by kernel_rfl) rfl #[.pointer (some ⟨gr, 0, none⟩), .int .i64 2] (by rfl) rfl rfl (by simp only [List.map_toArray, List.map_cons, List.map_nil]; rfl) ?_
               with_reducible refine (num15_calls X w _ _ 1 gr _ b a false 2 HS.out rfl H1.out HU.out two_le3 2 two_cast).mono ?_
               rintro e wx ⟨rfl, hs⟩
               refine ⟨_, rfl, ?_⟩
               rw [HQA.out] at hs ⊢
               have hs : Sep X w wx [.box g2 28 [.slice none 0 0, .slice none 0 0, .slice none 0 0], .box gr 70 [.slice A1 b.length c1, .int .i64 (aa : Int), .bool ba], .box gt 28 [(.slice A5 C.length c5), (.slice A6 N.length c6), (.slice A7 T.length c7)], .row kInt 3 (.slice A4 C.length c4) C, .row kU8 5 (.slice A5 C.length c5) C, .row kRow 26 (.slice A6 N.length c6) N, .row kInt 3 (.slice A7 T.length c7) T] := hs
               clear HS; have HS := aM hs; clear hs
               refine hK.out _ _ (((HS.out.box 2 rfl).cell 2 rfl)) (fun hHeld => ?_)
               clear hK K
               refine norm_ (a' := ?_) ?_ ?_
               rotate_left
               · show Act.put _ (some 65) _ = _
                 simp only [Act.put, qA, qB, qC, i64_w, i32_w]
                 rfl
               refine pure_ (i := 4) (N := some 66) (v := ?_) (a' := ?_) (bv 9 31) rfl rfl (by kernel_rfl) (fun _ _ _ h => h) (Or.inl ⟨by rfl, ?_⟩) ?_ ?_
               rotate_left
               · intro w'
                 go_simp
                 with_reducible rfl
               rotate_left
               · simp only [Act.put, qA, qB, qC, i64_w, i32_w]
                 rfl
               refine one_ (i := 5) (N := some 67) (bv 9 63) rfl rfl (by kernel_rfl) (by decide) (fun K hK => ?_)
               refine value_ (w1 := ?_) (v := ?_) (by rfl) rfl ?_ ?_
               rotate_left 2
               · go_simp
                 constructor
                 · rfl
                 · rfl
               have hs := HS.out.lit_ro kInt 3 (xs := [z]) (inner := [.int .i64 z]) (Reps.one (PK.scalar _) (Reps.none _ _)) (by simp)
               clear HS; have HS := aM hs; clear hs
               refine hK.out _ _ (((HS.out.box 2 rfl).cell 2 rfl)) (fun hHeld => ?_)
               clear hK K
               refine norm_ (a' := ?_) ?_ ?_
               rotate_left
               · show Act.put _ (some 67) _ = _
                 simp only [Act.put, qA, qB, qC, i64_w, i32_w]
                 rfl
               refine last_ (i := 6) (N := some 68) #[true, true, true, true, true, true, true, false, false] rfl rfl (by kernel_rfl) (by decide) (fun K hK => ?_)
               refine sgrow_step kInt 6 (by rfl) rfl (.tmp 63) (.tmp 67) 26 3 (.int .i64 0) 8 rfl Tryz.underlying26 info3' rfl (by decide) (by omega) _ (.slice (some ⟨_, 0, none⟩) [z].length [z].length) T [z] rfl rfl HS.out rfl (HS.out.ro 7 rfl) (by have := HTL.out; rw [lS]; omega) ?_
               intro v1 w1 hs
               obtain ⟨T1, hT1⟩ : ∃ q, q = T ++ [z] := ⟨_, rfl⟩
               rw [← hT1] at hs
               have HZT1 := aM hT1
               clear hT1
               obtain ⟨At, ct, et⟩ := hs.form 6 rfl
               subst et
               clear HS; have HS := aM hs; clear hs
               have hs := HS.out.take 7
               clear HS; have HS := aM hs; clear hs
               have fz := (HS.out.box 2 rfl).open_ 2
               have yz := (HS.out.box 2 rfl).cell 2 rfl
               refine hK.out _ _ ?_
               clear hK K
               refine norm_ (a' := ?_) ?_ ?_
               rotate_left
               · show Act.put _ (some 68) _ = _
                 simp only [Act.put, qA, qB, qC, i64_w, i32_w]
                 rfl
               refine pure_ (i := 7) (N := some 69) (v := ?_) (a' := ?_) (bv 9 255) rfl rfl (by kernel_rfl) (fun _ _ _ h => h) (Or.inl ⟨by rfl, ?_⟩) ?_ ?_
               rotate_left
               · intro w'
                 go_simp
                 with_reducible rfl
               rotate_left
               · simp only [Act.put, qA, qB, qC, i64_w, i32_w]
                 rfl
               refine last_ (i := 8) (N := none) #[true, true, true, true, true, true, true, true, true] rfl rfl (by kernel_rfl) (by decide) (fun K hK => ?_)
               refine skip_ (w1 := ?_) (by rfl) rfl ?_ ?_
               rotate_left
               · go_simp
                 rfl
               have hs := HS.out.set_box 2 rfl 2 (.slice At T1.length ct)
               clear HS; have HS := aM hs; clear hs
               refine hK.out _ _ ?_
               clear hK K
               refine done_ (by kernel_rfl) ?_
               clear hz1 hz2 hyin
               go_upto_region 18 with (first
                 | (go_at_call 37; (with_reducible refine (row15_calls X w _ _ 1 gr _ b aa ba k 2 HS.out rfl H1.out HU.out two_le3 (Nat.le_trans HK.out.1 (by decide)) 2 (k : Int) two_cast rfl).mono ?_); rintro ee wy ⟨v9, rfl, hs⟩; rw [HQB.out] at hs; obtain ⟨Aw, cw, ew⟩ := hs.form 7 rfl; subst ew; have hs : Sep X w wy [.box g2 28 [.slice none 0 0, .slice none 0 0, .slice none 0 0], .box gr 70 [.slice A1 b.length c1, .int .i64 (ab : Int), .bool bb], .box gt 28 [(.slice A5 C.length c5), (.slice A6 N.length c6), (.slice At T1.length ct)], .row kInt 3 (.slice A4 C.length c4) C, .row kU8 5 (.slice A5 C.length c5) C, .row kRow 26 (.slice A6 N.length c6) N, .row kInt 3 (.slice At T1.length ct) T1, .row kInt 3 (.slice Aw rw.length cw) rw] := hs; clear HS; have HS := aM hs; clear hs))
               go_wp2_with fail
               go_loopg [12] rw.length (fun m v12 w' => ∃ (j : Nat), v12 = .int .i64 j ∧ Aside0 (j + m = rw.length) ∧ Aside0 (Sep X w w' [.box g2 28 [.slice none 0 0, .slice none 0 0, .slice none 0 0], .box gr 70 [.slice A1 b.length c1, .int .i64 (ab : Int), .bool bb], .box gt 28 [(.slice A5 C.length c5), (.slice A6 N.length c6), (.slice At T1.length ct)], .row kInt 3 (.slice A4 C.length c4) C, .row kU8 5 (.slice A5 C.length c5) C, .row kRow 26 (.slice A6 N.length c6) N, .row kInt 3 (.slice At T1.length ct) T1, .row kInt 3 (.slice Aw rw.length cw) ((rw.take j).map (fun x => x - 1) ++ rw.drop j)]))
               case atStart => exact ⟨0, rfl, ⟨by omega⟩, HS⟩
               case round =>
                 clear HS
                 obtain ⟨j, rfl, HC, HS⟩ := hrel
                 cases gk with
                 | succ k2 =>
                   have hj : j < rw.length := by have := HC.out; omega
                   have e1 : decide ((j : Int) < (rw.length : Int)) = true := dT (by omega)
                   have e2 : decide (j < rw.length) = true := dT hj
                   have hj0 : (0 : Int) ≤ (j : Int) := by omega
                   have hj1 : (j : Int) < (rw.length : Int) := by omega
                   have hrl9 := HRG.out.2
                   have hlen := dec_len rw j (Nat.le_of_lt hj)
                   obtain ⟨gw, cw2, ew, yw, fw, hw⟩ := HS.out.int 7 rfl j (by rw [hlen]; exact hj)
                   rw [hlen] at ew
                   cases ew
                   rw [dec_at rw j hj] at yw
                   have HDS := aM (dec_step rw j hj)
                   have hxb := HRG.out.1 _ (mem_getD rw 0 j hj)
                   generalize rw.getD j 0 = x at *
                   obtain ⟨hxb0, hxb1⟩ := hxb
                   have hwx : wrap64 (x - 1) = x - 1 := IntWalk.wrap64_in _ (by omega)
                   have hs := hw (x - 1)
                   rw [HDS.out] at hs
                   have HS2 := aM hs
                   clear hs hw
                   go_upto_region 20 with fail
                   go_wp2_with fail
                   go_roundg k2
                   case measure => omega
                   case rel => exact ⟨j + 1, by go_num, ⟨by have := HC.out; omega⟩, HS2⟩
                 | zero =>
                   have hj : j = rw.length := by have := HC.out; omega
                   have e1 : decide ((j : Int) < (rw.length : Int)) = false := dF (by omega)
                   have e2 : decide (j < rw.length) = false := dF (by omega)
                   obtain ⟨rz, hrz⟩ : ∃ q, q = rw.map (fun x => x - 1) := ⟨_, rfl⟩
                   have hs := HS.out
                   rw [hj, List.take_length, List.drop_length, List.append_nil, ← hrz] at hs
                   have hrl : rw.length = rz.length := by rw [hrz, List.length_map]
                   rw [hrl] at hs
                   rw [hrl]
                   rw [← hrz] at HST3
                   have hs := hs.sealRo 7 rfl
                   have hs : Sep X w wr [.box g2 28 [.slice none 0 0, .slice none 0 0, .slice none 0 0], .box gr 70 [.slice A1 b.length c1, .int .i64 (ab : Int), .bool bb], .box gt 28 [(.slice A5 C.length c5), (.slice A6 N.length c6), (.slice At T1.length ct)], .row kInt 3 (.slice A4 C.length c4) C, .row kU8 5 (.slice A5 C.length c5) C, .row kRow 26 (.slice A6 N.length c6) N, .row kInt 3 (.slice At T1.length ct) T1, .ro kInt (.slice Aw rz.length cw) rz] := hs
                   rw [hrl] at e1 e2 hj
                   clear HS hrz hrl
                   have HS := aM hs
                   clear hs
                   have y3 := (HS.out.box 2 rfl).cell 1 rfl
                   go_wp2_with (first
                     | ((with_reducible refine gate_dst (N := 90) rfl ?_); refine slit kRow 26 ?hg (N := 90) ?hd (xs := [rz]) (inner := [.slice Aw rz.length cw]) ?hr HS.out ?hp (by simp) ?_; (case hd => rfl); (case hg => rfl); (case hr => first | (go_simp; done) | (go_simp; rfl)); (case hp => exact Reps.one (PK.slice (HS.out.ro 7 rfl)) (Reps.none _ _)); clear HS; intro v32 w32 hs; have HS := aM hs; clear hs)
                     | ((with_reducible refine gate_builtin (b := .append) (xs := #[.tmp 88, .tmp 90]) rfl ?_); at_builtin; refine sgrow kRow 5 rfl (.tmp 88) (.tmp 90) 25 26 (.slice none 0 0) 24 rfl Tryz.underlying25 info26 rfl (by decide) (by omega) _ _ N [rz] rfl rfl HS.out rfl (HS.out.ro 8 rfl) (by have := HNL.out; rw [lS]; omega) ?_; clear HS; intro v33 w33 hs; obtain ⟨N1, hN1⟩ : ∃ q, q = N ++ [rz] := ⟨_, rfl⟩; rw [← hN1] at hs; have HZN1 := aM hN1; clear hN1; obtain ⟨An, cn, en⟩ := hs.form 5 rfl; subst en; have hs := hs.take 7; have fz := (hs.box 2 rfl).open_ 1; have yz := (hs.box 2 rfl).cell 1 rfl; have HS := aM hs; clear hs))
                   have hs := HS.out.set_box 2 rfl 1 (.slice An N1.length cn)
                   clear HS
                   have HS := aM hs
                   have HT1 := aM (show T1.length = i + 1 ∧ N1.length = i + 1 by rw [HZT1.out, HZN1.out, lA, lA, lS, lS]; have := HNT.out; omega)
                   have HST4 := HST3.out
                   rw [← HZT1.out, ← HZN1.out] at HST4
                   go_roundg k1
                   case measure => omega
                   case rel => exact ⟨i + 1, N1, T1, ab, bb, _, _, by go_num, ⟨by have := HJ.out; omega⟩, HT1, ⟨HST4⟩, HS⟩
           case neg =>
             have HX := aM (show (N, T, a, bd) = st by
               have h := HST.out
               cases gk with
               | zero => exact h
               | succ k1 =>
                 rw [stS] at h
                 cases bd with
                 | true => rw [if_pos rfl] at h; exact h
                 | false => exact absurd ⟨by have := HJ.out; omega, rfl⟩ hgo)
             have hgo2 : i < many → bd = true := fun h => by
               cases bd
               · exact absurd ⟨h, rfl⟩ hgo
               · rfl
             clear hgo HST
             rcases Nat.lt_or_ge i many with h | h
             case inl =>
               have hbd := hgo2 h
               subst hbd
               have e1 : decide ((i : Int) < (many : Int)) = true := dT (by omega)
               have e2 : decide (i < many) = true := dT h
               clear hgo2
               go_wp2_with fail
               go_meet
               case rel => exact ⟨N, T, a, true, _, _, HX, HS⟩
             case inr =>
               have e1 : decide ((i : Int) < (many : Int)) = false := dF (by omega)
               have e2 : decide (i < many) = false := dF (by omega)
               clear hgo2
               go_wp2_with fail
               go_meet
               case rel => exact ⟨N, T, a, bd, _, _, HX, HS⟩
        case rest =>
          clear HS HST
          obtain ⟨N, T, a, bd, vN, vT, HX, HS⟩ := hcut
          obtain ⟨A6, c6, e6⟩ := HS.out.form 5 rfl
          subst e6
          obtain ⟨A7, c7, e7⟩ := HS.out.form 6 rfl
          subst e7
          have hs := (((HS.out.sealRo 4 rfl).sealRo 5 rfl).sealRo 6 rfl)
          have hs : Sep X w wc [.box g2 28 [.slice none 0 0, .slice none 0 0, .slice none 0 0], .box gr 70 [.slice A1 b.length c1, .int .i64 (a : Int), .bool bd], .box gt 28 [(.slice A5 C.length c5), (.slice A6 N.length c6), (.slice A7 T.length c7)], .row kInt 3 (.slice A4 C.length c4) C, .ro kU8 (.slice A5 C.length c5) C, .ro kRow (.slice A6 N.length c6) N, .ro kInt (.slice A7 T.length c7) T] := hs
          clear HS
          have HS := aM hs
          clear hs
          obtain ⟨⟨eb, ec⟩, hen⟩ : ∃ p, p = encR C N T := ⟨_, rfl⟩
          have HEN := aM hen.symm
          have HEU := aM (show U8s eb by have h := encR_u8 HCU.out N T; rw [← hen] at h; exact h)
          have hec : ec = 0 ∨ ec = 1 := by
            have h : ec = (encR C N T).2 := by rw [← hen]
            rw [h]
            unfold encR
            split
            · exact .inl rfl
            · exact .inr rfl
          have HE2 := aM (show r = if bd = false ∧ ec = 0 ∧ eb = b then ((C, N, T), 0) else noTable by rw [HE.out, ← HX.out]; unfold endS; dsimp only; rw [← hen])
          clear HE HX hen
          have z0 := (HS.out.box 2 rfl).cell 0 rfl
          have z1 := (HS.out.box 2 rfl).cell 1 rfl
          have z2 := (HS.out.box 2 rfl).cell 2 rfl
          go_upto_region 24 with (first
            | (go_at_call 7; (with_reducible refine (rencode_calls (Ys X _) _ _ _ C N T _ HS.out.lt (HS.out.ro 4 rfl) (HS.out.ro 5 rfl) (HS.out.ro 6 rfl) HCU.out).mono ?_); rintro eq wq ⟨vq, rfl, hs2⟩; rw [HEN.out] at hs2 ⊢; have hs := HS.out.append hs2; obtain ⟨Aq, cq, eq2⟩ := hs.form 7 rfl; subst eq2; have hs := hs.sealRo 7 rfl; clear hs2 z0 z1 z2; have hs : Sep X w wq [.box g2 28 [.slice none 0 0, .slice none 0 0, .slice none 0 0], .box gr 70 [.slice A1 b.length c1, .int .i64 (a : Int), .bool bd], .box gt 28 [(.slice A5 C.length c5), (.slice A6 N.length c6), (.slice A7 T.length c7)], .row kInt 3 (.slice A4 C.length c4) C, .ro kU8 (.slice A5 C.length c5) C, .ro kRow (.slice A6 N.length c6) N, .ro kInt (.slice A7 T.length c7) T, .ro kU8 (.slice Aq eb.length cq) eb] := hs; clear HS; have HS := aM hs; clear hs))
          have y2 := (HS.out.box 1 rfl).cell 2 rfl
          cases bd
          case true =>
            have HE := aM (show r = noTable by rw [HE2.out, if_neg (fun h => by have h1 := h.1; cases h1)])
            clear HE2
            go_upto_if 112 with fail
            clear y2
            skip
            have x0 := (HS.out.box 0 rfl).cell 0 rfl
            have f0 := (HS.out.box 0 rfl).open_ 0
            have x1 := (HS.out.box 0 rfl).cell 1 rfl
            have f1 := (HS.out.box 0 rfl).open_ 1
            have x2 := (HS.out.box 0 rfl).cell 2 rfl
            have f2 := (HS.out.box 0 rfl).open_ 2
            go_wp2_with fail
            have HSF := aM (((HS.out.set_box 0 rfl 0 (.slice none 0 0)).set_box 0 rfl 1 (.slice none 0 0)).set_box 0 rfl 2 (.slice none 0 0))
            refine bodyPost_ret (results_ct rfl _ _ g2 28 #[.slice none 0 0, .slice none 0 0, .slice none 0 0] (0, 0) _ rfl (HSF.out.box 0 rfl) Tryz.underlying28 rfl (by kernel_rfl)) rfl ?_
            rw [HE.out]
            exact ⟨_, _, _, rfl, PV.nil _ _ _, PV.nil _ _ _, PV.nil _ _ _, HSF.out.below⟩
          case false =>
            rcases hec with rfl | rfl
            case inr =>
              have HE := aM (show r = noTable by rw [HE2.out, if_neg (fun h => by have h1 := h.2.1; cases h1)])
              clear HE2
              go_upto_if 112 with fail
              clear y2
              skip
              have x0 := (HS.out.box 0 rfl).cell 0 rfl
              have f0 := (HS.out.box 0 rfl).open_ 0
              have x1 := (HS.out.box 0 rfl).cell 1 rfl
              have f1 := (HS.out.box 0 rfl).open_ 1
              have x2 := (HS.out.box 0 rfl).cell 2 rfl
              have f2 := (HS.out.box 0 rfl).open_ 2
              go_wp2_with fail
              have HSF := aM (((HS.out.set_box 0 rfl 0 (.slice none 0 0)).set_box 0 rfl 1 (.slice none 0 0)).set_box 0 rfl 2 (.slice none 0 0))
              refine bodyPost_ret (results_ct rfl _ _ g2 28 #[.slice none 0 0, .slice none 0 0, .slice none 0 0] (0, 0) _ rfl (HSF.out.box 0 rfl) Tryz.underlying28 rfl (by kernel_rfl)) rfl ?_
              rw [HE.out]
              exact ⟨_, _, _, rfl, PV.nil _ _ _, PV.nil _ _ _, PV.nil _ _ _, HSF.out.below⟩
            case inl =>
              have st1 := (HS.out.ro 7 rfl).str (P := Tryz.prog) Tryz.underlying24 Tryz.underlying5 Tryz.underlying9
              have st2 := (HS.out.arg H1.out).str (P := Tryz.prog) Tryz.underlying24 Tryz.underlying5 Tryz.underlying9
              have HI := aM (strOfNums_inj (a := eb) (b := b) HEU.out HU.out)
              generalize strOfNums eb = sa at *
              generalize strOfNums b = sb at *
              rcases Decidable.em (eb = b) with hc | hc
              case inr =>
                have hs : ¬ sa = sb := fun h => hc (HI.out.1 h)
                have hs2 : ¬ sa.toList = sb.toList := fun h => hs (ByteArray.ext (by rw [ByteArray.toList_eq, ByteArray.toList_eq] at h; exact Array.ext' h))
                have e1 : decide (sa.toList = sb.toList) = false := dF hs2
                have e2 : (sa.toList == sb.toList) = false := bF hs2
                have HE := aM (show r = noTable by rw [HE2.out, if_neg (fun h => hc h.2.2)])
                clear HE2 hc HI
                go_upto_if 112 with fail
                clear y2 st1 st2
                clear hs hs2 e1 e2
                have x0 := (HS.out.box 0 rfl).cell 0 rfl
                have f0 := (HS.out.box 0 rfl).open_ 0
                have x1 := (HS.out.box 0 rfl).cell 1 rfl
                have f1 := (HS.out.box 0 rfl).open_ 1
                have x2 := (HS.out.box 0 rfl).cell 2 rfl
                have f2 := (HS.out.box 0 rfl).open_ 2
                go_wp2_with fail
                have HSF := aM (((HS.out.set_box 0 rfl 0 (.slice none 0 0)).set_box 0 rfl 1 (.slice none 0 0)).set_box 0 rfl 2 (.slice none 0 0))
                refine bodyPost_ret (results_ct rfl _ _ g2 28 #[.slice none 0 0, .slice none 0 0, .slice none 0 0] (0, 0) _ rfl (HSF.out.box 0 rfl) Tryz.underlying28 rfl (by kernel_rfl)) rfl ?_
                rw [HE.out]
                exact ⟨_, _, _, rfl, PV.nil _ _ _, PV.nil _ _ _, PV.nil _ _ _, HSF.out.below⟩
              case inl =>
                have hs : sa = sb := HI.out.2 hc
                have HE := aM (show r = ((C, N, T), 0) by rw [HE2.out, if_pos ⟨rfl, rfl, hc⟩])
                clear HE2 HI hc
                subst hs
                go_upto_if 112 with fail
                clear y2 st1 st2
                skip
                have x0 := (HS.out.box 0 rfl).cell 0 rfl
                have f0 := (HS.out.box 0 rfl).open_ 0
                have x1 := (HS.out.box 0 rfl).cell 1 rfl
                have f1 := (HS.out.box 0 rfl).open_ 1
                have x2 := (HS.out.box 0 rfl).cell 2 rfl
                have f2 := (HS.out.box 0 rfl).open_ 2
                have z0 := (HS.out.box 2 rfl).cell 0 rfl
                have z1 := (HS.out.box 2 rfl).cell 1 rfl
                have z2 := (HS.out.box 2 rfl).cell 2 rfl
                go_wp2_with fail
                have HSF := aM (((HS.out.set_box 0 rfl 0 (.slice A5 C.length c5)).set_box 0 rfl 1 (.slice A6 N.length c6)).set_box 0 rfl 2 (.slice A7 T.length c7))
                refine bodyPost_ret (results_ct rfl _ _ g2 28 #[.slice A5 C.length c5, .slice A6 N.length c6, .slice A7 T.length c7] (0, 0) _ rfl (HSF.out.box 0 rfl) Tryz.underlying28 rfl (by kernel_rfl)) rfl ?_
                rw [HE.out]
                exact ⟨_, _, _, rfl, HSF.out.res 4 rfl, HSF.out.res 5 rfl, HSF.out.res 6 rfl, HSF.out.below⟩
end Go.Proofs.YtplhfgobeicegaaGreatDoor.P
namespace Go.Proofs.YtplhfgobeicegaaGreatDoor.P
open Go Go.RowKit Go.Proofs.YtplhfgobeicegaaGreatDoorW.PrintWords Go.Proofs.YtplhfgobeicegaaGreatDoor.PX
set_option linter.unusedVariables false
set_option linter.unusedSimpArgs false
theorem top_at {l : List Int} (h : ∀ t ∈ l, t ≤ 3) (i : Nat) : l.getD i 0 ≤ 3 := by
 rcases Nat.lt_or_ge i l.length with c | c
 ·exact h _ (mem_getD l 0 _ c)
 ·rw [List.getD_eq_getElem?_getD, List.getElem?_eq_none c]; decide
theorem least_top (parts : List (List Sp)) (next : List (List Int)) (tags : List Int) (h : ∀ t ∈ tags, t ≤ 3) : ∀ t ∈ (leastL parts next tags).tags, t ≤ 3 := by
 unfold leastL leastD leastC leastB
 intro t ht
 obtain ⟨s, _, rfl⟩ := List.mem_map.1 ht
 exact top_at h s.toNat
theorem raw_top (next : List (List Int)) (tags : List Int) (rows : List (List (List Rg))) (h : ∀ t ∈ tags, t ≤ 3) : ∀ (f i : Nat) (s : RawSt), (∀ t ∈ s.tags, t ≤ 3) → ∀ t ∈ (rawGo next tags rows f i s).tags, t ≤ 3
 | 0, i, s, hs => hs
 | f + 1, i, s, hs => by
  rw [rawGo]
  split
  ·refine raw_top next tags rows h f (i + 1) _ (fun t ht => ?_)
   unfold rawStep at ht
   rcases List.mem_append.1 ht with ht | ht
   ·exact hs t ht
   ·obtain rfl := List.mem_singleton.1 ht
    split
    ·exact top_at h _
    ·decide
  ·exact hs
theorem of13_top (B : Nat) (parts : List (List Sp)) (next : List (List Int)) (tags : List Int) (h : ∀ t ∈ tags, t ≤ 3) : ∀ t ∈ (of13 B parts next tags).1.2, t ≤ 3 := by
 unfold of13
 split
 ·split
  ·intro t ht; cases ht
  ·unfold least13 dfa13
   refine least_top _ _ _ ?_
   unfold raw13 rawL
   exact raw_top _ _ _ (least_top parts next tags h) B 0 _ (fun t ht => by cases ht)
 ·intro t ht; cases ht
theorem tag_top (tags : List Int) (i : Nat) : tag11 tags i ≤ 3 := by
 unfold tag11 mx
 split
 ·have := Int.tmod_lt_of_pos (tags.getD i 0) (b := 4) (by decide)
  (repeat' split) <;> omega
 ·decide
theorem b14_top (c : List (List Int)) (k : Int) (next tags : List Int) : ∀ t ∈ (b14 c k next tags).2, t ≤ 3 := by
 unfold b14
 split
 ·refine of13_top _ _ _ _ (fun t ht => ?_)
  have ht' : t ∈ (List.range (1 + k % 9).toNat).map (tag11 tags) := ht
  obtain ⟨i, _, rfl⟩ := List.mem_map.1 ht'
  exact tag_top tags i
 ·exact of13_top _ _ _ _ (fun t ht => by obtain rfl := List.mem_singleton.1 ht; decide)
theorem t15_ok (c : List (List Int)) (k : Int) (next tags : List Int) (hk : 0 ≤ k ∧ k < 256) : U8s (t15 c k next tags).1 ∧ TSound (t15 c k next tags).1 (t15 c k next tags).2.1 (t15 c k next tags).2.2 ∧ EncOk (t15 c k next tags).1 (t15 c k next tags).2.1 (t15 c k next tags).2.2 := by
 have hb := b14_sound c k next tags hk
 have ht := b14_top c k next tags
 unfold t15
 generalize b14 c k next tags = b at *
 unfold of14
 rw [if_pos hb]
 dsimp only
 have h1 := tsound_of hb
 have h2 := hb.1.1
 refine ⟨classes_u8 _, h1, h1, ?_⟩
 exact (maxF_le b.2 65534 h2).2 (fun x hx => by have := ht x hx; omega)
end Go.Proofs.YtplhfgobeicegaaGreatDoor.P
