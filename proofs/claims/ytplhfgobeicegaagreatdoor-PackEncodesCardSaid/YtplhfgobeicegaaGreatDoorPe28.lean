/- Part 28 of the proof: V13, S14g, V15, V16, VB, V20, T08a. -/
import Derived.Lib.SliceRun
import Derived.WalkMore
import Derived.Test.YtplhfgobeicegaaGreatDoorPe27
namespace Go.Proofs.YtplhfgobeicegaaGreatDoor.P
open Go Go.RowKit Go.Proofs.YtplhfgobeicegaaGreatDoorW.PrintWords Go.Proofs.YtplhfgobeicegaaGreatDoorW.PrintLast Go.Proofs.YtplhfgobeicegaaGreatDoorW.PrintMore Go.Proofs.YtplhfgobeicegaaGreatDoor.PX
set_option linter.unusedVariables false
set_option linter.unusedSimpArgs false
set_option maxRecDepth 100000
set_option maxHeartbeats 32000000 in
theorem decode_calls (X : Nat → Prop) (vb : Value) (b : List Int) (w : World) (hX : ∀ k, X k → k < w.heap.size) (hb : PV kU8 X w vb b) (hu : U8s b) :
  Calls Tryz.prog 9 #[vb] w fun e w' => ∃ v0 v1 v2, e = .returned (.tuple #[.agg #[v0, v1, v2], .int .u16 (decF b).2]) ∧ PV kU8 X w' v0 (decF b).1.1 ∧ PV kRow X w' v1 (decF b).1.2.1 ∧ PV kInt X w' v2 (decF b).1.2.2 ∧ Below w.heap.size w w' := by
 have H1 := aM hb
 have HU := aM hu
 have m1 := hb.max
 have HMU := aM (show U8s [71, 67, 1] from fun c hc => by
  simp only [List.mem_cons, List.not_mem_nil, or_false] at hc
  rcases hc with rfl | rfl | rfl <;> omega)
 obtain ⟨A1, c1, rfl, _, _⟩ := hb.now
 have HS := aM ((Sep.start hX).push_box [.slice none 0 0, .slice none 0 0, .slice none 0 0] 28)
 obtain ⟨r, hr⟩ : ∃ r, r = decF b := ⟨_, rfl⟩
 rw [← hr]
 have HR := aM hr
 clear hb hX hr hu
 go_enter Tryz.func9, Tryz.ntmps9
 go_wp2_with fail
 apply wp_scope_straight
 rcases Nat.lt_or_ge b.length 9 with hl | hl
 case inl =>
  have d1 : decide ((b.length : Int) < 9) = true := dT (by omega)
  have d2 : decide (b.length < 9) = true := dT hl
  have HE := aM (show r = noTable by rw [HR.out, decF, if_neg (fun h => by have := h.1; omega)])
  go_upto_if 20 with fail
  obtain ⟨g2, hg2⟩ : ∃ g, g = w.heap.size := ⟨_, rfl⟩
  rw [← hg2] at HS ⊢
  clear hg2
  have x0 := (HS.out.box 0 rfl).cell 0 rfl
  have x1 := (HS.out.box 0 rfl).cell 1 rfl
  have x2 := (HS.out.box 0 rfl).cell 2 rfl
  have f0 := (HS.out.box 0 rfl).open_ 0
  have f1 := (HS.out.box 0 rfl).open_ 1
  have f2 := (HS.out.box 0 rfl).open_ 2
  go_wp2_with fail
  have HSF := aM (((HS.out.set_box 0 rfl 0 (.slice none 0 0)).set_box 0 rfl 1 (.slice none 0 0)).set_box 0 rfl 2 (.slice none 0 0))
  rw [Exit.noGoto_ret]
  refine bodyPost_ret (results_ct rfl _ _ g2 28 #[.slice none 0 0, .slice none 0 0, .slice none 0 0] (0, 0) _ rfl (HSF.out.box 0 rfl) Tryz.underlying28 rfl (by kernel_rfl)) rfl ?_
  rw [HE.out]
  exact ⟨_, _, _, rfl, PV.nil _ _ _, PV.nil _ _ _, PV.nil _ _ _, HSF.out.below⟩
 case inr =>
  have d1 : decide ((b.length : Int) < 9) = false := dF (by omega)
  have d2 : decide (b.length < 9) = false := dF (by omega)
  have HL9 := aM hl
  obtain ⟨q, hq⟩ : ∃ q, q = hasPre b [71, 67, 1] := ⟨_, rfl⟩
  have HQ := aM hq.symm
  clear hq hl
  go_upto_if 20 with (first
   | (go_at_call 18; (refine (magic_calls X w _ _ HS.out).mono ?_); rintro ee w5 ⟨v5, rfl, hs⟩; clear HS; have HS := aM hs; clear hs)
   | (go_at_call 27; (refine (hasPre_calls X _ _ b [71, 67, 1] _ ((HS.out.arg H1.out).to (fun k _ hk => .inl hk)) (HS.out.res_row 1 rfl) HU.out HMU.out).mono ?_); rintro ee w6 ⟨rfl, rfl⟩; rw [HQ.out]))
  obtain ⟨g2, hg2⟩ : ∃ g, g = w.heap.size := ⟨_, rfl⟩
  rw [← hg2] at HS ⊢
  clear hg2
  have hs := HS.out.take 1
  clear HS
  have HS := aM hs
  clear hs d1 d2
  cases q
  case false =>
   have HE := aM (show r = noTable by rw [HR.out, decF, if_neg (fun h => by have h2 := h.2; rw [HQ.out] at h2; cases h2)])
   have x0 := (HS.out.box 0 rfl).cell 0 rfl
   have x1 := (HS.out.box 0 rfl).cell 1 rfl
   have x2 := (HS.out.box 0 rfl).cell 2 rfl
   have f0 := (HS.out.box 0 rfl).open_ 0
   have f1 := (HS.out.box 0 rfl).open_ 1
   have f2 := (HS.out.box 0 rfl).open_ 2
   go_wp2_with fail
   have HSF := aM (((HS.out.set_box 0 rfl 0 (.slice none 0 0)).set_box 0 rfl 1 (.slice none 0 0)).set_box 0 rfl 2 (.slice none 0 0))
   rw [Exit.noGoto_ret]
   refine bodyPost_ret (results_ct rfl _ _ g2 28 #[.slice none 0 0, .slice none 0 0, .slice none 0 0] (0, 0) _ rfl (HSF.out.box 0 rfl) Tryz.underlying28 rfl (by kernel_rfl)) rfl ?_
   rw [HE.out]
   exact ⟨_, _, _, rfl, PV.nil _ _ _, PV.nil _ _ _, PV.nil _ _ _, HSF.out.below⟩
  case true =>
   have HR2 := aM (show r = decMid b (twoR (startR b)).1.toNat (rowR oneR 256 256 [] (twoR (startR b)).2) by rw [HR.out, decF, if_pos ⟨HL9.out, HQ.out⟩])
   clear HR HQ
   obtain ⟨n4, hn4⟩ : ∃ n, n = b.length - 4 := ⟨_, rfl⟩
   obtain ⟨j0, hj0, _, hjz0, _⟩ := info_parts info5
   obtain ⟨u9, hu9, hrun0⟩ := H1.out.mid (P := Tryz.prog) 24 5 Tryz.underlying24 hj0 hjz0 3 n4 (by have := HL9.out; omega) (by omega)
   have hrun9 : ∀ W : World, (Instr.slice 24 (.slice A1 b.length c1) (some (.int .i64 3)) (some (.int .i64 ((b.length : Int) - 4))) none).run Tryz.prog W = .ok u9 W := by rw [show (b.length : Int) - 4 = (n4 : Int) by have := HL9.out; omega]; exact hrun0
   obtain ⟨sb, hsb⟩ : ∃ l, l = (b.take n4).drop 3 := ⟨_, rfl⟩
   have hsr : startR b = ⟨sb, false⟩ := by rw [hsb, hn4]; rfl
   have HSU := aM (show U8s sb by have h := startR_u8 HU.out; rw [hsr] at h; exact h)
   rw [← hsb] at hu9
   have HR3 := aM (show r = decMid b (twoR ⟨sb, false⟩).1.toNat (rowR oneR 256 256 [] (twoR ⟨sb, false⟩).2) by rw [← hsr]; exact HR2.out)
   obtain ⟨A9, c9, rfl, _, _⟩ := hu9.now
   have HU9 := aM hu9
   clear hu9 hj0 hjz0 hrun0 hsr hn4 hsb HR2
   go_upto_region 4 with (first
    | (go_at_call 18; (refine (magic_calls X w _ _ HS.out).mono ?_); rintro ee w7 ⟨v7, rfl, hs⟩; obtain ⟨A7, c7, e7⟩ := hs.form 1 rfl; subst e7; clear HS; have HS := aM (show Sep X w w7 [.box g2 28 [.slice none 0 0, .slice none 0 0, .slice none 0 0]] from hs.take 1); clear hs))
   have hs := (HS.out.push_box' [.slice A9 sb.length c9, .bool false] 62 w7.heap.size rfl).push_box' [.pointer (some ⟨w7.heap.size, 0, none⟩)] 60 (w7.heap.size + 1) (by simp)
   obtain ⟨gp, hgp⟩ : ∃ g, g = w7.heap.size + 1 := ⟨_, rfl⟩
   obtain ⟨gr, hgr⟩ : ∃ g, g = w7.heap.size := ⟨_, rfl⟩
   rw [← hgp, ← hgr] at hs ⊢
   obtain ⟨w8, hw8⟩ : ∃ x, x = (w7.alloc (.cells #[.slice A9 sb.length c9, .bool false] 62)).alloc (.cells #[.pointer (some ⟨gr, 0, none⟩)] 60) := ⟨_, rfl⟩
   change Sep X w ((w7.alloc (.cells #[.slice A9 sb.length c9, .bool false] 62)).alloc (.cells #[.pointer (some ⟨gr, 0, none⟩)] 60)) _ at hs
   rw [← hw8] at hs ⊢
   clear hgp hgr hw8 hrun9 HS
   have HS := aM hs
   clear hs
   obtain ⟨⟨m, r1⟩, hmr⟩ : ∃ p, p = twoR ⟨sb, false⟩ := ⟨_, rfl⟩
   have hin := twoR_in (r := ⟨sb, false⟩) HSU.out
   have hr1 : U8s r1.b := by have h : U8s (twoR ⟨sb, false⟩).2.b := (takeR_u8 2 (r := ⟨sb, false⟩) HSU.out).2; rw [← hmr] at h; exact h
   rw [← hmr] at hin
   dsimp only at hin
   obtain ⟨many, rfl⟩ : ∃ k : Nat, m = k := ⟨m.toNat, by omega⟩
   have HQ1 := aM hmr.symm
   have HR4 := aM (show r = decMid b many (rowR oneR 256 256 [] r1) by have h := HR3.out; rw [← hmr] at h; exact h)
   have HMANY := aM hin.2
   have HU1 := aM hr1
   clear hin hr1 hmr HR3
   have y2 := (HS.out.box 2 rfl).cell 0 rfl
   obtain ⟨⟨cl, r2⟩, hcr⟩ : ∃ p, p = rowR oneR 256 256 [] r1 := ⟨_, rfl⟩
   have hcu := rowR_u8 256 256 HU1.out
   have hcl := rowR_len oneR 256 256 [] r1 (by decide)
   rw [← hcr] at hcu hcl
   dsimp only at hcu hcl
   have HQ2 := aM hcr.symm
   have HR5 := aM (show r = decMid b many (cl, r2) by have h := HR4.out; rw [← hcr] at h; exact h)
   have HCU := aM hcu
   have HCL := aM hcl
   clear hcu hcl hcr HR4
   go_upto_region 5 with (first
    | (go_at_call 28; (refine (rtwo_calls X w _ _ 1 gr _ ⟨sb, false⟩ HS.out rfl HU9.out HSU.out).mono ?_); rintro ee w9 ⟨rfl, vb2, hb2, hs⟩; rw [HQ1.out] at hb2 hs ⊢; have HB2 := aM hb2; clear HS hb2 y2; have HS := aM (show Sep X w w9 [.box g2 28 [.slice none 0 0, .slice none 0 0, .slice none 0 0], .box gr 62 [vb2, .bool r1.short], .box gp 60 [.pointer (some ⟨gr, 0, none⟩)]] from hs); clear hs; have y2 := (HS.out.box 2 rfl).cell 0 rfl))
   clear y2
   go_upto_region 6 with fail
   have hs := HS.out.push_box [.slice none 0 0, .slice none 0 0, .slice none 0 0] 28
   obtain ⟨gt, hgt⟩ : ∃ g, g = w9.heap.size := ⟨_, rfl⟩
   rw [← hgt] at hs ⊢
   obtain ⟨wa, hwa⟩ : ∃ x, x = w9.alloc (.cells #[.slice none 0 0, .slice none 0 0, .slice none 0 0] 28) := ⟨_, rfl⟩
   change Sep X w (w9.alloc (.cells #[.slice none 0 0, .slice none 0 0, .slice none 0 0] 28)) _ at hs
   rw [← hwa] at hs ⊢
   clear hgt hwa HS
   have HS := aM hs
   clear hs
   have y2 := (HS.out.box 2 rfl).cell 0 rfl
   go_upto_block 0 with (first
    | (go_at_call 29; (refine (row1_calls X w _ _ 1 2 gr gp _ r1 256 HS.out (by decide) rfl rfl HB2.out HU1.out (by decide)).mono ?_); rintro ee wb ⟨v4, rfl, vb3, hb3, hs⟩; rw [HQ2.out] at hb3 hs; obtain ⟨A4, c4, e4⟩ := hs.form 4 rfl; subst e4; have HB3 := aM hb3; clear HS hb3 y2; have HS := aM (show Sep X w wb [.box g2 28 [.slice none 0 0, .slice none 0 0, .slice none 0 0], .box gr 62 [vb3, .bool r2.short], .box gp 60 [.pointer (some ⟨gr, 0, none⟩)], .box gt 28 [(.slice none 0 0), (.slice none 0 0), (.slice none 0 0)], .row kInt 3 (.slice A4 cl.length c4) cl] from hs); clear hs))
   go_cut [37] (fun v37 wc => ∃ vC, Aside0 (Sep X w wc [.box g2 28 [.slice none 0 0, .slice none 0 0, .slice none 0 0], .box gr 62 [vb3, .bool r2.short], .box gp 60 [.pointer (some ⟨gr, 0, none⟩)], .box gt 28 [vC, (.slice none 0 0), (.slice none 0 0)], .row kInt 3 (.slice A4 cl.length c4) cl, .row kU8 5 vC cl]))
   case first =>
    have hs := HS.out.push_nil kU8 5
    clear HS
    have HS := aM hs
    clear hs
    go_wp2_with fail
    go_loopg [37] cl.length (fun m v37 w' => ∃ (i : Nat) (C : List Int) (vC : Value), v37 = .int .i64 i ∧ Aside0 (i + m = cl.length) ∧ Aside0 (C = cl.take i) ∧ Aside0 (Sep X w w' [.box g2 28 [.slice none 0 0, .slice none 0 0, .slice none 0 0], .box gr 62 [vb3, .bool r2.short], .box gp 60 [.pointer (some ⟨gr, 0, none⟩)], .box gt 28 [vC, (.slice none 0 0), (.slice none 0 0)], .row kInt 3 (.slice A4 cl.length c4) cl, .row kU8 5 vC C]))
    case atStart => exact ⟨0, [], _, rfl, ⟨by omega⟩, ⟨rfl⟩, HS⟩
    case round =>
     clear HS
     obtain ⟨i, C, vC, rfl, HJ, HC, HS⟩ := hrel
     obtain ⟨A5, c5, e5⟩ := HS.out.form 5 rfl
     subst e5
     cases gk with
     | zero =>
      have hi : i = cl.length := by have := HJ.out; omega
      have e1 : decide ((i : Int) < (cl.length : Int)) = false := dF (by omega)
      have e2 : decide (i < cl.length) = false := dF (by omega)
      have hc : C = cl := by rw [HC.out, hi, List.take_length]
      clear HC HJ hi
      subst hc
      go_wp2_with fail
      go_meet
      case rel => exact ⟨_, HS⟩
     | succ k1 =>
      have hi : i < cl.length := by have := HJ.out; omega
      have e1 : decide ((i : Int) < (cl.length : Int)) = true := dT (by omega)
      have e2 : decide (i < cl.length) = true := dT hi
      have hi0 : (0 : Int) ≤ (i : Int) := by omega
      have hi1 : (i : Int) < (cl.length : Int) := by omega
      obtain ⟨p, hp, hp1⟩ := u8s_at HCU.out.1 i hi
      obtain ⟨ga, ca, ea, ya, _, _⟩ := HS.out.int 4 rfl i hi
      cases ea
      rw [hp] at ya
      have HC2 := aM (show C ++ [(p : Int)] = cl.take (i + 1) by rw [take_at cl 0 i hi, HC.out, hp])
      have hq8 : IntKind.u8.wrap (p : Int) = (p : Int) := by rw [IntKind.wrap_u8']; omega
      have hcl9 := HCL.out
      have HCL2 := aM (show C.length + 1 ≤ 1000 by rw [HC.out, List.length_take]; have := HCL.out; omega)
      have y3 := (HS.out.box 3 rfl).cell 0 rfl
      clear HC hp
      go_wp2_with (first
       | ((with_reducible refine gate_dst (N := 45) rfl ?_); refine slit kU8 5 ?hg (N := 45) ?hd (xs := [(p : Int)]) (inner := [.int .u8 (p : Int)]) ?hr HS.out ?hp (by simp) ?_; (case hd => rfl); (case hg => rfl); (case hr => first | (go_simp; done) | (go_simp; rfl)); (case hp => exact Reps.one (PK.scalar _) (Reps.none _ _)); clear HS; intro v32 w32 hs; have HS := aM hs; clear hs)
       | ((with_reducible refine gate_builtin (b := .append) (xs := #[.tmp 42, .tmp 45]) rfl ?_); at_builtin; refine sgrow kU8 5 rfl (.tmp 42) (.tmp 45) 24 5 (.int .u8 0) 1 rfl Tryz.underlying24 info5 rfl (by decide) (by omega) _ _ C [(p : Int)] rfl rfl HS.out rfl (HS.out.ro 6 rfl) (by have := HCL2.out; rw [lS]; omega) ?_; clear HS; intro v33 w33 hs; obtain ⟨C1, hC1⟩ : ∃ q, q = C ++ [(p : Int)] := ⟨_, rfl⟩; rw [← hC1] at hs; have HZC1 := aM hC1; clear hC1; obtain ⟨Az, cz, ez⟩ := hs.form 5 rfl; subst ez; have hs := hs.take 6; have fz := (hs.box 3 rfl).open_ 0; have yz := (hs.box 3 rfl).cell 0 rfl; have HS := aM hs; clear hs))
      have hs := HS.out.set_box 3 rfl 0 (.slice Az C1.length cz)
      clear HS
      have HS := aM hs
      go_roundg k1
      case measure => omega
      case rel => exact ⟨i + 1, C1, _, by go_num, ⟨by have := HJ.out; omega⟩, ⟨by rw [HZC1.out]; exact HC2.out⟩, HS⟩
   case rest =>
    clear HS
    obtain ⟨vC, HS⟩ := hcut
    obtain ⟨A5, c5, e5⟩ := HS.out.form 5 rfl
    subst e5
    have y3 := (HS.out.box 3 rfl).cell 0 rfl
    rcases Nat.eq_zero_or_pos cl.length with hz | hz
    case inl =>
     have e1 : ((cl.length : Int) == 0) = true := by rw [hz]; rfl
     have HE := aM (show r = noTable by rw [HR5.out, decMid, if_pos hz])
     clear HR5 hz
     go_upto_if 52 with fail
     clear y3
     have x0 := (HS.out.box 0 rfl).cell 0 rfl
     have x1 := (HS.out.box 0 rfl).cell 1 rfl
     have x2 := (HS.out.box 0 rfl).cell 2 rfl
     have f0 := (HS.out.box 0 rfl).open_ 0
     have f1 := (HS.out.box 0 rfl).open_ 1
     have f2 := (HS.out.box 0 rfl).open_ 2
     go_wp2_with fail
     have HSF := aM (((HS.out.set_box 0 rfl 0 (.slice none 0 0)).set_box 0 rfl 1 (.slice none 0 0)).set_box 0 rfl 2 (.slice none 0 0))
     rw [Exit.noGoto_ret]
     refine bodyPost_ret (results_ct rfl _ _ g2 28 #[.slice none 0 0, .slice none 0 0, .slice none 0 0] (0, 0) _ rfl (HSF.out.box 0 rfl) Tryz.underlying28 rfl (by kernel_rfl)) rfl ?_
     rw [HE.out]
     exact ⟨_, _, _, rfl, PV.nil _ _ _, PV.nil _ _ _, PV.nil _ _ _, HSF.out.below⟩
    case inr =>
     have e1 : ((cl.length : Int) == 0) = false := bF (by omega)
     obtain ⟨mx, hmx⟩ : ∃ n : Nat, maxF cl = (n : Int) := ⟨(maxF cl).toNat, by have := maxF_in HCU.out.1 hz; omega⟩
     have hmx1 : mx < 256 := by have := maxF_in HCU.out.1 hz; omega
     obtain ⟨k, hk⟩ : ∃ k, k = mx + 1 := ⟨_, rfl⟩
     have HK := aM (show k ≤ 256 by omega)
     have HMX := aM hmx
     have HZ := aM hz
     obtain ⟨st, hst⟩ : ∃ s, s = statesR k many [] [] r2 := ⟨_, rfl⟩
     have HE := aM (show r = decEnd b cl st by rw [HR5.out, decMid, if_neg (show ¬ cl.length = 0 by omega)]; dsimp only; rw [hmx, Int.toNat_natCast, ← hk, hst])
     have HST := aM hst.symm
     clear HR5 hz hmx hst
     go_upto_block 2 with (first
      | (go_at_call 32; (refine (maxB_calls X _ cl _ (HS.out.res_row 5 rfl) HZ.out).mono ?_); rintro ee w6 ⟨rfl, rfl⟩; rw [HMX.out]))
     rw [show (mx : Int) + 1 = (k : Int) by omega]
     clear hk hmx1 e1 y3
     apply wp_label
     go_upto_block 2 with fail
     go_cut [60] (fun v60 wc => ∃ (N : List (List Int)) (T : List Int) (r3 : Rd) (vb4 vN vT : Value), Aside0 ((N, T, r3) = st) ∧ Aside0 (Sep X w wc [.box g2 28 [.slice none 0 0, .slice none 0 0, .slice none 0 0], .box gr 62 [vb4, .bool r3.short], .box gp 60 [.pointer (some ⟨gr, 0, none⟩)], .box gt 28 [(.slice A5 cl.length c5), vN, vT], .row kInt 3 (.slice A4 cl.length c4) cl, .row kU8 5 (.slice A5 cl.length c5) cl, .row kRow 26 vN N, .row kInt 3 vT T]))
     case first =>
      have hs := (HS.out.push_nil kRow 26).push_nil kInt 3
      have hr2 := HCU.out.2
      have hmany := HMANY.out
      clear HS
      have HS := aM hs
      clear hs
      have HR2 := aM hr2
      clear hr2
      go_wp2_with fail
      go_loopg [60] many (fun m v60 w' => ∃ (i : Nat) (N : List (List Int)) (T : List Int) (r3 : Rd) (vb4 vN vT : Value), v60 = .int .i64 i ∧ Aside0 (i + m = many) ∧ Aside0 (T.length = i ∧ N.length = i) ∧ Aside0 (U8s r3.b) ∧ Aside0 (PV kU8 X w vb4 r3.b) ∧ Aside0 (statesR k m N T r3 = st) ∧ Aside0 (Sep X w w' [.box g2 28 [.slice none 0 0, .slice none 0 0, .slice none 0 0], .box gr 62 [vb4, .bool r3.short], .box gp 60 [.pointer (some ⟨gr, 0, none⟩)], .box gt 28 [(.slice A5 cl.length c5), vN, vT], .row kInt 3 (.slice A4 cl.length c4) cl, .row kU8 5 (.slice A5 cl.length c5) cl, .row kRow 26 vN N, .row kInt 3 vT T]))
      case atStart => exact ⟨0, [], [], r2, _, _, _, rfl, ⟨by omega⟩, ⟨rfl, rfl⟩, HR2, HB3, HST, HS⟩
      case round =>
       clear HS HST HR2
       obtain ⟨i, N, T, r3, vb4, vN, vT, rfl, HJ, HNT, HU3, HB4, HST, HS⟩ := hrel
       obtain ⟨A6, c6, e6⟩ := HS.out.form 6 rfl
       subst e6
       obtain ⟨A7', c7', e7⟩ := HS.out.form 7 rfl
       subst e7
       cases gk with
       | zero =>
        have hi : i = many := by have := HJ.out; omega
        have e1 : decide ((i : Int) < (many : Int)) = false := dF (by omega)
        have e2 : decide (i < many) = false := dF (by omega)
        have HX := aM (show (N, T, r3) = st from HST.out)
        clear HST HJ hi
        go_wp2_with fail
        go_meet
        case rel => exact ⟨N, T, r3, _, _, _, HX, HS⟩
       | succ k1 =>
        have hi : i < many := by have := HJ.out; omega
        have e1 : decide ((i : Int) < (many : Int)) = true := dT (by omega)
        have e2 : decide (i < many) = true := dT hi
        obtain ⟨⟨y, ra⟩, hya⟩ : ∃ p, p = twoR r3 := ⟨_, rfl⟩
        have hyin := twoR_in HU3.out
        have hua : U8s ra.b := by have h : U8s (twoR r3).2.b := (takeR_u8 2 HU3.out).2; rw [← hya] at h; exact h
        rw [← hya] at hyin
        dsimp only at hyin
        have HQA := aM hya.symm
        have HUA := aM hua
        obtain ⟨⟨rw, rb⟩, hrb⟩ : ∃ p, p = rowR twoM k k [] ra := ⟨_, rfl⟩
        have hub := rowR_i k k HUA.out
        rw [← hrb] at hub
        dsimp only at hub
        have HQB := aM hrb.symm
        have HUB := aM hub
        have HST2 := HST.out
        rw [statesR, show twoM r3 = (y - 1, ra) by unfold twoM; rw [← hya]] at HST2
        dsimp only at HST2
        rw [← hrb] at HST2
        have HST3 := aM HST2
        clear HST HST2 hua hub hrb hya
        obtain ⟨z, hz⟩ : ∃ z, z = y - 1 := ⟨_, rfl⟩
        rw [← hz] at HST3
        have hz1 : y - 1 = z := hz.symm
        have hz2 : wrap64 z = z := IntWalk.wrap64_in _ (by omega)
        have HTL := aM (show T.length + 1 ≤ 100000 by have := HNT.out; have := HMANY.out; omega)
        have HNL := aM (show N.length + 1 ≤ 100000 by have := HNT.out; have := HMANY.out; omega)
        clear hz
        go_upto_region 16 with fail
        clear e1 e2
        have hs := HS.out.drew
        clear HS; have HS := aM hs; clear hs
        refine start_ (n := 9) (S := fun w' => w'.cell? ⟨gt, 2, none⟩ = some (.slice A7' T.length c7') ∧ w'.cell? ⟨gp, 0, none⟩ = some (.pointer (some ⟨gr, 0, none⟩))) (ds := [6, 8]) #[false, false, false, false, false, false, false, false, false] (by kernel_rfl) rfl rfl ⟨((HS.out.box 3 rfl).cell 2 rfl), ((HS.out.box 2 rfl).cell 0 rfl)⟩ (fun hHeld => ?_)
        refine pure_ (i := 0) (N := some 62) (v := ?_) (a' := ?_) (bv 9 1) rfl rfl (by kernel_rfl) (fun _ _ _ h => h) (Or.inl ⟨by rfl, ?_⟩) ?_ ?_
        rotate_left
        ·intro w'
         go_simp
         with_reducible rfl
        rotate_left
        ·simp only [Act.put, qA, qB, qC, i64_w, i32_w]
         rfl
        refine take_ (i := 1) (N := some 63) (v := ?_) (a' := ?_) (bv 9 3) rfl rfl (by kernel_rfl) (fun _ _ _ h => h) (Or.inl ⟨by rfl, ?_⟩) hHeld ?_ ?_
        rotate_left
        ·rintro w' ⟨s0, s1⟩
         go_simp
         with_reducible rfl
        rotate_left
        ·simp only [Act.put, qA, qB, qC, i64_w, i32_w]
         rfl
        refine take_ (i := 2) (N := some 64) (v := ?_) (a' := ?_) (bv 9 7) rfl rfl (by kernel_rfl) (fun _ _ _ h => h) (Or.inl ⟨by rfl, ?_⟩) hHeld ?_ ?_
        rotate_left
        ·rintro w' ⟨s0, s1⟩
         go_simp
         with_reducible rfl
        rotate_left
        ·simp only [Act.put, qA, qB, qC, i64_w, i32_w]
         rfl
        refine one_ (i := 3) (N := some 65) (bv 9 15) rfl rfl (by kernel_rfl) (by decide) (fun K hK => ?_)
        refine goes_ Tryz.func28 (by kernel_rfl) rfl #[.pointer (some ⟨gr, 0, none⟩)] (by rfl) rfl rfl (by simp only [List.map_toArray, List.map_cons, List.map_nil]; rfl) ?_
        with_reducible refine (rtwo_calls X w _ _ 1 gr _ r3 HS.out rfl HB4.out HU3.out).mono ?_
        rintro e wx ⟨rfl, vb5, hb5, hs⟩
        refine ⟨_, rfl, ?_⟩
        rw [HQA.out] at hb5 hs ⊢
        have HB5 := aM hb5
        clear hb5
        have hs : Sep X w wx [.box g2 28 [.slice none 0 0, .slice none 0 0, .slice none 0 0], .box gr 62 [vb5, .bool ra.short], .box gp 60 [.pointer (some ⟨gr, 0, none⟩)], .box gt 28 [(.slice A5 cl.length c5), (.slice A6 N.length c6), (.slice A7' T.length c7')], .row kInt 3 (.slice A4 cl.length c4) cl, .row kU8 5 (.slice A5 cl.length c5) cl, .row kRow 26 (.slice A6 N.length c6) N, .row kInt 3 (.slice A7' T.length c7') T] := hs
        clear HS; have HS := aM hs; clear hs
        refine hK.out _ _ ⟨((HS.out.box 3 rfl).cell 2 rfl), ((HS.out.box 2 rfl).cell 0 rfl)⟩ (fun hHeld => ?_)
        clear hK K
        refine norm_ (a' := ?_) ?_ ?_
        rotate_left
        ·show Act.put _ (some 65) _ = _
         simp only [Act.put, qA, qB, qC, i64_w, i32_w]
         rfl
        refine pure_ (i := 4) (N := some 66) (v := ?_) (a' := ?_) (bv 9 31) rfl rfl (by kernel_rfl) (fun _ _ _ h => h) (Or.inl ⟨by rfl, ?_⟩) ?_ ?_
        rotate_left
        ·intro w'
         go_simp
         with_reducible rfl
        rotate_left
        ·simp only [Act.put, qA, qB, qC, i64_w, i32_w]
         rfl
        refine one_ (i := 5) (N := some 67) (bv 9 63) rfl rfl (by kernel_rfl) (by decide) (fun K hK => ?_)
        refine value_ (w1 := ?_) (v := ?_) (by rfl) rfl ?_ ?_
        rotate_left 2
        ·go_simp
         constructor
         ·rfl
         ·rfl
        have hs := HS.out.lit_ro kInt 3 (xs := [z]) (inner := [.int .i64 z]) (Reps.one (PK.scalar _) (Reps.none _ _)) (by simp)
        clear HS; have HS := aM hs; clear hs
        refine hK.out _ _ ⟨((HS.out.box 3 rfl).cell 2 rfl), ((HS.out.box 2 rfl).cell 0 rfl)⟩ (fun hHeld => ?_)
        clear hK K
        refine norm_ (a' := ?_) ?_ ?_
        rotate_left
        ·show Act.put _ (some 67) _ = _
         simp only [Act.put, qA, qB, qC, i64_w, i32_w]
         rfl
        refine last_ (i := 6) (N := some 68) #[true, true, true, true, true, true, true, false, false] rfl rfl (by kernel_rfl) (by decide) (fun K hK => ?_)
        refine sgrow_step kInt 7 (by rfl) rfl (.tmp 63) (.tmp 67) 26 3 (.int .i64 0) 8 rfl Tryz.underlying26 info3' rfl (by decide) (by omega) _ (.slice (some ⟨_, 0, none⟩) [z].length [z].length) T [z] rfl rfl HS.out rfl (HS.out.ro 8 rfl) (by have := HTL.out; rw [lS]; omega) ?_
        intro v1 w1 hs
        obtain ⟨T1, hT1⟩ : ∃ q, q = T ++ [z] := ⟨_, rfl⟩
        rw [← hT1] at hs
        have HZT1 := aM hT1
        clear hT1
        obtain ⟨At, ct, et⟩ := hs.form 7 rfl
        subst et
        clear HS; have HS := aM hs; clear hs
        have hs := HS.out.take 8
        clear HS; have HS := aM hs; clear hs
        have fz := (HS.out.box 3 rfl).open_ 2
        have yz := (HS.out.box 3 rfl).cell 2 rfl
        refine hK.out _ _ ?_
        clear hK K
        refine norm_ (a' := ?_) ?_ ?_
        rotate_left
        ·show Act.put _ (some 68) _ = _
         simp only [Act.put, qA, qB, qC, i64_w, i32_w]
         rfl
        refine pure_ (i := 7) (N := some 69) (v := ?_) (a' := ?_) (bv 9 255) rfl rfl (by kernel_rfl) (fun _ _ _ h => h) (Or.inl ⟨by rfl, ?_⟩) ?_ ?_
        rotate_left
        ·intro w'
         go_simp
         with_reducible rfl
        rotate_left
        ·simp only [Act.put, qA, qB, qC, i64_w, i32_w]
         rfl
        refine last_ (i := 8) (N := none) #[true, true, true, true, true, true, true, true, true] rfl rfl (by kernel_rfl) (by decide) (fun K hK => ?_)
        refine skip_ (w1 := ?_) (by rfl) rfl ?_ ?_
        rotate_left
        ·go_simp
         rfl
        have hs := HS.out.set_box 3 rfl 2 (.slice At T1.length ct)
        clear HS; have HS := aM hs; clear hs
        refine hK.out _ _ ?_
        clear hK K
        refine done_ (by kernel_rfl) ?_
        clear hz1 hz2 hyin
        have hkb := HK.out
        go_upto_region 17 with fail
        have hs := HS.out.drew
        clear HS; have HS := aM hs; clear hs
        refine start_ (n := 10) (S := fun w' => w'.cell? ⟨gt, 1, none⟩ = some (.slice A6 N.length c6) ∧ w'.cell? ⟨gp, 0, none⟩ = some (.pointer (some ⟨gr, 0, none⟩))) (ds := [7, 9]) #[false, false, false, false, false, false, false, false, false, false] (by kernel_rfl) rfl rfl ⟨((HS.out.box 3 rfl).cell 1 rfl), ((HS.out.box 2 rfl).cell 0 rfl)⟩ (fun hHeld => ?_)
        refine pure_ (i := 0) (N := some 70) (v := ?_) (a' := ?_) (bv 10 1) rfl rfl (by kernel_rfl) (fun _ _ _ h => h) (Or.inl ⟨by rfl, ?_⟩) ?_ ?_
        rotate_left
        ·intro w'
         go_simp
         with_reducible rfl
        rotate_left
        ·simp only [Act.put, qA, qB, qC, i64_w, i32_w]
         rfl
        refine pure_ (i := 3) (N := some 73) (v := ?_) (a' := ?_) (bv 10 9) rfl rfl (by kernel_rfl) (fun _ _ _ h => h) (Or.inl ⟨by rfl, ?_⟩) ?_ ?_
        rotate_left
        ·intro w'
         go_simp
         with_reducible rfl
        rotate_left
        ·simp only [Act.put, qA, qB, qC, i64_w, i32_w]
         rfl
        refine pure_ (i := 4) (N := some 74) (v := ?_) (a' := ?_) (bv 10 25) rfl rfl (by kernel_rfl) (fun _ _ _ h => h) (Or.inl ⟨by rfl, ?_⟩) ?_ ?_
        rotate_left
        ·intro w'
         go_simp
         with_reducible rfl
        rotate_left
        ·simp only [Act.put, qA, qB, qC, i64_w, i32_w]
         rfl
        refine take_ (i := 1) (N := some 71) (v := ?_) (a' := ?_) (bv 10 27) rfl rfl (by kernel_rfl) (fun _ _ _ h => h) (Or.inl ⟨by rfl, ?_⟩) hHeld ?_ ?_
        rotate_left
        ·rintro w' ⟨s0, s1⟩
         go_simp
         with_reducible rfl
        rotate_left
        ·simp only [Act.put, qA, qB, qC, i64_w, i32_w]
         rfl
        refine take_ (i := 2) (N := some 72) (v := ?_) (a' := ?_) (bv 10 31) rfl rfl (by kernel_rfl) (fun _ _ _ h => h) (Or.inl ⟨by rfl, ?_⟩) hHeld ?_ ?_
        rotate_left
        ·rintro w' ⟨s0, s1⟩
         go_simp
         with_reducible rfl
        rotate_left
        ·simp only [Act.put, qA, qB, qC, i64_w, i32_w]
         rfl
        refine one_ (i := 5) (N := some 75) (bv 10 63) rfl rfl (by kernel_rfl) (by decide) (fun K hK => ?_)
        refine goes_ Tryz.func29 (by kernel_rfl) rfl #[.pointer (some ⟨gr, 0, none⟩), .int .i64 (k : Int), .func (.func 33) #[] #[.pointer (some ⟨gp, 0, none⟩)]] (by rfl) rfl rfl (by simp only [List.map_toArray, List.map_cons, List.map_nil]; rfl) ?_
        refine (row2_calls X w _ _ 1 2 gr gp _ ra k HS.out (by decide) rfl rfl HB5.out HUA.out (by omega)).mono ?_
        rintro e wy ⟨v9, rfl, vb6, hb6, hs⟩
        refine ⟨_, rfl, ?_⟩
        rw [HQB.out] at hb6 hs
        have HB6 := aM hb6
        clear hb6
        obtain ⟨Aw, cw, ew⟩ := hs.form 8 rfl
        subst ew
        have hs := hs.sealRo 8 rfl
        have hs : Sep X w wy [.box g2 28 [.slice none 0 0, .slice none 0 0, .slice none 0 0], .box gr 62 [vb6, .bool rb.short], .box gp 60 [.pointer (some ⟨gr, 0, none⟩)], .box gt 28 [(.slice A5 cl.length c5), (.slice A6 N.length c6), (.slice At T1.length ct)], .row kInt 3 (.slice A4 cl.length c4) cl, .row kU8 5 (.slice A5 cl.length c5) cl, .row kRow 26 (.slice A6 N.length c6) N, .row kInt 3 (.slice At T1.length ct) T1, .ro kInt (.slice Aw rw.length cw) rw] := hs
        clear HS; have HS := aM hs; clear hs
        refine hK.out _ _ ⟨((HS.out.box 3 rfl).cell 1 rfl), ((HS.out.box 2 rfl).cell 0 rfl)⟩ (fun hHeld => ?_)
        clear hK K
        refine norm_ (a' := ?_) ?_ ?_
        rotate_left
        ·show Act.put _ (some 75) _ = _
         simp only [Act.put, qA, qB, qC, i64_w, i32_w]
         rfl
        refine one_ (i := 6) (N := some 76) (bv 10 127) rfl rfl (by kernel_rfl) (by decide) (fun K hK => ?_)
        refine value_ (w1 := ?_) (v := ?_) (by rfl) rfl ?_ ?_
        rotate_left 2
        ·go_simp
         constructor
         ·rfl
         ·rfl
        have hs := HS.out.lit_ro kRow 26 (xs := [rw]) (inner := [.slice Aw rw.length cw]) (Reps.one (PK.slice (HS.out.ro 8 rfl)) (Reps.none _ _)) (by simp)
        clear HS; have HS := aM hs; clear hs
        refine hK.out _ _ ⟨((HS.out.box 3 rfl).cell 1 rfl), ((HS.out.box 2 rfl).cell 0 rfl)⟩ (fun hHeld => ?_)
        clear hK K
        refine norm_ (a' := ?_) ?_ ?_
        rotate_left
        ·show Act.put _ (some 76) _ = _
         simp only [Act.put, qA, qB, qC, i64_w, i32_w]
         rfl
        refine last_ (i := 7) (N := some 77) #[true, true, true, true, true, true, true, true, false, false] rfl rfl (by kernel_rfl) (by decide) (fun K hK => ?_)
        refine sgrow_step kRow 6 (by rfl) rfl (.tmp 71) (.tmp 76) 25 26 (.slice none 0 0) 24 rfl Tryz.underlying25 info26 rfl (by decide) (by omega) _ (.slice (some ⟨_, 0, none⟩) [rw].length [rw].length) N [rw] rfl rfl HS.out rfl (HS.out.ro 9 rfl) (by have := HNL.out; rw [lS]; omega) ?_
        intro v1 w1 hs
        obtain ⟨N1, hN1⟩ : ∃ q, q = N ++ [rw] := ⟨_, rfl⟩
        rw [← hN1] at hs
        have HZN1 := aM hN1
        clear hN1
        obtain ⟨An, cn, en⟩ := hs.form 6 rfl
        subst en
        clear HS; have HS := aM hs; clear hs
        have hs := HS.out.take 8
        clear HS; have HS := aM hs; clear hs
        have fz := (HS.out.box 3 rfl).open_ 1
        have yz := (HS.out.box 3 rfl).cell 1 rfl
        refine hK.out _ _ ?_
        clear hK K
        refine norm_ (a' := ?_) ?_ ?_
        rotate_left
        ·show Act.put _ (some 77) _ = _
         simp only [Act.put, qA, qB, qC, i64_w, i32_w]
         rfl
        refine pure_ (i := 8) (N := some 78) (v := ?_) (a' := ?_) (bv 10 511) rfl rfl (by kernel_rfl) (fun _ _ _ h => h) (Or.inl ⟨by rfl, ?_⟩) ?_ ?_
        rotate_left
        ·intro w'
         go_simp
         with_reducible rfl
        rotate_left
        ·simp only [Act.put, qA, qB, qC, i64_w, i32_w]
         rfl
        refine last_ (i := 9) (N := none) #[true, true, true, true, true, true, true, true, true, true] rfl rfl (by kernel_rfl) (by decide) (fun K hK => ?_)
        refine skip_ (w1 := ?_) (by rfl) rfl ?_ ?_
        rotate_left
        ·go_simp
         rfl
        have hs := HS.out.set_box 3 rfl 1 (.slice An N1.length cn)
        clear HS; have HS := aM hs; clear hs
        refine hK.out _ _ ?_
        clear hK K
        refine done_ (by kernel_rfl) ?_
        have y2 := (HS.out.box 2 rfl).cell 0 rfl
        have y4 := (HS.out.box 1 rfl).cell 1 rfl
        have HT1 := aM (show T1.length = i + 1 ∧ N1.length = i + 1 by rw [HZT1.out, HZN1.out, lA, lA, lS, lS]; have := HNT.out; omega)
        have HST4 := HST3.out
        rw [← HZT1.out, ← HZN1.out] at HST4
        clear HST3
        cases hsh : rb.short
        case true =>
         rw [hsh] at y4
         rw [if_pos hsh] at HST4
         have HX := aM HST4
         have HSH := aM hsh
         clear HST4 hsh
         go_wp2_with fail
         go_meet
         case rel => exact ⟨N1, T1, rb, _, _, _, HX, HS⟩
        case false =>
         rw [hsh] at y4
         rw [if_neg (by rw [hsh]; decide)] at HST4
         have HX := aM HST4
         clear HST4 hsh
         go_wp2_with fail
         go_roundg k1
         case measure => omega
         case rel => exact ⟨i + 1, N1, T1, rb, _, _, _, by go_num, ⟨by have := HJ.out; omega⟩, HT1, HUB, HB6, HX, HS⟩
     case rest =>
      clear HS HST
      obtain ⟨N, T, r3, vb4, vN, vT, HX, HS⟩ := hcut
      obtain ⟨A6, c6, e6⟩ := HS.out.form 6 rfl
      subst e6
      obtain ⟨A8, c8, e8⟩ := HS.out.form 7 rfl
      subst e8
      have hs := ((HS.out.sealRo 5 rfl).sealRo 6 rfl).sealRo 7 rfl
      clear HS
      have HS := aM (show Sep X w wc [.box g2 28 [.slice none 0 0, .slice none 0 0, .slice none 0 0], .box gr 62 [vb4, .bool r3.short], .box gp 60 [.pointer (some ⟨gr, 0, none⟩)], .box gt 28 [(.slice A5 cl.length c5), (.slice A6 N.length c6), (.slice A8 T.length c8)], .row kInt 3 (.slice A4 cl.length c4) cl, .ro kU8 (.slice A5 cl.length c5) cl, .ro kRow (.slice A6 N.length c6) N, .ro kInt (.slice A8 T.length c8) T] from hs)
      clear hs
      obtain ⟨⟨eb, ec⟩, hen⟩ : ∃ p, p = encR cl N T := ⟨_, rfl⟩
      have HEN := aM hen.symm
      have HEU := aM (show U8s eb by have h := encR_u8 HCU.out.1 N T; rw [← hen] at h; exact h)
      have hec : ec = 0 ∨ ec = 1 := by
       have h : ec = (encR cl N T).2 := by rw [← hen]
       rw [h]
       unfold encR
       split
       ·exact .inl rfl
       ·exact .inr rfl
      have HE2 := aM (show r = if r3.short = false ∧ ec = 0 ∧ eb = b then ((cl, N, T), 0) else noTable by rw [HE.out, ← HX.out]; unfold decEnd; dsimp only; rw [← hen])
      clear HE HX hen
      have z0 := (HS.out.box 3 rfl).cell 0 rfl
      have z1 := (HS.out.box 3 rfl).cell 1 rfl
      have z2 := (HS.out.box 3 rfl).cell 2 rfl
      go_upto_region 21 with (first
       | (go_at_call 6; (refine (encode_calls (Ys X _) _ _ _ cl N T _ HS.out.lt (HS.out.ro 5 rfl) (HS.out.ro 6 rfl) (HS.out.ro 7 rfl) HCU.out.1).mono ?_); rintro eq wq ⟨vq, rfl, hs2⟩; rw [HEN.out] at hs2 ⊢; have hs := HS.out.append hs2; obtain ⟨Aq, cq, eq2⟩ := hs.form 8 rfl; subst eq2; have hs := hs.sealRo 8 rfl; clear HS hs2 z0 z1 z2; have HS := aM (show Sep X w wq [.box g2 28 [.slice none 0 0, .slice none 0 0, .slice none 0 0], .box gr 62 [vb4, .bool r3.short], .box gp 60 [.pointer (some ⟨gr, 0, none⟩)], .box gt 28 [(.slice A5 cl.length c5), (.slice A6 N.length c6), (.slice A8 T.length c8)], .row kInt 3 (.slice A4 cl.length c4) cl, .ro kU8 (.slice A5 cl.length c5) cl, .ro kRow (.slice A6 N.length c6) N, .ro kInt (.slice A8 T.length c8) T, .ro kU8 (.slice Aq eb.length cq) eb] from hs); clear hs))
      have y2 := (HS.out.box 2 rfl).cell 0 rfl
      have y4 := (HS.out.box 1 rfl).cell 1 rfl
      cases hsh : r3.short
      case true =>
       rw [hsh] at y4
       have HE := aM (show r = noTable by rw [HE2.out, if_neg (fun h => by have h1 := h.1; rw [hsh] at h1; cases h1)])
       clear HE2 hsh
       go_upto_if 102 with fail
       clear y2 y4
       have x0 := (HS.out.box 0 rfl).cell 0 rfl
       have x1 := (HS.out.box 0 rfl).cell 1 rfl
       have x2 := (HS.out.box 0 rfl).cell 2 rfl
       have f0 := (HS.out.box 0 rfl).open_ 0
       have f1 := (HS.out.box 0 rfl).open_ 1
       have f2 := (HS.out.box 0 rfl).open_ 2
       go_wp2_with fail
       have HSF := aM (((HS.out.set_box 0 rfl 0 (.slice none 0 0)).set_box 0 rfl 1 (.slice none 0 0)).set_box 0 rfl 2 (.slice none 0 0))
       rw [Exit.noGoto_ret]
       refine bodyPost_ret (results_ct rfl _ _ g2 28 #[.slice none 0 0, .slice none 0 0, .slice none 0 0] (0, 0) _ rfl (HSF.out.box 0 rfl) Tryz.underlying28 rfl (by kernel_rfl)) rfl ?_
       rw [HE.out]
       exact ⟨_, _, _, rfl, PV.nil _ _ _, PV.nil _ _ _, PV.nil _ _ _, HSF.out.below⟩
      case false =>
       rw [hsh] at y4
       rcases hec with rfl | rfl
       case inr =>
        have HE := aM (show r = noTable by rw [HE2.out, if_neg (fun h => by have h1 := h.2.1; cases h1)])
        clear HE2 hsh
        go_upto_if 102 with fail
        clear y2 y4
        have x0 := (HS.out.box 0 rfl).cell 0 rfl
        have x1 := (HS.out.box 0 rfl).cell 1 rfl
        have x2 := (HS.out.box 0 rfl).cell 2 rfl
        have f0 := (HS.out.box 0 rfl).open_ 0
        have f1 := (HS.out.box 0 rfl).open_ 1
        have f2 := (HS.out.box 0 rfl).open_ 2
        go_wp2_with fail
        have HSF := aM (((HS.out.set_box 0 rfl 0 (.slice none 0 0)).set_box 0 rfl 1 (.slice none 0 0)).set_box 0 rfl 2 (.slice none 0 0))
        rw [Exit.noGoto_ret]
        refine bodyPost_ret (results_ct rfl _ _ g2 28 #[.slice none 0 0, .slice none 0 0, .slice none 0 0] (0, 0) _ rfl (HSF.out.box 0 rfl) Tryz.underlying28 rfl (by kernel_rfl)) rfl ?_
        rw [HE.out]
        exact ⟨_, _, _, rfl, PV.nil _ _ _, PV.nil _ _ _, PV.nil _ _ _, HSF.out.below⟩
       case inl =>
        obtain ⟨q, hq⟩ : ∃ q, q = decide (eb = b) := ⟨_, rfl⟩
        have HQ := aM hq.symm
        have HSH := aM hsh
        clear hq hsh
        go_upto_if 102 with (first
         | (go_at_call 34; (refine (bequal_calls (Ys X _) _ _ eb b _ (HS.out.ro 8 rfl) (HS.out.arg H1.out) HEU.out HU.out).mono ?_); rintro e9 w9 ⟨rfl, rfl⟩; rw [HQ.out]))
        clear y2 y4
        cases q
        case false =>
         have HE := aM (show r = noTable by rw [HE2.out, if_neg (fun h => of_decide_eq_false HQ.out h.2.2)])
         clear HE2
         have x0 := (HS.out.box 0 rfl).cell 0 rfl
         have x1 := (HS.out.box 0 rfl).cell 1 rfl
         have x2 := (HS.out.box 0 rfl).cell 2 rfl
         have f0 := (HS.out.box 0 rfl).open_ 0
         have f1 := (HS.out.box 0 rfl).open_ 1
         have f2 := (HS.out.box 0 rfl).open_ 2
         go_wp2_with fail
         have HSF := aM (((HS.out.set_box 0 rfl 0 (.slice none 0 0)).set_box 0 rfl 1 (.slice none 0 0)).set_box 0 rfl 2 (.slice none 0 0))
         rw [Exit.noGoto_ret]
         refine bodyPost_ret (results_ct rfl _ _ g2 28 #[.slice none 0 0, .slice none 0 0, .slice none 0 0] (0, 0) _ rfl (HSF.out.box 0 rfl) Tryz.underlying28 rfl (by kernel_rfl)) rfl ?_
         rw [HE.out]
         exact ⟨_, _, _, rfl, PV.nil _ _ _, PV.nil _ _ _, PV.nil _ _ _, HSF.out.below⟩
        case true =>
         have HE := aM (show r = ((cl, N, T), 0) by rw [HE2.out, if_pos ⟨HSH.out, by trivial, of_decide_eq_true HQ.out⟩])
         clear HE2
         have x0 := (HS.out.box 0 rfl).cell 0 rfl
         have x1 := (HS.out.box 0 rfl).cell 1 rfl
         have x2 := (HS.out.box 0 rfl).cell 2 rfl
         have f0 := (HS.out.box 0 rfl).open_ 0
         have f1 := (HS.out.box 0 rfl).open_ 1
         have f2 := (HS.out.box 0 rfl).open_ 2
         have z0 := (HS.out.box 3 rfl).cell 0 rfl
         have z1 := (HS.out.box 3 rfl).cell 1 rfl
         have z2 := (HS.out.box 3 rfl).cell 2 rfl
         go_wp2_with fail
         have HSF := aM (((HS.out.set_box 0 rfl 0 (.slice A5 cl.length c5)).set_box 0 rfl 1 (.slice A6 N.length c6)).set_box 0 rfl 2 (.slice A8 T.length c8))
         rw [Exit.noGoto_ret]
         refine bodyPost_ret (results_ct rfl _ _ g2 28 #[(.slice A5 cl.length c5), .slice A6 N.length c6, .slice A8 T.length c8] (0, 0) _ rfl (HSF.out.box 0 rfl) Tryz.underlying28 rfl (by kernel_rfl)) rfl ?_
         rw [HE.out]
         exact ⟨_, _, _, rfl, HSF.out.res 5 rfl, HSF.out.res 6 rfl, HSF.out.res 7 rfl, HSF.out.below⟩
end Go.Proofs.YtplhfgobeicegaaGreatDoor.P
namespace Go.Proofs.YtplhfgobeicegaaGreatDoor.P
open Go Go.RowKit Go.Proofs.YtplhfgobeicegaaGreatDoorW.PrintWords Go.Proofs.YtplhfgobeicegaaGreatDoorW.PrintLast Go.Proofs.YtplhfgobeicegaaGreatDoorW.PrintMore Go.Proofs.YtplhfgobeicegaaGreatDoor.PX
set_option linter.unusedVariables false
set_option linter.unusedSimpArgs false
set_option maxRecDepth 100000
set_option maxHeartbeats 16000000 in
theorem same14_calls (X : Nat → Prop) (va vb vc vd ve vf : Value) (ca cb : List Int) (na nb : List (List Int)) (ta tb : List Int) (w : World) (hX : ∀ k, X k → k < w.heap.size)
  (hca : PV kU8 X w va ca) (hna : PV kRow X w vb na) (hta : PV kInt X w vc ta) (hcb : PV kU8 X w vd cb) (hnb : PV kRow X w ve nb) (htb : PV kInt X w vf tb) (ua : U8s ca) (ub : U8s cb) :
  Calls Tryz.prog 10 #[.agg #[va, vb, vc], .agg #[vd, ve, vf]] w fun e w' => e = .returned (.bool (decide (ca = cb ∧ na = nb ∧ ta = tb))) ∧ Below w.heap.size w w' := by
 have H0 := aM hca
 have H1 := aM hna
 have H2 := aM hta
 have H3 := aM hcb
 have H4 := aM hnb
 have H5 := aM htb
 obtain ⟨A0, c0, rfl, _, _⟩ := hca.now
 obtain ⟨A1, c1, rfl, _, _⟩ := hna.now
 obtain ⟨A2, c2, rfl, _, _⟩ := hta.now
 obtain ⟨A3, c3, rfl, _, _⟩ := hcb.now
 obtain ⟨A4, c4, rfl, _, _⟩ := hnb.now
 obtain ⟨A5, c5, rfl, _, _⟩ := htb.now
 have HS := aM (((Sep.start hX).push_box [.slice A0 ca.length c0, .slice A1 na.length c1, .slice A2 ta.length c2] 28).push_box' [.slice A3 cb.length c3, .slice A4 nb.length c4, .slice A5 tb.length c5] 28 (w.heap.size + 1) (by simp))
 have st1 := (HS.out.arg H0.out).str (P := Tryz.prog) Tryz.underlying24 Tryz.underlying5 Tryz.underlying9
 have st2 := (HS.out.arg H3.out).str (P := Tryz.prog) Tryz.underlying24 Tryz.underlying5 Tryz.underlying9
 have HI := aM (strOfNums_inj (a := ca) (b := cb) ua ub)
 generalize strOfNums ca = sa at *
 generalize strOfNums cb = sb at *
 clear hca hna hta hcb hnb htb hX
 rcases Decidable.em (ca = cb) with hc | hc
 case inl =>
  have hs : sa = sb := HI.out.2 hc
  obtain ⟨q, hq⟩ : ∃ q, q = decide (na = nb ∧ ta = tb) := ⟨_, rfl⟩
  rw [show decide (ca = cb ∧ na = nb ∧ ta = tb) = q by rw [hq]; simp [hc]]
  have HQ := aM hq.symm
  clear hq
  clear hc HI
  subst hs
  go_enter Tryz.func10, Tryz.ntmps10
  go_wp2_with (first
   | (go_at_call 35; (with_reducible refine (bsame13_calls _ _ _ _ _ na nb ta tb _ HS.out.lt (HS.out.arg H1.out) (HS.out.arg H2.out) (HS.out.arg H4.out) (HS.out.arg H5.out)).mono ?_); rintro ee w5 ⟨rfl, hb⟩; rw [HQ.out]; have hs := HS.out.call hb; clear hb; clear HS; have HS := aM hs; clear hs))
  go_ret
  exact ⟨rfl, HS.out.below⟩
 case inr =>
  have hs : ¬ sa = sb := fun h => hc (HI.out.1 h)
  have hs2 : ¬ sa.toList = sb.toList := fun h => hs (ByteArray.ext (by rw [ByteArray.toList_eq, ByteArray.toList_eq] at h; exact Array.ext' h))
  have e1 : decide (sa.toList = sb.toList) = false := dF hs2
  rw [show decide (ca = cb ∧ na = nb ∧ ta = tb) = false by simp [hc]]
  clear hc HI
  go_enter Tryz.func10, Tryz.ntmps10
  go_wp2_with fail
  go_ret
  exact ⟨rfl, HS.out.below⟩
end Go.Proofs.YtplhfgobeicegaaGreatDoor.P
namespace Go.Proofs.YtplhfgobeicegaaGreatDoor.P
open Go Go.RowKit Go.Proofs.YtplhfgobeicegaaGreatDoorW.PrintWords Go.Proofs.YtplhfgobeicegaaGreatDoorW.PrintLast Go.Proofs.YtplhfgobeicegaaGreatDoorW.PrintMore Go.Proofs.YtplhfgobeicegaaGreatDoor.PX
set_option linter.unusedVariables false
set_option linter.unusedSimpArgs false
set_option maxRecDepth 100000
theorem e_nil8 : U8s [] := fun _ h => by cases h
theorem e_a8 : U8s [97] := by unfold U8s; decide
theorem e1_calls (X : Nat → Prop) (w : World) (hX : ∀ k, X k → k < w.heap.size) :
  Calls Tryz.prog 5 #[.slice none 0 0, .int .u8 0, .slice none 0 0, .slice none 0 0] w fun e w' => ∃ a0 a1 a2, e = .returned (.agg #[a0, a1, a2]) ∧ PV kU8 X w' a0 eC ∧ PV kRow X w' a1 eN ∧ PV kInt X w' a2 eT ∧ Below w.heap.size w w' := by
 have h := table15_calls X _ _ _ [] 0 [] [] w hX (PV.nil _ _ _) (PV.nil _ _ _) (PV.nil _ _ _) (fun l hl => by cases hl) (by decide) (fun l hl => by cases hl) (fun l hl => by cases hl)
 rw [e_table] at h
 exact h
theorem e2_calls (X : Nat → Prop) (w : World) (hX : ∀ k, X k → k < w.heap.size) (vc vn vt : Value) (hc : PV kU8 X w vc eC) (hn : PV kRow X w vn eN) (ht : PV kInt X w vt eT) :
  Calls Tryz.prog 6 #[.agg #[vc, vn, vt]] w fun e w' => ∃ v, e = .returned (.tuple #[v, .int .u16 0]) ∧ PV kU8 X w' v eB ∧ Below w.heap.size w w' := by
 have h := encode_calls X vc vn vt eC eN eT w hX hc hn ht e_u8
 rw [e_enc] at h
 refine h.mono ?_
 rintro e w' ⟨v, rfl, hs⟩
 exact ⟨v, rfl, hs.res_row 0 rfl, hs.below⟩
theorem e3_calls (X : Nat → Prop) (w : World) (hX : ∀ k, X k → k < w.heap.size) (v : Value) (hb : PV kU8 X w v eB) :
  Calls Tryz.prog 9 #[v] w fun e w' => ∃ v0 v1 v2, e = .returned (.tuple #[.agg #[v0, v1, v2], .int .u16 0]) ∧ PV kU8 X w' v0 eC ∧ PV kRow X w' v1 eN ∧ PV kInt X w' v2 eT ∧ Below w.heap.size w w' := by
 have h := decode_calls X v eB w hX hb eB_u8
 rw [e_dec] at h
 exact h
theorem e4_calls (w : World) :
  Calls Tryz.prog 9 #[.slice none 0 0] w fun e w' => ∃ A0 c0 A1 c1 A2 c2, e = .returned (.tuple #[.agg #[.slice A0 0 c0, .slice A1 0 c1, .slice A2 0 c2], .int .u16 70]) ∧ Below w.heap.size w w' := by
 have h := decode_calls (fun _ => False) _ [] w (fun _ h => h.elim) (PV.nil _ _ _) e_nil8
 rw [e_dec0] at h
 refine h.mono ?_
 rintro e w' ⟨v0, v1, v2, he, h0, h1, h2, hb⟩
 obtain ⟨A0, c0, rfl⟩ := PV.lenlit2 h0 0 rfl
 obtain ⟨A1, c1, rfl⟩ := PV.lenlit2 h1 0 rfl
 obtain ⟨A2, c2, rfl⟩ := PV.lenlit2 h2 0 rfl
 exact ⟨A0, c0, A1, c1, A2, c2, he, hb⟩
theorem e5_calls (w : World) :
  Calls Tryz.prog 6 #[.agg #[.slice none 0 0, .slice none 0 0, .slice none 0 0]] w fun e w' => ∃ v, e = .returned (.tuple #[v, .int .u16 1]) ∧ Below w.heap.size w w' := by
 have h := encode_calls (fun _ => False) _ _ _ [] [] [] w (fun _ h => h.elim) (PV.nil _ _ _) (PV.nil _ _ _) (PV.nil _ _ _) e_nil8
 rw [e_enc0] at h
 refine h.mono ?_
 rintro e w' ⟨v, rfl, hs⟩
 exact ⟨v, rfl, hs.below⟩
theorem e6_calls (w : World) : Calls Tryz.prog 23 #[.slice none 0 0] w fun e w' => e = .returned (.int .u32 2166136261) ∧ w' = w := by
 have h := psum_calls (fun _ => False) _ [] w (PV.nil _ _ _) e_nil8
 rw [e_sum0] at h
 exact h
theorem e7_calls (X : Nat → Prop) (w : World) (v : Value) (hv : PV kU8 X w v [97]) : Calls Tryz.prog 23 #[v] w fun e w' => e = .returned (.int .u32 3826002220) ∧ w' = w := by
 have h := psum_calls X v [97] w hv e_a8
 rw [e_suma] at h
 exact h
theorem e8_calls (X : Nat → Prop) (w : World) (hX : ∀ k, X k → k < w.heap.size) (va vb vc vd ve vf : Value) (ha : PV kU8 X w va eC) (hb : PV kRow X w vb eN) (hc : PV kInt X w vc eT) (hd : PV kU8 X w vd eC) (he : PV kRow X w ve eN) (hf : PV kInt X w vf eT) :
  Calls Tryz.prog 10 #[.agg #[va, vb, vc], .agg #[vd, ve, vf]] w fun e w' => e = .returned (.bool true) ∧ Below w.heap.size w w' := by
 have h := same14_calls X va vb vc vd ve vf eC eC eN eN eT eT w hX ha hb hc hd he hf e_u8 e_u8
 rw [dT ⟨rfl, rfl, rfl⟩] at h
 exact h
theorem e9_cell {X : Nat → Prop} {w : World} {A : Option Addr} {c : Nat} (h : PV kU8 X w (.slice A 18 c) eB) : ∃ ad, A = some ad ∧ w.cell? ad = some (.int .u8 71) := by
 obtain ⟨ad, cd, ed, ya⟩ := u8_cell h 0 (by rw [e_len]; decide)
 rw [e_len] at ed
 rw [e_head] at ya
 cases ed
 exact ⟨ad, rfl, ya⟩
theorem e_lc : eC.length = 256 := rfl
theorem e_ln : eN.length = 1 := rfl
theorem e_lt : eT.length = 1 := rfl
attribute [local irreducible] eC eN eT eB
set_option maxHeartbeats 16000000 in
theorem known15_calls (w : World) : Calls Tryz.prog 8 #[] w fun e w' => e = .returned (.bool true) ∧ Below w.heap.size w w' := by
 have HS := aM (Sep.start (X := fun _ => False) (w0 := w) (fun _ h => h.elim))
 go_enter Tryz.func8, Tryz.ntmps8
 go_upto_region 2 with (first
  | (go_at_call 5; (refine (e1_calls _ _ HS.out.lt).mono ?_); rintro ee w5 ⟨a0, a1, a2, rfl, h0, h1, h2, hb⟩; obtain ⟨A0, c0, e0⟩ := PV.lenlit2 h0 256 e_lc; subst e0; obtain ⟨A1, c1, e1⟩ := PV.lenlit2 h1 1 e_ln; subst e1; obtain ⟨A2, c2, e2⟩ := PV.lenlit2 h2 1 e_lt; subst e2; have hs := (((HS.out.push_ro hb h0).push_ro (Below.refl _ _) (h1.to (fun _ _ h => Ys_ro h))).push_ro (Below.refl _ _) (h2.to (fun _ _ h => Ys_ro (Ys_ro h)))).push_box [.slice A0 256 c0, .slice A1 1 c1, .slice A2 1 c2] 28; simp only [List.nil_append, List.cons_append] at hs; clear h0 h1 h2 hb; clear HS; have HS := aM hs; clear hs))
 have xt0 := (HS.out.box 3 rfl).cell 0 rfl
 have xt1 := (HS.out.box 3 rfl).cell 1 rfl
 have xt2 := (HS.out.box 3 rfl).cell 2 rfl
 go_upto_region 4 with (first
  | (go_at_call 6; (refine (e2_calls _ _ HS.out.lt _ _ _ (HS.out.ro 0 rfl) (HS.out.ro 1 rfl) (HS.out.ro 2 rfl)).mono ?_); rintro ee w6 ⟨v6, rfl, h0, hb⟩; obtain ⟨A4, c4, e4⟩ := PV.lenlit2 h0 18 e_len; subst e4; have hs := HS.out.push_ro hb h0; simp only [List.nil_append, List.cons_append] at hs; clear h0 hb xt0 xt1 xt2; clear HS; have HS := aM hs; clear hs)
  | (go_at_call 9; (refine (e3_calls _ _ HS.out.lt _ (HS.out.ro 4 rfl)).mono ?_); rintro ee w7 ⟨v0, v1, v2, rfl, h0, h1, h2, hb⟩; obtain ⟨A5, c5, e5⟩ := PV.lenlit2 h0 256 e_lc; subst e5; obtain ⟨A6, c6, e6⟩ := PV.lenlit2 h1 1 e_ln; subst e6; obtain ⟨A7, c7, e7⟩ := PV.lenlit2 h2 1 e_lt; subst e7; have hs := (((HS.out.push_ro hb h0).push_ro (Below.refl _ _) (h1.to (fun _ _ h => Ys_ro h))).push_ro (Below.refl _ _) (h2.to (fun _ _ h => Ys_ro (Ys_ro h)))).push_box [.slice A5 256 c5, .slice A6 1 c6, .slice A7 1 c7] 28; simp only [List.nil_append, List.cons_append] at hs; clear h0 h1 h2 hb; clear HS; have HS := aM hs; clear hs))
 go_upto_region 5 with (first
  | (go_at_call 9; (refine (e4_calls _).mono ?_); rintro ee w8 ⟨A8, c8, A9, c9, Aa, ca, rfl, hb⟩; have hs := (HS.out.call hb).push_box [.slice A8 0 c8, .slice A9 0 c9, .slice Aa 0 ca] 28; simp only [List.nil_append, List.cons_append] at hs; clear hb; clear HS; have HS := aM hs; clear hs))
 go_upto_region 6 with (first
  | (go_at_call 6; (refine (e5_calls _).mono ?_); rintro ee w9 ⟨v9, rfl, hb⟩; have hs := HS.out.call hb; clear hb; clear HS; have HS := aM hs; clear hs))
 go_wp2_with (first
  | (go_at_call 23; (with_reducible refine (e6_calls _).mono ?_); rintro ee wa ⟨rfl, rfl⟩; have kc3 := Lib.run_convert_bytes_const (P := Tryz.prog) wa 24 5 #[.int .u8 97] 1 1 Tryz.underlying24 Tryz.underlying5)
  | (go_at_call 23; have hs := HS.out.push_bytes .u8 [97] 5 (1, 2) (by decide); simp only [List.nil_append, List.cons_append] at hs; change Sep _ w (wa.alloc (.cells #[.int .u8 97] 5 (1, 2))) _ at hs; clear HS kc3; have HS := aM hs; clear hs; (refine (e7_calls _ _ _ (HS.out.ro 10 rfl)).mono ?_); rintro ee wb ⟨rfl, rfl⟩; have xt0 := (HS.out.box 3 rfl).cell 0 rfl; have xt1 := (HS.out.box 3 rfl).cell 1 rfl; have xt2 := (HS.out.box 3 rfl).cell 2 rfl; have xu0 := (HS.out.box 8 rfl).cell 0 rfl; have xu1 := (HS.out.box 8 rfl).cell 1 rfl; have xu2 := (HS.out.box 8 rfl).cell 2 rfl)
  | (go_at_call 10; (refine (e8_calls _ _ HS.out.lt _ _ _ _ _ _ (HS.out.ro 5 rfl) (HS.out.ro 6 rfl) (HS.out.ro 7 rfl) (HS.out.ro 0 rfl) (HS.out.ro 1 rfl) (HS.out.ro 2 rfl)).mono ?_); rintro e wc ⟨rfl, hb⟩; have hs := HS.out.call hb; clear hb xt0 xt1 xt2 xu0 xu1 xu2; obtain ⟨ad, ed, ya⟩ := e9_cell (hs.ro 4 rfl); subst ed; clear HS; have HS := aM hs; clear hs))
 go_ret
 exact ⟨rfl, HS.out.below⟩
theorem U8s.set {b : List Int} (h : U8s b) (i : Nat) {q : Int} (hq : 0 ≤ q ∧ q < 256) : U8s (b.set i q) := fun c hc => by
 rcases List.mem_or_eq_of_mem_set hc with hc | rfl
 ·exact h c hc
 ·exact hq
end Go.Proofs.YtplhfgobeicegaaGreatDoor.P
namespace Go.Proofs.YtplhfgobeicegaaGreatDoor.P
open Go Go.RowKit Go.Proofs.YtplhfgobeicegaaGreatDoorW.PrintWords Go.Proofs.YtplhfgobeicegaaGreatDoor.PX
set_option linter.unusedVariables false
set_option linter.unusedSimpArgs false
theorem top_at {l : List Int} (h : ∀ t ∈ l, t ≤ 3) (i : Nat) : l.getD i 0 ≤ 3 := by
 rcases Nat.lt_or_ge i l.length with c | c
 ·exact h _ (mem_getD l 0 _ c)
 ·rw [List.getD_eq_getElem?_getD, List.getElem?_eq_none c]; decide
theorem least_top (parts : List (List Sp)) (next : List (List Int)) (tags : List Int) (h : ∀ t ∈ tags, t ≤ 3) : ∀ t ∈ (leastL parts next tags).tags, t ≤ 3 := by
 unfold leastL leastD leastC leastB
 intro t ht
 obtain ⟨s, _, rfl⟩ := List.mem_map.1 ht
 exact top_at h s.toNat
theorem raw_top (next : List (List Int)) (tags : List Int) (rows : List (List (List Rg))) (h : ∀ t ∈ tags, t ≤ 3) : ∀ (f i : Nat) (s : RawSt), (∀ t ∈ s.tags, t ≤ 3) → ∀ t ∈ (rawGo next tags rows f i s).tags, t ≤ 3
 | 0, i, s, hs => hs
 | f + 1, i, s, hs => by
  rw [rawGo]
  split
  ·refine raw_top next tags rows h f (i + 1) _ (fun t ht => ?_)
   unfold rawStep at ht
   rcases List.mem_append.1 ht with ht | ht
   ·exact hs t ht
   ·obtain rfl := List.mem_singleton.1 ht
    split
    ·exact top_at h _
    ·decide
  ·exact hs
theorem of13_top (B : Nat) (parts : List (List Sp)) (next : List (List Int)) (tags : List Int) (h : ∀ t ∈ tags, t ≤ 3) : ∀ t ∈ (of13 B parts next tags).1.2, t ≤ 3 := by
 unfold of13
 split
 ·split
  ·intro t ht; cases ht
  ·unfold least13 dfa13
   refine least_top _ _ _ ?_
   unfold raw13 rawL
   exact raw_top _ _ _ (least_top parts next tags h) B 0 _ (fun t ht => by cases ht)
 ·intro t ht; cases ht
theorem tag_top (tags : List Int) (i : Nat) : tag11 tags i ≤ 3 := by
 unfold tag11 mx
 split
 ·have := Int.tmod_lt_of_pos (tags.getD i 0) (b := 4) (by decide)
  (repeat' split) <;> omega
 ·decide
theorem b14_top (c : List (List Int)) (k : Int) (next tags : List Int) : ∀ t ∈ (b14 c k next tags).2, t ≤ 3 := by
 unfold b14
 split
 ·refine of13_top _ _ _ _ (fun t ht => ?_)
  have ht' : t ∈ (List.range (1 + k % 9).toNat).map (tag11 tags) := ht
  obtain ⟨i, _, rfl⟩ := List.mem_map.1 ht'
  exact tag_top tags i
 ·exact of13_top _ _ _ _ (fun t ht => by obtain rfl := List.mem_singleton.1 ht; decide)
theorem t15_ok (c : List (List Int)) (k : Int) (next tags : List Int) (hk : 0 ≤ k ∧ k < 256) : U8s (t15 c k next tags).1 ∧ TSound (t15 c k next tags).1 (t15 c k next tags).2.1 (t15 c k next tags).2.2 ∧ EncOk (t15 c k next tags).1 (t15 c k next tags).2.1 (t15 c k next tags).2.2 := by
 have hb := b14_sound c k next tags hk
 have ht := b14_top c k next tags
 unfold t15
 generalize b14 c k next tags = b at *
 unfold of14
 rw [if_pos hb]
 dsimp only
 have h1 := tsound_of hb
 have h2 := hb.1.1
 refine ⟨classes_u8 _, h1, h1, ?_⟩
 exact (maxF_le b.2 65534 h2).2 (fun x hx => by have := ht x hx; omega)
end Go.Proofs.YtplhfgobeicegaaGreatDoor.P
namespace Go.Proofs.YtplhfgobeicegaaGreatDoor.P
open Go Go.RowKit Go.Proofs.YtplhfgobeicegaaGreatDoorW.PrintWords Go.Proofs.YtplhfgobeicegaaGreatDoorW.PrintLast Go.Proofs.YtplhfgobeicegaaGreatDoorW.PrintMore Go.Proofs.YtplhfgobeicegaaGreatDoor.PX
set_option linter.unusedVariables false
set_option linter.unusedSimpArgs false
set_option maxRecDepth 100000
theorem same_true (X : Nat → Prop) (va vb vc vd ve vf : Value) (C : List Int) (N : List (List Int)) (T : List Int) (w : World) (hX : ∀ k, X k → k < w.heap.size) (h0 : PV kU8 X w va C) (h1 : PV kRow X w vb N) (h2 : PV kInt X w vc T) (h3 : PV kU8 X w vd C) (h4 : PV kRow X w ve N) (h5 : PV kInt X w vf T) (hu : U8s C) :
  Calls Tryz.prog 10 #[.agg #[va, vb, vc], .agg #[vd, ve, vf]] w fun e w' => e = .returned (.bool true) ∧ Below w.heap.size w w' := by
 have h := same14_calls X va vb vc vd ve vf C C N N T T w hX h0 h1 h2 h3 h4 h5 hu hu
 rw [dT ⟨rfl, rfl, rfl⟩] at h
 exact h
theorem rowsE_len : ∀ (N : List (List Int)) (T : List Int), (∀ row ∈ N, row.length ≤ 256) → (rowsE N T).length ≤ 770 * N.length
 | [], T, _ => by rw [rowsE]; simp
 | row :: N, T, h => by
  have h1 := rowsE_len N (T.drop 1) (fun r hr => h r (List.mem_cons_of_mem _ hr))
  have h2 := h row List.mem_cons_self
  have h3 := runsF_len (fun x => two15 (x + 1)) (fun x => Nat.le_refl _) row.length row
  rw [rowsE, lA, lA, List.length_cons, show ∀ x, (two15 x).length = 2 from fun _ => rfl]
  omega
theorem bodyE_max {C : List Int} {N : List (List Int)} {T : List Int} (hu : U8s C) (h : EncOk C N T) : (bodyE C N T).length ≤ 100000000 := by
 have hf := enc_fact hu h
 have h1 := headE_len C T
 have h2 := rowsE_len N T (fun row hr => by
  rw [(hf.row row hr).1]
  have := maxF_in hu (show 1 ≤ C.length by rw [hf.len]; decide)
  omega)
 have h3 := hf.le
 have h4 := hf.rows
 have h5 := hf.len
 unfold bodyE
 rw [lA]
 omega
end Go.Proofs.YtplhfgobeicegaaGreatDoor.P
namespace Go.Proofs.YtplhfgobeicegaaGreatDoor.PX
open Go Go.RowKit Go.Proofs.YtplhfgobeicegaaGreatDoorW.PrintWords
theorem Sep.perm {X : Nat → Prop} {w0 w : World} {L L' : List Item} (h : Sep X w0 w L) (hp : L.Perm L') : Sep X w0 w L' := by
 refine ⟨fun a ha => Item.ok_step (h.ok a (hp.mem_iff.2 ha)) ?_ (fun k hk => .inr ⟨a, ha, hk⟩) (Agree.refl _ _) (fun _ _ => rfl), (hp.pairwise_iff (fun {_ _} hne => hne.symm)).1 h.ne, h.old, h.below⟩
 rintro k hk (hx | ⟨c, hc, hcb⟩)
 ·exact .inl hx
 ·exact .inr ⟨c, hp.mem_iff.2 hc, hcb⟩
section
variable {α : Type _} {L M : List α} {x y z : α}
end
end Go.Proofs.YtplhfgobeicegaaGreatDoor.PX
namespace Go.Proofs.YtplhfgobeicegaaGreatDoor.P
open Go Go.RowKit Go.Proofs.YtplhfgobeicegaaGreatDoorW.PrintWords Go.Proofs.YtplhfgobeicegaaGreatDoorW.PrintLast Go.Proofs.YtplhfgobeicegaaGreatDoorW.PrintMore Go.Proofs.YtplhfgobeicegaaGreatDoor.PX
set_option linter.unusedVariables false
set_option linter.unusedSimpArgs false
set_option maxRecDepth 100000
end Go.Proofs.YtplhfgobeicegaaGreatDoor.P
