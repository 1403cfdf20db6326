/- Part 17 of the proof: S12e, S12g. -/
import Derived.Test.YtplhfgobeicegaaGreatDoorPe16
namespace Go.Proofs.YtplhfgobeicegaaGreatDoor.P
open Go Go.RowKit Go.Proofs.YtplhfgobeicegaaGreatDoorW.PrintWords Go.Proofs.YtplhfgobeicegaaGreatDoorW.PrintLast Go.Proofs.YtplhfgobeicegaaGreatDoorW.PrintMore Go.Proofs.YtplhfgobeicegaaGreatDoor.PX
set_option linter.unusedVariables false
set_option linter.unusedSimpArgs false
set_option maxRecDepth 100000
theorem ini_len (z : List Int) (i m : Nat) (h : i + m = z.length) : (z.take i ++ List.replicate m (0 : Int)).length = z.length := by simp; omega
theorem any_ne (a b : List Int) (h : a.length = b.length) : (decide (a ≠ b)) = (List.range b.length).any (fun i => decide (a.getD i 0 ≠ b.getD i 0)) := by
 rw [Bool.eq_iff_iff, decide_eq_true_iff, List.any_eq_true]
 constructor
 ·intro hne
  refine Decidable.byContradiction fun hno => hne (List.ext_getElem h (fun i h1 h2 => ?_))
  refine Decidable.byContradiction fun hx => hno ⟨i, List.mem_range.2 h2, dT ?_⟩
  simpa [List.getD_eq_getElem?_getD, h1, h2] using hx
 ·rintro ⟨i, _, hx⟩ rfl
  simp at hx
theorem range_any (n : Nat) (p : Nat → Bool) : (List.range (n + 1)).any p = ((List.range n).any p || p n) := by
 rw [List.range_succ, List.any_append]; simp
set_option maxHeartbeats 8000000 in
theorem firsts_calls (X : Nat → Prop) (vp vn vt vl : Value) (parts : List (List Sp)) (next : List (List Int)) (tags l : List Int) (w : World) (hX : ∀ k, X k → k < w.heap.size) (hp : PV kSps X w vp parts) (hn : PV kRow X w vn next) (ht : PV kInt X w vt tags) (hl : PV kInt X w vl l)
  (htl : tags.length = l.length) (hnl : next.length = l.length) (hok : Ok12 parts.length l.length next) (hlen : l.length ≤ 1000000) :
  Calls Tryz.prog 79 #[.agg #[vp, vn, vt], vl] w fun e w' => ∃ v, e = .returned v ∧ PV kInt X w' v (firstsL parts.length next tags l) ∧ Below w.heap.size w w' := by
 have H0 := aM hp
 have H1 := aM hn
 have H2 := aM ht
 have H3 := aM hl
 have HS := aM ((Sep.start hX).push_box [vp, vn, vt] 80)
 have HOK := aM hok
 have HLE := aM (show tags.length = l.length ∧ next.length = l.length ∧ l.length ≤ 1000000 from ⟨htl, hnl, hlen⟩)
 obtain ⟨Ap, cp, rfl, _, _⟩ := hp.now
 obtain ⟨An, cn, rfl, _, _⟩ := hn.now
 obtain ⟨At, ct, rfl, _, _⟩ := ht.now
 obtain ⟨Al, cl, rfl, _, _⟩ := hl.now
 have hlen2 : tags.length ≤ 1000000 := by omega
 clear hp hn ht hl hX hok htl hnl hlen
 obtain ⟨r, hr⟩ : ∃ r, r = firstsL parts.length next tags l := ⟨_, rfl⟩
 rw [← hr]
 unfold firstsL at hr
 have HR := aM hr.symm
 clear hr
 obtain ⟨z, hz⟩ : ∃ z, z = of0L tags := ⟨_, rfl⟩
 rw [← hz] at HR
 have HZ := aM hz
 have HZL := aM (show z.length = tags.length by rw [hz]; exact of0_len tags)
 clear hz
 go_enter Tryz.func79, Tryz.ntmps79
 go_wp2_with (first
  | ((with_reducible refine gate_dst (N := 13) rfl ?_); refine smake .i64 3 rfl (N := 13) rfl 26 (.tmp 12) (.tmp 12) rfl tags.length rfl rfl Tryz.underlying26 8 info3' (by omega) (by omega) HS.out ?_; clear HS; intro v1 w1 hs; have HS := aM hs; clear hs))
 go_loopg [6] tags.length (fun m v6 w' => ∃ (i : Nat) (o : List Int), v6 = .int .i64 i ∧ Aside0 (i + m = tags.length) ∧ Aside0 (o = z.take i ++ List.replicate m 0) ∧ Aside0 (Sep X w w' [.box w.heap.size 80 [.slice Ap parts.length cp, .slice An next.length cn, .slice At tags.length ct], .row kInt 3 v1 o]))
 case atStart => exact ⟨0, _, rfl, ⟨by omega⟩, ⟨rfl⟩, HS⟩
 case round =>
  clear HS
  obtain ⟨i, o, rfl, HJ, HO, HS⟩ := hrel
  have HOL := aM (show o.length = tags.length by rw [HO.out, ini_len _ _ _ (by have := HJ.out; have := HZL.out; omega)]; exact HZL.out)
  obtain ⟨A5, c5, e5⟩ := HS.out.form 1 rfl
  rw [HOL.out] at e5
  subst e5
  cases gk with
  | succ k1 =>
   have hi : i < tags.length := by have := HJ.out; omega
   have e1 : decide ((i : Int) < (tags.length : Int)) = true := dT (by omega)
   have e2 : decide (i < tags.length) = true := dT hi
   have HO0 := aM (show o.getD i 0 = 0 by rw [HO.out]; exact ini_at z i k1 (by have := HJ.out; have := HZL.out; omega) i rfl)
   have HOS := aM (fun x (hx : x = z.getD i 0) => show o.set i x = z.take (i + 1) ++ List.replicate k1 0 by rw [HO.out]; exact ini_set z i k1 (by have := HJ.out; have := HZL.out; omega) x hx)
   have HZI := aM (show z.getD i 0 = ((tags.findIdx (fun x => decide (x = tags.getD i 0)) : Nat) : Int) by rw [HZ.out]; exact of0_at tags i hi)
   go_wp2_with fail
   go_loopg [] (i + 1) (fun m w' => ∃ (j : Nat) (o2 : List Int), Aside0 (j + m = i + 1 ∧ j ≤ i) ∧ Aside0 (∀ k, k < j → tags.getD k 0 ≠ tags.getD i 0) ∧ Aside0 (o2 = o.set i (j : Int)) ∧ Aside0 (Sep X w w' [.box w.heap.size 80 [.slice Ap parts.length cp, .slice An next.length cn, .slice At tags.length ct], .row kInt 3 (.slice A5 tags.length c5) o2]))
   case atStart => exact ⟨0, o, ⟨by omega, by omega⟩, ⟨fun k h => by omega⟩, ⟨by
     have h0 := HO0.out
     refine List.ext_getElem (by simp) (fun k h1 h2 => ?_)
     rw [List.getElem_set]
     split
     ·next h => subst h; rw [List.getD_eq_getElem?_getD, List.getElem?_eq_getElem h1, Option.getD_some] at h0; exact h0
     ·rfl⟩, HS⟩
   case round =>
    clear HS
    obtain ⟨j, o2, HJ2, HNE, HO2, HS⟩ := hrel
    have HLS := aM (show o2.length = tags.length by rw [HO2.out, List.length_set]; exact HOL.out)
    obtain ⟨g, cg, eg, yi, fi, hset⟩ := HS.out.int 1 rfl i (by have := HLS.out; omega)
    rw [HLS.out] at eg
    cases eg
    rw [HO2.out, getD_set_eq _ _ _ _ (by have := HOL.out; omega)] at yi
    have HSET := aM (hset ((j : Int) + 1))
    have HSS := aM (show o2.set i ((j : Int) + 1) = o.set i ((j + 1 : Nat) : Int) by rw [HO2.out, List.set_set]; rfl)
    have hji : j ≤ i := HJ2.out.2
    obtain ⟨at_, ct_, et, yt2⟩ := int_cell (HS.out.arg H2.out) i hi
    cases et
    obtain ⟨at', ct', et, yt3⟩ := int_cell (HS.out.arg H2.out) j (by omega)
    cases et
    have y2 := (HS.out.box 0 rfl).cell 2 rfl
    obtain ⟨ti, hti⟩ : ∃ t, t = tags.getD i 0 := ⟨_, rfl⟩
    obtain ⟨tj, htj⟩ : ∃ t, t = tags.getD j 0 := ⟨_, rfl⟩
    rw [← hti] at yt2
    rw [← htj] at yt3
    have HT := aM (show ti = tags.getD i 0 ∧ tj = tags.getD j 0 from ⟨hti, htj⟩)
    have hi0 : (0 : Int) ≤ (i : Int) := by omega
    have hi1 : (i : Int) < (tags.length : Int) := by omega
    have hj0 : (0 : Int) ≤ (j : Int) := by omega
    have hj1 : (j : Int) < (tags.length : Int) := by omega
    clear hset hti htj
    by_cases c : tj = ti
    ·have f1 : (tj == ti) = true := beq_iff_eq.mpr c
     have f2 : (tj != ti) = false := bne_eq_false_iff_eq.mpr c
     have HFJ := aM (show o2 = z.take (i + 1) ++ List.replicate k1 0 from HO2.out.trans (HOS.out _ (by
      rw [HZI.out, ftag_eq tags i j hi (by omega) (by rw [← HT.out.1, ← HT.out.2]; exact c) HNE.out])))
     clear c HSET HO2 HO HOS HO0 HZI
     go_wp2_with fail
     go_quiet (fail)
     have HS2 := aM (HS.out.drewN nq)
     go_wp2_with fail
     go_roundg k1
     case measure => omega
     case rel => exact ⟨i + 1, o2, by go_num, ⟨by have := HJ.out; omega⟩, HFJ, HS2⟩
    ·have f1 : (tj == ti) = false := bF c
     have f2 : (tj != ti) = true := bne_iff_ne.mpr c
     have HNE2 := aM (show j + 1 ≤ i ∧ ∀ k, k < j + 1 → tags.getD k 0 ≠ tags.getD i 0 from by
      refine ⟨?_, fun k hk => ?_⟩
      ·rcases Nat.lt_or_ge j i with h | h
       ·omega
       ·obtain rfl : j = i := by omega
        exact absurd (HT.out.2.trans HT.out.1.symm) c
      ·rcases Nat.lt_or_ge k j with h | h
       ·exact HNE.out k h
       ·obtain rfl : k = j := by omega
        rw [← HT.out.1, ← HT.out.2]; exact c)
     clear c HSET HO HOS HO0 HZI
     go_wp2_with fail
     go_quiet (fail)
     have HS2 := aM (HS.out.drewN nq)
     obtain ⟨g2, cg2, eg2, yi2, fi2, hset2⟩ := HS2.out.int 1 rfl i (by have := HLS.out; omega)
     rw [HLS.out] at eg2
     cases eg2
     rw [HO2.out, getD_set_eq _ _ _ _ (by have := HOL.out; omega)] at yi2
     have HSET := aM (hset2 ((j : Int) + 1))
     clear hset2 yi fi yt2 yt3 y2
     go_wp2_with fail
     go_roundg (i - j)
     case measure => have := HJ2.out; omega
     case rel => exact ⟨j + 1, _, ⟨by have := HJ2.out; omega, HNE2.out.1⟩, ⟨HNE2.out.2⟩, HSS, HSET⟩
  | zero =>
   have hi : i = tags.length := by have := HJ.out; omega
   have e1 : decide ((i : Int) < (tags.length : Int)) = false := dF (by omega)
   have e2 : decide (i < tags.length) = false := dF (by omega)
   have HOZ := aM (show o = z by rw [HO.out, hi, ← HZL.out, List.take_length]; simp)
   have hs := HS.out.sealRo 1 rfl
   rw [HOZ.out] at hs
   clear HS HO HOL HOZ hi
   have HS := aM hs
   clear hs
   have HCZ := aM (show Canon z by rw [HZ.out]; exact canon_of0 tags)
   go_wp2_with fail
   clear e1 e2
   go_loopg [5, 7] (tags.length - fixN z + 1) (fun m v5 v7 w' => ∃ (more : Bool) (of_ : List Int), v7 = .bool more ∧ Aside0 (of_.length = tags.length) ∧ Aside0 (Canon of_) ∧ Aside0 ((more = true ∧ m = tags.length - fixN of_ + 1 ∧ ∃ f, tags.length - fixN of_ + 1 ≤ f ∧ firstsGo parts.length next l f of_ = r) ∨ (more = false ∧ m = 0 ∧ of_ = r)) ∧ Aside0 (Sep X w w' [.box w.heap.size 80 [.slice Ap parts.length cp, .slice An next.length cn, .slice At tags.length ct], .ro kInt v5 of_]))
   case atStart => exact ⟨true, z, rfl, HZL, HCZ, ⟨.inl ⟨rfl, rfl, tags.length + 1, by omega, HR.out⟩⟩, HS⟩
   case round =>
    clear HS HCZ HR
    obtain ⟨more, of_, rfl, HOL, HCN, HM, HS⟩ := hrel
    obtain ⟨A, c, e5⟩ := HS.out.rform 1 rfl
    rw [HOL.out] at e5
    subst e5
    cases gk with
    | zero =>
     obtain ⟨rfl, rfl⟩ : more = false ∧ of_ = r := by
      rcases HM.out with ⟨_, h, _⟩ | ⟨h1, _, h2⟩
      ·omega
      ·exact ⟨h1, h2⟩
     go_wp2_with fail
     go_ret
     exact ⟨_, rfl, HS.out.res 1 rfl, HS.out.below⟩
    | succ k1 =>
     obtain ⟨rfl, hk1, f, hf, hlf⟩ : more = true ∧ k1 = tags.length - fixN of_ ∧ ∃ f, tags.length - fixN of_ ≤ f ∧ firstsGo parts.length next l (f + 1) of_ = r := by
      rcases HM.out with ⟨h1, h2, f, h3, h4⟩ | ⟨_, h, _⟩
      ·cases f with
       | zero => omega
       | succ f => exact ⟨h1, by omega, f, by omega, h4⟩
      ·omega
     have HK1 := aM hk1
     obtain ⟨nx, hnx⟩ : ∃ q, q = refineL parts.length next l of_ := ⟨_, rfl⟩
     have HF := aM (show tags.length - fixN of_ ≤ f ∧ (if nx = of_ then of_ else firstsGo parts.length next l f nx) = r from ⟨hf, by rw [hnx]; exact hlf⟩)
     have HNX := aM hnx.symm
     have HNL := aM (show nx.length = tags.length by rw [hnx, refine_len]; exact HOL.out)
     clear HM hk1 hf hlf hnx
     have y0 := (HS.out.box 0 rfl).cell 0 rfl
     have y1 := (HS.out.box 0 rfl).cell 1 rfl
     have y2 := (HS.out.box 0 rfl).cell 2 rfl
     go_wp2_with (first
      | (go_at_call 90; (with_reducible refine (refine_calls _ _ _ _ _ _ parts next tags l of_ _ HS.out.lt (HS.out.arg H0.out) (HS.out.arg H1.out) (HS.out.arg H2.out) (HS.out.arg H3.out) (by have := HS.out.ro 1 rfl; rwa [HOL.out] at *) (by have := HOL.out; have := HLE.out; omega) HLE.out.2.1 HOK.out HLE.out.2.2).mono ?_); rintro ee w5 ⟨v8, rfl, hv, hb⟩; rw [HNX.out] at hv; have hs := HS.out.push_ro hb hv; clear hv hb y0 y1 y2; clear HS; have HS := aM hs; clear hs))
     obtain ⟨A8, c8, e8⟩ := HS.out.rform 2 rfl
     rw [HNL.out] at e8
     subst e8
     go_loopg [7, 9] tags.length (fun m v7 v9 w' => ∃ (i : Nat) (q : Bool), (v9 = .int .i64 i ∧ v7 = .bool q) ∧ Aside0 (i + m = tags.length) ∧ Aside0 (q = (List.range i).any (fun i => decide (nx.getD i 0 ≠ of_.getD i 0))) ∧ Aside0 (Sep X w w' [.box w.heap.size 80 [.slice Ap parts.length cp, .slice An next.length cn, .slice At tags.length ct], .ro kInt (.slice A tags.length c) of_, .ro kInt (.slice A8 tags.length c8) nx]))
     case atStart => exact ⟨0, false, ⟨by go_num, rfl⟩, ⟨by omega⟩, ⟨rfl⟩, HS⟩
     case round =>
      clear HS
      obtain ⟨i, q, ⟨rfl, rfl⟩, HJ, HQ, HS⟩ := hrel
      cases gk with
      | zero =>
       have e3 : decide ((i : Int) < (tags.length : Int)) = false := dF (by have := HJ.out; omega)
       have e4 : decide (i < tags.length) = false := dF (by have := HJ.out; omega)
       have HQ2 := aM (show q = decide (nx ≠ of_) by rw [any_ne nx of_ (by rw [HNL.out, HOL.out]), HOL.out, HQ.out]; congr 2; have := HJ.out; omega)
       have HS2 := aM (HS.out.erase 1)
       have HCN2 := aM (show Canon nx by rw [← HNX.out]; exact canon_refine _ _ _ _)
       cases q
       case false =>
        have HE := aM (show nx = of_ from Decidable.byContradiction fun h => by have := HQ2.out; rw [dT h] at this; cases this)
        go_wp2_with fail
        go_roundg 0
        case measure => omega
        case rel => exact ⟨false, nx, rfl, HNL, HCN2, ⟨.inr ⟨rfl, rfl, by have := HF.out.2; rw [if_pos HE.out] at this; exact HE.out.trans this⟩⟩, HS2⟩
       case true =>
        have HE := aM (show nx ≠ of_ from of_decide_eq_true HQ2.out.symm)
        have HLT := aM (show fixN of_ < fixN nx by have := fix_lt parts.length next l of_ HCN.out; rw [HNX.out] at this; exact this HE.out)
        have HLE2 := aM (show fixN nx ≤ tags.length by have := fix_le nx; rw [HNL.out] at this; exact this)
        go_wp2_with fail
        go_roundg (tags.length - fixN nx + 1)
        case measure => have := HLT.out; have := HLE2.out; have := HK1.out; omega
        case rel => exact ⟨true, nx, rfl, HNL, HCN2, ⟨.inl ⟨rfl, rfl, f, by have := HLT.out; have := HLE2.out; have := HF.out.1; omega, by have := HF.out.2; rwa [if_neg HE.out] at this⟩⟩, HS2⟩
      | succ k2 =>
       have hi : i < tags.length := by have := HJ.out; omega
       have e3 : decide ((i : Int) < (tags.length : Int)) = true := dT (by omega)
       have e4 : decide (i < tags.length) = true := dT hi
       have hi0 : (0 : Int) ≤ (i : Int) := by omega
       have hi1 : (i : Int) < (tags.length : Int) := by omega
       obtain ⟨a8, c8', e8, y8⟩ := int_cell (HS.out.ro 2 rfl) i (by have := HNL.out; omega)
       rw [HNL.out] at e8
       cases e8
       obtain ⟨a5, c5', e5, y5⟩ := int_cell (HS.out.ro 1 rfl) i (by have := HOL.out; omega)
       rw [HOL.out] at e5
       cases e5
       have HQ2 := aM (show (q || decide (nx.getD i 0 ≠ of_.getD i 0)) = (List.range (i + 1)).any (fun i => decide (nx.getD i 0 ≠ of_.getD i 0)) by rw [range_any, HQ.out])
       obtain ⟨x8, hx8⟩ : ∃ x, x = nx.getD i 0 := ⟨_, rfl⟩
       obtain ⟨x5, hx5⟩ : ∃ x, x = of_.getD i 0 := ⟨_, rfl⟩
       rw [← hx8, ← hx5] at HQ2
       rw [← hx8] at y8
       rw [← hx5] at y5
       clear hx8 hx5 HQ
       cases q
       case true =>
        go_wp2_with fail
        go_quiet (fail)
        have HS2 := aM (HS.out.drewN nq)
        go_wp2_with fail
        go_roundg k2
        case measure => omega
        case rel => exact ⟨i + 1, true, ⟨by go_num, rfl⟩, ⟨by have := HJ.out; omega⟩, ⟨by rw [← HQ2.out]; rfl⟩, HS2⟩
       case false =>
        have HQ3 := aM (show decide (x8 ≠ x5) = _ from HQ2.out)
        by_cases c : x8 = x5
        ·have f1 : (x8 == x5) = true := beq_iff_eq.mpr c
         have f2 : (x8 != x5) = false := bne_eq_false_iff_eq.mpr c
         have HQ4 := aM (HQ3.out.symm.trans (dF (fun h => h c)))
         clear c HQ2 HQ3
         go_wp2_with fail
         go_quiet (fail)
         have HS2 := aM (HS.out.drewN nq)
         go_wp2_with fail
         go_roundg k2
         case measure => omega
         case rel => exact ⟨i + 1, false, ⟨by go_num, rfl⟩, ⟨by have := HJ.out; omega⟩, ⟨HQ4.out.symm⟩, HS2⟩
        ·have f1 : (x8 == x5) = false := bF c
         have f2 : (x8 != x5) = true := bne_iff_ne.mpr c
         have HQ4 := aM (HQ3.out.symm.trans (dT c))
         clear c HQ2 HQ3
         go_wp2_with fail
         go_quiet (fail)
         have HS2 := aM (HS.out.drewN nq)
         go_wp2_with fail
         go_roundg k2
         case measure => omega
         case rel => exact ⟨i + 1, true, ⟨by go_num, rfl⟩, ⟨by have := HJ.out; omega⟩, ⟨HQ4.out.symm⟩, HS2⟩
def reachS (x : Int) (p : List Int × List Int) : List Int × List Int := if 0 ≤ x ∧ p.2.getD x.toNat 0 < 0 then (p.1 ++ [x], p.2.set x.toNat (p.1.length : Int)) else p
def reachK (next : List (List Int)) (l of_ : List Int) (s : Nat) : List Int → List Int × List Int → List Int × List Int
 | [], p => p
 | k :: ks, p => reachK next l of_ s ks (reachS (kindL next l of_ s k.toNat) p)
def reachGo (next : List (List Int)) (l of_ order : List Int) : Nat → Nat → List Int × List Int → List Int × List Int
 | 0, _, p => p
 | f + 1, i, p => if i < p.1.length then reachGo next l of_ order f (i + 1) (reachK next l of_ (p.1.getD i 0).toNat order p) else p
def reachL (next : List (List Int)) (l of_ order : List Int) : List Int × List Int :=
 reachGo next l of_ order of_.length 0 ([of_.getD 0 0], (List.replicate of_.length (-1)).set (of_.getD 0 0).toNat 0)
def negs (l : List Int) : Nat := l.countP (fun x => decide (x < 0))
structure RQ (n : Nat) (p : List Int × List Int) : Prop where
 len : p.2.length = n
 sum : p.1.length + negs p.2 = n
 out : ∀ x ∈ p.1, 0 ≤ x ∧ x < (n : Int)
 at_ : ∀ x ∈ p.2, -1 ≤ x ∧ x < (p.1.length : Int)
theorem negs_set : ∀ (l : List Int) (i : Nat) (v : Int), i < l.length → l.getD i 0 < 0 → 0 ≤ v → negs (l.set i v) + 1 = negs l
 | [], i, v, h, _, _ => by simp at h
 | x :: t, 0, v, _, h, hv => by
  have h2 : x < 0 := h
  have h3 : ¬ v < 0 := by omega
  simp [negs, h2, h3]
 | x :: t, i + 1, v, h, h0, hv => by
  have ih := negs_set t i v (by simpa using h) h0 hv
  unfold negs at ih ⊢
  simp only [List.set_cons_succ, List.countP_cons]
  omega
theorem negs_rep (n : Nat) : negs (List.replicate n (-1)) = n := by
 unfold negs
 induction n with
 | zero => rfl
 | succ n ih => rw [List.replicate_succ, List.countP_cons, ih]; rfl
theorem mem_set_ {α : Type} {l : List α} {i : Nat} {v x : α} (h : x ∈ l.set i v) : x = v ∨ x ∈ l := by
 rcases List.mem_or_eq_of_mem_set h with h | h
 ·exact .inr h
 ·exact .inl h
theorem RQ.step {n : Nat} {p : List Int × List Int} (h : RQ n p) (x : Int) (hx : x < (n : Int)) : RQ n (reachS x p) := by
 unfold reachS
 split
 ·next c =>
  have hl : x.toNat < p.2.length := by rw [h.len]; omega
  refine ⟨by simp [h.len], ?_, ?_, ?_⟩
  ·have := negs_set p.2 x.toNat (p.1.length : Int) hl c.2 (by omega)
   have := h.sum
   simp only [lA, lS]
   omega
  ·intro y hy
   rcases List.mem_append.1 hy with hy | hy
   ·exact h.out y hy
   ·obtain rfl := List.mem_singleton.1 hy
    omega
  ·intro y hy
   simp only [lA, lS]
   rcases mem_set_ hy with rfl | hy
   ·omega
   ·have := h.at_ y hy
    omega
 ·exact h
theorem kindL_lt (next : List (List Int)) (l of_ : List Int) (i k n : Nat) (hof : ∀ x ∈ of_, 0 ≤ x ∧ x < (n : Int)) (hx : (next.getD i []).getD k 0 < (of_.length : Int)) : -1 ≤ kindL next l of_ i k ∧ kindL next l of_ i k < (n : Int) := by
 unfold kindL
 have := toL_lt next l i k (of_.length : Int) hx (by omega)
 split
 ·omega
 ·have := hof _ (mem_getD of_ 0 (toL next l i k).toNat (by omega))
  omega
theorem RQ.row {n : Nat} (next : List (List Int)) (l of_ : List Int) (s : Nat) (hof : ∀ x ∈ of_, 0 ≤ x ∧ x < (n : Int)) : ∀ (order : List Int) (p : List Int × List Int), RQ n p → (∀ k ∈ order, (next.getD s []).getD k.toNat 0 < (of_.length : Int)) → RQ n (reachK next l of_ s order p)
 | [], p, h, _ => h
 | k :: ks, p, h, hk => RQ.row next l of_ s hof ks _ (h.step _ (kindL_lt next l of_ s k.toNat n hof (hk k List.mem_cons_self)).2) (fun k' hk' => hk k' (List.mem_cons_of_mem _ hk'))
theorem RQ.init {n : Nat} {of_ : List Int} (hl : of_.length = n) (hn : 0 < n) (hof : ∀ x ∈ of_, 0 ≤ x ∧ x < (n : Int)) : RQ n ([of_.getD 0 0], (List.replicate n (-1)).set (of_.getD 0 0).toNat 0) := by
 have h0 := hof _ (mem_getD of_ 0 0 (by omega))
 have hg : (List.replicate n (-1 : Int)).getD (of_.getD 0 0).toNat 0 < 0 := by
  rw [List.getD_eq_getElem?_getD, List.getElem?_replicate, if_pos (by omega)]; decide
 refine ⟨by simp, ?_, ?_, ?_⟩
 ·have := negs_set (List.replicate n (-1)) (of_.getD 0 0).toNat 0 (by rw [List.length_replicate]; omega) hg (by omega)
  rw [negs_rep] at this
  simp only [lS]
  omega
 ·intro y hy
  obtain rfl := List.mem_singleton.1 hy
  exact h0
 ·intro y hy
  simp only [lS]
  rcases mem_set_ hy with rfl | hy
  ·omega
  ·have := List.eq_of_mem_replicate hy
   omega
theorem RQ.le {n : Nat} {p : List Int × List Int} (h : RQ n p) : p.1.length ≤ n := by have := h.sum; omega
theorem RQ.go {n : Nat} (next : List (List Int)) (l of_ order : List Int) (hof : ∀ x ∈ of_, 0 ≤ x ∧ x < (n : Int)) (hok : ∀ s : Nat, s < n → ∀ k ∈ order, (next.getD s []).getD k.toNat 0 < (of_.length : Int)) : ∀ f i p, RQ n p → RQ n (reachGo next l of_ order f i p) ∧ p.1.length ≤ (reachGo next l of_ order f i p).1.length := by
 have hrow : ∀ s (order : List Int) (p : List Int × List Int), p.1.length ≤ (reachK next l of_ s order p).1.length := by
  intro s order
  induction order with
  | nil => exact fun p => Nat.le_refl _
  | cons k ks ih =>
   intro p
   refine Nat.le_trans ?_ (ih _)
   unfold reachS
   split
   ·simp
   ·exact Nat.le_refl _
 intro f
 induction f with
 | zero => exact fun i p h => ⟨h, Nat.le_refl _⟩
 | succ f ih =>
  intro i p h
  unfold reachGo
  split
  ·next c =>
   have hs := h.out _ (mem_getD p.1 0 i c)
   have := ih (i + 1) _ (h.row next l of_ _ hof order p (fun k hk => hok (p.1.getD i 0).toNat (by omega) k hk))
   exact ⟨this.1, Nat.le_trans (hrow _ _ _) this.2⟩
  ·exact ⟨h, Nat.le_refl _⟩
theorem reach_rq (next : List (List Int)) (l of_ order : List Int) (hn : 0 < of_.length) (hof : ∀ x ∈ of_, 0 ≤ x ∧ x < (of_.length : Int)) (hok : ∀ s : Nat, s < of_.length → ∀ k ∈ order, (next.getD s []).getD k.toNat 0 < (of_.length : Int)) : RQ of_.length (reachL next l of_ order) ∧ 1 ≤ (reachL next l of_ order).1.length :=
 RQ.go next l of_ order hof hok of_.length 0 _ (RQ.init rfl hn hof)
theorem add_nil (a : Addr) : a.add 0 = a := by simp [Addr.add]
theorem fill_set (a b : Int) (i m : Nat) : (List.replicate i a ++ List.replicate (m + 1) b).set i a = List.replicate (i + 1) a ++ List.replicate m b := by
 rw [List.set_append, if_neg (by simp), List.length_replicate, Nat.sub_self, List.replicate_succ (n := m), List.set_cons_zero, List.replicate_succ', List.append_assoc]
 rfl
set_option maxHeartbeats 8000000 in
theorem reach_calls (X : Nat → Prop) (vp vn vt vl vo vr : Value) (parts : List (List Sp)) (next : List (List Int)) (tags l of_ order : List Int) (w : World) (hX : ∀ k, X k → k < w.heap.size) (hp : PV kSps X w vp parts) (hn : PV kRow X w vn next) (ht : PV kInt X w vt tags) (hl : PV kInt X w vl l) (ho : PV kInt X w vo of_) (hr : PV kInt X w vr order)
  (hn0 : 0 < of_.length) (hof : ∀ x ∈ of_, 0 ≤ x ∧ x < (of_.length : Int)) (hor : ∀ k ∈ order, 0 ≤ k ∧ k < (parts.length : Int)) (hol : of_.length = l.length) (hnl : next.length = l.length) (hok : Ok12 parts.length l.length next) (hlen : l.length ≤ 1000000) :
  Calls Tryz.prog 80 #[.agg #[vp, vn, vt], vl, vo, vr] w fun e w' => ∃ v1 v2, e = .returned (.tuple #[v1, v2]) ∧ PV kInt X w' v1 (reachL next l of_ order).1 ∧ PV kInt X w' v2 (reachL next l of_ order).2 ∧ Below w.heap.size w w' := by
 have H0 := aM hp
 have H1 := aM hn
 have H2 := aM ht
 have H3 := aM hl
 have H4 := aM ho
 have H5 := aM hr
 have mr := hr.max
 have HS := aM ((Sep.start hX).push_box [vp, vn, vt] 80)
 have HOK := aM hok
 have HOF := aM hof
 have HOR := aM hor
 have HLE := aM (show 0 < of_.length ∧ of_.length = l.length ∧ next.length = l.length ∧ l.length ≤ 1000000 from ⟨hn0, hol, hnl, hlen⟩)
 obtain ⟨Ap, cp, rfl, _, _⟩ := hp.now
 obtain ⟨An, cn, rfl, _, _⟩ := hn.now
 obtain ⟨At, ct, rfl, _, _⟩ := ht.now
 obtain ⟨Al, cl, rfl, _, _⟩ := hl.now
 obtain ⟨ao, co, rfl, yo0⟩ := int_cell ho 0 hn0
 obtain ⟨Ar, cr, rfl, _, _⟩ := hr.now
 have hlen2 : of_.length ≤ 1000000 := by omega
 have h00 := hof _ (mem_getD of_ 0 0 hn0)
 obtain ⟨r, hr⟩ : ∃ r, r = reachL next l of_ order := ⟨_, rfl⟩
 rw [← hr]
 unfold reachL at hr
 have HI := aM (RQ.init rfl hn0 hof)
 generalize ho0x : of_.getD 0 0 = o0 at *
 obtain ⟨n0, rfl⟩ := Int.eq_ofNat_of_zero_le h00.1
 rw [Int.toNat_natCast] at hr HI
 have HR := aM hr.symm
 have HO0 := aM ho0x
 have h01 : n0 < of_.length := by omega
 have ho0 : (0 : Int) < (of_.length : Int) := by omega
 have hn00 : (0 : Int) ≤ (n0 : Int) := by omega
 have hn01 : (n0 : Int) < (of_.length : Int) := by omega
 have yo1 := pw_cell_below (below_alloc (Below.refl _ _) (.cells #[.slice Ap parts.length cp, .slice An next.length cn, .slice At tags.length ct] 80)) yo0
 rw [add_nil] at yo1
 clear hp hn ht hl ho hX hok hof hor hol hnl hlen hn0 h00 hr yo0
 go_enter Tryz.func80, Tryz.ntmps80
 go_wp2_with (first
  | ((with_reducible refine gate_dst (N := 19) rfl ?_); refine slit_row kInt 3 ?hg (N := 19) ?hd (xs := [(n0 : Int)]) (inner := [.int .i64 (n0 : Int)]) ?hr HS.out ?hp (by simp) ?_; (case hd => rfl); (case hg => rfl); (case hr => first | (go_simp; done) | (go_simp; rfl)); (case hp => exact Reps.one (PK.scalar _) (Reps.none _ _)); clear HS; intro v10 w10 hs; have HS := aM hs; clear hs)
  | ((with_reducible refine gate_dst (N := 22) rfl ?_); refine smake .i64 3 rfl (N := 22) rfl 26 (.tmp 21) (.tmp 21) rfl of_.length rfl rfl Tryz.underlying26 8 info3' (by omega) (by omega) HS.out ?_; clear HS; intro v11 w11 hs; have HS := aM hs; clear hs))
 clear yo1
 go_loopg [12] of_.length (fun m v12 w' => ∃ (i : Nat) (o : List Int), v12 = .int .i64 i ∧ Aside0 (i + m = of_.length) ∧ Aside0 (o = List.replicate i (-1) ++ List.replicate m 0) ∧ Aside0 (Sep X w w' [.box w.heap.size 80 [.slice Ap parts.length cp, .slice An next.length cn, .slice At tags.length ct], .row kInt 3 v10 [(n0 : Int)], .row kInt 3 v11 o]))
 case atStart => exact ⟨0, _, rfl, ⟨by omega⟩, ⟨rfl⟩, HS⟩
 case round =>
  clear HS
  obtain ⟨i, o, rfl, HJ, HO, HS⟩ := hrel
  have HOL := aM (show o.length = of_.length by rw [HO.out]; have := HJ.out; simp; omega)
  obtain ⟨A11, c11, e11⟩ := HS.out.form 2 rfl
  rw [HOL.out] at e11
  subst e11
  cases gk with
  | succ k1 =>
   have hi : i < of_.length := by have := HJ.out; omega
   have e1 : decide ((i : Int) < (of_.length : Int)) = true := dT (by omega)
   have e2 : decide (i < of_.length) = true := dT hi
   have hi0 : (0 : Int) ≤ (i : Int) := by omega
   have hi1 : (i : Int) < (of_.length : Int) := by omega
   obtain ⟨g, cg, eg, yi, fi, hset⟩ := HS.out.int 2 rfl i (by have := HOL.out; omega)
   rw [HOL.out] at eg
   cases eg
   have HSET := aM (hset (-1))
   have HO2 := aM (show o.set i (-1) = List.replicate (i + 1) (-1) ++ List.replicate k1 0 by rw [HO.out]; exact fill_set _ _ _ _)
   clear hset
   go_wp2_with fail
   go_roundg k1
   case measure => omega
   case rel => exact ⟨i + 1, _, by go_num, ⟨by have := HJ.out; omega⟩, HO2, HSET⟩
  | zero =>
   have e1 : decide ((i : Int) < (of_.length : Int)) = false := dF (by have := HJ.out; omega)
   have e2 : decide (i < of_.length) = false := dF (by have := HJ.out; omega)
   have HO2 := aM (show o = List.replicate of_.length (-1) by rw [HO.out, show i = of_.length by have := HJ.out; omega]; simp)
   obtain ⟨g, cg, eg, yi, fi, hset⟩ := HS.out.int 2 rfl n0 (by have := HOL.out; omega)
   rw [HOL.out] at eg
   cases eg
   obtain ⟨ao', co', ea, yo⟩ := int_cell (HS.out.arg H4.out) 0 HLE.out.1
   cases ea
   rw [add_nil, HO0.out] at yo
   have HSET := aM (hset 0)
   have HP := aM (show RQ of_.length ([(n0 : Int)], o.set n0 0) by rw [HO2.out]; exact HI.out)
   have HR2 := aM (show reachGo next l of_ order of_.length 0 ([(n0 : Int)], o.set n0 0) = r by rw [HO2.out]; exact HR.out)
   clear hset HO HOL HS HI HR
   go_wp2_with fail
   clear yo yi fi e1 e2
   go_loopg [10, 13] of_.length (fun m v10 v13 w' => ∃ (i : Nat) (p : List Int × List Int), v13 = .int .i64 i ∧ Aside0 (i + m = of_.length) ∧ Aside0 (RQ of_.length p) ∧ Aside0 (reachGo next l of_ order m i p = r) ∧ Aside0 (Sep X w w' [.box w.heap.size 80 [.slice Ap parts.length cp, .slice An next.length cn, .slice At tags.length ct], .row kInt 3 v10 p.1, .row kInt 3 (.slice (some ⟨g, 0, none⟩) of_.length c11) p.2]))
   case atStart => exact ⟨0, ([(n0 : Int)], o.set n0 0), rfl, ⟨by omega⟩, HP, HR2, HSET⟩
   case round =>
    clear HSET HP HR2 HO2
    obtain ⟨i, p, rfl, HJ, HP, HR, HS⟩ := hrel
    have HPL := aM HP.out.le
    obtain ⟨A10, c10, e10⟩ := HS.out.form 1 rfl
    subst e10
    by_cases hi : i < p.1.length
    case neg =>
     have e1 : decide ((i : Int) < (p.1.length : Int)) = false := dF (by omega)
     have e2 : decide (i < p.1.length) = false := dF (by omega)
     have q0 : p = r := by
      have := HR.out
      cases gk with
      | zero => exact this
      | succ f => rw [reachGo, if_neg hi] at this; exact this
     clear HR
     subst q0
     go_wp2_with fail
     go_ret2
     exact ⟨_, _, rfl, HS.out.res_row 1 rfl, HS.out.res_row 2 rfl, HS.out.below⟩
    case pos =>
     cases gk with
     | zero => have := HJ.out; have := HPL.out; omega
     | succ k1 =>
      have e1 : decide ((i : Int) < (p.1.length : Int)) = true := dT (by omega)
      have e2 : decide (i < p.1.length) = true := dT hi
      have hi0 : (0 : Int) ≤ (i : Int) := by omega
      have hsx := HP.out.out _ (mem_getD p.1 0 i hi)
      have HR1 := HR.out
      rw [reachGo, if_pos hi] at HR1
      obtain ⟨s, hs⟩ : ∃ s : Nat, p.1.getD i 0 = (s : Int) := ⟨(p.1.getD i 0).toNat, by omega⟩
      rw [hs, Int.toNat_natCast] at HR1
      have HSN := aM (show s < of_.length by omega)
      have HSX := aM hs
      obtain ⟨p', hp'⟩ : ∃ q, q = reachK next l of_ s order p := ⟨_, rfl⟩
      rw [← hp'] at HR1
      have HR2 := aM HR1
      have HRK := aM (show reachK next l of_ s (order.drop 0) p = p' from hp'.symm)
      have HPI := aM (show p.1.getD i 0 = (s : Int) ∧ i < p.1.length from ⟨hs, hi⟩)
      clear hsx HR1 HR hs hp' HSX e1
      go_wp2_with fail
      clear e2 hi
      go_loopg [10, 14] order.length (fun m v10 v14 w' => ∃ (k : Nat) (q : List Int × List Int), v14 = .int .i64 k ∧ Aside0 (k + m = order.length) ∧ Aside0 (RQ of_.length q) ∧ Aside0 (q.1.getD i 0 = (s : Int) ∧ i < q.1.length) ∧ Aside0 (reachK next l of_ s (order.drop k) q = p') ∧ Aside0 (Sep X w w' [.box w.heap.size 80 [.slice Ap parts.length cp, .slice An next.length cn, .slice At tags.length ct], .row kInt 3 v10 q.1, .row kInt 3 (.slice (some ⟨g, 0, none⟩) of_.length c11) q.2]))
      case atStart => exact ⟨0, p, rfl, ⟨by omega⟩, HP, HPI, HRK, HS⟩
      case round =>
       clear HRK HP HPI HS HPL
       obtain ⟨k, q, rfl, HK, HP, HPI, HRK, HS⟩ := hrel
       obtain ⟨A10, c10, e10⟩ := HS.out.form 1 rfl
       subst e10
       cases gk with
       | zero =>
        have e1 : decide ((k : Int) < (order.length : Int)) = false := dF (by have := HK.out; omega)
        have e2 : decide (k < order.length) = false := dF (by have := HK.out; omega)
        have q0 : q = p' := by
         have := HRK.out
         rw [List.drop_eq_nil_of_le (by have := HK.out; omega)] at this
         exact this
        clear HRK
        subst q0
        have hib : i < of_.length := by have := HPI.out.2; have := HP.out.le; omega
        go_wp2_with fail
        go_roundg k1
        case measure => omega
        case rel => exact ⟨i + 1, q, by go_num, ⟨by have := HJ.out; omega⟩, HP, HR2, HS⟩
       | succ k2 =>
        have hk : k < order.length := by have := HK.out; omega
        have e1 : decide ((k : Int) < (order.length : Int)) = true := dT (by omega)
        have e2 : decide (k < order.length) = true := dT hk
        have hk0 : (0 : Int) ≤ (k : Int) := by omega
        have hk1 : (k : Int) < (order.length : Int) := by omega
        have hiq : (i : Int) < (q.1.length : Int) := by have := HPI.out.2; omega
        have hord := HOR.out _ (mem_getD order 0 k hk)
        obtain ⟨ar, cr', er, yr0⟩ := int_cell (HS.out.arg H5.out) k hk
        cases er
        obtain ⟨gi, ci, ei, yi0, _, _⟩ := HS.out.int 1 rfl i HPI.out.2
        cases ei
        rw [HPI.out.1] at yi0
        have HRK1 := HRK.out
        rw [drop_at order 0 k hk, reachK] at HRK1
        generalize order.getD k 0 = kk at *
        obtain ⟨kn, rfl⟩ := Int.eq_ofNat_of_zero_le hord.1
        rw [Int.toNat_natCast] at HRK1
        have HKN := aM (show kn < parts.length by omega)
        obtain ⟨x, hx⟩ : ∃ x, x = kindL next l of_ s kn := ⟨_, rfl⟩
        rw [← hx] at HRK1
        have HX1 := aM hx.symm
        have HXR := aM (show -1 ≤ x ∧ x < (of_.length : Int) by rw [hx]; exact kindL_lt next l of_ s kn of_.length HOF.out (by have := (HOK.out s (by have := HSN.out; have := HLE.out; omega)).2 kn HKN.out; have := HLE.out; omega))
        have HRK2 := aM HRK1
        clear hord hx HRK1 HRK
        have y0 := (HS.out.box 0 rfl).cell 0 rfl
        have y1 := (HS.out.box 0 rfl).cell 1 rfl
        have y2 := (HS.out.box 0 rfl).cell 2 rfl
        have HBd := aM (below_drew (Below.refl wr.heap.size wr))
        have yd0 := pw_cell_below HBd.out y0
        have yd1 := pw_cell_below HBd.out y1
        have yd2 := pw_cell_below HBd.out y2
        have yd3 := pw_cell_below HBd.out yi0
        have yd4 := pw_cell_below HBd.out yr0
        have HD := aM (fun (W : World) (hb : Below wr.heap.size wr W) => kind_calls (Ys X _) (.slice Ap parts.length cp) (.slice An next.length cn) (.slice At tags.length ct) (.slice Al l.length cl) (.slice (some ao) of_.length co) parts next tags l of_ s kn W (((HS.out.call hb).arg H0.out)) ((HS.out.call hb).arg H1.out) ((HS.out.call hb).arg H2.out) ((HS.out.call hb).arg H3.out) ((HS.out.call hb).arg H4.out) (by have := HSN.out; have := HLE.out; omega) (by rw [(HOK.out s (by have := HSN.out; have := HLE.out; omega)).1]; exact HKN.out) ((HOK.out s (by have := HSN.out; have := HLE.out; omega)).2 kn HKN.out) HLE.out.2.1)
        clear y0 y1 y2 yi0 yr0
        go_wp2_with fail
        refine start_ (n := 13) (S := fun w' => w'.cell? ⟨w.heap.size, 0, none⟩ = some (.slice Ap parts.length cp) ∧ w'.cell? ⟨w.heap.size, 1, none⟩ = some (.slice An next.length cn) ∧ w'.cell? ⟨w.heap.size, 2, none⟩ = some (.slice At tags.length ct) ∧ w'.cell? ⟨gi, i, none⟩ = some (.int .i64 (s : Int)) ∧ w'.cell? (ar.add k) = some (.int .i64 (kn : Int))) (ds := []) #[false, false, false, false, false, false, false, false, false, false, false, false, false] (by kernel_rfl) rfl rfl ⟨yd0, yd1, yd2, yd3, yd4⟩ (fun hHeld => ?_)
        refine pure_ (i := 1) (N := some 50) (v := ?_) (a' := ?_) (bv 13 2) rfl rfl (by kernel_rfl) (fun _ _ _ h => h) (Or.inl ⟨by rfl, ?_⟩) ?_ ?_
        rotate_left
        ·intro w'
         go_simp
         with_reducible rfl
        rotate_left
        ·simp only [Act.put, qA, qB, qC, i64_w, i32_w]
         rfl
        refine pure_ (i := 2) (N := some 51) (v := ?_) (a' := ?_) (bv 13 6) rfl rfl (by kernel_rfl) (fun _ _ _ h => h) (Or.inl ⟨by rfl, ?_⟩) ?_ ?_
        rotate_left
        ·intro w'
         go_simp
         with_reducible rfl
        rotate_left
        ·simp only [Act.put, qA, qB, qC, i64_w, i32_w]
         rfl
        refine pure_ (i := 3) (N := some 52) (v := ?_) (a' := ?_) (bv 13 14) rfl rfl (by kernel_rfl) (fun _ _ _ h => h) (Or.inl ⟨by rfl, ?_⟩) ?_ ?_
        rotate_left
        ·intro w'
         go_simp
         with_reducible rfl
        rotate_left
        ·simp only [Act.put, qA, qB, qC, i64_w, i32_w]
         rfl
        refine pure_ (i := 4) (N := some 53) (v := ?_) (a' := ?_) (bv 13 30) rfl rfl (by kernel_rfl) (fun _ _ _ h => h) (Or.inl ⟨by rfl, ?_⟩) ?_ ?_
        rotate_left
        ·intro w'
         go_simp
         with_reducible rfl
        rotate_left
        ·simp only [Act.put, qA, qB, qC, i64_w, i32_w]
         rfl
        refine pure_ (i := 5) (N := some 54) (v := ?_) (a' := ?_) (bv 13 62) rfl rfl (by kernel_rfl) (fun _ _ _ h => h) (Or.inl ⟨by rfl, ?_⟩) ?_ ?_
        rotate_left
        ·intro w'
         go_simp
         with_reducible rfl
        rotate_left
        ·simp only [Act.put, qA, qB, qC, i64_w, i32_w]
         rfl
        refine pure_ (i := 7) (N := some 56) (v := ?_) (a' := ?_) (bv 13 190) rfl rfl (by kernel_rfl) (fun _ _ _ h => h) (Or.inl ⟨by rfl, ?_⟩) ?_ ?_
        rotate_left
        ·intro w'
         go_simp
         with_reducible rfl
        rotate_left
        ·simp only [Act.put, qA, qB, qC, i64_w, i32_w]
         rfl
        refine pure_ (i := 8) (N := some 57) (v := ?_) (a' := ?_) (bv 13 446) rfl rfl (by kernel_rfl) (fun _ _ _ h => h) (Or.inl ⟨by rfl, ?_⟩) ?_ ?_
        rotate_left
        ·intro w'
         go_simp
         with_reducible rfl
        rotate_left
        ·simp only [Act.put, qA, qB, qC, i64_w, i32_w]
         rfl
        refine pure_ (i := 9) (N := some 58) (v := ?_) (a' := ?_) (bv 13 958) rfl rfl (by kernel_rfl) (fun _ _ _ h => h) (Or.inl ⟨by rfl, ?_⟩) ?_ ?_
        rotate_left
        ·intro w'
         go_simp
         with_reducible rfl
        rotate_left
        ·simp only [Act.put, qA, qB, qC, i64_w, i32_w]
         rfl
        refine take_ (i := 0) (N := some 49) (v := ?_) (a' := ?_) (bv 13 959) rfl rfl (by kernel_rfl) (fun _ _ _ h => h) (Or.inl ⟨by rfl, ?_⟩) hHeld ?_ ?_
        rotate_left
        ·rintro w' ⟨s0, s1, s2, s3, s4⟩
         go_simp
         with_reducible rfl
        rotate_left
        ·simp only [Act.put, qA, qB, qC, i64_w, i32_w]
         rfl
        refine take_ (i := 6) (N := some 55) (v := ?_) (a' := ?_) (bv 13 1023) rfl rfl (by kernel_rfl) (fun _ _ _ h => h) (Or.inl ⟨by rfl, ?_⟩) hHeld ?_ ?_
        rotate_left
        ·rintro w' ⟨s0, s1, s2, s3, s4⟩
         go_simp
         with_reducible rfl
        rotate_left
        ·simp only [Act.put, qA, qB, qC, i64_w, i32_w]
         rfl
        refine take_ (i := 10) (N := some 59) (v := ?_) (a' := ?_) (bv 13 2047) rfl rfl (by kernel_rfl) (fun _ _ _ h => h) (Or.inl ⟨by rfl, ?_⟩) hHeld ?_ ?_
        rotate_left
        ·rintro w' ⟨s0, s1, s2, s3, s4⟩
         go_simp
         with_reducible rfl
        rotate_left
        ·simp only [Act.put, qA, qB, qC, i64_w, i32_w]
         rfl
        refine one_ (i := 11) (N := some 60) (bv 13 4095) rfl rfl (by kernel_rfl) (by decide) (fun K hK => ?_)
        refine goes_ Tryz.func83 (by kernel_rfl) rfl #[.agg #[.slice Ap parts.length cp, .slice An next.length cn, .slice At tags.length ct], .slice Al l.length cl, .slice (some ao) of_.length co, .int .i64 (s : Int), .int .i64 (kn : Int)] (by rfl) rfl rfl (by simp only [List.map_toArray, List.map_cons, List.map_nil]; rfl) ?_
        with_reducible refine (HD.out _ HBd.out).mono ?_
        rintro e w5 ⟨rfl, hb5⟩
        refine ⟨_, rfl, ?_⟩
        rw [HX1.out]
        have HB5 := aM (below_step HBd.out hb5)
        have z0 := pw_cell_below hb5 hHeld.1
        have z1 := pw_cell_below hb5 hHeld.2.1
        have z2 := pw_cell_below hb5 hHeld.2.2.1
        have z3 := pw_cell_below hb5 hHeld.2.2.2.1
        have z4 := pw_cell_below hb5 hHeld.2.2.2.2
        clear hb5 hHeld
        refine hK.out _ _ ⟨z0, z1, z2, z3, z4⟩ (fun hHeld => ?_)
        clear hK K
        refine norm_ (a' := ?_) ?_ ?_
        rotate_left
        ·show Act.put _ (some 60) _ = _
         simp only [Act.put, qA, qB, qC, i64_w, i32_w]
         rfl
        refine pure_ (i := 12) (N := some 15) (v := ?_) (a' := ?_) (bv 13 8191) rfl rfl (by kernel_rfl) (fun _ _ _ h => h) (Or.inl ⟨by rfl, ?_⟩) ?_ ?_
        rotate_left
        ·intro w'
         go_simp
         with_reducible rfl
        rotate_left
        ·simp only [Act.put, qA, qB, qC, i64_w, i32_w]
         rfl
        refine done_ (by kernel_rfl) ?_
        clear hHeld z0 z1 z2 z3 z4 yd0 yd1 yd2 yd3 yd4 HD
        have HS5 := aM (HS.out.call HB5.out)
        rcases Int.lt_or_le x 0 with c | c
        case inl =>
         have d1 : decide (x ≥ 0) = false := dF (by omega)
         have d2 : decide (0 ≤ x) = false := dF (by omega)
         have HRK3 := aM (show reachK next l of_ s (order.drop (k + 1)) q = p' by have := HRK2.out; rwa [reachS, if_neg (fun h => by omega)] at this)
         go_wp2_with fail
         go_roundg k2
         case measure => omega
         case rel => exact ⟨k + 1, q, by go_num, ⟨by have := HK.out; omega⟩, HP, HPI, HRK3, HS5⟩
        case inr =>
         obtain ⟨n, rfl⟩ := Int.eq_ofNat_of_zero_le c
         have d1 : decide ((n : Int) ≥ 0) = true := dT (by omega)
         have d2 : decide (0 ≤ (n : Int)) = true := dT (by omega)
         have hnl := HXR.out.2
         obtain ⟨g2, cg2, eg2, yn, fn, hset⟩ := HS5.out.int 2 rfl n (by have := HP.out.len; omega)
         rw [HP.out.len] at eg2
         cases eg2
         have hn0 : (0 : Int) ≤ (n : Int) := by omega
         have HST := aM (HP.out.step (n : Int) HXR.out.2)
         have HSET := aM (hset (q.1.length : Int))
         obtain ⟨z, hz⟩ : ∃ z, z = q.2.getD n 0 := ⟨_, rfl⟩
         rw [← hz] at yn
         rw [reachS, Int.toNat_natCast, ← hz] at HRK2
         rw [reachS, Int.toNat_natCast, ← hz] at HST
         clear hset hz
         rcases Int.lt_or_le z 0 with c2 | c2
         case inl =>
          have d3 : decide (z < 0) = true := dT c2
          have HP2 := aM (show RQ of_.length (q.1 ++ [(n : Int)], q.2.set n (q.1.length : Int)) by have := HST.out; rwa [if_pos ⟨c, c2⟩] at this)
          have HRK3 := aM (show reachK next l of_ s (order.drop (k + 1)) (q.1 ++ [(n : Int)], q.2.set n (q.1.length : Int)) = p' by have := HRK2.out; rwa [if_pos ⟨c, c2⟩] at this)
          have HPI2 := aM (show (q.1 ++ [(n : Int)]).getD i 0 = (s : Int) ∧ i < (q.1 ++ [(n : Int)]).length by
           refine ⟨?_, by simp; have := HPI.out.2; omega⟩
           rw [List.getD_eq_getElem?_getD, List.getElem?_append_left HPI.out.2, ← List.getD_eq_getElem?_getD]
           exact HPI.out.1)
          have HQL := aM HP.out.le
          clear HS HS5 HRK2 HST c c2
          have HS := HSET
          clear HSET
          go_wp2_with (first
           | ((with_reducible refine gate_dst (N := 77) rfl ?_); refine slit kInt 3 ?hg (N := 77) ?hd (xs := [(n : Int)]) (inner := [.int .i64 (n : Int)]) ?hr HS.out ?hp (by simp) ?_; (case hd => rfl); (case hg => rfl); (case hr => first | (go_simp; done) | (go_simp; rfl)); (case hp => exact Reps.one (PK.scalar _) (Reps.none _ _)); clear HS; intro v7 w7 hs; have HS := aM hs; clear hs)
           | ((with_reducible refine gate_builtin (b := .append) (xs := #[.tmp 75, .tmp 77]) rfl ?_); at_builtin; refine sgrow kInt 1 rfl (.tmp 75) (.tmp 77) 26 3 (.int .i64 0) 8 rfl Tryz.underlying26 info3' rfl (by decide) (by omega) _ _ q.1 [(n : Int)] rfl rfl HS.out rfl (HS.out.ro 3 rfl) (by have := HQL.out; simp; omega) ?_; clear HS; intro v8 w8 hs; have HS := aM hs; clear hs))
          go_roundg k2
          case measure => omega
          case rel => exact ⟨k + 1, _, by go_num, ⟨by have := HK.out; omega⟩, HP2, HPI2, HRK3, ⟨HS.out.take 3⟩⟩
         case inr =>
          have d3 : decide (z < 0) = false := dF (by omega)
          have HRK3 := aM (show reachK next l of_ s (order.drop (k + 1)) q = p' by have := HRK2.out; rwa [if_neg (fun h => by omega)] at this)
          clear HSET HST
          go_wp2_with fail
          go_roundg k2
          case measure => omega
          case rel => exact ⟨k + 1, q, by go_num, ⟨by have := HK.out; omega⟩, HP, HPI, HRK3, HS5⟩
end Go.Proofs.YtplhfgobeicegaaGreatDoor.P
