/- Part 24 of the proof: S13i, S13j, U2. -/
import Derived.Test.YtplhfgobeicegaaGreatDoorPe20
import Derived.Test.YtplhfgobeicegaaGreatDoorPe23
namespace Go.Proofs.YtplhfgobeicegaaGreatDoor.P
open Go Go.RowKit Go.Proofs.YtplhfgobeicegaaGreatDoorW.PrintWords Go.Proofs.YtplhfgobeicegaaGreatDoorW.PrintLast Go.Proofs.YtplhfgobeicegaaGreatDoorW.PrintMore Go.Proofs.YtplhfgobeicegaaGreatDoor.PX
set_option linter.unusedVariables false
set_option linter.unusedSimpArgs false
set_option maxRecDepth 100000
def lstGo (row : List Int) (f : Int) : List (List Sp) → Nat → Int → Int
 | [], _, a => a
 | p :: t, k, a => lstGo row f t (k + 1) (if inB p f = true then row.getD k 0 else a)
def byteRow (d : DfaS) (fi of_ : List Int) (row : List Int) : List Int := (List.range 256).map (fun c => lstGo row (fi.getD (of_.getD c 0).toNat 0) d.parts 0 (-1))
def dfa13 (next : List (List Int)) (tags : List Int) : DfaS := leastL (asL next tags (classesL next).1).parts (asL next tags (classesL next).1).next tags
def least13 (next : List (List Int)) (tags : List Int) : List (List Int) × List Int :=
 ((dfa13 next tags).next.map (byteRow (dfa13 next tags) (classesL next).1 (classesL next).2), (dfa13 next tags).tags)
theorem least_rows (parts : List (List Sp)) (next : List (List Int)) (tags : List Int) : (∀ row ∈ (leastL parts next tags).next, row.length = (leastL parts next tags).parts.length) ∧ (leastL parts next tags).next.length = (leastL parts next tags).tags.length := by
 unfold leastL leastD leastC leastB
 refine ⟨fun row hr => ?_, by simp⟩
 obtain ⟨s, _, rfl⟩ := List.mem_map.1 hr
 have := sets_keys (bareP parts) _ (groups_gq (bareP parts).length (next.map (bareR parts)) (liveL (next.map (bareR parts)) tags) (firstsL (bareP parts).length (next.map (bareR parts)) tags (liveL (next.map (bareR parts)) tags)) (reachL (next.map (bareR parts)) (liveL (next.map (bareR parts)) tags) (firstsL (bareP parts).length (next.map (bareR parts)) tags (liveL (next.map (bareR parts)) tags)) (natsL (bareP parts).length)).1)
 simp only [leastRow, List.length_map]
 exact this.2.1.symm
theorem least_le (parts : List (List Sp)) (next : List (List Int)) (tags : List Int) (hok : Ok12 parts.length tags.length next) (hnl : next.length = tags.length) (hn0 : 0 < tags.length) : (leastL parts next tags).next.length ≤ tags.length ∧ 1 ≤ (leastL parts next tags).next.length := by
 have hok2 := ok12_bare parts next tags.length hok
 unfold leastL leastD leastC leastB
 rw [List.length_map]
 generalize hN : next.map (bareR parts) = N at *
 generalize hPP : bareP parts = P at *
 have hol := firsts_len P.length N tags (liveL N tags)
 have hnat := (firsts_canon P.length N tags (liveL N tags)).nat
 generalize firstsL P.length N tags (liveL N tags) = o at *
 have hkeys := (sets_keys P _ (groups_gq P.length N (liveL N tags) o (reachL N (liveL N tags) o (natsL P.length)).1)).1
 generalize (setsL P (groupsL P.length N (liveL N tags) o (reachL N (liveL N tags) o (natsL P.length)).1)).2 = keys at *
 have hNl : N.length = tags.length := by rw [← hN, List.length_map]; exact hnl
 have hq := reach_rq N (liveL N tags) o keys (by omega) hnat (fun s hs k hk => by
  rw [hol]
  have := hkeys k hk
  exact (hok2 s (by omega)).2 k.toNat (by omega))
 have := hq.1.le
 omega
theorem as_ok12 (next : List (List Int)) (tags firsts : List Int) (hrow : ∀ i, i < next.length → (next.getD i []).length = 256 ∧ ∀ k, k < 256 → (next.getD i []).getD k 0 < (tags.length : Int)) (hfr : ∀ f ∈ firsts, 0 ≤ f ∧ f < 256) : Ok12 (asL next tags firsts).parts.length tags.length (asL next tags firsts).next := by
 intro i hi
 have hi' : i < next.length := by simpa [asL] using hi
 have e : (asL next tags firsts).next.getD i [] = firsts.map (fun f => (next.getD i []).getD f.toNat 0) := by simp [asL, List.getD_eq_getElem?_getD, hi']
 rw [e]
 refine ⟨by simp [asL], fun k hk => ?_⟩
 have hk' : k < firsts.length := by simpa [asL] using hk
 have e2 : (firsts.map (fun f => (next.getD i []).getD f.toNat 0)).getD k 0 = (next.getD i []).getD (firsts.getD k 0).toNat 0 := by simp [List.getD_eq_getElem?_getD, hk']
 rw [e2]
 have hf := hfr _ (mem_getD firsts 0 k hk')
 exact (hrow i hi').2 _ (by omega)
theorem as_sm (next : List (List Int)) (tags firsts : List Int) (hfr : ∀ f ∈ firsts, 0 ≤ f ∧ f < 256) : ∀ x ∈ (asL next tags firsts).parts, Sm x := by
 intro x hx
 obtain ⟨f, hf, rfl⟩ := List.mem_map.1 hx
 intro s hs
 obtain rfl := List.mem_singleton.1 hs
 have := hfr f hf
 show (_ ≤ f ∧ f ≤ _) ∧ (_ ≤ f ∧ f ≤ _)
 omega
set_option maxHeartbeats 16000000 in
theorem least13_calls (X : Nat → Prop) (vn vt : Value) (next : List (List Int)) (tags : List Int) (w : World) (hX : ∀ k, X k → k < w.heap.size) (hn : PV kRow X w vn next) (ht : PV kInt X w vt tags)
  (hrow : ∀ i, i < next.length → (next.getD i []).length = 256 ∧ ∀ k, k < 256 → (next.getD i []).getD k 0 < (tags.length : Int)) (hnl : next.length = tags.length) (hn0 : 0 < tags.length) (hlen : tags.length ≤ 1000000) (huni : UniOk (bareP (asL next tags (classesL next).1).parts)) :
  Calls Tryz.prog 50 #[.agg #[vn, vt]] w fun e w' => ∃ v0 v1, e = .returned (.agg #[v0, v1]) ∧ PV kRow X w' v0 (least13 next tags).1 ∧ PV kInt X w' v1 (least13 next tags).2 ∧ Below w.heap.size w w' := by
 have H1 := aM hn
 have H2 := aM ht
 have HROW := aM (show ∀ i, i < next.length → (next.getD i []).length = 256 from fun i hi => (hrow i hi).1)
 have hcl := classes_ok next
 obtain ⟨An, cn, rfl, _, _⟩ := hn.now
 obtain ⟨At, ct, rfl, _, _⟩ := ht.now
 have HS := aM (((Sep.start hX).push_box [.slice An next.length cn, .slice At tags.length ct] 49).push_box' [.slice none 0 0, .slice none 0 0] 49 (w.heap.size + 1) (by simp))
 obtain ⟨r, hr⟩ : ∃ r, r = least13 next tags := ⟨_, rfl⟩
 rw [← hr]
 unfold least13 dfa13 at hr
 obtain ⟨cl, hcl2⟩ : ∃ q, q = classesL next := ⟨_, rfl⟩
 rw [← hcl2] at hr hcl huni
 have HCE := aM hcl2.symm
 have HAO := aM (as_ok12 next tags cl.1 hrow hcl.f)
 have HAS := aM (as_sm next tags cl.1 hcl.f)
 have HCL := aM hcl
 have HUNI := aM huni
 have HNL := aM (show next.length ≤ 100000000 ∧ (asL next tags cl.1).next.length = tags.length ∧ 0 < tags.length ∧ tags.length ≤ 1000000 ∧ (asL next tags cl.1).parts.length ≤ 100000 ∧ cl.1.length ≤ 256 from ⟨by omega, by simp [asL, hnl], hn0, hlen, by have := hcl.len; simp [asL]; omega, hcl.len⟩)
 obtain ⟨d, hd⟩ : ∃ q, q = leastL (asL next tags cl.1).parts (asL next tags cl.1).next tags := ⟨_, rfl⟩
 rw [← hd] at hr
 have HDE := aM hd.symm
 have HDR := aM (show (∀ row ∈ d.next, row.length = d.parts.length) ∧ d.next.length = d.tags.length by rw [hd]; exact least_rows _ _ _)
 have HDB := aM (show d.next.length ≤ 1000000 by rw [hd]; exact Nat.le_trans (least_le _ _ _ HAO.out HNL.out.2.1 hn0).1 hlen)
 have HR := aM hr
 clear hn ht hX hrow hnl hn0 hlen huni hr hcl hcl2 hd
 go_enter Tryz.func50, Tryz.ntmps50
 go_wp2_with (first
  | (go_at_call 61; (with_reducible refine (classes_calls _ _ _ next tags _ HS.out.lt (HS.out.arg H1.out) (HS.out.arg H2.out) HROW.out).mono ?_); rintro ee w5 ⟨v3, v4, rfl, hv1, hv2, hb⟩; rw [HCE.out] at hv1 hv2; have hs := (HS.out.push_ro hb hv1).push_ro (Below.refl _ _) (hv2.to (fun _ _ h => Ys_ro h)); clear hv1 hv2 hb; obtain ⟨Af, cf, ef⟩ := hs.rform 2 rfl; subst ef; obtain ⟨Ao, co, eo⟩ := hs.rform 3 rfl; subst eo; have y0 := (hs.box 0 rfl).cell 0 rfl; have y1 := (hs.box 0 rfl).cell 1 rfl; clear HS; have HS := aM hs; clear hs)
  | (go_at_call 62; (with_reducible refine (as_calls _ _ _ _ next tags cl.1 _ HS.out.lt (HS.out.arg H1.out) (HS.out.arg H2.out) (HS.out.ro 2 rfl) HROW.out HCL.out.f HNL.out.2.2.2.2.2 HNL.out.1).mono ?_); rintro ee w6 ⟨v6, v7, rfl, hv1, hv2, hb⟩; have hs := (HS.out.push_ro hb hv1).push_ro (Below.refl _ _) (hv2.to (fun _ _ h => Ys_ro h)); clear hv1 hv2 hb y0 y1; clear HS; have HS := aM hs; clear hs)
  | (go_at_call 60; (with_reducible refine (least_calls _ _ _ _ (asL next tags cl.1).parts (asL next tags cl.1).next tags _ HS.out.lt (HS.out.ro 4 rfl) (HS.out.ro 5 rfl) (HS.out.arg H2.out) HAO.out HNL.out.2.1 HNL.out.2.2.1 HNL.out.2.2.2.1 HNL.out.2.2.2.2.1 HAS.out HUNI.out).mono ?_); rintro ee w7 ⟨v8, v9, v10, rfl, h0, h1, h2, hb⟩; rw [HDE.out] at h0 h1 h2; have hs := (((HS.out.push_ro hb h0).push_ro (Below.refl _ _) (h1.to (fun _ _ h => Ys_ro h))).push_ro (Below.refl _ _) (h2.to (fun _ _ h => Ys_ro (Ys_ro h)))).cut 4 2; clear h0 h1 h2 hb; obtain ⟨B0, d0, e0⟩ := hs.rform 4 rfl; subst e0; obtain ⟨B1, d1, e1⟩ := hs.rform 5 rfl; subst e1; obtain ⟨B2, d2, e2⟩ := hs.rform 6 rfl; subst e2; clear HS; have HS := aM hs; clear hs))
 have hs := ((HS.out.push_box [.slice B0 d.parts.length d0, .slice B1 d.next.length d1, .slice B2 d.tags.length d2] 80).push_box' [.slice none 0 0, .slice B2 d.tags.length d2] 49 (w7.heap.size + 1) (by simp)).push_nil kRow 26
 obtain ⟨g6, hg6⟩ : ∃ g, g = w7.heap.size + 1 := ⟨_, rfl⟩
 obtain ⟨g5, hg5⟩ : ∃ g, g = w7.heap.size := ⟨_, rfl⟩
 obtain ⟨g1, hg1⟩ : ∃ g, g = w.heap.size + 1 := ⟨_, rfl⟩
 obtain ⟨g0, hg0⟩ : ∃ g, g = w.heap.size := ⟨_, rfl⟩
 rw [← hg6, ← hg5, ← hg1, ← hg0] at hs ⊢
 clear hg0 hg1 hg5 hg6 HS
 have HS := aM hs
 clear hs
 obtain ⟨fi, hfi⟩ : ∃ q, q = cl.1 := ⟨_, rfl⟩
 obtain ⟨of_, hof⟩ : ∃ q, q = cl.2 := ⟨_, rfl⟩
 rw [← hfi] at HR
 rw [← hof] at HR
 have hsx : PX.Sep X w _ ([.box g0 49 [.slice An next.length cn, .slice At tags.length ct], .box g1 49 [.slice none 0 0, .slice none 0 0], .ro kInt (.slice Af cl.1.length cf) cl.1, .ro kInt (.slice Ao cl.2.length co) cl.2, .ro kSps (.slice B0 d.parts.length d0) d.parts, .ro kRow (.slice B1 d.next.length d1) d.next, .ro kInt (.slice B2 d.tags.length d2) d.tags, .box g5 80 [.slice B0 d.parts.length d0, .slice B1 d.next.length d1, .slice B2 d.tags.length d2], .box g6 49 [(.slice none 0 0), .slice B2 d.tags.length d2], .row kRow 26 (.slice none 0 0) []]) := HS.out
 rw [← hfi, ← hof] at hsx ⊢
 have HFO := aM (show (∀ x ∈ of_, 0 ≤ x ∧ x < (fi.length : Int)) ∧ of_.length = 256 ∧ fi.length ≤ 256 by rw [hfi, hof]; exact ⟨HCL.out.of_.2, HCL.out.of_.1, HCL.out.len⟩)
 clear HS hfi hof
 have HS := aM hsx
 clear hsx
 go_loopg [7] d.next.length (fun m v7 w' => ∃ (i : Nat) (vN : Value) (N : List (List Int)), v7 = .int .i64 i ∧ Aside0 (i + m = d.next.length) ∧ Aside0 (N = (d.next.take i).map (byteRow d fi of_)) ∧ Aside0 (Sep X w w' [.box g0 49 [.slice An next.length cn, .slice At tags.length ct], .box g1 49 [.slice none 0 0, .slice none 0 0], .ro kInt (.slice Af fi.length cf) fi, .ro kInt (.slice Ao of_.length co) of_, .ro kSps (.slice B0 d.parts.length d0) d.parts, .ro kRow (.slice B1 d.next.length d1) d.next, .ro kInt (.slice B2 d.tags.length d2) d.tags, .box g5 80 [.slice B0 d.parts.length d0, .slice B1 d.next.length d1, .slice B2 d.tags.length d2], .box g6 49 [vN, .slice B2 d.tags.length d2], .row kRow 26 vN N]))
 case atStart => exact ⟨0, _, [], rfl, ⟨by omega⟩, ⟨rfl⟩, HS⟩
 case round =>
  clear HS
  obtain ⟨i, vN, N, rfl, HJ, HN, HS⟩ := hrel
  obtain ⟨A4, c4, e4⟩ := HS.out.form 9 rfl
  subst e4
  have y1 := ((HS.out.box 7 rfl).cell 1 rfl)
  cases gk with
  | zero =>
   have hi : i = d.next.length := by have := HJ.out; omega
   have e1 : decide ((i : Int) < (d.next.length : Int)) = false := dF (by omega)
   have e2 : decide (i < d.next.length) = false := dF (by omega)
   have HRR := aM (show r = (N, d.tags) by rw [HR.out, HN.out, hi, List.take_length])
   clear HN HJ hi HR
   have z0 := ((HS.out.box 8 rfl).cell 0 rfl)
   have z1 := ((HS.out.box 8 rfl).cell 1 rfl)
   have x0 := ((HS.out.box 1 rfl).cell 0 rfl)
   have x1 := ((HS.out.box 1 rfl).cell 1 rfl)
   have f0 := (HS.out.box 1 rfl).open_ 0
   have f1 := (HS.out.box 1 rfl).open_ 1
   go_wp2_with fail
   have HSF := aM ((HS.out.set_box 1 rfl 0 (.slice A4 N.length c4)).set_box 1 rfl 1 (.slice B2 d.tags.length d2))
   refine bodyPost_ret (results_cell_row rfl _ _ g1 49 #[.slice A4 N.length c4, .slice B2 d.tags.length d2] (0, 0) _ rfl (HSF.out.box 1 rfl) Tryz.underlying49 rfl (by kernel_rfl)) rfl ?_
   rw [HRR.out]
   exact ⟨_, _, rfl, HSF.out.res_row 9 rfl, HSF.out.res 6 rfl, HSF.out.below⟩
  | succ k1 =>
   have hi : i < d.next.length := by have := HJ.out; omega
   have e1 : decide ((i : Int) < (d.next.length : Int)) = true := dT (by omega)
   have e2 : decide (i < d.next.length) = true := dT hi
   have hi0 : (0 : Int) ≤ (i : Int) := by omega
   have hi1 : (i : Int) < (d.next.length : Int) := by omega
   have mN := (HS.out.ro 5 rfl).max
   have HLT := aM (show d.next.length ≤ 1000000 from HDB.out)
   have HRL := aM (HDR.out.1 _ (mem_getD d.next [] i hi))
   have HN2 := aM (show N ++ [byteRow d fi of_ (d.next.getD i [])] = (d.next.take (i + 1)).map (byteRow d fi of_) by rw [take_at d.next [] i hi, List.map_append, HN.out]; rfl)
   have HPL := aM (show N.length + 1 ≤ 1000001 by rw [HN.out]; have := HLT.out; simp; omega)
   obtain ⟨row, hrow⟩ : ∃ q, q = d.next.getD i [] := ⟨_, rfl⟩
   rw [← hrow] at HRL HN2
   have HRE := aM hrow.symm
   have hs := HS.out.push_nil kInt 3
   clear HN HS hrow
   have HS := aM hs
   clear hs
   go_wp2_with fail
   clear y1 e1 e2
   go_loopg [8, 9] 256 (fun m v8 v9 w' => ∃ (c : Nat) (R : List Int), v9 = .int .i64 c ∧ Aside0 (c + m = 256) ∧ Aside0 (R = (List.range c).map (fun c => lstGo row (fi.getD (of_.getD c 0).toNat 0) d.parts 0 (-1))) ∧ Aside0 (Sep X w w' [.box g0 49 [.slice An next.length cn, .slice At tags.length ct], .box g1 49 [.slice none 0 0, .slice none 0 0], .ro kInt (.slice Af fi.length cf) fi, .ro kInt (.slice Ao of_.length co) of_, .ro kSps (.slice B0 d.parts.length d0) d.parts, .ro kRow (.slice B1 d.next.length d1) d.next, .ro kInt (.slice B2 d.tags.length d2) d.tags, .box g5 80 [.slice B0 d.parts.length d0, .slice B1 d.next.length d1, .slice B2 d.tags.length d2], .box g6 49 [(.slice A4 N.length c4), .slice B2 d.tags.length d2], .row kRow 26 (.slice A4 N.length c4) N, .row kInt 3 v8 R]))
   case atStart => exact ⟨0, [], rfl, ⟨by omega⟩, ⟨rfl⟩, HS⟩
   case round =>
    clear HS
    obtain ⟨c, R, rfl, HC, HR2, HS⟩ := hrel
    obtain ⟨A8, c8, e8⟩ := HS.out.form 10 rfl
    subst e8
    cases gk with
    | zero =>
     have hc : c = 256 := by have := HC.out; omega
     have e1 : decide ((c : Int) < 256) = false := dF (by omega)
     have e2 : decide (c < 256) = false := dF (by omega)
     have q0 : R = byteRow d fi of_ row := by rw [HR2.out, hc]; rfl
     rw [← q0] at HN2
     clear HR2 q0 hc
     have hs := HS.out.sealRo 10 rfl
     clear HS
     have HS := aM hs
     have y2 := ((HS.out.box 8 rfl).cell 0 rfl)
     clear hs
     go_wp2_with (first
      | ((with_reducible refine gate_dst (N := 70) rfl ?_); refine slit kRow 26 ?hg (N := 70) ?hd (xs := [R]) (inner := [.slice A8 R.length c8]) ?hr HS.out ?hp (by simp) ?_; (case hd => rfl); (case hg => rfl); (case hr => first | (go_simp; done) | (go_simp; rfl)); (case hp => exact Reps.one (PK.slice (HS.out.ro 10 rfl)) (Reps.none _ _)); clear HS; intro v30 w30 hs; have HS := aM hs; clear hs)
      | ((with_reducible refine gate_builtin (b := .append) (xs := #[.tmp 68, .tmp 70]) rfl ?_); at_builtin; refine sgrow kRow 9 rfl (.tmp 68) (.tmp 70) 25 26 (.slice none 0 0) 24 rfl Tryz.underlying25 info26 rfl (by decide) (by omega) _ _ N [R] rfl rfl HS.out rfl (HS.out.ro 11 rfl) (by have := HPL.out; rw [lS]; omega) ?_; clear HS; intro v1 w1 hs; obtain ⟨n1, hn1⟩ : ∃ q, q = N ++ [R] := ⟨_, rfl⟩; rw [← hn1] at hs; have HZn1 := aM hn1; clear hn1; obtain ⟨A1, c1, e1⟩ := hs.form 9 rfl; subst e1; have fz := (hs.box 8 rfl).open_ 0; have yz := (hs.box 8 rfl).cell 0 rfl; have HS := aM hs; clear hs))
     have hs := HS.out.set_box 8 rfl 0 (.slice A1 n1.length c1)
     clear HS
     have HS := aM hs
     go_roundg k1
     case measure => omega
     case rel => exact ⟨i + 1, _, n1, by go_num, ⟨by have := HJ.out; omega⟩, ⟨by rw [HZn1.out]; exact HN2.out⟩, ⟨HS.out.take 10⟩⟩
    | succ c1 =>
     have hc : c < 256 := by have := HC.out; omega
     have e1 : decide ((c : Int) < 256) = true := dT (by omega)
     have e2 : decide (c < 256) = true := dT hc
     have hc0 : (0 : Int) ≤ (c : Int) := by omega
     have hcl1 : (c : Int) < (of_.length : Int) := by have := HFO.out.2.1; omega
     have hox := HFO.out.1 _ (mem_getD of_ 0 c (by have := HFO.out.2.1; omega))
     obtain ⟨on, hon⟩ : ∃ n : Nat, of_.getD c 0 = (n : Int) := ⟨(of_.getD c 0).toNat, by omega⟩
     obtain ⟨f, hf⟩ : ∃ f, f = fi.getD on 0 := ⟨_, rfl⟩
     obtain ⟨y, hy⟩ : ∃ y, y = lstGo row f d.parts 0 (-1) := ⟨_, rfl⟩
     have HR3 := aM (show R ++ [y] = (List.range (c + 1)).map (fun c => lstGo row (fi.getD (of_.getD c 0).toNat 0) d.parts 0 (-1)) by rw [List.range_succ, List.map_append, HR2.out, hy, hf]; simp only [List.map_cons, List.map_nil, hon, Int.toNat_natCast])
     have HRL2 := aM (show R.length + 1 ≤ 1000 by rw [HR2.out]; simp; omega)
     have HY := aM (show lstGo row f (d.parts.drop 0) 0 (-1) = y from hy.symm)
     have HON := aM (show of_.getD c 0 = (on : Int) ∧ on < fi.length ∧ fi.getD on 0 = f from ⟨hon, by omega, hf.symm⟩)
     have hon1 : (on : Int) < (fi.length : Int) := by omega
     have hon0 : (0 : Int) ≤ (on : Int) := by omega
     clear HR2 hox hon hf hy
     go_wp2_with fail
     clear e1 e2
     go_loopg [10, 11] d.parts.length (fun m v10 v11 w' => ∃ (k : Nat) (x : Int), (v11 = .int .i64 k ∧ v10 = .int .i64 x) ∧ Aside0 (k + m = d.parts.length) ∧ Aside0 (lstGo row f (d.parts.drop k) k x = y) ∧ Aside0 (Sep X w w' [.box g0 49 [.slice An next.length cn, .slice At tags.length ct], .box g1 49 [.slice none 0 0, .slice none 0 0], .ro kInt (.slice Af fi.length cf) fi, .ro kInt (.slice Ao of_.length co) of_, .ro kSps (.slice B0 d.parts.length d0) d.parts, .ro kRow (.slice B1 d.next.length d1) d.next, .ro kInt (.slice B2 d.tags.length d2) d.tags, .box g5 80 [.slice B0 d.parts.length d0, .slice B1 d.next.length d1, .slice B2 d.tags.length d2], .box g6 49 [(.slice A4 N.length c4), .slice B2 d.tags.length d2], .row kRow 26 (.slice A4 N.length c4) N, .row kInt 3 (.slice A8 R.length c8) R]))
     case atStart => exact ⟨0, -1, ⟨rfl, rfl⟩, ⟨by omega⟩, HY, HS⟩
     case round =>
      clear HS HY
      obtain ⟨k, x, ⟨rfl, rfl⟩, HK, HY, HS⟩ := hrel
      have mp := (HS.out.ro 4 rfl).max
      have y0 := (HS.out.box 7 rfl).cell 0 rfl
      cases gk with
      | zero =>
       have e1 : decide ((k : Int) < (d.parts.length : Int)) = false := dF (by have := HK.out; omega)
       have e2 : decide (k < d.parts.length) = false := dF (by have := HK.out; omega)
       have q0 : x = y := by have := HY.out; rw [List.drop_eq_nil_of_le (by have := HK.out; omega)] at this; exact this
       clear HY
       subst q0
       go_wp2_with (first
        | ((with_reducible refine gate_dst (N := 65) rfl ?_); refine slit kInt 3 ?hg (N := 65) ?hd (xs := [x]) (inner := [.int .i64 x]) ?hr HS.out ?hp (by simp) ?_; (case hd => rfl); (case hg => rfl); (case hr => first | (go_simp; done) | (go_simp; rfl)); (case hp => exact Reps.one (PK.scalar _) (Reps.none _ _)); clear HS; intro v30 w30 hs; have HS := aM hs; clear hs)
        | ((with_reducible refine gate_builtin (b := .append) (xs := #[.tmp 63, .tmp 65]) rfl ?_); at_builtin; refine sgrow kInt 10 rfl (.tmp 63) (.tmp 65) 26 3 (.int .i64 0) 8 rfl Tryz.underlying26 info3' rfl (by decide) (by omega) _ _ R [x] rfl rfl HS.out rfl (HS.out.ro 11 rfl) (by have := HRL2.out; rw [lS]; omega) ?_; clear HS; intro v31 w31 hs; have HS := aM hs; clear hs))
       go_roundg c1
       case measure => omega
       case rel => exact ⟨c + 1, _, by go_num, ⟨by have := HC.out; omega⟩, HR3, ⟨HS.out.take 11⟩⟩
      | succ k2 =>
       have hk : k < d.parts.length := by have := HK.out; omega
       have e1 : decide ((k : Int) < (d.parts.length : Int)) = true := dT (by omega)
       have e2 : decide (k < d.parts.length) = true := dT hk
       have hk0 : (0 : Int) ≤ (k : Int) := by omega
       have hk1 : (k : Int) < (d.parts.length : Int) := by omega
       have hk2 : (k : Int) < (row.length : Int) := by have := HRL.out; omega
       go_wp2_with fail
       have hs := HS.out.drew
       clear HS y0
       have HS := aM hs
       clear hs
       obtain ⟨ap, cp, up, ep, hup, yp⟩ := (HS.out.ro 4 rfl).row k hk
       cases ep
       obtain ⟨Aq, cq, rfl, _, _⟩ := hup.now
       have HUP := aM hup
       obtain ⟨ao, co', eo, yo⟩ := int_cell (HS.out.ro 3 rfl) c (by omega)
       cases eo
       rw [HON.out.1] at yo
       obtain ⟨af, cf', ef, yf⟩ := int_cell (HS.out.ro 2 rfl) on HON.out.2.1
       cases ef
       rw [HON.out.2.2] at yf
       have HY1 := HY.out
       rw [drop_at d.parts [] k hk, lstGo] at HY1
       generalize d.parts.getD k [] = q at *
       obtain ⟨qb, hqb⟩ : ∃ b, b = inB q f := ⟨_, rfl⟩
       rw [← hqb] at HY1
       have HQB := aM hqb.symm
       have HY2 := aM HY1
       have y0 := (HS.out.box 7 rfl).cell 0 rfl
       clear hup HY1 HY hqb
       refine start_ (n := 13) (S := fun w' => w'.cell? ⟨g5, 0, none⟩ = some (.slice (some ap) d.parts.length d0) ∧ w'.cell? (ap.add k) = some (.slice Aq q.length cq) ∧ w'.cell? (ao.add c) = some (.int .i64 (on : Int)) ∧ w'.cell? (af.add on) = some (.int .i64 f)) (ds := [12]) #[false, false, false, false, false, false, false, false, false, false, false, false, false] (by kernel_rfl) rfl rfl ⟨y0, yp, yo, yf⟩ (fun hHeld => ?_)
       refine pure_ (i := 0) (N := some 42) (v := ?_) (a' := ?_) (bv 13 1) rfl rfl (by kernel_rfl) (fun _ _ _ h => h) (Or.inl ⟨by rfl, ?_⟩) ?_ ?_
       rotate_left
       ·intro w'
        go_simp
        with_reducible rfl
       rotate_left
       ·simp only [Act.put, qA, qB, qC, i64_w, i32_w]
        rfl
       refine pure_ (i := 2) (N := some 44) (v := ?_) (a' := ?_) (bv 13 5) rfl rfl (by kernel_rfl) (fun _ _ _ h => h) (Or.inl ⟨by rfl, ?_⟩) ?_ ?_
       rotate_left
       ·intro w'
        go_simp
        with_reducible rfl
       rotate_left
       ·simp only [Act.put, qA, qB, qC, i64_w, i32_w]
        rfl
       refine pure_ (i := 5) (N := some 47) (v := ?_) (a' := ?_) (bv 13 37) rfl rfl (by kernel_rfl) (fun _ _ _ h => h) (Or.inl ⟨by rfl, ?_⟩) ?_ ?_
       rotate_left
       ·intro w'
        go_simp
        with_reducible rfl
       rotate_left
       ·simp only [Act.put, qA, qB, qC, i64_w, i32_w]
        rfl
       refine pure_ (i := 6) (N := some 48) (v := ?_) (a' := ?_) (bv 13 101) rfl rfl (by kernel_rfl) (fun _ _ _ h => h) (Or.inl ⟨by rfl, ?_⟩) ?_ ?_
       rotate_left
       ·intro w'
        go_simp
        with_reducible rfl
       rotate_left
       ·simp only [Act.put, qA, qB, qC, i64_w, i32_w]
        rfl
       refine pure_ (i := 7) (N := some 49) (v := ?_) (a' := ?_) (bv 13 229) rfl rfl (by kernel_rfl) (fun _ _ _ h => h) (Or.inl ⟨by rfl, ?_⟩) ?_ ?_
       rotate_left
       ·intro w'
        go_simp
        with_reducible rfl
       rotate_left
       ·simp only [Act.put, qA, qB, qC, i64_w, i32_w]
        rfl
       refine pure_ (i := 8) (N := some 50) (v := ?_) (a' := ?_) (bv 13 485) rfl rfl (by kernel_rfl) (fun _ _ _ h => h) (Or.inl ⟨by rfl, ?_⟩) ?_ ?_
       rotate_left
       ·intro w'
        go_simp
        with_reducible rfl
       rotate_left
       ·simp only [Act.put, qA, qB, qC, i64_w, i32_w]
        rfl
       refine take_ (i := 1) (N := some 43) (v := ?_) (a' := ?_) (bv 13 487) rfl rfl (by kernel_rfl) (fun _ _ _ h => h) (Or.inl ⟨by rfl, ?_⟩) hHeld ?_ ?_
       rotate_left
       ·rintro w' ⟨s0, s1, s2, s3⟩
        go_simp
        with_reducible rfl
       rotate_left
       ·simp only [Act.put, qA, qB, qC, i64_w, i32_w]
        rfl
       refine pure_ (i := 3) (N := some 45) (v := ?_) (a' := ?_) (bv 13 495) rfl rfl (by kernel_rfl) (fun _ _ _ h => h) (Or.inl ⟨by rfl, ?_⟩) ?_ ?_
       rotate_left
       ·intro w'
        go_simp
        with_reducible rfl
       rotate_left
       ·simp only [Act.put, qA, qB, qC, i64_w, i32_w]
        rfl
       refine take_ (i := 4) (N := some 46) (v := ?_) (a' := ?_) (bv 13 511) rfl rfl (by kernel_rfl) (fun _ _ _ h => h) (Or.inl ⟨by rfl, ?_⟩) hHeld ?_ ?_
       rotate_left
       ·rintro w' ⟨s0, s1, s2, s3⟩
        go_simp
        with_reducible rfl
       rotate_left
       ·simp only [Act.put, qA, qB, qC, i64_w, i32_w]
        rfl
       refine take_ (i := 9) (N := some 51) (v := ?_) (a' := ?_) (bv 13 1023) rfl rfl (by kernel_rfl) (fun _ _ _ h => h) (Or.inl ⟨by rfl, ?_⟩) hHeld ?_ ?_
       rotate_left
       ·rintro w' ⟨s0, s1, s2, s3⟩
        go_simp
        with_reducible rfl
       rotate_left
       ·simp only [Act.put, qA, qB, qC, i64_w, i32_w]
        rfl
       refine pure_ (i := 10) (N := some 52) (v := ?_) (a' := ?_) (bv 13 2047) rfl rfl (by kernel_rfl) (fun _ _ _ h => h) (Or.inl ⟨by rfl, ?_⟩) ?_ ?_
       rotate_left
       ·intro w'
        go_simp
        with_reducible rfl
       rotate_left
       ·simp only [Act.put, qA, qB, qC, i64_w, i32_w]
        rfl
       refine take_ (i := 11) (N := some 53) (v := ?_) (a' := ?_) (bv 13 4095) rfl rfl (by kernel_rfl) (fun _ _ _ h => h) (Or.inl ⟨by rfl, ?_⟩) hHeld ?_ ?_
       rotate_left
       ·rintro w' ⟨s0, s1, s2, s3⟩
        go_simp
        with_reducible rfl
       rotate_left
       ·simp only [Act.put, qA, qB, qC, i64_w, i32_w]
        rfl
       refine last_ (i := 12) (N := some 54) #[true, true, true, true, true, true, true, true, true, true, true, true, true] rfl rfl (by kernel_rfl) (by decide) (fun K hK => ?_)
       refine goes_ Tryz.func63 (by kernel_rfl) rfl #[.slice Aq q.length cq, .int .i64 f] (by rfl) rfl rfl (by simp only [List.map_toArray, List.map_cons, List.map_nil]; rfl) ?_
       with_reducible refine (in_calls _ _ q f _ HUP.out).mono ?_
       rintro e w21 ⟨rfl, hw21⟩
       refine ⟨_, rfl, ?_⟩
       rw [HQB.out]
       rw [hw21]
       have hs := HS.out
       clear hw21
       clear HS; have HS := aM hs; clear hs
       refine hK.out _ _ ?_
       clear hK K
       refine norm_ (a' := ?_) ?_ ?_
       rotate_left
       ·show Act.put _ (some 54) _ = _
        simp only [Act.put, qA, qB, qC, i64_w, i32_w]
        rfl
       refine done_ (by kernel_rfl) ?_
       cases qb
       case false =>
        have HY3 := aM (show lstGo row f (d.parts.drop (k + 1)) (k + 1) x = y by have := HY2.out; rwa [if_neg (by decide)] at this)
        go_wp2_with fail
        go_roundg k2
        case measure => omega
        case rel => exact ⟨k + 1, x, ⟨by go_num, rfl⟩, ⟨by have := HK.out; omega⟩, HY3, HS⟩
       case true =>
        have HY3 := aM (show lstGo row f (d.parts.drop (k + 1)) (k + 1) (row.getD k 0) = y by have := HY2.out; rwa [if_pos rfl] at this)
        obtain ⟨an, cn2, un, en, hun, yn⟩ := (HS.out.ro 5 rfl).row i hi
        cases en
        rw [HRE.out] at hun
        obtain ⟨ar, cr, er, yr⟩ := int_cell hun k (by have := HRL.out; omega)
        subst er
        have y4 := (HS.out.box 7 rfl).cell 1 rfl
        generalize row.getD k 0 = x2 at *
        go_wp2_with fail
        go_roundg k2
        case measure => omega
        case rel => exact ⟨k + 1, x2, ⟨by go_num, rfl⟩, ⟨by have := HK.out; omega⟩, HY3, HS⟩
def spansN : List (List Sp) → Nat
 | [] => 0
 | p :: t => p.length + spansN t
def longD (d : DfaS) : Prop := 100 < d.tags.length ∨ 100 < spansN d.parts
instance (d : DfaS) : Decidable (longD d) := by unfold longD; infer_instance
def raw13 (d : DfaS) (B : Nat) : RawSt := rawL d.next d.tags (d.parts.map of03) B
def of13 (B : Nat) (parts : List (List Sp)) (next : List (List Int)) (tags : List Int) : (List (List Int) × List Int) × Int :=
 if SoundP parts next tags then
  if longD (leastL parts next tags) then (([], []), 63) else (least13 (raw13 (leastL parts next tags) B).next (raw13 (leastL parts next tags) B).tags, 0)
 else (([], []), 1)
structure Of13Ok (d : DfaS) (B : Nat) (K : List Pl → Prop) : Prop where
 raw : RawOk d.next (d.parts.map of03) B K
 rows : ∀ i, i < (raw13 d B).next.length → ((raw13 d B).next.getD i []).length = 256 ∧ ∀ k, k < 256 → ((raw13 d B).next.getD i []).getD k 0 < ((raw13 d B).tags.length : Int)
 len : (raw13 d B).next.length = (raw13 d B).tags.length ∧ 0 < (raw13 d B).tags.length ∧ (raw13 d B).tags.length ≤ 1000000
 uni : UniOk (bareP (asL (raw13 d B).next (raw13 d B).tags (classesL (raw13 d B).next).1).parts)
set_option maxHeartbeats 16000000 in
theorem of13_calls (X : Nat → Prop) (vp vn vt : Value) (parts : List (List Sp)) (next : List (List Int)) (tags : List Int) (w : World) (hX : ∀ k, X k → k < w.heap.size) (hp : PV kSps X w vp parts) (hn : PV kRow X w vn next) (ht : PV kInt X w vt tags)
  (hs : ∀ p ∈ parts, Sm p ∧ p.length ≤ 10000) (huni : SoundP parts next tags → UniOk (bareP parts) ∧ (∀ p ∈ (leastL parts next tags).parts, PartP p) ∧ (leastL parts next tags).parts.length ≤ 100000)
  (B : Nat) (hB : B ≤ 100000000) (K : List Pl → Prop) (hok : SoundP parts next tags → ¬ longD (leastL parts next tags) → Of13Ok (leastL parts next tags) B K) :
  Calls Tryz.prog 40 #[.agg #[vp, vn, vt]] w fun e w' => ∃ v0 v1, e = .returned (.tuple #[.agg #[v0, v1], .int .i64 (of13 B parts next tags).2]) ∧ PV kRow X w' v0 (of13 B parts next tags).1.1 ∧ PV kInt X w' v1 (of13 B parts next tags).1.2 ∧ Below w.heap.size w w' := by
 have H0 := aM hp
 have H1 := aM hn
 have H2 := aM ht
 have HSM := aM hs
 have HUNI := aM huni
 have HOK := aM hok
 obtain ⟨Ap, cp, rfl, _, _⟩ := hp.now
 obtain ⟨An, cn, rfl, _, _⟩ := hn.now
 obtain ⟨At, ct, rfl, _, _⟩ := ht.now
 have HS := aM (((Sep.start hX).push_box [.slice Ap parts.length cp, .slice An next.length cn, .slice At tags.length ct] 80).push_box' [.slice none 0 0, .slice none 0 0] 49 (w.heap.size + 1) (by simp))
 obtain ⟨q, hq⟩ : ∃ q, q = decide (SoundP parts next tags) := ⟨_, rfl⟩
 have HQ := aM hq.symm
 obtain ⟨r, hr⟩ : ∃ r, r = of13 B parts next tags := ⟨_, rfl⟩
 rw [← hr]
 have HR := aM (show r = if SoundP parts next tags then (if longD (leastL parts next tags) then (([], []), 63) else (least13 (raw13 (leastL parts next tags) B).next (raw13 (leastL parts next tags) B).tags, 0)) else (([], []), 1) from hr)
 clear hp hn ht hs huni hok hX hq hr
 go_enter Tryz.func40, Tryz.ntmps40
 go_upto_if 10 with (first
  | (go_at_call 48; (with_reducible refine (dsound_calls _ _ _ _ parts next tags _ HS.out.lt (HS.out.arg H0.out) (HS.out.arg H1.out) (HS.out.arg H2.out) HSM.out).mono ?_); rintro ee w5 ⟨rfl, hb⟩; rw [HQ.out]; have hs := HS.out.call hb; clear hb; clear HS; have HS := aM hs; clear hs))
 obtain ⟨g1, hg1⟩ : ∃ g, g = w.heap.size + 1 := ⟨_, rfl⟩
 obtain ⟨g0, hg0⟩ : ∃ g, g = w.heap.size := ⟨_, rfl⟩
 rw [← hg1, ← hg0] at HS ⊢
 clear hg0 hg1
 have x0 := ((HS.out.box 1 rfl).cell 0 rfl)
 have x1 := ((HS.out.box 1 rfl).cell 1 rfl)
 have f0 := (HS.out.box 1 rfl).open_ 0
 have f1 := (HS.out.box 1 rfl).open_ 1
 cases q
 case false =>
  have HE := aM (show r = (([], []), 1) by rw [HR.out, if_neg (of_decide_eq_false HQ.out)])
  go_wp2_with fail
  have HSF := aM ((HS.out.set_box 1 rfl 0 (.slice none 0 0)).set_box 1 rfl 1 (.slice none 0 0))
  refine bodyPost_ret (results_ct rfl _ _ g1 49 #[.slice none 0 0, .slice none 0 0] (0, 0) _ rfl (HSF.out.box 1 rfl) Tryz.underlying49 rfl (by kernel_rfl)) rfl ?_
  rw [HE.out]
  exact ⟨_, _, rfl, PV.nil _ _ _, PV.nil _ _ _, HSF.out.below⟩
 case true =>
  have HSO := aM (of_decide_eq_true HQ.out)
  have HU := aM (HUNI.out HSO.out)
  have HR2 := aM (show r = if longD (leastL parts next tags) then (([], []), 63) else (least13 (raw13 (leastL parts next tags) B).next (raw13 (leastL parts next tags) B).tags, 0) by rw [HR.out, if_pos HSO.out])
  have HE12 := aM (show of12 parts next tags = (leastL parts next tags, 0) by rw [of12, if_pos HSO.out])
  have HOK2 := aM (HOK.out HSO.out)
  obtain ⟨d, hd⟩ : ∃ d, d = leastL parts next tags := ⟨_, rfl⟩
  rw [← hd] at HU HR2 HE12 HOK2
  have HDR := aM (show (∀ row ∈ d.next, row.length = d.parts.length) ∧ d.next.length = d.tags.length by rw [hd]; exact least_rows _ _ _)
  have y0 := ((HS.out.box 0 rfl).cell 0 rfl)
  have y1 := ((HS.out.box 0 rfl).cell 1 rfl)
  have y2 := ((HS.out.box 0 rfl).cell 2 rfl)
  clear x0 x1 f0 f1 HR HOK HUNI hd
  go_wp2_with (first
   | (go_at_call 49; (with_reducible refine (of12_calls _ _ _ _ parts next tags _ HS.out.lt (HS.out.arg H0.out) (HS.out.arg H1.out) (HS.out.arg H2.out) HSM.out (fun _ => HU.out.1)).mono ?_); rintro ee w6 ⟨v0, v1, v2, rfl, h0, h1, h2, hb⟩; rw [HE12.out] at h0 h1 h2 ⊢; have hs := ((HS.out.push_ro hb h0).push_ro (Below.refl _ _) (h1.to (fun _ _ h => Ys_ro h))).push_ro (Below.refl _ _) (h2.to (fun _ _ h => Ys_ro (Ys_ro h))); clear h0 h1 h2 hb y0 y1 y2; obtain ⟨B0, d0, e0⟩ := hs.rform 2 rfl; subst e0; obtain ⟨B1, d1, e1⟩ := hs.rform 3 rfl; subst e1; obtain ⟨B2, d2, e2⟩ := hs.rform 4 rfl; subst e2; clear HS; have HS := aM hs; clear hs))
  have hs := HS.out.push_box [.slice B0 d.parts.length d0, .slice B1 d.next.length d1, .slice B2 d.tags.length d2] 80
  obtain ⟨g5, hg5⟩ : ∃ g, g = w6.heap.size := ⟨_, rfl⟩
  rw [← hg5] at hs ⊢
  clear HS hg5
  have HS := aM hs
  clear hs
  obtain ⟨tot, htot⟩ : ∃ n, n = spansN d.parts := ⟨_, rfl⟩
  have HT := aM (show 0 + spansN (d.parts.drop 0) = tot by rw [htot, Nat.zero_add]; rfl)
  have HTE := aM htot
  have hpl : d.parts.length ≤ 100000 := HU.out.2.2
  clear htot
  go_loopg [6, 7] d.parts.length (fun m v6 v7 w' => ∃ (k n : Nat), (v7 = .int .i64 k ∧ v6 = .int .i64 n) ∧ Aside0 (k + m = d.parts.length) ∧ Aside0 (n ≤ k * 10000) ∧ Aside0 (n + spansN (d.parts.drop k) = tot) ∧ Aside0 (Sep X w w' [.box g0 80 [.slice Ap parts.length cp, .slice An next.length cn, .slice At tags.length ct], .box g1 49 [.slice none 0 0, .slice none 0 0], .ro kSps (.slice B0 d.parts.length d0) d.parts, .ro kRow (.slice B1 d.next.length d1) d.next, .ro kInt (.slice B2 d.tags.length d2) d.tags, .box g5 80 [.slice B0 d.parts.length d0, .slice B1 d.next.length d1, .slice B2 d.tags.length d2]]))
  case atStart => exact ⟨0, 0, ⟨rfl, rfl⟩, ⟨by omega⟩, ⟨by omega⟩, HT, HS⟩
  case round =>
   clear HS HT
   obtain ⟨k, n, ⟨rfl, rfl⟩, HK, HN, HT, HS⟩ := hrel
   have y0 := (HS.out.box 5 rfl).cell 0 rfl
   cases gk with
   | succ k1 =>
    have hk : k < d.parts.length := by have := HK.out; omega
    have e1 : decide ((k : Int) < (d.parts.length : Int)) = true := dT (by omega)
    have e2 : decide (k < d.parts.length) = true := dT hk
    have hk0 : (0 : Int) ≤ (k : Int) := by omega
    have hk1 : (k : Int) < (d.parts.length : Int) := by omega
    obtain ⟨ap, cp', up, ep, hup, yp⟩ := (HS.out.ro 2 rfl).row k hk
    cases ep
    obtain ⟨Aq, cq, rfl, _, _⟩ := hup.now
    have hpq := (HU.out.2.1 _ (mem_getD d.parts [] k hk)).1.2
    have hn2 : n ≤ 1000000000 := Nat.le_trans HN.out (by omega)
    have HT1 := HT.out
    rw [drop_at d.parts [] k hk, spansN] at HT1
    generalize d.parts.getD k [] = p at *
    have HT2 := aM (show (n + p.length) + spansN (d.parts.drop (k + 1)) = tot by omega)
    have HN2 := aM (show n + p.length ≤ (k + 1) * 10000 by have := HN.out; omega)
    clear HT1 HT hup
    go_wp2_with fail
    go_roundg k1
    case measure => omega
    case rel => exact ⟨k + 1, n + p.length, ⟨by go_num, by go_num⟩, ⟨by have := HK.out; omega⟩, HN2, HT2, HS⟩
   | zero =>
    have e1 : decide ((k : Int) < (d.parts.length : Int)) = false := dF (by have := HK.out; omega)
    have e2 : decide (k < d.parts.length) = false := dF (by have := HK.out; omega)
    have hnt : n = tot := by have := HT.out; rw [List.drop_eq_nil_of_le (by have := HK.out; omega), spansN] at this; omega
    clear HT HN
    subst hnt
    have y2 := (HS.out.box 5 rfl).cell 2 rfl
    have x0 := ((HS.out.box 1 rfl).cell 0 rfl)
    have x1 := ((HS.out.box 1 rfl).cell 1 rfl)
    have f0 := (HS.out.box 1 rfl).open_ 0
    have f1 := (HS.out.box 1 rfl).open_ 1
    rcases Decidable.em (longD d) with hl | hl
    case inl =>
     have HE := aM (show r = (([], []), 63) by rw [HR2.out, if_pos hl])
     unfold longD at hl
     rw [← HTE.out] at hl
     rcases Decidable.em (100 < d.tags.length) with h1 | h1
     case' inl =>
      have c1 : decide ((d.tags.length : Int) > 100) = true := dT (by omega)
      have c2 : decide (100 < d.tags.length) = true := dT h1
     case' inr =>
      have c1 : decide ((d.tags.length : Int) > 100) = false := dF (by omega)
      have c2 : decide (100 < d.tags.length) = false := dF (by omega)
      have c3 : decide ((n : Int) > 100) = true := dT (by omega)
      have c4 : decide (100 < n) = true := dT (by omega)
     all_goals
      clear hl h1
      go_wp2_with fail
      have HSF := aM ((HS.out.set_box 1 rfl 0 (.slice none 0 0)).set_box 1 rfl 1 (.slice none 0 0))
      refine bodyPost_ret (results_ct rfl _ _ g1 49 #[.slice none 0 0, .slice none 0 0] (0, 0) _ rfl (HSF.out.box 1 rfl) Tryz.underlying49 rfl (by kernel_rfl)) rfl ?_
      rw [HE.out]
      exact ⟨_, _, rfl, PV.nil _ _ _, PV.nil _ _ _, HSF.out.below⟩
    case inr =>
     have HO := aM (HOK2.out hl)
     have HE := aM (show r = (least13 (raw13 d B).next (raw13 d B).tags, 0) by rw [HR2.out, if_neg hl])
     unfold longD at hl
     rw [← HTE.out] at hl
     have c1 : decide ((d.tags.length : Int) > 100) = false := dF (by omega)
     have c2 : decide (100 < d.tags.length) = false := dF (by omega)
     have c3 : decide ((n : Int) > 100) = false := dF (by omega)
     have c4 : decide (100 < n) = false := dF (by omega)
     have y1 := (HS.out.box 5 rfl).cell 1 rfl
     have HNR := aM (show ∀ i, i < d.next.length → (d.next.getD i []).length = d.parts.length from fun i hi => HDR.out.1 _ (mem_getD d.next [] i hi))
     have HRW := aM (show raw13 d B = rawL d.next d.tags (d.parts.map of03) B from rfl)
     clear hl x0 x1 f0 f1
     go_wp2_with (first
      | (go_at_call 51; (with_reducible refine (raw_calls _ _ _ _ d.parts d.next d.tags _ HS.out.lt (HS.out.ro 2 rfl) (HS.out.ro 3 rfl) (HS.out.ro 4 rfl) HU.out.2.1 HU.out.2.2 HNR.out HDR.out.2.symm B hB K HO.out.raw).mono ?_); rintro ee w7 ⟨v7, v8, rfl, h0, h1, hb⟩; rw [← HRW.out] at h0 h1; have hs := (HS.out.push_ro hb h0).push_ro (Below.refl _ _) (h1.to (fun _ _ h => Ys_ro h)); clear h0 h1 hb y0 y1 y2; clear HS; have HS := aM hs; clear hs)
      | (go_at_call 50; (with_reducible refine (least13_calls _ _ _ (raw13 d B).next (raw13 d B).tags _ HS.out.lt (HS.out.ro 6 rfl) (HS.out.ro 7 rfl) HO.out.rows HO.out.len.1 HO.out.len.2.1 HO.out.len.2.2 HO.out.uni).mono ?_); rintro ee w8 ⟨v9, v10, rfl, h0, h1, hb⟩; have hs := (HS.out.push_ro hb h0).push_ro (Below.refl _ _) (h1.to (fun _ _ h => Ys_ro h)); clear h0 h1 hb; obtain ⟨C0, k0, e0⟩ := hs.rform 8 rfl; subst e0; obtain ⟨C1, k1, e1⟩ := hs.rform 9 rfl; subst e1; have x0 := ((hs.box 1 rfl).cell 0 rfl); have x1 := ((hs.box 1 rfl).cell 1 rfl); have f0 := (hs.box 1 rfl).open_ 0; have f1 := (hs.box 1 rfl).open_ 1; clear HS; have HS := aM hs; clear hs))
     have HSF := aM ((HS.out.set_box 1 rfl 0 (.slice C0 (least13 (raw13 d B).next (raw13 d B).tags).1.length k0)).set_box 1 rfl 1 (.slice C1 (least13 (raw13 d B).next (raw13 d B).tags).2.length k1))
     refine bodyPost_ret (results_ct rfl _ _ g1 49 #[.slice C0 (least13 (raw13 d B).next (raw13 d B).tags).1.length k0, .slice C1 (least13 (raw13 d B).next (raw13 d B).tags).2.length k1] (0, 0) _ rfl (HSF.out.box 1 rfl) Tryz.underlying49 rfl (by kernel_rfl)) rfl ?_
     rw [HE.out]
     exact ⟨_, _, rfl, HSF.out.res 8 rfl, HSF.out.res 9 rfl, HSF.out.below⟩
end Go.Proofs.YtplhfgobeicegaaGreatDoor.P
namespace Go.Proofs.YtplhfgobeicegaaGreatDoor.P
open Go Go.RowKit Go.Proofs.YtplhfgobeicegaaGreatDoorW.PrintWords Go.Proofs.YtplhfgobeicegaaGreatDoor.PX
set_option linter.unusedVariables false
theorem uni_mem (parts : List (List Sp)) (s : Sp) : ∀ g : List Int, s ∈ uni parts g ↔ ∃ k ∈ g, s ∈ parts.getD k.toNat []
 | [] => by simp [uni]
 | k :: t => by
  rw [uni, List.mem_append, uni_mem parts s t]
  simp
theorem uni_len (parts : List (List Sp)) (B : Nat) (h : ∀ p ∈ parts, p.length ≤ B) : ∀ g : List Int, (uni parts g).length ≤ g.length * B
 | [] => by simp [uni]
 | k :: t => by
  have ih := uni_len parts B h t
  have h1 : (parts.getD k.toNat []).length ≤ B := by
   rcases Nat.lt_or_ge k.toNat parts.length with c | c
   ·exact h _ (mem_getD parts [] _ c)
   ·rw [List.getD_eq_getElem?_getD, List.getElem?_eq_none c]; simp
  rw [uni, lA, List.length_cons, Nat.add_mul]
  omega
def Chr (p : List Sp) : Prop := ∃ s ∈ p, scalarB s.f0 = true ∧ s.f0 ≤ s.f1
theorem uni_ok_of (parts : List (List Sp)) (B : Nat) (hB : parts.length * B ≤ 10000) (h : ∀ p ∈ parts, p.length ≤ B ∧ Chr p) : UniOk parts := by
 intro g h1 h2 h3
 refine ⟨?_, ?_⟩
 ·have := uni_len parts B (fun p hp => (h p hp).1) g
  have h4 : g.length * B ≤ parts.length * B := Nat.mul_le_mul_right _ h2
  omega
 ·rcases g with _ | ⟨k, t⟩
  ·simp at h1
  ·have hk := h3 k List.mem_cons_self
   have hkl : k.toNat < parts.length := by omega
   obtain ⟨s, hs, hsc, hle⟩ := (h _ (mem_getD parts [] _ hkl)).2
   exact norm_ne ((uni_mem parts s (k :: t)).2 ⟨k, List.mem_cons_self, hs⟩) hsc hle
theorem mem_bareP {parts : List (List Sp)} {p : List Sp} : p ∈ bareP parts ↔ p ∈ parts ∧ 0 < p.length := by
 unfold bareP
 rw [List.mem_filter, decide_eq_true_iff]
theorem bareP_len (parts : List (List Sp)) : (bareP parts).length ≤ parts.length := List.length_filter_le _ _
theorem chr_of_norm {p : List Sp} (h : makeL p [] 2 = p) (hne : 0 < p.length) : Chr p := by
 obtain ⟨s, hs, hb, hok⟩ := norm_char h (by omega)
 exact ⟨s, hs, hasB_scalar hb, hok.2.1⟩
theorem sound_uni {parts : List (List Sp)} {next : List (List Int)} {tags : List Int} (hs : SoundP parts next tags) (B : Nat) (hB : parts.length * B ≤ 10000) (h : ∀ p ∈ parts, p.length ≤ B) : UniOk (bareP parts) := by
 refine uni_ok_of _ B (Nat.le_trans (Nat.mul_le_mul_right _ (bareP_len parts)) hB) (fun p hp => ?_)
 obtain ⟨hm, h0⟩ := mem_bareP.1 hp
 obtain ⟨i, hi, e⟩ := List.getElem_of_mem hm
 have h1 := (hs.2.1 i hi).1
 rw [List.getD_eq_getElem?_getD, List.getElem?_eq_getElem hi, Option.getD_some, e] at h1
 exact ⟨h p hm, chr_of_norm h1 h0⟩
theorem single_uni (fs : List Int) (hl : fs.length ≤ 256) (h : ∀ f ∈ fs, 0 ≤ f ∧ f < 256) : UniOk (bareP (fs.map (fun f => [(⟨f, f⟩ : Sp)]))) := by
 refine uni_ok_of _ 1 ?_ (fun p hp => ?_)
 ·have := bareP_len (fs.map (fun f => [(⟨f, f⟩ : Sp)]))
  rw [List.length_map] at this
  omega
 ·obtain ⟨f, hf, rfl⟩ := List.mem_map.1 (mem_bareP.1 hp).1
  have := h f hf
  exact ⟨Nat.le_refl _, ⟨f, f⟩, List.mem_singleton.2 rfl, (scalarB_iff f).2 (by omega), Int.le_refl _⟩
theorem setsGo_parts (parts : List (List Sp)) : ∀ (gs : List (List Int)) (p : List (List Sp) × List Int), ∀ q ∈ (setsGo parts gs p).1, q ∈ p.1 ∨ ∃ g ∈ gs, q = makeL (uni parts g) [] 2
 | [], p, q, h => .inl h
 | g :: t, p, q, h => by
  rw [setsGo] at h
  rcases setsGo_parts parts t _ q h with h1 | ⟨g', hg', e⟩
  ·unfold setsStep at h1
   rcases ins_mem _ _ _ h1 with e | h2
   ·exact .inr ⟨g, List.mem_cons_self, e⟩
   ·exact .inl h2
  ·exact .inr ⟨g', List.mem_cons_of_mem _ hg', e⟩
theorem least_parts (parts : List (List Sp)) (next : List (List Int)) (tags : List Int) : (∀ q ∈ (leastL parts next tags).parts, ∃ g : List Int, g.length ≤ (bareP parts).length ∧ q = makeL (uni (bareP parts) g) [] 2) ∧ (leastL parts next tags).parts.length ≤ (bareP parts).length := by
 unfold leastL leastD leastC leastB
 generalize liveL _ _ = l
 generalize firstsL _ _ _ _ = of_
 generalize (reachL _ _ _ _).1 = st
 have hg := groups_gq (bareP parts).length (next.map (bareR parts)) l of_ st
 generalize groupsL _ _ _ _ _ = gs at hg
 have hk := sets_keys (bareP parts) gs hg
 refine ⟨fun q hq => ?_, by dsimp only; omega⟩
 rcases setsGo_parts (bareP parts) gs ([], []) q hq with h | ⟨g, hgm, e⟩
 ·cases h
 ·exact ⟨g, (hg.ne g hgm).2.1, e⟩
theorem least_part {parts : List (List Sp)} {next : List (List Int)} {tags : List Int} (B : Nat) (hB : parts.length * B ≤ 4000) (h : ∀ p ∈ parts, p.length ≤ B) : ∀ p ∈ (leastL parts next tags).parts, PartP p := by
 intro p hp
 obtain ⟨g, hgl, rfl⟩ := (least_parts parts next tags).1 p hp
 refine ⟨⟨make_sm _ _ _, ?_⟩, fun s hs => (make_made _ _ 2 (by decide) s hs).1⟩
 have h1 := make_len (uni (bareP parts) g) [] 2
 have h2 := uni_len (bareP parts) B (fun p hp => h p (mem_bareP.1 hp).1) g
 have h3 : g.length * B ≤ parts.length * B := Nat.mul_le_mul_right _ (Nat.le_trans hgl (bareP_len parts))
 simp at h1
 omega
def b3 : Nat → Nat
 | 0 => 1
 | i + 1 => 10 + 2 * b3 i
theorem Pt.mono {B C : Nat} {l : List (List Sp)} (h : Pt B l) (hc : B ≤ C) : Pt C l := fun p hp => by have := h p hp; exact ⟨this.1, by omega, this.2.2⟩
theorem of10Go_pt : ∀ (l : List (List Sp)) (out : List (List Sp)) (rest : List Sp) (i : Nat), (∀ x ∈ l, x.length ≤ 3) → Pt (b3 i) out → rest.length ≤ b3 i → Pt (b3 (i + l.length)) (of10Go out rest l)
 | [], out, rest, i, _, h, _ => h
 | x :: t, out, rest, i, hx, h, hr => by
  have hxl := hx x List.mem_cons_self
  have m8 := make_len rest x 8
  have m2 := make_len rest x 2
  have hb : b3 (i + 1) = 10 + 2 * b3 i := rfl
  rw [of10Go, show i + (x :: t).length = (i + 1) + t.length by rw [List.length_cons]; omega]
  refine of10Go_pt t _ _ (i + 1) (fun y hy => hx y (List.mem_cons_of_mem _ hy)) ?_ (by omega)
  exact some10_pt (cut_pt x out [] h (pt_nil _) (by omega)) (by omega) (make_in _ _ _)
theorem sortGo_mem : ∀ (l out : List (List Sp)) (p : List Sp), p ∈ sortGo out l → p ∈ out ∨ p ∈ l
 | [], out, p, h => .inl h
 | x :: t, out, p, h => by
  rw [sortGo] at h
  rcases sortGo_mem t _ p h with h1 | h1
  ·rcases ins_mem _ _ _ h1 with e | h2
   ·exact .inr (by rw [e]; exact List.mem_cons_self)
   ·exact .inl h2
  ·exact .inr (List.mem_cons_of_mem _ h1)
theorem lists_len (c : List (List Int)) : (lists11 c).length ≤ 4 := by
 unfold lists11
 rw [List.length_map]
 exact Nat.le_trans (List.length_filter_le _ _) (by rw [List.length_take]; omega)
theorem lists_3 (c : List (List Int)) : ∀ x ∈ lists11 c, x.length ≤ 3 := by
 intro x hx
 unfold lists11 at hx
 obtain ⟨y, hy, rfl⟩ := List.mem_map.1 hx
 have h1 := of_decide_eq_true (List.mem_filter.1 hy).2
 unfold spansL manyC
 rw [List.length_map, List.length_range]
 split <;> omega
theorem b3_le (i : Nat) (h : i ≤ 4) : b3 i ≤ 166 := by
 have : i = 0 ∨ i = 1 ∨ i = 2 ∨ i = 3 ∨ i = 4 := by omega
 rcases this with rfl | rfl | rfl | rfl | rfl <;> decide
theorem dfa_parts (c : List (List Int)) (k : Int) (next tags : List Int) : Pt 166 (dfa11 c k next tags).parts ∧ (dfa11 c k next tags).parts.length ≤ 15 := by
 have h4 := lists_len c
 refine ⟨fun p hp => ?_, of10_len _ h4⟩
 have h := (of10Go_pt (lists11 c) [] [⟨0, 1114111⟩] 0 (lists_3 c) (pt_nil _) (by decide)).mono (b3_le (0 + (lists11 c).length) (by omega))
 rcases sortGo_mem _ _ p (show p ∈ sortGo [] (of10Go [] [⟨0, 1114111⟩] (lists11 c)) from hp) with h1 | h1
 ·cases h1
 ·exact h p h1
theorem dfa_uni (c : List (List Int)) (k : Int) (next tags : List Int) (hs : SoundP (dfa11 c k next tags).parts (dfa11 c k next tags).next (dfa11 c k next tags).tags) :
  UniOk (bareP (dfa11 c k next tags).parts) ∧ (∀ p ∈ (leastL (dfa11 c k next tags).parts (dfa11 c k next tags).next (dfa11 c k next tags).tags).parts, PartP p) ∧ (leastL (dfa11 c k next tags).parts (dfa11 c k next tags).next (dfa11 c k next tags).tags).parts.length ≤ 15 := by
 obtain ⟨h1, h2⟩ := dfa_parts c k next tags
 generalize dfa11 c k next tags = d at *
 have hb : d.parts.length * 166 ≤ 4000 := by omega
 refine ⟨sound_uni hs 166 (by omega) (fun p hp => (h1 p hp).2.1), least_part 166 hb (fun p hp => (h1 p hp).2.1), ?_⟩
 have h3 := (least_parts d.parts d.next d.tags).2
 have h4 := bareP_len d.parts
 omega
end Go.Proofs.YtplhfgobeicegaaGreatDoor.P
