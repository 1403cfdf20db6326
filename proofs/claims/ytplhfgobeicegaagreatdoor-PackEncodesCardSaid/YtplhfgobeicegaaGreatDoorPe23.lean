/- Part 23 of the proof: S13f. -/
import Derived.Test.YtplhfgobeicegaaGreatDoorPe22
namespace Go.Proofs.YtplhfgobeicegaaGreatDoor.P
open Go Go.RowKit Go.Proofs.YtplhfgobeicegaaGreatDoorW.PrintWords Go.Proofs.YtplhfgobeicegaaGreatDoorW.PrintLast Go.Proofs.YtplhfgobeicegaaGreatDoorW.PrintMore Go.Proofs.YtplhfgobeicegaaGreatDoor.PX
set_option linter.unusedVariables false
set_option linter.unusedSimpArgs false
set_option maxRecDepth 100000
theorem info111 : (Tryz.prog.info? 111).map (fun i => (i.zero, i.size, i.bytes)) = some (some (.slice none 0 0), 1, 24) := by kernel_rfl
theorem info115 : (Tryz.prog.info? 115).map (fun i => (i.zero, i.size, i.bytes)) = some (some (.agg #[(.int .i64 0), (.slice none 0 0)]), 2, 32) := by kernel_rfl
def PartP (p : List Sp) : Prop := (Sm p ∧ p.length ≤ 10000) ∧ ∀ s ∈ makeL p [] 2, SpOk s
def rawL (next : List (List Int)) (tags : List Int) (rows : List (List (List Rg))) (B : Nat) : RawSt := rawGo next tags rows B 0 ⟨[⟨0, []⟩], [], []⟩
set_option maxHeartbeats 16000000 in
theorem raw_calls (X : Nat → Prop) (vp vn vt : Value) (parts : List (List Sp)) (next : List (List Int)) (tags : List Int) (w : World) (hX : ∀ k, X k → k < w.heap.size) (hp : PV kSps X w vp parts) (hn : PV kRow X w vn next) (ht : PV kInt X w vt tags)
  (hpp : ∀ p ∈ parts, PartP p) (hpl : parts.length ≤ 100000) (hnr : ∀ i, i < next.length → (next.getD i []).length = parts.length) (htl : tags.length = next.length) (B : Nat) (hB : B ≤ 100000000) (K : List Pl → Prop) (hK : RawOk next (parts.map of03) B K) :
  Calls Tryz.prog 51 #[.agg #[vp, vn, vt]] w fun e w' => ∃ v0 v1, e = .returned (.agg #[v0, v1]) ∧ PV kRow X w' v0 (rawL next tags (parts.map of03) B).next ∧ PV kInt X w' v1 (rawL next tags (parts.map of03) B).tags ∧ Below w.heap.size w w' := by
 have H0 := aM hp
 have H1 := aM hn
 have H2 := aM ht
 have HPP := aM hpp
 have HNR := aM hnr
 have HTL := aM htl
 obtain ⟨Ap, cp, rfl, _, _⟩ := hp.now
 obtain ⟨An, cn, rfl, _, _⟩ := hn.now
 obtain ⟨At, ct, rfl, _, _⟩ := ht.now
 obtain ⟨rows, hrows⟩ : ∃ r, r = parts.map of03 := ⟨_, rfl⟩
 rw [← hrows] at hK ⊢
 have HK := aM hK
 have HRE := aM hrows.symm
 have HRL := aM (show rows.length = parts.length by rw [hrows]; simp)
 have HS := aM ((((Sep.start hX).push_box [.slice Ap parts.length cp, .slice An next.length cn, .slice At tags.length ct] 80).push_box' [.slice none 0 0, .slice none 0 0] 49 (w.heap.size + 1) (by simp)).push_nil kRgss 111)
 obtain ⟨r, hr⟩ : ∃ r, r = rawL next tags rows B := ⟨_, rfl⟩
 rw [← hr]
 have HR := aM hr.symm
 clear hp hn ht hX hpp hnr htl hK hrows hr
 go_enter Tryz.func51, Tryz.ntmps51
 go_wp2_with fail
 obtain ⟨g1, hg1⟩ : ∃ g, g = w.heap.size + 1 := ⟨_, rfl⟩
 obtain ⟨g0, hg0⟩ : ∃ g, g = w.heap.size := ⟨_, rfl⟩
 rw [← hg1, ← hg0] at HS ⊢
 clear hg0 hg1
 go_loopg [3, 4] parts.length (fun m v3 v4 w' => ∃ (k : Nat), v4 = .int .i64 k ∧ Aside0 (k + m = parts.length) ∧ Aside0 (Sep X w w' [.box g0 80 [.slice Ap parts.length cp, .slice An next.length cn, .slice At tags.length ct], .box g1 49 [.slice none 0 0, .slice none 0 0], .row kRgss 111 v3 ((parts.take k).map of03)]))
 case atStart => exact ⟨0, rfl, ⟨by omega⟩, HS⟩
 case round =>
  clear HS
  obtain ⟨k, rfl, HJ, HS⟩ := hrel
  have y0 := (HS.out.box 0 rfl).cell 0 rfl
  cases gk with
  | succ k1 =>
   have hk : k < parts.length := by have := HJ.out; omega
   have e1 : decide ((k : Int) < (parts.length : Int)) = true := dT (by omega)
   have e2 : decide (k < parts.length) = true := dT hk
   have hk0 : (0 : Int) ≤ (k : Int) := by omega
   have hk1 : (k : Int) < (parts.length : Int) := by omega
   obtain ⟨ap, cp', u, ep, hu, yp⟩ := H0.out.row k hk
   cases ep
   have HU := aM hu
   have yp1 := pw_cell_below HS.out.below yp
   have HP1 := aM (HPP.out _ (mem_getD parts [] k hk))
   have HTK := aM (show (parts.take (k + 1)).map of03 = (parts.take k).map of03 ++ [of03 (parts.getD k [])] by rw [take_at parts [] k hk, List.map_append]; rfl)
   have HLN := aM (show ((parts.take k).map of03).length + 1 ≤ 1000000 by simp; omega)
   generalize parts.getD k [] = p at *
   have HP2 := aM (show Sm p ∧ p.length ≤ 10000 ∧ ∀ s ∈ makeL p [] 2, SpOk s from ⟨HP1.out.1.1, HP1.out.1.2, HP1.out.2⟩)
   clear hu yp HP1
   go_wp2_with (first
    | (go_at_call 64; (with_reducible refine (of03_calls _ _ p _ HS.out.lt (HS.out.arg HU.out) HP2.out.1 HP2.out.2.1 HP2.out.2.2).mono ?_); rintro ee w5 ⟨v5, rfl, hv, hb⟩; have hs := HS.out.push_ro hb hv; clear hv hb; obtain ⟨B5, d5, e5⟩ := hs.rform 3 rfl; subst e5; clear HS; have HS := aM hs; clear hs)
    | ((with_reducible refine gate_dst (N := 30) rfl ?_); refine slit kRgss 111 ?hg (N := 30) ?hd (xs := [of03 p]) (inner := [.slice B5 (of03 p).length d5]) ?hr HS.out ?hp (by simp) ?_; (case hd => rfl); (case hg => rfl); (case hr => first | (go_simp; done) | (go_simp; rfl)); (case hp => exact Reps.one (PK.slice (HS.out.ro 3 rfl)) (Reps.none _ _)); clear HS; intro v6 w6 hs; have HS := aM hs; clear hs)
    | ((with_reducible refine gate_builtin (b := .append) (xs := #[.tmp 23, .tmp 30]) rfl ?_); at_builtin; refine sgrow kRgss 2 rfl (.tmp 23) (.tmp 30) 110 111 (.slice none 0 0) 24 rfl Tryz.underlying110 info111 rfl (by decide) (by omega) _ _ ((parts.take k).map of03) [of03 p] rfl rfl HS.out rfl (HS.out.ro 4 rfl) (by have := HLN.out; rw [lS]; omega) ?_; clear HS; intro v7 w7 hs; rw [← HTK.out] at hs; have HS := aM hs; clear hs))
   go_roundg k1
   case measure => omega
   case rel => exact ⟨k + 1, by go_num, ⟨by have := HJ.out; omega⟩, ⟨HS.out.take 3⟩⟩
  | zero =>
   have hk : k = parts.length := by have := HJ.out; omega
   have e1 : decide ((k : Int) < (parts.length : Int)) = false := dF (by omega)
   have e2 : decide (k < parts.length) = false := dF (by omega)
   have hs := HS.out.sealRo 2 rfl
   rw [hk, List.take_length, HRE.out] at hs
   clear HS HJ hk
   obtain ⟨A3, c3, e3⟩ := hs.rform 2 rfl
   subst e3
   have HS := aM hs
   clear hs
   go_wp2_with (first
    | ((with_reducible refine gate_dst (N := 33) rfl ?_); refine slit_row kPl 115 ?hg (N := 33) ?hd (xs := [(⟨0, []⟩ : Pl)]) (inner := [.int .i64 0, .slice none 0 0]) ?hr HS.out ?hp (by simp) ?_; (case hd => rfl); (case hg => rfl); (case hr => first | (go_simp; done) | (go_simp; rfl)); (case hp => exact (pl_rep 0 (PV.nil kWy _ _))); clear HS; intro v5 w5 hs; have HS := aM hs; clear hs))
   clear e1 e2 y0
   have hs := ((HS.out.push_box [.slice none 0 0, .slice none 0 0] 49).push_nil kRow 26).push_nil kInt 3
   clear HS
   have HS := aM hs
   clear hs
   obtain ⟨g4, hg4⟩ : ∃ g, g = w5.heap.size := ⟨_, rfl⟩
   rw [← hg4] at HS ⊢
   clear hg4
   go_loopg [5, 7] B (fun m v5 v7 w' => ∃ (i : Nat) (s : RawSt) (vN vT : Value), v7 = .int .i64 i ∧ Aside0 (i + m = B ∧ i ≤ s.l.length) ∧ Aside0 (K s.l) ∧ Aside0 (s.next.length = i ∧ s.tags.length = i) ∧ Aside0 (rawGo next tags rows m i s = r) ∧ Aside0 (Sep X w w' [.box g0 80 [.slice Ap parts.length cp, .slice An next.length cn, .slice At tags.length ct], .box g1 49 [.slice none 0 0, .slice none 0 0], .ro kRgss (.slice A3 rows.length c3) rows, .row kPl 115 v5 s.l, .box g4 49 [vN, vT], .row kRow 26 vN s.next, .row kInt 3 vT s.tags]))
   case atStart => exact ⟨0, ⟨[⟨0, []⟩], [], []⟩, _, _, rfl, ⟨by omega, by simp⟩, ⟨HK.out.start⟩, ⟨rfl, rfl⟩, HR, HS⟩
   case round =>
    clear HS HR
    obtain ⟨i, s, vN, vT, rfl, HJ, HKL, HNT, HR, HS⟩ := hrel
    obtain ⟨Al, cl, el⟩ := HS.out.form 3 rfl
    subst el
    obtain ⟨A5, c5, e5⟩ := HS.out.form 5 rfl
    subst e5
    obtain ⟨A6, c6, e6⟩ := HS.out.form 6 rfl
    subst e6
    have HBL := aM (HK.out.len _ HKL.out)
    by_cases hi : i < s.l.length
    case neg =>
     have e1 : decide ((i : Int) < (s.l.length : Int)) = false := dF (by omega)
     have e2 : decide (i < s.l.length) = false := dF (by omega)
     have q0 : s = r := by
      have := HR.out
      cases gk with
      | zero => exact this
      | succ f => rw [rawGo, if_neg hi] at this; exact this
     clear HR
     subst q0
     have z0 := ((HS.out.box 4 rfl).cell 0 rfl)
     have z1 := ((HS.out.box 4 rfl).cell 1 rfl)
     have x0 := ((HS.out.box 1 rfl).cell 0 rfl)
     have x1 := ((HS.out.box 1 rfl).cell 1 rfl)
     have f0 := (HS.out.box 1 rfl).open_ 0
     have f1 := (HS.out.box 1 rfl).open_ 1
     go_wp2_with fail
     have HSF := aM ((HS.out.set_box 1 rfl 0 (.slice A5 s.next.length c5)).set_box 1 rfl 1 (.slice A6 s.tags.length c6))
     refine bodyPost_ret (results_cell_row rfl _ _ g1 49 #[.slice A5 s.next.length c5, .slice A6 s.tags.length c6] (0, 0) _ rfl (HSF.out.box 1 rfl) Tryz.underlying49 rfl (by kernel_rfl)) rfl ?_
     exact ⟨_, _, rfl, HSF.out.res_row 5 rfl, HSF.out.res_row 6 rfl, HSF.out.below⟩
    case pos =>
     cases gk with
     | zero => have := HJ.out; have := HBL.out; omega
     | succ k1 =>
      have e1 : decide ((i : Int) < (s.l.length : Int)) = true := dT (by omega)
      have e2 : decide (i < s.l.length) = true := dT hi
      have hi0 : (0 : Int) ≤ (i : Int) := by omega
      have hi1 : (i : Int) < (s.l.length : Int) := by omega
      have hi2 : i < 100000000 := by have := HBL.out; omega
      have HR1 := HR.out
      rw [rawGo, if_pos hi, rawStep] at HR1
      obtain ⟨al, cl', ul, el, x0, x1, hul⟩ := pl_ocell HS.out 3 rfl i hi
      cases el
      have hmem := mem_getD s.l z115 i hi
      have HA := aM (HK.out.at_ _ HKL.out _ hmem)
      have HNE := aM (HK.out.ne _ HKL.out _ hmem)
      have HWL := aM (HK.out.wl _ HKL.out _ hmem)
      obtain ⟨p, hp⟩ : ∃ p, p = s.l.getD i z115 := ⟨_, rfl⟩
      rw [← hp] at HR1 x0 hul HA HNE HWL
      have HPE := aM hp.symm
      have HUL := aM hul
      obtain ⟨tag, htag⟩ : ∃ t, t = if 0 ≤ p.f0 then tags.getD p.f0.toNat 0 else -1 := ⟨_, rfl⟩
      obtain ⟨ws, hws⟩ : ∃ q, q = waysAt next rows p := ⟨_, rfl⟩
      rw [← htag, ← hws] at HR1
      rw [← hws] at HNE HWL
      have HTG := aM htag
      have HWS := aM hws
      have HR2 := aM HR1
      clear hmem hp hul HR1 HR htag hws
      go_upto_if 51 with (fail)
      go_cut [8, 9] (fun v8 v9 wc => v9 = .int .i64 tag ∧ Aside0 (Sep X w wc [.box g0 80 [.slice Ap parts.length cp, .slice An next.length cn, .slice At tags.length ct], .box g1 49 [.slice none 0 0, .slice none 0 0], .ro kRgss (.slice A3 rows.length c3) rows, .row kPl 115 (.slice (some al) s.l.length cl) s.l, .box g4 49 [(.slice A5 s.next.length c5), (.slice A6 s.tags.length c6)], .row kRow 26 (.slice A5 s.next.length c5) s.next, .row kInt 3 (.slice A6 s.tags.length c6) s.tags, .ro kWy v8 ws]))
      case first =>
       rcases Int.lt_or_le p.f0 0 with c | c
       case inl =>
        have d1 : decide (p.f0 ≥ 0) = false := dF (by omega)
        have d2 : decide (0 ≤ p.f0) = false := dF (by omega)
        have HT2 := aM (show tag = -1 by rw [HTG.out, if_neg (by omega)])
        have HW2 := aM (show ws = p.f1 by rw [HWS.out, waysAt, if_neg (by omega)])
        have hs := HS.out.push_ro (Below.refl _ _) HUL.out
        rw [← HW2.out] at hs
        clear HS
        have HS := aM hs
        clear hs
        go_wp2_with fail
        go_meet
        case rel => exact ⟨by rw [HT2.out], HS⟩
       case inr =>
        obtain ⟨n, hn⟩ : ∃ n : Nat, p.f0 = (n : Int) := ⟨p.f0.toNat, by omega⟩
        rw [hn] at x0 HTG
        rw [Int.toNat_natCast] at HTG
        have HT2 := aM (show tag = tags.getD n 0 by rw [HTG.out, if_pos (by omega)])
        have HW2 := aM (show ws = waysL (next.getD n []) rows by rw [HWS.out, waysAt, if_pos c, hn, Int.toNat_natCast])
        have hn1 : n < next.length := by have := HA.out; omega
        have hn2 : n < tags.length := by have := HTL.out; omega
        have hn3 : (n : Int) < (tags.length : Int) := by omega
        have hn0 : (0 : Int) ≤ (n : Int) := by omega
        have d1 : decide (p.f0 ≥ 0) = true := dT (by omega)
        have d2 : decide (0 ≤ p.f0) = true := dT (by omega)
        have d3 : decide ((n : Int) ≥ 0) = true := dT (by omega)
        have d4 : decide (0 ≤ (n : Int)) = true := dT (by omega)
        have HX0 := aM x0
        obtain ⟨at_, ct', et, yt⟩ := int_cell H2.out n hn2
        cases et
        rw [← HT2.out] at yt
        have HYT := aM yt
        have HPN := aM hn
        clear HUL x1 c hn yt
        rw [d2]
        go_wp2_with fail
        have hs := HS.out.drew
        clear HS x0
        have HS := aM hs
        clear hs
        obtain ⟨al', cl', ul2, el, x0, _, _⟩ := pl_ocell HS.out 3 rfl i hi
        cases el
        rw [HPE.out, HPN.out] at x0
        have y0 := (HS.out.box 0 rfl).cell 0 rfl
        have y1 := (HS.out.box 0 rfl).cell 1 rfl
        have y2 := (HS.out.box 0 rfl).cell 2 rfl
        refine start_ (n := 9) (S := fun w' => w'.cell? ⟨g0, 0, none⟩ = some (.slice Ap parts.length cp) ∧ w'.cell? ⟨g0, 1, none⟩ = some (.slice An next.length cn) ∧ w'.cell? ⟨g0, 2, none⟩ = some (.slice (some at_) tags.length ct) ∧ w'.cell? (al.add (i * 2)) = some (.int .i64 (n : Int))) (ds := [7]) #[false, false, false, false, false, false, false, false, false] (by kernel_rfl) rfl rfl ⟨y0, y1, y2, x0⟩ (fun hHeld => ?_)
        refine pure_ (i := 1) (N := some 53) (v := ?_) (a' := ?_) (bv 9 2) rfl rfl (by kernel_rfl) (fun _ _ _ h => h) (Or.inl ⟨by rfl, ?_⟩) ?_ ?_
        rotate_left
        ·intro w'
         go_simp
         with_reducible rfl
        rotate_left
        ·simp only [Act.put, qA, qB, qC, i64_w, i32_w]
         rfl
        refine pure_ (i := 2) (N := some 54) (v := ?_) (a' := ?_) (bv 9 6) rfl rfl (by kernel_rfl) (fun _ _ _ h => h) (Or.inl ⟨by rfl, ?_⟩) ?_ ?_
        rotate_left
        ·intro w'
         go_simp
         with_reducible rfl
        rotate_left
        ·simp only [Act.put, qA, qB, qC, i64_w, i32_w]
         rfl
        refine pure_ (i := 3) (N := some 55) (v := ?_) (a' := ?_) (bv 9 14) rfl rfl (by kernel_rfl) (fun _ _ _ h => h) (Or.inl ⟨by rfl, ?_⟩) ?_ ?_
        rotate_left
        ·intro w'
         go_simp
         with_reducible rfl
        rotate_left
        ·simp only [Act.put, qA, qB, qC, i64_w, i32_w]
         rfl
        refine pure_ (i := 4) (N := some 56) (v := ?_) (a' := ?_) (bv 9 30) rfl rfl (by kernel_rfl) (fun _ _ _ h => h) (Or.inl ⟨by rfl, ?_⟩) ?_ ?_
        rotate_left
        ·intro w'
         go_simp
         with_reducible rfl
        rotate_left
        ·simp only [Act.put, qA, qB, qC, i64_w, i32_w]
         rfl
        refine pure_ (i := 5) (N := some 57) (v := ?_) (a' := ?_) (bv 9 62) rfl rfl (by kernel_rfl) (fun _ _ _ h => h) (Or.inl ⟨by rfl, ?_⟩) ?_ ?_
        rotate_left
        ·intro w'
         go_simp
         with_reducible rfl
        rotate_left
        ·simp only [Act.put, qA, qB, qC, i64_w, i32_w]
         rfl
        refine take_ (i := 0) (N := some 52) (v := ?_) (a' := ?_) (bv 9 63) rfl rfl (by kernel_rfl) (fun _ _ _ h => h) (Or.inl ⟨by rfl, ?_⟩) hHeld ?_ ?_
        rotate_left
        ·rintro w' ⟨s0, s1, s2, s3⟩
         go_simp
         with_reducible rfl
        rotate_left
        ·simp only [Act.put, qA, qB, qC, i64_w, i32_w]
         rfl
        refine take_ (i := 6) (N := some 58) (v := ?_) (a' := ?_) (bv 9 127) rfl rfl (by kernel_rfl) (fun _ _ _ h => h) (Or.inl ⟨by rfl, ?_⟩) hHeld ?_ ?_
        rotate_left
        ·rintro w' ⟨s0, s1, s2, s3⟩
         go_simp
         with_reducible rfl
        rotate_left
        ·simp only [Act.put, qA, qB, qC, i64_w, i32_w]
         rfl
        refine last_ (i := 7) (N := some 59) #[true, true, true, true, true, true, true, true, false] rfl rfl (by kernel_rfl) (by decide) (fun K hK => ?_)
        refine goes_ Tryz.func65 (by kernel_rfl) rfl #[.agg #[.slice Ap parts.length cp, .slice An next.length cn, .slice (some at_) tags.length ct], .slice A3 rows.length c3, .int .i64 (n : Int)] (by rfl) rfl rfl (by simp only [List.map_toArray, List.map_cons, List.map_nil]; rfl) ?_
        with_reducible refine (ways_calls _ _ _ _ _ parts next tags rows n _ HS.out.lt (HS.out.arg H0.out) (HS.out.arg H1.out) (HS.out.arg H2.out) (HS.out.ro 2 rfl) hn1 (by rw [HNR.out n hn1]; exact HRL.out.symm) (by rw [← HW2.out]; exact HWL.out)).mono ?_
        rintro e w8 ⟨v8, rfl, hv, hb⟩
        refine ⟨_, rfl, ?_⟩
        rw [← HW2.out] at hv
        have hs := HS.out.push_ro hb hv
        clear hv hb y0 y1 y2 x0
        clear HS; have HS := aM hs; clear hs
        refine hK.out _ _ ?_
        clear hK K
        refine norm_ (a' := ?_) ?_ ?_
        rotate_left
        ·show Act.put _ (some 59) _ = _
         simp only [Act.put, qA, qB, qC, i64_w, i32_w]
         rfl
        refine pure_ (i := 8) (N := some 8) (v := ?_) (a' := ?_) (bv 9 511) rfl rfl (by kernel_rfl) (fun _ _ _ h => h) (Or.inl ⟨by rfl, ?_⟩) ?_ ?_
        rotate_left
        ·intro w'
         go_simp
         with_reducible rfl
        rotate_left
        ·simp only [Act.put, qA, qB, qC, i64_w, i32_w]
         rfl
        refine done_ (by kernel_rfl) ?_
        go_wp2_with fail
        obtain ⟨al', cl', ul3, el, x0, _, _⟩ := pl_ocell HS.out 3 rfl i hi
        cases el
        rw [HPE.out, HPN.out] at x0
        have y2 := (HS.out.box 0 rfl).cell 2 rfl
        have y3 := pw_cell_below HS.out.below HYT.out
        go_quiet (fail)
        have HS2 := aM (HS.out.drewN nq)
        go_wp2_with fail
        go_meet
        case rel => exact ⟨rfl, HS2⟩
      case rest =>
       obtain ⟨rfl, HS0⟩ := hcut
       clear HS HUL x0 x1
       obtain ⟨Aw, cw, ew⟩ := HS0.out.rform 7 rfl
       subst ew
       have HS1 := aM (HS0.out.push_nil kInt 3)
       clear HS0
       go_wp2_with fail
       have hs := HS1.out.push_box [.int .i64 (-1), .slice none 0 0] 115
       obtain ⟨g9, hg9⟩ : ∃ g, g = wc.heap.size := ⟨_, rfl⟩
       rw [← hg9] at hs ⊢
       have HS := aM (hs.push_ro (Below.refl _ _) (PV.nil kWy _ _))
       clear HS1 hs hg9 e1 e2
       obtain ⟨r2, hr2⟩ : ∃ q, q = bytesGo ws 256 0 ⟨s.l, -1, ⟨-1, []⟩, []⟩ := ⟨_, rfl⟩
       rw [← hr2] at HR2
       have HBY := aM hr2.symm
       have HBO := aM (show ByOk K i p 0 ⟨s.l, -1, ⟨-1, []⟩, []⟩ from ⟨HKL.out, ⟨hi, HPE.out⟩, ⟨by show (-1 : Int) < (s.l.length : Int); omega, Int.le_refl _⟩, rfl⟩)
       clear hr2
       go_loopg [5, 10, 12, 13] 256 (fun m v5 v10 v12 v13 w' => ∃ (c : Nat) (t : BySt) (vla : Value), (v13 = .int .i64 c ∧ v12 = .int .i64 t.x) ∧ Aside0 (c + m = 256) ∧ Aside0 (ByOk K i p c t) ∧ Aside0 (bytesGo ws m c t = r2) ∧ Aside0 (Sep X w w' [.box g0 80 [.slice Ap parts.length cp, .slice An next.length cn, .slice At tags.length ct], .box g1 49 [.slice none 0 0, .slice none 0 0], .ro kRgss (.slice A3 rows.length c3) rows, .row kPl 115 v5 t.l, .box g4 49 [(.slice A5 s.next.length c5), (.slice A6 s.tags.length c6)], .row kRow 26 (.slice A5 s.next.length c5) s.next, .row kInt 3 (.slice A6 s.tags.length c6) s.tags, .ro kWy (.slice Aw ws.length cw) ws, .row kInt 3 v10 t.row, .box g9 115 [.int .i64 t.last.f0, vla], .ro kWy vla t.last.f1]))
       case atStart => exact ⟨0, ⟨s.l, -1, ⟨-1, []⟩, []⟩, _, ⟨rfl, rfl⟩, ⟨by omega⟩, HBO, HBY, HS⟩
       case round =>
        clear HS HBY HBO
        obtain ⟨c, t, vla, ⟨rfl, rfl⟩, HC, HBO, HBY, HS⟩ := hrel
        obtain ⟨Al2, cl2, el⟩ := HS.out.form 3 rfl
        subst el
        obtain ⟨A10, c10, e10⟩ := HS.out.form 8 rfl
        subst e10
        obtain ⟨Ala, cla, ela⟩ := HS.out.rform 10 rfl
        subst ela
        have HTL2 := aM (HK.out.len _ HBO.out.k)
        cases gk with
        | zero =>
         have e1 : decide ((c : Int) < 256) = false := dF (by have := HC.out; omega)
         have e2 : decide (c < 256) = false := dF (by have := HC.out; omega)
         have q0 : t = r2 := HBY.out
         clear HBY
         subst q0
         have hs := HS.out.sealRo 8 rfl
         clear HS
         have HS := aM hs
         have y2 := (hs.box 4 rfl).cell 0 rfl
         clear hs
         have HPL2 := aM (show s.next.length + 1 ≤ 100000001 ∧ s.tags.length + 1 ≤ 100000001 by have := HNT.out; omega)
         go_wp2_with (first
          | ((with_reducible refine gate_dst (N := 110) rfl ?_); refine slit kRow 26 ?hg (N := 110) ?hd (xs := [t.row]) (inner := [.slice A10 t.row.length c10]) ?hr HS.out ?hp (by simp) ?_; (case hd => rfl); (case hg => rfl); (case hr => first | (go_simp; done) | (go_simp; rfl)); (case hp => exact Reps.one (PK.slice (HS.out.ro 8 rfl)) (Reps.none _ _)); clear HS; intro v30 w30 hs; have HS := aM hs; clear hs)
          | ((with_reducible refine gate_builtin (b := .append) (xs := #[.tmp 108, .tmp 110]) rfl ?_); at_builtin; refine sgrow kRow 5 rfl (.tmp 108) (.tmp 110) 25 26 (.slice none 0 0) 24 rfl Tryz.underlying25 info26 rfl (by decide) (by omega) _ _ s.next [t.row] rfl rfl HS.out rfl (HS.out.ro 11 rfl) (by have := HPL2.out; rw [lS]; omega) ?_; clear HS; intro v1 w1 hs; obtain ⟨n1, hn1⟩ : ∃ q, q = s.next ++ [t.row] := ⟨_, rfl⟩; rw [← hn1] at hs; have HZn1 := aM hn1; clear hn1; obtain ⟨A1, c1, e1⟩ := hs.form 5 rfl; subst e1; have fz := (hs.box 4 rfl).open_ 0; have yz := (hs.box 4 rfl).cell 0 rfl; have yt := (hs.box 4 rfl).cell 1 rfl; have HS := aM hs; clear hs)
          | ((have hs0 := HS.out.set_box 4 rfl 0 (.slice A1 n1.length c1); clear HS; have HS := aM hs0; clear hs0); ((with_reducible refine gate_dst (N := 116) rfl ?_); refine slit kInt 3 ?hg (N := 116) ?hd (xs := [tag]) (inner := [.int .i64 tag]) ?hr HS.out ?hp (by simp) ?_; (case hd => rfl); (case hg => rfl); (case hr => first | (go_simp; done) | (go_simp; rfl)); (case hp => exact Reps.one (PK.scalar _) (Reps.none _ _)); clear HS; intro v31 w31 hs; have HS := aM hs; clear hs))
          | ((with_reducible refine gate_builtin (b := .append) (xs := #[.tmp 114, .tmp 116]) rfl ?_); at_builtin; refine sgrow kInt 6 rfl (.tmp 114) (.tmp 116) 26 3 (.int .i64 0) 8 rfl Tryz.underlying26 info3' rfl (by decide) (by omega) _ _ s.tags [tag] rfl rfl HS.out rfl (HS.out.ro 12 rfl) (by have := HPL2.out; rw [lS]; omega) ?_; clear HS; intro v2 w2 hs; obtain ⟨t1, ht1⟩ : ∃ q, q = s.tags ++ [tag] := ⟨_, rfl⟩; rw [← ht1] at hs; have HZt1 := aM ht1; clear ht1; obtain ⟨A2, c2, e2⟩ := hs.form 6 rfl; subst e2; have fz2 := (hs.box 4 rfl).open_ 1; have yz2 := (hs.box 4 rfl).cell 1 rfl; have HS := aM hs; clear hs))
         have hs := HS.out.set_box 4 rfl 1 (.slice A2 t1.length c2)
         clear HS
         have HS := aM hs
         clear hs
         go_roundg k1
         case measure => omega
         case rel => exact ⟨i + 1, ⟨t.l, n1, t1⟩, _, _, by go_num, ⟨by have := HJ.out; omega, by have := HBO.out.i_.1; show i + 1 ≤ t.l.length; omega⟩, ⟨HBO.out.k⟩, ⟨by rw [HZn1.out]; have := HNT.out; simp; omega, by rw [HZt1.out]; have := HNT.out; simp; omega⟩, ⟨by rw [HZn1.out, HZt1.out]; exact HR2.out⟩, ⟨HS.out.take 7⟩⟩
        | succ m1 =>
         have hc : c < 256 := by have := HC.out; omega
         have hc1 : (c : Int) < 256 := by omega
         have hc0 : (0 : Int) ≤ (c : Int) := by omega
         have e1 : decide ((c : Int) < 256) = true := dT (by omega)
         have e2 : decide (c < 256) = true := dT hc
         have hb1 := HBO.out.step HK.out hc
         rw [← HWS.out] at hb1
         have HBY1 := HBY.out
         rw [bytesGo] at HBY1
         have hb2 : byteStep ws (c : Int) t = ⟨if byX t (stepL (c : Int) ws) = (t.l.length : Int) then t.l ++ [(stepL (c : Int) ws).1] else t.l, byX t (stepL (c : Int) ws), (stepL (c : Int) ws).1, t.row ++ [byX t (stepL (c : Int) ws)]⟩ := rfl
         rw [hb2] at hb1 HBY1
         obtain ⟨q, hq⟩ : ∃ q, q = stepL (c : Int) ws := ⟨_, rfl⟩
         rw [← hq] at hb1 HBY1
         have HQ := aM hq.symm
         obtain ⟨b2, hb3⟩ : ∃ b, b = q.2 := ⟨_, rfl⟩
         have HB2 := aM hb3.symm
         have HB1 := aM hb1
         have HBY2 := aM HBY1
         have HXL := aM (byX_le t q HBO.out.x.1 HBO.out.x.2)
         obtain ⟨xq, hxq⟩ : ∃ x, x = byX t q := ⟨_, rfl⟩
         rw [← hxq] at HB1 HBY2 HXL
         have HXQ := aM (show xq = if b2 = true then (if t.x < 0 ∨ q.1 ≠ t.last then (findP q.1 t.l : Int) else t.x) else -1 by rw [hxq, hb3]; rfl)
         clear hb1 hb2 HBY1 HBY hq hb3 hxq
         go_upto_if 82 with (first
          | (go_at_call 66; (with_reducible refine (step_calls _ _ ws (c : Int) _ HS.out.lt (HS.out.ro 7 rfl) HNE.out HWL.out).mono ?_); rintro ee w9 ⟨v9, rfl, hv, hb⟩; rw [HQ.out] at hv ⊢; rw [HB2.out]; have hs := HS.out.push_ro hb hv; clear hv hb; obtain ⟨Aq, cq, eq⟩ := hs.rform 11 rfl; subst eq; clear HS; have HS := aM hs; clear hs))
         have hs := HS.out.push_box [.int .i64 q.1.f0, .slice Aq q.1.f1.length cq] 115
         obtain ⟨g12, hg12⟩ : ∃ g, g = w9.heap.size := ⟨_, rfl⟩
         rw [← hg12] at hs ⊢
         clear HS hg12
         have HS := aM hs
         clear hs
         go_cut [12] (fun v12 wc => v12 = .int .i64 xq ∧ Aside0 (Sep X w wc [.box g0 80 [.slice Ap parts.length cp, .slice An next.length cn, .slice At tags.length ct], .box g1 49 [.slice none 0 0, .slice none 0 0], .ro kRgss (.slice A3 rows.length c3) rows, .row kPl 115 (.slice Al2 t.l.length cl2) t.l, .box g4 49 [(.slice A5 s.next.length c5), (.slice A6 s.tags.length c6)], .row kRow 26 (.slice A5 s.next.length c5) s.next, .row kInt 3 (.slice A6 s.tags.length c6) s.tags, .ro kWy (.slice Aw ws.length cw) ws, .row kInt 3 (.slice A10 t.row.length c10) t.row, .box g9 115 [.int .i64 t.last.f0, .slice Ala t.last.f1.length cla], .ro kWy (.slice Ala t.last.f1.length cla) t.last.f1, .ro kWy (.slice Aq q.1.f1.length cq) q.1.f1, .box g12 115 [.int .i64 q.1.f0, .slice Aq q.1.f1.length cq]]))
         case first =>
          have y0 := (HS.out.box 12 rfl).cell 0 rfl
          have y1 := (HS.out.box 12 rfl).cell 1 rfl
          have y2 := (HS.out.box 9 rfl).cell 0 rfl
          have y3 := (HS.out.box 9 rfl).cell 1 rfl
          cases b2
          case false =>
           have HX := aM (show xq = -1 by rw [HXQ.out, if_neg (by decide)])
           go_wp2_with fail
           go_meet
           case rel => exact ⟨by rw [HX.out], HS⟩
          case true =>
           have HX := aM (show xq = if t.x < 0 ∨ q.1 ≠ t.last then (findP q.1 t.l : Int) else t.x by rw [HXQ.out, if_pos rfl])
           rcases Int.lt_or_le t.x 0 with cx | cx
           case inl =>
            have d1 : decide (t.x < 0) = true := dT cx
            have HX2 := aM (show xq = (findP q.1 t.l : Int) by rw [HX.out, if_pos (.inl cx)])
            clear cx
            go_wp2_with (first
             | (go_at_call 68; (with_reducible refine (find_calls X _ _ t.l q.1 _ (fun k hk => Nat.lt_of_lt_of_le (HS.out.old k hk) HS.out.below.size) (HS.out.res_row 3 rfl) (HS.out.res 11 rfl)).mono ?_); rintro ee w11 ⟨rfl, hb⟩; have hs := HS.out.call hb; clear hb; clear HS; have HS := aM hs; clear hs))
            go_meet
            case rel => exact ⟨by rw [HX2.out], HS⟩
           case inr =>
            have d1 : decide (t.x < 0) = false := dF (by omega)
            obtain ⟨qb, hqb⟩ : ∃ b, b = decide (q.1 = t.last) := ⟨_, rfl⟩
            have HQB := aM hqb.symm
            clear hqb
            go_upto_if 90 with (first
             | (go_at_call 67; (with_reducible refine (same13_calls _ _ _ q.1 t.last _ HS.out.lt (HS.out.ro 11 rfl) (HS.out.ro 10 rfl)).mono ?_); rintro ee w10 ⟨rfl, hb⟩; rw [HQB.out]; have hs := HS.out.call hb; clear hb y0 y1 y2 y3; have y0 := (hs.box 12 rfl).cell 0 rfl; have y1 := (hs.box 12 rfl).cell 1 rfl; clear HS; have HS := aM hs; clear hs))
            cases qb
            case true =>
             have HX2 := aM (show xq = t.x by rw [HX.out, if_neg (fun h => h.elim (fun h => by omega) (fun h => h (of_decide_eq_true HQB.out)))])
             go_wp2_with fail
             go_meet
             case rel => exact ⟨by rw [HX2.out], HS⟩
            case false =>
             have HX2 := aM (show xq = (findP q.1 t.l : Int) by rw [HX.out, if_pos (.inr (of_decide_eq_false HQB.out))])
             go_wp2_with (first
              | (go_at_call 68; (with_reducible refine (find_calls X _ _ t.l q.1 _ (fun k hk => Nat.lt_of_lt_of_le (HS.out.old k hk) HS.out.below.size) (HS.out.res_row 3 rfl) (HS.out.res 11 rfl)).mono ?_); rintro ee w11 ⟨rfl, hb⟩; have hs := HS.out.call hb; clear hb; clear HS; have HS := aM hs; clear hs))
             go_meet
             case rel => exact ⟨by rw [HX2.out], HS⟩
         case rest =>
          obtain ⟨rfl, HS1⟩ := hcut
          clear HS
          have HS := HS1
          clear HS1
          have HRL2 := aM HBO.out.row
          have y0 := (HS.out.box 12 rfl).cell 0 rfl
          have y1 := (HS.out.box 12 rfl).cell 1 rfl
          have y2 := (HS.out.box 9 rfl).cell 0 rfl
          have y3 := (HS.out.box 9 rfl).cell 1 rfl
          have f2 := (HS.out.box 9 rfl).open_ 0
          have f3 := (HS.out.box 9 rfl).open_ 1
          have hs5 := (HS.out.set_box 9 rfl 0 (.int .i64 q.1.f0)).set_box 9 rfl 1 (.slice Aq q.1.f1.length cq)
          have z0 := (hs5.box 12 rfl).cell 0 rfl
          have z1 := (hs5.box 12 rfl).cell 1 rfl
          clear hs5
          have HLB := aM (show t.l.length ≤ 100000000 by have := HTL2.out; omega)
          clear e1 e2
          by_cases c5 : xq = (t.l.length : Int)
          case pos =>
           have d1 : (xq == (t.l.length : Int)) = true := beq_iff_eq.mpr c5
           have HB3 := aM (show ByOk K i p (c + 1) ⟨t.l ++ [q.1], xq, q.1, t.row ++ [xq]⟩ by have := HB1.out; rwa [if_pos c5] at this)
           have HBY3 := aM (show bytesGo ws m1 (c + 1) ⟨t.l ++ [q.1], xq, q.1, t.row ++ [xq]⟩ = r2 by have := HBY2.out; rwa [if_pos c5] at this)
           clear c5 HB1 HBY2
           go_wp2_with (first
            | ((have hs0 := (HS.out.set_box 9 rfl 0 (.int .i64 q.1.f0)).set_box 9 rfl 1 (.slice Aq q.1.f1.length cq); clear HS; have HS := aM hs0; clear hs0); ((with_reducible refine gate_dst (N := 101) rfl ?_); refine slit kPl 115 ?hg (N := 101) ?hd (xs := [q.1]) (inner := [.int .i64 q.1.f0, .slice Aq q.1.f1.length cq]) ?hr HS.out ?hp (by simp) ?_; (case hd => rfl); (case hg => rfl); (case hr => first | (go_simp; done) | (go_simp; rfl)); (case hp => exact (pl_rep q.1.f0 (HS.out.ro 11 rfl))); clear HS; intro v30 w30 hs; have y4 := (hs.box 12 rfl).cell 0 rfl; have y5 := (hs.box 12 rfl).cell 1 rfl; have HS := aM hs; clear hs))
            | ((with_reducible refine gate_builtin (b := .append) (xs := #[.tmp 99, .tmp 101]) rfl ?_); at_builtin; refine sgrow kPl 3 rfl (.tmp 99) (.tmp 101) 116 115 (.agg #[.int .i64 0, .slice none 0 0]) 32 rfl Tryz.underlying116 info115 rfl (by decide) (by omega) _ _ t.l [q.1] rfl rfl HS.out rfl (HS.out.ro 13 rfl) (by have := HLB.out; rw [lS]; omega) ?_; clear HS; intro v31 w31 hs; have HS := aM hs; clear hs)
            | ((with_reducible refine gate_dst (N := 105) rfl ?_); refine slit kInt 3 ?hg (N := 105) ?hd (xs := [xq]) (inner := [.int .i64 xq]) ?hr HS.out ?hp (by simp) ?_; (case hd => rfl); (case hg => rfl); (case hr => first | (go_simp; done) | (go_simp; rfl)); (case hp => exact Reps.one (PK.scalar _) (Reps.none _ _)); clear HS; intro v32 w32 hs; have HS := aM hs; clear hs)
            | ((with_reducible refine gate_builtin (b := .append) (xs := #[.tmp 103, .tmp 105]) rfl ?_); at_builtin; refine sgrow kInt 8 rfl (.tmp 103) (.tmp 105) 26 3 (.int .i64 0) 8 rfl Tryz.underlying26 info3' rfl (by decide) (by omega) _ _ t.row [xq] rfl rfl HS.out rfl (HS.out.ro 14 rfl) (by have := HRL2.out; rw [lS]; omega) ?_; clear HS; intro v33 w33 hs; have HS := aM hs; clear hs))
           go_roundg m1
           case measure => omega
           case rel => exact ⟨c + 1, ⟨t.l ++ [q.1], xq, q.1, t.row ++ [xq]⟩, _, ⟨by go_num, rfl⟩, ⟨by have := HC.out; omega⟩, HB3, HBY3, ⟨(HS.out.take 12).cut 10 1⟩⟩
          case neg =>
           have d1 : (xq == (t.l.length : Int)) = false := bF c5
           have HB3 := aM (show ByOk K i p (c + 1) ⟨t.l, xq, q.1, t.row ++ [xq]⟩ by have := HB1.out; rwa [if_neg c5] at this)
           have HBY3 := aM (show bytesGo ws m1 (c + 1) ⟨t.l, xq, q.1, t.row ++ [xq]⟩ = r2 by have := HBY2.out; rwa [if_neg c5] at this)
           clear c5 HB1 HBY2
           go_wp2_with (first
            | ((have hs0 := (HS.out.set_box 9 rfl 0 (.int .i64 q.1.f0)).set_box 9 rfl 1 (.slice Aq q.1.f1.length cq); clear HS; have HS := aM hs0; clear hs0); ((with_reducible refine gate_dst (N := 105) rfl ?_); refine slit kInt 3 ?hg (N := 105) ?hd (xs := [xq]) (inner := [.int .i64 xq]) ?hr HS.out ?hp (by simp) ?_; (case hd => rfl); (case hg => rfl); (case hr => first | (go_simp; done) | (go_simp; rfl)); (case hp => exact Reps.one (PK.scalar _) (Reps.none _ _)); clear HS; intro v32 w32 hs; have HS := aM hs; clear hs))
            | ((with_reducible refine gate_builtin (b := .append) (xs := #[.tmp 103, .tmp 105]) rfl ?_); at_builtin; refine sgrow kInt 8 rfl (.tmp 103) (.tmp 105) 26 3 (.int .i64 0) 8 rfl Tryz.underlying26 info3' rfl (by decide) (by omega) _ _ t.row [xq] rfl rfl HS.out rfl (HS.out.ro 13 rfl) (by have := HRL2.out; rw [lS]; omega) ?_; clear HS; intro v33 w33 hs; have HS := aM hs; clear hs))
           go_roundg m1
           case measure => omega
           case rel => exact ⟨c + 1, ⟨t.l, xq, q.1, t.row ++ [xq]⟩, _, ⟨by go_num, rfl⟩, ⟨by have := HC.out; omega⟩, HB3, HBY3, ⟨(HS.out.take 12).cut 10 1⟩⟩
end Go.Proofs.YtplhfgobeicegaaGreatDoor.P
