/- Part 29 of the proof: S14h. -/
import Derived.Test.YtplhfgobeicegaaGreatDoorPe28
namespace Go.Proofs.YtplhfgobeicegaaGreatDoor.P
open Go Go.RowKit Go.Proofs.YtplhfgobeicegaaGreatDoorW.PrintWords Go.Proofs.YtplhfgobeicegaaGreatDoorW.PrintLast Go.Proofs.YtplhfgobeicegaaGreatDoorW.PrintMore Go.Proofs.YtplhfgobeicegaaGreatDoor.PX
set_option linter.unusedVariables false
set_option linter.unusedSimpArgs false
set_option maxRecDepth 100000
section
variable {α : Type} {d : Kd α} {e : Nat} {X : Nat → Prop} {w0 w : World} {us : List SlT} {gs : List (List α)}
theorem perm_grp (A B : List PX.Item) (x : PX.Item) : ((A ++ B) ++ [x]).Perm ((A ++ [x]) ++ B) := by
 rw [List.append_assoc, List.append_assoc]
 exact List.Perm.append_left A List.perm_append_comm
theorem grp_done {x y : PX.Item} (A : List PX.Item) (hu : us.length = gs.length) (u : SlT) (g : List α) (h : PX.Sep X w0 w (A ++ (.row d e (encS u) g :: ((rows d e us gs ++ [x]) ++ [y])))) : PX.Sep X w0 w (A ++ rows d e (us ++ [u]) (gs ++ [g])) := by
 rw [rows_snoc hu]
 refine PX.Sep.perm (L := A ++ (.row d e (encS u) g :: rows d e us gs)) (h.sub (List.Sublist.append_left (List.Sublist.cons_cons _ ((List.sublist_append_left _ _).trans (List.sublist_append_left _ _))) A)) ?_
 exact List.Perm.append_left A (List.perm_append_singleton _ _).symm
theorem grp_cut {x : PX.Item} (A B : List PX.Item) (h : PX.Sep X w0 w (A ++ (B ++ [x]))) : PX.Sep X w0 w (A ++ B) := h.sub (List.Sublist.append_left (List.sublist_append_left _ _) A)
end
set_option maxHeartbeats 16000000 in
theorem of14own_calls (X : Nat → Prop) (vn vt : Value) (next : List (List Int)) (tags : List Int) (w : World) (hX : ∀ k, X k → k < w.heap.size) (hn : PV kRow X w vn next) (ht : PV kInt X w vt tags) (hb : BSound next tags) :
  Calls Tryz.prog 13 #[.agg #[vn, vt]] w fun e w' => ∃ v0 v1 v2 us, e = .returned (.tuple #[.agg #[v0, v1, v2], .int .i64 0]) ∧ us.length = next.length ∧ Sep X w w' ([.row kU8 5 v0 (classesL next).2, .row kSl 26 v1 us, .row kInt 3 v2 tags] ++ rows kInt 3 us (next.map (shortRow (classesL next).1))) := by
 have H1 := aM hn
 have H2 := aM ht
 have m1 := hn.max
 have m2 := ht.max
 obtain ⟨An, cn, rfl, _, _⟩ := hn.now
 obtain ⟨At, ct, rfl, _, _⟩ := ht.now
 have HS := aM (((Sep.start hX).push_box [.slice An next.length cn, .slice At tags.length ct] 49).push_box' [.slice none 0 0, .slice none 0 0, .slice none 0 0] 28 (w.heap.size + 1) (by simp))
 have HQ := aM (dT hb)
 have HSO := aM hb
 obtain ⟨cl, hcl⟩ : ∃ c, c = classesL next := ⟨_, rfl⟩
 rw [← hcl]
 clear hn ht hX hb
 go_enter Tryz.func13, Tryz.ntmps13
 go_upto_if 13 with (first
  | (go_at_call 38; (with_reducible refine (bsound_calls _ _ _ next tags _ HS.out.lt (HS.out.arg H1.out) (HS.out.arg H2.out)).mono ?_); rintro ee w5 ⟨rfl, hb⟩; rw [HQ.out]; have hs := HS.out.call hb; clear hb; clear HS; have HS := aM hs; clear hs))
 obtain ⟨g1, hg1⟩ : ∃ g, g = w.heap.size + 1 := ⟨_, rfl⟩
 obtain ⟨g0, hg0⟩ : ∃ g, g = w.heap.size := ⟨_, rfl⟩
 rw [← hg1, ← hg0] at HS ⊢
 clear hg0 hg1
 have x0 := ((HS.out.box 1 rfl).cell 0 rfl)
 have x1 := ((HS.out.box 1 rfl).cell 1 rfl)
 have x2 := ((HS.out.box 1 rfl).cell 2 rfl)
 have f0 := (HS.out.box 1 rfl).open_ 0
 have f1 := (HS.out.box 1 rfl).open_ 1
 have f2 := (HS.out.box 1 rfl).open_ 2
 have HNT := aM (show next.length = tags.length ∧ tags.length ≤ 40000 from ⟨HSO.out.1.2.2, HSO.out.1.2.1⟩)
 have HROW := aM (show ∀ row ∈ next, row.length = 256 from fun row hrow => by
  obtain ⟨i', hi', e'⟩ := List.getElem_of_mem hrow
  have h := (HSO.out.2 i' (by have := HNT.out; omega)).1
  rw [List.getD_eq_getElem?_getD, List.getElem?_eq_getElem hi', e'] at h
  exact h)
 have HCL := aM (show clGo next 256 0 ([], []) = cl from hcl.symm)
 clear HSO HQ hcl
 go_wp2_with fail
 have hs := ((((HS.out.push_box [.slice none 0 0, .slice none 0 0, .slice none 0 0] 28).push_nil kInt 3).push_nil kU8 5).push_nil kSl 26).push_nil kInt 3
 obtain ⟨g2, hg2⟩ : ∃ g, g = w5.heap.size := ⟨_, rfl⟩
 rw [← hg2] at hs ⊢
 clear hg2 x0 x1 x2 f0 f1 f2 HS
 have HS := aM hs
 clear hs
 go_loopg [4, 6] 256 (fun m v4 v6 w' => ∃ (c : Nat) (p : List Int × List Int) (vC : Value), v6 = .int .i64 c ∧ Aside0 (c + m = 256) ∧ Aside0 (ClOk c p) ∧ Aside0 (clGo next m c p = cl) ∧ Aside0 (Sep X w w' [.box g0 49 [.slice An next.length cn, .slice At tags.length ct], .box g1 28 [.slice none 0 0, .slice none 0 0, .slice none 0 0], .box g2 28 [vC, (.slice none 0 0), (.slice none 0 0)], .row kInt 3 v4 p.1, .row kU8 5 vC p.2, .row kSl 26 (.slice none 0 0) [], .row kInt 3 (.slice none 0 0) []]))
 case atStart => exact ⟨0, ([], []), _, rfl, ⟨by omega⟩, ⟨clok_nil⟩, HCL, HS⟩
 case round =>
  clear HS HCL
  obtain ⟨c, p, vC, rfl, HJ, HP, HCL, HS⟩ := hrel
  obtain ⟨A4, c4, e4⟩ := HS.out.form 3 rfl
  subst e4
  obtain ⟨A5, c5, e5⟩ := HS.out.form 4 rfl
  subst e5
  cases gk with
  | zero =>
   have hc : c = 256 := by have := HJ.out; omega
   have e1 : decide ((c : Int) < 256) = false := dF (by omega)
   have e2 : decide (c < 256) = false := dF (by omega)
   have hcl : p = cl := HCL.out
   subst hcl
   have HPF := aM (show ∀ x ∈ p.1, 0 ≤ x ∧ x < 256 from fun x hx => by have := HP.out.f x hx; omega)
   have HFL := aM (show p.1.length ≤ 256 by have := HP.out.len; omega)
   clear HCL HP HJ hc
   go_wp2_with fail
   clear e1 e2
   go_loopg [8] next.length (fun m v8 w' => ∃ (i : Nat) (vN vT : Value) (us : List SlT) (N : List (List Int)) (T : List Int), v8 = .int .i64 i ∧ Aside0 (us.length = N.length) ∧ Aside0 (i + m = next.length) ∧ Aside0 (N = (next.take i).map (shortRow p.1)) ∧ Aside0 (T = tags.take i) ∧ Aside0 (Sep X w w' ([.box g0 49 [.slice An next.length cn, .slice At tags.length ct], .box g1 28 [.slice none 0 0, .slice none 0 0, .slice none 0 0], .box g2 28 [(.slice A5 p.2.length c5), vN, vT], .row kInt 3 (.slice A4 p.1.length c4) p.1, .row kU8 5 (.slice A5 p.2.length c5) p.2, .row kSl 26 vN us, .row kInt 3 vT T] ++ rows kInt 3 us N)))
   case atStart => exact ⟨0, _, _, [], [], [], rfl, ⟨rfl⟩, ⟨by omega⟩, ⟨rfl⟩, ⟨rfl⟩, HS⟩
   case round =>
    clear HS
    obtain ⟨i, vN, vT, us, N, T, rfl, HU0, HJ, HN, HT, HS⟩ := hrel
    obtain ⟨A6, c6, e6⟩ := HS.out.form 5 rfl
    subst e6
    obtain ⟨A7, c7, e7⟩ := HS.out.form 6 rfl
    subst e7
    have y1 := ((HS.out.box 0 rfl).cell 0 rfl)
    cases gk with
    | zero =>
     have hi : i = next.length := by have := HJ.out; omega
     have e1 : decide ((i : Int) < (next.length : Int)) = false := dF (by omega)
     have e2 : decide (i < next.length) = false := dF (by omega)
     have HRR := aM (show us.length = next.length ∧ N = next.map (shortRow p.1) ∧ T = tags by rw [HU0.out, HN.out, HT.out, hi, List.take_length, HNT.out.1, List.take_length, List.length_map]; exact ⟨HNT.out.1.symm ▸ rfl, rfl, rfl⟩)
     clear HN HT HJ hi
     have z0 := ((HS.out.box 2 rfl).cell 0 rfl)
     have z1 := ((HS.out.box 2 rfl).cell 1 rfl)
     have z2 := ((HS.out.box 2 rfl).cell 2 rfl)
     have x0 := ((HS.out.box 1 rfl).cell 0 rfl)
     have x1 := ((HS.out.box 1 rfl).cell 1 rfl)
     have x2 := ((HS.out.box 1 rfl).cell 2 rfl)
     have f0 := (HS.out.box 1 rfl).open_ 0
     have f1 := (HS.out.box 1 rfl).open_ 1
     have f2 := (HS.out.box 1 rfl).open_ 2
     go_wp2_with fail
     have HSF := aM (((HS.out.set_box 1 rfl 0 (.slice A5 p.2.length c5)).set_box 1 rfl 1 (.slice A6 us.length c6)).set_box 1 rfl 2 (.slice A7 T.length c7))
     refine bodyPost_ret (results_ct rfl _ _ g1 28 #[.slice A5 p.2.length c5, .slice A6 us.length c6, .slice A7 T.length c7] (0, 0) _ rfl (HSF.out.box 1 rfl) Tryz.underlying28 rfl (by kernel_rfl)) rfl ?_
     obtain ⟨q1, q2, q3⟩ := HRR.out
     subst q2 q3
     have hd := HSF.out.sub (List.drop_sublist 4 _)
     exact ⟨_, _, _, us, rfl, q1, hd⟩
    | succ k1 =>
     have hi : i < next.length := by have := HJ.out; omega
     have hit : i < tags.length := by have := HNT.out; omega
     have e1 : decide ((i : Int) < (next.length : Int)) = true := dT (by omega)
     have e2 : decide (i < next.length) = true := dT hi
     have hi0 : (0 : Int) ≤ (i : Int) := by omega
     have hi1 : (i : Int) < (next.length : Int) := by omega
     have hi2 : (i : Int) < (tags.length : Int) := by omega
     obtain ⟨an, cn', u, en, hu, yn⟩ := H1.out.row i hi
     cases en
     obtain ⟨Au, cu, rfl, _, _⟩ := hu.now
     obtain ⟨at_, ct', et, yt⟩ := int_cell H2.out i hit
     cases et
     have HU := aM hu
     have HY := aM (And.intro yn yt)
     have HRL := aM (show (next.getD i []).length = 256 from HROW.out _ (mem_getD next [] i hi))
     have HN2 := aM (show N ++ [shortRow p.1 (next.getD i [])] = (next.take (i + 1)).map (shortRow p.1) by rw [take_at next [] i hi, List.map_append, HN.out]; rfl)
     have HT2 := aM (show T ++ [tags.getD i 0] = tags.take (i + 1) by rw [take_at tags 0 i hit, HT.out])
     have HPL := aM (show N.length + 1 ≤ 1000000 by rw [HN.out]; have := HNT.out; simp; omega)
     have HPT := aM (show T.length + 1 ≤ 1000000 by rw [HT.out]; have := HNT.out; simp; omega)
     generalize next.getD i [] = row at *
     generalize tags.getD i 0 = tg at *
     have hs := (HS.out.push_nil kInt 3).perm (perm_grp _ _ _)
     clear hu yn yt HN HT HS
     have HS := aM hs
     clear hs
     go_wp2_with fail
     clear y1 e1 e2
     go_loopg [9, 10] p.1.length (fun m v9 v10 w' => ∃ (k : Nat) (R : List Int), v10 = .int .i64 k ∧ Aside0 (k + m = p.1.length) ∧ Aside0 (R = (p.1.take k).map (fun f => row.getD f.toNat 0)) ∧ Aside0 (Sep X w w' ([.box g0 49 [.slice (some an) next.length cn, .slice (some at_) tags.length ct], .box g1 28 [.slice none 0 0, .slice none 0 0, .slice none 0 0], .box g2 28 [(.slice A5 p.2.length c5), (.slice A6 us.length c6), (.slice A7 T.length c7)], .row kInt 3 (.slice A4 p.1.length c4) p.1, .row kU8 5 (.slice A5 p.2.length c5) p.2, .row kSl 26 (.slice A6 us.length c6) us, .row kInt 3 (.slice A7 T.length c7) T, .row kInt 3 v9 R] ++ rows kInt 3 us N)))
     case atStart => exact ⟨0, [], rfl, ⟨by omega⟩, ⟨rfl⟩, HS⟩
     case round =>
      clear HS
      obtain ⟨k, R, rfl, HC, HR, HS⟩ := hrel
      obtain ⟨A8, c8, e8⟩ := HS.out.form 7 rfl
      subst e8
      cases gk with
      | zero =>
       have hc : k = p.1.length := by have := HC.out; omega
       have e1 : decide ((k : Int) < (p.1.length : Int)) = false := dF (by omega)
       have e2 : decide (k < p.1.length) = false := dF (by omega)
       have q0 : R = shortRow p.1 row := by rw [HR.out, hc, List.take_length]; rfl
       rw [← q0] at HN2
       clear HR q0 hc
       have y2 := ((HS.out.box 2 rfl).cell 1 rfl)
       go_wp2_with (first
        | ((with_reducible refine gate_dst (N := 82) rfl ?_); refine slit kSl 26 ?hg (N := 82) ?hd (xs := [(A8, R.length, c8)]) (inner := [.slice A8 R.length c8]) ?hr HS.out ?hp (by simp) ?_; (case hd => rfl); (case hg => rfl); (case hr => first | (go_simp; done) | (go_simp; rfl)); (case hp => exact Reps.one (PK.scalar (enc := encS) (A8, R.length, c8)) (Reps.none _ _)); clear HS; intro v30 w30 hs; have HS := aM hs; clear hs)
        | ((with_reducible refine gate_builtin (b := .append) (xs := #[.tmp 80, .tmp 82]) rfl ?_); at_builtin; refine sgrow kSl 5 rfl (.tmp 80) (.tmp 82) 25 26 (.slice none 0 0) 24 rfl Tryz.underlying25 info26 rfl (by decide) (by omega) _ _ us [(A8, R.length, c8)] rfl rfl HS.out rfl (HS.out.ro _ List.getElem?_concat_length) (by have := HPL.out; have := HU0.out; rw [lS]; omega) ?_; clear HS; intro v1 w1 hs; obtain ⟨n1, hn1⟩ : ∃ q, q = us ++ [(A8, R.length, c8)] := ⟨_, rfl⟩; rw [← hn1] at hs; have HZn1 := aM hn1; clear hn1; obtain ⟨A1, c1, e1⟩ := hs.form 5 rfl; subst e1; have fz := (hs.box 2 rfl).open_ 1; have yz := (hs.box 2 rfl).cell 1 rfl; have HS := aM hs; clear hs))
       have hs := HS.out.set_box 2 rfl 1 (.slice A1 n1.length c1)
       obtain ⟨wd, hwd⟩ : ∃ x, x = w1.setCell ⟨g2, 1, none⟩ (.slice A1 n1.length c1) := ⟨_, rfl⟩
       rw [← hwd] at hs ⊢
       clear HS
       have HS := aM hs.drew
       clear hs hwd fz yz y2
       refine start_ (n := 11) (S := fun w' => w'.cell? ⟨g2, 2, none⟩ = some (.slice A7 T.length c7) ∧ w'.cell? ⟨g0, 1, none⟩ = some (.slice (some at_) tags.length ct) ∧ w'.cell? (at_.add i) = some (.int .i64 tg)) (ds := [8, 10]) #[false, false, false, false, false, false, false, false, false, false, false] (by kernel_rfl) rfl rfl ⟨((HS.out.box 2 rfl).cell 2 rfl), ((HS.out.box 0 rfl).cell 1 rfl), (pw_cell_below HS.out.below HY.out.2)⟩ (fun hHeld => ?_)
       refine pure_ (i := 0) (N := some 85) (v := ?_) (a' := ?_) (bv 11 1) rfl rfl (by kernel_rfl) (fun _ _ _ h => h) (Or.inl ⟨by rfl, ?_⟩) ?_ ?_
       rotate_left
       ·intro w'
        go_simp
        with_reducible rfl
       rotate_left
       ·simp only [Act.put, qA, qB, qC, i64_w, i32_w]
        rfl
       refine pure_ (i := 2) (N := some 87) (v := ?_) (a' := ?_) (bv 11 5) rfl rfl (by kernel_rfl) (fun _ _ _ h => h) (Or.inl ⟨by rfl, ?_⟩) ?_ ?_
       rotate_left
       ·intro w'
        go_simp
        with_reducible rfl
       rotate_left
       ·simp only [Act.put, qA, qB, qC, i64_w, i32_w]
        rfl
       refine pure_ (i := 4) (N := some 89) (v := ?_) (a' := ?_) (bv 11 21) rfl rfl (by kernel_rfl) (fun _ _ _ h => h) (Or.inl ⟨by rfl, ?_⟩) ?_ ?_
       rotate_left
       ·intro w'
        go_simp
        with_reducible rfl
       rotate_left
       ·simp only [Act.put, qA, qB, qC, i64_w, i32_w]
        rfl
       refine take_ (i := 1) (N := some 86) (v := ?_) (a' := ?_) (bv 11 23) rfl rfl (by kernel_rfl) (fun _ _ _ h => h) (Or.inl ⟨by rfl, ?_⟩) hHeld ?_ ?_
       rotate_left
       ·rintro w' ⟨s0, s1, s2⟩
        go_simp
        with_reducible rfl
       rotate_left
       ·simp only [Act.put, qA, qB, qC, i64_w, i32_w]
        rfl
       refine take_ (i := 3) (N := some 88) (v := ?_) (a' := ?_) (bv 11 31) rfl rfl (by kernel_rfl) (fun _ _ _ h => h) (Or.inl ⟨by rfl, ?_⟩) hHeld ?_ ?_
       rotate_left
       ·rintro w' ⟨s0, s1, s2⟩
        go_simp
        with_reducible rfl
       rotate_left
       ·simp only [Act.put, qA, qB, qC, i64_w, i32_w]
        rfl
       refine pure_ (i := 5) (N := some 90) (v := ?_) (a' := ?_) (bv 11 63) rfl rfl (by kernel_rfl) (fun _ _ _ h => h) (Or.inl ⟨by rfl, ?_⟩) ?_ ?_
       rotate_left
       ·intro w'
        go_simp
        with_reducible rfl
       rotate_left
       ·simp only [Act.put, qA, qB, qC, i64_w, i32_w]
        rfl
       refine take_ (i := 6) (N := some 91) (v := ?_) (a' := ?_) (bv 11 127) rfl rfl (by kernel_rfl) (fun _ _ _ h => h) (Or.inl ⟨by rfl, ?_⟩) hHeld ?_ ?_
       rotate_left
       ·rintro w' ⟨s0, s1, s2⟩
        go_simp
        with_reducible rfl
       rotate_left
       ·simp only [Act.put, qA, qB, qC, i64_w, i32_w]
        rfl
       refine one_ (i := 7) (N := some 92) (bv 11 255) rfl rfl (by kernel_rfl) (by decide) (fun K hK => ?_)
       refine value_ (w1 := ?_) (v := ?_) (by rfl) rfl ?_ ?_
       rotate_left 2
       ·go_simp
        constructor
        ·rfl
        ·rfl
       have hs := HS.out.lit_ro kInt 3 (xs := [tg]) (inner := [.int .i64 tg]) (Reps.one (PK.scalar _) (Reps.none _ _)) (by simp)
       clear HS; have HS := aM hs; clear hs
       refine hK.out _ _ ⟨((HS.out.box 2 rfl).cell 2 rfl), ((HS.out.box 0 rfl).cell 1 rfl), (pw_cell_below HS.out.below HY.out.2)⟩ (fun hHeld => ?_)
       clear hK K
       refine norm_ (a' := ?_) ?_ ?_
       rotate_left
       ·show Act.put _ (some 92) _ = _
        simp only [Act.put, qA, qB, qC, i64_w, i32_w]
        rfl
       refine last_ (i := 8) (N := some 93) #[true, true, true, true, true, true, true, true, true, false, false] rfl rfl (by kernel_rfl) (by decide) (fun K hK => ?_)
       refine sgrow_step kInt 6 (by rfl) rfl (.tmp 86) (.tmp 92) 26 3 (.int .i64 0) 8 rfl Tryz.underlying26 info3' rfl (by decide) (by omega) _ (.slice (some ⟨_, 0, none⟩) [tg].length [tg].length) T [tg] rfl rfl HS.out rfl (HS.out.ro _ List.getElem?_concat_length) (by have := HPT.out; simp; omega) ?_
       intro v1 w1 hs
       obtain ⟨t1, ht1⟩ : ∃ q, q = T ++ [tg] := ⟨_, rfl⟩
       rw [← ht1] at hs
       have HZt1 := aM ht1
       clear ht1
       obtain ⟨A2, c2, e2⟩ := hs.form 6 rfl
       subst e2
       clear HS; have HS := aM hs; clear hs
       have fz := (HS.out.box 2 rfl).open_ 2
       have yz := (HS.out.box 2 rfl).cell 2 rfl
       refine hK.out _ _ ?_
       clear hK K
       refine norm_ (a' := ?_) ?_ ?_
       rotate_left
       ·show Act.put _ (some 93) _ = _
        simp only [Act.put, qA, qB, qC, i64_w, i32_w]
        rfl
       refine pure_ (i := 9) (N := some 94) (v := ?_) (a' := ?_) (bv 11 1023) rfl rfl (by kernel_rfl) (fun _ _ _ h => h) (Or.inl ⟨by rfl, ?_⟩) ?_ ?_
       rotate_left
       ·intro w'
        go_simp
        with_reducible rfl
       rotate_left
       ·simp only [Act.put, qA, qB, qC, i64_w, i32_w]
        rfl
       refine last_ (i := 10) (N := none) #[true, true, true, true, true, true, true, true, true, true, true] rfl rfl (by kernel_rfl) (by decide) (fun K hK => ?_)
       refine skip_ (w1 := ?_) (by rfl) rfl ?_ ?_
       rotate_left
       ·go_simp
        rfl
       have hs := HS.out.set_box 2 rfl 2 (.slice A2 t1.length c2)
       clear HS; have HS := aM hs; clear hs
       refine hK.out _ _ ?_
       clear hK K
       refine done_ (by kernel_rfl) ?_
       have HFIN := aM (grp_done (d := kInt) (e := 3) [.box g0 49 [.slice (some an) next.length cn, .slice (some at_) tags.length ct], .box g1 28 [.slice none 0 0, .slice none 0 0, .slice none 0 0], .box g2 28 [(.slice A5 p.2.length c5), (.slice A1 n1.length c1), (.slice A2 t1.length c2)], .row kInt 3 (.slice A4 p.1.length c4) p.1, .row kU8 5 (.slice A5 p.2.length c5) p.2, .row kSl 26 (.slice A1 n1.length c1) n1, .row kInt 3 (.slice A2 t1.length c2) t1] HU0.out (A8, R.length, c8) R HS.out)
       rw [← HZn1.out] at HFIN
       go_wp2_with fail
       go_roundg k1
       case measure => omega
       case rel => exact ⟨i + 1, _, _, n1, N ++ [R], t1, by go_num, ⟨by rw [HZn1.out, lA, lA, HU0.out]; rfl⟩, ⟨by have := HJ.out; omega⟩, ⟨HN2.out⟩, ⟨by rw [HZt1.out]; exact HT2.out⟩, HFIN⟩
      | succ c1 =>
       have hk : k < p.1.length := by have := HC.out; omega
       have e1 : decide ((k : Int) < (p.1.length : Int)) = true := dT (by omega)
       have e2 : decide (k < p.1.length) = true := dT hk
       have hk0 : (0 : Int) ≤ (k : Int) := by omega
       have hk1 : (k : Int) < (p.1.length : Int) := by omega
       have hkc : k < 256 := by have := HFL.out; omega
       have hfx := HPF.out _ (mem_getD p.1 0 k hk)
       obtain ⟨fn, hfn⟩ : ∃ n : Nat, p.1.getD k 0 = (n : Int) := ⟨(p.1.getD k 0).toNat, by omega⟩
       have HFN := aM hfn
       have hfr : fn < row.length := by have := HRL.out; omega
       have hf0 : (0 : Int) ≤ (fn : Int) := by omega
       have hf1 : (fn : Int) < (row.length : Int) := by omega
       obtain ⟨ar, cr, er, yr0⟩ := int_cell HU.out fn hfr
       cases er
       obtain ⟨gf, cf, ef, _, _, _⟩ := HS.out.int 3 rfl k hk
       cases ef
       have HKL := aM hk
       have HR3 := aM (show R ++ [row.getD fn 0] = (p.1.take (k + 1)).map (fun f => row.getD f.toNat 0) by rw [take_at p.1 0 k hk, List.map_append, HR.out]; simp only [List.map_cons, List.map_nil, hfn, Int.toNat_natCast])
       have HRL2 := aM (show R.length + 1 ≤ 1000 by rw [HR.out]; have := HFL.out; simp; omega)
       generalize row.getD fn 0 = x at *
       have HYF := aM yr0
       clear yr0 HR hfn hfx
       go_wp2_with fail
       have hs := HS.out.drew
       clear HS; have HS := aM hs; clear hs
       refine start_ (n := 15) (S := fun w' => w'.cell? ⟨g0, 0, none⟩ = some (.slice (some an) next.length cn) ∧ w'.cell? (an.add i) = some (.slice (some ar) row.length cu) ∧ w'.cell? ⟨gf, k, none⟩ = some (.int .i64 (fn : Int)) ∧ w'.cell? (ar.add fn) = some (.int .i64 x)) (ds := [13]) #[false, false, false, false, false, false, false, false, false, false, false, false, false, false, false] (by kernel_rfl) rfl rfl ⟨((HS.out.box 0 rfl).cell 0 rfl), (pw_cell_below HS.out.below HY.out.1), (row_cellk HS.out 3 rfl k HKL.out HFN.out), (pw_cell_below HS.out.below HYF.out)⟩ (fun hHeld => ?_)
       refine pure_ (i := 0) (N := some 65) (v := ?_) (a' := ?_) (bv 15 1) rfl rfl (by kernel_rfl) (fun _ _ _ h => h) (Or.inl ⟨by rfl, ?_⟩) ?_ ?_
       rotate_left
       ·intro w'
        go_simp
        with_reducible rfl
       rotate_left
       ·simp only [Act.put, qA, qB, qC, i64_w, i32_w]
        rfl
       refine pure_ (i := 1) (N := some 66) (v := ?_) (a' := ?_) (bv 15 3) rfl rfl (by kernel_rfl) (fun _ _ _ h => h) (Or.inl ⟨by rfl, ?_⟩) ?_ ?_
       rotate_left
       ·intro w'
        go_simp
        with_reducible rfl
       rotate_left
       ·simp only [Act.put, qA, qB, qC, i64_w, i32_w]
        rfl
       refine pure_ (i := 3) (N := some 68) (v := ?_) (a' := ?_) (bv 15 11) rfl rfl (by kernel_rfl) (fun _ _ _ h => h) (Or.inl ⟨by rfl, ?_⟩) ?_ ?_
       rotate_left
       ·intro w'
        go_simp
        with_reducible rfl
       rotate_left
       ·simp only [Act.put, qA, qB, qC, i64_w, i32_w]
        rfl
       refine pure_ (i := 6) (N := some 71) (v := ?_) (a' := ?_) (bv 15 75) rfl rfl (by kernel_rfl) (fun _ _ _ h => h) (Or.inl ⟨by rfl, ?_⟩) ?_ ?_
       rotate_left
       ·intro w'
        go_simp
        with_reducible rfl
       rotate_left
       ·simp only [Act.put, qA, qB, qC, i64_w, i32_w]
        rfl
       refine pure_ (i := 7) (N := some 72) (v := ?_) (a' := ?_) (bv 15 203) rfl rfl (by kernel_rfl) (fun _ _ _ h => h) (Or.inl ⟨by rfl, ?_⟩) ?_ ?_
       rotate_left
       ·intro w'
        go_simp
        with_reducible rfl
       rotate_left
       ·simp only [Act.put, qA, qB, qC, i64_w, i32_w]
        rfl
       refine pure_ (i := 8) (N := some 73) (v := ?_) (a' := ?_) (bv 15 459) rfl rfl (by kernel_rfl) (fun _ _ _ h => h) (Or.inl ⟨by rfl, ?_⟩) ?_ ?_
       rotate_left
       ·intro w'
        go_simp
        with_reducible rfl
       rotate_left
       ·simp only [Act.put, qA, qB, qC, i64_w, i32_w]
        rfl
       refine take_ (i := 2) (N := some 67) (v := ?_) (a' := ?_) (bv 15 463) rfl rfl (by kernel_rfl) (fun _ _ _ h => h) (Or.inl ⟨by rfl, ?_⟩) hHeld ?_ ?_
       rotate_left
       ·rintro w' ⟨s0, s1, s2, s3⟩
        go_simp
        with_reducible rfl
       rotate_left
       ·simp only [Act.put, qA, qB, qC, i64_w, i32_w]
        rfl
       refine pure_ (i := 4) (N := some 69) (v := ?_) (a' := ?_) (bv 15 479) rfl rfl (by kernel_rfl) (fun _ _ _ h => h) (Or.inl ⟨by rfl, ?_⟩) ?_ ?_
       rotate_left
       ·intro w'
        go_simp
        with_reducible rfl
       rotate_left
       ·simp only [Act.put, qA, qB, qC, i64_w, i32_w]
        rfl
       refine take_ (i := 5) (N := some 70) (v := ?_) (a' := ?_) (bv 15 511) rfl rfl (by kernel_rfl) (fun _ _ _ h => h) (Or.inl ⟨by rfl, ?_⟩) hHeld ?_ ?_
       rotate_left
       ·rintro w' ⟨s0, s1, s2, s3⟩
        go_simp
        with_reducible rfl
       rotate_left
       ·simp only [Act.put, qA, qB, qC, i64_w, i32_w]
        rfl
       refine take_ (i := 9) (N := some 74) (v := ?_) (a' := ?_) (bv 15 1023) rfl rfl (by kernel_rfl) (fun _ _ _ h => h) (Or.inl ⟨by rfl, ?_⟩) hHeld ?_ ?_
       rotate_left
       ·rintro w' ⟨s0, s1, s2, s3⟩
        go_simp
        with_reducible rfl
       rotate_left
       ·simp only [Act.put, qA, qB, qC, i64_w, i32_w]
        rfl
       refine pure_ (i := 10) (N := some 75) (v := ?_) (a' := ?_) (bv 15 2047) rfl rfl (by kernel_rfl) (fun _ _ _ h => h) (Or.inl ⟨by rfl, ?_⟩) ?_ ?_
       rotate_left
       ·intro w'
        go_simp
        with_reducible rfl
       rotate_left
       ·simp only [Act.put, qA, qB, qC, i64_w, i32_w]
        rfl
       refine take_ (i := 11) (N := some 76) (v := ?_) (a' := ?_) (bv 15 4095) rfl rfl (by kernel_rfl) (fun _ _ _ h => h) (Or.inl ⟨by rfl, ?_⟩) hHeld ?_ ?_
       rotate_left
       ·rintro w' ⟨s0, s1, s2, s3⟩
        go_simp
        with_reducible rfl
       rotate_left
       ·simp only [Act.put, qA, qB, qC, i64_w, i32_w]
        rfl
       refine one_ (i := 12) (N := some 77) (bv 15 8191) rfl rfl (by kernel_rfl) (by decide) (fun K hK => ?_)
       refine value_ (w1 := ?_) (v := ?_) (by rfl) rfl ?_ ?_
       rotate_left 2
       ·go_simp
        constructor
        ·rfl
        ·rfl
       have hs := HS.out.lit_ro kInt 3 (xs := [x]) (inner := [.int .i64 x]) (Reps.one (PK.scalar _) (Reps.none _ _)) (by simp)
       clear HS; have HS := aM hs; clear hs
       refine hK.out _ _ ⟨((HS.out.box 0 rfl).cell 0 rfl), (pw_cell_below HS.out.below HY.out.1), (row_cellk HS.out 3 rfl k HKL.out HFN.out), (pw_cell_below HS.out.below HYF.out)⟩ (fun hHeld => ?_)
       clear hK K
       refine norm_ (a' := ?_) ?_ ?_
       rotate_left
       ·show Act.put _ (some 77) _ = _
        simp only [Act.put, qA, qB, qC, i64_w, i32_w]
        rfl
       refine last_ (i := 13) (N := some 78) #[true, true, true, true, true, true, true, true, true, true, true, true, true, true, false] rfl rfl (by kernel_rfl) (by decide) (fun K hK => ?_)
       refine sgrow_step kInt 7 (by rfl) rfl (.tmp 65) (.tmp 77) 26 3 (.int .i64 0) 8 rfl Tryz.underlying26 info3' rfl (by decide) (by omega) _ _ R [x] rfl rfl HS.out rfl (HS.out.ro _ List.getElem?_concat_length) (by have := HRL2.out; rw [lS]; omega) ?_
       intro v1 w1 hs
       clear HS; have HS := aM hs; clear hs
       refine hK.out _ _ ?_
       clear hK K
       refine norm_ (a' := ?_) ?_ ?_
       rotate_left
       ·show Act.put _ (some 78) _ = _
        simp only [Act.put, qA, qB, qC, i64_w, i32_w]
        rfl
       refine pure_ (i := 14) (N := some 9) (v := ?_) (a' := ?_) (bv 15 32767) rfl rfl (by kernel_rfl) (fun _ _ _ h => h) (Or.inl ⟨by rfl, ?_⟩) ?_ ?_
       rotate_left
       ·intro w'
        go_simp
        with_reducible rfl
       rotate_left
       ·simp only [Act.put, qA, qB, qC, i64_w, i32_w]
        rfl
       refine done_ (by kernel_rfl) ?_
       go_wp2_with fail
       go_roundg c1
       case measure => omega
       case rel => exact ⟨k + 1, _, by go_num, ⟨by have := HC.out; omega⟩, HR3, ⟨grp_cut _ _ HS.out⟩⟩
  | succ k1 =>
   have hc : c < 256 := by have := HJ.out; omega
   have e1 : decide ((c : Int) < 256) = true := dT (by omega)
   have e2 : decide (c < 256) = true := dT hc
   have hc0 : (0 : Int) ≤ (c : Int) := by omega
   have HR1 := HCL.out
   rw [clGo, clStep] at HR1
   have hp2 := HP.out.step hc next
   rw [clStep] at hp2
   have ha := colGo_lt next c p.1 0
   obtain ⟨a, hca⟩ : ∃ a, a = colGo next c p.1 0 := ⟨_, rfl⟩
   rw [← hca] at HR1 hp2 ha
   have HP2 := aM hp2
   have HR3 := aM HR1
   have HA := aM ha
   have HCG := aM (show colGo next c (p.1.drop 0) 0 = a from hca.symm)
   have hpl : p.1.length ≤ 256 := by have := HP.out.len; omega
   clear HR1 hp2 ha hca HCL
   go_wp2_with fail
   clear e1 e2
   go_loopg [7] p.1.length (fun m v7 w' => ∃ (k : Nat), v7 = .int .i64 k ∧ Aside0 (k + m = p.1.length) ∧ Aside0 (colGo next c (p.1.drop k) k = a) ∧ Aside0 (Sep X w w' [.box g0 49 [.slice An next.length cn, .slice At tags.length ct], .box g1 28 [.slice none 0 0, .slice none 0 0, .slice none 0 0], .box g2 28 [(.slice A5 p.2.length c5), (.slice none 0 0), (.slice none 0 0)], .row kInt 3 (.slice A4 p.1.length c4) p.1, .row kU8 5 (.slice A5 p.2.length c5) p.2, .row kSl 26 (.slice none 0 0) [], .row kInt 3 (.slice none 0 0) []]))
   case atStart => exact ⟨0, rfl, ⟨by omega⟩, HCG, HS⟩
   case round =>
    clear HS HCG
    obtain ⟨k, rfl, HK, HCG, HS⟩ := hrel
    have HOL := aM (show p.2.length = c from HP.out.of_.1)
    cases gk with
    | zero =>
     have hk : k = p.1.length := by have := HK.out; omega
     subst hk
     have f1 : decide ((p.1.length : Int) < (p.1.length : Int)) = false := dF (by omega)
     have f2 : decide (p.1.length < p.1.length) = false := dF (by omega)
     have f3 : ((p.1.length : Int) == (p.1.length : Int)) = true := beq_iff_eq.mpr rfl
     have ha1 : a = -1 := by have h := HCG.out; rw [List.drop_length, colGo] at h; exact h.symm
     subst ha1
     have HP3 := aM (show ClOk (c + 1) (p.1 ++ [(c : Int)], p.2 ++ [(p.1.length : Int)]) by have := HP2.out; rwa [if_pos (by decide)] at this)
     have HR4 := aM (show clGo next k1 (c + 1) (p.1 ++ [(c : Int)], p.2 ++ [(p.1.length : Int)]) = cl by have := HR3.out; rwa [if_pos (by decide)] at this)
     have hkc : p.1.length < 256 := by have := HP.out.len; omega
     clear HR3 HP2 HCG HA
     go_wp2_with fail
     have hs := HS.out.drew
     clear HS; have HS := aM hs; clear hs
     refine start_ (n := 15) (S := fun w' => True) (ds := []) #[false, false, false, false, false, false, false, false, false, false, false, false, false, false, false] (by kernel_rfl) rfl rfl trivial (fun hHeld => ?_)
     refine pure_ (i := 0) (N := some 20) (v := ?_) (a' := ?_) (bv 15 1) rfl rfl (by kernel_rfl) (fun _ _ _ h => h) (Or.inl ⟨by rfl, ?_⟩) ?_ ?_
     rotate_left
     ·intro w'
      go_simp
      with_reducible rfl
     rotate_left
     ·simp only [Act.put, qA, qB, qC, i64_w, i32_w]
      rfl
     refine pure_ (i := 1) (N := some 21) (v := ?_) (a' := ?_) (bv 15 3) rfl rfl (by kernel_rfl) (fun _ _ _ h => h) (Or.inl ⟨by rfl, ?_⟩) ?_ ?_
     rotate_left
     ·intro w'
      go_simp
      with_reducible rfl
     rotate_left
     ·simp only [Act.put, qA, qB, qC, i64_w, i32_w]
      rfl
     refine pure_ (i := 2) (N := some 22) (v := ?_) (a' := ?_) (bv 15 7) rfl rfl (by kernel_rfl) (fun _ _ _ h => h) (Or.inl ⟨by rfl, ?_⟩) ?_ ?_
     rotate_left
     ·intro w'
      go_simp
      with_reducible rfl
     rotate_left
     ·simp only [Act.put, qA, qB, qC, i64_w, i32_w]
      rfl
     refine pure_ (i := 3) (N := some 23) (v := ?_) (a' := ?_) (bv 15 15) rfl rfl (by kernel_rfl) (fun _ _ _ h => h) (Or.inl ⟨by rfl, ?_⟩) ?_ ?_
     rotate_left
     ·intro w'
      go_simp
      with_reducible rfl
     rotate_left
     ·simp only [Act.put, qA, qB, qC, i64_w, i32_w]
      rfl
     refine pure_ (i := 4) (N := some 24) (v := ?_) (a' := ?_) (bv 15 31) rfl rfl (by kernel_rfl) (fun _ _ _ h => h) (Or.inl ⟨by rfl, ?_⟩) ?_ ?_
     rotate_left
     ·intro w'
      go_simp
      with_reducible rfl
     rotate_left
     ·simp only [Act.put, qA, qB, qC, i64_w, i32_w]
      rfl
     refine pure_ (i := 5) (N := some 25) (v := undef) (a' := ?_) (bv 15 63) rfl rfl (by kernel_rfl) (fun _ _ _ h => h) (Or.inr ⟨by rfl, rfl⟩) ?_ ?_
     rotate_left
     ·simp only [Act.put, qA, qB, qC, i64_w, i32_w]
      rfl
     refine pure_ (i := 6) (N := some 26) (v := undef) (a' := ?_) (bv 15 127) rfl rfl (by kernel_rfl) (fun _ _ _ h => h) (Or.inr ⟨by rfl, rfl⟩) ?_ ?_
     rotate_left
     ·simp only [Act.put, qA, qB, qC, i64_w, i32_w]
      rfl
     refine pure_ (i := 7) (N := some 27) (v := undef) (a' := ?_) (bv 15 255) rfl rfl (by kernel_rfl) (fun _ _ _ h => h) (Or.inr ⟨by rfl, rfl⟩) ?_ ?_
     rotate_left
     ·simp only [Act.put, qA, qB, qC, i64_w, i32_w]
      rfl
     refine pure_ (i := 8) (N := some 28) (v := undef) (a' := ?_) (bv 15 511) rfl rfl (by kernel_rfl) (fun _ _ _ h => h) (Or.inr ⟨by rfl, rfl⟩) ?_ ?_
     rotate_left
     ·simp only [Act.put, qA, qB, qC, i64_w, i32_w]
      rfl
     refine pure_ (i := 9) (N := some 29) (v := undef) (a' := ?_) (bv 15 1023) rfl rfl (by kernel_rfl) (fun _ _ _ h => h) (Or.inr ⟨by rfl, rfl⟩) ?_ ?_
     rotate_left
     ·simp only [Act.put, qA, qB, qC, i64_w, i32_w]
      rfl
     refine pure_ (i := 10) (N := some 30) (v := undef) (a' := ?_) (bv 15 2047) rfl rfl (by kernel_rfl) (fun _ _ _ h => h) (Or.inr ⟨by rfl, rfl⟩) ?_ ?_
     rotate_left
     ·simp only [Act.put, qA, qB, qC, i64_w, i32_w]
      rfl
     refine pure_ (i := 11) (N := some 31) (v := undef) (a' := ?_) (bv 15 4095) rfl rfl (by kernel_rfl) (fun _ _ _ h => h) (Or.inr ⟨by rfl, rfl⟩) ?_ ?_
     rotate_left
     ·simp only [Act.put, qA, qB, qC, i64_w, i32_w]
      rfl
     refine pure_ (i := 12) (N := some 32) (v := undef) (a' := ?_) (bv 15 8191) rfl rfl (by kernel_rfl) (fun _ _ _ h => h) (Or.inr ⟨by rfl, rfl⟩) ?_ ?_
     rotate_left
     ·simp only [Act.put, qA, qB, qC, i64_w, i32_w]
      rfl
     refine pure_ (i := 13) (N := some 33) (v := undef) (a' := ?_) (bv 15 16383) rfl rfl (by kernel_rfl) (fun _ _ _ h => h) (Or.inr ⟨by rfl, rfl⟩) ?_ ?_
     rotate_left
     ·simp only [Act.put, qA, qB, qC, i64_w, i32_w]
      rfl
     refine pure_ (i := 14) (N := some 34) (v := ?_) (a' := ?_) (bv 15 32767) rfl rfl (by kernel_rfl) (fun _ _ _ h => h) (Or.inl ⟨by rfl, ?_⟩) ?_ ?_
     rotate_left
     ·intro w'
      go_simp
      with_reducible rfl
     rotate_left
     ·simp only [Act.put, qA, qB, qC, i64_w, i32_w]
      rfl
     refine done_ (by kernel_rfl) ?_
     have y2 := (HS.out.box 2 rfl).cell 0 rfl
     go_wp2_with (first
     | ((with_reducible refine gate_dst (N := 43) rfl ?_); refine slit kInt 3 ?hg (N := 43) ?hd (xs := [(c : Int)]) (inner := [.int .i64 (c : Int)]) ?hr HS.out ?hp (by simp) ?_; (case hd => rfl); (case hg => rfl); (case hr => first | (go_simp; done) | (go_simp; rfl)); (case hp => exact Reps.one (PK.scalar _) (Reps.none _ _)); clear HS; intro v30 w30 hs; have HS := aM hs; clear hs)
     | ((with_reducible refine gate_builtin (b := .append) (xs := #[.tmp 41, .tmp 43]) rfl ?_); at_builtin; refine sgrow kInt 3 rfl (.tmp 41) (.tmp 43) 26 3 (.int .i64 0) 8 rfl Tryz.underlying26 info3' rfl (by decide) (by omega) _ _ p.1 [(c : Int)] rfl rfl HS.out rfl (HS.out.ro 7 rfl) (by rw [lS]; omega) ?_; clear HS; intro v31 w31 hs; obtain ⟨F1, hF1⟩ : ∃ q, q = p.1 ++ [(c : Int)] := ⟨_, rfl⟩; rw [← hF1] at hs; have HZF1 := aM hF1; clear hF1; obtain ⟨A3, c3, e3⟩ := hs.form 3 rfl; subst e3; have hs := hs.take 7; have y2 := (hs.box 2 rfl).cell 0 rfl; have HS := aM hs; clear hs)
     | ((with_reducible refine gate_dst (N := 49) rfl ?_); refine slit kU8 5 ?hg (N := 49) ?hd (xs := [(p.1.length : Int)]) (inner := [.int .u8 (p.1.length : Int)]) ?hr HS.out ?hp (by simp) ?_; (case hd => rfl); (case hg => rfl); (case hr => first | (go_simp; done) | (go_simp; rfl)); (case hp => exact Reps.one (PK.scalar _) (Reps.none _ _)); clear HS; intro v32 w32 hs; have HS := aM hs; clear hs)
     | ((with_reducible refine gate_builtin (b := .append) (xs := #[.tmp 46, .tmp 49]) rfl ?_); at_builtin; refine sgrow kU8 4 rfl (.tmp 46) (.tmp 49) 24 5 (.int .u8 0) 1 rfl Tryz.underlying24 info5 rfl (by decide) (by omega) _ _ p.2 [(p.1.length : Int)] rfl rfl HS.out rfl (HS.out.ro 7 rfl) (by have := HOL.out; rw [lS]; omega) ?_; clear HS; intro v33 w33 hs; obtain ⟨C1, hC1⟩ : ∃ q, q = p.2 ++ [(p.1.length : Int)] := ⟨_, rfl⟩; rw [← hC1] at hs; have HZC1 := aM hC1; clear hC1; obtain ⟨A1, c1, e1⟩ := hs.form 4 rfl; subst e1; have fz := (hs.box 2 rfl).open_ 0; have yz := (hs.box 2 rfl).cell 0 rfl; have HS := aM hs; clear hs))
     have hs := HS.out.set_box 2 rfl 0 (.slice A1 C1.length c1)
     clear HS
     have HS := aM hs
     go_roundg k1
     case measure => omega
     case rel => exact ⟨c + 1, (F1, C1), _, by go_num, ⟨by have := HJ.out; omega⟩, ⟨by rw [HZF1.out, HZC1.out]; exact HP3.out⟩, ⟨by rw [HZF1.out, HZC1.out]; exact HR4.out⟩, ⟨HS.out.take 7⟩⟩
    | succ m2 =>
     have hk : k < p.1.length := by have := HK.out; omega
     have f1 : decide ((k : Int) < (p.1.length : Int)) = true := dT (by omega)
     have f2 : decide (k < p.1.length) = true := dT hk
     have f3 : ((k : Int) == (p.1.length : Int)) = false := bF (by omega)
     have hk0 : (0 : Int) ≤ (k : Int) := by omega
     have hk1 : (k : Int) < (p.1.length : Int) := by omega
     have hfx := HP.out.f _ (mem_getD p.1 0 k hk)
     obtain ⟨fn, hfn⟩ : ∃ n : Nat, p.1.getD k 0 = (n : Int) := ⟨(p.1.getD k 0).toNat, by omega⟩
     have hcg := HCG.out
     rw [drop_at p.1 0 k hk, colGo, hfn, Int.toNat_natCast, sameCol_comm] at hcg
     have HFN := aM hfn
     have HFL := aM (show fn < 256 ∧ c < 256 by omega)
     obtain ⟨ab, hab⟩ : ∃ b, b = sameCol next fn c := ⟨_, rfl⟩
     rw [← hab] at hcg
     have HAB := aM hab.symm
     have HCG2 := aM hcg
     clear hcg hab hfn hfx HCG
     obtain ⟨gf, cf, ef, yk, _, _⟩ := HS.out.int 3 rfl k hk
     cases ef
     rw [HFN.out] at yk
     go_wp2_with fail
     have HKL := aM hk
     clear yk
     have hs := HS.out.drew
     clear HS; have HS := aM hs; clear hs
     refine start_ (n := 15) (S := fun w' => w'.cell? ⟨g0, 0, none⟩ = some (.slice An next.length cn) ∧ w'.cell? ⟨gf, k, none⟩ = some (.int .i64 (fn : Int))) (ds := [12]) #[false, false, false, false, false, false, false, false, false, false, false, false, false, false, false] (by kernel_rfl) rfl rfl ⟨((HS.out.box 0 rfl).cell 0 rfl), (row_cellk HS.out 3 rfl k HKL.out HFN.out)⟩ (fun hHeld => ?_)
     refine pure_ (i := 0) (N := some 20) (v := ?_) (a' := ?_) (bv 15 1) rfl rfl (by kernel_rfl) (fun _ _ _ h => h) (Or.inl ⟨by rfl, ?_⟩) ?_ ?_
     rotate_left
     ·intro w'
      go_simp
      with_reducible rfl
     rotate_left
     ·simp only [Act.put, qA, qB, qC, i64_w, i32_w]
      rfl
     refine pure_ (i := 1) (N := some 21) (v := ?_) (a' := ?_) (bv 15 3) rfl rfl (by kernel_rfl) (fun _ _ _ h => h) (Or.inl ⟨by rfl, ?_⟩) ?_ ?_
     rotate_left
     ·intro w'
      go_simp
      with_reducible rfl
     rotate_left
     ·simp only [Act.put, qA, qB, qC, i64_w, i32_w]
      rfl
     refine pure_ (i := 2) (N := some 22) (v := ?_) (a' := ?_) (bv 15 7) rfl rfl (by kernel_rfl) (fun _ _ _ h => h) (Or.inl ⟨by rfl, ?_⟩) ?_ ?_
     rotate_left
     ·intro w'
      go_simp
      with_reducible rfl
     rotate_left
     ·simp only [Act.put, qA, qB, qC, i64_w, i32_w]
      rfl
     refine pure_ (i := 3) (N := some 23) (v := ?_) (a' := ?_) (bv 15 15) rfl rfl (by kernel_rfl) (fun _ _ _ h => h) (Or.inl ⟨by rfl, ?_⟩) ?_ ?_
     rotate_left
     ·intro w'
      go_simp
      with_reducible rfl
     rotate_left
     ·simp only [Act.put, qA, qB, qC, i64_w, i32_w]
      rfl
     refine pure_ (i := 4) (N := some 24) (v := ?_) (a' := ?_) (bv 15 31) rfl rfl (by kernel_rfl) (fun _ _ _ h => h) (Or.inl ⟨by rfl, ?_⟩) ?_ ?_
     rotate_left
     ·intro w'
      go_simp
      with_reducible rfl
     rotate_left
     ·simp only [Act.put, qA, qB, qC, i64_w, i32_w]
      rfl
     refine pure_ (i := 5) (N := some 25) (v := ?_) (a' := ?_) (bv 15 63) rfl rfl (by kernel_rfl) (fun _ _ _ h => h) (Or.inl ⟨by rfl, ?_⟩) ?_ ?_
     rotate_left
     ·intro w'
      go_simp
      with_reducible rfl
     rotate_left
     ·simp only [Act.put, qA, qB, qC, i64_w, i32_w]
      rfl
     refine pure_ (i := 7) (N := some 27) (v := ?_) (a' := ?_) (bv 15 191) rfl rfl (by kernel_rfl) (fun _ _ _ h => h) (Or.inl ⟨by rfl, ?_⟩) ?_ ?_
     rotate_left
     ·intro w'
      go_simp
      with_reducible rfl
     rotate_left
     ·simp only [Act.put, qA, qB, qC, i64_w, i32_w]
      rfl
     refine pure_ (i := 8) (N := some 28) (v := ?_) (a' := ?_) (bv 15 447) rfl rfl (by kernel_rfl) (fun _ _ _ h => h) (Or.inl ⟨by rfl, ?_⟩) ?_ ?_
     rotate_left
     ·intro w'
      go_simp
      with_reducible rfl
     rotate_left
     ·simp only [Act.put, qA, qB, qC, i64_w, i32_w]
      rfl
     refine pure_ (i := 9) (N := some 29) (v := ?_) (a' := ?_) (bv 15 959) rfl rfl (by kernel_rfl) (fun _ _ _ h => h) (Or.inl ⟨by rfl, ?_⟩) ?_ ?_
     rotate_left
     ·intro w'
      go_simp
      with_reducible rfl
     rotate_left
     ·simp only [Act.put, qA, qB, qC, i64_w, i32_w]
      rfl
     refine pure_ (i := 11) (N := some 31) (v := ?_) (a' := ?_) (bv 15 3007) rfl rfl (by kernel_rfl) (fun _ _ _ h => h) (Or.inl ⟨by rfl, ?_⟩) ?_ ?_
     rotate_left
     ·intro w'
      go_simp
      with_reducible rfl
     rotate_left
     ·simp only [Act.put, qA, qB, qC, i64_w, i32_w]
      rfl
     refine take_ (i := 6) (N := some 26) (v := ?_) (a' := ?_) (bv 15 3071) rfl rfl (by kernel_rfl) (fun _ _ _ h => h) (Or.inl ⟨by rfl, ?_⟩) hHeld ?_ ?_
     rotate_left
     ·rintro w' ⟨s0, s1⟩
      go_simp
      with_reducible rfl
     rotate_left
     ·simp only [Act.put, qA, qB, qC, i64_w, i32_w]
      rfl
     refine take_ (i := 10) (N := some 30) (v := ?_) (a' := ?_) (bv 15 4095) rfl rfl (by kernel_rfl) (fun _ _ _ h => h) (Or.inl ⟨by rfl, ?_⟩) hHeld ?_ ?_
     rotate_left
     ·rintro w' ⟨s0, s1⟩
      go_simp
      with_reducible rfl
     rotate_left
     ·simp only [Act.put, qA, qB, qC, i64_w, i32_w]
      rfl
     refine last_ (i := 12) (N := some 32) #[true, true, true, true, true, true, true, true, true, true, true, true, true, false, false] rfl rfl (by kernel_rfl) (by decide) (fun K hK => ?_)
     refine goes_ Tryz.func39 (by kernel_rfl) rfl #[.slice An next.length cn, .int .i64 (fn : Int), .int .i64 (c : Int)] (by rfl) rfl rfl (by simp only [List.map_toArray, List.map_cons, List.map_nil]; rfl) ?_
     with_reducible refine (alike14_calls _ _ next fn c _ (HS.out.arg H1.out) (fun row hrow => by rw [HROW.out row hrow]; exact HFL.out)).mono ?_
     rintro e w6 ⟨rfl, hb6⟩
     refine ⟨_, rfl, ?_⟩
     rw [HAB.out]
     have hs := HS.out.call hb6
     clear hb6
     clear HS; have HS := aM hs; clear hs
     refine hK.out _ _ ?_
     clear hK K
     refine norm_ (a' := ?_) ?_ ?_
     rotate_left
     ·show Act.put _ (some 32) _ = _
      simp only [Act.put, qA, qB, qC, i64_w, i32_w]
      rfl
     refine pure_ (i := 13) (N := some 33) (v := ?_) (a' := ?_) (bv 15 16383) rfl rfl (by kernel_rfl) (fun _ _ _ h => h) (Or.inl ⟨by rfl, ?_⟩) ?_ ?_
     rotate_left
     ·intro w'
      go_simp
      with_reducible rfl
     rotate_left
     ·simp only [Act.put, qA, qB, qC, i64_w, i32_w]
      rfl
     refine pure_ (i := 14) (N := some 34) (v := ?_) (a' := ?_) (bv 15 32767) rfl rfl (by kernel_rfl) (fun _ _ _ h => h) (Or.inl ⟨by rfl, ?_⟩) ?_ ?_
     rotate_left
     ·intro w'
      go_simp
      with_reducible rfl
     rotate_left
     ·simp only [Act.put, qA, qB, qC, i64_w, i32_w]
      rfl
     refine done_ (by kernel_rfl) ?_
     cases ab
     case false =>
      have HCG3 := aM (show colGo next c (p.1.drop (k + 1)) (k + 1) = a by have := HCG2.out; rwa [if_neg (by decide)] at this)
      go_wp2_with fail
      go_roundg m2
      case measure => omega
      case rel => exact ⟨k + 1, by go_num, ⟨by have := HK.out; omega⟩, HCG3, HS⟩
     case true =>
      have ha1 : (k : Int) = a := by have := HCG2.out; rwa [if_pos rfl] at this
      subst ha1
      have HP3 := aM (show ClOk (c + 1) (p.1, p.2 ++ [(k : Int)]) by have := HP2.out; rwa [if_neg (by omega)] at this)
      have HR4 := aM (show clGo next k1 (c + 1) (p.1, p.2 ++ [(k : Int)]) = cl by have := HR3.out; rwa [if_neg (by omega)] at this)
      have hkc : k < 256 := by omega
      clear HR3 HP2 HCG2 HA
      have y2 := (HS.out.box 2 rfl).cell 0 rfl
      go_wp2_with (first
      | ((with_reducible refine gate_dst (N := 49) rfl ?_); refine slit kU8 5 ?hg (N := 49) ?hd (xs := [(k : Int)]) (inner := [.int .u8 (k : Int)]) ?hr HS.out ?hp (by simp) ?_; (case hd => rfl); (case hg => rfl); (case hr => first | (go_simp; done) | (go_simp; rfl)); (case hp => exact Reps.one (PK.scalar _) (Reps.none _ _)); clear HS; intro v32 w32 hs; have HS := aM hs; clear hs)
      | ((with_reducible refine gate_builtin (b := .append) (xs := #[.tmp 46, .tmp 49]) rfl ?_); at_builtin; refine sgrow kU8 4 rfl (.tmp 46) (.tmp 49) 24 5 (.int .u8 0) 1 rfl Tryz.underlying24 info5 rfl (by decide) (by omega) _ _ p.2 [(k : Int)] rfl rfl HS.out rfl (HS.out.ro 7 rfl) (by have := HOL.out; rw [lS]; omega) ?_; clear HS; intro v33 w33 hs; obtain ⟨C1, hC1⟩ : ∃ q, q = p.2 ++ [(k : Int)] := ⟨_, rfl⟩; rw [← hC1] at hs; have HZC1 := aM hC1; clear hC1; obtain ⟨A1, c1, e1⟩ := hs.form 4 rfl; subst e1; have hs := hs.take 7; have fz := (hs.box 2 rfl).open_ 0; have yz := (hs.box 2 rfl).cell 0 rfl; have HS := aM hs; clear hs))
      have hs := HS.out.set_box 2 rfl 0 (.slice A1 C1.length c1)
      clear HS
      have HS := aM hs
      go_roundg k1
      case measure => omega
      case rel => exact ⟨c + 1, (p.1, C1), _, by go_num, ⟨by have := HJ.out; omega⟩, ⟨by rw [HZC1.out]; exact HP3.out⟩, ⟨by rw [HZC1.out]; exact HR4.out⟩, ⟨HS.out.take 7⟩⟩
end Go.Proofs.YtplhfgobeicegaaGreatDoor.P
