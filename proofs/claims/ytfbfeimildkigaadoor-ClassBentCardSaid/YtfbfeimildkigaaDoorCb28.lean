/- Part 28 of the proof: T18. -/
import Derived.Test.YtfbfeimildkigaaDoorCb27
namespace Go.Proofs.YtfbfeimildkigaaDoor.P
open Go Go.RowKit Go.Proofs.YtfbfeimildkigaaDoorW.PrintWords Go.Proofs.YtfbfeimildkigaaDoorW.PrintLast Go.Proofs.YtfbfeimildkigaaDoorW.PrintMore Go.Proofs.YtfbfeimildkigaaDoor.PX
set_option linter.unusedVariables false
set_option linter.unusedSimpArgs false
set_option maxRecDepth 100000
theorem perm_bent (p q c n t x : PX.Item) (R : List PX.Item) : (([p, q] ++ ([c, n, t] ++ R)) ++ [x]).Perm ([p, q] ++ ([x, c, t, n] ++ R)) := by
 show (p :: q :: c :: n :: t :: (R ++ [x])).Perm (p :: q :: x :: c :: t :: n :: R)
 refine List.Perm.cons _ (List.Perm.cons _ ?_)
 have h1 : (c :: n :: t :: (R ++ [x])).Perm (c :: n :: t :: x :: R) := ((List.perm_append_singleton x R).cons t).cons n |>.cons c
 have h2 : (c :: n :: t :: x :: R).Perm (c :: n :: x :: t :: R) := ((List.Perm.swap x t R).cons n).cons c
 have h3 : (c :: n :: x :: t :: R).Perm (c :: x :: n :: t :: R) := (List.Perm.swap x n (t :: R)).cons c
 have h4 : (c :: x :: n :: t :: R).Perm (x :: c :: n :: t :: R) := List.Perm.swap x c (n :: t :: R)
 have h5 : (x :: c :: n :: t :: R).Perm (x :: c :: t :: n :: R) := ((List.Perm.swap t n R).cons c).cons x
 exact h1.trans (h2.trans (h3.trans (h4.trans h5)))
theorem back14_err (cl : List Int) (next : List (List Int)) (tags : List Int) : (back14 cl next tags).2 = 0 ∨ (back14 cl next tags).2 = 1 := by
 unfold back14
 split
 ·exact .inl rfl
 ·exact .inr rfl
theorem set_self {α : Type} (l : List α) (i : Nat) (z x : α) (h : i < l.length) (hx : l.getD i z = x) : l.set i x = l := by
 rw [List.getD_eq_getElem?_getD, List.getElem?_eq_getElem h, Option.getD_some] at hx
 rw [← hx]
 exact List.set_getElem_self h
theorem Sep.set_int {k : IntKind} {X : Nat → Prop} {w0 w : World} {L : List PX.Item} {e g n c : Nat} {ns : List Int} (h : PX.Sep X w0 w L) (i : Nat) (hi : L[i]? = some (.row (Kd.int k) e (.slice (some ⟨g, 0, none⟩) n c) ns)) (j : Nat) (hj : j < ns.length) (q : Int) : PX.Sep X w0 (w.setCell ⟨g, j, none⟩ (.int k q)) (L.set i (.row (Kd.int k) e (.slice (some ⟨g, 0, none⟩) n c) (ns.set j q))) := by
 obtain ⟨g', c', e1, _, _, h2⟩ := h.int i hi j hj
 have e2 := h2 q
 cases e1
 exact e2
theorem Sep.set_sc {X : Nat → Prop} {w0 w : World} {L : List PX.Item} {e g n c : Nat} {us : List SlT} (h : PX.Sep X w0 w L) (i : Nat) (hi : L[i]? = some (.row kSl e (.slice (some ⟨g, 0, none⟩) n c) us)) (j : Nat) (hj : j < us.length) (q : SlT) : PX.Sep X w0 (w.setCell ⟨g, j, none⟩ (encS q)) (L.set i (.row kSl e (.slice (some ⟨g, 0, none⟩) n c) (us.set j q))) := by
 obtain ⟨g', c', e1, _, _, h2⟩ := h.sc (none, 0, 0) i hi j hj
 have e2 := h2 q
 cases e1
 exact e2
theorem bent_done {X : Nat → Prop} {w0 w : World} {b : PX.Item} {e1 e2 e3 e : Nat} {vC vT vN : Value} {C T : List Int} {us : List SlT} {G : List (List Int)} (hu : us.length = G.length) (h : PX.Sep X w0 w ([b, .row kU8 e1 vC C, .row kInt e2 vT T, .row kSl e3 vN us] ++ rows kInt e us G)) : PX.Sep X w0 w [b, .ro kU8 vC C, .ro kInt vT T, .ro kRow vN G] := by
 have h1 := h.sealRo 1 rfl
 have h2 := h1.sealRo 2 rfl
 exact PX.Sep.group_ro [b, .ro kU8 vC C, .ro kInt vT T] hu h2
set_option maxHeartbeats 16000000 in
theorem classBent_calls (X : Nat → Prop) (v0 v2 v3 vs : Value) (c : List (List Int)) (k : Int) (next tags : List Int) (hw a b : Nat) (x : Int) (s : List Int) (w : World) (hX : ∀ k, X k → k < w.heap.size) (h0 : PV kU16s X w v0 c) (h2 : PV (Kd.int .i8) X w v2 next) (h3 : PV (Kd.int .i8) X w v3 tags) (hs : PV kU8 X w vs s) (hu : U8s s) (hwl : hw < 256) (ha : a < 256) (hb : b < 256)
  (hc : ∀ l ∈ c, ∀ x ∈ l, 0 ≤ x ∧ x < 65536) (hk : 0 ≤ k ∧ k < 256) (hn : ∀ x ∈ next, -128 ≤ x ∧ x ≤ 127) (ht : ∀ x ∈ tags, -128 ≤ x ∧ x ≤ 127) :
  Calls Tryd.prog 4 #[v0, .int .u8 k, v2, v3, .int .u8 hw, .int .u8 a, .int .u8 b, .int .i64 x, vs] w fun e w' => e = .returned (.bool true) ∧ Below w.heap.size w w' := by
 have H0 := Aside0.mk h0
 have H2 := Aside0.mk h2
 have H3 := Aside0.mk h3
 have H5 := Aside0.mk hs
 have HU := Aside0.mk hu
 have HC := Aside0.mk hc
 have HK := Aside0.mk hk
 have HRN := Aside0.mk hn
 have HRT := Aside0.mk ht
 have HAB := Aside0.mk (And.intro ha (And.intro hb hwl))
 have HB := b14_sound c k next tags hk
 obtain ⟨⟨N, T⟩, hb14⟩ : ∃ p, p = b14 c k next tags := ⟨_, rfl⟩
 have HBE := Aside0.mk hb14.symm
 rw [← hb14] at HB
 have hu8 := classes_u8 N
 have hcin := classes_in N
 obtain ⟨C, hrc⟩ : ∃ l, l = (classesL N).2 := ⟨_, rfl⟩
 obtain ⟨G, hrn⟩ : ∃ l, l = N.map (shortRow (classesL N).1) := ⟨_, rfl⟩
 rw [← hrc] at hu8
 have HRU := Aside0.mk hu8
 have HBS := Aside0.mk HB
 have HLC := Aside0.mk (show C.length = 256 by rw [hrc]; exact hcin.len)
 have HLG := Aside0.mk (show G.length = T.length ∧ 1 ≤ T.length ∧ T.length ≤ 40000 ∧ (∀ i, i < G.length → 1 ≤ (G.getD i []).length ∧ (G.getD i []).length ≤ 256) by
  have h1 := HB.1.2.2
  have h2 := HB.1.1
  have h3 := HB.1.2.1
  dsimp only at h1 h2 h3
  have h4 := (classes_ok N).len
  have h5 := hcin.of_ 0 (by omega)
  refine ⟨by rw [hrn, List.length_map]; exact h1, h2, h3, fun i hi => ?_⟩
  rw [hrn, List.length_map] at hi
  rw [hrn, show (N.map (shortRow (classesL N).1)).getD i [] = shortRow (classesL N).1 (N.getD i []) by simp [List.getD_eq_getElem?_getD, hi]]
  unfold shortRow
  rw [List.length_map]
  omega)
 have HRC := Aside0.mk hrc.symm
 have HRG := Aside0.mk hrn.symm
 have HS := Aside0.mk (Sep.start hX)
 obtain ⟨As, cs, rfl, _, _⟩ := hs.now
 have m3 := hs.max
 clear h0 h2 h3 hs hc hn ht hX hb14 HB hrc hrn hu8 hk hu hcin ha hb hwl
 rcases Nat.lt_or_ge 60 s.length with h1 | h1
 case inl =>
  have d1 : decide ((s.length : Int) > 60) = true := decide_eq_true (by omega)
  have d1' : decide (60 < s.length) = true := decide_eq_true h1
  go_enter Tryd.func4, Tryd.ntmps4
  go_wp2_with (first
   | (go_at_call 12; (with_reducible refine (known14_calls _).mono ?_); rintro ee w5 ⟨rfl, hb⟩; have hs := HS.out.call hb; clear hb; clear HS; have HS := Aside0.mk hs; clear hs))
  go_ret
  exact ⟨rfl, HS.out.below⟩
 case inr =>
  have d1 : decide ((s.length : Int) > 60) = false := decide_eq_false (by omega)
  have d1' : decide (60 < s.length) = false := decide_eq_false (by omega)
  clear h1
  go_enter Tryd.func4, Tryd.ntmps4
  go_upto_region 4 with (first
   | (go_at_call 12; (with_reducible refine (known14_calls _).mono ?_); rintro ee w4 ⟨rfl, hb⟩; have hs := HS.out.call hb; clear hb; clear HS; have HS := Aside0.mk hs; clear hs)
   | (go_at_call 8; (with_reducible refine (bytes14_calls _ _ _ _ c k next tags _ HS.out.lt (HS.out.arg H0.out) (HS.out.arg H2.out) (HS.out.arg H3.out) HC.out HK.out HRN.out HRT.out).mono ?_); rintro ee w5 ⟨v0, v1, rfl, h0, h1, hb⟩; rw [HBE.out] at h0 h1; obtain ⟨A4, c4, e4⟩ := PV.form h0; subst e4; obtain ⟨A5, c5, e5⟩ := PV.form h1; subst e5; have hs := ((HS.out.push_ro hb h0).push_ro (Below.refl _ _) (h1.to (fun _ _ h => Ys_ro h))); simp only [List.nil_append, List.cons_append] at hs; clear h0 h1 hb; clear HS; have HS := Aside0.mk hs; clear hs)
   | (go_at_call 10; (with_reducible refine (of14own_calls _ _ _ N T _ HS.out.lt (HS.out.ro 0 rfl) (HS.out.ro 1 rfl) HBS.out).mono ?_); rintro ee w6 ⟨vC, vN, vT, us, rfl, hul, hq⟩; have HUL := Aside0.mk hul; clear hul; rw [HRC.out, HRG.out] at hq; have hs := HS.out.append hq; clear hq; obtain ⟨A6, c6, e6⟩ := hs.form 2 rfl; subst e6; obtain ⟨A7, c7, e7⟩ := hs.form 3 rfl; subst e7; obtain ⟨A8, c8, e8⟩ := hs.form 4 rfl; subst e8; have hs := ((hs.push_box [.slice A6 C.length c6, .slice A7 us.length c7, .slice A8 T.length c8] 31).perm (perm_bent _ _ _ _ _ _ _)).sub (List.drop_sublist 2 _); clear HS; have HS := Aside0.mk hs; clear hs))
  obtain ⟨g1, hg1⟩ : ∃ g, g = w6.heap.size := ⟨_, rfl⟩
  rw [← hg1] at HS ⊢
  clear hg1
  have hs : Sep X w (w6.alloc (.cells #[.slice A6 C.length c6, .slice A7 us.length c7, .slice A8 T.length c8] 31)) ([.box g1 31 [.slice A6 C.length c6, .slice A7 us.length c7, .slice A8 T.length c8], .row kU8 5 (.slice A6 C.length c6) C, .row kInt 3 (.slice A8 T.length c8) T, .row kSl 25 (.slice A7 us.length c7) us] ++ rows kInt 3 us G) := HS.out
  clear HS
  have HS := Aside0.mk hs
  clear hs
  obtain ⟨wb, hwb⟩ : ∃ x, x = w6.alloc (.cells #[.slice A6 C.length c6, .slice A7 us.length c7, .slice A8 T.length c8] 31) := ⟨_, rfl⟩
  rw [← hwb] at HS ⊢
  clear hwb
  have y1 := (HS.out.box 0 rfl).cell 1 rfl
  have y2 := (HS.out.box 0 rfl).cell 2 rfl
  have HGT := Aside0.mk (show us.length = G.length ∧ G.length = T.length by have h0 := HUL.out; have h1 := HBS.out.1.2.2; have h2 := HLG.out.1; omega)
  obtain ⟨i, hi⟩ : ∃ i, i = a % T.length := ⟨_, rfl⟩
  have hil : i < T.length := by rw [hi]; exact Nat.mod_lt _ (by have := HLG.out.2.1; omega)
  have HIQ := Aside0.mk (show (wrap64 (a : Int)).tmod (T.length : Int) = (i : Int) by rw [show wrap64 (a : Int) = (a : Int) from IntWalk.wrap64_in _ (by have := HAB.out.1; omega), Int.tmod_eq_emod_of_nonneg (by omega), hi]; omega)
  have HIG := Aside0.mk (show i < G.length by have := HGT.out.2; omega)
  obtain ⟨gN, cN, eN, zN, fN, hN⟩ := HS.out.sc (none, 0, 0) 3 rfl i (by have := HGT.out; omega)
  clear hN
  cases eN
  obtain ⟨gl1, gl2⟩ := HLG.out.2.2.2 i HIG.out
  obtain ⟨Ai, ci, ei⟩ := HS.out.form (i + 4) (grp_at HGT.out.1 HIG.out)
  rw [ei] at zN
  have HEI := Aside0.mk ei
  obtain ⟨R, hR⟩ : ∃ R, R = G.getD i [] := ⟨_, rfl⟩
  rw [← hR] at gl1 gl2 zN HEI
  have HRE := Aside0.mk hR
  obtain ⟨j, hj⟩ : ∃ j, j = b % R.length := ⟨_, rfl⟩
  have hjl : j < R.length := by rw [hj]; exact Nat.mod_lt _ (by omega)
  have HJQ := Aside0.mk (show (wrap64 (b : Int)).tmod (R.length : Int) = (j : Int) by rw [show wrap64 (b : Int) = (b : Int) from IntWalk.wrap64_in _ (by have := HAB.out.2.1; omega), Int.tmod_eq_emod_of_nonneg (by omega), hj]; omega)
  have hi0 : (0 : Int) ≤ (i : Int) := by omega
  have hi1 : (i : Int) < (us.length : Int) := by have := HGT.out; omega
  have hT0 : ¬ (T.length : Int) = 0 := by omega
  have hR0 : ¬ (R.length : Int) = 0 := by omega
  have hib := HLG.out.2.2.1
  clear hi hj hR ei
  go_upto_region 5 with fail
  rw [HIQ.out]
  go_upto_region 6 with fail
  rw [HJQ.out]
  go_upto_block 0 with fail
  obtain ⟨m7, hm7⟩ : ∃ m : Int, m = (hw : Int) % 7 := ⟨_, rfl⟩
  rw [← hm7]
  have HM := Aside0.mk (show m7 = 0 ∨ m7 = 1 ∨ m7 = 2 ∨ m7 = 3 ∨ m7 = 4 ∨ m7 = 5 ∨ m7 = 6 by omega)
  clear hm7
  have hat := grp_at (d := kInt) (e := 3) (a := .box g1 31 [.slice A6 C.length c6, .slice (some ⟨gN, 0, none⟩) us.length c7, .slice A8 T.length c8]) (b := .row kU8 5 (.slice A6 C.length c6) C) (c := .row kInt 3 (.slice A8 T.length c8) T) (r := .row kSl 25 (.slice (some ⟨gN, 0, none⟩) us.length c7) us) HGT.out.1 HIG.out
  rw [HEI.out, ← HRE.out] at hat
  have HAT := Aside0.mk hat
  have HUI := Aside0.mk (show us.getD i (none, 0, 0) = (Ai, R.length, ci) by have h := HEI.out; unfold encS at h; injection h with h1 h2 h3; exact Prod.ext h1 (Prod.ext h2 h3))
  clear hat
  go_cut [22] (fun v22 wc => v22 = .int .i64 j ∧ ∃ (vC vN vT : Value) (Cc : List Int) (Gc : List (List Int)) (Tc : List Int), Aside0 (U8s Cc) ∧ Aside0 (Sep X w wc [.box g1 31 [vC, vN, vT], .ro kU8 vC Cc, .ro kInt vT Tc, .ro kRow vN Gc]))
  case first =>
   rcases HM.out with hm | hm | hm | hm | hm | hm | hm
   case inl =>
    have q0 : (m7 == 0) = true := by rw [hm]; rfl
    clear hm
    obtain ⟨gT, cT, eT, zT, fT, hT⟩ := HS.out.int 2 rfl i hil
    cases eT
    clear hT
    have hi2 : (i : Int) < (T.length : Int) := by omega
    go_wp2_with fail
    go_meet
    case rel => exact ⟨rfl, _, _, _, C, G, T.set i x, HRU, ⟨bent_done HGT.out.1 (Sep.set_int HS.out 2 rfl i hil x)⟩⟩
   case inr.inl =>
    have q0 : (m7 == 0) = false := by rw [hm]; rfl
    have q1 : (m7 == 1) = true := by rw [hm]; rfl
    clear hm
    obtain ⟨gR, cR, eR, zR, fR, hRr⟩ := HS.out.int (i + 4) HAT.out j hjl
    cases eR
    clear hRr
    have hj0 : (0 : Int) ≤ (j : Int) := by omega
    have hj1 : (j : Int) < (R.length : Int) := by omega
    go_wp2_with fail
    go_meet
    case rel =>
     have h1 := grp_set (d := kInt) HGT.out.1 (some ⟨gR, 0, none⟩, R.length, ci) (R.set j x) (Sep.set_int HS.out (i + 4) HAT.out j hjl x)
     rw [set_self us i (none, 0, 0) _ (by have := HGT.out; have := HIG.out; omega) HUI.out] at h1
     exact ⟨rfl, _, _, _, C, G.set i (R.set j x), T, HRU, ⟨bent_done (by rw [List.length_set]; exact HGT.out.1) h1⟩⟩
   case inr.inr.inl =>
    have q0 : (m7 == 0) = false := by rw [hm]; rfl
    have q1 : (m7 == 1) = false := by rw [hm]; rfl
    have q2 : (m7 == 2) = true := by rw [hm]; rfl
    clear hm
    obtain ⟨_, _, e7', hle, _⟩ := (HS.out.row (i + 4) HAT.out).now
    cases e7'
    have hw1 : wrap64 ((R.length : Int) - 1) = ((R.length - 1 : Nat) : Int) := by rw [IntWalk.wrap64_in _ (by omega)]; omega
    have hr0 : (0 : Int) ≤ ((R.length - 1 : Nat) : Int) := by omega
    have hr1 : ((R.length - 1 : Nat) : Int) ≤ (ci : Int) := by omega
    have HUL2 := Aside0.mk (show i < us.length by have := HGT.out; have := HIG.out; omega)
    clear hle
    go_upto_region 12 with fail
    have hs := HS.out.drew
    clear HS; have HS := Aside0.mk hs; clear hs
    refine start_ (n := 18) (S := fun w' => w'.cell? ⟨g1, 1, none⟩ = some (.slice (some ⟨gN, 0, none⟩) us.length c7) ∧ w'.cell? ⟨gN, i, none⟩ = some (.slice Ai R.length ci)) (ds := [17]) #[false, false, false, false, false, false, false, false, false, false, false, false, false, false, false, false, false, false] (by kernel_rfl) rfl rfl ⟨((HS.out.box 0 rfl).cell 1 rfl), zN⟩ (fun hHeld => ?_)
    refine pure_ (i := 0) (N := some 84) (v := ?_) (a' := ?_) #[true, false, false, false, false, false, false, false, false, false, false, false, false, false, false, false, false, false] rfl rfl (by kernel_rfl) (fun _ _ _ h => h) (Or.inl ⟨by rfl, ?_⟩) ?_ ?_
    rotate_left
    ·intro w'
     go_simp
     with_reducible rfl
    rotate_left
    ·simp only [Act.put, List.setIfInBounds_toArray, List.set_cons_zero, List.set_cons_succ, i64_w, i32_w]
     rfl
    refine pure_ (i := 2) (N := some 86) (v := ?_) (a' := ?_) #[true, false, true, false, false, false, false, false, false, false, false, false, false, false, false, false, false, false] rfl rfl (by kernel_rfl) (fun _ _ _ h => h) (Or.inl ⟨by rfl, ?_⟩) ?_ ?_
    rotate_left
    ·intro w'
     go_simp
     with_reducible rfl
    rotate_left
    ·simp only [Act.put, List.setIfInBounds_toArray, List.set_cons_zero, List.set_cons_succ, i64_w, i32_w]
     rfl
    refine pure_ (i := 3) (N := some 87) (v := ?_) (a' := ?_) #[true, false, true, true, false, false, false, false, false, false, false, false, false, false, false, false, false, false] rfl rfl (by kernel_rfl) (fun _ _ _ h => h) (Or.inl ⟨by rfl, ?_⟩) ?_ ?_
    rotate_left
    ·intro w'
     go_simp
     with_reducible rfl
    rotate_left
    ·simp only [Act.put, List.setIfInBounds_toArray, List.set_cons_zero, List.set_cons_succ, i64_w, i32_w]
     rfl
    refine pure_ (i := 5) (N := some 89) (v := ?_) (a' := ?_) #[true, false, true, true, false, true, false, false, false, false, false, false, false, false, false, false, false, false] rfl rfl (by kernel_rfl) (fun _ _ _ h => h) (Or.inl ⟨by rfl, ?_⟩) ?_ ?_
    rotate_left
    ·intro w'
     go_simp
     with_reducible rfl
    rotate_left
    ·simp only [Act.put, List.setIfInBounds_toArray, List.set_cons_zero, List.set_cons_succ, i64_w, i32_w]
     rfl
    refine pure_ (i := 8) (N := some 92) (v := ?_) (a' := ?_) #[true, false, true, true, false, true, false, false, true, false, false, false, false, false, false, false, false, false] rfl rfl (by kernel_rfl) (fun _ _ _ h => h) (Or.inl ⟨by rfl, ?_⟩) ?_ ?_
    rotate_left
    ·intro w'
     go_simp
     with_reducible rfl
    rotate_left
    ·simp only [Act.put, List.setIfInBounds_toArray, List.set_cons_zero, List.set_cons_succ, i64_w, i32_w]
     rfl
    refine pure_ (i := 10) (N := some 94) (v := ?_) (a' := ?_) #[true, false, true, true, false, true, false, false, true, false, true, false, false, false, false, false, false, false] rfl rfl (by kernel_rfl) (fun _ _ _ h => h) (Or.inl ⟨by rfl, ?_⟩) ?_ ?_
    rotate_left
    ·intro w'
     go_simp
     with_reducible rfl
    rotate_left
    ·simp only [Act.put, List.setIfInBounds_toArray, List.set_cons_zero, List.set_cons_succ, i64_w, i32_w]
     rfl
    refine take_ (i := 1) (N := some 85) (v := ?_) (a' := ?_) #[true, true, true, true, false, true, false, false, true, false, true, false, false, false, false, false, false, false] rfl rfl (by kernel_rfl) (fun _ _ _ h => h) (Or.inl ⟨by rfl, ?_⟩) hHeld ?_ ?_
    rotate_left
    ·rintro w' ⟨s0, s1⟩
     go_simp
     with_reducible rfl
    rotate_left
    ·simp only [Act.put, List.setIfInBounds_toArray, List.set_cons_zero, List.set_cons_succ, i64_w, i32_w]
     rfl
    refine take_ (i := 4) (N := some 88) (v := ?_) (a' := ?_) #[true, true, true, true, true, true, false, false, true, false, true, false, false, false, false, false, false, false] rfl rfl (by kernel_rfl) (fun _ _ _ h => h) (Or.inl ⟨by rfl, ?_⟩) hHeld ?_ ?_
    rotate_left
    ·rintro w' ⟨s0, s1⟩
     go_simp
     with_reducible rfl
    rotate_left
    ·simp only [Act.put, List.setIfInBounds_toArray, List.set_cons_zero, List.set_cons_succ, i64_w, i32_w]
     rfl
    refine pure_ (i := 6) (N := some 90) (v := ?_) (a' := ?_) #[true, true, true, true, true, true, true, false, true, false, true, false, false, false, false, false, false, false] rfl rfl (by kernel_rfl) (fun _ _ _ h => h) (Or.inl ⟨by rfl, ?_⟩) ?_ ?_
    rotate_left
    ·intro w'
     go_simp
     with_reducible rfl
    rotate_left
    ·simp only [Act.put, List.setIfInBounds_toArray, List.set_cons_zero, List.set_cons_succ, i64_w, i32_w]
     rfl
    refine take_ (i := 7) (N := some 91) (v := ?_) (a' := ?_) #[true, true, true, true, true, true, true, true, true, false, true, false, false, false, false, false, false, false] rfl rfl (by kernel_rfl) (fun _ _ _ h => h) (Or.inl ⟨by rfl, ?_⟩) hHeld ?_ ?_
    rotate_left
    ·rintro w' ⟨s0, s1⟩
     go_simp
     with_reducible rfl
    rotate_left
    ·simp only [Act.put, List.setIfInBounds_toArray, List.set_cons_zero, List.set_cons_succ, i64_w, i32_w]
     rfl
    refine take_ (i := 9) (N := some 93) (v := ?_) (a' := ?_) #[true, true, true, true, true, true, true, true, true, true, true, false, false, false, false, false, false, false] rfl rfl (by kernel_rfl) (fun _ _ _ h => h) (Or.inl ⟨by rfl, ?_⟩) hHeld ?_ ?_
    rotate_left
    ·rintro w' ⟨s0, s1⟩
     go_simp
     with_reducible rfl
    rotate_left
    ·simp only [Act.put, List.setIfInBounds_toArray, List.set_cons_zero, List.set_cons_succ, i64_w, i32_w]
     rfl
    refine pure_ (i := 11) (N := some 95) (v := ?_) (a' := ?_) #[true, true, true, true, true, true, true, true, true, true, true, true, false, false, false, false, false, false] rfl rfl (by kernel_rfl) (fun _ _ _ h => h) (Or.inl ⟨by rfl, ?_⟩) ?_ ?_
    rotate_left
    ·intro w'
     go_simp
     with_reducible rfl
    rotate_left
    ·simp only [Act.put, List.setIfInBounds_toArray, List.set_cons_zero, List.set_cons_succ, i64_w, i32_w]
     rfl
    refine take_ (i := 12) (N := some 96) (v := ?_) (a' := ?_) #[true, true, true, true, true, true, true, true, true, true, true, true, true, false, false, false, false, false] rfl rfl (by kernel_rfl) (fun _ _ _ h => h) (Or.inl ⟨by rfl, ?_⟩) hHeld ?_ ?_
    rotate_left
    ·rintro w' ⟨s0, s1⟩
     go_simp
     with_reducible rfl
    rotate_left
    ·simp only [Act.put, List.setIfInBounds_toArray, List.set_cons_zero, List.set_cons_succ, i64_w, i32_w]
     rfl
    refine pure_ (i := 13) (N := some 97) (v := ?_) (a' := ?_) #[true, true, true, true, true, true, true, true, true, true, true, true, true, true, false, false, false, false] rfl rfl (by kernel_rfl) (fun _ _ _ h => h) (Or.inl ⟨by rfl, ?_⟩) ?_ ?_
    rotate_left
    ·intro w'
     go_simp
     with_reducible rfl
    rotate_left
    ·simp only [Act.put, List.setIfInBounds_toArray, List.set_cons_zero, List.set_cons_succ, i64_w, i32_w]
     rfl
    refine pure_ (i := 14) (N := some 98) (v := ?_) (a' := ?_) #[true, true, true, true, true, true, true, true, true, true, true, true, true, true, true, false, false, false] rfl rfl (by kernel_rfl) (fun _ _ _ h => h) (Or.inl ⟨by rfl, ?_⟩) ?_ ?_
    rotate_left
    ·intro w'
     go_simp
     with_reducible rfl
    rotate_left
    ·simp only [Act.put, List.setIfInBounds_toArray, List.set_cons_zero, List.set_cons_succ, i64_w, i32_w]
     rfl
    refine pure_ (i := 15) (N := some 99) (v := ?_) (a' := ?_) #[true, true, true, true, true, true, true, true, true, true, true, true, true, true, true, true, false, false] rfl rfl (by kernel_rfl) (fun _ _ _ h => h) (Or.inl ⟨by rfl, ?_⟩) ?_ ?_
    rotate_left
    ·intro w'
     go_simp
     with_reducible rfl
    rotate_left
    ·simp only [Act.put, List.setIfInBounds_toArray, List.set_cons_zero, List.set_cons_succ, i64_w, i32_w]
     rfl
    refine pure_ (i := 16) (N := some 100) (v := ?_) (a' := ?_) #[true, true, true, true, true, true, true, true, true, true, true, true, true, true, true, true, true, false] rfl rfl (by kernel_rfl) (fun _ _ _ h => h) (Or.inl ⟨by rfl, ?_⟩) ?_ ?_
    rotate_left
    ·intro w'
     go_simp
     with_reducible rfl
    rotate_left
    ·simp only [Act.put, List.setIfInBounds_toArray, List.set_cons_zero, List.set_cons_succ, i64_w, i32_w]
     rfl
    refine last_ (i := 17) (N := none) #[true, true, true, true, true, true, true, true, true, true, true, true, true, true, true, true, true, true] rfl rfl (by kernel_rfl) (by decide) (fun K hK => ?_)
    refine skip_ (w1 := ?_) (by rfl) rfl ?_ ?_
    rotate_left
    ·go_simp
     rfl
    have hs := Sep.set_sc HS.out 3 rfl i HUL2.out (Ai, R.length - 1, ci)
    clear HS; have HS := Aside0.mk hs; clear hs
    refine hK.out _ _ ?_
    clear hK K
    refine done_ (by kernel_rfl) ?_
    go_wp2_with fail
    go_meet
    case rel =>
     have h1 := HS.out.cut_row (i + 4) HAT.out (R.length - 1) (by omega)
     have h2 := grp_set (d := kInt) HGT.out.1 (Ai, R.length - 1, ci) (R.take (R.length - 1)) h1
     exact ⟨rfl, _, _, _, C, G.set i (R.take (R.length - 1)), T, HRU, ⟨bent_done (by rw [List.length_set, List.length_set]; exact HGT.out.1) h2⟩⟩
   case inr.inr.inr.inl =>
    have q0 : (m7 == 0) = false := by rw [hm]; rfl
    have q1 : (m7 == 1) = false := by rw [hm]; rfl
    have q2 : (m7 == 2) = false := by rw [hm]; rfl
    have q3 : (m7 == 3) = true := by rw [hm]; rfl
    clear hm
    have y0 := (HS.out.box 0 rfl).cell 0 rfl
    have hal : a < C.length := by rw [HLC.out]; exact HAB.out.1
    obtain ⟨gC, cC, eC, zC, fC, hCc⟩ := HS.out.int 1 rfl a hal
    cases eC
    clear hCc
    have ha0 : (0 : Int) ≤ (a : Int) := by omega
    have ha1 : (a : Int) < (C.length : Int) := by omega
    go_wp2_with fail
    go_meet
    case rel =>
     have hu2 : U8s (C.set a (b : Int)) := fun q hq => by
      rcases List.mem_or_eq_of_mem_set hq with h | h
      ·exact HRU.out q h
      ·subst h; have := HAB.out.2.1; omega
     exact ⟨rfl, _, _, _, C.set a (b : Int), G, T, ⟨hu2⟩, ⟨bent_done HGT.out.1 (Sep.set_int HS.out 1 rfl a hal (b : Int))⟩⟩
   case inr.inr.inr.inr.inl =>
    have q0 : (m7 == 0) = false := by rw [hm]; rfl
    have q1 : (m7 == 1) = false := by rw [hm]; rfl
    have q2 : (m7 == 2) = false := by rw [hm]; rfl
    have q3 : (m7 == 3) = false := by rw [hm]; rfl
    have q4 : (m7 == 4) = true := by rw [hm]; rfl
    clear hm
    have y0 := (HS.out.box 0 rfl).cell 0 rfl
    have f0 := (HS.out.box 0 rfl).open_ 0
    obtain ⟨A', c', e', hle, _⟩ := (HS.out.row 1 rfl).now
    cases e'
    have hlc := HLC.out
    have hc255 : (255 : Int) ≤ (c6 : Int) := by omega
    have hc255' : 255 ≤ c6 := by omega
    clear hle hlc
    go_wp2_with fail
    go_meet
    case rel =>
     have hu2 : U8s (C.take 255) := fun q hq => HRU.out q (List.mem_of_mem_take hq)
     exact ⟨rfl, _, _, _, C.take 255, G, T, ⟨hu2⟩, ⟨bent_done HGT.out.1 ((HS.out.set_box 0 rfl 0 (.slice A6 255 c6)).cut_row 1 rfl 255 (by rw [HLC.out]; decide))⟩⟩
   case inr.inr.inr.inr.inr.inl =>
    have q0 : (m7 == 0) = false := by rw [hm]; rfl
    have q1 : (m7 == 1) = false := by rw [hm]; rfl
    have q2 : (m7 == 2) = false := by rw [hm]; rfl
    have q3 : (m7 == 3) = false := by rw [hm]; rfl
    have q4 : (m7 == 4) = false := by rw [hm]; rfl
    have q5 : (m7 == 5) = true := by rw [hm]; rfl
    clear hm
    obtain ⟨gR, cR, eR, zR, fR, hRr⟩ := HS.out.int (i + 4) HAT.out j hjl
    cases eR
    clear hRr
    have hj0 : (0 : Int) ≤ (j : Int) := by omega
    have hj1 : (j : Int) < (R.length : Int) := by omega
    have hT1 : ¬ wrap64 ((T.length : Int) + 1) = 0 := by rw [IntWalk.wrap64_in _ (by omega)]; omega
    go_upto_region 18 with fail
    have hs := HS.out.drew
    clear HS; have HS := Aside0.mk hs; clear hs
    refine start_ (n := 16) (S := fun w' => w'.cell? ⟨g1, 1, none⟩ = some (.slice (some ⟨gN, 0, none⟩) us.length c7) ∧ w'.cell? ⟨gN, i, none⟩ = some (.slice (some ⟨gR, 0, none⟩) R.length ci) ∧ w'.cell? ⟨g1, 2, none⟩ = some (.slice A8 T.length c8)) (ds := [15]) #[false, false, false, false, false, false, false, false, false, false, false, false, false, false, false, false] (by kernel_rfl) rfl rfl ⟨((HS.out.box 0 rfl).cell 1 rfl), zN, ((HS.out.box 0 rfl).cell 2 rfl)⟩ (fun hHeld => ?_)
    refine pure_ (i := 0) (N := some 116) (v := ?_) (a' := ?_) #[true, false, false, false, false, false, false, false, false, false, false, false, false, false, false, false] rfl rfl (by kernel_rfl) (fun _ _ _ h => h) (Or.inl ⟨by rfl, ?_⟩) ?_ ?_
    rotate_left
    ·intro w'
     go_simp
     with_reducible rfl
    rotate_left
    ·simp only [Act.put, List.setIfInBounds_toArray, List.set_cons_zero, List.set_cons_succ, i64_w, i32_w]
     rfl
    refine pure_ (i := 2) (N := some 118) (v := ?_) (a' := ?_) #[true, false, true, false, false, false, false, false, false, false, false, false, false, false, false, false] rfl rfl (by kernel_rfl) (fun _ _ _ h => h) (Or.inl ⟨by rfl, ?_⟩) ?_ ?_
    rotate_left
    ·intro w'
     go_simp
     with_reducible rfl
    rotate_left
    ·simp only [Act.put, List.setIfInBounds_toArray, List.set_cons_zero, List.set_cons_succ, i64_w, i32_w]
     rfl
    refine pure_ (i := 5) (N := some 121) (v := ?_) (a' := ?_) #[true, false, true, false, false, true, false, false, false, false, false, false, false, false, false, false] rfl rfl (by kernel_rfl) (fun _ _ _ h => h) (Or.inl ⟨by rfl, ?_⟩) ?_ ?_
    rotate_left
    ·intro w'
     go_simp
     with_reducible rfl
    rotate_left
    ·simp only [Act.put, List.setIfInBounds_toArray, List.set_cons_zero, List.set_cons_succ, i64_w, i32_w]
     rfl
    refine pure_ (i := 6) (N := some 122) (v := ?_) (a' := ?_) #[true, false, true, false, false, true, true, false, false, false, false, false, false, false, false, false] rfl rfl (by kernel_rfl) (fun _ _ _ h => h) (Or.inl ⟨by rfl, ?_⟩) ?_ ?_
    rotate_left
    ·intro w'
     go_simp
     with_reducible rfl
    rotate_left
    ·simp only [Act.put, List.setIfInBounds_toArray, List.set_cons_zero, List.set_cons_succ, i64_w, i32_w]
     rfl
    refine pure_ (i := 7) (N := some 123) (v := ?_) (a' := ?_) #[true, false, true, false, false, true, true, true, false, false, false, false, false, false, false, false] rfl rfl (by kernel_rfl) (fun _ _ _ h => h) (Or.inl ⟨by rfl, ?_⟩) ?_ ?_
    rotate_left
    ·intro w'
     go_simp
     with_reducible rfl
    rotate_left
    ·simp only [Act.put, List.setIfInBounds_toArray, List.set_cons_zero, List.set_cons_succ, i64_w, i32_w]
     rfl
    refine pure_ (i := 8) (N := some 124) (v := ?_) (a' := ?_) #[true, false, true, false, false, true, true, true, true, false, false, false, false, false, false, false] rfl rfl (by kernel_rfl) (fun _ _ _ h => h) (Or.inl ⟨by rfl, ?_⟩) ?_ ?_
    rotate_left
    ·intro w'
     go_simp
     with_reducible rfl
    rotate_left
    ·simp only [Act.put, List.setIfInBounds_toArray, List.set_cons_zero, List.set_cons_succ, i64_w, i32_w]
     rfl
    refine take_ (i := 1) (N := some 117) (v := ?_) (a' := ?_) #[true, true, true, false, false, true, true, true, true, false, false, false, false, false, false, false] rfl rfl (by kernel_rfl) (fun _ _ _ h => h) (Or.inl ⟨by rfl, ?_⟩) hHeld ?_ ?_
    rotate_left
    ·rintro w' ⟨s0, s1, s2⟩
     go_simp
     with_reducible rfl
    rotate_left
    ·simp only [Act.put, List.setIfInBounds_toArray, List.set_cons_zero, List.set_cons_succ, i64_w, i32_w]
     rfl
    refine pure_ (i := 3) (N := some 119) (v := ?_) (a' := ?_) #[true, true, true, true, false, true, true, true, true, false, false, false, false, false, false, false] rfl rfl (by kernel_rfl) (fun _ _ _ h => h) (Or.inl ⟨by rfl, ?_⟩) ?_ ?_
    rotate_left
    ·intro w'
     go_simp
     with_reducible rfl
    rotate_left
    ·simp only [Act.put, List.setIfInBounds_toArray, List.set_cons_zero, List.set_cons_succ, i64_w, i32_w]
     rfl
    refine take_ (i := 4) (N := some 120) (v := ?_) (a' := ?_) #[true, true, true, true, true, true, true, true, true, false, false, false, false, false, false, false] rfl rfl (by kernel_rfl) (fun _ _ _ h => h) (Or.inl ⟨by rfl, ?_⟩) hHeld ?_ ?_
    rotate_left
    ·rintro w' ⟨s0, s1, s2⟩
     go_simp
     with_reducible rfl
    rotate_left
    ·simp only [Act.put, List.setIfInBounds_toArray, List.set_cons_zero, List.set_cons_succ, i64_w, i32_w]
     rfl
    refine take_ (i := 9) (N := some 125) (v := ?_) (a' := ?_) #[true, true, true, true, true, true, true, true, true, true, false, false, false, false, false, false] rfl rfl (by kernel_rfl) (fun _ _ _ h => h) (Or.inl ⟨by rfl, ?_⟩) hHeld ?_ ?_
    rotate_left
    ·rintro w' ⟨s0, s1, s2⟩
     go_simp
     with_reducible rfl
    rotate_left
    ·simp only [Act.put, List.setIfInBounds_toArray, List.set_cons_zero, List.set_cons_succ, i64_w, i32_w]
     rfl
    refine pure_ (i := 10) (N := some 126) (v := ?_) (a' := ?_) #[true, true, true, true, true, true, true, true, true, true, true, false, false, false, false, false] rfl rfl (by kernel_rfl) (fun _ _ _ h => h) (Or.inl ⟨by rfl, ?_⟩) ?_ ?_
    rotate_left
    ·intro w'
     go_simp
     with_reducible rfl
    rotate_left
    ·simp only [Act.put, List.setIfInBounds_toArray, List.set_cons_zero, List.set_cons_succ, i64_w, i32_w]
     rfl
    refine pure_ (i := 11) (N := some 127) (v := ?_) (a' := ?_) #[true, true, true, true, true, true, true, true, true, true, true, true, false, false, false, false] rfl rfl (by kernel_rfl) (fun _ _ _ h => h) (Or.inl ⟨by rfl, ?_⟩) ?_ ?_
    rotate_left
    ·intro w'
     go_simp
     with_reducible rfl
    rotate_left
    ·simp only [Act.put, List.setIfInBounds_toArray, List.set_cons_zero, List.set_cons_succ, i64_w, i32_w]
     rfl
    refine pure_ (i := 12) (N := some 128) (v := ?_) (a' := ?_) #[true, true, true, true, true, true, true, true, true, true, true, true, true, false, false, false] rfl rfl (by kernel_rfl) (fun _ _ _ h => h) (Or.inl ⟨by rfl, ?_⟩) ?_ ?_
    rotate_left
    ·intro w'
     go_simp
     with_reducible rfl
    rotate_left
    ·simp only [Act.put, List.setIfInBounds_toArray, List.set_cons_zero, List.set_cons_succ, i64_w, i32_w]
     rfl
    refine pure_ (i := 13) (N := some 129) (v := ?_) (a' := ?_) #[true, true, true, true, true, true, true, true, true, true, true, true, true, true, false, false] rfl rfl (by kernel_rfl) (fun _ _ _ h => h) (Or.inl ⟨by rfl, ?_⟩) ?_ ?_
    rotate_left
    ·intro w'
     go_simp
     with_reducible rfl
    rotate_left
    ·simp only [Act.put, List.setIfInBounds_toArray, List.set_cons_zero, List.set_cons_succ, i64_w, i32_w]
     rfl
    refine pure_ (i := 14) (N := some 130) (v := ?_) (a' := ?_) #[true, true, true, true, true, true, true, true, true, true, true, true, true, true, true, false] rfl rfl (by kernel_rfl) (fun _ _ _ h => h) (Or.inl ⟨by rfl, ?_⟩) ?_ ?_
    rotate_left
    ·intro w'
     go_simp
     with_reducible rfl
    rotate_left
    ·simp only [Act.put, List.setIfInBounds_toArray, List.set_cons_zero, List.set_cons_succ, i64_w, i32_w]
     rfl
    refine last_ (i := 15) (N := none) #[true, true, true, true, true, true, true, true, true, true, true, true, true, true, true, true] rfl rfl (by kernel_rfl) (by decide) (fun K hK => ?_)
    refine skip_ (w1 := ?_) (by rfl) rfl ?_ ?_
    rotate_left
    ·go_simp
     rfl
    have hs := Sep.set_int HS.out (i + 4) HAT.out j hjl (wrap64 ((wrap64 (a : Int)).tmod (wrap64 ((T.length : Int) + 1)) - 1))
    clear HS; have HS := Aside0.mk hs; clear hs
    refine hK.out _ _ ?_
    clear hK K
    refine done_ (by kernel_rfl) ?_
    go_wp2_with fail
    go_meet
    case rel =>
     have h1 := grp_set (d := kInt) HGT.out.1 (some ⟨gR, 0, none⟩, R.length, ci) (R.set j (wrap64 ((wrap64 (a : Int)).tmod (wrap64 ((T.length : Int) + 1)) - 1))) HS.out
     rw [set_self us i (none, 0, 0) _ (by have := HGT.out; have := HIG.out; omega) HUI.out] at h1
     exact ⟨rfl, _, _, _, C, G.set i (R.set j (wrap64 ((wrap64 (a : Int)).tmod (wrap64 ((T.length : Int) + 1)) - 1))), T, HRU, ⟨bent_done (by rw [List.length_set]; exact HGT.out.1) h1⟩⟩
   case inr.inr.inr.inr.inr.inr =>
    have q0 : (m7 == 0) = false := by rw [hm]; rfl
    have q1 : (m7 == 1) = false := by rw [hm]; rfl
    have q2 : (m7 == 2) = false := by rw [hm]; rfl
    have q3 : (m7 == 3) = false := by rw [hm]; rfl
    have q4 : (m7 == 4) = false := by rw [hm]; rfl
    have q5 : (m7 == 5) = false := by rw [hm]; rfl
    clear hm
    go_wp2_with fail
    go_meet
    case rel => exact ⟨rfl, _, _, _, C, G, T, HRU, ⟨bent_done HGT.out.1 HS.out⟩⟩
  case rest =>
   obtain ⟨rfl, vC, vN, vT, Cc, Gc, Tc, HCU, HS⟩ := hcut
   clear HAT HUI HEI HRE
   obtain ⟨B6, d6, e6⟩ := PV.form (HS.out.ro 1 rfl)
   subst e6
   obtain ⟨B7, d7, e7⟩ := PV.form (HS.out.ro 3 rfl)
   subst e7
   obtain ⟨B8, d8, e8⟩ := PV.form (HS.out.ro 2 rfl)
   subst e8
   have xt0 := (HS.out.box 0 rfl).cell 0 rfl
   have xt1 := (HS.out.box 0 rfl).cell 1 rfl
   have xt2 := (HS.out.box 0 rfl).cell 2 rfl
   clear y1 y2 zN fN
   obtain ⟨⟨⟨bn, bt⟩, be⟩, hbk⟩ : ∃ r, r = back14 Cc Gc Tc := ⟨_, rfl⟩
   have HBK := Aside0.mk hbk.symm
   have HBE2 := Aside0.mk (show be = 0 ∨ be = 1 by have := back14_err Cc Gc Tc; rw [← hbk] at this; exact this)
   obtain ⟨⟨l1, l2⟩, hl⟩ : ∃ l, l = long14 Cc Gc Tc s := ⟨_, rfl⟩
   have HL := Aside0.mk hl.symm
   clear hbk hl
   go_wp2_with (first
    | (go_at_call 11; (with_reducible refine (cback_calls _ _ _ _ Cc Gc Tc _ HS.out.lt (HS.out.ro 1 rfl) (HS.out.ro 3 rfl) (HS.out.ro 2 rfl) HCU.out).mono ?_); rintro ee w8 ⟨v0, v1, rfl, h0, h1, hb⟩; rw [HBK.out] at h0 h1 ⊢; obtain ⟨A12, c12, e12⟩ := PV.form h0; subst e12; obtain ⟨A13, c13, e13⟩ := PV.form h1; subst e13; have hs := ((HS.out.push_ro hb h0).push_ro (Below.refl _ _) (h1.to (fun _ _ h => Ys_ro h))).push_box [.slice A12 bn.length c12, .slice A13 bt.length c13] 27; simp only [List.nil_append, List.cons_append] at hs; clear h0 h1 hb xt0 xt1 xt2; have xt0 := (hs.box 0 rfl).cell 0 rfl; have xt1 := (hs.box 0 rfl).cell 1 rfl; have xt2 := (hs.box 0 rfl).cell 2 rfl; clear HS; have HS := Aside0.mk hs; clear hs)
    | (go_at_call 16; (with_reducible refine (back14_calls _ _ _ _ Cc Gc Tc _ HS.out.lt (HS.out.ro 1 rfl) (HS.out.ro 3 rfl) (HS.out.ro 2 rfl) HCU.out).mono ?_); rintro ee w9 ⟨v0, v1, rfl, h0, h1, hb⟩; rw [HBK.out] at h0 h1 ⊢; obtain ⟨A14, c14, e14⟩ := PV.form h0; subst e14; obtain ⟨A15, c15, e15⟩ := PV.form h1; subst e15; have hs := ((HS.out.push_ro hb h0).push_ro (Below.refl _ _) (h1.to (fun _ _ h => Ys_ro h))).push_box [.slice A14 bn.length c14, .slice A15 bt.length c15] 27; simp only [List.nil_append, List.cons_append] at hs; clear h0 h1 hb xt0 xt1 xt2; have xt0 := (hs.box 0 rfl).cell 0 rfl; have xt1 := (hs.box 0 rfl).cell 1 rfl; have xt2 := (hs.box 0 rfl).cell 2 rfl; clear HS; have HS := Aside0.mk hs; clear hs)
    | (go_at_call 17; (with_reducible refine (clong_calls _ _ _ _ _ Cc Gc Tc s _ HS.out.lt (HS.out.ro 1 rfl) (HS.out.ro 3 rfl) (HS.out.ro 2 rfl) (HS.out.arg H5.out) HCU.out HU.out).mono ?_); rintro ee w10 ⟨rfl, hb⟩; rw [HL.out]; have hs := HS.out.call hb; clear hb xt0 xt1 xt2; have xt0 := (hs.box 0 rfl).cell 0 rfl; have xt1 := (hs.box 0 rfl).cell 1 rfl; have xt2 := (hs.box 0 rfl).cell 2 rfl; clear HS; have HS := Aside0.mk hs; clear hs)
    | (go_at_call 18; (with_reducible refine (long14_calls _ _ _ _ _ Cc Gc Tc s _ HS.out.lt (HS.out.ro 1 rfl) (HS.out.ro 3 rfl) (HS.out.ro 2 rfl) (HS.out.arg H5.out) HCU.out HU.out).mono ?_); rintro ee w11 ⟨rfl, hb⟩; rw [HL.out]; have hs := HS.out.call hb; clear hb xt0 xt1 xt2; clear HS; have HS := Aside0.mk hs; clear hs))
   obtain ⟨g2, hg2⟩ : ∃ g, g = w8.heap.size := ⟨_, rfl⟩
   obtain ⟨g3, hg3⟩ : ∃ g, g = w9.heap.size := ⟨_, rfl⟩
   rw [← hg2, ← hg3] at HS ⊢
   clear hg2 hg3
   obtain ⟨q, hq⟩ : ∃ q, q = decide (TSound Cc Gc Tc) := ⟨_, rfl⟩
   have HQ := Aside0.mk hq.symm
   obtain ⟨z, hz⟩ : ∃ z, z = steps14 Cc Gc Tc s := ⟨_, rfl⟩
   have HZ := Aside0.mk hz.symm
   have HSM := Aside0.mk (show decide (bn = bn ∧ bt = bt) = true from decide_eq_true ⟨rfl, rfl⟩)
   have eq1 : (q == q) = true := beq_self_eq_true q
   have eq2 : (l1 == l1) = true := beq_self_eq_true l1
   have eq3 : (l2 == l2) = true := beq_self_eq_true l2
   have eq4 : ((z : Int) == (z : Int)) = true := beq_self_eq_true _
   clear hq hz
   have w0 : wrap64 0 = 0 := IntWalk.wrap64_in _ (by omega)
   have w1 : wrap64 1 = 1 := IntWalk.wrap64_in _ (by omega)
   rcases HBE2.out with rfl | rfl
   all_goals
    have hs := HS.out.drew
    clear HS; have HS := Aside0.mk hs; clear hs
    refine start_ (n := 36) (S := fun w' => w'.cell? ⟨g1, 0, none⟩ = some (.slice B6 Cc.length d6) ∧ w'.cell? ⟨g1, 1, none⟩ = some (.slice B7 Gc.length d7) ∧ w'.cell? ⟨g1, 2, none⟩ = some (.slice B8 Tc.length d8) ∧ w'.cell? ⟨g2, 0, none⟩ = some (.slice A12 bn.length c12) ∧ w'.cell? ⟨g2, 1, none⟩ = some (.slice A13 bt.length c13) ∧ w'.cell? ⟨g3, 0, none⟩ = some (.slice A14 bn.length c14) ∧ w'.cell? ⟨g3, 1, none⟩ = some (.slice A15 bt.length c15)) (ds := []) #[false, false, false, false, false, false, false, false, false, false, false, false, false, false, false, false, false, false, false, false, false, false, false, false, false, false, false, false, false, false, false, false, false, false, false, false] (by kernel_rfl) rfl rfl ⟨((HS.out.box 0 rfl).cell 0 rfl), ((HS.out.box 0 rfl).cell 1 rfl), ((HS.out.box 0 rfl).cell 2 rfl), ((HS.out.box 6 rfl).cell 0 rfl), ((HS.out.box 6 rfl).cell 1 rfl), ((HS.out.box 9 rfl).cell 0 rfl), ((HS.out.box 9 rfl).cell 1 rfl)⟩ (fun hHeld => ?_)
    refine take_ (i := 0) (N := some 153) (v := ?_) (a' := ?_) #[true, false, false, false, false, false, false, false, false, false, false, false, false, false, false, false, false, false, false, false, false, false, false, false, false, false, false, false, false, false, false, false, false, false, false, false] rfl rfl (by kernel_rfl) (fun _ _ _ h => h) (Or.inl ⟨by rfl, ?_⟩) hHeld ?_ ?_
    rotate_left
    ·rintro w' ⟨s0, s1, s2, s3, s4, s5, s6⟩
     go_simp
     with_reducible rfl
    rotate_left
    ·simp only [Act.put, List.setIfInBounds_toArray, List.set_cons_zero, List.set_cons_succ, i64_w, i32_w]
     rfl
    refine take_ (i := 2) (N := some 155) (v := ?_) (a' := ?_) #[true, false, true, false, false, false, false, false, false, false, false, false, false, false, false, false, false, false, false, false, false, false, false, false, false, false, false, false, false, false, false, false, false, false, false, false] rfl rfl (by kernel_rfl) (fun _ _ _ h => h) (Or.inl ⟨by rfl, ?_⟩) hHeld ?_ ?_
    rotate_left
    ·rintro w' ⟨s0, s1, s2, s3, s4, s5, s6⟩
     go_simp
     with_reducible rfl
    rotate_left
    ·simp only [Act.put, List.setIfInBounds_toArray, List.set_cons_zero, List.set_cons_succ, i64_w, i32_w]
     rfl
    refine one_ (i := 1) (N := some 154) #[true, true, true, false, false, false, false, false, false, false, false, false, false, false, false, false, false, false, false, false, false, false, false, false, false, false, false, false, false, false, false, false, false, false, false, false] rfl rfl (by kernel_rfl) (by decide) (fun K hK => ?_)
    refine goes_ Tryd.func15 (by kernel_rfl) rfl #[.agg #[.slice B6 Cc.length d6, .slice B7 Gc.length d7, .slice B8 Tc.length d8]] (by rfl) rfl rfl (by simp only [List.map_toArray, List.map_cons, List.map_nil]; rfl) ?_
    with_reducible refine (csound_calls _ _ _ _ Cc Gc Tc _ HS.out.lt (HS.out.ro 1 rfl) (HS.out.ro 3 rfl) (HS.out.ro 2 rfl) HCU.out).mono ?_
    rintro e wa ⟨rfl, hb⟩
    refine ⟨_, rfl, ?_⟩
    rw [HQ.out]
    have hs := HS.out.call hb
    clear hb
    clear HS; have HS := Aside0.mk hs; clear hs
    refine hK.out _ _ ⟨((HS.out.box 0 rfl).cell 0 rfl), ((HS.out.box 0 rfl).cell 1 rfl), ((HS.out.box 0 rfl).cell 2 rfl), ((HS.out.box 6 rfl).cell 0 rfl), ((HS.out.box 6 rfl).cell 1 rfl), ((HS.out.box 9 rfl).cell 0 rfl), ((HS.out.box 9 rfl).cell 1 rfl)⟩ (fun hHeld => ?_)
    clear hK K
    refine norm_ (a' := ?_) ?_ ?_
    rotate_left
    ·show Act.put _ (some 154) _ = _
     simp only [Act.put, List.setIfInBounds_toArray, List.set_cons_zero, List.set_cons_succ, i64_w, i32_w]
     rfl
    refine one_ (i := 3) (N := some 156) #[true, true, true, true, false, false, false, false, false, false, false, false, false, false, false, false, false, false, false, false, false, false, false, false, false, false, false, false, false, false, false, false, false, false, false, false] rfl rfl (by kernel_rfl) (by decide) (fun K hK => ?_)
    refine goes_ Tryd.func19 (by kernel_rfl) rfl #[.agg #[.slice B6 Cc.length d6, .slice B7 Gc.length d7, .slice B8 Tc.length d8]] (by rfl) rfl rfl (by simp only [List.map_toArray, List.map_cons, List.map_nil]; rfl) ?_
    with_reducible refine (tsound_calls _ _ _ _ Cc Gc Tc _ HS.out.lt (HS.out.ro 1 rfl) (HS.out.ro 3 rfl) (HS.out.ro 2 rfl) HCU.out).mono ?_
    rintro e wb2 ⟨rfl, hb⟩
    refine ⟨_, rfl, ?_⟩
    rw [HQ.out]
    have hs := HS.out.call hb
    clear hb
    clear HS; have HS := Aside0.mk hs; clear hs
    refine hK.out _ _ ⟨((HS.out.box 0 rfl).cell 0 rfl), ((HS.out.box 0 rfl).cell 1 rfl), ((HS.out.box 0 rfl).cell 2 rfl), ((HS.out.box 6 rfl).cell 0 rfl), ((HS.out.box 6 rfl).cell 1 rfl), ((HS.out.box 9 rfl).cell 0 rfl), ((HS.out.box 9 rfl).cell 1 rfl)⟩ (fun hHeld => ?_)
    clear hK K
    refine norm_ (a' := ?_) ?_ ?_
    rotate_left
    ·show Act.put _ (some 156) _ = _
     simp only [Act.put, List.setIfInBounds_toArray, List.set_cons_zero, List.set_cons_succ, i64_w, i32_w]
     rfl
    refine pure_ (i := 4) (N := some 157) (v := ?_) (a' := ?_) #[true, true, true, true, true, false, false, false, false, false, false, false, false, false, false, false, false, false, false, false, false, false, false, false, false, false, false, false, false, false, false, false, false, false, false, false] rfl rfl (by kernel_rfl) (fun _ _ _ h => h) (Or.inl ⟨by rfl, ?_⟩) ?_ ?_
    rotate_left
    ·intro w'
     go_simp
     with_reducible rfl
    rotate_left
    ·simp only [Act.put, List.setIfInBounds_toArray, List.set_cons_zero, List.set_cons_succ, i64_w, i32_w]
     rfl
    refine pure_ (i := 5) (N := some 158) (v := ?_) (a' := ?_) #[true, true, true, true, true, true, false, false, false, false, false, false, false, false, false, false, false, false, false, false, false, false, false, false, false, false, false, false, false, false, false, false, false, false, false, false] rfl rfl (by kernel_rfl) (fun _ _ _ h => h) (Or.inl ⟨by rfl, ?_⟩) ?_ ?_
    rotate_left
    ·intro w'
     go_simp
     with_reducible rfl
    rotate_left
    ·simp only [Act.put, List.setIfInBounds_toArray, List.set_cons_zero, List.set_cons_succ, i64_w, i32_w]
     rfl
    refine take_ (i := 6) (N := some 159) (v := ?_) (a' := ?_) #[true, true, true, true, true, true, true, false, false, false, false, false, false, false, false, false, false, false, false, false, false, false, false, false, false, false, false, false, false, false, false, false, false, false, false, false] rfl rfl (by kernel_rfl) (fun _ _ _ h => h) (Or.inl ⟨by rfl, ?_⟩) hHeld ?_ ?_
    rotate_left
    ·rintro w' ⟨s0, s1, s2, s3, s4, s5, s6⟩
     go_simp
     with_reducible rfl
    rotate_left
    ·simp only [Act.put, List.setIfInBounds_toArray, List.set_cons_zero, List.set_cons_succ, i64_w, i32_w]
     rfl
    refine take_ (i := 7) (N := some 160) (v := ?_) (a' := ?_) #[true, true, true, true, true, true, true, true, false, false, false, false, false, false, false, false, false, false, false, false, false, false, false, false, false, false, false, false, false, false, false, false, false, false, false, false] rfl rfl (by kernel_rfl) (fun _ _ _ h => h) (Or.inl ⟨by rfl, ?_⟩) hHeld ?_ ?_
    rotate_left
    ·rintro w' ⟨s0, s1, s2, s3, s4, s5, s6⟩
     go_simp
     with_reducible rfl
    rotate_left
    ·simp only [Act.put, List.setIfInBounds_toArray, List.set_cons_zero, List.set_cons_succ, i64_w, i32_w]
     rfl
    refine one_ (i := 8) (N := some 161) #[true, true, true, true, true, true, true, true, true, false, false, false, false, false, false, false, false, false, false, false, false, false, false, false, false, false, false, false, false, false, false, false, false, false, false, false] rfl rfl (by kernel_rfl) (by decide) (fun K hK => ?_)
    refine goes_ Tryd.func14 (by kernel_rfl) rfl #[.agg #[.slice A12 bn.length c12, .slice A13 bt.length c13], .agg #[.slice A14 bn.length c14, .slice A15 bt.length c15]] (by rfl) rfl rfl (by simp only [List.map_toArray, List.map_cons, List.map_nil]; rfl) ?_
    with_reducible refine (bsame13_calls _ _ _ _ _ bn bn bt bt _ HS.out.lt (HS.out.ro 4 rfl) (HS.out.ro 5 rfl) (HS.out.ro 7 rfl) (HS.out.ro 8 rfl)).mono ?_
    rintro e wc2 ⟨rfl, hb⟩
    refine ⟨_, rfl, ?_⟩
    rw [HSM.out]
    have hs := HS.out.call hb
    clear hb
    clear HS; have HS := Aside0.mk hs; clear hs
    refine hK.out _ _ ⟨((HS.out.box 0 rfl).cell 0 rfl), ((HS.out.box 0 rfl).cell 1 rfl), ((HS.out.box 0 rfl).cell 2 rfl), ((HS.out.box 6 rfl).cell 0 rfl), ((HS.out.box 6 rfl).cell 1 rfl), ((HS.out.box 9 rfl).cell 0 rfl), ((HS.out.box 9 rfl).cell 1 rfl)⟩ (fun hHeld => ?_)
    clear hK K
    refine norm_ (a' := ?_) ?_ ?_
    rotate_left
    ·show Act.put _ (some 161) _ = _
     simp only [Act.put, List.setIfInBounds_toArray, List.set_cons_zero, List.set_cons_succ, i64_w, i32_w]
     rfl
    refine pure_ (i := 9) (N := some 162) (v := ?_) (a' := ?_) #[true, true, true, true, true, true, true, true, true, true, false, false, false, false, false, false, false, false, false, false, false, false, false, false, false, false, false, false, false, false, false, false, false, false, false, false] rfl rfl (by kernel_rfl) (fun _ _ _ h => h) (Or.inl ⟨by rfl, ?_⟩) ?_ ?_
    rotate_left
    ·intro w'
     go_simp
     with_reducible rfl
    rotate_left
    ·simp only [Act.put, List.setIfInBounds_toArray, List.set_cons_zero, List.set_cons_succ, i64_w, i32_w]
     rfl
    refine pure_ (i := 10) (N := some 163) (v := ?_) (a' := ?_) #[true, true, true, true, true, true, true, true, true, true, true, false, false, false, false, false, false, false, false, false, false, false, false, false, false, false, false, false, false, false, false, false, false, false, false, false] rfl rfl (by kernel_rfl) (fun _ _ _ h => h) (Or.inl ⟨by rfl, ?_⟩) ?_ ?_
    rotate_left
    ·intro w'
     go_simp
     with_reducible rfl
    rotate_left
    ·simp only [Act.put, List.setIfInBounds_toArray, List.set_cons_zero, List.set_cons_succ, i64_w, i32_w]
     rfl
    refine pure_ (i := 11) (N := some 164) (v := ?_) (a' := ?_) #[true, true, true, true, true, true, true, true, true, true, true, true, false, false, false, false, false, false, false, false, false, false, false, false, false, false, false, false, false, false, false, false, false, false, false, false] rfl rfl (by kernel_rfl) (fun _ _ _ h => h) (Or.inl ⟨by rfl, ?_⟩) ?_ ?_
    rotate_left
    ·intro w'
     go_simp
     with_reducible rfl
    rotate_left
    ·simp only [Act.put, List.setIfInBounds_toArray, List.set_cons_zero, List.set_cons_succ, i64_w, i32_w]
     rfl
    refine pure_ (i := 12) (N := some 165) (v := ?_) (a' := ?_) #[true, true, true, true, true, true, true, true, true, true, true, true, true, false, false, false, false, false, false, false, false, false, false, false, false, false, false, false, false, false, false, false, false, false, false, false] rfl rfl (by kernel_rfl) (fun _ _ _ h => h) (Or.inl ⟨by rfl, ?_⟩) ?_ ?_
    rotate_left
    ·intro w'
     go_simp
     with_reducible rfl
    rotate_left
    ·simp only [Act.put, List.setIfInBounds_toArray, List.set_cons_zero, List.set_cons_succ, i64_w, i32_w]
     rfl
    refine pure_ (i := 13) (N := some 166) (v := ?_) (a' := ?_) #[true, true, true, true, true, true, true, true, true, true, true, true, true, true, false, false, false, false, false, false, false, false, false, false, false, false, false, false, false, false, false, false, false, false, false, false] rfl rfl (by kernel_rfl) (fun _ _ _ h => h) (Or.inl ⟨by rfl, ?_⟩) ?_ ?_
    rotate_left
    ·intro w'
     go_simp
     with_reducible rfl
    rotate_left
    ·simp only [Act.put, List.setIfInBounds_toArray, List.set_cons_zero, List.set_cons_succ, i64_w, i32_w]
     rfl
    refine pure_ (i := 14) (N := some 167) (v := ?_) (a' := ?_) #[true, true, true, true, true, true, true, true, true, true, true, true, true, true, true, false, false, false, false, false, false, false, false, false, false, false, false, false, false, false, false, false, false, false, false, false] rfl rfl (by kernel_rfl) (fun _ _ _ h => h) (Or.inl ⟨by rfl, ?_⟩) ?_ ?_
    rotate_left
    ·intro w'
     go_simp
     with_reducible rfl
    rotate_left
    ·simp only [Act.put, List.setIfInBounds_toArray, List.set_cons_zero, List.set_cons_succ, i64_w, i32_w]
     rfl
    refine pure_ (i := 15) (N := some 168) (v := ?_) (a' := ?_) #[true, true, true, true, true, true, true, true, true, true, true, true, true, true, true, true, false, false, false, false, false, false, false, false, false, false, false, false, false, false, false, false, false, false, false, false] rfl rfl (by kernel_rfl) (fun _ _ _ h => h) (Or.inl ⟨by rfl, ?_⟩) ?_ ?_
    rotate_left
    ·intro w'
     go_simp
     with_reducible rfl
    rotate_left
    ·simp only [Act.put, List.setIfInBounds_toArray, List.set_cons_zero, List.set_cons_succ, i64_w, i32_w]
     rfl
    refine pure_ (i := 16) (N := some 169) (v := ?_) (a' := ?_) #[true, true, true, true, true, true, true, true, true, true, true, true, true, true, true, true, true, false, false, false, false, false, false, false, false, false, false, false, false, false, false, false, false, false, false, false] rfl rfl (by kernel_rfl) (fun _ _ _ h => h) (Or.inl ⟨by rfl, ?_⟩) ?_ ?_
    rotate_left
    ·intro w'
     go_simp
     with_reducible rfl
    rotate_left
    ·simp only [Act.put, List.setIfInBounds_toArray, List.set_cons_zero, List.set_cons_succ, i64_w, i32_w]
     rfl
    refine pure_ (i := 17) (N := some 170) (v := ?_) (a' := ?_) #[true, true, true, true, true, true, true, true, true, true, true, true, true, true, true, true, true, true, false, false, false, false, false, false, false, false, false, false, false, false, false, false, false, false, false, false] rfl rfl (by kernel_rfl) (fun _ _ _ h => h) (Or.inl ⟨by rfl, ?_⟩) ?_ ?_
    rotate_left
    ·intro w'
     go_simp
     with_reducible rfl
    rotate_left
    ·simp only [Act.put, List.setIfInBounds_toArray, List.set_cons_zero, List.set_cons_succ, i64_w, i32_w]
     rfl
    refine pure_ (i := 18) (N := some 171) (v := ?_) (a' := ?_) #[true, true, true, true, true, true, true, true, true, true, true, true, true, true, true, true, true, true, true, false, false, false, false, false, false, false, false, false, false, false, false, false, false, false, false, false] rfl rfl (by kernel_rfl) (fun _ _ _ h => h) (Or.inl ⟨by rfl, ?_⟩) ?_ ?_
    rotate_left
    ·intro w'
     go_simp
     with_reducible rfl
    rotate_left
    ·simp only [Act.put, List.setIfInBounds_toArray, List.set_cons_zero, List.set_cons_succ, i64_w, i32_w]
     rfl
    refine pure_ (i := 19) (N := some 172) (v := ?_) (a' := ?_) #[true, true, true, true, true, true, true, true, true, true, true, true, true, true, true, true, true, true, true, true, false, false, false, false, false, false, false, false, false, false, false, false, false, false, false, false] rfl rfl (by kernel_rfl) (fun _ _ _ h => h) (Or.inl ⟨by rfl, ?_⟩) ?_ ?_
    rotate_left
    ·intro w'
     go_simp
     with_reducible rfl
    rotate_left
    ·simp only [Act.put, List.setIfInBounds_toArray, List.set_cons_zero, List.set_cons_succ, i64_w, i32_w]
     rfl
    refine pure_ (i := 20) (N := some 173) (v := ?_) (a' := ?_) #[true, true, true, true, true, true, true, true, true, true, true, true, true, true, true, true, true, true, true, true, true, false, false, false, false, false, false, false, false, false, false, false, false, false, false, false] rfl rfl (by kernel_rfl) (fun _ _ _ h => h) (Or.inl ⟨by rfl, ?_⟩) ?_ ?_
    rotate_left
    ·intro w'
     go_simp
     with_reducible rfl
    rotate_left
    ·simp only [Act.put, List.setIfInBounds_toArray, List.set_cons_zero, List.set_cons_succ, i64_w, i32_w]
     rfl
    refine pure_ (i := 21) (N := some 174) (v := ?_) (a' := ?_) #[true, true, true, true, true, true, true, true, true, true, true, true, true, true, true, true, true, true, true, true, true, true, false, false, false, false, false, false, false, false, false, false, false, false, false, false] rfl rfl (by kernel_rfl) (fun _ _ _ h => h) (Or.inl ⟨by rfl, ?_⟩) ?_ ?_
    rotate_left
    ·intro w'
     go_simp
     with_reducible rfl
    rotate_left
    ·simp only [Act.put, List.setIfInBounds_toArray, List.set_cons_zero, List.set_cons_succ, i64_w, i32_w]
     rfl
    refine pure_ (i := 22) (N := some 175) (v := ?_) (a' := ?_) #[true, true, true, true, true, true, true, true, true, true, true, true, true, true, true, true, true, true, true, true, true, true, true, false, false, false, false, false, false, false, false, false, false, false, false, false] rfl rfl (by kernel_rfl) (fun _ _ _ h => h) (Or.inl ⟨by rfl, ?_⟩) ?_ ?_
    rotate_left
    ·intro w'
     go_simp
     with_reducible rfl
    rotate_left
    ·simp only [Act.put, List.setIfInBounds_toArray, List.set_cons_zero, List.set_cons_succ, i64_w, i32_w]
     rfl
    refine pure_ (i := 23) (N := some 176) (v := ?_) (a' := ?_) #[true, true, true, true, true, true, true, true, true, true, true, true, true, true, true, true, true, true, true, true, true, true, true, true, false, false, false, false, false, false, false, false, false, false, false, false] rfl rfl (by kernel_rfl) (fun _ _ _ h => h) (Or.inl ⟨by rfl, ?_⟩) ?_ ?_
    rotate_left
    ·intro w'
     go_simp
     with_reducible rfl
    rotate_left
    ·simp only [Act.put, List.setIfInBounds_toArray, List.set_cons_zero, List.set_cons_succ, i64_w, i32_w]
     rfl
    refine pure_ (i := 24) (N := some 177) (v := ?_) (a' := ?_) #[true, true, true, true, true, true, true, true, true, true, true, true, true, true, true, true, true, true, true, true, true, true, true, true, true, false, false, false, false, false, false, false, false, false, false, false] rfl rfl (by kernel_rfl) (fun _ _ _ h => h) (Or.inl ⟨by rfl, ?_⟩) ?_ ?_
    rotate_left
    ·intro w'
     go_simp
     with_reducible rfl
    rotate_left
    ·simp only [Act.put, List.setIfInBounds_toArray, List.set_cons_zero, List.set_cons_succ, i64_w, i32_w]
     rfl
    refine pure_ (i := 25) (N := some 178) (v := ?_) (a' := ?_) #[true, true, true, true, true, true, true, true, true, true, true, true, true, true, true, true, true, true, true, true, true, true, true, true, true, true, false, false, false, false, false, false, false, false, false, false] rfl rfl (by kernel_rfl) (fun _ _ _ h => h) (Or.inl ⟨by rfl, ?_⟩) ?_ ?_
    rotate_left
    ·intro w'
     go_simp
     with_reducible rfl
    rotate_left
    ·simp only [Act.put, List.setIfInBounds_toArray, List.set_cons_zero, List.set_cons_succ, i64_w, i32_w]
     rfl
    refine pure_ (i := 26) (N := some 179) (v := ?_) (a' := ?_) #[true, true, true, true, true, true, true, true, true, true, true, true, true, true, true, true, true, true, true, true, true, true, true, true, true, true, true, false, false, false, false, false, false, false, false, false] rfl rfl (by kernel_rfl) (fun _ _ _ h => h) (Or.inl ⟨by rfl, ?_⟩) ?_ ?_
    rotate_left
    ·intro w'
     go_simp
     with_reducible rfl
    rotate_left
    ·simp only [Act.put, List.setIfInBounds_toArray, List.set_cons_zero, List.set_cons_succ, i64_w, i32_w]
     rfl
    refine pure_ (i := 28) (N := some 181) (v := ?_) (a' := ?_) #[true, true, true, true, true, true, true, true, true, true, true, true, true, true, true, true, true, true, true, true, true, true, true, true, true, true, true, false, true, false, false, false, false, false, false, false] rfl rfl (by kernel_rfl) (fun _ _ _ h => h) (Or.inl ⟨by rfl, ?_⟩) ?_ ?_
    rotate_left
    ·intro w'
     go_simp
     with_reducible rfl
    rotate_left
    ·simp only [Act.put, List.setIfInBounds_toArray, List.set_cons_zero, List.set_cons_succ, i64_w, i32_w]
     rfl
    refine pure_ (i := 31) (N := some 184) (v := ?_) (a' := ?_) #[true, true, true, true, true, true, true, true, true, true, true, true, true, true, true, true, true, true, true, true, true, true, true, true, true, true, true, false, true, false, false, true, false, false, false, false] rfl rfl (by kernel_rfl) (fun _ _ _ h => h) (Or.inl ⟨by rfl, ?_⟩) ?_ ?_
    rotate_left
    ·intro w'
     go_simp
     with_reducible rfl
    rotate_left
    ·simp only [Act.put, List.setIfInBounds_toArray, List.set_cons_zero, List.set_cons_succ, i64_w, i32_w]
     rfl
    refine take_ (i := 27) (N := some 180) (v := ?_) (a' := ?_) #[true, true, true, true, true, true, true, true, true, true, true, true, true, true, true, true, true, true, true, true, true, true, true, true, true, true, true, true, true, false, false, true, false, false, false, false] rfl rfl (by kernel_rfl) (fun _ _ _ h => h) (Or.inl ⟨by rfl, ?_⟩) hHeld ?_ ?_
    rotate_left
    ·rintro w' ⟨s0, s1, s2, s3, s4, s5, s6⟩
     go_simp
     with_reducible rfl
    rotate_left
    ·simp only [Act.put, List.setIfInBounds_toArray, List.set_cons_zero, List.set_cons_succ, i64_w, i32_w]
     rfl
    refine take_ (i := 30) (N := some 183) (v := ?_) (a' := ?_) #[true, true, true, true, true, true, true, true, true, true, true, true, true, true, true, true, true, true, true, true, true, true, true, true, true, true, true, true, true, false, true, true, false, false, false, false] rfl rfl (by kernel_rfl) (fun _ _ _ h => h) (Or.inl ⟨by rfl, ?_⟩) hHeld ?_ ?_
    rotate_left
    ·rintro w' ⟨s0, s1, s2, s3, s4, s5, s6⟩
     go_simp
     with_reducible rfl
    rotate_left
    ·simp only [Act.put, List.setIfInBounds_toArray, List.set_cons_zero, List.set_cons_succ, i64_w, i32_w]
     rfl
    refine one_ (i := 29) (N := some 182) #[true, true, true, true, true, true, true, true, true, true, true, true, true, true, true, true, true, true, true, true, true, true, true, true, true, true, true, true, true, true, true, true, false, false, false, false] rfl rfl (by kernel_rfl) (by decide) (fun K hK => ?_)
    refine goes_ Tryd.func20 (by kernel_rfl) rfl #[.agg #[.slice B6 Cc.length d6, .slice B7 Gc.length d7, .slice B8 Tc.length d8], .slice As s.length cs] (by rfl) rfl rfl (by simp only [List.map_toArray, List.map_cons, List.map_nil]; rfl) ?_
    with_reducible refine (csteps_calls _ _ _ _ _ Cc Gc Tc s _ HS.out.lt (HS.out.ro 1 rfl) (HS.out.ro 3 rfl) (HS.out.ro 2 rfl) (HS.out.arg H5.out) HCU.out HU.out).mono ?_
    rintro e we ⟨rfl, hb⟩
    refine ⟨_, rfl, ?_⟩
    rw [HZ.out]
    have hs := HS.out.call hb
    clear hb
    clear HS; have HS := Aside0.mk hs; clear hs
    refine hK.out _ _ ⟨((HS.out.box 0 rfl).cell 0 rfl), ((HS.out.box 0 rfl).cell 1 rfl), ((HS.out.box 0 rfl).cell 2 rfl), ((HS.out.box 6 rfl).cell 0 rfl), ((HS.out.box 6 rfl).cell 1 rfl), ((HS.out.box 9 rfl).cell 0 rfl), ((HS.out.box 9 rfl).cell 1 rfl)⟩ (fun hHeld => ?_)
    clear hK K
    refine norm_ (a' := ?_) ?_ ?_
    rotate_left
    ·show Act.put _ (some 182) _ = _
     simp only [Act.put, List.setIfInBounds_toArray, List.set_cons_zero, List.set_cons_succ, i64_w, i32_w]
     rfl
    refine one_ (i := 32) (N := some 185) #[true, true, true, true, true, true, true, true, true, true, true, true, true, true, true, true, true, true, true, true, true, true, true, true, true, true, true, true, true, true, true, true, true, false, false, false] rfl rfl (by kernel_rfl) (by decide) (fun K hK => ?_)
    refine goes_ Tryd.func21 (by kernel_rfl) rfl #[.agg #[.slice B6 Cc.length d6, .slice B7 Gc.length d7, .slice B8 Tc.length d8], .slice As s.length cs] (by rfl) rfl rfl (by simp only [List.map_toArray, List.map_cons, List.map_nil]; rfl) ?_
    with_reducible refine (steps14_calls _ _ _ _ _ Cc Gc Tc s _ HS.out.lt (HS.out.ro 1 rfl) (HS.out.ro 3 rfl) (HS.out.ro 2 rfl) (HS.out.arg H5.out) HCU.out HU.out).mono ?_
    rintro e wf ⟨rfl, hb⟩
    refine ⟨_, rfl, ?_⟩
    rw [HZ.out]
    have hs := HS.out.call hb
    clear hb
    clear HS; have HS := Aside0.mk hs; clear hs
    refine hK.out _ _ ⟨((HS.out.box 0 rfl).cell 0 rfl), ((HS.out.box 0 rfl).cell 1 rfl), ((HS.out.box 0 rfl).cell 2 rfl), ((HS.out.box 6 rfl).cell 0 rfl), ((HS.out.box 6 rfl).cell 1 rfl), ((HS.out.box 9 rfl).cell 0 rfl), ((HS.out.box 9 rfl).cell 1 rfl)⟩ (fun hHeld => ?_)
    clear hK K
    refine norm_ (a' := ?_) ?_ ?_
    rotate_left
    ·show Act.put _ (some 185) _ = _
     simp only [Act.put, List.setIfInBounds_toArray, List.set_cons_zero, List.set_cons_succ, i64_w, i32_w]
     rfl
    refine pure_ (i := 33) (N := some 186) (v := ?_) (a' := ?_) #[true, true, true, true, true, true, true, true, true, true, true, true, true, true, true, true, true, true, true, true, true, true, true, true, true, true, true, true, true, true, true, true, true, true, false, false] rfl rfl (by kernel_rfl) (fun _ _ _ h => h) (Or.inl ⟨by rfl, ?_⟩) ?_ ?_
    rotate_left
    ·intro w'
     go_simp
     with_reducible rfl
    rotate_left
    ·simp only [Act.put, List.setIfInBounds_toArray, List.set_cons_zero, List.set_cons_succ, i64_w, i32_w]
     rfl
    refine pure_ (i := 34) (N := some 187) (v := ?_) (a' := ?_) #[true, true, true, true, true, true, true, true, true, true, true, true, true, true, true, true, true, true, true, true, true, true, true, true, true, true, true, true, true, true, true, true, true, true, true, false] rfl rfl (by kernel_rfl) (fun _ _ _ h => h) (Or.inl ⟨by rfl, ?_⟩) ?_ ?_
    rotate_left
    ·intro w'
     go_simp
     with_reducible rfl
    rotate_left
    ·simp only [Act.put, List.setIfInBounds_toArray, List.set_cons_zero, List.set_cons_succ, i64_w, i32_w]
     rfl
    refine pure_ (i := 35) (N := some 18) (v := ?_) (a' := ?_) #[true, true, true, true, true, true, true, true, true, true, true, true, true, true, true, true, true, true, true, true, true, true, true, true, true, true, true, true, true, true, true, true, true, true, true, true] rfl rfl (by kernel_rfl) (fun _ _ _ h => h) (Or.inl ⟨by rfl, ?_⟩) ?_ ?_
    rotate_left
    ·intro w'
     go_simp
     with_reducible rfl
    rotate_left
    ·simp only [Act.put, List.setIfInBounds_toArray, List.set_cons_zero, List.set_cons_succ, i64_w, i32_w]
     rfl
    refine done_ (by kernel_rfl) ?_
    go_wp2_with fail
    go_ret
    exact ⟨congrArg (fun b => Ending.returned (Value.bool b)) (show (_ : Bool) = true by first | rfl | (show (wrap64 0 == 0) = true; decide +kernel) | (show (wrap64 1 == 1) = true; decide +kernel)), HS.out.below⟩
end Go.Proofs.YtfbfeimildkigaaDoor.P
