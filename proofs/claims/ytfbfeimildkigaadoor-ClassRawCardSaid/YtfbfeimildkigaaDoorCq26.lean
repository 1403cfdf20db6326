/- Part 26 of the proof: T12, S14g, T13. -/
import Derived.Test.YtfbfeimildkigaaDoorCq25
namespace Go.Proofs.YtfbfeimildkigaaDoor.P
open Go Go.RowKit Go.Proofs.YtfbfeimildkigaaDoorW.PrintWords Go.Proofs.YtfbfeimildkigaaDoorW.PrintLast Go.Proofs.YtfbfeimildkigaaDoorW.PrintMore Go.Proofs.YtfbfeimildkigaaDoor.PX
set_option linter.unusedVariables false
set_option linter.unusedSimpArgs false
set_option maxRecDepth 100000
theorem kC_u8 : U8s kC := by unfold U8s; decide +kernel
theorem ab_u8 : U8s [97, 98] := by unfold U8s; decide
theorem abc_u8 : U8s [97, 98, 99] := by unfold U8s; decide
theorem nil_u8 : U8s [] := fun _ h => by cases h
theorem PV.lenlit {α : Type} {d : Kd α} {X : Nat → Prop} {w : World} {v : Value} {xs : List α} (h : PV d X w v xs) (n : Nat) (hn : xs.length = n) : ∃ A c, v = .slice A n c := by
  obtain ⟨A, c, e, _⟩ := h
  exact ⟨A, c, by rw [e, hn]⟩
section
variable (X : Nat → Prop) (w : World) (hX : ∀ k, X k → k < w.heap.size)
include hX
theorem k1_calls (vp vn vt : Value) (hp : PV kSps X w vp kP) (hn : PV kRow X w vn kN0) (ht : PV kInt X w vt kT) :
    Calls Tryd.prog 23 #[.agg #[vp, vn, vt]] w fun e w' => ∃ v0 v1, e = .returned (.tuple #[.agg #[v0, v1], .int .i64 0]) ∧ PV kRow X w' v0 kN ∧ PV kInt X w' v1 kT ∧ Below w.heap.size w w' := by
  have h := of13_calls X vp vn vt kP kN0 kT w hX hp hn ht (fun p hp => (k_part p hp).1) (fun _ => ⟨k_uni1, by rw [k_least]; exact k_part, by rw [k_least]; decide⟩) 5 (by decide) kK (fun _ _ => by rw [k_least]; exact k_ok)
  rw [k_of13] at h
  exact h
theorem k2_calls (vn vt : Value) (hn : PV kRow X w vn kN) (ht : PV kInt X w vt kT) :
    Calls Tryd.prog 9 #[.agg #[vn, vt]] w fun e w' => ∃ v0 v1 v2, e = .returned (.tuple #[.agg #[v0, v1, v2], .int .u16 0]) ∧ PV kU8 X w' v0 kC ∧ PV kRow X w' v1 kTN ∧ PV kInt X w' v2 kT ∧ Below w.heap.size w w' := by
  have h := cof_calls X vn vt kN kT w hX hn ht
  rw [k_of14] at h
  exact h
variable (vc vn vt : Value) (hc : PV kU8 X w vc kC) (hn : PV kRow X w vn kTN) (ht : PV kInt X w vt kT)
include hc hn ht
theorem k3_calls : Calls Tryd.prog 11 #[.agg #[vc, vn, vt]] w fun e w' => ∃ v0 v1, e = .returned (.tuple #[.agg #[v0, v1], .int .u16 0]) ∧ PV kRow X w' v0 kN ∧ PV kInt X w' v1 kT ∧ Below w.heap.size w w' := by
  have h := cback_calls X vc vn vt kC kTN kT w hX hc hn ht kC_u8
  rw [k_back] at h
  exact h
theorem k4_calls (vs : Value) (hs : PV kU8 X w vs [97, 98]) : Calls Tryd.prog 17 #[.agg #[vc, vn, vt], vs] w fun e w' => e = .returned (.tuple #[.int .i64 1, .int .i64 0]) ∧ Below w.heap.size w w' := by
  have h := clong_calls X vc vn vt vs kC kTN kT [97, 98] w hX hc hn ht hs kC_u8 ab_u8
  rw [k_long] at h
  exact h
theorem k5_calls (vs : Value) (hs : PV kU8 X w vs [97, 98, 99]) : Calls Tryd.prog 20 #[.agg #[vc, vn, vt], vs] w fun e w' => e = .returned (.int .i64 2) ∧ Below w.heap.size w w' := by
  have h := csteps_calls X vc vn vt vs kC kTN kT [97, 98, 99] w hX hc hn ht hs kC_u8 abc_u8
  rw [k_steps] at h
  exact h
theorem k6_calls : Calls Tryd.prog 15 #[.agg #[vc, vn, vt]] w fun e w' => e = .returned (.bool true) ∧ Below w.heap.size w w' := by
  have h := csound_calls X vc vn vt kC kTN kT w hX hc hn ht kC_u8
  rw [decide_eq_true k_tsound] at h
  exact h
end
theorem k7_calls (w : World) : Calls Tryd.prog 15 #[.agg #[.slice none 0 0, .slice none 0 0, .slice none 0 0]] w fun e w' => e = .returned (.bool false) ∧ Below w.heap.size w w' := by
  have h := csound_calls (fun _ => False) _ _ _ [] [] [] w (fun _ h => h.elim) (PV.nil _ _ _) (PV.nil _ _ _) (PV.nil _ _ _) nil_u8
  rw [decide_eq_false k_not] at h
  exact h
theorem k8_calls (X : Nat → Prop) (w : World) (hX : ∀ k, X k → k < w.heap.size) (va vs vb vt : Value) (hna : PV kRow X w va kN) (hta : PV kInt X w vs kT) (hnb : PV kRow X w vb kN) (htb : PV kInt X w vt kT) :
    Calls Tryd.prog 14 #[.agg #[va, vs], .agg #[vb, vt]] w fun e w' => e = .returned (.bool true) ∧ Below w.heap.size w w' := by
  have h := bsame13_calls X va vs vb vt kN kN kT kT w hX hna hta hnb htb
  rw [decide_eq_true ⟨rfl, rfl⟩] at h
  exact h
set_option maxHeartbeats 16000000 in
theorem known14_calls (w : World) : Calls Tryd.prog 12 #[] w fun e w' => e = .returned (.bool true) ∧ Below w.heap.size w w' := by
  have HS := Aside0.mk (Sep.start (X := fun _ => False) (w0 := w) (fun _ h => h.elim))
  go_enter Tryd.func12, Tryd.ntmps12
  go_wp2_with (first
    | ((with_reducible refine gate_dst (N := 11) rfl ?_); refine slit kSp 67 ?hg (N := 11) ?hd (xs := [(⟨97, 97⟩ : Sp)]) (inner := [.int .i64 97, .int .i64 97]) ?hr HS.out ?hp (by simp) ?_; (case hd => rfl); (case hg => rfl); (case hr => first | (go_simp; done) | (go_simp; rfl)); (case hp => exact sp_rep _ _ 97 97); clear HS; intro v30 w30 hs; simp only [List.nil_append, List.cons_append] at hs; obtain ⟨A0, c0, e0⟩ := hs.rform 0 rfl; subst e0; have HS := Aside0.mk hs; clear hs)
    | ((with_reducible refine gate_dst (N := 12) rfl ?_); refine slit kSps 68 ?hg (N := 12) ?hd (xs := [[(⟨97, 97⟩ : Sp)]]) (inner := [.slice A0 1 c0]) ?hr HS.out ?hp (by simp) ?_; (case hd => rfl); (case hg => rfl); (case hr => first | (go_simp; done) | (go_simp; rfl)); (case hp => exact Reps.one (PK.slice (HS.out.ro 0 rfl)) (Reps.none _ _)); clear HS; intro v30 w30 hs; simp only [List.nil_append, List.cons_append] at hs; obtain ⟨A1, c1, e1⟩ := hs.rform 1 rfl; subst e1; have HS := Aside0.mk hs; clear hs)
    | ((with_reducible refine gate_dst (N := 13) rfl ?_); refine slit kInt 3 ?hg (N := 13) ?hd (xs := [(1 : Int)]) (inner := [.int .i64 1]) ?hr HS.out ?hp (by simp) ?_; (case hd => rfl); (case hg => rfl); (case hr => first | (go_simp; done) | (go_simp; rfl)); (case hp => exact Reps.one (PK.scalar _) (Reps.none _ _)); clear HS; intro v30 w30 hs; simp only [List.nil_append, List.cons_append] at hs; obtain ⟨A2, c2, e2⟩ := hs.rform 2 rfl; subst e2; have HS := Aside0.mk hs; clear hs)
    | ((with_reducible refine gate_dst (N := 14) rfl ?_); refine slit kInt 3 ?hg (N := 14) ?hd (xs := [(-1 : Int)]) (inner := [.int .i64 (-1)]) ?hr HS.out ?hp (by simp) ?_; (case hd => rfl); (case hg => rfl); (case hr => first | (go_simp; done) | (go_simp; rfl)); (case hp => exact Reps.one (PK.scalar _) (Reps.none _ _)); clear HS; intro v30 w30 hs; simp only [List.nil_append, List.cons_append] at hs; obtain ⟨A3, c3, e3⟩ := hs.rform 3 rfl; subst e3; have HS := Aside0.mk hs; clear hs)
    | ((with_reducible refine gate_dst (N := 15) rfl ?_); refine slit kRow 25 ?hg (N := 15) ?hd (xs := [[(1 : Int)], [(-1 : Int)]]) (inner := [.slice A2 1 c2, .slice A3 1 c3]) ?hr HS.out ?hp (by simp) ?_; (case hd => rfl); (case hg => rfl); (case hr => first | (go_simp; done) | (go_simp; rfl)); (case hp => exact Reps.one (PK.slice (HS.out.ro 2 rfl)) (Reps.one (PK.slice (HS.out.ro 3 rfl)) (Reps.none _ _))); clear HS; intro v30 w30 hs; simp only [List.nil_append, List.cons_append] at hs; obtain ⟨A4, c4, e4⟩ := hs.rform 4 rfl; subst e4; have HS := Aside0.mk hs; clear hs)
    | ((with_reducible refine gate_dst (N := 16) rfl ?_); refine slit kInt 3 ?hg (N := 16) ?hd (xs := [(-1 : Int), 0]) (inner := [.int .i64 (-1), .int .i64 0]) ?hr HS.out ?hp (by simp) ?_; (case hd => rfl); (case hg => rfl); (case hr => first | (go_simp; done) | (go_simp; rfl)); (case hp => exact Reps.one (PK.scalar _) (Reps.one (PK.scalar _) (Reps.none _ _))); clear HS; intro v30 w30 hs; simp only [List.nil_append, List.cons_append] at hs; obtain ⟨A5, c5, e5⟩ := hs.rform 5 rfl; subst e5; have HS := Aside0.mk hs; clear hs)
    | (go_at_call 23; (refine (k1_calls _ _ HS.out.lt _ _ _ (HS.out.ro 1 rfl) (HS.out.ro 4 rfl) (HS.out.ro 5 rfl)).mono ?_); rintro ee w5 ⟨v0, v1, rfl, h0, h1, hb⟩; obtain ⟨A6, c6, e6⟩ := PV.lenlit h0 2 rfl; subst e6; obtain ⟨A7, c7, e7⟩ := PV.lenlit h1 2 rfl; subst e7; have hs := ((HS.out.push_ro hb h0).push_ro (Below.refl _ _) (h1.to (fun _ _ h => Ys_ro h))).push_box [.slice A6 2 c6, .slice A7 2 c7] 27; simp only [List.nil_append, List.cons_append] at hs; clear h0 h1 hb; have xb0 := (hs.box 8 rfl).cell 0 rfl; have xb1 := (hs.box 8 rfl).cell 1 rfl; clear HS; have HS := Aside0.mk hs; clear hs)
    | (go_at_call 9; (refine (k2_calls _ _ HS.out.lt _ _ (HS.out.ro 6 rfl) (HS.out.ro 7 rfl)).mono ?_); rintro ee w6 ⟨v0, v1, v2, rfl, h0, h1, h2, hb⟩; obtain ⟨A9, c9, e9⟩ := PV.lenlit h0 256 rfl; subst e9; obtain ⟨A10, c10, e10⟩ := PV.lenlit h1 2 rfl; subst e10; obtain ⟨A11, c11, e11⟩ := PV.lenlit h2 2 rfl; subst e11; have hs := (((HS.out.push_ro hb h0).push_ro (Below.refl _ _) (h1.to (fun _ _ h => Ys_ro h))).push_ro (Below.refl _ _) (h2.to (fun _ _ h => Ys_ro (Ys_ro h)))).push_box [.slice A9 256 c9, .slice A10 2 c10, .slice A11 2 c11] 31; simp only [List.nil_append, List.cons_append] at hs; clear h0 h1 h2 hb xb0 xb1; have xt0 := (hs.box 12 rfl).cell 0 rfl; have xt1 := (hs.box 12 rfl).cell 1 rfl; have xt2 := (hs.box 12 rfl).cell 2 rfl; clear HS; have HS := Aside0.mk hs; clear hs)
    | (go_at_call 11; (refine (k3_calls _ _ HS.out.lt _ _ _ (HS.out.ro 9 rfl) (HS.out.ro 10 rfl) (HS.out.ro 11 rfl)).mono ?_); rintro ee w7 ⟨v0, v1, rfl, h0, h1, hb⟩; obtain ⟨A13, c13, e13⟩ := PV.lenlit h0 2 rfl; subst e13; obtain ⟨A14, c14, e14⟩ := PV.lenlit h1 2 rfl; subst e14; have hs := ((HS.out.push_ro hb h0).push_ro (Below.refl _ _) (h1.to (fun _ _ h => Ys_ro h))).push_box [.slice A13 2 c13, .slice A14 2 c14] 27; simp only [List.nil_append, List.cons_append] at hs; clear h0 h1 hb xt0 xt1 xt2; have xt0 := (hs.box 12 rfl).cell 0 rfl; have xt1 := (hs.box 12 rfl).cell 1 rfl; have xt2 := (hs.box 12 rfl).cell 2 rfl; have kc2 := Lib.run_convert_bytes_const (P := Tryd.prog) (w7.alloc (.cells #[.slice A13 2 c13, .slice A14 2 c14] 27)) 29 5 #[.int .u8 97, .int .u8 98] 2 2 Tryd.underlying29 Tryd.underlying5; rw [show (w7.alloc (.cells #[.slice A13 2 c13, .slice A14 2 c14] 27)).heap.size = w7.heap.size + 1 by simp] at kc2; clear HS; have HS := Aside0.mk hs; clear hs))
  have hs := HS.out.push_bytes' (w7.heap.size + 1) (by simp) .u8 [97, 98] 5 (2, 3) (by decide)
  simp only [List.nil_append, List.cons_append] at hs
  clear HS xt0 xt1 xt2 kc2
  have HS := Aside0.mk hs
  clear hs
  refine (k4_calls _ _ HS.out.lt _ _ _ (HS.out.ro 9 rfl) (HS.out.ro 10 rfl) (HS.out.ro 11 rfl) _ (HS.out.ro 16 rfl)).mono ?_
  rintro ee w8 ⟨rfl, hb⟩
  have hs := HS.out.call hb
  clear HS hb
  have HS := Aside0.mk hs
  clear hs
  have xt0 := (HS.out.box 12 rfl).cell 0 rfl
  have xt1 := (HS.out.box 12 rfl).cell 1 rfl
  have xt2 := (HS.out.box 12 rfl).cell 2 rfl
  go_wp2_with (first
    | (go_at_call 15; (with_reducible refine (k7_calls _).mono ?_); rintro ee w12 ⟨rfl, hb⟩; have hs := HS.out.call hb; clear hb; clear HS; have HS := Aside0.mk hs; clear hs)
    | (go_at_call 15; (refine (k6_calls _ _ HS.out.lt _ _ _ (HS.out.ro 9 rfl) (HS.out.ro 10 rfl) (HS.out.ro 11 rfl)).mono ?_); rintro ee w9 ⟨rfl, hb⟩; have hs := HS.out.call hb; clear hb xt0 xt1 xt2; have xt0 := (hs.box 12 rfl).cell 0 rfl; have xt1 := (hs.box 12 rfl).cell 1 rfl; have xt2 := (hs.box 12 rfl).cell 2 rfl; have xb0 := (hs.box 8 rfl).cell 0 rfl; have xb1 := (hs.box 8 rfl).cell 1 rfl; have xx0 := (hs.box 15 rfl).cell 0 rfl; have xx1 := (hs.box 15 rfl).cell 1 rfl; obtain ⟨ad, cd, ed, yc⟩ := u8_cell (hs.ro 9 rfl) 97 (by decide +kernel); obtain ⟨ed1, ed2, ed3⟩ := Value.slice.inj ed; clear ed ed2; subst ed1; subst ed3; rw [show kC.getD 97 0 = 1 by decide +kernel, add_pos _ (by decide)] at yc; obtain ⟨an, cn', u, en, hu, yn⟩ := (hs.ro 10 rfl).row 0 (by decide); obtain ⟨en1, en2, en3⟩ := Value.slice.inj en; clear en en2; subst en1; subst en3; obtain ⟨Au, cu, eu⟩ := PV.lenlit hu 2 (by decide +kernel); subst eu; obtain ⟨ar, cr, er, yr⟩ := int_cell hu 1 (by decide +kernel); obtain ⟨er1, er2, er3⟩ := Value.slice.inj er; clear er er2 hu; subst er1; subst er3; rw [show (kTN.getD 0 []).getD 1 0 = 1 by decide +kernel, add_pos _ (by decide)] at yr; change World.cell? _ an = _ at yn; clear HS; have HS := Aside0.mk hs; clear hs)
    | (go_at_call 14; (refine (k8_calls _ _ HS.out.lt _ _ _ _ (HS.out.ro 13 rfl) (HS.out.ro 14 rfl) (HS.out.ro 6 rfl) (HS.out.ro 7 rfl)).mono ?_); rintro ee w10 ⟨rfl, hb⟩; have hs := HS.out.call hb; clear hb xt0 xt1 xt2 xb0 xb1 xx0 xx1 yc yn yr; have xt0 := (hs.box 12 rfl).cell 0 rfl; have xt1 := (hs.box 12 rfl).cell 1 rfl; have xt2 := (hs.box 12 rfl).cell 2 rfl; have kc3 := Lib.run_convert_bytes_const (P := Tryd.prog) w10 29 5 #[.int .u8 97, .int .u8 98, .int .u8 99] 3 3 Tryd.underlying29 Tryd.underlying5; clear HS; have HS := Aside0.mk hs; clear hs)
    | (go_at_call 20; (have hs := HS.out.push_bytes .u8 [97, 98, 99] 5 (3, 4) (by decide); simp only [List.nil_append, List.cons_append] at hs; clear HS xt0 xt1 xt2 kc3; have HS := Aside0.mk hs; clear hs; (refine (k5_calls _ _ HS.out.lt _ _ _ (HS.out.ro 9 rfl) (HS.out.ro 10 rfl) (HS.out.ro 11 rfl) _ (HS.out.ro 17 rfl)).mono ?_); rintro ee w11 ⟨rfl, hb⟩; have hs := HS.out.call hb; clear HS hb; have HS := Aside0.mk hs; clear hs)))
  go_ret
  exact ⟨rfl, HS.out.below⟩
end Go.Proofs.YtfbfeimildkigaaDoor.P
namespace Go.Proofs.YtfbfeimildkigaaDoor.P
open Go Go.RowKit Go.Proofs.YtfbfeimildkigaaDoorW.PrintWords Go.Proofs.YtfbfeimildkigaaDoorW.PrintLast Go.Proofs.YtfbfeimildkigaaDoorW.PrintMore Go.Proofs.YtfbfeimildkigaaDoor.PX
set_option linter.unusedVariables false
set_option linter.unusedSimpArgs false
set_option maxRecDepth 100000
set_option maxHeartbeats 16000000 in
theorem same14_calls (X : Nat → Prop) (va vb vc vd ve vf : Value) (ca cb : List Int) (na nb : List (List Int)) (ta tb : List Int) (w : World) (hX : ∀ k, X k → k < w.heap.size)
    (hca : PV kU8 X w va ca) (hna : PV kRow X w vb na) (hta : PV kInt X w vc ta) (hcb : PV kU8 X w vd cb) (hnb : PV kRow X w ve nb) (htb : PV kInt X w vf tb) (ua : U8s ca) (ub : U8s cb) :
    Calls Tryd.prog 13 #[.agg #[va, vb, vc], .agg #[vd, ve, vf]] w fun e w' => e = .returned (.bool (decide (ca = cb ∧ na = nb ∧ ta = tb))) ∧ Below w.heap.size w w' := by
  have H0 := Aside0.mk hca
  have H1 := Aside0.mk hna
  have H2 := Aside0.mk hta
  have H3 := Aside0.mk hcb
  have H4 := Aside0.mk hnb
  have H5 := Aside0.mk htb
  obtain ⟨A0, c0, rfl, _, _⟩ := hca.now
  obtain ⟨A1, c1, rfl, _, _⟩ := hna.now
  obtain ⟨A2, c2, rfl, _, _⟩ := hta.now
  obtain ⟨A3, c3, rfl, _, _⟩ := hcb.now
  obtain ⟨A4, c4, rfl, _, _⟩ := hnb.now
  obtain ⟨A5, c5, rfl, _, _⟩ := htb.now
  have HS := Aside0.mk (((Sep.start hX).push_box [.slice A0 ca.length c0, .slice A1 na.length c1, .slice A2 ta.length c2] 31).push_box' [.slice A3 cb.length c3, .slice A4 nb.length c4, .slice A5 tb.length c5] 31 (w.heap.size + 1) (by simp))
  have st1 := (HS.out.arg H0.out).str (P := Tryd.prog) Tryd.underlying29 Tryd.underlying5 Tryd.underlying9
  have st2 := (HS.out.arg H3.out).str (P := Tryd.prog) Tryd.underlying29 Tryd.underlying5 Tryd.underlying9
  have HI := Aside0.mk (strOfNums_inj (a := ca) (b := cb) ua ub)
  generalize strOfNums ca = sa at *
  generalize strOfNums cb = sb at *
  clear hca hna hta hcb hnb htb hX
  rcases Decidable.em (ca = cb) with hc | hc
  case inl =>
    have hs : sa = sb := HI.out.2 hc
    obtain ⟨q, hq⟩ : ∃ q, q = decide (na = nb ∧ ta = tb) := ⟨_, rfl⟩
    rw [show decide (ca = cb ∧ na = nb ∧ ta = tb) = q by rw [hq]; simp [hc]]
    have HQ := Aside0.mk hq.symm
    clear hq
    clear hc HI
    subst hs
    go_enter Tryd.func13, Tryd.ntmps13
    go_wp2_with (first
      | (go_at_call 14; (with_reducible refine (bsame13_calls _ _ _ _ _ na nb ta tb _ HS.out.lt (HS.out.arg H1.out) (HS.out.arg H2.out) (HS.out.arg H4.out) (HS.out.arg H5.out)).mono ?_); rintro ee w5 ⟨rfl, hb⟩; rw [HQ.out]; have hs := HS.out.call hb; clear hb; clear HS; have HS := Aside0.mk hs; clear hs))
    go_ret
    exact ⟨rfl, HS.out.below⟩
  case inr =>
    have hs : ¬ sa = sb := fun h => hc (HI.out.1 h)
    have hs2 : ¬ sa.toList = sb.toList := fun h => hs (ByteArray.ext (by rw [ByteArray.toList_eq, ByteArray.toList_eq] at h; exact Array.ext' h))
    have e1 : decide (sa.toList = sb.toList) = false := decide_eq_false hs2
    rw [show decide (ca = cb ∧ na = nb ∧ ta = tb) = false by simp [hc]]
    clear hc HI
    go_enter Tryd.func13, Tryd.ntmps13
    go_wp2_with fail
    go_ret
    exact ⟨rfl, HS.out.below⟩
end Go.Proofs.YtfbfeimildkigaaDoor.P
namespace Go.Proofs.YtfbfeimildkigaaDoor.P
open Go Go.RowKit Go.Proofs.YtfbfeimildkigaaDoorW.PrintWords Go.Proofs.YtfbfeimildkigaaDoorW.PrintLast Go.Proofs.YtfbfeimildkigaaDoorW.PrintMore Go.Proofs.YtfbfeimildkigaaDoor.PX
set_option linter.unusedVariables false
set_option linter.unusedSimpArgs false
set_option maxRecDepth 100000
theorem of14_err (next : List (List Int)) (tags : List Int) : (of14 next tags).2 = 0 ∨ (of14 next tags).2 = 1 := by
  unfold of14
  split
  · exact .inl rfl
  · exact .inr rfl
theorem of14_u8 (next : List (List Int)) (tags : List Int) : U8s (of14 next tags).1.1 := by
  have h := classes_ok next
  unfold of14
  split
  · generalize classesL next = p at h ⊢
    intro c hc
    have h1 := h.of_.2 c hc
    have h2 := h.len
    omega
  · intro c hc; cases hc
theorem PV.form {α : Type} {d : Kd α} {X : Nat → Prop} {w : World} {v : Value} {xs : List α} (h : PV d X w v xs) : ∃ A c, v = .slice A xs.length c := by
  obtain ⟨A, c, e, _⟩ := h
  exact ⟨A, c, e⟩
set_option maxHeartbeats 16000000 in
theorem classRaw_calls (X : Nat → Prop) (vc vn vt un ut vs : Value) (C : List Int) (N : List (List Int)) (T : List Int) (bn : List (List Int)) (bt s : List Int) (w : World) (hX : ∀ k, X k → k < w.heap.size)
    (hc : PV kU8 X w vc C) (hn : PV kRow X w vn N) (ht : PV kInt X w vt T) (hbn : PV kRow X w un bn) (hbt : PV kInt X w ut bt) (hs : PV kU8 X w vs s) (huc : U8s C) (hu : U8s s) :
    Calls Tryd.prog 5 #[.agg #[vc, vn, vt], .agg #[un, ut], vs] w fun e w' => e = .returned (.bool true) ∧ Below w.heap.size w w' := by
  have H0 := Aside0.mk hc
  have H1 := Aside0.mk hn
  have H2 := Aside0.mk ht
  have H3 := Aside0.mk hbn
  have H4 := Aside0.mk hbt
  have H5 := Aside0.mk hs
  have HUC := Aside0.mk huc
  have HU := Aside0.mk hu
  have m0 := hc.max
  have m1 := hn.max
  have m2 := hbn.max
  have m3 := hs.max
  obtain ⟨Ac, cc, rfl, _, _⟩ := hc.now
  obtain ⟨An, cn, rfl, _, _⟩ := hn.now
  obtain ⟨At, ct, rfl, _, _⟩ := ht.now
  obtain ⟨Bn, dn, rfl, _, _⟩ := hbn.now
  obtain ⟨Bt, dt, rfl, _, _⟩ := hbt.now
  obtain ⟨As, cs, rfl, _, _⟩ := hs.now
  have HS := Aside0.mk (((Sep.start hX).push_box [.slice Ac C.length cc, .slice An N.length cn, .slice At T.length ct] 31).push_box' [.slice Bn bn.length dn, .slice Bt bt.length dt] 27 (w.heap.size + 1) (by simp))
  clear hc hn ht hbn hbt hs huc hu hX
  by_cases hh : s.length ≤ 60 ∧ N.length ≤ 30 ∧ bn.length ≤ 10 ∧ C.length ≤ 300
  case neg =>
    rcases Nat.lt_or_ge 60 s.length with h1 | h1
    case' inl =>
      have d1 : decide ((s.length : Int) > 60) = true := decide_eq_true (by omega)
      have d1' : decide (60 < s.length) = true := decide_eq_true h1
    case' inr =>
      have d1 : decide ((s.length : Int) > 60) = false := decide_eq_false (by omega)
      have d1' : decide (60 < s.length) = false := decide_eq_false (by omega)
      rcases Nat.lt_or_ge 30 N.length with h2 | h2
    case' inr.inl =>
      have d2 : decide ((N.length : Int) > 30) = true := decide_eq_true (by omega)
      have d2' : decide (30 < N.length) = true := decide_eq_true h2
    case' inr.inr =>
      have d2 : decide ((N.length : Int) > 30) = false := decide_eq_false (by omega)
      have d2' : decide (30 < N.length) = false := decide_eq_false (by omega)
      rcases Nat.lt_or_ge 10 bn.length with h3 | h3
    case' inr.inr.inl =>
      have d3 : decide ((bn.length : Int) > 10) = true := decide_eq_true (by omega)
      have d3' : decide (10 < bn.length) = true := decide_eq_true h3
    case' inr.inr.inr =>
      have d3 : decide ((bn.length : Int) > 10) = false := decide_eq_false (by omega)
      have d3' : decide (10 < bn.length) = false := decide_eq_false (by omega)
      have d4 : decide ((C.length : Int) > 300) = true := decide_eq_true (by omega)
      have d4' : decide (300 < C.length) = true := decide_eq_true (by omega)
    all_goals
      clear hh
      go_enter Tryd.func5, Tryd.ntmps5
      go_wp2_with (first
        | (go_at_call 12; (with_reducible refine (known14_calls _).mono ?_); rintro ee w5 ⟨rfl, hb⟩; have hs := HS.out.call hb; clear hb; clear HS; have HS := Aside0.mk hs; clear hs))
      go_ret
      exact ⟨rfl, HS.out.below⟩
  case pos =>
    obtain ⟨h1, h2, h3, h4⟩ := hh
    have d1 : decide ((s.length : Int) > 60) = false := decide_eq_false (by omega)
    have d1' : decide (60 < s.length) = false := decide_eq_false (by omega)
    have d2 : decide ((N.length : Int) > 30) = false := decide_eq_false (by omega)
    have d2' : decide (30 < N.length) = false := decide_eq_false (by omega)
    have d3 : decide ((bn.length : Int) > 10) = false := decide_eq_false (by omega)
    have d3' : decide (10 < bn.length) = false := decide_eq_false (by omega)
    have d4 : decide ((C.length : Int) > 300) = false := decide_eq_false (by omega)
    have d4' : decide (300 < C.length) = false := decide_eq_false (by omega)
    have HNL := Aside0.mk h2
    clear h1 h2 h3 h4
    go_enter Tryd.func5, Tryd.ntmps5
    go_wp2_with (first
      | (go_at_call 12; (with_reducible refine (known14_calls _).mono ?_); rintro ee w5 ⟨rfl, hb⟩; have hs := HS.out.call hb; clear hb; clear HS; have HS := Aside0.mk hs; clear hs))
    obtain ⟨g1, hg1⟩ : ∃ g, g = w.heap.size + 1 := ⟨_, rfl⟩
    obtain ⟨g0, hg0⟩ : ∃ g, g = w.heap.size := ⟨_, rfl⟩
    rw [← hg1, ← hg0] at HS ⊢
    clear hg0 hg1 d1 d1' d2 d2' d3 d3' d4 d4'
    go_loopg [7] N.length (fun m v7 w' => ∃ (i : Nat), v7 = .int .i64 i ∧ Aside0 (i + m = N.length) ∧ Aside0 (Sep X w w' [.box g0 31 [.slice Ac C.length cc, .slice An N.length cn, .slice At T.length ct], .box g1 27 [.slice Bn bn.length dn, .slice Bt bt.length dt]]))
    case atStart => exact ⟨0, rfl, ⟨by omega⟩, HS⟩
    case round =>
      clear HS
      obtain ⟨i, rfl, HJ, HS⟩ := hrel
      have y0 := (HS.out.box 0 rfl).cell 1 rfl
      cases gk with
      | zero =>
        have e1 : decide ((i : Int) < (N.length : Int)) = false := decide_eq_false (by have := HJ.out; omega)
        have e2 : decide (i < N.length) = false := decide_eq_false (by have := HJ.out; omega)
        have xb0 := (HS.out.box 1 rfl).cell 0 rfl
        have xb1 := (HS.out.box 1 rfl).cell 1 rfl
        obtain ⟨⟨⟨rc, rn, rt⟩, re⟩, hr⟩ : ∃ r, r = of14 bn bt := ⟨_, rfl⟩
        have HR := Aside0.mk hr.symm
        have HRE := Aside0.mk (show re = 0 ∨ re = 1 by have := of14_err bn bt; rw [← hr] at this; exact this)
        have HRU := Aside0.mk (show U8s rc by have := of14_u8 bn bt; rw [← hr] at this; exact this)
        obtain ⟨⟨l1, l2⟩, hl⟩ : ∃ l, l = long14 C N T s := ⟨_, rfl⟩
        have HL := Aside0.mk hl.symm
        clear hr hl
        go_wp2_with (first
          | (go_at_call 9; (with_reducible refine (cof_calls _ _ _ bn bt _ HS.out.lt (HS.out.arg H3.out) (HS.out.arg H4.out)).mono ?_); rintro ee w6 ⟨v0, v1, v2, rfl, h0, h1, h2, hb⟩; rw [HR.out] at h0 h1 h2 ⊢; obtain ⟨A6, c6, e6⟩ := PV.form h0; subst e6; obtain ⟨A7, c7, e7⟩ := PV.form h1; subst e7; obtain ⟨A8, c8, e8⟩ := PV.form h2; subst e8; have hs := (((HS.out.push_ro hb h0).push_ro (Below.refl _ _) (h1.to (fun _ _ h => Ys_ro h))).push_ro (Below.refl _ _) (h2.to (fun _ _ h => Ys_ro (Ys_ro h)))).push_box [.slice A6 rc.length c6, .slice A7 rn.length c7, .slice A8 rt.length c8] 31; simp only [List.nil_append, List.cons_append] at hs; clear h0 h1 h2 hb; clear xb0 xb1 y0; have xb0 := (hs.box 1 rfl).cell 0 rfl; have xb1 := (hs.box 1 rfl).cell 1 rfl; clear HS; have HS := Aside0.mk hs; clear hs)
          | (go_at_call 10; (with_reducible refine (of14_calls _ _ _ bn bt _ HS.out.lt (HS.out.arg H3.out) (HS.out.arg H4.out)).mono ?_); rintro ee w7 ⟨v0, v1, v2, rfl, h0, h1, h2, hb⟩; rw [HR.out] at h0 h1 h2 ⊢; obtain ⟨A9, c9, e9⟩ := PV.form h0; subst e9; obtain ⟨A10, c10, e10⟩ := PV.form h1; subst e10; obtain ⟨A11, c11, e11⟩ := PV.form h2; subst e11; have hs := (((HS.out.push_ro hb h0).push_ro (Below.refl _ _) (h1.to (fun _ _ h => Ys_ro h))).push_ro (Below.refl _ _) (h2.to (fun _ _ h => Ys_ro (Ys_ro h)))).push_box [.slice A9 rc.length c9, .slice A10 rn.length c10, .slice A11 rt.length c11] 31; simp only [List.nil_append, List.cons_append] at hs; clear h0 h1 h2 hb; clear xb0 xb1; have xt0 := (hs.box 0 rfl).cell 0 rfl; have xt1 := (hs.box 0 rfl).cell 1 rfl; have xt2 := (hs.box 0 rfl).cell 2 rfl; clear HS; have HS := Aside0.mk hs; clear hs)
          | (go_at_call 17; (with_reducible refine (clong_calls _ _ _ _ _ C N T s _ HS.out.lt (HS.out.arg H0.out) (HS.out.arg H1.out) (HS.out.arg H2.out) (HS.out.arg H5.out) HUC.out HU.out).mono ?_); rintro ee w8 ⟨rfl, hb⟩; rw [HL.out]; have hs := HS.out.call hb; clear hb xt0 xt1 xt2; have xt0 := (hs.box 0 rfl).cell 0 rfl; have xt1 := (hs.box 0 rfl).cell 1 rfl; have xt2 := (hs.box 0 rfl).cell 2 rfl; clear HS; have HS := Aside0.mk hs; clear hs)
          | (go_at_call 18; (with_reducible refine (long14_calls _ _ _ _ _ C N T s _ HS.out.lt (HS.out.arg H0.out) (HS.out.arg H1.out) (HS.out.arg H2.out) (HS.out.arg H5.out) HUC.out HU.out).mono ?_); rintro ee w9 ⟨rfl, hb⟩; rw [HL.out]; have hs := HS.out.call hb; clear hb xt0 xt1 xt2; clear HS; have HS := Aside0.mk hs; clear hs))
        obtain ⟨g2, hg2⟩ : ∃ g, g = w6.heap.size := ⟨_, rfl⟩
        obtain ⟨g3, hg3⟩ : ∃ g, g = w7.heap.size := ⟨_, rfl⟩
        rw [← hg2, ← hg3] at HS ⊢
        clear hg2 hg3
        obtain ⟨q, hq⟩ : ∃ q, q = decide (TSound C N T) := ⟨_, rfl⟩
        have HQ := Aside0.mk hq.symm
        obtain ⟨z, hz⟩ : ∃ z, z = steps14 C N T s := ⟨_, rfl⟩
        have HZ := Aside0.mk hz.symm
        have HSM := Aside0.mk (show decide (rc = rc ∧ rn = rn ∧ rt = rt) = true from decide_eq_true ⟨rfl, rfl, rfl⟩)
        have eq1 : (q == q) = true := beq_self_eq_true q
        have eq2 : (l1 == l1) = true := beq_self_eq_true l1
        have eq3 : (l2 == l2) = true := beq_self_eq_true l2
        have eq4 : ((z : Int) == (z : Int)) = true := beq_self_eq_true _
        clear hq hz e1 e2
        rcases HRE.out with rfl | rfl
        all_goals
          have hs := HS.out.drew
          clear HS; have HS := Aside0.mk hs; clear hs
          refine start_ (n := 36) (S := fun w' => w'.cell? ⟨g0, 0, none⟩ = some (.slice Ac C.length cc) ∧ w'.cell? ⟨g0, 1, none⟩ = some (.slice An N.length cn) ∧ w'.cell? ⟨g0, 2, none⟩ = some (.slice At T.length ct) ∧ w'.cell? ⟨g2, 0, none⟩ = some (.slice A6 rc.length c6) ∧ w'.cell? ⟨g2, 1, none⟩ = some (.slice A7 rn.length c7) ∧ w'.cell? ⟨g2, 2, none⟩ = some (.slice A8 rt.length c8) ∧ w'.cell? ⟨g3, 0, none⟩ = some (.slice A9 rc.length c9) ∧ w'.cell? ⟨g3, 1, none⟩ = some (.slice A10 rn.length c10) ∧ w'.cell? ⟨g3, 2, none⟩ = some (.slice A11 rt.length c11)) (ds := []) #[false, false, false, false, false, false, false, false, false, false, false, false, false, false, false, false, false, false, false, false, false, false, false, false, false, false, false, false, false, false, false, false, false, false, false, false] (by kernel_rfl) rfl rfl ⟨((HS.out.box 0 rfl).cell 0 rfl), ((HS.out.box 0 rfl).cell 1 rfl), ((HS.out.box 0 rfl).cell 2 rfl), ((HS.out.box 5 rfl).cell 0 rfl), ((HS.out.box 5 rfl).cell 1 rfl), ((HS.out.box 5 rfl).cell 2 rfl), ((HS.out.box 9 rfl).cell 0 rfl), ((HS.out.box 9 rfl).cell 1 rfl), ((HS.out.box 9 rfl).cell 2 rfl)⟩ (fun hHeld => ?_)
          refine take_ (i := 0) (N := some 78) (v := ?_) (a' := ?_) #[true, false, false, false, false, false, false, false, false, false, false, false, false, false, false, false, false, false, false, false, false, false, false, false, false, false, false, false, false, false, false, false, false, false, false, false] rfl rfl (by kernel_rfl) (fun _ _ _ h => h) (Or.inl ⟨by rfl, ?_⟩) hHeld ?_ ?_
          rotate_left
          · rintro w' ⟨s0, s1, s2, s3, s4, s5, s6, s7, s8⟩
            go_simp
            with_reducible rfl
          rotate_left
          · simp only [Act.put, List.setIfInBounds_toArray, List.set_cons_zero, List.set_cons_succ, i64_w, i32_w]
            rfl
          refine take_ (i := 2) (N := some 80) (v := ?_) (a' := ?_) #[true, false, true, false, false, false, false, false, false, false, false, false, false, false, false, false, false, false, false, false, false, false, false, false, false, false, false, false, false, false, false, false, false, false, false, false] rfl rfl (by kernel_rfl) (fun _ _ _ h => h) (Or.inl ⟨by rfl, ?_⟩) hHeld ?_ ?_
          rotate_left
          · rintro w' ⟨s0, s1, s2, s3, s4, s5, s6, s7, s8⟩
            go_simp
            with_reducible rfl
          rotate_left
          · simp only [Act.put, List.setIfInBounds_toArray, List.set_cons_zero, List.set_cons_succ, i64_w, i32_w]
            rfl
          refine one_ (i := 1) (N := some 79) #[true, true, true, false, false, false, false, false, false, false, false, false, false, false, false, false, false, false, false, false, false, false, false, false, false, false, false, false, false, false, false, false, false, false, false, false] rfl rfl (by kernel_rfl) (by decide) (fun K hK => ?_)
          refine goes_ Tryd.func15 (by kernel_rfl) rfl #[.agg #[.slice Ac C.length cc, .slice An N.length cn, .slice At T.length ct]] (by rfl) rfl rfl (by simp only [List.map_toArray, List.map_cons, List.map_nil]; rfl) ?_
          with_reducible refine (csound_calls _ _ _ _ C N T _ HS.out.lt (HS.out.arg H0.out) (HS.out.arg H1.out) (HS.out.arg H2.out) HUC.out).mono ?_
          rintro e wa ⟨rfl, hb⟩
          refine ⟨_, rfl, ?_⟩
          rw [HQ.out]
          have hs := HS.out.call hb
          clear hb
          clear HS; have HS := Aside0.mk hs; clear hs
          refine hK.out _ _ ⟨((HS.out.box 0 rfl).cell 0 rfl), ((HS.out.box 0 rfl).cell 1 rfl), ((HS.out.box 0 rfl).cell 2 rfl), ((HS.out.box 5 rfl).cell 0 rfl), ((HS.out.box 5 rfl).cell 1 rfl), ((HS.out.box 5 rfl).cell 2 rfl), ((HS.out.box 9 rfl).cell 0 rfl), ((HS.out.box 9 rfl).cell 1 rfl), ((HS.out.box 9 rfl).cell 2 rfl)⟩ (fun hHeld => ?_)
          clear hK K
          refine norm_ (a' := ?_) ?_ ?_
          rotate_left
          · show Act.put _ (some 79) _ = _
            simp only [Act.put, List.setIfInBounds_toArray, List.set_cons_zero, List.set_cons_succ, i64_w, i32_w]
            rfl
          refine one_ (i := 3) (N := some 81) #[true, true, true, true, false, false, false, false, false, false, false, false, false, false, false, false, false, false, false, false, false, false, false, false, false, false, false, false, false, false, false, false, false, false, false, false] rfl rfl (by kernel_rfl) (by decide) (fun K hK => ?_)
          refine goes_ Tryd.func19 (by kernel_rfl) rfl #[.agg #[.slice Ac C.length cc, .slice An N.length cn, .slice At T.length ct]] (by rfl) rfl rfl (by simp only [List.map_toArray, List.map_cons, List.map_nil]; rfl) ?_
          with_reducible refine (tsound_calls _ _ _ _ C N T _ HS.out.lt (HS.out.arg H0.out) (HS.out.arg H1.out) (HS.out.arg H2.out) HUC.out).mono ?_
          rintro e wb ⟨rfl, hb⟩
          refine ⟨_, rfl, ?_⟩
          rw [HQ.out]
          have hs := HS.out.call hb
          clear hb
          clear HS; have HS := Aside0.mk hs; clear hs
          refine hK.out _ _ ⟨((HS.out.box 0 rfl).cell 0 rfl), ((HS.out.box 0 rfl).cell 1 rfl), ((HS.out.box 0 rfl).cell 2 rfl), ((HS.out.box 5 rfl).cell 0 rfl), ((HS.out.box 5 rfl).cell 1 rfl), ((HS.out.box 5 rfl).cell 2 rfl), ((HS.out.box 9 rfl).cell 0 rfl), ((HS.out.box 9 rfl).cell 1 rfl), ((HS.out.box 9 rfl).cell 2 rfl)⟩ (fun hHeld => ?_)
          clear hK K
          refine norm_ (a' := ?_) ?_ ?_
          rotate_left
          · show Act.put _ (some 81) _ = _
            simp only [Act.put, List.setIfInBounds_toArray, List.set_cons_zero, List.set_cons_succ, i64_w, i32_w]
            rfl
          refine pure_ (i := 4) (N := some 82) (v := ?_) (a' := ?_) #[true, true, true, true, true, false, false, false, false, false, false, false, false, false, false, false, false, false, false, false, false, false, false, false, false, false, false, false, false, false, false, false, false, false, false, false] rfl rfl (by kernel_rfl) (fun _ _ _ h => h) (Or.inl ⟨by rfl, ?_⟩) ?_ ?_
          rotate_left
          · intro w'
            go_simp
            with_reducible rfl
          rotate_left
          · simp only [Act.put, List.setIfInBounds_toArray, List.set_cons_zero, List.set_cons_succ, i64_w, i32_w]
            rfl
          refine pure_ (i := 5) (N := some 83) (v := ?_) (a' := ?_) #[true, true, true, true, true, true, false, false, false, false, false, false, false, false, false, false, false, false, false, false, false, false, false, false, false, false, false, false, false, false, false, false, false, false, false, false] rfl rfl (by kernel_rfl) (fun _ _ _ h => h) (Or.inl ⟨by rfl, ?_⟩) ?_ ?_
          rotate_left
          · intro w'
            go_simp
            with_reducible rfl
          rotate_left
          · simp only [Act.put, List.setIfInBounds_toArray, List.set_cons_zero, List.set_cons_succ, i64_w, i32_w]
            rfl
          refine pure_ (i := 6) (N := some 84) (v := ?_) (a' := ?_) #[true, true, true, true, true, true, true, false, false, false, false, false, false, false, false, false, false, false, false, false, false, false, false, false, false, false, false, false, false, false, false, false, false, false, false, false] rfl rfl (by kernel_rfl) (fun _ _ _ h => h) (Or.inl ⟨by rfl, ?_⟩) ?_ ?_
          rotate_left
          · intro w'
            go_simp
            with_reducible rfl
          rotate_left
          · simp only [Act.put, List.setIfInBounds_toArray, List.set_cons_zero, List.set_cons_succ, i64_w, i32_w]
            rfl
          refine pure_ (i := 7) (N := some 85) (v := ?_) (a' := ?_) #[true, true, true, true, true, true, true, true, false, false, false, false, false, false, false, false, false, false, false, false, false, false, false, false, false, false, false, false, false, false, false, false, false, false, false, false] rfl rfl (by kernel_rfl) (fun _ _ _ h => h) (Or.inl ⟨by rfl, ?_⟩) ?_ ?_
          rotate_left
          · intro w'
            go_simp
            with_reducible rfl
          rotate_left
          · simp only [Act.put, List.setIfInBounds_toArray, List.set_cons_zero, List.set_cons_succ, i64_w, i32_w]
            rfl
          refine pure_ (i := 8) (N := some 86) (v := ?_) (a' := ?_) #[true, true, true, true, true, true, true, true, true, false, false, false, false, false, false, false, false, false, false, false, false, false, false, false, false, false, false, false, false, false, false, false, false, false, false, false] rfl rfl (by kernel_rfl) (fun _ _ _ h => h) (Or.inl ⟨by rfl, ?_⟩) ?_ ?_
          rotate_left
          · intro w'
            go_simp
            with_reducible rfl
          rotate_left
          · simp only [Act.put, List.setIfInBounds_toArray, List.set_cons_zero, List.set_cons_succ, i64_w, i32_w]
            rfl
          refine pure_ (i := 9) (N := some 87) (v := ?_) (a' := ?_) #[true, true, true, true, true, true, true, true, true, true, false, false, false, false, false, false, false, false, false, false, false, false, false, false, false, false, false, false, false, false, false, false, false, false, false, false] rfl rfl (by kernel_rfl) (fun _ _ _ h => h) (Or.inl ⟨by rfl, ?_⟩) ?_ ?_
          rotate_left
          · intro w'
            go_simp
            with_reducible rfl
          rotate_left
          · simp only [Act.put, List.setIfInBounds_toArray, List.set_cons_zero, List.set_cons_succ, i64_w, i32_w]
            rfl
          refine pure_ (i := 10) (N := some 88) (v := ?_) (a' := ?_) #[true, true, true, true, true, true, true, true, true, true, true, false, false, false, false, false, false, false, false, false, false, false, false, false, false, false, false, false, false, false, false, false, false, false, false, false] rfl rfl (by kernel_rfl) (fun _ _ _ h => h) (Or.inl ⟨by rfl, ?_⟩) ?_ ?_
          rotate_left
          · intro w'
            go_simp
            with_reducible rfl
          rotate_left
          · simp only [Act.put, List.setIfInBounds_toArray, List.set_cons_zero, List.set_cons_succ, i64_w, i32_w]
            rfl
          refine pure_ (i := 11) (N := some 89) (v := ?_) (a' := ?_) #[true, true, true, true, true, true, true, true, true, true, true, true, false, false, false, false, false, false, false, false, false, false, false, false, false, false, false, false, false, false, false, false, false, false, false, false] rfl rfl (by kernel_rfl) (fun _ _ _ h => h) (Or.inl ⟨by rfl, ?_⟩) ?_ ?_
          rotate_left
          · intro w'
            go_simp
            with_reducible rfl
          rotate_left
          · simp only [Act.put, List.setIfInBounds_toArray, List.set_cons_zero, List.set_cons_succ, i64_w, i32_w]
            rfl
          refine pure_ (i := 12) (N := some 90) (v := ?_) (a' := ?_) #[true, true, true, true, true, true, true, true, true, true, true, true, true, false, false, false, false, false, false, false, false, false, false, false, false, false, false, false, false, false, false, false, false, false, false, false] rfl rfl (by kernel_rfl) (fun _ _ _ h => h) (Or.inl ⟨by rfl, ?_⟩) ?_ ?_
          rotate_left
          · intro w'
            go_simp
            with_reducible rfl
          rotate_left
          · simp only [Act.put, List.setIfInBounds_toArray, List.set_cons_zero, List.set_cons_succ, i64_w, i32_w]
            rfl
          refine pure_ (i := 13) (N := some 91) (v := ?_) (a' := ?_) #[true, true, true, true, true, true, true, true, true, true, true, true, true, true, false, false, false, false, false, false, false, false, false, false, false, false, false, false, false, false, false, false, false, false, false, false] rfl rfl (by kernel_rfl) (fun _ _ _ h => h) (Or.inl ⟨by rfl, ?_⟩) ?_ ?_
          rotate_left
          · intro w'
            go_simp
            with_reducible rfl
          rotate_left
          · simp only [Act.put, List.setIfInBounds_toArray, List.set_cons_zero, List.set_cons_succ, i64_w, i32_w]
            rfl
          refine pure_ (i := 14) (N := some 92) (v := ?_) (a' := ?_) #[true, true, true, true, true, true, true, true, true, true, true, true, true, true, true, false, false, false, false, false, false, false, false, false, false, false, false, false, false, false, false, false, false, false, false, false] rfl rfl (by kernel_rfl) (fun _ _ _ h => h) (Or.inl ⟨by rfl, ?_⟩) ?_ ?_
          rotate_left
          · intro w'
            go_simp
            with_reducible rfl
          rotate_left
          · simp only [Act.put, List.setIfInBounds_toArray, List.set_cons_zero, List.set_cons_succ, i64_w, i32_w]
            rfl
          refine pure_ (i := 15) (N := some 93) (v := ?_) (a' := ?_) #[true, true, true, true, true, true, true, true, true, true, true, true, true, true, true, true, false, false, false, false, false, false, false, false, false, false, false, false, false, false, false, false, false, false, false, false] rfl rfl (by kernel_rfl) (fun _ _ _ h => h) (Or.inl ⟨by rfl, ?_⟩) ?_ ?_
          rotate_left
          · intro w'
            go_simp
            with_reducible rfl
          rotate_left
          · simp only [Act.put, List.setIfInBounds_toArray, List.set_cons_zero, List.set_cons_succ, i64_w, i32_w]
            rfl
          refine pure_ (i := 17) (N := some 95) (v := ?_) (a' := ?_) #[true, true, true, true, true, true, true, true, true, true, true, true, true, true, true, true, false, true, false, false, false, false, false, false, false, false, false, false, false, false, false, false, false, false, false, false] rfl rfl (by kernel_rfl) (fun _ _ _ h => h) (Or.inl ⟨by rfl, ?_⟩) ?_ ?_
          rotate_left
          · intro w'
            go_simp
            with_reducible rfl
          rotate_left
          · simp only [Act.put, List.setIfInBounds_toArray, List.set_cons_zero, List.set_cons_succ, i64_w, i32_w]
            rfl
          refine pure_ (i := 20) (N := some 98) (v := ?_) (a' := ?_) #[true, true, true, true, true, true, true, true, true, true, true, true, true, true, true, true, false, true, false, false, true, false, false, false, false, false, false, false, false, false, false, false, false, false, false, false] rfl rfl (by kernel_rfl) (fun _ _ _ h => h) (Or.inl ⟨by rfl, ?_⟩) ?_ ?_
          rotate_left
          · intro w'
            go_simp
            with_reducible rfl
          rotate_left
          · simp only [Act.put, List.setIfInBounds_toArray, List.set_cons_zero, List.set_cons_succ, i64_w, i32_w]
            rfl
          refine take_ (i := 16) (N := some 94) (v := ?_) (a' := ?_) #[true, true, true, true, true, true, true, true, true, true, true, true, true, true, true, true, true, true, false, false, true, false, false, false, false, false, false, false, false, false, false, false, false, false, false, false] rfl rfl (by kernel_rfl) (fun _ _ _ h => h) (Or.inl ⟨by rfl, ?_⟩) hHeld ?_ ?_
          rotate_left
          · rintro w' ⟨s0, s1, s2, s3, s4, s5, s6, s7, s8⟩
            go_simp
            with_reducible rfl
          rotate_left
          · simp only [Act.put, List.setIfInBounds_toArray, List.set_cons_zero, List.set_cons_succ, i64_w, i32_w]
            rfl
          refine take_ (i := 19) (N := some 97) (v := ?_) (a' := ?_) #[true, true, true, true, true, true, true, true, true, true, true, true, true, true, true, true, true, true, false, true, true, false, false, false, false, false, false, false, false, false, false, false, false, false, false, false] rfl rfl (by kernel_rfl) (fun _ _ _ h => h) (Or.inl ⟨by rfl, ?_⟩) hHeld ?_ ?_
          rotate_left
          · rintro w' ⟨s0, s1, s2, s3, s4, s5, s6, s7, s8⟩
            go_simp
            with_reducible rfl
          rotate_left
          · simp only [Act.put, List.setIfInBounds_toArray, List.set_cons_zero, List.set_cons_succ, i64_w, i32_w]
            rfl
          refine one_ (i := 18) (N := some 96) #[true, true, true, true, true, true, true, true, true, true, true, true, true, true, true, true, true, true, true, true, true, false, false, false, false, false, false, false, false, false, false, false, false, false, false, false] rfl rfl (by kernel_rfl) (by decide) (fun K hK => ?_)
          refine goes_ Tryd.func20 (by kernel_rfl) rfl #[.agg #[.slice Ac C.length cc, .slice An N.length cn, .slice At T.length ct], .slice As s.length cs] (by rfl) rfl rfl (by simp only [List.map_toArray, List.map_cons, List.map_nil]; rfl) ?_
          with_reducible refine (csteps_calls _ _ _ _ _ C N T s _ HS.out.lt (HS.out.arg H0.out) (HS.out.arg H1.out) (HS.out.arg H2.out) (HS.out.arg H5.out) HUC.out HU.out).mono ?_
          rintro e wc ⟨rfl, hb⟩
          refine ⟨_, rfl, ?_⟩
          rw [HZ.out]
          have hs := HS.out.call hb
          clear hb
          clear HS; have HS := Aside0.mk hs; clear hs
          refine hK.out _ _ ⟨((HS.out.box 0 rfl).cell 0 rfl), ((HS.out.box 0 rfl).cell 1 rfl), ((HS.out.box 0 rfl).cell 2 rfl), ((HS.out.box 5 rfl).cell 0 rfl), ((HS.out.box 5 rfl).cell 1 rfl), ((HS.out.box 5 rfl).cell 2 rfl), ((HS.out.box 9 rfl).cell 0 rfl), ((HS.out.box 9 rfl).cell 1 rfl), ((HS.out.box 9 rfl).cell 2 rfl)⟩ (fun hHeld => ?_)
          clear hK K
          refine norm_ (a' := ?_) ?_ ?_
          rotate_left
          · show Act.put _ (some 96) _ = _
            simp only [Act.put, List.setIfInBounds_toArray, List.set_cons_zero, List.set_cons_succ, i64_w, i32_w]
            rfl
          refine one_ (i := 21) (N := some 99) #[true, true, true, true, true, true, true, true, true, true, true, true, true, true, true, true, true, true, true, true, true, true, false, false, false, false, false, false, false, false, false, false, false, false, false, false] rfl rfl (by kernel_rfl) (by decide) (fun K hK => ?_)
          refine goes_ Tryd.func21 (by kernel_rfl) rfl #[.agg #[.slice Ac C.length cc, .slice An N.length cn, .slice At T.length ct], .slice As s.length cs] (by rfl) rfl rfl (by simp only [List.map_toArray, List.map_cons, List.map_nil]; rfl) ?_
          with_reducible refine (steps14_calls _ _ _ _ _ C N T s _ HS.out.lt (HS.out.arg H0.out) (HS.out.arg H1.out) (HS.out.arg H2.out) (HS.out.arg H5.out) HUC.out HU.out).mono ?_
          rintro e we ⟨rfl, hb⟩
          refine ⟨_, rfl, ?_⟩
          rw [HZ.out]
          have hs := HS.out.call hb
          clear hb
          clear HS; have HS := Aside0.mk hs; clear hs
          refine hK.out _ _ ⟨((HS.out.box 0 rfl).cell 0 rfl), ((HS.out.box 0 rfl).cell 1 rfl), ((HS.out.box 0 rfl).cell 2 rfl), ((HS.out.box 5 rfl).cell 0 rfl), ((HS.out.box 5 rfl).cell 1 rfl), ((HS.out.box 5 rfl).cell 2 rfl), ((HS.out.box 9 rfl).cell 0 rfl), ((HS.out.box 9 rfl).cell 1 rfl), ((HS.out.box 9 rfl).cell 2 rfl)⟩ (fun hHeld => ?_)
          clear hK K
          refine norm_ (a' := ?_) ?_ ?_
          rotate_left
          · show Act.put _ (some 99) _ = _
            simp only [Act.put, List.setIfInBounds_toArray, List.set_cons_zero, List.set_cons_succ, i64_w, i32_w]
            rfl
          refine pure_ (i := 22) (N := some 100) (v := ?_) (a' := ?_) #[true, true, true, true, true, true, true, true, true, true, true, true, true, true, true, true, true, true, true, true, true, true, true, false, false, false, false, false, false, false, false, false, false, false, false, false] rfl rfl (by kernel_rfl) (fun _ _ _ h => h) (Or.inl ⟨by rfl, ?_⟩) ?_ ?_
          rotate_left
          · intro w'
            go_simp
            with_reducible rfl
          rotate_left
          · simp only [Act.put, List.setIfInBounds_toArray, List.set_cons_zero, List.set_cons_succ, i64_w, i32_w]
            rfl
          refine pure_ (i := 23) (N := some 101) (v := ?_) (a' := ?_) #[true, true, true, true, true, true, true, true, true, true, true, true, true, true, true, true, true, true, true, true, true, true, true, true, false, false, false, false, false, false, false, false, false, false, false, false] rfl rfl (by kernel_rfl) (fun _ _ _ h => h) (Or.inl ⟨by rfl, ?_⟩) ?_ ?_
          rotate_left
          · intro w'
            go_simp
            with_reducible rfl
          rotate_left
          · simp only [Act.put, List.setIfInBounds_toArray, List.set_cons_zero, List.set_cons_succ, i64_w, i32_w]
            rfl
          refine pure_ (i := 24) (N := some 102) (v := ?_) (a' := ?_) #[true, true, true, true, true, true, true, true, true, true, true, true, true, true, true, true, true, true, true, true, true, true, true, true, true, false, false, false, false, false, false, false, false, false, false, false] rfl rfl (by kernel_rfl) (fun _ _ _ h => h) (Or.inl ⟨by rfl, ?_⟩) ?_ ?_
          rotate_left
          · intro w'
            go_simp
            with_reducible rfl
          rotate_left
          · simp only [Act.put, List.setIfInBounds_toArray, List.set_cons_zero, List.set_cons_succ, i64_w, i32_w]
            rfl
          refine take_ (i := 25) (N := some 103) (v := ?_) (a' := ?_) #[true, true, true, true, true, true, true, true, true, true, true, true, true, true, true, true, true, true, true, true, true, true, true, true, true, true, false, false, false, false, false, false, false, false, false, false] rfl rfl (by kernel_rfl) (fun _ _ _ h => h) (Or.inl ⟨by rfl, ?_⟩) hHeld ?_ ?_
          rotate_left
          · rintro w' ⟨s0, s1, s2, s3, s4, s5, s6, s7, s8⟩
            go_simp
            with_reducible rfl
          rotate_left
          · simp only [Act.put, List.setIfInBounds_toArray, List.set_cons_zero, List.set_cons_succ, i64_w, i32_w]
            rfl
          refine take_ (i := 26) (N := some 104) (v := ?_) (a' := ?_) #[true, true, true, true, true, true, true, true, true, true, true, true, true, true, true, true, true, true, true, true, true, true, true, true, true, true, true, false, false, false, false, false, false, false, false, false] rfl rfl (by kernel_rfl) (fun _ _ _ h => h) (Or.inl ⟨by rfl, ?_⟩) hHeld ?_ ?_
          rotate_left
          · rintro w' ⟨s0, s1, s2, s3, s4, s5, s6, s7, s8⟩
            go_simp
            with_reducible rfl
          rotate_left
          · simp only [Act.put, List.setIfInBounds_toArray, List.set_cons_zero, List.set_cons_succ, i64_w, i32_w]
            rfl
          refine one_ (i := 27) (N := some 105) #[true, true, true, true, true, true, true, true, true, true, true, true, true, true, true, true, true, true, true, true, true, true, true, true, true, true, true, true, false, false, false, false, false, false, false, false] rfl rfl (by kernel_rfl) (by decide) (fun K hK => ?_)
          refine goes_ Tryd.func13 (by kernel_rfl) rfl #[.agg #[.slice A6 rc.length c6, .slice A7 rn.length c7, .slice A8 rt.length c8], .agg #[.slice A9 rc.length c9, .slice A10 rn.length c10, .slice A11 rt.length c11]] (by rfl) rfl rfl (by simp only [List.map_toArray, List.map_cons, List.map_nil]; rfl) ?_
          with_reducible refine (same14_calls _ _ _ _ _ _ _ rc rc rn rn rt rt _ HS.out.lt (HS.out.ro 2 rfl) (HS.out.ro 3 rfl) (HS.out.ro 4 rfl) (HS.out.ro 6 rfl) (HS.out.ro 7 rfl) (HS.out.ro 8 rfl) HRU.out HRU.out).mono ?_
          rintro e wf ⟨rfl, hb⟩
          refine ⟨_, rfl, ?_⟩
          rw [HSM.out]
          have hs := HS.out.call hb
          clear hb
          clear HS; have HS := Aside0.mk hs; clear hs
          refine hK.out _ _ ⟨((HS.out.box 0 rfl).cell 0 rfl), ((HS.out.box 0 rfl).cell 1 rfl), ((HS.out.box 0 rfl).cell 2 rfl), ((HS.out.box 5 rfl).cell 0 rfl), ((HS.out.box 5 rfl).cell 1 rfl), ((HS.out.box 5 rfl).cell 2 rfl), ((HS.out.box 9 rfl).cell 0 rfl), ((HS.out.box 9 rfl).cell 1 rfl), ((HS.out.box 9 rfl).cell 2 rfl)⟩ (fun hHeld => ?_)
          clear hK K
          refine norm_ (a' := ?_) ?_ ?_
          rotate_left
          · show Act.put _ (some 105) _ = _
            simp only [Act.put, List.setIfInBounds_toArray, List.set_cons_zero, List.set_cons_succ, i64_w, i32_w]
            rfl
          refine pure_ (i := 28) (N := some 106) (v := ?_) (a' := ?_) #[true, true, true, true, true, true, true, true, true, true, true, true, true, true, true, true, true, true, true, true, true, true, true, true, true, true, true, true, true, false, false, false, false, false, false, false] rfl rfl (by kernel_rfl) (fun _ _ _ h => h) (Or.inl ⟨by rfl, ?_⟩) ?_ ?_
          rotate_left
          · intro w'
            go_simp
            with_reducible rfl
          rotate_left
          · simp only [Act.put, List.setIfInBounds_toArray, List.set_cons_zero, List.set_cons_succ, i64_w, i32_w]
            rfl
          refine pure_ (i := 29) (N := some 107) (v := ?_) (a' := ?_) #[true, true, true, true, true, true, true, true, true, true, true, true, true, true, true, true, true, true, true, true, true, true, true, true, true, true, true, true, true, true, false, false, false, false, false, false] rfl rfl (by kernel_rfl) (fun _ _ _ h => h) (Or.inl ⟨by rfl, ?_⟩) ?_ ?_
          rotate_left
          · intro w'
            go_simp
            with_reducible rfl
          rotate_left
          · simp only [Act.put, List.setIfInBounds_toArray, List.set_cons_zero, List.set_cons_succ, i64_w, i32_w]
            rfl
          refine pure_ (i := 30) (N := some 108) (v := ?_) (a' := ?_) #[true, true, true, true, true, true, true, true, true, true, true, true, true, true, true, true, true, true, true, true, true, true, true, true, true, true, true, true, true, true, true, false, false, false, false, false] rfl rfl (by kernel_rfl) (fun _ _ _ h => h) (Or.inl ⟨by rfl, ?_⟩) ?_ ?_
          rotate_left
          · intro w'
            go_simp
            with_reducible rfl
          rotate_left
          · simp only [Act.put, List.setIfInBounds_toArray, List.set_cons_zero, List.set_cons_succ, i64_w, i32_w]
            rfl
          refine pure_ (i := 31) (N := some 109) (v := ?_) (a' := ?_) #[true, true, true, true, true, true, true, true, true, true, true, true, true, true, true, true, true, true, true, true, true, true, true, true, true, true, true, true, true, true, true, true, false, false, false, false] rfl rfl (by kernel_rfl) (fun _ _ _ h => h) (Or.inl ⟨by rfl, ?_⟩) ?_ ?_
          rotate_left
          · intro w'
            go_simp
            with_reducible rfl
          rotate_left
          · simp only [Act.put, List.setIfInBounds_toArray, List.set_cons_zero, List.set_cons_succ, i64_w, i32_w]
            rfl
          refine pure_ (i := 32) (N := some 110) (v := ?_) (a' := ?_) #[true, true, true, true, true, true, true, true, true, true, true, true, true, true, true, true, true, true, true, true, true, true, true, true, true, true, true, true, true, true, true, true, true, false, false, false] rfl rfl (by kernel_rfl) (fun _ _ _ h => h) (Or.inl ⟨by rfl, ?_⟩) ?_ ?_
          rotate_left
          · intro w'
            go_simp
            with_reducible rfl
          rotate_left
          · simp only [Act.put, List.setIfInBounds_toArray, List.set_cons_zero, List.set_cons_succ, i64_w, i32_w]
            rfl
          refine pure_ (i := 33) (N := some 111) (v := ?_) (a' := ?_) #[true, true, true, true, true, true, true, true, true, true, true, true, true, true, true, true, true, true, true, true, true, true, true, true, true, true, true, true, true, true, true, true, true, true, false, false] rfl rfl (by kernel_rfl) (fun _ _ _ h => h) (Or.inl ⟨by rfl, ?_⟩) ?_ ?_
          rotate_left
          · intro w'
            go_simp
            with_reducible rfl
          rotate_left
          · simp only [Act.put, List.setIfInBounds_toArray, List.set_cons_zero, List.set_cons_succ, i64_w, i32_w]
            rfl
          refine pure_ (i := 34) (N := some 112) (v := ?_) (a' := ?_) #[true, true, true, true, true, true, true, true, true, true, true, true, true, true, true, true, true, true, true, true, true, true, true, true, true, true, true, true, true, true, true, true, true, true, true, false] rfl rfl (by kernel_rfl) (fun _ _ _ h => h) (Or.inl ⟨by rfl, ?_⟩) ?_ ?_
          rotate_left
          · intro w'
            go_simp
            with_reducible rfl
          rotate_left
          · simp only [Act.put, List.setIfInBounds_toArray, List.set_cons_zero, List.set_cons_succ, i64_w, i32_w]
            rfl
          refine pure_ (i := 35) (N := some 6) (v := ?_) (a' := ?_) #[true, true, true, true, true, true, true, true, true, true, true, true, true, true, true, true, true, true, true, true, true, true, true, true, true, true, true, true, true, true, true, true, true, true, true, true] rfl rfl (by kernel_rfl) (fun _ _ _ h => h) (Or.inl ⟨by rfl, ?_⟩) ?_ ?_
          rotate_left
          · intro w'
            go_simp
            with_reducible rfl
          rotate_left
          · simp only [Act.put, List.setIfInBounds_toArray, List.set_cons_zero, List.set_cons_succ, i64_w, i32_w]
            rfl
          refine done_ (by kernel_rfl) ?_
          go_wp2_with fail
          go_ret
          exact ⟨congrArg (fun b => Ending.returned (Value.bool b)) (show (_ : Bool) = true by first | (show (wrap64 0 == 0) = true; decide +kernel) | (show (wrap64 1 == 1) = true; decide +kernel)), HS.out.below⟩
      | succ k1 =>
        have hi : i < N.length := by have := HJ.out; omega
        have hi30 : i < 30 := by have := HNL.out; omega
        have e1 : decide ((i : Int) < (N.length : Int)) = true := decide_eq_true (by omega)
        have e2 : decide (i < N.length) = true := decide_eq_true hi
        have hi0 : (0 : Int) ≤ (i : Int) := by omega
        have hi1 : (i : Int) < (N.length : Int) := by omega
        obtain ⟨an, cn', u, en, hu, yn0⟩ := H1.out.row i hi
        cases en
        generalize N.getD i [] = row at *
        obtain ⟨Au, cu, rfl, _, _⟩ := hu.now
        have yn := pw_cell_below HS.out.below yn0
        clear hu yn0
        rcases Nat.lt_or_ge 300 row.length with h | h
        case inl =>
          have d1 : decide ((row.length : Int) > 300) = true := decide_eq_true (by omega)
          have d1' : decide (300 < row.length) = true := decide_eq_true h
          go_wp2_with fail
          go_ret
          exact ⟨rfl, HS.out.below⟩
        case inr =>
          have d1 : decide ((row.length : Int) > 300) = false := decide_eq_false (by omega)
          have d1' : decide (300 < row.length) = false := decide_eq_false (by omega)
          go_wp2_with fail
          go_roundg k1
          case measure => omega
          case rel => exact ⟨i + 1, by go_num, ⟨by have := HJ.out; omega⟩, HS⟩
end Go.Proofs.YtfbfeimildkigaaDoor.P
