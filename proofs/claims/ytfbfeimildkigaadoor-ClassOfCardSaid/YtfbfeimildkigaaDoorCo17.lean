/- Part 17 of the proof: S12l, S13a. -/
import Derived.Test.YtfbfeimildkigaaDoorCo9
import Derived.Test.YtfbfeimildkigaaDoorCo16
namespace Go.Proofs.YtfbfeimildkigaaDoor.P
open Go Go.RowKit Go.Proofs.YtfbfeimildkigaaDoorW.PrintWords Go.Proofs.YtfbfeimildkigaaDoorW.PrintLast Go.Proofs.YtfbfeimildkigaaDoorW.PrintMore Go.Proofs.YtfbfeimildkigaaDoor.PX
set_option linter.unusedVariables false
set_option linter.unusedSimpArgs false
set_option maxRecDepth 100000
def of12 (parts : List (List Sp)) (next : List (List Int)) (tags : List Int) : DfaS × Int := if SoundP parts next tags then (leastL parts next tags, 0) else (⟨[], [], []⟩, 1)
theorem sound_ok12 {parts : List (List Sp)} {next : List (List Int)} {tags : List Int} (h : SoundP parts next tags) : Ok12 parts.length tags.length next := fun i hi => by
  have hr := h.2.2 i (by rw [← h.1.2.2.2]; exact hi)
  exact ⟨hr.1, fun k hk => (hr.2.2 k (by rw [hr.1]; exact hk)).2⟩
set_option maxHeartbeats 4000000 in
theorem of12_calls (X : Nat → Prop) (vp vn vt : Value) (parts : List (List Sp)) (next : List (List Int)) (tags : List Int) (w : World) (hX : ∀ k, X k → k < w.heap.size) (hp : PV kSps X w vp parts) (hn : PV kRow X w vn next) (ht : PV kInt X w vt tags)
    (hs : ∀ p ∈ parts, Sm p ∧ p.length ≤ 10000) (huni : SoundP parts next tags → UniOk (bareP parts)) :
    Calls Tryd.prog 36 #[.agg #[vp, vn, vt]] w fun e w' => ∃ v0 v1 v2, e = .returned (.tuple #[.agg #[v0, v1, v2], .int .i64 (of12 parts next tags).2]) ∧ PV kSps X w' v0 (of12 parts next tags).1.parts ∧ PV kRow X w' v1 (of12 parts next tags).1.next ∧ PV kInt X w' v2 (of12 parts next tags).1.tags ∧ Below w.heap.size w w' := by
  have H0 := Aside0.mk hp
  have H1 := Aside0.mk hn
  have H2 := Aside0.mk ht
  have HSM := Aside0.mk hs
  have HUNI := Aside0.mk huni
  obtain ⟨Ap, cp, rfl, _, _⟩ := hp.now
  obtain ⟨An, cn, rfl, _, _⟩ := hn.now
  obtain ⟨At, ct, rfl, _, _⟩ := ht.now
  have HS := Aside0.mk (((Sep.start hX).push_box [.slice Ap parts.length cp, .slice An next.length cn, .slice At tags.length ct] 58).push_box' [.slice none 0 0, .slice none 0 0, .slice none 0 0] 58 (w.heap.size + 1) (by simp))
  obtain ⟨q, hq⟩ : ∃ q, q = decide (SoundP parts next tags) := ⟨_, rfl⟩
  have HQ := Aside0.mk hq.symm
  obtain ⟨r, hr⟩ : ∃ r, r = of12 parts next tags := ⟨_, rfl⟩
  rw [← hr]
  have HR := Aside0.mk (show r = if SoundP parts next tags then (leastL parts next tags, 0) else (⟨[], [], []⟩, 1) from hr)
  clear hp hn ht hs huni hX hq hr
  go_enter Tryd.func36, Tryd.ntmps36
  go_upto_if 6 with (first
    | (go_at_call 35; (with_reducible refine (dsound_calls _ _ _ _ parts next tags _ HS.out.lt (HS.out.arg H0.out) (HS.out.arg H1.out) (HS.out.arg H2.out) HSM.out).mono ?_); rintro ee w5 ⟨rfl, hb⟩; rw [HQ.out]; have hs := HS.out.call hb; clear hb; clear HS; have HS := Aside0.mk hs; clear hs))
  obtain ⟨g1, hg1⟩ : ∃ g, g = w.heap.size + 1 := ⟨_, rfl⟩
  obtain ⟨g0, hg0⟩ : ∃ g, g = w.heap.size := ⟨_, rfl⟩
  rw [← hg1, ← hg0] at HS ⊢
  clear hg0 hg1
  have x0 := ((HS.out.box 1 rfl).cell 0 rfl)
  have x1 := ((HS.out.box 1 rfl).cell 1 rfl)
  have x2 := ((HS.out.box 1 rfl).cell 2 rfl)
  have f0 := (HS.out.box 1 rfl).open_ 0
  have f1 := (HS.out.box 1 rfl).open_ 1
  have f2 := (HS.out.box 1 rfl).open_ 2
  cases q
  case false =>
    have HE := Aside0.mk (show r = (⟨[], [], []⟩, 1) by rw [HR.out, if_neg (of_decide_eq_false HQ.out)])
    go_wp2_with fail
    have HSF := Aside0.mk (((HS.out.set_box 1 rfl 0 (.slice none 0 0)).set_box 1 rfl 1 (.slice none 0 0)).set_box 1 rfl 2 (.slice none 0 0))
    refine bodyPost_ret (results_ct rfl _ _ g1 58 #[.slice none 0 0, .slice none 0 0, .slice none 0 0] (0, 0) _ rfl (HSF.out.box 1 rfl) Tryd.underlying58 rfl (by kernel_rfl)) rfl ?_
    rw [HE.out]
    exact ⟨_, _, _, rfl, PV.nil _ _ _, PV.nil _ _ _, PV.nil _ _ _, HSF.out.below⟩
  case true =>
    have HSO := Aside0.mk (of_decide_eq_true HQ.out)
    have HE := Aside0.mk (show r = (leastL parts next tags, 0) by rw [HR.out, if_pos HSO.out])
    have y0 := ((HS.out.box 0 rfl).cell 0 rfl)
    have y1 := ((HS.out.box 0 rfl).cell 1 rfl)
    have y2 := ((HS.out.box 0 rfl).cell 2 rfl)
    clear x0 x1 x2 f0 f1 f2
    have HC := Aside0.mk (show Ok12 parts.length tags.length next ∧ next.length = tags.length ∧ 0 < tags.length ∧ tags.length ≤ 1000000 ∧ parts.length ≤ 100000 by have h1 := HSO.out; exact ⟨sound_ok12 h1, h1.1.2.2.2, by have := h1.1.2.1; omega, by have := h1.1.2.2.1; omega, by have := h1.1.1; omega⟩)
    go_wp2_with (first
      | (go_at_call 47; (with_reducible refine (least_calls _ _ _ _ parts next tags _ HS.out.lt (HS.out.arg H0.out) (HS.out.arg H1.out) (HS.out.arg H2.out) HC.out.1 HC.out.2.1 HC.out.2.2.1 HC.out.2.2.2.1 HC.out.2.2.2.2 (fun x hx => (HSM.out x hx).1) (HUNI.out HSO.out)).mono ?_); rintro ee w6 ⟨v0, v1, v2, rfl, h0, h1, h2, hb⟩; have hs := ((HS.out.push_ro hb h0).push_ro (Below.refl _ _) (h1.to (fun _ _ h => Ys_ro h))).push_ro (Below.refl _ _) (h2.to (fun _ _ h => Ys_ro (Ys_ro h))); clear h0 h1 h2 hb y0 y1 y2; have x0 := ((hs.box 1 rfl).cell 0 rfl); have x1 := ((hs.box 1 rfl).cell 1 rfl); have x2 := ((hs.box 1 rfl).cell 2 rfl); have f0 := (hs.box 1 rfl).open_ 0; have f1 := (hs.box 1 rfl).open_ 1; have f2 := (hs.box 1 rfl).open_ 2; obtain ⟨B0, d0, e0⟩ := hs.rform 2 rfl; subst e0; obtain ⟨B1, d1, e1⟩ := hs.rform 3 rfl; subst e1; obtain ⟨B2, d2, e2⟩ := hs.rform 4 rfl; subst e2; clear HS; have HS := Aside0.mk hs; clear hs))
    have HSF := Aside0.mk (((HS.out.set_box 1 rfl 0 (.slice B0 (leastL parts next tags).parts.length d0)).set_box 1 rfl 1 (.slice B1 (leastL parts next tags).next.length d1)).set_box 1 rfl 2 (.slice B2 (leastL parts next tags).tags.length d2))
    refine bodyPost_ret (results_ct rfl _ _ g1 58 #[.slice B0 (leastL parts next tags).parts.length d0, .slice B1 (leastL parts next tags).next.length d1, .slice B2 (leastL parts next tags).tags.length d2] (0, 0) _ rfl (HSF.out.box 1 rfl) Tryd.underlying58 rfl (by kernel_rfl)) rfl ?_
    rw [HE.out]
    exact ⟨_, _, _, rfl, HSF.out.res 2 rfl, HSF.out.res 3 rfl, HSF.out.res 4 rfl, HSF.out.below⟩
end Go.Proofs.YtfbfeimildkigaaDoor.P
namespace Go.Proofs.YtfbfeimildkigaaDoor.P
open Go Go.RowKit Go.Proofs.YtfbfeimildkigaaDoorW.PrintWords Go.Proofs.YtfbfeimildkigaaDoorW.PrintLast Go.Proofs.YtfbfeimildkigaaDoorW.PrintMore Go.Proofs.YtfbfeimildkigaaDoor.PX
set_option linter.unusedVariables false
set_option linter.unusedSimpArgs false
set_option maxRecDepth 100000
abbrev Wy := S118
abbrev kWy := k118
abbrev Pl := S98
abbrev kPl := k98
abbrev kRgss : Kd (List (List Rg)) := Kd.slice 116 kRgs
instance : DecidableEq Rg := fun a b => decidable_of_iff (a.f0 = b.f0 ∧ a.f1 = b.f1) ⟨fun h => by cases a; cases b; simp_all, fun h => by rw [h]; exact ⟨rfl, rfl⟩⟩
instance : DecidableEq Wy := fun a b => decidable_of_iff (a.f0 = b.f0 ∧ a.f1 = b.f1) ⟨fun h => by cases a; cases b; simp_all, fun h => by rw [h]; exact ⟨rfl, rfl⟩⟩
instance : DecidableEq Pl := fun a b => decidable_of_iff (a.f0 = b.f0 ∧ a.f1 = b.f1) ⟨fun h => by cases a; cases b; simp_all, fun h => by rw [h]; exact ⟨rfl, rfl⟩⟩
section
variable {X : Nat → Prop} {w : World} {v : Value}
theorem rg_cell {xs : List Rg} (h : PV kRg X w v xs) (j : Nat) (hj : j < xs.length) : ∃ ad c, v = .slice (some ad) xs.length c ∧ w.cell? (ad.add (j * 2)) = some (.int .u8 (xs.getD j z120).f0) ∧ w.cell? ⟨(ad.add (j * 2)).block, (ad.add (j * 2)).off + 1, none⟩ = some (.int .u8 (xs.getD j z120).f1) := by
  obtain ⟨A, c, rfl, _, hC⟩ := h.now
  obtain ⟨ad, e, y0, y1⟩ := at_T120 hC (j : Int) (by omega) (by omega)
  cases e
  exact ⟨ad, c, rfl, by simpa [rd_T120] using y0, by simpa [rd_T120] using y1⟩
theorem wy_cell {xs : List Wy} (h : PV kWy X w v xs) (j : Nat) (hj : j < xs.length) : ∃ ad c u, v = .slice (some ad) xs.length c ∧ w.cell? (ad.add (j * 2)) = some u ∧ w.cell? ⟨(ad.add (j * 2)).block, (ad.add (j * 2)).off + 1, none⟩ = some (.int .i64 (xs.getD j z118).f1) ∧ PV kRg X w u (xs.getD j z118).f0 := by
  obtain ⟨ad, c, cs, hv, hl, hK, hc⟩ := h.elem z118 j hj (by show 0 < 2; decide)
  obtain ⟨c0, c1, rfl, h0, h1⟩ := PK.of_pair (PK.iso.1 hK)
  obtain ⟨u, rfl, hu⟩ := h0.of_slice
  obtain rfl := h1.of_scalar
  have hc' : ∀ i u', ([u] ++ [Value.int .i64 (xs.getD j z118).f1])[i]? = some u' → w.cell? (ad.add (j * 2 + i)) = some u' := hc
  exact ⟨ad, c, u, hv, by simpa using hc' 0 _ rfl, by rw [← add_field _ _ 1 (by omega)]; exact hc' 1 _ rfl, hu⟩
theorem pl_cell {xs : List Pl} (h : PV kPl X w v xs) (j : Nat) (hj : j < xs.length) : ∃ ad c u, v = .slice (some ad) xs.length c ∧ w.cell? (ad.add (j * 2)) = some (.int .i64 (xs.getD j z98).f0) ∧ w.cell? ⟨(ad.add (j * 2)).block, (ad.add (j * 2)).off + 1, none⟩ = some u ∧ PV kWy X w u (xs.getD j z98).f1 := by
  obtain ⟨ad, c, cs, hv, hl, hK, hc⟩ := h.elem z98 j hj (by show 0 < 2; decide)
  obtain ⟨c0, c1, rfl, h0, h1⟩ := PK.of_pair (PK.iso.1 hK)
  obtain ⟨u, rfl, hu⟩ := h1.of_slice
  obtain rfl := h0.of_scalar
  have hc' : ∀ i u', ([Value.int .i64 (xs.getD j z98).f0] ++ [u])[i]? = some u' → w.cell? (ad.add (j * 2 + i)) = some u' := hc
  exact ⟨ad, c, u, hv, by simpa using hc' 0 _ rfl, by rw [← add_field _ _ 1 (by omega)]; exact hc' 1 _ rfl, hu⟩
theorem wy_rep {u : Value} {r : List Rg} (t : Int) (h : PV kRg X w u r) : Reps (PK kWy X w) (kWy).sz [(⟨r, t⟩ : Wy)] [u, .int .i64 t] :=
  (Reps.none _ _).snoc (c := [u, .int .i64 t]) (PK.iso.2 (PK.pair (x := (r, t)) (c0 := [u]) (c1 := [.int .i64 t]) (PK.slice h) (PK.scalar t))) rfl
theorem pl_rep {u : Value} {l : List Wy} (t : Int) (h : PV kWy X w u l) : Reps (PK kPl X w) (kPl).sz [(⟨t, l⟩ : Pl)] [.int .i64 t, u] :=
  (Reps.none _ _).snoc (c := [.int .i64 t, u]) (PK.iso.2 (PK.pair (x := (t, l)) (c0 := [.int .i64 t]) (c1 := [u]) (PK.scalar t) (PK.slice h))) rfl
end
set_option maxHeartbeats 8000000 in
theorem same03_calls (X : Nat → Prop) (v0 v1 : Value) (r s : List Rg) (w : World) (h0 : PV kRgs X w v0 [r]) (h1 : PV kRgs X w v1 [s]) :
    Calls Tryd.prog 70 #[v0, v1] w fun e w' => e = .returned (.bool (decide (r = s))) ∧ Below w.heap.size w w' := by
  have H0 := Aside0.mk h0
  have H1 := Aside0.mk h1
  obtain ⟨A0, c0, rfl, _, _⟩ := h0.now
  obtain ⟨A1, c1, rfl, _, _⟩ := h1.now
  clear h0 h1
  obtain ⟨q, hq⟩ : ∃ q, q = decide (r = s) := ⟨_, rfl⟩
  rw [← hq]
  have HQ := Aside0.mk hq
  clear hq
  go_enter Tryd.func70, Tryd.ntmps70
  go_wp2_with fail
  go_loopg [5] 1 (fun m v5 w' => ∃ (i : Nat), v5 = .int .i64 i ∧ Aside0 (i + m = 1) ∧ Aside0 (i = 1 → r = s) ∧ Aside0 (Below w.heap.size w w'))
  case atStart => exact ⟨0, rfl, ⟨by omega⟩, ⟨fun h => by omega⟩, ⟨Below.refl _ _⟩⟩
  case round =>
    obtain ⟨i, rfl, HJ, HT, HB⟩ := hrel
    cases gk with
    | zero =>
      have hi : i = 1 := by have := HJ.out; omega
      subst hi
      have e0 : q = true := by rw [HQ.out]; exact decide_eq_true (HT.out rfl)
      subst e0
      go_wp2_with fail
      go_ret
      exact ⟨rfl, HB.out⟩
    | succ k1 =>
      have hi : i = 0 := by have := HJ.out; omega
      subst hi
      obtain ⟨a0, d0, u0, e0, hu0, y0⟩ := (H0.out.below HB.out).row 0 (by simp)
      cases e0
      obtain ⟨a1, d1, u1, e1, hu1, y1⟩ := (H1.out.below HB.out).row 0 (by simp)
      cases e1
      replace hu0 : PV kRg X wr u0 r := hu0
      replace hu1 : PV kRg X wr u1 s := hu1
      rw [show a0.add 0 = a0 by simp [Addr.add]] at y0
      rw [show a1.add 0 = a1 by simp [Addr.add]] at y1
      obtain ⟨B0, f0, rfl, _, _⟩ := hu0.now
      obtain ⟨B1, f1, rfl, _, _⟩ := hu1.now
      have hm0 := hu0.max
      have HU0 := Aside0.mk hu0
      have HU1 := Aside0.mk hu1
      have HY := Aside0.mk (show wr.cell? a0 = _ ∧ wr.cell? a1 = _ from ⟨y0, y1⟩)
      clear hu0 hu1
      by_cases hl : r.length = s.length
      case neg =>
        have d1 : ((r.length : Int) != (s.length : Int)) = true := bne_iff_ne.mpr (by omega)
        have d2 : ((r.length : Int) == (s.length : Int)) = false := beq_eq_false_iff_ne.mpr (by omega)
        have e0 : q = false := by rw [HQ.out]; exact decide_eq_false (fun h => hl (by rw [h]))
        subst e0
        clear hl
        go_wp2_with fail
        go_quiet (fail)
        have HB2 := Aside0.mk (pw_below_drewN HB.out nq)
        go_wp2_with fail
        go_ret
        exact ⟨rfl, HB2.out⟩
      case pos =>
        have d1 : ((r.length : Int) != (s.length : Int)) = false := bne_eq_false_iff_eq.mpr (by omega)
        have d2 : ((r.length : Int) == (s.length : Int)) = true := beq_iff_eq.mpr (by omega)
        have HL := Aside0.mk hl
        clear hl
        go_wp2_with fail
        go_quiet (fail)
        have HB2 := Aside0.mk (pw_below_drewN HB.out nq)
        have HBn := Aside0.mk (bn wr nq)
        obtain ⟨wq, hwq⟩ : ∃ x, x = wr.drewN nq := ⟨_, rfl⟩
        rw [← hwq] at HB2 HBn ⊢
        clear hwq y0 y1
        go_wp2_with fail
        go_loopg [6] r.length (fun m v6 w' => ∃ (k : Nat), v6 = .int .i64 k ∧ Aside0 (k + m = r.length) ∧ Aside0 (r.take k = s.take k) ∧ Aside0 (Below wr.heap.size wr w'))
        case atStart => exact ⟨0, rfl, ⟨by omega⟩, ⟨rfl⟩, HBn⟩
        case round =>
          clear HBn HB2
          obtain ⟨k, rfl, HK, HT2, HB2⟩ := hrel
          have y0 := pw_cell_below HB2.out HY.out.1
          have y1 := pw_cell_below HB2.out HY.out.2
          cases gk with
          | zero =>
            have hd : decide ((k : Int) < (r.length : Int)) = false := decide_eq_false (by have := HK.out; omega)
            have hd2 : decide (k < r.length) = false := decide_eq_false (by have := HK.out; omega)
            have HE := Aside0.mk (alike_end r s k HT2.out (by have := HK.out; omega) (by have := HK.out; have := HL.out; omega))
            go_wp2_with fail
            go_roundg 0
            case measure => omega
            case rel => exact ⟨1, by go_num, ⟨by omega⟩, ⟨fun _ => HE.out⟩, ⟨below_step HB.out HB2.out⟩⟩
          | succ k2 =>
            have hj : k < r.length := by have := HK.out; omega
            have hj2 : k < s.length := by have := HL.out; omega
            have hd : decide ((k : Int) < (r.length : Int)) = true := decide_eq_true (by omega)
            have hd2 : decide (k < r.length) = true := decide_eq_true hj
            have hj0 : (0 : Int) ≤ (k : Int) := by omega
            have hj1 : (k : Int) < (r.length : Int) := by omega
            have hj3 : (k : Int) < (s.length : Int) := by omega
            obtain ⟨ad, c, e, x0, x1⟩ := rg_cell (HU0.out.below HB2.out) k hj
            cases e
            obtain ⟨ad2, c2, e2, z0, z1⟩ := rg_cell (HU1.out.below HB2.out) k hj2
            cases e2
            by_cases c : r.getD k z120 = s.getD k z120
            · have HT3 := Aside0.mk (alike_step r s _ k HT2.out hj hj2 c)
              rw [← c] at z0 z1
              clear c
              generalize r.getD k z120 = p at *
              go_wp2_with fail
              go_quiet (fail)
              have HB3 := Aside0.mk (pw_below_drewN HB2.out nq)
              go_wp2_with fail
              go_roundg k2
              case measure => omega
              case rel => exact ⟨k + 1, by go_num, ⟨by have := HK.out; omega⟩, HT3, HB3⟩
            · have e0 : q = false := by
                rw [HQ.out]
                exact decide_eq_false (fun h => c (by rw [h]))
              subst e0
              have c3 : ¬ ((r.getD k z120).f0 = (s.getD k z120).f0 ∧ (r.getD k z120).f1 = (s.getD k z120).f1) := fun h => c (by
                generalize r.getD k z120 = p at *
                generalize s.getD k z120 = t at *
                cases p; cases t; simp_all)
              clear c
              generalize r.getD k z120 = p at *
              generalize s.getD k z120 = t at *
              by_cases c4 : p.f0 = t.f0
              case' pos =>
                have c5 : ¬ p.f1 = t.f1 := fun h => c3 ⟨c4, h⟩
                have d5 : (p.f1 == t.f1) = false := beq_eq_false_iff_ne.mpr c5
                rw [← c4] at z0
              case' neg =>
                have d5 : (p.f0 == t.f0) = false := beq_eq_false_iff_ne.mpr c4
              all_goals
                clear c3
                go_wp2_with fail
                go_quiet (fail)
                have HB3 := Aside0.mk (pw_below_drewN (below_step HB.out HB2.out) nq)
                go_wp2_with fail
                go_ret
                exact ⟨rfl, HB3.out⟩
end Go.Proofs.YtfbfeimildkigaaDoor.P
