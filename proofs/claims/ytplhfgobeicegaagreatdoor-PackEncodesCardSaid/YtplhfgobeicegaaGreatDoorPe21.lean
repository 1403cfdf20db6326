/- Part 21 of the proof: S13a, S13b, S13c. -/
import Derived.Test.YtplhfgobeicegaaGreatDoorPe15
namespace Go.Proofs.YtplhfgobeicegaaGreatDoor.P
open Go Go.RowKit Go.Proofs.YtplhfgobeicegaaGreatDoorW.PrintWords Go.Proofs.YtplhfgobeicegaaGreatDoorW.PrintLast Go.Proofs.YtplhfgobeicegaaGreatDoorW.PrintMore Go.Proofs.YtplhfgobeicegaaGreatDoor.PX
set_option linter.unusedVariables false
set_option linter.unusedSimpArgs false
set_option maxRecDepth 100000
abbrev Wy := S141
abbrev kWy := k141
abbrev Pl := S115
abbrev kPl := k115
abbrev kRgss : Kd (List (List Rg)) := Kd.slice 139 kRgs
instance : DecidableEq Rg := fun a b => decidable_of_iff (a.f0 = b.f0 ∧ a.f1 = b.f1) ⟨fun h => by cases a; cases b; simp_all, fun h => by rw [h]; exact ⟨rfl, rfl⟩⟩
instance : DecidableEq Wy := fun a b => decidable_of_iff (a.f0 = b.f0 ∧ a.f1 = b.f1) ⟨fun h => by cases a; cases b; simp_all, fun h => by rw [h]; exact ⟨rfl, rfl⟩⟩
instance : DecidableEq Pl := fun a b => decidable_of_iff (a.f0 = b.f0 ∧ a.f1 = b.f1) ⟨fun h => by cases a; cases b; simp_all, fun h => by rw [h]; exact ⟨rfl, rfl⟩⟩
section
variable {X : Nat → Prop} {w : World} {v : Value}
theorem rg_cell {xs : List Rg} (h : PV kRg X w v xs) (j : Nat) (hj : j < xs.length) : ∃ ad c, v = .slice (some ad) xs.length c ∧ w.cell? (ad.add (j * 2)) = some (.int .u8 (xs.getD j z143).f0) ∧ w.cell? ⟨(ad.add (j * 2)).block, (ad.add (j * 2)).off + 1, none⟩ = some (.int .u8 (xs.getD j z143).f1) := by
 obtain ⟨A, c, rfl, _, hC⟩ := h.now
 obtain ⟨ad, e, y0, y1⟩ := at_T143 hC (j : Int) (by omega) (by omega)
 cases e
 exact ⟨ad, c, rfl, by simpa [rd_T143] using y0, by simpa [rd_T143] using y1⟩
theorem wy_cell {xs : List Wy} (h : PV kWy X w v xs) (j : Nat) (hj : j < xs.length) : ∃ ad c u, v = .slice (some ad) xs.length c ∧ w.cell? (ad.add (j * 2)) = some u ∧ w.cell? ⟨(ad.add (j * 2)).block, (ad.add (j * 2)).off + 1, none⟩ = some (.int .i64 (xs.getD j z141).f1) ∧ PV kRg X w u (xs.getD j z141).f0 := by
 obtain ⟨ad, c, cs, hv, hl, hK, hc⟩ := h.elem z141 j hj (by show 0 < 2; decide)
 obtain ⟨c0, c1, rfl, h0, h1⟩ := PK.of_pair (PK.iso.1 hK)
 obtain ⟨u, rfl, hu⟩ := h0.of_slice
 obtain rfl := h1.of_scalar
 have hc' : ∀ i u', ([u] ++ [Value.int .i64 (xs.getD j z141).f1])[i]? = some u' → w.cell? (ad.add (j * 2 + i)) = some u' := hc
 exact ⟨ad, c, u, hv, by simpa using hc' 0 _ rfl, by rw [← add_field _ _ 1 (by omega)]; exact hc' 1 _ rfl, hu⟩
theorem pl_cell {xs : List Pl} (h : PV kPl X w v xs) (j : Nat) (hj : j < xs.length) : ∃ ad c u, v = .slice (some ad) xs.length c ∧ w.cell? (ad.add (j * 2)) = some (.int .i64 (xs.getD j z115).f0) ∧ w.cell? ⟨(ad.add (j * 2)).block, (ad.add (j * 2)).off + 1, none⟩ = some u ∧ PV kWy X w u (xs.getD j z115).f1 := by
 obtain ⟨ad, c, cs, hv, hl, hK, hc⟩ := h.elem z115 j hj (by show 0 < 2; decide)
 obtain ⟨c0, c1, rfl, h0, h1⟩ := PK.of_pair (PK.iso.1 hK)
 obtain ⟨u, rfl, hu⟩ := h1.of_slice
 obtain rfl := h0.of_scalar
 have hc' : ∀ i u', ([Value.int .i64 (xs.getD j z115).f0] ++ [u])[i]? = some u' → w.cell? (ad.add (j * 2 + i)) = some u' := hc
 exact ⟨ad, c, u, hv, by simpa using hc' 0 _ rfl, by rw [← add_field _ _ 1 (by omega)]; exact hc' 1 _ rfl, hu⟩
theorem wy_rep {u : Value} {r : List Rg} (t : Int) (h : PV kRg X w u r) : Reps (PK kWy X w) (kWy).sz [(⟨r, t⟩ : Wy)] [u, .int .i64 t] :=
 (Reps.none _ _).snoc (c := [u, .int .i64 t]) (PK.iso.2 (PK.pair (x := (r, t)) (c0 := [u]) (c1 := [.int .i64 t]) (PK.slice h) (PK.scalar t))) rfl
theorem pl_rep {u : Value} {l : List Wy} (t : Int) (h : PV kWy X w u l) : Reps (PK kPl X w) (kPl).sz [(⟨t, l⟩ : Pl)] [.int .i64 t, u] :=
 (Reps.none _ _).snoc (c := [.int .i64 t, u]) (PK.iso.2 (PK.pair (x := (t, l)) (c0 := [.int .i64 t]) (c1 := [u]) (PK.scalar t) (PK.slice h))) rfl
end
set_option maxHeartbeats 8000000 in
theorem same03_calls (X : Nat → Prop) (v0 v1 : Value) (r s : List Rg) (w : World) (h0 : PV kRgs X w v0 [r]) (h1 : PV kRgs X w v1 [s]) :
  Calls Tryz.prog 85 #[v0, v1] w fun e w' => e = .returned (.bool (decide (r = s))) ∧ Below w.heap.size w w' := by
 have H0 := aM h0
 have H1 := aM h1
 obtain ⟨A0, c0, rfl, _, _⟩ := h0.now
 obtain ⟨A1, c1, rfl, _, _⟩ := h1.now
 clear h0 h1
 obtain ⟨q, hq⟩ : ∃ q, q = decide (r = s) := ⟨_, rfl⟩
 rw [← hq]
 have HQ := aM hq
 clear hq
 go_enter Tryz.func85, Tryz.ntmps85
 go_wp2_with fail
 go_loopg [5] 1 (fun m v5 w' => ∃ (i : Nat), v5 = .int .i64 i ∧ Aside0 (i + m = 1) ∧ Aside0 (i = 1 → r = s) ∧ Aside0 (Below w.heap.size w w'))
 case atStart => exact ⟨0, rfl, ⟨by omega⟩, ⟨fun h => by omega⟩, ⟨Below.refl _ _⟩⟩
 case round =>
  obtain ⟨i, rfl, HJ, HT, HB⟩ := hrel
  cases gk with
  | zero =>
   have hi : i = 1 := by have := HJ.out; omega
   subst hi
   have e0 : q = true := by rw [HQ.out]; exact dT (HT.out rfl)
   subst e0
   go_wp2_with fail
   go_ret
   exact ⟨rfl, HB.out⟩
  | succ k1 =>
   have hi : i = 0 := by have := HJ.out; omega
   subst hi
   obtain ⟨a0, d0, u0, e0, hu0, y0⟩ := (H0.out.below HB.out).row 0 (by simp)
   cases e0
   obtain ⟨a1, d1, u1, e1, hu1, y1⟩ := (H1.out.below HB.out).row 0 (by simp)
   cases e1
   replace hu0 : PV kRg X wr u0 r := hu0
   replace hu1 : PV kRg X wr u1 s := hu1
   rw [show a0.add 0 = a0 by simp [Addr.add]] at y0
   rw [show a1.add 0 = a1 by simp [Addr.add]] at y1
   obtain ⟨B0, f0, rfl, _, _⟩ := hu0.now
   obtain ⟨B1, f1, rfl, _, _⟩ := hu1.now
   have hm0 := hu0.max
   have HU0 := aM hu0
   have HU1 := aM hu1
   have HY := aM (show wr.cell? a0 = _ ∧ wr.cell? a1 = _ from ⟨y0, y1⟩)
   clear hu0 hu1
   by_cases hl : r.length = s.length
   case neg =>
    have d1 : ((r.length : Int) != (s.length : Int)) = true := bne_iff_ne.mpr (by omega)
    have d2 : ((r.length : Int) == (s.length : Int)) = false := bF (by omega)
    have e0 : q = false := by rw [HQ.out]; exact dF (fun h => hl (by rw [h]))
    subst e0
    clear hl
    go_wp2_with fail
    go_quiet (fail)
    have HB2 := aM (pw_below_drewN HB.out nq)
    go_wp2_with fail
    go_ret
    exact ⟨rfl, HB2.out⟩
   case pos =>
    have d1 : ((r.length : Int) != (s.length : Int)) = false := bne_eq_false_iff_eq.mpr (by omega)
    have d2 : ((r.length : Int) == (s.length : Int)) = true := beq_iff_eq.mpr (by omega)
    have HL := aM hl
    clear hl
    go_wp2_with fail
    go_quiet (fail)
    have HB2 := aM (pw_below_drewN HB.out nq)
    have HBn := aM (bn wr nq)
    obtain ⟨wq, hwq⟩ : ∃ x, x = wr.drewN nq := ⟨_, rfl⟩
    rw [← hwq] at HB2 HBn ⊢
    clear hwq y0 y1
    go_wp2_with fail
    go_loopg [6] r.length (fun m v6 w' => ∃ (k : Nat), v6 = .int .i64 k ∧ Aside0 (k + m = r.length) ∧ Aside0 (r.take k = s.take k) ∧ Aside0 (Below wr.heap.size wr w'))
    case atStart => exact ⟨0, rfl, ⟨by omega⟩, ⟨rfl⟩, HBn⟩
    case round =>
     clear HBn HB2
     obtain ⟨k, rfl, HK, HT2, HB2⟩ := hrel
     have y0 := pw_cell_below HB2.out HY.out.1
     have y1 := pw_cell_below HB2.out HY.out.2
     cases gk with
     | zero =>
      have hd : decide ((k : Int) < (r.length : Int)) = false := dF (by have := HK.out; omega)
      have hd2 : decide (k < r.length) = false := dF (by have := HK.out; omega)
      have HE := aM (alike_end r s k HT2.out (by have := HK.out; omega) (by have := HK.out; have := HL.out; omega))
      go_wp2_with fail
      go_roundg 0
      case measure => omega
      case rel => exact ⟨1, by go_num, ⟨by omega⟩, ⟨fun _ => HE.out⟩, ⟨below_step HB.out HB2.out⟩⟩
     | succ k2 =>
      have hj : k < r.length := by have := HK.out; omega
      have hj2 : k < s.length := by have := HL.out; omega
      have hd : decide ((k : Int) < (r.length : Int)) = true := dT (by omega)
      have hd2 : decide (k < r.length) = true := dT hj
      have hj0 : (0 : Int) ≤ (k : Int) := by omega
      have hj1 : (k : Int) < (r.length : Int) := by omega
      have hj3 : (k : Int) < (s.length : Int) := by omega
      obtain ⟨ad, c, e, x0, x1⟩ := rg_cell (HU0.out.below HB2.out) k hj
      cases e
      obtain ⟨ad2, c2, e2, z0, z1⟩ := rg_cell (HU1.out.below HB2.out) k hj2
      cases e2
      by_cases c : r.getD k z143 = s.getD k z143
      ·have HT3 := aM (alike_step r s _ k HT2.out hj hj2 c)
       rw [← c] at z0 z1
       clear c
       generalize r.getD k z143 = p at *
       go_wp2_with fail
       go_quiet (fail)
       have HB3 := aM (pw_below_drewN HB2.out nq)
       go_wp2_with fail
       go_roundg k2
       case measure => omega
       case rel => exact ⟨k + 1, by go_num, ⟨by have := HK.out; omega⟩, HT3, HB3⟩
      ·have e0 : q = false := by
        rw [HQ.out]
        exact dF (fun h => c (by rw [h]))
       subst e0
       have c3 : ¬ ((r.getD k z143).f0 = (s.getD k z143).f0 ∧ (r.getD k z143).f1 = (s.getD k z143).f1) := fun h => c (by
        generalize r.getD k z143 = p at *
        generalize s.getD k z143 = t at *
        cases p; cases t; simp_all)
       clear c
       generalize r.getD k z143 = p at *
       generalize s.getD k z143 = t at *
       by_cases c4 : p.f0 = t.f0
       case' pos =>
        have c5 : ¬ p.f1 = t.f1 := fun h => c3 ⟨c4, h⟩
        have d5 : (p.f1 == t.f1) = false := bF c5
        rw [← c4] at z0
       case' neg =>
        have d5 : (p.f0 == t.f0) = false := bF c4
       all_goals
        clear c3
        go_wp2_with fail
        go_quiet (fail)
        have HB3 := aM (pw_below_drewN (below_step HB.out HB2.out) nq)
        go_wp2_with fail
        go_ret
        exact ⟨rfl, HB3.out⟩
end Go.Proofs.YtplhfgobeicegaaGreatDoor.P
namespace Go.Proofs.YtplhfgobeicegaaGreatDoor.P
open Go Go.RowKit Go.Proofs.YtplhfgobeicegaaGreatDoorW.PrintWords Go.Proofs.YtplhfgobeicegaaGreatDoorW.PrintLast Go.Proofs.YtplhfgobeicegaaGreatDoorW.PrintMore Go.Proofs.YtplhfgobeicegaaGreatDoor.PX
set_option linter.unusedVariables false
set_option linter.unusedSimpArgs false
set_option maxRecDepth 100000
set_option maxHeartbeats 8000000 in
theorem same13_calls (X : Nat → Prop) (ua ub : Value) (pa pb : Pl) (w : World) (hX : ∀ k, X k → k < w.heap.size) (ha : PV kWy X w ua pa.f1) (hb : PV kWy X w ub pb.f1) :
  Calls Tryz.prog 67 #[.agg #[.int .i64 pa.f0, ua], .agg #[.int .i64 pb.f0, ub]] w fun e w' => e = .returned (.bool (decide (pa = pb))) ∧ Below w.heap.size w w' := by
 have H0 := aM ha
 have H1 := aM hb
 have mx := ha.max
 obtain ⟨Aa, ca, rfl, _, _⟩ := ha.now
 obtain ⟨Ab, cb, rfl, _, _⟩ := hb.now
 have HS := aM (((Sep.start hX).push_box [.int .i64 pa.f0, .slice Aa pa.f1.length ca] 115).push_box' [.int .i64 pb.f0, .slice Ab pb.f1.length cb] 115 (w.heap.size + 1) (by simp))
 obtain ⟨q, hq⟩ : ∃ q, q = decide (pa = pb) := ⟨_, rfl⟩
 rw [← hq]
 have HQ := aM (show q = true ↔ (pa.f0 = pb.f0 ∧ pa.f1 = pb.f1) by
  rw [hq, decide_eq_true_iff]
  exact ⟨fun h => by rw [h]; exact ⟨rfl, rfl⟩, fun h => by cases pa; cases pb; simp_all⟩)
 clear ha hb hX hq
 have no : ∀ {p : Prop}, (q = true → p) → ¬ p → q = false := fun h hp => by
  cases q
  ·rfl
  ·exact absurd (h rfl) hp
 have HNO := aM (fun (p : Prop) (h : q = true → p) (hp : ¬ p) => no h hp)
 clear no
 generalize pa.f0 = ta at *
 generalize pb.f0 = tb at *
 obtain ⟨la, hla⟩ : ∃ l, l = pa.f1 := ⟨_, rfl⟩
 obtain ⟨lb, hlb⟩ : ∃ l, l = pb.f1 := ⟨_, rfl⟩
 rw [← hla] at H0 HS HQ mx ⊢
 rw [← hlb] at H1 HS HQ ⊢
 clear hla hlb
 rcases Decidable.em (ta = tb ∧ la.length = lb.length) with hc | hc
 case inr =>
  have q0 : q = false := HNO.out _ (fun h => (HQ.out.1 h)) (fun h => hc ⟨h.1, by rw [h.2]⟩)
  clear HQ
  subst q0
  rcases Decidable.em (ta = tb) with h1 | h1
  case' inl =>
   have hl : la.length ≠ lb.length := fun h => hc ⟨h1, h⟩
   have d1 : (ta == tb) = true := beq_iff_eq.mpr h1
   have d2 : (ta != tb) = false := bne_eq_false_iff_eq.mpr h1
   have d3 : ((la.length : Int) == (lb.length : Int)) = false := bF (by omega)
   have d4 : ((la.length : Int) != (lb.length : Int)) = true := bne_iff_ne.mpr (by omega)
  case' inr =>
   have d1 : (ta == tb) = false := bF h1
   have d2 : (ta != tb) = true := bne_iff_ne.mpr h1
  all_goals
   clear hc h1
   go_enter Tryz.func67, Tryz.ntmps67
   go_wp2_with fail
   go_ret
   exact ⟨rfl, HS.out.below⟩
 case inl =>
  obtain ⟨h1, h2⟩ := hc
  have d1 : (ta == tb) = true := beq_iff_eq.mpr h1
  have d2 : (ta != tb) = false := bne_eq_false_iff_eq.mpr h1
  have d3 : ((la.length : Int) == (lb.length : Int)) = true := beq_iff_eq.mpr (by omega)
  have d4 : ((la.length : Int) != (lb.length : Int)) = false := bne_eq_false_iff_eq.mpr (by omega)
  have HL := aM h2
  have HQ2 := aM (show q = true ↔ la = lb from ⟨fun h => (HQ.out.1 h).2, fun h => HQ.out.2 ⟨h1, h⟩⟩)
  clear HQ h2 h1
  go_enter Tryz.func67, Tryz.ntmps67
  go_wp2_with fail
  obtain ⟨g1, hg1⟩ : ∃ g, g = w.heap.size + 1 := ⟨_, rfl⟩
  obtain ⟨g0, hg0⟩ : ∃ g, g = w.heap.size := ⟨_, rfl⟩
  rw [← hg1, ← hg0] at HS ⊢
  clear hg0 hg1 d1 d2 d3 d4
  go_loopg [5] la.length (fun m v5 w' => ∃ (i : Nat), v5 = .int .i64 i ∧ Aside0 (i + m = la.length) ∧ Aside0 (la.take i = lb.take i) ∧ Aside0 (Sep X w w' [.box g0 115 [.int .i64 ta, .slice Aa la.length ca], .box g1 115 [.int .i64 tb, .slice Ab lb.length cb]]))
  case atStart => exact ⟨0, rfl, ⟨by omega⟩, ⟨rfl⟩, HS⟩
  case round =>
   clear HS
   obtain ⟨i, rfl, HJ, HT, HS⟩ := hrel
   have y0 := (HS.out.box 0 rfl).cell 1 rfl
   cases gk with
   | zero =>
    have e1 : decide ((i : Int) < (la.length : Int)) = false := dF (by have := HJ.out; omega)
    have e2 : decide (i < la.length) = false := dF (by have := HJ.out; omega)
    have q0 : q = true := HQ2.out.2 (alike_end la lb i HT.out (by have := HJ.out; omega) (by have := HJ.out; have := HL.out; omega))
    clear HQ2 HNO
    subst q0
    go_wp2_with fail
    go_ret
    exact ⟨rfl, HS.out.below⟩
   | succ k1 =>
    have hj : i < la.length := by have := HJ.out; omega
    have hj2 : i < lb.length := by have := HL.out; omega
    have e1 : decide ((i : Int) < (la.length : Int)) = true := dT (by omega)
    have e2 : decide (i < la.length) = true := dT hj
    have hi0 : (0 : Int) ≤ (i : Int) := by omega
    have hi1 : (i : Int) < (la.length : Int) := by omega
    have hi2 : (i : Int) < (lb.length : Int) := by omega
    obtain ⟨aa, ca', ra, ea, x0, x1, hra⟩ := wy_cell H0.out i hj
    cases ea
    obtain ⟨ab, cb', rb, eb, z0, z1, hrb⟩ := wy_cell H1.out i hj2
    cases eb
    obtain ⟨Ar, cr, rfl, _, _⟩ := hra.now
    obtain ⟨As, cs, rfl, _, _⟩ := hrb.now
    have HRA := aM hra
    have HRB := aM hrb
    have HY := aM (And.intro x0 (And.intro x1 (And.intro z0 z1)))
    have HST := aM (fun h => alike_step la lb z141 i HT.out hj hj2 h)
    have HSN := aM (fun (h : la = lb) => show la.getD i z141 = lb.getD i z141 by rw [h])
    generalize la.getD i z141 = wa at *
    generalize lb.getD i z141 = wb at *
    clear x0 x1 z0 z1 hra hrb HT
    go_wp2_with fail
    clear y0
    by_cases c : wa.f1 = wb.f1
    case neg =>
     have d1 : (wa.f1 == wb.f1) = false := bF c
     have d2 : (wa.f1 != wb.f1) = true := bne_iff_ne.mpr c
     have q0 : q = false := HNO.out _ (fun h => HSN.out (HQ2.out.1 h)) (fun h => c (by rw [h]))
     clear HQ2 HNO HSN HST
     subst q0
     have hs := HS.out.drew
     clear HS; have HS := aM hs; clear hs
     refine start_ (n := 31) (S := fun w' => w'.cell? ⟨g0, 1, none⟩ = some (.slice (some aa) la.length ca) ∧ w'.cell? ⟨g1, 1, none⟩ = some (.slice (some ab) lb.length cb) ∧ w'.cell? ⟨(aa.add (i * 2)).block, (aa.add (i * 2)).off + 1, none⟩ = some (.int .i64 wa.f1) ∧ w'.cell? ⟨(ab.add (i * 2)).block, (ab.add (i * 2)).off + 1, none⟩ = some (.int .i64 wb.f1)) (ds := []) #[false, false, false, false, false, false, false, false, false, false, false, false, false, false, false, false, false, false, false, false, false, false, false, false, false, false, false, false, false, false, false] (by kernel_rfl) rfl rfl ⟨((HS.out.box 0 rfl).cell 1 rfl), ((HS.out.box 1 rfl).cell 1 rfl), (pw_cell_below HS.out.below HY.out.2.1), (pw_cell_below HS.out.below HY.out.2.2.2)⟩ (fun hHeld => ?_)
     refine pure_ (i := 0) (N := some 27) (v := ?_) (a' := ?_) (bv 31 1) rfl rfl (by kernel_rfl) (fun _ _ _ h => h) (Or.inl ⟨by rfl, ?_⟩) ?_ ?_
     rotate_left
     ·intro w'
      go_simp
      with_reducible rfl
     rotate_left
     ·simp only [Act.put, qA, qB, qC, i64_w, i32_w]
      rfl
     refine pure_ (i := 2) (N := some 29) (v := ?_) (a' := ?_) (bv 31 5) rfl rfl (by kernel_rfl) (fun _ _ _ h => h) (Or.inl ⟨by rfl, ?_⟩) ?_ ?_
     rotate_left
     ·intro w'
      go_simp
      with_reducible rfl
     rotate_left
     ·simp only [Act.put, qA, qB, qC, i64_w, i32_w]
      rfl
     refine pure_ (i := 6) (N := some 33) (v := ?_) (a' := ?_) (bv 31 69) rfl rfl (by kernel_rfl) (fun _ _ _ h => h) (Or.inl ⟨by rfl, ?_⟩) ?_ ?_
     rotate_left
     ·intro w'
      go_simp
      with_reducible rfl
     rotate_left
     ·simp only [Act.put, qA, qB, qC, i64_w, i32_w]
      rfl
     refine pure_ (i := 8) (N := some 35) (v := ?_) (a' := ?_) (bv 31 325) rfl rfl (by kernel_rfl) (fun _ _ _ h => h) (Or.inl ⟨by rfl, ?_⟩) ?_ ?_
     rotate_left
     ·intro w'
      go_simp
      with_reducible rfl
     rotate_left
     ·simp only [Act.put, qA, qB, qC, i64_w, i32_w]
      rfl
     refine take_ (i := 1) (N := some 28) (v := ?_) (a' := ?_) (bv 31 327) rfl rfl (by kernel_rfl) (fun _ _ _ h => h) (Or.inl ⟨by rfl, ?_⟩) hHeld ?_ ?_
     rotate_left
     ·rintro w' ⟨s0, s1, s2, s3⟩
      go_simp
      with_reducible rfl
     rotate_left
     ·simp only [Act.put, qA, qB, qC, i64_w, i32_w]
      rfl
     refine pure_ (i := 3) (N := some 30) (v := ?_) (a' := ?_) (bv 31 335) rfl rfl (by kernel_rfl) (fun _ _ _ h => h) (Or.inl ⟨by rfl, ?_⟩) ?_ ?_
     rotate_left
     ·intro w'
      go_simp
      with_reducible rfl
     rotate_left
     ·simp only [Act.put, qA, qB, qC, i64_w, i32_w]
      rfl
     refine pure_ (i := 4) (N := some 31) (v := ?_) (a' := ?_) (bv 31 351) rfl rfl (by kernel_rfl) (fun _ _ _ h => h) (Or.inl ⟨by rfl, ?_⟩) ?_ ?_
     rotate_left
     ·intro w'
      go_simp
      with_reducible rfl
     rotate_left
     ·simp only [Act.put, qA, qB, qC, i64_w, i32_w]
      rfl
     refine take_ (i := 5) (N := some 32) (v := ?_) (a' := ?_) (bv 31 383) rfl rfl (by kernel_rfl) (fun _ _ _ h => h) (Or.inl ⟨by rfl, ?_⟩) hHeld ?_ ?_
     rotate_left
     ·rintro w' ⟨s0, s1, s2, s3⟩
      go_simp
      with_reducible rfl
     rotate_left
     ·simp only [Act.put, qA, qB, qC, i64_w, i32_w]
      rfl
     refine take_ (i := 7) (N := some 34) (v := ?_) (a' := ?_) (bv 31 511) rfl rfl (by kernel_rfl) (fun _ _ _ h => h) (Or.inl ⟨by rfl, ?_⟩) hHeld ?_ ?_
     rotate_left
     ·rintro w' ⟨s0, s1, s2, s3⟩
      go_simp
      with_reducible rfl
     rotate_left
     ·simp only [Act.put, qA, qB, qC, i64_w, i32_w]
      rfl
     refine pure_ (i := 9) (N := some 36) (v := ?_) (a' := ?_) (bv 31 1023) rfl rfl (by kernel_rfl) (fun _ _ _ h => h) (Or.inl ⟨by rfl, ?_⟩) ?_ ?_
     rotate_left
     ·intro w'
      go_simp
      with_reducible rfl
     rotate_left
     ·simp only [Act.put, qA, qB, qC, i64_w, i32_w]
      rfl
     refine pure_ (i := 10) (N := some 37) (v := ?_) (a' := ?_) (bv 31 2047) rfl rfl (by kernel_rfl) (fun _ _ _ h => h) (Or.inl ⟨by rfl, ?_⟩) ?_ ?_
     rotate_left
     ·intro w'
      go_simp
      with_reducible rfl
     rotate_left
     ·simp only [Act.put, qA, qB, qC, i64_w, i32_w]
      rfl
     refine take_ (i := 11) (N := some 38) (v := ?_) (a' := ?_) (bv 31 4095) rfl rfl (by kernel_rfl) (fun _ _ _ h => h) (Or.inl ⟨by rfl, ?_⟩) hHeld ?_ ?_
     rotate_left
     ·rintro w' ⟨s0, s1, s2, s3⟩
      go_simp
      with_reducible rfl
     rotate_left
     ·simp only [Act.put, qA, qB, qC, i64_w, i32_w]
      rfl
     refine pure_ (i := 12) (N := some 39) (v := ?_) (a' := ?_) (bv 31 8191) rfl rfl (by kernel_rfl) (fun _ _ _ h => h) (Or.inl ⟨by rfl, ?_⟩) ?_ ?_
     rotate_left
     ·intro w'
      go_simp
      with_reducible rfl
     rotate_left
     ·simp only [Act.put, qA, qB, qC, i64_w, i32_w]
      rfl
     refine pure_ (i := 13) (N := some 40) (v := ?_) (a' := ?_) (bv 31 16383) rfl rfl (by kernel_rfl) (fun _ _ _ h => h) (Or.inl ⟨by rfl, ?_⟩) ?_ ?_
     rotate_left
     ·intro w'
      go_simp
      with_reducible rfl
     rotate_left
     ·simp only [Act.put, qA, qB, qC, i64_w, i32_w]
      rfl
     refine pure_ (i := 14) (N := some 41) (v := undef) (a' := ?_) (bv 31 32767) rfl rfl (by kernel_rfl) (fun _ _ _ h => h) (Or.inr ⟨by rfl, rfl⟩) ?_ ?_
     rotate_left
     ·simp only [Act.put, qA, qB, qC, i64_w, i32_w]
      rfl
     refine pure_ (i := 15) (N := some 42) (v := undef) (a' := ?_) (bv 31 65535) rfl rfl (by kernel_rfl) (fun _ _ _ h => h) (Or.inr ⟨by rfl, rfl⟩) ?_ ?_
     rotate_left
     ·simp only [Act.put, qA, qB, qC, i64_w, i32_w]
      rfl
     refine pure_ (i := 16) (N := some 43) (v := undef) (a' := ?_) (bv 31 131071) rfl rfl (by kernel_rfl) (fun _ _ _ h => h) (Or.inr ⟨by rfl, rfl⟩) ?_ ?_
     rotate_left
     ·simp only [Act.put, qA, qB, qC, i64_w, i32_w]
      rfl
     refine pure_ (i := 17) (N := some 44) (v := undef) (a' := ?_) (bv 31 262143) rfl rfl (by kernel_rfl) (fun _ _ _ h => h) (Or.inr ⟨by rfl, rfl⟩) ?_ ?_
     rotate_left
     ·simp only [Act.put, qA, qB, qC, i64_w, i32_w]
      rfl
     refine pure_ (i := 18) (N := some 45) (v := undef) (a' := ?_) (bv 31 524287) rfl rfl (by kernel_rfl) (fun _ _ _ h => h) (Or.inr ⟨by rfl, rfl⟩) ?_ ?_
     rotate_left
     ·simp only [Act.put, qA, qB, qC, i64_w, i32_w]
      rfl
     refine pure_ (i := 19) (N := some 46) (v := undef) (a' := ?_) (bv 31 1048575) rfl rfl (by kernel_rfl) (fun _ _ _ h => h) (Or.inr ⟨by rfl, rfl⟩) ?_ ?_
     rotate_left
     ·simp only [Act.put, qA, qB, qC, i64_w, i32_w]
      rfl
     refine pure_ (i := 20) (N := some 47) (v := undef) (a' := ?_) (bv 31 2097151) rfl rfl (by kernel_rfl) (fun _ _ _ h => h) (Or.inr ⟨by rfl, rfl⟩) ?_ ?_
     rotate_left
     ·simp only [Act.put, qA, qB, qC, i64_w, i32_w]
      rfl
     refine pure_ (i := 21) (N := some 48) (v := undef) (a' := ?_) (bv 31 4194303) rfl rfl (by kernel_rfl) (fun _ _ _ h => h) (Or.inr ⟨by rfl, rfl⟩) ?_ ?_
     rotate_left
     ·simp only [Act.put, qA, qB, qC, i64_w, i32_w]
      rfl
     refine pure_ (i := 22) (N := some 49) (v := undef) (a' := ?_) (bv 31 8388607) rfl rfl (by kernel_rfl) (fun _ _ _ h => h) (Or.inr ⟨by rfl, rfl⟩) ?_ ?_
     rotate_left
     ·simp only [Act.put, qA, qB, qC, i64_w, i32_w]
      rfl
     refine pure_ (i := 23) (N := some 50) (v := undef) (a' := ?_) (bv 31 16777215) rfl rfl (by kernel_rfl) (fun _ _ _ h => h) (Or.inr ⟨by rfl, rfl⟩) ?_ ?_
     rotate_left
     ·simp only [Act.put, qA, qB, qC, i64_w, i32_w]
      rfl
     refine pure_ (i := 24) (N := some 51) (v := undef) (a' := ?_) (bv 31 33554431) rfl rfl (by kernel_rfl) (fun _ _ _ h => h) (Or.inr ⟨by rfl, rfl⟩) ?_ ?_
     rotate_left
     ·simp only [Act.put, qA, qB, qC, i64_w, i32_w]
      rfl
     refine pure_ (i := 25) (N := some 52) (v := undef) (a' := ?_) (bv 31 67108863) rfl rfl (by kernel_rfl) (fun _ _ _ h => h) (Or.inr ⟨by rfl, rfl⟩) ?_ ?_
     rotate_left
     ·simp only [Act.put, qA, qB, qC, i64_w, i32_w]
      rfl
     refine pure_ (i := 26) (N := some 53) (v := undef) (a' := ?_) (bv 31 134217727) rfl rfl (by kernel_rfl) (fun _ _ _ h => h) (Or.inr ⟨by rfl, rfl⟩) ?_ ?_
     rotate_left
     ·simp only [Act.put, qA, qB, qC, i64_w, i32_w]
      rfl
     refine pure_ (i := 27) (N := some 54) (v := undef) (a' := ?_) (bv 31 268435455) rfl rfl (by kernel_rfl) (fun _ _ _ h => h) (Or.inr ⟨by rfl, rfl⟩) ?_ ?_
     rotate_left
     ·simp only [Act.put, qA, qB, qC, i64_w, i32_w]
      rfl
     refine pure_ (i := 28) (N := some 55) (v := undef) (a' := ?_) (bv 31 536870911) rfl rfl (by kernel_rfl) (fun _ _ _ h => h) (Or.inr ⟨by rfl, rfl⟩) ?_ ?_
     rotate_left
     ·simp only [Act.put, qA, qB, qC, i64_w, i32_w]
      rfl
     refine pure_ (i := 29) (N := some 56) (v := undef) (a' := ?_) (bv 31 1073741823) rfl rfl (by kernel_rfl) (fun _ _ _ h => h) (Or.inr ⟨by rfl, rfl⟩) ?_ ?_
     rotate_left
     ·simp only [Act.put, qA, qB, qC, i64_w, i32_w]
      rfl
     refine pure_ (i := 30) (N := some 57) (v := ?_) (a' := ?_) (bv 31 2147483647) rfl rfl (by kernel_rfl) (fun _ _ _ h => h) (Or.inl ⟨by rfl, ?_⟩) ?_ ?_
     rotate_left
     ·intro w'
      go_simp
      with_reducible rfl
     rotate_left
     ·simp only [Act.put, qA, qB, qC, i64_w, i32_w]
      rfl
     refine done_ (by kernel_rfl) ?_
     go_wp2_with fail
     go_ret
     exact ⟨rfl, HS.out.below⟩
    case pos =>
     have d1 : (wa.f1 == wb.f1) = true := beq_iff_eq.mpr c
     have d2 : (wa.f1 != wb.f1) = false := bne_eq_false_iff_eq.mpr c
     obtain ⟨qb, hqb⟩ : ∃ b, b = decide (wa.f0 = wb.f0) := ⟨_, rfl⟩
     have HQB := aM hqb.symm
     clear hqb
     have hs := HS.out.drew
     clear HS; have HS := aM hs; clear hs
     refine start_ (n := 31) (S := fun w' => w'.cell? ⟨g0, 1, none⟩ = some (.slice (some aa) la.length ca) ∧ w'.cell? ⟨g1, 1, none⟩ = some (.slice (some ab) lb.length cb) ∧ w'.cell? ⟨(aa.add (i * 2)).block, (aa.add (i * 2)).off + 1, none⟩ = some (.int .i64 wa.f1) ∧ w'.cell? ⟨(ab.add (i * 2)).block, (ab.add (i * 2)).off + 1, none⟩ = some (.int .i64 wb.f1) ∧ w'.cell? (aa.add (i * 2)) = some (.slice Ar wa.f0.length cr) ∧ w'.cell? (ab.add (i * 2)) = some (.slice As wb.f0.length cs)) (ds := [28]) #[false, false, false, false, false, false, false, false, false, false, false, false, false, false, false, false, false, false, false, false, false, false, false, false, false, false, false, false, false, false, false] (by kernel_rfl) rfl rfl ⟨((HS.out.box 0 rfl).cell 1 rfl), ((HS.out.box 1 rfl).cell 1 rfl), (pw_cell_below HS.out.below HY.out.2.1), (pw_cell_below HS.out.below HY.out.2.2.2), (pw_cell_below HS.out.below HY.out.1), (pw_cell_below HS.out.below HY.out.2.2.1)⟩ (fun hHeld => ?_)
     generalize wr.drew = wd at HS hHeld ⊢
     refine pure_ (i := 0) (N := some 27) (v := ?_) (a' := ?_) (bv 31 1) rfl rfl (by kernel_rfl) (fun _ _ _ h => h) (Or.inl ⟨by rfl, ?_⟩) ?_ ?_
     rotate_left
     ·intro w'
      go_simp
      with_reducible rfl
     rotate_left
     ·simp only [Act.put, qA, qB, qC, i64_w, i32_w]
      rfl
     refine pure_ (i := 2) (N := some 29) (v := ?_) (a' := ?_) (bv 31 5) rfl rfl (by kernel_rfl) (fun _ _ _ h => h) (Or.inl ⟨by rfl, ?_⟩) ?_ ?_
     rotate_left
     ·intro w'
      go_simp
      with_reducible rfl
     rotate_left
     ·simp only [Act.put, qA, qB, qC, i64_w, i32_w]
      rfl
     refine pure_ (i := 6) (N := some 33) (v := ?_) (a' := ?_) (bv 31 69) rfl rfl (by kernel_rfl) (fun _ _ _ h => h) (Or.inl ⟨by rfl, ?_⟩) ?_ ?_
     rotate_left
     ·intro w'
      go_simp
      with_reducible rfl
     rotate_left
     ·simp only [Act.put, qA, qB, qC, i64_w, i32_w]
      rfl
     refine pure_ (i := 8) (N := some 35) (v := ?_) (a' := ?_) (bv 31 325) rfl rfl (by kernel_rfl) (fun _ _ _ h => h) (Or.inl ⟨by rfl, ?_⟩) ?_ ?_
     rotate_left
     ·intro w'
      go_simp
      with_reducible rfl
     rotate_left
     ·simp only [Act.put, qA, qB, qC, i64_w, i32_w]
      rfl
     refine take_ (i := 1) (N := some 28) (v := ?_) (a' := ?_) (bv 31 327) rfl rfl (by kernel_rfl) (fun _ _ _ h => h) (Or.inl ⟨by rfl, ?_⟩) hHeld ?_ ?_
     rotate_left
     ·rintro w' ⟨s0, s1, s2, s3, s4, s5⟩
      go_simp
      with_reducible rfl
     rotate_left
     ·simp only [Act.put, qA, qB, qC, i64_w, i32_w]
      rfl
     refine pure_ (i := 3) (N := some 30) (v := ?_) (a' := ?_) (bv 31 335) rfl rfl (by kernel_rfl) (fun _ _ _ h => h) (Or.inl ⟨by rfl, ?_⟩) ?_ ?_
     rotate_left
     ·intro w'
      go_simp
      with_reducible rfl
     rotate_left
     ·simp only [Act.put, qA, qB, qC, i64_w, i32_w]
      rfl
     refine pure_ (i := 4) (N := some 31) (v := ?_) (a' := ?_) (bv 31 351) rfl rfl (by kernel_rfl) (fun _ _ _ h => h) (Or.inl ⟨by rfl, ?_⟩) ?_ ?_
     rotate_left
     ·intro w'
      go_simp
      with_reducible rfl
     rotate_left
     ·simp only [Act.put, qA, qB, qC, i64_w, i32_w]
      rfl
     refine take_ (i := 5) (N := some 32) (v := ?_) (a' := ?_) (bv 31 383) rfl rfl (by kernel_rfl) (fun _ _ _ h => h) (Or.inl ⟨by rfl, ?_⟩) hHeld ?_ ?_
     rotate_left
     ·rintro w' ⟨s0, s1, s2, s3, s4, s5⟩
      go_simp
      with_reducible rfl
     rotate_left
     ·simp only [Act.put, qA, qB, qC, i64_w, i32_w]
      rfl
     refine take_ (i := 7) (N := some 34) (v := ?_) (a' := ?_) (bv 31 511) rfl rfl (by kernel_rfl) (fun _ _ _ h => h) (Or.inl ⟨by rfl, ?_⟩) hHeld ?_ ?_
     rotate_left
     ·rintro w' ⟨s0, s1, s2, s3, s4, s5⟩
      go_simp
      with_reducible rfl
     rotate_left
     ·simp only [Act.put, qA, qB, qC, i64_w, i32_w]
      rfl
     refine pure_ (i := 9) (N := some 36) (v := ?_) (a' := ?_) (bv 31 1023) rfl rfl (by kernel_rfl) (fun _ _ _ h => h) (Or.inl ⟨by rfl, ?_⟩) ?_ ?_
     rotate_left
     ·intro w'
      go_simp
      with_reducible rfl
     rotate_left
     ·simp only [Act.put, qA, qB, qC, i64_w, i32_w]
      rfl
     refine pure_ (i := 10) (N := some 37) (v := ?_) (a' := ?_) (bv 31 2047) rfl rfl (by kernel_rfl) (fun _ _ _ h => h) (Or.inl ⟨by rfl, ?_⟩) ?_ ?_
     rotate_left
     ·intro w'
      go_simp
      with_reducible rfl
     rotate_left
     ·simp only [Act.put, qA, qB, qC, i64_w, i32_w]
      rfl
     refine take_ (i := 11) (N := some 38) (v := ?_) (a' := ?_) (bv 31 4095) rfl rfl (by kernel_rfl) (fun _ _ _ h => h) (Or.inl ⟨by rfl, ?_⟩) hHeld ?_ ?_
     rotate_left
     ·rintro w' ⟨s0, s1, s2, s3, s4, s5⟩
      go_simp
      with_reducible rfl
     rotate_left
     ·simp only [Act.put, qA, qB, qC, i64_w, i32_w]
      rfl
     refine pure_ (i := 12) (N := some 39) (v := ?_) (a' := ?_) (bv 31 8191) rfl rfl (by kernel_rfl) (fun _ _ _ h => h) (Or.inl ⟨by rfl, ?_⟩) ?_ ?_
     rotate_left
     ·intro w'
      go_simp
      with_reducible rfl
     rotate_left
     ·simp only [Act.put, qA, qB, qC, i64_w, i32_w]
      rfl
     refine pure_ (i := 13) (N := some 40) (v := ?_) (a' := ?_) (bv 31 16383) rfl rfl (by kernel_rfl) (fun _ _ _ h => h) (Or.inl ⟨by rfl, ?_⟩) ?_ ?_
     rotate_left
     ·intro w'
      go_simp
      with_reducible rfl
     rotate_left
     ·simp only [Act.put, qA, qB, qC, i64_w, i32_w]
      rfl
     refine pure_ (i := 14) (N := some 41) (v := ?_) (a' := ?_) (bv 31 32767) rfl rfl (by kernel_rfl) (fun _ _ _ h => h) (Or.inl ⟨by rfl, ?_⟩) ?_ ?_
     rotate_left
     ·intro w'
      go_simp
      with_reducible rfl
     rotate_left
     ·simp only [Act.put, qA, qB, qC, i64_w, i32_w]
      rfl
     refine pure_ (i := 16) (N := some 43) (v := ?_) (a' := ?_) (bv 31 98303) rfl rfl (by kernel_rfl) (fun _ _ _ h => h) (Or.inl ⟨by rfl, ?_⟩) ?_ ?_
     rotate_left
     ·intro w'
      go_simp
      with_reducible rfl
     rotate_left
     ·simp only [Act.put, qA, qB, qC, i64_w, i32_w]
      rfl
     refine pure_ (i := 21) (N := some 48) (v := ?_) (a' := ?_) (bv 31 2195455) rfl rfl (by kernel_rfl) (fun _ _ _ h => h) (Or.inl ⟨by rfl, ?_⟩) ?_ ?_
     rotate_left
     ·intro w'
      go_simp
      with_reducible rfl
     rotate_left
     ·simp only [Act.put, qA, qB, qC, i64_w, i32_w]
      rfl
     refine pure_ (i := 23) (N := some 50) (v := ?_) (a' := ?_) (bv 31 10584063) rfl rfl (by kernel_rfl) (fun _ _ _ h => h) (Or.inl ⟨by rfl, ?_⟩) ?_ ?_
     rotate_left
     ·intro w'
      go_simp
      with_reducible rfl
     rotate_left
     ·simp only [Act.put, qA, qB, qC, i64_w, i32_w]
      rfl
     refine take_ (i := 15) (N := some 42) (v := ?_) (a' := ?_) (bv 31 10616831) rfl rfl (by kernel_rfl) (fun _ _ _ h => h) (Or.inl ⟨by rfl, ?_⟩) hHeld ?_ ?_
     rotate_left
     ·rintro w' ⟨s0, s1, s2, s3, s4, s5⟩
      go_simp
      with_reducible rfl
     rotate_left
     ·simp only [Act.put, qA, qB, qC, i64_w, i32_w]
      rfl
     refine pure_ (i := 17) (N := some 44) (v := ?_) (a' := ?_) (bv 31 10747903) rfl rfl (by kernel_rfl) (fun _ _ _ h => h) (Or.inl ⟨by rfl, ?_⟩) ?_ ?_
     rotate_left
     ·intro w'
      go_simp
      with_reducible rfl
     rotate_left
     ·simp only [Act.put, qA, qB, qC, i64_w, i32_w]
      rfl
     refine pure_ (i := 18) (N := some 45) (v := ?_) (a' := ?_) (bv 31 11010047) rfl rfl (by kernel_rfl) (fun _ _ _ h => h) (Or.inl ⟨by rfl, ?_⟩) ?_ ?_
     rotate_left
     ·intro w'
      go_simp
      with_reducible rfl
     rotate_left
     ·simp only [Act.put, qA, qB, qC, i64_w, i32_w]
      rfl
     refine take_ (i := 19) (N := some 46) (v := ?_) (a' := ?_) (bv 31 11534335) rfl rfl (by kernel_rfl) (fun _ _ _ h => h) (Or.inl ⟨by rfl, ?_⟩) hHeld ?_ ?_
     rotate_left
     ·rintro w' ⟨s0, s1, s2, s3, s4, s5⟩
      go_simp
      with_reducible rfl
     rotate_left
     ·simp only [Act.put, qA, qB, qC, i64_w, i32_w]
      rfl
     refine take_ (i := 22) (N := some 49) (v := ?_) (a' := ?_) (bv 31 15728639) rfl rfl (by kernel_rfl) (fun _ _ _ h => h) (Or.inl ⟨by rfl, ?_⟩) hHeld ?_ ?_
     rotate_left
     ·rintro w' ⟨s0, s1, s2, s3, s4, s5⟩
      go_simp
      with_reducible rfl
     rotate_left
     ·simp only [Act.put, qA, qB, qC, i64_w, i32_w]
      rfl
     refine pure_ (i := 24) (N := some 51) (v := ?_) (a' := ?_) (bv 31 32505855) rfl rfl (by kernel_rfl) (fun _ _ _ h => h) (Or.inl ⟨by rfl, ?_⟩) ?_ ?_
     rotate_left
     ·intro w'
      go_simp
      with_reducible rfl
     rotate_left
     ·simp only [Act.put, qA, qB, qC, i64_w, i32_w]
      rfl
     refine pure_ (i := 25) (N := some 52) (v := ?_) (a' := ?_) (bv 31 66060287) rfl rfl (by kernel_rfl) (fun _ _ _ h => h) (Or.inl ⟨by rfl, ?_⟩) ?_ ?_
     rotate_left
     ·intro w'
      go_simp
      with_reducible rfl
     rotate_left
     ·simp only [Act.put, qA, qB, qC, i64_w, i32_w]
      rfl
     refine take_ (i := 26) (N := some 53) (v := ?_) (a' := ?_) (bv 31 133169151) rfl rfl (by kernel_rfl) (fun _ _ _ h => h) (Or.inl ⟨by rfl, ?_⟩) hHeld ?_ ?_
     rotate_left
     ·rintro w' ⟨s0, s1, s2, s3, s4, s5⟩
      go_simp
      with_reducible rfl
     rotate_left
     ·simp only [Act.put, qA, qB, qC, i64_w, i32_w]
      rfl
     refine join_ (σ := Value × Value) 3 (bv 31 268435455) (fun s => [(47, s.1), (54, s.2)]) (fun s w' => PX.Sep X w w' ([.box g0 115 [.int .i64 ta, .slice (some aa) la.length ca], .box g1 115 [.int .i64 tb, .slice (some ab) lb.length cb]] : List PX.Item) ∧ PV kRgs (Ys X ([.box g0 115 [.int .i64 ta, .slice (some aa) la.length ca], .box g1 115 [.int .i64 tb, .slice (some ab) lb.length cb]] : List PX.Item)) w' s.1 [wa.f0] ∧ PV kRgs (Ys X ([.box g0 115 [.int .i64 ta, .slice (some aa) la.length ca], .box g1 115 [.int .i64 tb, .slice (some ab) lb.length cb]] : List PX.Item)) w' s.2 [wb.f0]) ?_ ?_
     rotate_left
     ·intro hCont
      refine two_ (i := 20) (j := 27) (Ni := some 47) (Nj := some 54) (bv 31 134217727) (bv 31 267386879) rfl rfl rfl rfl (by kernel_rfl) (by decide) (by decide) (fun K hK => ?_) (fun K hK => ?_)
      ·skip
       refine value_ (w1 := ?_) (v := ?_) (by rfl) rfl ?_ ?_
       rotate_left 2
       ·go_simp
        constructor
        ·rfl
        ·rfl
       have hs := HS.out.lit_ro' (wd.heap.size) (by simp) kRgs 139 (xs := [wa.f0]) (inner := [.slice Ar wa.f0.length cr]) (Reps.one (PK.slice (HS.out.arg HRA.out)) (Reps.none _ _)) (by simp)
       clear HS; have HS := aM hs; clear hs
       refine hK.out _ _ ⟨((HS.out.box 0 rfl).cell 1 rfl), ((HS.out.box 1 rfl).cell 1 rfl), (pw_cell_below HS.out.below HY.out.2.1), (pw_cell_below HS.out.below HY.out.2.2.2), (pw_cell_below HS.out.below HY.out.1), (pw_cell_below HS.out.below HY.out.2.2.1)⟩ (fun hHeld => ?_)
       clear hK K
       refine norm_ (a' := ?_) ?_ ?_
       rotate_left
       ·show Act.put _ (some 47) _ = _
        simp only [Act.put, qA, qB, qC, i64_w, i32_w]
        rfl
       refine one_ (i := 27) (N := some 54) (bv 31 268435455) rfl rfl (by kernel_rfl) (by decide) (fun K hK => ?_)
       refine value_ (w1 := ?_) (v := ?_) (by rfl) rfl ?_ ?_
       rotate_left 2
       ·go_simp
        constructor
        ·rfl
        ·rfl
       have hs := HS.out.lit_ro' (wd.heap.size + 1) (by simp) kRgs 139 (xs := [wb.f0]) (inner := [.slice As wb.f0.length cs]) (Reps.one (PK.slice (HS.out.arg HRB.out)) (Reps.none _ _)) (by simp)
       clear HS; have HS := aM hs; clear hs
       refine hK.out _ _ ⟨((HS.out.box 0 rfl).cell 1 rfl), ((HS.out.box 1 rfl).cell 1 rfl), (pw_cell_below HS.out.below HY.out.2.1), (pw_cell_below HS.out.below HY.out.2.2.2), (pw_cell_below HS.out.below HY.out.1), (pw_cell_below HS.out.below HY.out.2.2.1)⟩ (fun hHeld => ?_)
       clear hK K
       refine norm_ (a' := ?_) ?_ ?_
       rotate_left
       ·show Act.put _ (some 54) _ = _
        simp only [Act.put, qA, qB, qC, i64_w, i32_w]
        rfl
       exact norm_ (by simp only [putAll, Act.put, qA, qB, qC]) (hCont (.slice (some ⟨wd.heap.size, 0, none⟩) 1 1, .slice (some ⟨wd.heap.size + 1, 0, none⟩) 1 1) _ ⟨HS.out.take 2, (HS.out.ro 2 rfl).to (fun _ _ h => Ys_app (Ys_app h)), (HS.out.ro 3 rfl).to (fun _ _ h => Ys_app (Ys_app h))⟩)
      ·skip
       refine value_ (w1 := ?_) (v := ?_) (by rfl) rfl ?_ ?_
       rotate_left 2
       ·go_simp
        constructor
        ·rfl
        ·rfl
       have hs := HS.out.lit_ro' (wd.heap.size) (by simp) kRgs 139 (xs := [wb.f0]) (inner := [.slice As wb.f0.length cs]) (Reps.one (PK.slice (HS.out.arg HRB.out)) (Reps.none _ _)) (by simp)
       clear HS; have HS := aM hs; clear hs
       refine hK.out _ _ ⟨((HS.out.box 0 rfl).cell 1 rfl), ((HS.out.box 1 rfl).cell 1 rfl), (pw_cell_below HS.out.below HY.out.2.1), (pw_cell_below HS.out.below HY.out.2.2.2), (pw_cell_below HS.out.below HY.out.1), (pw_cell_below HS.out.below HY.out.2.2.1)⟩ (fun hHeld => ?_)
       clear hK K
       refine norm_ (a' := ?_) ?_ ?_
       rotate_left
       ·show Act.put _ (some 54) _ = _
        simp only [Act.put, qA, qB, qC, i64_w, i32_w]
        rfl
       refine one_ (i := 20) (N := some 47) (bv 31 268435455) rfl rfl (by kernel_rfl) (by decide) (fun K hK => ?_)
       refine value_ (w1 := ?_) (v := ?_) (by rfl) rfl ?_ ?_
       rotate_left 2
       ·go_simp
        constructor
        ·rfl
        ·rfl
       have hs := HS.out.lit_ro' (wd.heap.size + 1) (by simp) kRgs 139 (xs := [wa.f0]) (inner := [.slice Ar wa.f0.length cr]) (Reps.one (PK.slice (HS.out.arg HRA.out)) (Reps.none _ _)) (by simp)
       clear HS; have HS := aM hs; clear hs
       refine hK.out _ _ ⟨((HS.out.box 0 rfl).cell 1 rfl), ((HS.out.box 1 rfl).cell 1 rfl), (pw_cell_below HS.out.below HY.out.2.1), (pw_cell_below HS.out.below HY.out.2.2.2), (pw_cell_below HS.out.below HY.out.1), (pw_cell_below HS.out.below HY.out.2.2.1)⟩ (fun hHeld => ?_)
       clear hK K
       refine norm_ (a' := ?_) ?_ ?_
       rotate_left
       ·show Act.put _ (some 47) _ = _
        simp only [Act.put, qA, qB, qC, i64_w, i32_w]
        rfl
       exact norm_ (by simp only [putAll, Act.put, qA, qB, qC]) (hCont (.slice (some ⟨wd.heap.size + 1, 0, none⟩) 1 1, .slice (some ⟨wd.heap.size, 0, none⟩) 1 1) _ ⟨HS.out.take 2, (HS.out.ro 3 rfl).to (fun _ _ h => Ys_app (Ys_app h)), (HS.out.ro 2 rfl).to (fun _ _ h => Ys_app (Ys_app h))⟩)
     rintro ⟨v47, v54⟩ w5 ⟨hs, hv47, hv54⟩
     have HV := aM (And.intro hv47 hv54)
     clear hHeld
     clear HS; have HS := aM hs; clear hs
     clear hv47 hv54
     have hHeld : True := trivial
     refine norm_ (a' := ?_) ?_ ?_
     rotate_left
     ·simp only [putAll, Act.put, qA, qB, qC]
      rfl
     refine last_ (i := 28) (N := some 55) #[true, true, true, true, true, true, true, true, true, true, true, true, true, true, true, true, true, true, true, true, true, true, true, true, true, true, true, true, true, false, false] rfl rfl (by kernel_rfl) (by decide) (fun K hK => ?_)
     refine goes_ Tryz.func85 (by kernel_rfl) rfl #[v47, v54] (by rfl) rfl rfl (by simp only [List.map_toArray, List.map_cons, List.map_nil]; rfl) ?_
     with_reducible refine (same03_calls _ v47 v54 wa.f0 wb.f0 _ HV.out.1 HV.out.2).mono ?_
     rintro e w6 ⟨rfl, hb6⟩
     refine ⟨_, rfl, ?_⟩
     rw [HQB.out]
     have hs := HS.out.call hb6
     clear hb6
     clear HS; have HS := aM hs; clear hs
     refine hK.out _ _ ?_
     clear hK K
     refine norm_ (a' := ?_) ?_ ?_
     rotate_left
     ·show Act.put _ (some 55) _ = _
      simp only [Act.put, qA, qB, qC, i64_w, i32_w]
      rfl
     refine pure_ (i := 29) (N := some 56) (v := ?_) (a' := ?_) (bv 31 1073741823) rfl rfl (by kernel_rfl) (fun _ _ _ h => h) (Or.inl ⟨by rfl, ?_⟩) ?_ ?_
     rotate_left
     ·intro w'
      go_simp
      with_reducible rfl
     rotate_left
     ·simp only [Act.put, qA, qB, qC, i64_w, i32_w]
      rfl
     refine pure_ (i := 30) (N := some 57) (v := ?_) (a' := ?_) (bv 31 2147483647) rfl rfl (by kernel_rfl) (fun _ _ _ h => h) (Or.inl ⟨by rfl, ?_⟩) ?_ ?_
     rotate_left
     ·intro w'
      go_simp
      with_reducible rfl
     rotate_left
     ·simp only [Act.put, qA, qB, qC, i64_w, i32_w]
      rfl
     refine done_ (by kernel_rfl) ?_
     cases qb
     case true =>
      have HE := aM (HST.out (by have h1 := of_decide_eq_true HQB.out; cases wa; cases wb; simp_all))
      go_wp2_with fail
      go_roundg k1
      case measure => omega
      case rel => exact ⟨i + 1, by go_num, ⟨by have := HJ.out; omega⟩, HE, HS⟩
     case false =>
      have q0 : q = false := HNO.out _ (fun h => HSN.out (HQ2.out.1 h)) (fun h => of_decide_eq_false HQB.out (by rw [h]))
      clear HQ2 HNO HSN HST
      subst q0
      go_wp2_with fail
      go_ret
      exact ⟨rfl, HS.out.below⟩
end Go.Proofs.YtplhfgobeicegaaGreatDoor.P
namespace Go.Proofs.YtplhfgobeicegaaGreatDoor.P
open Go Go.RowKit Go.Proofs.YtplhfgobeicegaaGreatDoorW.PrintWords Go.Proofs.YtplhfgobeicegaaGreatDoorW.PrintLast Go.Proofs.YtplhfgobeicegaaGreatDoorW.PrintMore Go.Proofs.YtplhfgobeicegaaGreatDoor.PX
set_option linter.unusedVariables false
set_option linter.unusedSimpArgs false
set_option maxRecDepth 100000
def findP (p : Pl) : List Pl → Nat
 | [] => 0
 | x :: t => if x = p then 0 else findP p t + 1
theorem findP_le (p : Pl) : ∀ l : List Pl, findP p l ≤ l.length
 | [] => Nat.le_refl _
 | x :: t => by
  have := findP_le p t
  rw [findP]
  split <;> simp <;> omega
set_option maxHeartbeats 8000000 in
theorem find_calls (X : Nat → Prop) (vl up : Value) (l : List Pl) (p : Pl) (w : World) (hX : ∀ k, X k → k < w.heap.size) (hl : PV kPl X w vl l) (hp : PV kWy X w up p.f1) :
  Calls Tryz.prog 68 #[vl, .agg #[.int .i64 p.f0, up]] w fun e w' => e = .returned (.int .i64 (findP p l : Nat)) ∧ Below w.heap.size w w' := by
 have H0 := aM hl
 have H1 := aM hp
 have mx := hl.max
 obtain ⟨Al, cl, rfl, _, _⟩ := hl.now
 have HS := aM ((Sep.start hX).push_box [.int .i64 p.f0, up] 115)
 obtain ⟨r, hr⟩ : ∃ r, r = findP p l := ⟨_, rfl⟩
 rw [← hr]
 have HR := aM (show 0 + findP p (l.drop 0) = r by rw [hr, Nat.zero_add]; rfl)
 clear hl hp hX hr
 go_enter Tryz.func68, Tryz.ntmps68
 go_wp2_with fail
 obtain ⟨g0, hg0⟩ : ∃ g, g = w.heap.size := ⟨_, rfl⟩
 rw [← hg0] at HS ⊢
 clear hg0
 go_loopg [5] l.length (fun m v5 w' => ∃ (i : Nat), v5 = .int .i64 i ∧ Aside0 (i + m = l.length) ∧ Aside0 (i + findP p (l.drop i) = r) ∧ Aside0 (Sep X w w' [.box g0 115 [.int .i64 p.f0, up]]))
 case atStart => exact ⟨0, rfl, ⟨by omega⟩, HR, HS⟩
 case round =>
  clear HS HR
  obtain ⟨i, rfl, HJ, HR, HS⟩ := hrel
  cases gk with
  | zero =>
   have e1 : decide ((i : Int) < (l.length : Int)) = false := dF (by have := HJ.out; omega)
   have e2 : decide (i < l.length) = false := dF (by have := HJ.out; omega)
   have q0 : l.length = r := by
    have h1 := HR.out
    rw [List.drop_eq_nil_of_le (by have := HJ.out; omega), findP] at h1
    have := HJ.out
    omega
   clear HR
   subst q0
   go_wp2_with fail
   go_ret
   exact ⟨rfl, HS.out.below⟩
  | succ k1 =>
   have hj : i < l.length := by have := HJ.out; omega
   have e1 : decide ((i : Int) < (l.length : Int)) = true := dT (by omega)
   have e2 : decide (i < l.length) = true := dT hj
   have hi0 : (0 : Int) ≤ (i : Int) := by omega
   have hi1 : (i : Int) < (l.length : Int) := by omega
   obtain ⟨al, cl', u, el, x0, x1, hu⟩ := pl_cell H0.out i hj
   cases el
   have HR1 := HR.out
   rw [drop_at l z115 i hj, findP] at HR1
   generalize l.getD i z115 = y at *
   obtain ⟨Au, cu, rfl, _, _⟩ := hu.now
   have HU := aM hu
   have HY := aM (And.intro x0 x1)
   have HR2 := aM HR1
   obtain ⟨qb, hqb⟩ : ∃ b, b = decide (y = p) := ⟨_, rfl⟩
   have HQB := aM hqb.symm
   clear x0 x1 hu HR1 HR hqb
   go_wp2_with fail
   have hs := HS.out.drew
   clear HS; have HS := aM hs; clear hs
   refine start_ (n := 6) (S := fun w' => w'.cell? ⟨g0, 0, none⟩ = some (.int .i64 p.f0) ∧ w'.cell? ⟨g0, 1, none⟩ = some up ∧ w'.cell? (al.add (i * 2)) = some (.int .i64 y.f0) ∧ w'.cell? ⟨(al.add (i * 2)).block, (al.add (i * 2)).off + 1, none⟩ = some (.slice Au y.f1.length cu)) (ds := [5]) #[false, false, false, false, false, false] (by kernel_rfl) rfl rfl ⟨((HS.out.box 0 rfl).cell 0 rfl), ((HS.out.box 0 rfl).cell 1 rfl), (pw_cell_below HS.out.below HY.out.1), (pw_cell_below HS.out.below HY.out.2)⟩ (fun hHeld => ?_)
   refine pure_ (i := 0) (N := some 12) (v := ?_) (a' := ?_) (bv 6 1) rfl rfl (by kernel_rfl) (fun _ _ _ h => h) (Or.inl ⟨by rfl, ?_⟩) ?_ ?_
   rotate_left
   ·intro w'
    go_simp
    with_reducible rfl
   rotate_left
   ·simp only [Act.put, qA, qB, qC, i64_w, i32_w]
    rfl
   refine pure_ (i := 1) (N := some 13) (v := ?_) (a' := ?_) (bv 6 3) rfl rfl (by kernel_rfl) (fun _ _ _ h => h) (Or.inl ⟨by rfl, ?_⟩) ?_ ?_
   rotate_left
   ·intro w'
    go_simp
    with_reducible rfl
   rotate_left
   ·simp only [Act.put, qA, qB, qC, i64_w, i32_w]
    rfl
   refine pure_ (i := 2) (N := some 14) (v := ?_) (a' := ?_) (bv 6 7) rfl rfl (by kernel_rfl) (fun _ _ _ h => h) (Or.inl ⟨by rfl, ?_⟩) ?_ ?_
   rotate_left
   ·intro w'
    go_simp
    with_reducible rfl
   rotate_left
   ·simp only [Act.put, qA, qB, qC, i64_w, i32_w]
    rfl
   refine take_ (i := 3) (N := some 15) (v := ?_) (a' := ?_) (bv 6 15) rfl rfl (by kernel_rfl) (fun _ _ _ h => h) (Or.inl ⟨by rfl, ?_⟩) hHeld ?_ ?_
   rotate_left
   ·rintro w' ⟨s0, s1, s2, s3⟩
    go_simp
    with_reducible rfl
   rotate_left
   ·simp only [Act.put, qA, qB, qC, i64_w, i32_w]
    rfl
   refine take_ (i := 4) (N := some 16) (v := ?_) (a' := ?_) (bv 6 31) rfl rfl (by kernel_rfl) (fun _ _ _ h => h) (Or.inl ⟨by rfl, ?_⟩) hHeld ?_ ?_
   rotate_left
   ·rintro w' ⟨s0, s1, s2, s3⟩
    go_simp
    with_reducible rfl
   rotate_left
   ·simp only [Act.put, qA, qB, qC, i64_w, i32_w]
    rfl
   refine last_ (i := 5) (N := some 17) #[true, true, true, true, true, true] rfl rfl (by kernel_rfl) (by decide) (fun K hK => ?_)
   refine goes_ Tryz.func67 (by kernel_rfl) rfl #[.agg #[.int .i64 y.f0, .slice Au y.f1.length cu], .agg #[.int .i64 p.f0, up]] (by rfl) rfl rfl (by simp only [List.map_toArray, List.map_cons, List.map_nil]; rfl) ?_
   with_reducible refine (same13_calls _ _ _ y p _ HS.out.lt (HS.out.arg HU.out) (HS.out.arg H1.out)).mono ?_
   rintro e w6 ⟨rfl, hb6⟩
   refine ⟨_, rfl, ?_⟩
   rw [HQB.out]
   have hs := HS.out.call hb6
   clear hb6
   clear HS; have HS := aM hs; clear hs
   refine hK.out _ _ ?_
   clear hK K
   refine norm_ (a' := ?_) ?_ ?_
   rotate_left
   ·show Act.put _ (some 17) _ = _
    simp only [Act.put, qA, qB, qC, i64_w, i32_w]
    rfl
   refine done_ (by kernel_rfl) ?_
   cases qb
   case true =>
    have HE := aM (show i = r by have h1 := HR2.out; rwa [if_pos (of_decide_eq_true HQB.out), Nat.add_zero] at h1)
    go_wp2_with fail
    go_ret
    exact ⟨by rw [← HE.out]; rfl, HS.out.below⟩
   case false =>
    have HE := aM (show i + 1 + findP p (l.drop (i + 1)) = r by have h1 := HR2.out; rw [if_neg (of_decide_eq_false HQB.out)] at h1; omega)
    go_wp2_with fail
    go_roundg k1
    case measure => omega
    case rel => exact ⟨i + 1, by go_num, ⟨by have := HJ.out; omega⟩, HE, HS⟩
end Go.Proofs.YtplhfgobeicegaaGreatDoor.P
