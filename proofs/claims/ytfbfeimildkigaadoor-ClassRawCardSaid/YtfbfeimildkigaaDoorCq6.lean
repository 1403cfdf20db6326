/- Part 6 of the proof: S13l, S13m, OP, LC, T04, T05, IT. -/
import Derived.ChangeArms
import Derived.ChangeOld
import Derived.DataReads
import Derived.Deep.DeepHandedRow
import Derived.LaidLaws
import Derived.Lay
import Derived.Lib.SmallJoins
import Derived.OpenShut
import Derived.ProofKit
import Derived.Shelf.Abstract
import Derived.SizedLaws
import Derived.Test.YtfbfeimildkigaaDoorCards
import Derived.Test.YtfbfeimildkigaaDoorTie
import Derived.Test.YtfbfeimildkigaaDoorCq5
namespace Go.Proofs.YtfbfeimildkigaaDoor.P
open Go Go.RowKit Go.Proofs.YtfbfeimildkigaaDoorW.PrintWords Go.Proofs.YtfbfeimildkigaaDoorW.PrintLast Go.Proofs.YtfbfeimildkigaaDoorW.PrintMore Go.Proofs.YtfbfeimildkigaaDoor.PX
set_option linter.unusedVariables false
set_option linter.unusedSimpArgs false
set_option maxRecDepth 100000
set_option maxHeartbeats 8000000 in
theorem bsame13_calls (X : Nat → Prop) (va vs vb vt : Value) (na nb : List (List Int)) (ta tb : List Int) (w : World) (hX : ∀ k, X k → k < w.heap.size)
    (hna : PV kRow X w va na) (hta : PV kInt X w vs ta) (hnb : PV kRow X w vb nb) (htb : PV kInt X w vt tb) :
    Calls Tryd.prog 14 #[.agg #[va, vs], .agg #[vb, vt]] w fun e w' => e = .returned (.bool (decide (na = nb ∧ ta = tb))) ∧ Below w.heap.size w w' := by
  have HA := Aside0.mk hna
  have HS_ := Aside0.mk hta
  have HB_ := Aside0.mk hnb
  have HT_ := Aside0.mk htb
  have m1 := hna.max
  have m2 := hta.max
  have m3 := hnb.max
  have m4 := htb.max
  obtain ⟨Aa, ca, rfl, _, _⟩ := hna.now
  obtain ⟨As, cs, rfl, _, _⟩ := hta.now
  obtain ⟨Ab, cb, rfl, _, _⟩ := hnb.now
  obtain ⟨At, ct, rfl, _, _⟩ := htb.now
  obtain ⟨g0, hg0⟩ : ∃ g, g = w.heap.size := ⟨_, rfl⟩
  have HS := Aside0.mk (((Sep.start hX).push_box' [.slice Aa na.length ca, .slice As ta.length cs] 27 g0 hg0).push_box' [.slice Ab nb.length cb, .slice At tb.length ct] 27 (g0 + 1) (by subst hg0; simp))
  obtain ⟨q, hq⟩ : ∃ q, q = decide (na = nb ∧ ta = tb) := ⟨_, rfl⟩
  rw [← hq]
  have HQ := Aside0.mk (show q = true ↔ (na = nb ∧ ta = tb) by rw [hq]; exact decide_eq_true_iff)
  clear hna hta hnb htb hX hq
  have no : ¬ (na = nb ∧ ta = tb) → q = false := fun h => by
    cases hqq : q
    · rfl
    · exact absurd (HQ.out.1 hqq) h
  have HNO := Aside0.mk no
  clear no
  rcases Nat.decEq na.length nb.length with h1 | h1
  case' isFalse =>
    have q0 : q = false := HNO.out (fun h => h1 (by rw [h.1]))
    have d1 : ((na.length : Int) == (nb.length : Int)) = false := beq_eq_false_iff_ne.mpr (by omega)
    have d1' : ((na.length : Int) != (nb.length : Int)) = true := bne_iff_ne.mpr (by omega)
  case' isTrue =>
    have d1 : ((na.length : Int) == (nb.length : Int)) = true := beq_iff_eq.mpr (by omega)
    have d1' : ((na.length : Int) != (nb.length : Int)) = false := bne_eq_false_iff_eq.mpr (by omega)
    rcases Nat.decEq ta.length tb.length with h2 | h2
  case' isTrue.isFalse =>
    have q0 : q = false := HNO.out (fun h => h2 (by rw [h.2]))
    have d2 : ((ta.length : Int) == (tb.length : Int)) = false := beq_eq_false_iff_ne.mpr (by omega)
    have d2' : ((ta.length : Int) != (tb.length : Int)) = true := bne_iff_ne.mpr (by omega)
  case isFalse =>
    clear HQ HNO
    subst q0
    clear h1
    go_enter Tryd.func14, Tryd.ntmps14
    go_wp2_with fail
    go_ret
    exact ⟨rfl, HS.out.below⟩
  case isTrue.isFalse =>
    clear HQ HNO
    subst q0
    clear h1 h2
    go_enter Tryd.func14, Tryd.ntmps14
    go_wp2_with fail
    go_ret
    exact ⟨rfl, HS.out.below⟩
  case isTrue.isTrue =>
    have d2 : ((ta.length : Int) == (tb.length : Int)) = true := beq_iff_eq.mpr (by omega)
    have d2' : ((ta.length : Int) != (tb.length : Int)) = false := bne_eq_false_iff_eq.mpr (by omega)
    have HL1 := Aside0.mk h1
    have HL2 := Aside0.mk h2
    clear h1 h2
    go_enter Tryd.func14, Tryd.ntmps14
    go_wp2_with fail
    rw [← hg0]
    obtain ⟨w1, hw1⟩ : ∃ x, x = (w.alloc (.cells #[.slice Aa na.length ca, .slice As ta.length cs] 27)).alloc (.cells #[.slice Ab nb.length cb, .slice At tb.length ct] 27) := ⟨_, rfl⟩
    replace HS := Aside0.mk (show Sep X w w1 _ by rw [hw1]; exact HS.out)
    rw [← hw1]
    clear hg0 hw1 d1 d1' d2 d2'
    go_loopg [5] ta.length (fun m v5 w' => ∃ (i : Nat), v5 = .int .i64 i ∧ Aside0 (i + m = ta.length) ∧ Aside0 (ta.take i = tb.take i) ∧ Aside0 (Sep X w w' [.box g0 27 [.slice Aa na.length ca, .slice As ta.length cs], .box (g0 + 1) 27 [.slice Ab nb.length cb, .slice At tb.length ct]]))
    case atStart => exact ⟨0, rfl, ⟨by omega⟩, ⟨rfl⟩, HS⟩
    case round =>
      clear HS
      obtain ⟨i, rfl, HJ, HI, HS⟩ := hrel
      have y0 := (HS.out.box 0 rfl).cell 1 rfl
      have y1 := (HS.out.box 1 rfl).cell 1 rfl
      cases gk with
      | succ k1 =>
        have hi : i < ta.length := by have := HJ.out; omega
        have hi' : i < tb.length := by have := HJ.out; have := HL2.out; omega
        have e1 : decide ((i : Int) < (ta.length : Int)) = true := decide_eq_true (by omega)
        have e2 : decide (i < ta.length) = true := decide_eq_true hi
        have hi0 : (0 : Int) ≤ (i : Int) := by omega
        have hi1 : (i : Int) < (ta.length : Int) := by omega
        have hi2 : (i : Int) < (tb.length : Int) := by omega
        obtain ⟨ax, cx, ex, yx0⟩ := int_cell HS_.out i hi
        cases ex
        obtain ⟨ay, cy, ey, yy0⟩ := int_cell HT_.out i hi'
        cases ey
        have yx := pw_cell_below HS.out.below yx0
        have yy := pw_cell_below HS.out.below yy0
        have HSTEP := Aside0.mk (alike_step ta tb 0 i HI.out hi hi')
        have HNE := Aside0.mk (fun (h : ta.getD i 0 ≠ tb.getD i 0) => HNO.out (fun hs => h (by rw [hs.2])))
        clear yx0 yy0
        generalize ta.getD i 0 = x at *
        generalize tb.getD i 0 = y at *
        by_cases c : x = y
        case' pos =>
          have HT3 := Aside0.mk (HSTEP.out c)
          subst c
        case' neg =>
          have q0 : q = false := HNE.out c
          have d3 : (x == y) = false := beq_eq_false_iff_ne.mpr c
          have d3' : (x != y) = true := bne_iff_ne.mpr c
          clear HQ HNO HNE HSTEP c
          subst q0
        case neg =>
          go_wp2_with fail
          go_quiet (fail)
          have HS2 := Aside0.mk (HS.out.drewN nq)
          go_wp2_with fail
          go_ret
          exact ⟨rfl, HS2.out.below⟩
        case pos =>
          go_wp2_with fail
          go_quiet (fail)
          have HS2 := Aside0.mk (HS.out.drewN nq)
          go_wp2_with fail
          go_roundg k1
          case measure => omega
          case rel => exact ⟨i + 1, by go_num, ⟨by have := HJ.out; omega⟩, HT3, HS2⟩
      | zero =>
        have e1 : decide ((i : Int) < (ta.length : Int)) = false := decide_eq_false (by have := HJ.out; omega)
        have e2 : decide (i < ta.length) = false := decide_eq_false (by have := HJ.out; omega)
        have HTT := Aside0.mk (alike_end ta tb i HI.out (by have := HJ.out; omega) (by have := HJ.out; have := HL2.out; omega))
        go_wp2_with fail
        clear y0 y1 e1 e2
        go_loopg [6] na.length (fun m v6 w' => ∃ (i : Nat), v6 = .int .i64 i ∧ Aside0 (i + m = na.length) ∧ Aside0 (na.take i = nb.take i) ∧ Aside0 (Sep X w w' [.box g0 27 [.slice Aa na.length ca, .slice As ta.length cs], .box (g0 + 1) 27 [.slice Ab nb.length cb, .slice At tb.length ct]]))
        case atStart => exact ⟨0, rfl, ⟨by omega⟩, ⟨rfl⟩, HS⟩
        case round =>
          clear HS HI HJ
          obtain ⟨i, rfl, HJ, HI, HS⟩ := hrel
          have y0 := (HS.out.box 0 rfl).cell 0 rfl
          have y1 := (HS.out.box 1 rfl).cell 0 rfl
          cases gk with
          | zero =>
            have e1 : decide ((i : Int) < (na.length : Int)) = false := decide_eq_false (by have := HJ.out; omega)
            have e2 : decide (i < na.length) = false := decide_eq_false (by have := HJ.out; omega)
            have HNN := Aside0.mk (alike_end na nb i HI.out (by have := HJ.out; omega) (by have := HJ.out; have := HL1.out; omega))
            have q0 : q = true := HQ.out.2 ⟨HNN.out, HTT.out⟩
            clear HQ HNO
            subst q0
            go_wp2_with fail
            go_ret
            exact ⟨rfl, HS.out.below⟩
          | succ k1 =>
            have hi : i < na.length := by have := HJ.out; omega
            have hi' : i < nb.length := by have := HJ.out; have := HL1.out; omega
            have e1 : decide ((i : Int) < (na.length : Int)) = true := decide_eq_true (by omega)
            have e2 : decide (i < na.length) = true := decide_eq_true hi
            have hi0 : (0 : Int) ≤ (i : Int) := by omega
            have hi1 : (i : Int) < (na.length : Int) := by omega
            have hi2 : (i : Int) < (nb.length : Int) := by omega
            obtain ⟨ax, cx, ux, ex, hux, yx0⟩ := HA.out.row i hi
            cases ex
            obtain ⟨ay, cy, uy, ey, huy, yy0⟩ := HB_.out.row i hi'
            cases ey
            have yx := pw_cell_below HS.out.below yx0
            have yy := pw_cell_below HS.out.below yy0
            have HSTEP := Aside0.mk (alike_step na nb [] i HI.out hi hi')
            have HNE := Aside0.mk (fun (h : na.getD i [] ≠ nb.getD i []) => HNO.out (fun hs => h (by rw [hs.1])))
            have HYX := Aside0.mk yx0
            have HYY := Aside0.mk yy0
            clear yx0 yy0
            obtain ⟨rx, hrx⟩ : ∃ r, r = na.getD i [] := ⟨_, rfl⟩
            obtain ⟨ry, hry⟩ : ∃ r, r = nb.getD i [] := ⟨_, rfl⟩
            rw [← hrx] at hux HSTEP HNE
            rw [← hry] at huy HSTEP HNE
            clear hrx hry
            have m5 := hux.max
            have m6 := huy.max
            obtain ⟨Ax, dx, rfl, _, _⟩ := hux.now
            obtain ⟨Ay, dy, rfl, _, _⟩ := huy.now
            have HUX := Aside0.mk hux
            have HUY := Aside0.mk huy
            clear hux huy
            rcases Nat.decEq rx.length ry.length with c | c
            case isFalse =>
              have q0 : q = false := HNE.out (fun h => c (by rw [h]))
              have d3 : ((rx.length : Int) == (ry.length : Int)) = false := beq_eq_false_iff_ne.mpr (by omega)
              have d3' : ((rx.length : Int) != (ry.length : Int)) = true := bne_iff_ne.mpr (by omega)
              clear HQ HNO HNE HSTEP c
              subst q0
              go_wp2_with fail
              go_quiet (fail)
              have HS2 := Aside0.mk (HS.out.drewN nq)
              go_wp2_with fail
              go_ret
              exact ⟨rfl, HS2.out.below⟩
            case isTrue =>
              have d3 : ((rx.length : Int) == (ry.length : Int)) = true := beq_iff_eq.mpr (by omega)
              have d3' : ((rx.length : Int) != (ry.length : Int)) = false := bne_eq_false_iff_eq.mpr (by omega)
              have HLR := Aside0.mk c
              clear c
              go_wp2_with fail
              go_quiet (fail)
              have HS2 := Aside0.mk (HS.out.drewN nq)
              obtain ⟨wq, hwq⟩ : ∃ x, x = wr.drewN nq := ⟨_, rfl⟩
              rw [← hwq] at HS2 ⊢
              clear hwq y0 y1 yx yy d3 d3'
              go_wp2_with fail
              clear HS
              go_loopg [7] rx.length (fun m v7 w' => ∃ (j : Nat), v7 = .int .i64 j ∧ Aside0 (j + m = rx.length) ∧ Aside0 (rx.take j = ry.take j) ∧ Aside0 (Sep X w w' [.box g0 27 [.slice (some ax) na.length ca, .slice As ta.length cs], .box (g0 + 1) 27 [.slice (some ay) nb.length cb, .slice At tb.length ct]]))
              case atStart => exact ⟨0, rfl, ⟨by omega⟩, ⟨rfl⟩, HS2⟩
              case round =>
                clear HS2
                obtain ⟨j, rfl, HJ2, HI2, HS⟩ := hrel
                have y0 := (HS.out.box 0 rfl).cell 0 rfl
                have y1 := (HS.out.box 1 rfl).cell 0 rfl
                have yx := pw_cell_below HS.out.below HYX.out
                have yy := pw_cell_below HS.out.below HYY.out
                cases gk with
                | zero =>
                  have e1 : decide ((j : Int) < (rx.length : Int)) = false := decide_eq_false (by have := HJ2.out; omega)
                  have e2 : decide (j < rx.length) = false := decide_eq_false (by have := HJ2.out; omega)
                  have HST := Aside0.mk (HSTEP.out (alike_end rx ry j HI2.out (by have := HJ2.out; omega) (by have := HJ2.out; have := HLR.out; omega)))
                  go_wp2_with fail
                  go_roundg k1
                  case measure => omega
                  case rel => exact ⟨i + 1, by go_num, ⟨by have := HJ.out; omega⟩, HST, HS⟩
                | succ j1 =>
                  have hj : j < rx.length := by have := HJ2.out; omega
                  have hj' : j < ry.length := by have := HJ2.out; have := HLR.out; omega
                  have e1 : decide ((j : Int) < (rx.length : Int)) = true := decide_eq_true (by omega)
                  have e2 : decide (j < rx.length) = true := decide_eq_true hj
                  have hj0 : (0 : Int) ≤ (j : Int) := by omega
                  have hj1 : (j : Int) < (rx.length : Int) := by omega
                  have hj2 : (j : Int) < (ry.length : Int) := by omega
                  obtain ⟨az, cz, ez, yz0⟩ := int_cell HUX.out j hj
                  cases ez
                  obtain ⟨at_, ct_, et, yt0⟩ := int_cell HUY.out j hj'
                  cases et
                  have yz := pw_cell_below HS.out.below yz0
                  have yt := pw_cell_below HS.out.below yt0
                  have HSTEP2 := Aside0.mk (alike_step rx ry 0 j HI2.out hj hj')
                  have HNE2 := Aside0.mk (fun (h : rx.getD j 0 ≠ ry.getD j 0) => HNE.out (fun hs => h (by rw [hs])))
                  clear yz0 yt0
                  generalize rx.getD j 0 = x at *
                  generalize ry.getD j 0 = y at *
                  by_cases c : x = y
                  case' pos =>
                    have HT3 := Aside0.mk (HSTEP2.out c)
                    subst c
                  case' neg =>
                    have q0 : q = false := HNE2.out c
                    have d3 : (x == y) = false := beq_eq_false_iff_ne.mpr c
                    have d3' : (x != y) = true := bne_iff_ne.mpr c
                    clear HQ HNO HNE HSTEP HNE2 HSTEP2 c
                    subst q0
                  case neg =>
                    go_wp2_with fail
                    go_quiet (fail)
                    have HS2 := Aside0.mk (HS.out.drewN nq)
                    go_wp2_with fail
                    go_ret
                    exact ⟨rfl, HS2.out.below⟩
                  case pos =>
                    go_wp2_with fail
                    go_quiet (fail)
                    have HS2 := Aside0.mk (HS.out.drewN nq)
                    go_wp2_with fail
                    go_roundg j1
                    case measure => omega
                    case rel => exact ⟨j + 1, by go_num, ⟨by have := HJ2.out; omega⟩, HT3, HS2⟩
end Go.Proofs.YtfbfeimildkigaaDoor.P
namespace Go.Proofs.YtfbfeimildkigaaDoor.P
open Go Go.RowKit Go.Proofs.YtfbfeimildkigaaDoorW.PrintWords Go.Proofs.YtfbfeimildkigaaDoorW.PrintLast Go.Proofs.YtfbfeimildkigaaDoorW.PrintMore Go.Proofs.YtfbfeimildkigaaDoor.PX
set_option linter.unusedVariables false
set_option linter.unusedSimpArgs false
set_option maxRecDepth 100000
def lgGo (next : List (List Int)) (tags : List Int) : List Int → Nat → Nat → Int × Int → Int × Int
  | [], _, _, p => p
  | c :: t, a, i, p => if (next.getD a []).getD c.toNat 0 < 0 then p else
      lgGo next tags t ((next.getD a []).getD c.toNat 0).toNat (i + 1) (if 0 ≤ tags.getD ((next.getD a []).getD c.toNat 0).toNat 0 then (((i + 1 : Nat) : Int), tags.getD ((next.getD a []).getD c.toNat 0).toNat 0) else p)
def long13 (next : List (List Int)) (tags s : List Int) : Int × Int := if BSound next tags then lgGo next tags s 0 0 (0, -1) else (0, -1)
def U8s (s : List Int) : Prop := ∀ c ∈ s, 0 ≤ c ∧ c < 256
theorem u8s_at {s : List Int} (h : U8s s) (i : Nat) (hi : i < s.length) : ∃ n : Nat, s.getD i 0 = (n : Int) ∧ n < 256 := by
  have h1 := h (s.getD i 0) (by rw [List.getD_eq_getElem?_getD, List.getElem?_eq_getElem hi]; exact List.getElem_mem hi)
  exact ⟨(s.getD i 0).toNat, by omega, by omega⟩
theorem u8_cell {X : Nat → Prop} {w : World} {v : Value} {xs : List Int} (h : PV kU8 X w v xs) (j : Nat) (hj : j < xs.length) : ∃ ad c, v = .slice (some ad) xs.length c ∧ w.cell? (ad.add j) = some (.int .u8 (xs.getD j 0)) := by
  obtain ⟨A, c, rfl, _, hC⟩ := h.now
  obtain ⟨ad, e, y⟩ := Kd.at_int hC (j : Int) (by omega) (by omega)
  cases e
  exact ⟨ad, c, rfl, by simpa [rd] using y⟩
set_option maxHeartbeats 8000000 in
theorem long13_calls (X : Nat → Prop) (vn vt vs : Value) (next : List (List Int)) (tags s : List Int) (w : World) (hX : ∀ k, X k → k < w.heap.size)
    (hn : PV kRow X w vn next) (ht : PV kInt X w vt tags) (hs : PV kU8 X w vs s) (hu : U8s s) :
    Calls Tryd.prog 22 #[.agg #[vn, vt], vs] w fun e w' => e = .returned (.tuple #[.int .i64 (long13 next tags s).1, .int .i64 (long13 next tags s).2]) ∧ Below w.heap.size w w' := by
  have H1 := Aside0.mk hn
  have H2 := Aside0.mk ht
  have H3 := Aside0.mk hs
  have HU := Aside0.mk hu
  have m1 := hn.max
  have m2 := ht.max
  have m3 := hs.max
  obtain ⟨An, cn, rfl, _, _⟩ := hn.now
  obtain ⟨At, ct, rfl, _, _⟩ := ht.now
  obtain ⟨As, cs, rfl, _, _⟩ := hs.now
  have HS := Aside0.mk ((Sep.start hX).push_box [.slice An next.length cn, .slice At tags.length ct] 27)
  obtain ⟨q, hq⟩ : ∃ q, q = decide (BSound next tags) := ⟨_, rfl⟩
  have HQ := Aside0.mk hq.symm
  obtain ⟨r, hr⟩ : ∃ r, r = long13 next tags s := ⟨_, rfl⟩
  rw [← hr]
  have HR := Aside0.mk (show r = if BSound next tags then lgGo next tags s 0 0 (0, -1) else (0, -1) from hr)
  clear hn ht hs hu hX hq hr
  go_enter Tryd.func22, Tryd.ntmps22
  go_upto_if 12 with (first
    | (go_at_call 28; (with_reducible refine (bsound_calls _ _ _ next tags _ HS.out.lt (HS.out.arg H1.out) (HS.out.arg H2.out)).mono ?_); rintro ee w5 ⟨rfl, hb⟩; rw [HQ.out]; have hs := HS.out.call hb; clear hb; clear HS; have HS := Aside0.mk hs; clear hs))
  cases q
  case false =>
    have HE := Aside0.mk (show r = (0, -1) by rw [HR.out, if_neg (of_decide_eq_false HQ.out)])
    go_wp2_with fail
    go_ret2
    rw [HE.out]
    exact ⟨rfl, HS.out.below⟩
  case true =>
    have HSO := Aside0.mk (of_decide_eq_true HQ.out)
    have HR2 := Aside0.mk (show lgGo next tags (s.drop 0) 0 0 (0, -1) = r by rw [HR.out, if_pos HSO.out]; rfl)
    clear HR
    go_wp2_with fail
    clear HQ
    obtain ⟨g0, hg0⟩ : ∃ g, g = w.heap.size := ⟨_, rfl⟩
    have HG := Aside0.mk hg0.symm
    rw [← hg0] at HS ⊢
    clear hg0
    go_loopg [6, 7, 8, 9] s.length (fun m v6 v7 v8 v9 w' => ∃ (i a : Nat) (p : Int × Int), v6 = .int .i64 p.1 ∧ v7 = .int .i64 p.2 ∧ v8 = .int .i64 a ∧ v9 = .int .i64 i ∧ Aside0 (i + m = s.length) ∧ Aside0 (a < tags.length) ∧ Aside0 (lgGo next tags (s.drop i) a i p = r) ∧ Aside0 (Sep X w w' [.box g0 27 [.slice An next.length cn, .slice At tags.length ct]]))
    case atStart => exact ⟨0, 0, (0, -1), rfl, rfl, rfl, rfl, ⟨by omega⟩, ⟨by have := HSO.out.1.1; omega⟩, HR2, HS⟩
    case round =>
      clear HS HR2
      obtain ⟨i, a, p, rfl, rfl, rfl, rfl, HJ, HA, HR, HS⟩ := hrel
      have y0 := (HS.out.box 0 rfl).cell 0 rfl
      have y1 := (HS.out.box 0 rfl).cell 1 rfl
      cases gk with
      | zero =>
        have e1 : decide ((i : Int) < (s.length : Int)) = false := decide_eq_false (by have := HJ.out; omega)
        have e2 : decide (i < s.length) = false := decide_eq_false (by have := HJ.out; omega)
        have q0 : p = r := by have h := HR.out; rw [List.drop_of_length_le (by have := HJ.out; omega)] at h; exact h
        clear HR
        subst q0
        go_wp2_with fail
        go_ret2
        exact ⟨rfl, HS.out.below⟩
      | succ k1 =>
        have hi : i < s.length := by have := HJ.out; omega
        have ha : a < next.length := by have := HA.out; have := HSO.out.1.2.2; omega
        have e1 : decide ((i : Int) < (s.length : Int)) = true := decide_eq_true (by omega)
        have e2 : decide (i < s.length) = true := decide_eq_true hi
        have hi0 : (0 : Int) ≤ (i : Int) := by omega
        have hi1 : (i : Int) < (s.length : Int) := by omega
        have ha0 : (0 : Int) ≤ (a : Int) := by omega
        have ha1 : (a : Int) < (next.length : Int) := by omega
        obtain ⟨c, hc, hc2⟩ := u8s_at HU.out i hi
        obtain ⟨as_, cs', es, ys0⟩ := u8_cell H3.out i hi
        cases es
        rw [hc] at ys0
        have HR3 := HR.out
        rw [drop_at s 0 i hi, hc, lgGo, show ((c : Int).toNat) = c from rfl] at HR3
        obtain ⟨an, cn', u, en, hun, yn0⟩ := H1.out.row a ha
        cases en
        have HBR := (HSO.out.2 a HA.out)
        have hl : (next.getD a []).length = 256 := HBR.1
        have hx := HBR.2.2 c hc2
        generalize next.getD a [] = row at *
        obtain ⟨Au, cu, rfl, _, _⟩ := hun.now
        obtain ⟨ar, cr, er, yr0⟩ := int_cell hun c (by omega)
        cases er
        obtain ⟨x, hx0⟩ : ∃ x, x = row.getD c 0 := ⟨_, rfl⟩
        rw [← hx0] at HR3 hx yr0
        have hc0 : (0 : Int) ≤ (c : Int) := by omega
        have hc1 : (c : Int) < (row.length : Int) := by omega
        have ys := pw_cell_below HS.out.below ys0
        have yn := pw_cell_below HS.out.below yn0
        have yr := pw_cell_below HS.out.below yr0
        have HX := Aside0.mk hx
        have HR4 := Aside0.mk HR3
        clear HR3 hx hx0 HBR hun ys0 yn0 yr0 HR hl hc
        rcases Int.lt_or_le x 0 with h1 | h1
        case inl =>
          have d1 : decide (x < 0) = true := decide_eq_true h1
          have q0 : p = r := by have h := HR4.out; rw [if_pos h1] at h; exact h
          clear HR4
          subst q0
          go_wp2_with fail
          go_quiet (fail)
          have HS2 := Aside0.mk (HS.out.drewN nq)
          go_wp2_with fail
          go_ret2
          exact ⟨rfl, HS2.out.below⟩
        case inr =>
          have d1 : decide (x < 0) = false := decide_eq_false (by omega)
          obtain ⟨b, hb⟩ : ∃ b : Nat, x = (b : Int) := ⟨x.toNat, by omega⟩
          subst hb
          have hb : b < tags.length := by have := HX.out; omega
          have HR5 := HR4.out
          rw [if_neg (by omega), show ((b : Int).toNat) = b from rfl] at HR5
          have HB5 := Aside0.mk hb
          have hb0 : (0 : Int) ≤ (b : Int) := by omega
          have hb1 : (b : Int) < (tags.length : Int) := by omega
          obtain ⟨at_, ct', et, yt0⟩ := int_cell H2.out b hb
          cases et
          have HYT := Aside0.mk yt0
          clear HR4 yt0
          generalize tags.getD b 0 = t at *
          go_wp2_with fail
          go_quiet (fail)
          have HS2 := Aside0.mk (HS.out.drewN nq)
          obtain ⟨wq, hwq⟩ : ∃ x, x = wr.drewN nq := ⟨_, rfl⟩
          rw [← hwq] at HS2 ⊢
          clear hwq HS y0 y1 ys yn yr
          have y1 := (HS2.out.box 0 rfl).cell 1 rfl
          have yt := pw_cell_below HS2.out.below HYT.out
          rcases Int.lt_or_le t 0 with h2 | h2
          case inl =>
            have d2 : decide (t ≥ 0) = false := decide_eq_false (by omega)
            have d2' : decide (0 ≤ t) = false := decide_eq_false (by omega)
            rw [if_neg (by omega)] at HR5
            have HR6 := Aside0.mk HR5
            clear HR5
            go_wp2_with fail
            go_roundg k1
            case measure => omega
            case rel => exact ⟨i + 1, b, p, rfl, rfl, rfl, by go_num, ⟨by have := HJ.out; omega⟩, HB5, HR6, HS2⟩
          case inr =>
            have d2 : decide (t ≥ 0) = true := decide_eq_true h2
            have d2' : decide (0 ≤ t) = true := decide_eq_true h2
            rw [if_pos h2] at HR5
            have HR6 := Aside0.mk HR5
            clear HR5
            go_wp2_with fail
            go_roundg k1
            case measure => omega
            case rel => exact ⟨i + 1, b, (((i + 1 : Nat) : Int), t), by go_num, rfl, rfl, by go_num, ⟨by have := HJ.out; omega⟩, HB5, HR6, HS2⟩
end Go.Proofs.YtfbfeimildkigaaDoor.P
namespace Go.Proofs.YtfbfeimildkigaaDoor.OP
open Go Go.RowKit Go.Proofs.YtfbfeimildkigaaDoorW.PrintWords
variable {H : Type} {enc : TypeId × Value → H} {P : Program} {w : World}
def Opens {α : Type} (enc : TypeId × Value → H) (P : Program) (w : World) (t : TypeId) (d : Kd α) (good : α → Prop) : Prop :=
  P.cellsOf t = d.sz ∧ ∀ fuel cs x, DataW.trod enc P w 0 (fun _ => true) true fuel t cs = some x → ∃ a, d.K w a cs ∧ good a
theorem Opens.mono {α : Type} {t : TypeId} {d : Kd α} {good good' : α → Prop} (h : Opens enc P w t d good) (hg : ∀ a, good a → good' a) : Opens enc P w t d good' :=
  ⟨h.1, fun fuel cs x hx => by obtain ⟨a, ha, hb⟩ := h.2 fuel cs x hx; exact ⟨a, ha, hg a hb⟩⟩
theorem opens_int {t : TypeId} {k : IntKind} (ht : P.underlying t = some (.int k)) (hc : P.cellsOf t = 1) : Opens enc P w t (Kd.int k) (fun n => (Lit.int k n).wf = true) :=
  ⟨hc, fun fuel cs x hx => by
    obtain ⟨n, rfl, _, hw⟩ := DataW.trod_int ht hx
    exact ⟨n, rfl, hw⟩⟩
theorem opens_slice {α : Type} {t e : TypeId} {d : Kd α} {good : α → Prop} (ht : P.underlying t = some (.slice e)) (hc : P.cellsOf t = 1) (he : Opens enc P w e d good) :
    Opens enc P w t (Kd.slice e d) (fun l => l.length ≤ maxLen ∧ ∀ x ∈ l, good x) :=
  ⟨hc, fun fuel cs x hx => by
    rcases DataW.trod_slice ht hx with ⟨rfl, _⟩ | ⟨a, len, cap, elems, rest, n, _, rfl, _, _, hl, hm, hlen, hel, _, _⟩
    · exact ⟨[], ⟨none, 0, rfl, Nat.le_refl _, rfl, by simp, fun h => absurd h (Nat.lt_irrefl 0)⟩, by simp, fun y hy => by cases hy⟩
    · have hmx : len ≤ 9223372036854775807 := by unfold maxLen at hm; omega
      have : ∀ m, m ≤ len → ∃ xs : List α, xs.length = m ∧ (∀ j p, xs[j]? = some p → ∃ c, c.length = d.sz ∧ d.K w p c ∧ ∀ i u, c[i]? = some u → w.cell? (a.add (j * d.sz + i)) = some u) ∧ ∀ x ∈ xs, good x := by
        intro m
        induction m with
        | zero => exact fun _ => ⟨[], rfl, fun j p h => by simp at h, fun x h => by cases h⟩
        | succ m ih =>
          intro hm2
          obtain ⟨xs, h1, h2, h3⟩ := ih (by omega)
          have h4 := hel m (by omega)
          rw [List.getElem?_eq_getElem (show m < elems.length by omega), Option.bind_eq_some_iff] at h4
          obtain ⟨c, hcs, hy⟩ := h4
          obtain ⟨p, hK, hg⟩ := he.2 _ _ _ hy
          obtain ⟨_, hcl, hcell⟩ := World.cells?_some hcs
          rw [he.1] at hcl hcell
          refine ⟨xs ++ [p], by simp [h1], fun j q hq => ?_, fun x hx => ?_⟩
          · rcases Nat.lt_or_ge j xs.length with hj | hj
            · rw [List.getElem?_append_left hj] at hq
              exact h2 j q hq
            · have hj' : j = m := by
                have := (List.getElem?_eq_some_iff.1 hq).1
                simp at this
                omega
              subst hj'
              obtain rfl : p = q := by rw [← h1] at hq; simpa using hq
              refine ⟨c, hcl, hK, fun i u hu => ?_⟩
              have hi : i < d.sz := by have := (List.getElem?_eq_some_iff.1 hu).1; omega
              have := hcell i hi
              rw [hu] at this
              rw [← this]
              congr 1
              unfold Addr.add
              by_cases z1 : j * d.sz = 0 <;> by_cases z2 : i = 0 <;> simp [z1, z2, Nat.add_assoc]
          · rcases List.mem_append.1 hx with hx | hx
            · exact h3 x hx
            · obtain rfl : x = p := by simpa using hx
              exact hg
      obtain ⟨xs, h1, h2, h3⟩ := this len (Nat.le_refl _)
      subst h1
      exact ⟨xs, ⟨some a, cap, rfl, hl, rfl, hmx, fun _ => ⟨a, rfl, h2⟩⟩, by omega, h3⟩⟩
theorem Opens.arg {α : Type} {t e : TypeId} {d : Kd α} {good : List α → Prop} (h : Opens enc P w t (Kd.slice e d) good) {a : Option Addr} {len cap : Nat} {x : DataW H} {p : List MemPlace} (hx : DataW.Trod enc P w 0 (fun _ => true) true t (.slice a len cap) x p) :
    ∃ l, len = l.length ∧ l.length ≤ cap ∧ d.C w a l.length l ∧ good l := by
  obtain ⟨fuel, hf⟩ := hx
  obtain ⟨l, ⟨A, c, he, hc, hC⟩, hg⟩ := h.2 _ _ _ hf
  simp [Value.cells] at he
  obtain ⟨rfl, rfl, rfl⟩ := he
  exact ⟨l, rfl, hc, hC, hg⟩
end Go.Proofs.YtfbfeimildkigaaDoor.OP
namespace Go.Proofs.YtfbfeimildkigaaDoor.LC
open Go Go.RowKit Go.ChangeShapes Go.WideShapes Go.ChangeAt Go.Proofs.YtfbfeimildkigaaDoorW.PrintWords Go.Proofs.YtfbfeimildkigaaDoor.PX Go.Proofs.YtfbfeimildkigaaDoor.P
set_option linter.unusedVariables false
theorem own : ownKnob Tryd.prog.godebug = none := by kernel_rfl
theorem laidOut : laidOutB Tryd.prog = true := by kernel_rfl
theorem cInt : Tryd.prog.cellsOf 3 = 1 := by kernel_rfl
theorem cU8 : Tryd.prog.cellsOf 5 = 1 := by kernel_rfl
theorem cInts : Tryd.prog.cellsOf 25 = 1 := by kernel_rfl
theorem cU8s : Tryd.prog.cellsOf 29 = 1 := by kernel_rfl
theorem cRows : Tryd.prog.cellsOf 24 = 1 := by kernel_rfl
theorem cTable : Tryd.prog.cellsOf 31 = 3 := by kernel_rfl
theorem cBytes : Tryd.prog.cellsOf 27 = 2 := by kernel_rfl
def no : Nat → Prop := fun _ => False
theorem no_old (w : World) : ∀ k, no k → k < w.heap.size := fun _ h => h.elim
theorem ofC {α : Type} {d : Kd α} {w : World} {A : Option Addr} {c : Nat} {xs : List α} (h : d.C w A xs.length xs) (hc : xs.length ≤ c) : PV d no w (.slice A xs.length c) xs :=
  ⟨A, c, rfl, hc, fun w' ha => Kd.C_below h (ha.below (fun _ _ h => h))⟩
section
variable {H : Type} {enc : TypeId × Value → H} {W : World} {n : Nat} {v : Value} {y : DataW H × List MemPlace}
open OP in
theorem ints (h : DataW.trod enc Tryd.prog W 0 (fun _ => true) true n 25 [v] = some y) : ∃ l, PV kInt no W v l ∧ ∀ x ∈ l, (Lit.int .i64 x).wf = true := by
  obtain ⟨l, ⟨A, c, he, hc, hC⟩, hg⟩ := (opens_slice (enc := enc) (w := W) Tryd.underlying25 cInts (opens_int Tryd.underlying3 cInt)).2 _ _ _ h
  cases he
  exact ⟨l, ofC hC hc, hg.2⟩
open OP in
theorem bytes (h : DataW.trod enc Tryd.prog W 0 (fun _ => true) true n 29 [v] = some y) : ∃ l, PV kU8 no W v l ∧ U8s l := by
  obtain ⟨l, ⟨A, c, he, hc, hC⟩, hg⟩ := (opens_slice (enc := enc) (w := W) Tryd.underlying29 cU8s (opens_int Tryd.underlying5 cU8)).2 _ _ _ h
  cases he
  refine ⟨l, ofC hC hc, fun x hx => ?_⟩
  have h1 := hg.2 x hx
  simp [Lit.wf, IntKind.min, IntKind.max, IntKind.signed, IntKind.bits] at h1
  omega
open OP in
theorem rows (h : DataW.trod enc Tryd.prog W 0 (fun _ => true) true n 24 [v] = some y) : ∃ l, PV (Kd.slice 3 kInt) no W v l := by
  obtain ⟨l, ⟨A, c, he, hc, hC⟩, hg⟩ := (opens_slice (enc := enc) (w := W) Tryd.underlying24 cRows (opens_slice Tryd.underlying25 cInts (opens_int Tryd.underlying3 cInt))).2 _ _ _ h
  cases he
  exact ⟨l, ofC hC hc⟩
theorem arg1 {t : TypeId} {d : DataW H} {p : List MemPlace} {a : Option Addr} {len cap : Nat} (h : DataW.Trod enc Tryd.prog W 0 (fun _ => true) true t (.slice a len cap) d p) : ∃ n y, DataW.trod enc Tryd.prog W 0 (fun _ => true) true n t [.slice a len cap] = some y := by
  obtain ⟨n, hn⟩ := h
  exact ⟨n, _, hn⟩
end
theorem world_met (os : Os) (args : Array Value) : laidMetH Tryd.prog Rows.classOfRow.laid ((World.laidAll Tryd.prog os Rows.classOfRow.laid).forCall (fun _ _ => 0) ⟨#[], args, []⟩).memory := by
  rw [MakeChecks.laidMetH_plain _ _ _ (by kernel_rfl)]
  exact laidMet_laidAll _ (by kernel_rfl) (by kernel_rfl)
end Go.Proofs.YtfbfeimildkigaaDoor.LC
namespace Go.Proofs.YtfbfeimildkigaaDoor.P
open Go Go.RowKit Go.Proofs.YtfbfeimildkigaaDoorW.PrintWords Go.Proofs.YtfbfeimildkigaaDoorW.PrintLast Go.Proofs.YtfbfeimildkigaaDoorW.PrintMore Go.Proofs.YtfbfeimildkigaaDoor.PX
set_option linter.unusedVariables false
set_option linter.unusedSimpArgs false
set_option maxRecDepth 100000
def Pred (g : Nat) (lb : Array Value) (p : Int → Bool) (w : World) : Prop := ∀ (W : World) (x : Int), Below w.heap.size w W → Calls Tryd.prog g (#[.int .i64 x] ++ lb) W fun e w' => e = .returned (.bool (p x)) ∧ Below W.heap.size W w'
def idxGo (p : Int → Bool) : List Int → Nat → Int
  | [], _ => -1
  | x :: t, i => if p x then (i : Int) else idxGo p t (i + 1)
theorem idxGo_any (p : Int → Bool) : ∀ (l : List Int) (i : Nat), l.any p = decide (0 ≤ idxGo p l i)
  | [], i => by simp [idxGo]
  | x :: t, i => by
    rw [List.any_cons, idxGo]
    cases h : p x
    · simp only [Bool.false_or, Bool.false_eq_true, if_false]
      exact idxGo_any p t (i + 1)
    · simp
set_option maxHeartbeats 8000000 in
theorem indexFunc_calls (X : Nat → Prop) (v : Value) (xs : List Int) (w : World) (hv : PV kInt X w v xs) (g : Nat) (lb : Array Value) (eg : ∀ args w, (callFunc g args).run Tryd.prog w = .ok (.enter g args) w) (p : Int → Bool) (hp : Pred g lb p w) :
    Calls Tryd.prog 43 #[v, .func (.func g) #[] lb] w fun e w' => e = .returned (.int .i64 (idxGo p xs 0)) ∧ Below w.heap.size w w' := by
  have H1 := Aside0.mk hv
  have HP := Aside0.mk hp
  have m1 := hv.max
  obtain ⟨A0, c0, rfl, _, _⟩ := hv.now
  obtain ⟨q, hq⟩ : ∃ q, q = idxGo p xs 0 := ⟨_, rfl⟩
  rw [← hq]
  have HQ := Aside0.mk (show idxGo p (xs.drop 0) 0 = q from hq.symm)
  clear hv hp hq
  go_enter Tryd.func43, Tryd.ntmps43
  go_wp2_with fail
  go_loopg [5, 8] xs.length (fun m v5 v8 w' => ∃ (i : Nat), v8 = .int .i64 i ∧ Aside0 (i + m = xs.length) ∧ Aside0 (idxGo p (xs.drop i) i = q) ∧ Aside0 (Below w.heap.size w w'))
  case atStart => exact ⟨0, rfl, ⟨by omega⟩, HQ, ⟨Below.refl _ _⟩⟩
  case round =>
    clear HQ
    obtain ⟨i, rfl, HJ, HQ, HB⟩ := hrel
    cases gk with
    | zero =>
      have hi : i = xs.length := by have := HJ.out; omega
      have e1 : decide ((i : Int) < (xs.length : Int)) = false := decide_eq_false (by omega)
      have e2 : decide (i < xs.length) = false := decide_eq_false (by omega)
      have q0 : (-1 : Int) = q := by have h := HQ.out; rwa [hi, List.drop_length, idxGo] at h
      clear HQ hi
      subst q0
      go_wp2_with fail
      go_ret
      exact ⟨rfl, HB.out⟩
    | succ k1 =>
      have hi : i < xs.length := by have := HJ.out; omega
      have e1 : decide ((i : Int) < (xs.length : Int)) = true := decide_eq_true (by omega)
      have e2 : decide (i < xs.length) = true := decide_eq_true hi
      have hi0 : (0 : Int) ≤ (i : Int) := by omega
      have hi1 : (i : Int) < (xs.length : Int) := by omega
      obtain ⟨ad, c, e, y0⟩ := int_cell H1.out i hi
      cases e
      have y := pw_cell_below HB.out y0
      have h := HQ.out
      rw [drop_at xs 0 i hi, idxGo] at h
      generalize xs.getD i 0 = x at *
      have hcall := HP.out _ x HB.out
      clear y0 HQ
      cases hpx : p x
      case true =>
        rw [hpx, if_pos rfl] at h
        subst h
        rw [hpx] at hcall
        have HCALL := Aside0.mk hcall
        clear hcall
        go_wp2_with fail
        refine HCALL.out.mono ?_
        rintro e w' ⟨rfl, hb'⟩
        go_wp2_with fail
        go_ret
        exact ⟨rfl, below_step HB.out hb'⟩
      case false =>
        rw [hpx, if_neg (by decide)] at h
        rw [hpx] at hcall
        have HCALL := Aside0.mk hcall
        have HQ := Aside0.mk h
        clear hcall h
        go_wp2_with fail
        refine HCALL.out.mono ?_
        rintro e w' ⟨rfl, hb'⟩
        go_wp2_with fail
        go_roundg k1
        case measure => omega
        case rel => exact ⟨i + 1, by go_num, ⟨by have := HJ.out; omega⟩, HQ, ⟨below_step HB.out hb'⟩⟩
theorem containsFunc_calls (X : Nat → Prop) (v : Value) (xs : List Int) (w : World) (hv : PV kInt X w v xs) (g : Nat) (lb : Array Value) (eg : ∀ args w, (callFunc g args).run Tryd.prog w = .ok (.enter g args) w) (p : Int → Bool) (hp : Pred g lb p w) :
    Calls Tryd.prog 32 #[v, .func (.func g) #[] lb] w fun e w' => e = .returned (.bool (xs.any p)) ∧ Below w.heap.size w w' := by
  rw [idxGo_any p xs 0]
  have H1 := Aside0.mk hv
  have HP := Aside0.mk hp
  obtain ⟨A0, c0, rfl, _, _⟩ := hv.now
  clear hv hp
  go_enter Tryd.func32, Tryd.ntmps32
  go_wp2_with (first
    | (go_at_call 43; (with_reducible refine (indexFunc_calls X _ xs w H1.out g lb eg p HP.out).mono ?_); rintro ee w5 ⟨rfl, hb⟩))
  go_ret
  exact ⟨rfl, hb⟩
def oddB (k : Nat) (x : Int) : Bool := decide (x < -1) || decide ((k : Int) ≤ x)
theorem odd14_pred (k B : Nat) (w : World) (hB : B < w.heap.size) (hc : w.cell? ⟨B, 0, none⟩ = some (.int .i64 k)) : Pred 31 #[.pointer (some ⟨B, 0, none⟩)] (oddB k) w := fun W x hb => by
  have hc : W.cell? ⟨B, 0, none⟩ = some (.int .i64 k) := (hb.cell (p := ⟨B, 0, none⟩) hB).trans hc
  show Calls Tryd.prog 31 #[.int .i64 x, .pointer (some ⟨B, 0, none⟩)] W _
  unfold oddB
  go_enter Tryd.func31, Tryd.ntmps31
  go_wp2
  all_goals (go_ret; refine ⟨by simp_all, Below.refl _ _⟩)
theorem odd13_pred (k B : Nat) (w : World) (hB : B < w.heap.size) (hc : w.cell? ⟨B, 0, none⟩ = some (.int .i64 k)) : Pred 41 #[.pointer (some ⟨B, 0, none⟩)] (oddB k) w := fun W x hb => by
  have hc : W.cell? ⟨B, 0, none⟩ = some (.int .i64 k) := (hb.cell (p := ⟨B, 0, none⟩) hB).trans hc
  show Calls Tryd.prog 41 #[.int .i64 x, .pointer (some ⟨B, 0, none⟩)] W _
  unfold oddB
  go_enter Tryd.func41, Tryd.ntmps41
  go_wp2
  all_goals (go_ret; refine ⟨by simp_all, Below.refl _ _⟩)
end Go.Proofs.YtfbfeimildkigaaDoor.P
namespace Go.Proofs.YtfbfeimildkigaaDoor.P
open Go Go.RowKit Go.Proofs.YtfbfeimildkigaaDoorW.PrintWords Go.Proofs.YtfbfeimildkigaaDoorW.PrintLast Go.Proofs.YtfbfeimildkigaaDoorW.PrintMore Go.Proofs.YtfbfeimildkigaaDoor.PX
set_option linter.unusedVariables false
set_option linter.unusedSimpArgs false
set_option maxRecDepth 100000
theorem any_odd (k : Nat) (row : List Int) : row.any (oddB k) = false ↔ ∀ j, j < row.length → -1 ≤ row.getD j 0 ∧ row.getD j 0 < (k : Int) := by
  rw [List.any_eq_false]
  constructor
  · intro h j hj
    have h1 := h _ (mem_getD row 0 j hj)
    simp only [oddB, Bool.or_eq_true, decide_eq_true_eq, not_or] at h1
    omega
  · intro h x hx
    obtain ⟨j, hj, rfl⟩ := List.getElem_of_mem hx
    have h1 := h j hj
    rw [List.getD_eq_getElem?_getD, List.getElem?_eq_getElem hj] at h1
    simp only [Option.getD_some] at h1
    simp only [oddB, Bool.or_eq_true, decide_eq_true_eq, not_or]
    omega
set_option maxHeartbeats 16000000 in
theorem lsound_calls (X : Nat → Prop) (vn vt : Value) (next : List (List Int)) (tags : List Int) (w : World) (hX : ∀ k, X k → k < w.heap.size) (hn : PV kRow X w vn next) (ht : PV kInt X w vt tags) :
    Calls Tryd.prog 25 #[.agg #[vn, vt]] w fun e w' => e = .returned (.bool (decide (BSound next tags))) ∧ Below w.heap.size w w' := by
  have H1 := Aside0.mk hn
  have H2 := Aside0.mk ht
  have m1 := hn.max
  have m2 := ht.max
  obtain ⟨An, cn, rfl, _, _⟩ := hn.now
  obtain ⟨At, ct, rfl, _, _⟩ := ht.now
  have HS := Aside0.mk (((Sep.start hX).push_box [.slice An next.length cn, .slice At tags.length ct] 27).push_box' [.int .i64 tags.length] 3 (w.heap.size + 1) (by simp))
  have yk := (HS.out.box 1 rfl).cell 0 rfl
  obtain ⟨q, hq⟩ : ∃ q, q = decide (BSound next tags) := ⟨_, rfl⟩
  rw [← hq]
  have HQ := Aside0.mk (show q = true ↔ BSound next tags by rw [hq]; exact decide_eq_true_iff)
  clear hn ht hX hq
  have no : ¬ BSound next tags → q = false := fun h => by
    cases hqq : q
    · rfl
    · exact absurd (HQ.out.1 hqq) h
  have HNO := Aside0.mk no
  clear no
  by_cases hh : BHead next tags
  case neg =>
    have q0 : q = false := HNO.out (fun h => hh h.1)
    clear HQ HNO
    subst q0
    unfold BHead at hh
    rcases Nat.lt_or_ge tags.length 1 with h1 | h1
    case' inl =>
      have d1 : ((tags.length : Int) == 0) = true := beq_iff_eq.mpr (by omega)
    case' inr =>
      have d1 : ((tags.length : Int) == 0) = false := beq_eq_false_iff_ne.mpr (by omega)
      rcases Nat.lt_or_ge 40000 tags.length with h2 | h2
    case' inr.inl =>
      have d2 : decide ((tags.length : Int) > 40000) = true := decide_eq_true (by omega)
      have d2' : decide (40000 < tags.length) = true := decide_eq_true h2
    case' inr.inr =>
      have d2 : decide ((tags.length : Int) > 40000) = false := decide_eq_false (by omega)
      have d2' : decide (40000 < tags.length) = false := decide_eq_false (by omega)
      have d3 : ((next.length : Int) == (tags.length : Int)) = false := beq_eq_false_iff_ne.mpr (by omega)
      have d3' : ((next.length : Int) != (tags.length : Int)) = true := bne_iff_ne.mpr (by omega)
    all_goals
      clear hh
      go_enter Tryd.func25, Tryd.ntmps25
      go_wp2_with fail
      go_ret
      exact ⟨rfl, HS.out.below⟩
  case pos =>
    have HH := Aside0.mk hh
    obtain ⟨h1, h2, h3⟩ := hh
    have d1 : ((tags.length : Int) == 0) = false := beq_eq_false_iff_ne.mpr (by omega)
    have d2 : decide ((tags.length : Int) > 40000) = false := decide_eq_false (by omega)
    have d2' : decide (40000 < tags.length) = false := decide_eq_false (by omega)
    have d3 : ((next.length : Int) == (tags.length : Int)) = true := beq_iff_eq.mpr (by omega)
    have d3' : ((next.length : Int) != (tags.length : Int)) = false := bne_eq_false_iff_eq.mpr (by omega)
    have HL3 := Aside0.mk h3
    clear h1 h2 h3
    go_enter Tryd.func25, Tryd.ntmps25
    go_wp2_with fail
    obtain ⟨g1, hg1⟩ : ∃ g, g = w.heap.size + 1 := ⟨_, rfl⟩
    obtain ⟨g0, hg0⟩ : ∃ g, g = w.heap.size := ⟨_, rfl⟩
    rw [← hg1, ← hg0] at HS ⊢
    clear hg0 hg1 d1 d2 d2' d3 d3' yk
    go_loopg [27] next.length (fun m v27 w' => ∃ (i : Nat), v27 = .int .i64 i ∧ Aside0 (i + m = next.length) ∧ Aside0 (∀ i', i' < i → BRow next tags i') ∧ Aside0 (Sep X w w' [.box g0 27 [.slice An next.length cn, .slice At tags.length ct], .box g1 3 [.int .i64 tags.length]]))
    case atStart => exact ⟨0, rfl, ⟨by omega⟩, ⟨fun i' h => by omega⟩, HS⟩
    case round =>
      clear HS
      obtain ⟨i, rfl, HJ, HI, HS⟩ := hrel
      cases gk with
      | zero =>
        have e1 : decide ((i : Int) < (next.length : Int)) = false := decide_eq_false (by have := HJ.out; omega)
        have e2 : decide (i < next.length) = false := decide_eq_false (by have := HJ.out; omega)
        have q0 : q = true := HQ.out.2 ⟨HH.out, fun i' h => HI.out i' (by have := HJ.out; have := HL3.out; omega)⟩
        clear HQ HNO
        subst q0
        go_wp2_with fail
        go_ret
        exact ⟨rfl, HS.out.below⟩
      | succ k1 =>
        have hin : i < next.length := by have := HJ.out; omega
        have hi : i < tags.length := by rw [← HL3.out]; exact hin
        have e1 : decide ((i : Int) < (next.length : Int)) = true := decide_eq_true (by omega)
        have e2 : decide (i < next.length) = true := decide_eq_true hin
        have hi0 : (0 : Int) ≤ (i : Int) := by omega
        have hi1 : (i : Int) < (tags.length : Int) := by omega
        have hi2 : (i : Int) < (next.length : Int) := by omega
        obtain ⟨an, cn', u, en, hu, yn0⟩ := H1.out.row i hin
        cases en
        obtain ⟨at_, ct', et, yt0⟩ := int_cell H2.out i hi
        cases et
        obtain ⟨Au, cu, rfl, _, _⟩ := hu.now
        have HU := Aside0.mk hu
        have y0 := (HS.out.box 0 rfl).cell 0 rfl
        have y1 := (HS.out.box 0 rfl).cell 1 rfl
        have yn := pw_cell_below HS.out.below yn0
        have yt := pw_cell_below HS.out.below yt0
        have HROW := Aside0.mk (Iff.intro (fun (h : BRow next tags i) => (show (next.getD i []).length = 256 ∧ -1 ≤ tags.getD i 0 ∧ ∀ j, j < 256 → -1 ≤ (next.getD i []).getD j 0 ∧ (next.getD i []).getD j 0 < (tags.length : Int) from h)) (fun (h : (next.getD i []).length = 256 ∧ -1 ≤ tags.getD i 0 ∧ ∀ j, j < 256 → -1 ≤ (next.getD i []).getD j 0 ∧ (next.getD i []).getD j 0 < (tags.length : Int)) => (show BRow next tags i from h)))
        have HNR := Aside0.mk (fun (h : ¬ BRow next tags i) => HNO.out (fun hs => h (hs.2 i hi)))
        have HST := Aside0.mk (fun (h : BRow next tags i) => (show ∀ i', i' < i + 1 → BRow next tags i' from fun i' h1 => (Nat.lt_or_ge i' i).elim (HI.out i') (fun h2 => by
          have : i' = i := by omega
          rw [this]; exact h)))
        generalize next.getD i [] = row at *
        generalize tags.getD i 0 = tg at *
        clear hu yn0 yt0
        rcases Decidable.em (row.length = 256 ∧ -1 ≤ tg) with hr | hr
        case inr =>
          have q0 : q = false := HNR.out (fun h => hr ⟨(HROW.out.1 h).1, (HROW.out.1 h).2.1⟩)
          clear HQ HNO HNR HROW HST
          subst q0
          rcases Decidable.em (row.length = 256) with h4 | h4
          case' inl =>
            have d4 : ((row.length : Int) == 256) = true := beq_iff_eq.mpr (by omega)
            have d4' : ((row.length : Int) != 256) = false := bne_eq_false_iff_eq.mpr (by omega)
            have d5 : decide (tg < -1) = true := decide_eq_true (by omega)
          case' inr =>
            have d4 : ((row.length : Int) == 256) = false := beq_eq_false_iff_ne.mpr (by omega)
            have d4' : ((row.length : Int) != 256) = true := bne_iff_ne.mpr (by omega)
          all_goals
            clear hr h4
            go_wp2_with fail
            go_ret
            exact ⟨rfl, HS.out.below⟩
        case inl =>
          obtain ⟨h4, h5⟩ := hr
          have d4 : ((row.length : Int) == 256) = true := beq_iff_eq.mpr (by omega)
          have d4' : ((row.length : Int) != 256) = false := bne_eq_false_iff_eq.mpr (by omega)
          have d5 : decide (tg < -1) = false := decide_eq_false (by omega)
          have HAO := Aside0.mk (any_odd tags.length row)
          have HPR := Aside0.mk (odd13_pred tags.length g1 wr (HS.out.box 1 rfl).lt ((HS.out.box 1 rfl).cell 0 rfl))
          have H45 := Aside0.mk (And.intro h4 h5)
          obtain ⟨a, ha⟩ : ∃ a, a = row.any (oddB tags.length) := ⟨_, rfl⟩
          have HA := Aside0.mk ha.symm
          rw [← ha] at HAO
          have eg : ∀ args w, (callFunc 41 args).run Tryd.prog w = .ok (.enter 41 args) w := Go.Proofs.enters_of Tryd.func41 (by kernel_rfl) rfl
          clear h4 h5 ha
          cases a
          case true =>
            have q0 : q = false := HNR.out (fun h => by have := HAO.out.2 (fun j hj => (HROW.out.1 h).2.2 j (by rw [← H45.out.1]; exact hj)); cases this)
            clear HQ HNO HNR HROW HST
            subst q0
            go_wp2_with (first
              | (go_at_call 32; (with_reducible refine (containsFunc_calls _ _ row _ (HS.out.arg HU.out) _ _ eg _ HPR.out).mono ?_); rintro ee w5 ⟨rfl, hb⟩; rw [HA.out]; have hs := HS.out.call hb; clear hb; clear HS; have HS := Aside0.mk hs; clear hs))
            go_ret
            exact ⟨rfl, HS.out.below⟩
          case false =>
            have HT2 := Aside0.mk (HST.out (HROW.out.2 ⟨H45.out.1, H45.out.2, fun j hj => HAO.out.1 rfl j (by rw [H45.out.1]; exact hj)⟩))
            clear HNR HROW HST HI
            go_wp2_with (first
              | (go_at_call 32; (with_reducible refine (containsFunc_calls _ _ row _ (HS.out.arg HU.out) _ _ eg _ HPR.out).mono ?_); rintro ee w5 ⟨rfl, hb⟩; rw [HA.out]; have hs := HS.out.call hb; clear hb; clear HS; have HS := Aside0.mk hs; clear hs))
            go_roundg k1
            case measure => omega
            case rel => exact ⟨i + 1, by go_num, ⟨by have := HJ.out; omega⟩, HT2, HS⟩
end Go.Proofs.YtfbfeimildkigaaDoor.P
namespace Go.Proofs.YtfbfeimildkigaaDoor.IT
def dig (d : Nat) : Int := if d < 10 then 48 + (d : Int) else 87 + (d : Int)
def digs : Nat → Nat → List Int
  | 0, n => [dig n]
  | k + 1, n => if n < 36 then [dig n] else digs k (n / 36) ++ [dig (n % 36)]
def itoa (n : Int) : List Int := if n < 0 then 45 :: digs 13 n.natAbs else digs 13 n.natAbs
def undig (d : Int) : Nat := if d < 58 then (d - 48).toNat else (d - 87).toNat
theorem undig_dig (d : Nat) (h : d < 36) : undig (dig d) = d := by
  unfold undig dig
  split <;> split <;> omega
def val (l : List Int) : Nat := l.foldl (fun a d => a * 36 + undig d) 0
theorem val_snoc (l : List Int) (d : Int) : val (l ++ [d]) = val l * 36 + undig d := by unfold val; rw [List.foldl_append]; rfl
theorem val_digs : ∀ (k n : Nat), n < 36 ^ (k + 1) → val (digs k n) = n
  | 0, n, h => by
    simp only [digs, val, List.foldl_cons, List.foldl_nil]
    rw [undig_dig n (by simpa using h)]; omega
  | k + 1, n, h => by
    unfold digs
    split
    · simp only [val, List.foldl_cons, List.foldl_nil]
      rw [undig_dig n (by omega)]; omega
    · rw [val_snoc, val_digs k (n / 36) (by rw [Nat.div_lt_iff_lt_mul (by decide)]; rw [Nat.pow_succ] at h; exact h), undig_dig _ (Nat.mod_lt _ (by decide))]
      omega
theorem dig_range (d : Nat) (h : d < 36) : 48 ≤ dig d ∧ dig d ≤ 122 := by unfold dig; split <;> omega
theorem digs_range : ∀ (k n : Nat), n < 36 ^ (k + 1) → ∀ x ∈ digs k n, 48 ≤ x ∧ x ≤ 122
  | 0, n, h, x, hx => by
    simp only [digs, List.mem_singleton] at hx
    subst hx
    exact dig_range n (by simpa using h)
  | k + 1, n, h, x, hx => by
    unfold digs at hx
    split at hx
    · simp only [List.mem_singleton] at hx
      subst hx
      exact dig_range n (by omega)
    · rcases List.mem_append.1 hx with hx | hx
      · exact digs_range k (n / 36) (by rw [Nat.div_lt_iff_lt_mul (by decide)]; rw [Nat.pow_succ] at h; exact h) x hx
      · simp only [List.mem_singleton] at hx
        subst hx
        exact dig_range _ (Nat.mod_lt _ (by decide))
theorem digs_len : ∀ (k n : Nat), 1 ≤ (digs k n).length ∧ (digs k n).length ≤ k + 1
  | 0, n => by simp [digs]
  | k + 1, n => by
    unfold digs
    split
    · simp
    · have := digs_len k (n / 36)
      simp
      omega
def Fits (n : Int) : Prop := -9223372036854775808 ≤ n ∧ n ≤ 9223372036854775807
theorem pow13 (n : Int) (h : Fits n) : n.natAbs < 36 ^ (13 + 1) := by
  have : (36 : Nat) ^ (13 + 1) = 6140942214464815497216 := by decide
  unfold Fits at h
  omega
theorem itoa_range (n : Int) (h : Fits n) : ∀ x ∈ itoa n, 45 ≤ x ∧ x ≤ 122 := by
  intro x hx
  unfold itoa at hx
  split at hx
  · rcases List.mem_cons.1 hx with rfl | hx
    · omega
    · have := digs_range 13 _ (pow13 n h) x hx; omega
  · have := digs_range 13 _ (pow13 n h) x hx; omega
theorem itoa_len (n : Int) : 1 ≤ (itoa n).length ∧ (itoa n).length ≤ 15 := by
  unfold itoa
  have := digs_len 13 n.natAbs
  split
  · rw [List.length_cons]; omega
  · omega
theorem itoa_inj (a b : Int) (ha : Fits a) (hb : Fits b) (h : itoa a = itoa b) : a = b := by
  have va := val_digs 13 _ (pow13 a ha)
  have vb := val_digs 13 _ (pow13 b hb)
  have ra := digs_range 13 _ (pow13 a ha)
  have rb := digs_range 13 _ (pow13 b hb)
  unfold itoa at h
  split at h <;> split at h
  · have := List.tail_eq_of_cons_eq h
    rw [this] at va
    omega
  · have h1 : (45 : Int) ∈ digs 13 b.natAbs := by rw [← h]; exact List.mem_cons_self
    have := rb _ h1
    omega
  · have h1 : (45 : Int) ∈ digs 13 a.natAbs := by rw [h]; exact List.mem_cons_self
    have := ra _ h1
    omega
  · rw [h] at va
    omega
def colText : List Int → List Int
  | [] => []
  | x :: t => itoa x ++ 32 :: colText t
theorem split_at : ∀ (a b s t : List Int), (∀ x ∈ a, x ≠ 32) → (∀ x ∈ b, x ≠ 32) → a ++ 32 :: s = b ++ 32 :: t → a = b ∧ s = t
  | [], [], s, t, _, _, h => ⟨rfl, by simpa using h⟩
  | [], y :: b, s, t, _, hb, h => by
    exfalso
    simp only [List.nil_append, List.cons_append, List.cons.injEq] at h
    exact hb y List.mem_cons_self h.1.symm
  | x :: a, [], s, t, ha, _, h => by
    exfalso
    simp only [List.nil_append, List.cons_append, List.cons.injEq] at h
    exact ha x List.mem_cons_self h.1
  | x :: a, y :: b, s, t, ha, hb, h => by
    simp only [List.cons_append, List.cons.injEq] at h
    obtain ⟨h1, h2⟩ := split_at a b s t (fun z hz => ha z (List.mem_cons_of_mem _ hz)) (fun z hz => hb z (List.mem_cons_of_mem _ hz)) h.2
    exact ⟨by rw [h.1, h1], h2⟩
theorem colText_inj : ∀ (a b : List Int), (∀ x ∈ a, Fits x) → (∀ x ∈ b, Fits x) → colText a = colText b → a = b
  | [], [], _, _, _ => rfl
  | [], y :: b, _, hb, h => by
    exfalso
    have := congrArg List.length h
    simp [colText] at this
  | x :: a, [], _, _, h => by
    exfalso
    have := congrArg List.length h
    simp [colText] at this
  | x :: a, y :: b, ha, hb, h => by
    simp only [colText] at h
    have fx := ha x List.mem_cons_self
    have fy := hb y List.mem_cons_self
    obtain ⟨h1, h2⟩ := split_at _ _ _ _ (fun z hz => by have := itoa_range x fx z hz; omega) (fun z hz => by have := itoa_range y fy z hz; omega) h
    rw [itoa_inj x y fx fy h1, colText_inj a b (fun z hz => ha z (List.mem_cons_of_mem _ hz)) (fun z hz => hb z (List.mem_cons_of_mem _ hz)) h2]
theorem colText_len : ∀ (a : List Int), (colText a).length ≤ 16 * a.length
  | [] => by simp [colText]
  | x :: t => by
    have h1 := itoa_len x
    have h2 := colText_len t
    simp [colText]
    omega
theorem colText_bytes : ∀ (a : List Int), (∀ x ∈ a, Fits x) → ∀ x ∈ colText a, 0 ≤ x ∧ x ≤ 255
  | [], _, x, hx => by cases hx
  | y :: t, ha, x, hx => by
    simp only [colText] at hx
    rcases List.mem_append.1 hx with hx | hx
    · have := itoa_range y (ha y List.mem_cons_self) x hx; omega
    · rcases List.mem_cons.1 hx with rfl | hx
      · omega
      · exact colText_bytes t (fun z hz => ha z (List.mem_cons_of_mem _ hz)) x hx
theorem colText_snoc : ∀ (a : List Int) (x : Int), colText (a ++ [x]) = colText a ++ itoa x ++ [32]
  | [], x => by simp [colText]
  | y :: t, x => by simp [colText, colText_snoc t x]
end Go.Proofs.YtfbfeimildkigaaDoor.IT
