/- Part 7 of the proof: S13k, S13l, S13m, OP, LC, LC2, V3. -/
import Derived.ChangeArms
import Derived.ChangeOld
import Derived.DataReads
import Derived.Deep.DeepHandedRow
import Derived.LaidLaws
import Derived.Lay
import Derived.Lib.SmallJoins
import Derived.OpenShut
import Derived.ProofKit
import Derived.SizedLaws
import Derived.Test.YtplhfgobeicegaaGreatDoorCards
import Derived.Test.YtplhfgobeicegaaGreatDoorTie
import Derived.Test.YtplhfgobeicegaaGreatDoorPe6
namespace Go.Proofs.YtplhfgobeicegaaGreatDoor.P
open Go Go.RowKit Go.Proofs.YtplhfgobeicegaaGreatDoorW.PrintWords Go.Proofs.YtplhfgobeicegaaGreatDoorW.PrintLast Go.Proofs.YtplhfgobeicegaaGreatDoorW.PrintMore Go.Proofs.YtplhfgobeicegaaGreatDoor.PX
set_option linter.unusedVariables false
set_option linter.unusedSimpArgs false
set_option maxRecDepth 100000
def BRow (next : List (List Int)) (tags : List Int) (i : Nat) : Prop := (next.getD i []).length = 256 ∧ -1 ≤ tags.getD i 0 ∧ ∀ j, j < 256 → -1 ≤ (next.getD i []).getD j 0 ∧ (next.getD i []).getD j 0 < (tags.length : Int)
def BHead (next : List (List Int)) (tags : List Int) : Prop := 1 ≤ tags.length ∧ tags.length ≤ 40000 ∧ next.length = tags.length
def BSound (next : List (List Int)) (tags : List Int) : Prop := BHead next tags ∧ ∀ i, i < tags.length → BRow next tags i
instance (next : List (List Int)) (tags : List Int) (i : Nat) : Decidable (BRow next tags i) := by unfold BRow; infer_instance
instance (next : List (List Int)) (tags : List Int) : Decidable (BHead next tags) := by unfold BHead; infer_instance
instance (next : List (List Int)) (tags : List Int) : Decidable (BSound next tags) := by unfold BSound; infer_instance
set_option maxHeartbeats 8000000 in
theorem bsound_calls (X : Nat → Prop) (vn vt : Value) (next : List (List Int)) (tags : List Int) (w : World) (hX : ∀ k, X k → k < w.heap.size) (hn : PV kRow X w vn next) (ht : PV kInt X w vt tags) :
  Calls Tryz.prog 38 #[.agg #[vn, vt]] w fun e w' => e = .returned (.bool (decide (BSound next tags))) ∧ Below w.heap.size w w' := by
 have H1 := aM hn
 have H2 := aM ht
 have m1 := hn.max
 have m2 := ht.max
 obtain ⟨An, cn, rfl, _, _⟩ := hn.now
 obtain ⟨At, ct, rfl, _, _⟩ := ht.now
 have HS := aM ((Sep.start hX).push_box [.slice An next.length cn, .slice At tags.length ct] 49)
 obtain ⟨q, hq⟩ : ∃ q, q = decide (BSound next tags) := ⟨_, rfl⟩
 rw [← hq]
 have HQ := aM (show q = true ↔ BSound next tags by rw [hq]; exact decide_eq_true_iff)
 clear hn ht hX hq
 have no : ¬ BSound next tags → q = false := fun h => by
  cases hqq : q
  ·rfl
  ·exact absurd (HQ.out.1 hqq) h
 have HNO := aM no
 clear no
 by_cases hh : BHead next tags
 case neg =>
  have q0 : q = false := HNO.out (fun h => hh h.1)
  clear HQ HNO
  subst q0
  unfold BHead at hh
  rcases Nat.lt_or_ge tags.length 1 with h1 | h1
  case' inl =>
   have d1 : decide ((tags.length : Int) < 1) = true := dT (by omega)
   have d1' : decide (tags.length < 1) = true := dT h1
  case' inr =>
   have d1 : decide ((tags.length : Int) < 1) = false := dF (by omega)
   have d1' : decide (tags.length < 1) = false := dF (by omega)
   rcases Nat.lt_or_ge 40000 tags.length with h2 | h2
  case' inr.inl =>
   have d2 : decide ((tags.length : Int) > 40000) = true := dT (by omega)
   have d2' : decide (40000 < tags.length) = true := dT h2
  case' inr.inr =>
   have d2 : decide ((tags.length : Int) > 40000) = false := dF (by omega)
   have d2' : decide (40000 < tags.length) = false := dF (by omega)
   have d3 : ((next.length : Int) == (tags.length : Int)) = false := bF (by omega)
   have d3' : ((next.length : Int) != (tags.length : Int)) = true := bne_iff_ne.mpr (by omega)
  all_goals
   clear hh
   go_enter Tryz.func38, Tryz.ntmps38
   go_wp2_with fail
   go_ret
   exact ⟨rfl, HS.out.below⟩
 case pos =>
  have HH := aM hh
  obtain ⟨h1, h2, h3⟩ := hh
  have d1 : decide ((tags.length : Int) < 1) = false := dF (by omega)
  have d1' : decide (tags.length < 1) = false := dF (by omega)
  have d2 : decide ((tags.length : Int) > 40000) = false := dF (by omega)
  have d2' : decide (40000 < tags.length) = false := dF (by omega)
  have d3 : ((next.length : Int) == (tags.length : Int)) = true := beq_iff_eq.mpr (by omega)
  have d3' : ((next.length : Int) != (tags.length : Int)) = false := bne_eq_false_iff_eq.mpr (by omega)
  have HL3 := aM h3
  clear h1 h2 h3
  go_enter Tryz.func38, Tryz.ntmps38
  go_wp2_with fail
  obtain ⟨g0, hg0⟩ : ∃ g, g = w.heap.size := ⟨_, rfl⟩
  rw [← hg0] at HS ⊢
  clear hg0 d1 d1' d2 d2' d3 d3'
  go_loopg [4] tags.length (fun m v4 w' => ∃ (i : Nat), v4 = .int .i64 i ∧ Aside0 (i + m = tags.length) ∧ Aside0 (∀ i', i' < i → BRow next tags i') ∧ Aside0 (Sep X w w' [.box g0 49 [.slice An next.length cn, .slice At tags.length ct]]))
  case atStart => exact ⟨0, rfl, ⟨by omega⟩, ⟨fun i' h => by omega⟩, HS⟩
  case round =>
   clear HS
   obtain ⟨i, rfl, HJ, HI, HS⟩ := hrel
   cases gk with
   | zero =>
    have e1 : decide ((i : Int) < (tags.length : Int)) = false := dF (by have := HJ.out; omega)
    have e2 : decide (i < tags.length) = false := dF (by have := HJ.out; omega)
    have q0 : q = true := HQ.out.2 ⟨HH.out, fun i' h => HI.out i' (by have := HJ.out; omega)⟩
    clear HQ HNO
    subst q0
    go_wp2_with fail
    go_ret
    exact ⟨rfl, HS.out.below⟩
   | succ k1 =>
    have hi : i < tags.length := by have := HJ.out; omega
    have hin : i < next.length := by rw [HL3.out]; exact hi
    have e1 : decide ((i : Int) < (tags.length : Int)) = true := dT (by omega)
    have e2 : decide (i < tags.length) = true := dT hi
    have hi0 : (0 : Int) ≤ (i : Int) := by omega
    have hi1 : (i : Int) < (tags.length : Int) := by omega
    have hi2 : (i : Int) < (next.length : Int) := by omega
    obtain ⟨an, cn', u, en, hu, yn0⟩ := H1.out.row i hin
    cases en
    obtain ⟨at_, ct', et, yt0⟩ := int_cell H2.out i hi
    cases et
    obtain ⟨Au, cu, rfl, _, _⟩ := hu.now
    have HU := aM hu
    have HYN := aM yn0
    have y0 := (HS.out.box 0 rfl).cell 0 rfl
    have y1 := (HS.out.box 0 rfl).cell 1 rfl
    have yn := pw_cell_below HS.out.below yn0
    have yt := pw_cell_below HS.out.below yt0
    have HROW := aM (fun (h : BRow next tags i) => (show (next.getD i []).length = 256 ∧ -1 ≤ tags.getD i 0 ∧ ∀ j, j < 256 → -1 ≤ (next.getD i []).getD j 0 ∧ (next.getD i []).getD j 0 < (tags.length : Int) from h))
    have HROW2 := aM (fun (h : (next.getD i []).length = 256 ∧ -1 ≤ tags.getD i 0 ∧ ∀ j, j < 256 → -1 ≤ (next.getD i []).getD j 0 ∧ (next.getD i []).getD j 0 < (tags.length : Int)) => (show BRow next tags i from h))
    have HNR := aM (fun (h : ¬ BRow next tags i) => HNO.out (fun hs => h (hs.2 i hi)))
    generalize next.getD i [] = row at *
    generalize tags.getD i 0 = tg at *
    clear hu yn0 yt0
    rcases Decidable.em (row.length = 256 ∧ -1 ≤ tg) with hr | hr
    case inr =>
     have q0 : q = false := HNR.out (fun h => hr ⟨(HROW.out h).1, (HROW.out h).2.1⟩)
     clear HQ HNO HNR HROW HROW2
     subst q0
     rcases Decidable.em (row.length = 256) with h4 | h4
     case' inl =>
      have d4 : ((row.length : Int) == 256) = true := beq_iff_eq.mpr (by omega)
      have d4' : ((row.length : Int) != 256) = false := bne_eq_false_iff_eq.mpr (by omega)
      have d5 : decide (tg < -1) = true := dT (by omega)
     case' inr =>
      have d4 : ((row.length : Int) == 256) = false := bF (by omega)
      have d4' : ((row.length : Int) != 256) = true := bne_iff_ne.mpr (by omega)
     all_goals
      clear hr h4
      go_wp2_with fail
      go_ret
      exact ⟨rfl, HS.out.below⟩
    case inl =>
     obtain ⟨h4, h5⟩ := hr
     have d4 : ((row.length : Int) == 256) = true := beq_iff_eq.mpr (by omega)
     have d4' : ((row.length : Int) != 256) = false := bne_eq_false_iff_eq.mpr (by omega)
     have d5 : decide (tg < -1) = false := dF (by omega)
     have HR4 := aM (And.intro h4 h5)
     go_wp2_with fail
     clear d4 d4' d5 y0 y1 yn yt e1 e2 h4 h5
     go_loopg [5] 256 (fun m v5 w' => ∃ (j : Nat), v5 = .int .i64 j ∧ Aside0 (j + m = 256) ∧ Aside0 (∀ j', j' < j → -1 ≤ row.getD j' 0 ∧ row.getD j' 0 < (tags.length : Int)) ∧ Aside0 (Sep X w w' [.box g0 49 [.slice (some an) next.length cn, .slice (some at_) tags.length ct]]))
     case atStart => exact ⟨0, rfl, ⟨by omega⟩, ⟨fun j' h => by omega⟩, HS⟩
     case round =>
      clear HS
      obtain ⟨j, rfl, HJ2, HI2, HS⟩ := hrel
      have y0 := (HS.out.box 0 rfl).cell 0 rfl
      have yn := pw_cell_below HS.out.below HYN.out
      cases gk with
      | zero =>
       have e1 : decide ((j : Int) < 256) = false := dF (by have := HJ2.out; omega)
       have e2 : decide (j < 256) = false := dF (by have := HJ2.out; omega)
       have HB := aM (HROW2.out ⟨HR4.out.1, HR4.out.2, fun j' h => HI2.out j' (by have := HJ2.out; omega)⟩)
       go_wp2_with fail
       go_roundg k1
       case measure => omega
       case rel => exact ⟨i + 1, by go_num, ⟨by have := HJ.out; omega⟩, ⟨fun i' h => (Nat.lt_or_ge i' i).elim (HI.out i') (fun h2 => by
        have : i' = i := by omega
        rw [this]; exact HB.out)⟩, HS⟩
      | succ j1 =>
       have hj : j < 256 := by have := HJ2.out; omega
       have hjr : j < row.length := by have := HR4.out; omega
       have e1 : decide ((j : Int) < 256) = true := dT (by omega)
       have e2 : decide (j < 256) = true := dT hj
       have hj0 : (0 : Int) ≤ (j : Int) := by omega
       have hj1 : (j : Int) < (row.length : Int) := by omega
       obtain ⟨ar, cr, er, yr0⟩ := int_cell HU.out j hjr
       cases er
       have yr := pw_cell_below HS.out.below yr0
       obtain ⟨x, hx⟩ : ∃ x, x = row.getD j 0 := ⟨_, rfl⟩
       rw [← hx] at yr
       have HX := aM hx.symm
       clear yr0 hx
       rcases Decidable.em (-1 ≤ x ∧ x < (tags.length : Int)) with h6 | h6
       case inl =>
        have d6 : decide (x < -1) = false := dF (by omega)
        have d7 : decide (x ≥ (tags.length : Int)) = false := dF (by omega)
        have d8 : decide ((tags.length : Int) ≤ x) = false := dF (by omega)
        have HI3 := aM (show ∀ j', j' < j + 1 → -1 ≤ row.getD j' 0 ∧ row.getD j' 0 < (tags.length : Int) from fun j' h => (Nat.lt_or_ge j' j).elim (HI2.out j') (fun h2 => by
         have : j' = j := by omega
         rw [this, HX.out]; exact h6))
        go_wp2_with fail
        go_roundg j1
        case measure => omega
        case rel => exact ⟨j + 1, by go_num, ⟨by have := HJ2.out; omega⟩, HI3, HS⟩
       case inr =>
        have q0 : q = false := HNR.out (fun h => h6 (by have := (HROW.out h).2.2 j hj; rwa [HX.out] at this))
        clear HQ HNO HNR HROW HROW2
        subst q0
        rcases Decidable.em (x < -1) with h7 | h7
        case' inl => have d6 : decide (x < -1) = true := dT h7
        case' inr =>
         have d6 : decide (x < -1) = false := dF h7
         have d7 : decide (x ≥ (tags.length : Int)) = true := dT (by omega)
         have d8 : decide ((tags.length : Int) ≤ x) = true := dT (by omega)
        all_goals
         clear h6 h7
         go_wp2_with fail
         go_ret
         exact ⟨rfl, HS.out.below⟩
end Go.Proofs.YtplhfgobeicegaaGreatDoor.P
namespace Go.Proofs.YtplhfgobeicegaaGreatDoor.P
open Go Go.RowKit Go.Proofs.YtplhfgobeicegaaGreatDoorW.PrintWords Go.Proofs.YtplhfgobeicegaaGreatDoorW.PrintLast Go.Proofs.YtplhfgobeicegaaGreatDoorW.PrintMore Go.Proofs.YtplhfgobeicegaaGreatDoor.PX
set_option linter.unusedVariables false
set_option linter.unusedSimpArgs false
set_option maxRecDepth 100000
set_option maxHeartbeats 8000000 in
theorem bsame13_calls (X : Nat → Prop) (va vs vb vt : Value) (na nb : List (List Int)) (ta tb : List Int) (w : World) (hX : ∀ k, X k → k < w.heap.size)
  (hna : PV kRow X w va na) (hta : PV kInt X w vs ta) (hnb : PV kRow X w vb nb) (htb : PV kInt X w vt tb) :
  Calls Tryz.prog 35 #[.agg #[va, vs], .agg #[vb, vt]] w fun e w' => e = .returned (.bool (decide (na = nb ∧ ta = tb))) ∧ Below w.heap.size w w' := by
 have HA := aM hna
 have HS_ := aM hta
 have HB_ := aM hnb
 have HT_ := aM htb
 have m1 := hna.max
 have m2 := hta.max
 have m3 := hnb.max
 have m4 := htb.max
 obtain ⟨Aa, ca, rfl, _, _⟩ := hna.now
 obtain ⟨As, cs, rfl, _, _⟩ := hta.now
 obtain ⟨Ab, cb, rfl, _, _⟩ := hnb.now
 obtain ⟨At, ct, rfl, _, _⟩ := htb.now
 obtain ⟨g0, hg0⟩ : ∃ g, g = w.heap.size := ⟨_, rfl⟩
 have HS := aM (((Sep.start hX).push_box' [.slice Aa na.length ca, .slice As ta.length cs] 49 g0 hg0).push_box' [.slice Ab nb.length cb, .slice At tb.length ct] 49 (g0 + 1) (by subst hg0; simp))
 obtain ⟨q, hq⟩ : ∃ q, q = decide (na = nb ∧ ta = tb) := ⟨_, rfl⟩
 rw [← hq]
 have HQ := aM (show q = true ↔ (na = nb ∧ ta = tb) by rw [hq]; exact decide_eq_true_iff)
 clear hna hta hnb htb hX hq
 have no : ¬ (na = nb ∧ ta = tb) → q = false := fun h => by
  cases hqq : q
  ·rfl
  ·exact absurd (HQ.out.1 hqq) h
 have HNO := aM no
 clear no
 rcases Nat.decEq na.length nb.length with h1 | h1
 case' isFalse =>
  have q0 : q = false := HNO.out (fun h => h1 (by rw [h.1]))
  have d1 : ((na.length : Int) == (nb.length : Int)) = false := bF (by omega)
  have d1' : ((na.length : Int) != (nb.length : Int)) = true := bne_iff_ne.mpr (by omega)
 case' isTrue =>
  have d1 : ((na.length : Int) == (nb.length : Int)) = true := beq_iff_eq.mpr (by omega)
  have d1' : ((na.length : Int) != (nb.length : Int)) = false := bne_eq_false_iff_eq.mpr (by omega)
  rcases Nat.decEq ta.length tb.length with h2 | h2
 case' isTrue.isFalse =>
  have q0 : q = false := HNO.out (fun h => h2 (by rw [h.2]))
  have d2 : ((ta.length : Int) == (tb.length : Int)) = false := bF (by omega)
  have d2' : ((ta.length : Int) != (tb.length : Int)) = true := bne_iff_ne.mpr (by omega)
 case isFalse =>
  clear HQ HNO
  subst q0
  clear h1
  go_enter Tryz.func35, Tryz.ntmps35
  go_wp2_with fail
  go_ret
  exact ⟨rfl, HS.out.below⟩
 case isTrue.isFalse =>
  clear HQ HNO
  subst q0
  clear h1 h2
  go_enter Tryz.func35, Tryz.ntmps35
  go_wp2_with fail
  go_ret
  exact ⟨rfl, HS.out.below⟩
 case isTrue.isTrue =>
  have d2 : ((ta.length : Int) == (tb.length : Int)) = true := beq_iff_eq.mpr (by omega)
  have d2' : ((ta.length : Int) != (tb.length : Int)) = false := bne_eq_false_iff_eq.mpr (by omega)
  have HL1 := aM h1
  have HL2 := aM h2
  clear h1 h2
  go_enter Tryz.func35, Tryz.ntmps35
  go_wp2_with fail
  rw [← hg0]
  obtain ⟨w1, hw1⟩ : ∃ x, x = (w.alloc (.cells #[.slice Aa na.length ca, .slice As ta.length cs] 49)).alloc (.cells #[.slice Ab nb.length cb, .slice At tb.length ct] 49) := ⟨_, rfl⟩
  replace HS := aM (show Sep X w w1 _ by rw [hw1]; exact HS.out)
  rw [← hw1]
  clear hg0 hw1 d1 d1' d2 d2'
  go_loopg [5] ta.length (fun m v5 w' => ∃ (i : Nat), v5 = .int .i64 i ∧ Aside0 (i + m = ta.length) ∧ Aside0 (ta.take i = tb.take i) ∧ Aside0 (Sep X w w' [.box g0 49 [.slice Aa na.length ca, .slice As ta.length cs], .box (g0 + 1) 49 [.slice Ab nb.length cb, .slice At tb.length ct]]))
  case atStart => exact ⟨0, rfl, ⟨by omega⟩, ⟨rfl⟩, HS⟩
  case round =>
   clear HS
   obtain ⟨i, rfl, HJ, HI, HS⟩ := hrel
   have y0 := (HS.out.box 0 rfl).cell 1 rfl
   have y1 := (HS.out.box 1 rfl).cell 1 rfl
   cases gk with
   | succ k1 =>
    have hi : i < ta.length := by have := HJ.out; omega
    have hi' : i < tb.length := by have := HJ.out; have := HL2.out; omega
    have e1 : decide ((i : Int) < (ta.length : Int)) = true := dT (by omega)
    have e2 : decide (i < ta.length) = true := dT hi
    have hi0 : (0 : Int) ≤ (i : Int) := by omega
    have hi1 : (i : Int) < (ta.length : Int) := by omega
    have hi2 : (i : Int) < (tb.length : Int) := by omega
    obtain ⟨ax, cx, ex, yx0⟩ := int_cell HS_.out i hi
    cases ex
    obtain ⟨ay, cy, ey, yy0⟩ := int_cell HT_.out i hi'
    cases ey
    have yx := pw_cell_below HS.out.below yx0
    have yy := pw_cell_below HS.out.below yy0
    have HSTEP := aM (alike_step ta tb 0 i HI.out hi hi')
    have HNE := aM (fun (h : ta.getD i 0 ≠ tb.getD i 0) => HNO.out (fun hs => h (by rw [hs.2])))
    clear yx0 yy0
    generalize ta.getD i 0 = x at *
    generalize tb.getD i 0 = y at *
    by_cases c : x = y
    case' pos =>
     have HT3 := aM (HSTEP.out c)
     subst c
    case' neg =>
     have q0 : q = false := HNE.out c
     have d3 : (x == y) = false := bF c
     have d3' : (x != y) = true := bne_iff_ne.mpr c
     clear HQ HNO HNE HSTEP c
     subst q0
    case neg =>
     go_wp2_with fail
     go_quiet (fail)
     have HS2 := aM (HS.out.drewN nq)
     go_wp2_with fail
     go_ret
     exact ⟨rfl, HS2.out.below⟩
    case pos =>
     go_wp2_with fail
     go_quiet (fail)
     have HS2 := aM (HS.out.drewN nq)
     go_wp2_with fail
     go_roundg k1
     case measure => omega
     case rel => exact ⟨i + 1, by go_num, ⟨by have := HJ.out; omega⟩, HT3, HS2⟩
   | zero =>
    have e1 : decide ((i : Int) < (ta.length : Int)) = false := dF (by have := HJ.out; omega)
    have e2 : decide (i < ta.length) = false := dF (by have := HJ.out; omega)
    have HTT := aM (alike_end ta tb i HI.out (by have := HJ.out; omega) (by have := HJ.out; have := HL2.out; omega))
    go_wp2_with fail
    clear y0 y1 e1 e2
    go_loopg [6] na.length (fun m v6 w' => ∃ (i : Nat), v6 = .int .i64 i ∧ Aside0 (i + m = na.length) ∧ Aside0 (na.take i = nb.take i) ∧ Aside0 (Sep X w w' [.box g0 49 [.slice Aa na.length ca, .slice As ta.length cs], .box (g0 + 1) 49 [.slice Ab nb.length cb, .slice At tb.length ct]]))
    case atStart => exact ⟨0, rfl, ⟨by omega⟩, ⟨rfl⟩, HS⟩
    case round =>
     clear HS HI HJ
     obtain ⟨i, rfl, HJ, HI, HS⟩ := hrel
     have y0 := (HS.out.box 0 rfl).cell 0 rfl
     have y1 := (HS.out.box 1 rfl).cell 0 rfl
     cases gk with
     | zero =>
      have e1 : decide ((i : Int) < (na.length : Int)) = false := dF (by have := HJ.out; omega)
      have e2 : decide (i < na.length) = false := dF (by have := HJ.out; omega)
      have HNN := aM (alike_end na nb i HI.out (by have := HJ.out; omega) (by have := HJ.out; have := HL1.out; omega))
      have q0 : q = true := HQ.out.2 ⟨HNN.out, HTT.out⟩
      clear HQ HNO
      subst q0
      go_wp2_with fail
      go_ret
      exact ⟨rfl, HS.out.below⟩
     | succ k1 =>
      have hi : i < na.length := by have := HJ.out; omega
      have hi' : i < nb.length := by have := HJ.out; have := HL1.out; omega
      have e1 : decide ((i : Int) < (na.length : Int)) = true := dT (by omega)
      have e2 : decide (i < na.length) = true := dT hi
      have hi0 : (0 : Int) ≤ (i : Int) := by omega
      have hi1 : (i : Int) < (na.length : Int) := by omega
      have hi2 : (i : Int) < (nb.length : Int) := by omega
      obtain ⟨ax, cx, ux, ex, hux, yx0⟩ := HA.out.row i hi
      cases ex
      obtain ⟨ay, cy, uy, ey, huy, yy0⟩ := HB_.out.row i hi'
      cases ey
      have yx := pw_cell_below HS.out.below yx0
      have yy := pw_cell_below HS.out.below yy0
      have HSTEP := aM (alike_step na nb [] i HI.out hi hi')
      have HNE := aM (fun (h : na.getD i [] ≠ nb.getD i []) => HNO.out (fun hs => h (by rw [hs.1])))
      have HYX := aM yx0
      have HYY := aM yy0
      clear yx0 yy0
      obtain ⟨rx, hrx⟩ : ∃ r, r = na.getD i [] := ⟨_, rfl⟩
      obtain ⟨ry, hry⟩ : ∃ r, r = nb.getD i [] := ⟨_, rfl⟩
      rw [← hrx] at hux HSTEP HNE
      rw [← hry] at huy HSTEP HNE
      clear hrx hry
      have m5 := hux.max
      have m6 := huy.max
      obtain ⟨Ax, dx, rfl, _, _⟩ := hux.now
      obtain ⟨Ay, dy, rfl, _, _⟩ := huy.now
      have HUX := aM hux
      have HUY := aM huy
      clear hux huy
      rcases Nat.decEq rx.length ry.length with c | c
      case isFalse =>
       have q0 : q = false := HNE.out (fun h => c (by rw [h]))
       have d3 : ((rx.length : Int) == (ry.length : Int)) = false := bF (by omega)
       have d3' : ((rx.length : Int) != (ry.length : Int)) = true := bne_iff_ne.mpr (by omega)
       clear HQ HNO HNE HSTEP c
       subst q0
       go_wp2_with fail
       go_quiet (fail)
       have HS2 := aM (HS.out.drewN nq)
       go_wp2_with fail
       go_ret
       exact ⟨rfl, HS2.out.below⟩
      case isTrue =>
       have d3 : ((rx.length : Int) == (ry.length : Int)) = true := beq_iff_eq.mpr (by omega)
       have d3' : ((rx.length : Int) != (ry.length : Int)) = false := bne_eq_false_iff_eq.mpr (by omega)
       have HLR := aM c
       clear c
       go_wp2_with fail
       go_quiet (fail)
       have HS2 := aM (HS.out.drewN nq)
       obtain ⟨wq, hwq⟩ : ∃ x, x = wr.drewN nq := ⟨_, rfl⟩
       rw [← hwq] at HS2 ⊢
       clear hwq y0 y1 yx yy d3 d3'
       go_wp2_with fail
       clear HS
       go_loopg [7] rx.length (fun m v7 w' => ∃ (j : Nat), v7 = .int .i64 j ∧ Aside0 (j + m = rx.length) ∧ Aside0 (rx.take j = ry.take j) ∧ Aside0 (Sep X w w' [.box g0 49 [.slice (some ax) na.length ca, .slice As ta.length cs], .box (g0 + 1) 49 [.slice (some ay) nb.length cb, .slice At tb.length ct]]))
       case atStart => exact ⟨0, rfl, ⟨by omega⟩, ⟨rfl⟩, HS2⟩
       case round =>
        clear HS2
        obtain ⟨j, rfl, HJ2, HI2, HS⟩ := hrel
        have y0 := (HS.out.box 0 rfl).cell 0 rfl
        have y1 := (HS.out.box 1 rfl).cell 0 rfl
        have yx := pw_cell_below HS.out.below HYX.out
        have yy := pw_cell_below HS.out.below HYY.out
        cases gk with
        | zero =>
         have e1 : decide ((j : Int) < (rx.length : Int)) = false := dF (by have := HJ2.out; omega)
         have e2 : decide (j < rx.length) = false := dF (by have := HJ2.out; omega)
         have HST := aM (HSTEP.out (alike_end rx ry j HI2.out (by have := HJ2.out; omega) (by have := HJ2.out; have := HLR.out; omega)))
         go_wp2_with fail
         go_roundg k1
         case measure => omega
         case rel => exact ⟨i + 1, by go_num, ⟨by have := HJ.out; omega⟩, HST, HS⟩
        | succ j1 =>
         have hj : j < rx.length := by have := HJ2.out; omega
         have hj' : j < ry.length := by have := HJ2.out; have := HLR.out; omega
         have e1 : decide ((j : Int) < (rx.length : Int)) = true := dT (by omega)
         have e2 : decide (j < rx.length) = true := dT hj
         have hj0 : (0 : Int) ≤ (j : Int) := by omega
         have hj1 : (j : Int) < (rx.length : Int) := by omega
         have hj2 : (j : Int) < (ry.length : Int) := by omega
         obtain ⟨az, cz, ez, yz0⟩ := int_cell HUX.out j hj
         cases ez
         obtain ⟨at_, ct_, et, yt0⟩ := int_cell HUY.out j hj'
         cases et
         have yz := pw_cell_below HS.out.below yz0
         have yt := pw_cell_below HS.out.below yt0
         have HSTEP2 := aM (alike_step rx ry 0 j HI2.out hj hj')
         have HNE2 := aM (fun (h : rx.getD j 0 ≠ ry.getD j 0) => HNE.out (fun hs => h (by rw [hs])))
         clear yz0 yt0
         generalize rx.getD j 0 = x at *
         generalize ry.getD j 0 = y at *
         by_cases c : x = y
         case' pos =>
          have HT3 := aM (HSTEP2.out c)
          subst c
         case' neg =>
          have q0 : q = false := HNE2.out c
          have d3 : (x == y) = false := bF c
          have d3' : (x != y) = true := bne_iff_ne.mpr c
          clear HQ HNO HNE HSTEP HNE2 HSTEP2 c
          subst q0
         case neg =>
          go_wp2_with fail
          go_quiet (fail)
          have HS2 := aM (HS.out.drewN nq)
          go_wp2_with fail
          go_ret
          exact ⟨rfl, HS2.out.below⟩
         case pos =>
          go_wp2_with fail
          go_quiet (fail)
          have HS2 := aM (HS.out.drewN nq)
          go_wp2_with fail
          go_roundg j1
          case measure => omega
          case rel => exact ⟨j + 1, by go_num, ⟨by have := HJ2.out; omega⟩, HT3, HS2⟩
end Go.Proofs.YtplhfgobeicegaaGreatDoor.P
namespace Go.Proofs.YtplhfgobeicegaaGreatDoor.P
open Go Go.RowKit Go.Proofs.YtplhfgobeicegaaGreatDoorW.PrintWords Go.Proofs.YtplhfgobeicegaaGreatDoorW.PrintLast Go.Proofs.YtplhfgobeicegaaGreatDoorW.PrintMore Go.Proofs.YtplhfgobeicegaaGreatDoor.PX
set_option linter.unusedVariables false
set_option linter.unusedSimpArgs false
set_option maxRecDepth 100000
def U8s (s : List Int) : Prop := ∀ c ∈ s, 0 ≤ c ∧ c < 256
theorem u8s_at {s : List Int} (h : U8s s) (i : Nat) (hi : i < s.length) : ∃ n : Nat, s.getD i 0 = (n : Int) ∧ n < 256 := by
 have h1 := h (s.getD i 0) (by rw [List.getD_eq_getElem?_getD, List.getElem?_eq_getElem hi]; exact List.getElem_mem hi)
 exact ⟨(s.getD i 0).toNat, by omega, by omega⟩
theorem u8_cell {X : Nat → Prop} {w : World} {v : Value} {xs : List Int} (h : PV kU8 X w v xs) (j : Nat) (hj : j < xs.length) : ∃ ad c, v = .slice (some ad) xs.length c ∧ w.cell? (ad.add j) = some (.int .u8 (xs.getD j 0)) := by
 obtain ⟨A, c, rfl, _, hC⟩ := h.now
 obtain ⟨ad, e, y⟩ := Kd.at_int hC (j : Int) (by omega) (by omega)
 cases e
 exact ⟨ad, c, rfl, by simpa [rd] using y⟩
end Go.Proofs.YtplhfgobeicegaaGreatDoor.P
namespace Go.Proofs.YtplhfgobeicegaaGreatDoor.OP
open Go Go.RowKit Go.Proofs.YtplhfgobeicegaaGreatDoorW.PrintWords
variable {H : Type} {enc : TypeId × Value → H} {P : Program} {w : World}
def Opens {α : Type} (enc : TypeId × Value → H) (P : Program) (w : World) (t : TypeId) (d : Kd α) (good : α → Prop) : Prop :=
 P.cellsOf t = d.sz ∧ ∀ fuel cs x, DataW.trod enc P w 0 (fun _ => true) true fuel t cs = some x → ∃ a, d.K w a cs ∧ good a
theorem Opens.mono {α : Type} {t : TypeId} {d : Kd α} {good good' : α → Prop} (h : Opens enc P w t d good) (hg : ∀ a, good a → good' a) : Opens enc P w t d good' :=
 ⟨h.1, fun fuel cs x hx => by obtain ⟨a, ha, hb⟩ := h.2 fuel cs x hx; exact ⟨a, ha, hg a hb⟩⟩
theorem opens_int {t : TypeId} {k : IntKind} (ht : P.underlying t = some (.int k)) (hc : P.cellsOf t = 1) : Opens enc P w t (Kd.int k) (fun n => (Lit.int k n).wf = true) :=
 ⟨hc, fun fuel cs x hx => by
  obtain ⟨n, rfl, _, hw⟩ := DataW.trod_int ht hx
  exact ⟨n, rfl, hw⟩⟩
theorem opens_slice {α : Type} {t e : TypeId} {d : Kd α} {good : α → Prop} (ht : P.underlying t = some (.slice e)) (hc : P.cellsOf t = 1) (he : Opens enc P w e d good) :
  Opens enc P w t (Kd.slice e d) (fun l => l.length ≤ maxLen ∧ ∀ x ∈ l, good x) :=
 ⟨hc, fun fuel cs x hx => by
  rcases DataW.trod_slice ht hx with ⟨rfl, _⟩ | ⟨a, len, cap, elems, rest, n, _, rfl, _, _, hl, hm, hlen, hel, _, _⟩
  ·exact ⟨[], ⟨none, 0, rfl, Nat.le_refl _, rfl, by simp, fun h => absurd h (Nat.lt_irrefl 0)⟩, by simp, fun y hy => by cases hy⟩
  ·have hmx : len ≤ 9223372036854775807 := by unfold maxLen at hm; omega
   have : ∀ m, m ≤ len → ∃ xs : List α, xs.length = m ∧ (∀ j p, xs[j]? = some p → ∃ c, c.length = d.sz ∧ d.K w p c ∧ ∀ i u, c[i]? = some u → w.cell? (a.add (j * d.sz + i)) = some u) ∧ ∀ x ∈ xs, good x := by
    intro m
    induction m with
    | zero => exact fun _ => ⟨[], rfl, fun j p h => by simp at h, fun x h => by cases h⟩
    | succ m ih =>
     intro hm2
     obtain ⟨xs, h1, h2, h3⟩ := ih (by omega)
     have h4 := hel m (by omega)
     rw [List.getElem?_eq_getElem (show m < elems.length by omega), Option.bind_eq_some_iff] at h4
     obtain ⟨c, hcs, hy⟩ := h4
     obtain ⟨p, hK, hg⟩ := he.2 _ _ _ hy
     obtain ⟨_, hcl, hcell⟩ := World.cells?_some hcs
     rw [he.1] at hcl hcell
     refine ⟨xs ++ [p], by simp [h1], fun j q hq => ?_, fun x hx => ?_⟩
     ·rcases Nat.lt_or_ge j xs.length with hj | hj
      ·rw [List.getElem?_append_left hj] at hq
       exact h2 j q hq
      ·have hj' : j = m := by
        have := (List.getElem?_eq_some_iff.1 hq).1
        simp at this
        omega
       subst hj'
       obtain rfl : p = q := by rw [← h1] at hq; simpa using hq
       refine ⟨c, hcl, hK, fun i u hu => ?_⟩
       have hi : i < d.sz := by have := (List.getElem?_eq_some_iff.1 hu).1; omega
       have := hcell i hi
       rw [hu] at this
       rw [← this]
       congr 1
       unfold Addr.add
       by_cases z1 : j * d.sz = 0 <;> by_cases z2 : i = 0 <;> simp [z1, z2, Nat.add_assoc]
     ·rcases List.mem_append.1 hx with hx | hx
      ·exact h3 x hx
      ·obtain rfl : x = p := by simpa using hx
       exact hg
   obtain ⟨xs, h1, h2, h3⟩ := this len (Nat.le_refl _)
   subst h1
   exact ⟨xs, ⟨some a, cap, rfl, hl, rfl, hmx, fun _ => ⟨a, rfl, h2⟩⟩, by omega, h3⟩⟩
theorem Opens.arg {α : Type} {t e : TypeId} {d : Kd α} {good : List α → Prop} (h : Opens enc P w t (Kd.slice e d) good) {a : Option Addr} {len cap : Nat} {x : DataW H} {p : List MemPlace} (hx : DataW.Trod enc P w 0 (fun _ => true) true t (.slice a len cap) x p) :
  ∃ l, len = l.length ∧ l.length ≤ cap ∧ d.C w a l.length l ∧ good l := by
 obtain ⟨fuel, hf⟩ := hx
 obtain ⟨l, ⟨A, c, he, hc, hC⟩, hg⟩ := h.2 _ _ _ hf
 simp [Value.cells] at he
 obtain ⟨rfl, rfl, rfl⟩ := he
 exact ⟨l, rfl, hc, hC, hg⟩
end Go.Proofs.YtplhfgobeicegaaGreatDoor.OP
namespace Go.Proofs.YtplhfgobeicegaaGreatDoor.LC
open Go Go.RowKit Go.ChangeShapes Go.WideShapes Go.ChangeAt Go.Proofs.YtplhfgobeicegaaGreatDoorW.PrintWords Go.Proofs.YtplhfgobeicegaaGreatDoor.PX Go.Proofs.YtplhfgobeicegaaGreatDoor.P
set_option linter.unusedVariables false
theorem own : ownKnob Tryz.prog.godebug = none := by kernel_rfl
theorem laidOut : laidOutB Tryz.prog = true := by kernel_rfl
theorem cInt : Tryz.prog.cellsOf 3 = 1 := by kernel_rfl
theorem cU8 : Tryz.prog.cellsOf 5 = 1 := by kernel_rfl
theorem cInts : Tryz.prog.cellsOf 26 = 1 := by kernel_rfl
theorem cU8s : Tryz.prog.cellsOf 24 = 1 := by kernel_rfl
theorem cRows : Tryz.prog.cellsOf 25 = 1 := by kernel_rfl
def no : Nat → Prop := fun _ => False
theorem no_old (w : World) : ∀ k, no k → k < w.heap.size := fun _ h => h.elim
theorem ofC {α : Type} {d : Kd α} {w : World} {A : Option Addr} {c : Nat} {xs : List α} (h : d.C w A xs.length xs) (hc : xs.length ≤ c) : PV d no w (.slice A xs.length c) xs :=
 ⟨A, c, rfl, hc, fun w' ha => Kd.C_below h (ha.below (fun _ _ h => h))⟩
section
variable {H : Type} {enc : TypeId × Value → H} {W : World} {n : Nat} {v : Value} {y : DataW H × List MemPlace}
open OP in
theorem bytes (h : DataW.trod enc Tryz.prog W 0 (fun _ => true) true n 24 [v] = some y) : ∃ l, PV kU8 no W v l ∧ U8s l := by
 obtain ⟨l, ⟨A, c, he, hc, hC⟩, hg⟩ := (opens_slice (enc := enc) (w := W) Tryz.underlying24 cU8s (opens_int Tryz.underlying5 cU8)).2 _ _ _ h
 cases he
 refine ⟨l, ofC hC hc, fun x hx => ?_⟩
 have h1 := hg.2 x hx
 simp [Lit.wf, IntKind.min, IntKind.max, IntKind.signed, IntKind.bits] at h1
 omega
open OP in
theorem rows (h : DataW.trod enc Tryz.prog W 0 (fun _ => true) true n 25 [v] = some y) : ∃ l, PV (Kd.slice 3 kInt) no W v l := by
 obtain ⟨l, ⟨A, c, he, hc, hC⟩, hg⟩ := (opens_slice (enc := enc) (w := W) Tryz.underlying25 cRows (opens_slice Tryz.underlying26 cInts (opens_int Tryz.underlying3 cInt))).2 _ _ _ h
 cases he
 exact ⟨l, ofC hC hc⟩
theorem arg1 {t : TypeId} {d : DataW H} {p : List MemPlace} {a : Option Addr} {len cap : Nat} (h : DataW.Trod enc Tryz.prog W 0 (fun _ => true) true t (.slice a len cap) d p) : ∃ n y, DataW.trod enc Tryz.prog W 0 (fun _ => true) true n t [.slice a len cap] = some y := by
 obtain ⟨n, hn⟩ := h
 exact ⟨n, _, hn⟩
end
theorem world_met (os : Os) (args : Array Value) : laidMetH Tryz.prog Rows.packDecodesRow.laid ((World.laidAll Tryz.prog os Rows.packDecodesRow.laid).forCall (fun _ _ => 0) ⟨#[], args, []⟩).memory := by
 rw [MakeChecks.laidMetH_plain _ _ _ (by kernel_rfl)]
 exact laidMet_laidAll _ (by kernel_rfl) (by kernel_rfl)
theorem cU16 : Tryz.prog.cellsOf 30 = 1 := by kernel_rfl
theorem cU16s : Tryz.prog.cellsOf 94 = 1 := by kernel_rfl
theorem cU16ss : Tryz.prog.cellsOf 22 = 1 := by kernel_rfl
theorem cI8 : Tryz.prog.cellsOf 97 = 1 := by kernel_rfl
theorem cI8s : Tryz.prog.cellsOf 23 = 1 := by kernel_rfl
variable {H : Type} {enc : TypeId × Value → H} {W : World} {n : Nat} {v : Value} {y : DataW H × List MemPlace}
open OP in
theorem i8s (h : DataW.trod enc Tryz.prog W 0 (fun _ => true) true n 23 [v] = some y) : ∃ l, PV (Kd.int .i8) no W v l ∧ ∀ x ∈ l, -128 ≤ x ∧ x ≤ 127 := by
 obtain ⟨l, ⟨A, c, he, hc, hC⟩, hg⟩ := (opens_slice (enc := enc) (w := W) Tryz.underlying23 cI8s (opens_int Tryz.underlying97 cI8)).2 _ _ _ h
 cases he
 refine ⟨l, ofC hC hc, fun x hx => ?_⟩
 have h1 := hg.2 x hx
 simp [Lit.wf, IntKind.min, IntKind.max, IntKind.signed, IntKind.bits] at h1
 omega
open OP in
theorem u16ss (h : DataW.trod enc Tryz.prog W 0 (fun _ => true) true n 22 [v] = some y) : ∃ l, PV kU16s no W v l ∧ ∀ r ∈ l, ∀ x ∈ r, 0 ≤ x ∧ x < 65536 := by
 obtain ⟨l, ⟨A, c, he, hc, hC⟩, hg⟩ := (opens_slice (enc := enc) (w := W) Tryz.underlying22 cU16ss (opens_slice Tryz.underlying94 cU16s (opens_int Tryz.underlying30 cU16))).2 _ _ _ h
 cases he
 refine ⟨l, ofC hC hc, fun r hr x hx => ?_⟩
 have h1 := (hg.2 r hr).2 x hx
 simp [Lit.wf, IntKind.min, IntKind.max, IntKind.signed, IntKind.bits] at h1
 omega
end Go.Proofs.YtplhfgobeicegaaGreatDoor.LC
namespace Go.Proofs.YtplhfgobeicegaaGreatDoor.P
open Go Go.RowKit Go.Proofs.YtplhfgobeicegaaGreatDoorW.PrintWords Go.Proofs.YtplhfgobeicegaaGreatDoorW.PrintLast Go.Proofs.YtplhfgobeicegaaGreatDoorW.PrintMore Go.Proofs.YtplhfgobeicegaaGreatDoor.PX
set_option linter.unusedVariables false
set_option linter.unusedSimpArgs false
set_option maxRecDepth 100000
def two15 (n : Int) : List Int := [n / 256 % 256, n % 256]
theorem magic_calls (X : Nat → Prop) (w0 w : World) (L : List PX.Item) (hs : Sep X w0 w L) :
  Calls Tryz.prog 18 #[] w fun e w' => ∃ v, e = .returned v ∧ Sep X w0 w' (L ++ [.row kU8 5 v [71, 67, 1]]) := by
 have HS := aM hs
 clear hs
 go_enter Tryz.func18, Tryz.ntmps18
 go_wp2_with (first
  | ((with_reducible refine gate_dst (N := 1) rfl ?_); refine slit_row kU8 5 ?hg (N := 1) ?hd (xs := [(71 : Int), 67, 1]) (inner := [.int .u8 71, .int .u8 67, .int .u8 1]) ?hr HS.out ?hp (by simp) ?_; (case hd => rfl); (case hg => rfl); (case hr => first | (go_simp; done) | (go_simp; rfl)); (case hp => exact Reps.one (PK.scalar _) (Reps.one (PK.scalar _) (Reps.one (PK.scalar _) (Reps.none _ _)))); clear HS; intro v30 w30 hs; have HS := aM hs; clear hs))
 go_ret
 exact ⟨_, rfl, HS.out⟩
set_option maxHeartbeats 4000000 in
theorem two_calls (X : Nat → Prop) (w0 w : World) (L : List PX.Item) (i : Nat) (v : Value) (xs : List Int) (n : Int) (hs : Sep X w0 w L) (hi : L[i]? = some (.row kU8 5 v xs)) (hn : 0 ≤ n ∧ n < 1000000000000) (hl : xs.length ≤ 1000000000) :
  Calls Tryz.prog 17 #[v, .int .i64 n] w fun ee w' => ∃ v1, ee = .returned v1 ∧ Sep X w0 w' (L.set i (.row kU8 5 v1 (xs ++ two15 n))) := by
 have HS := aM hs
 obtain ⟨A0, c0, rfl⟩ := hs.form i hi
 have HI := aM hi
 have hlt : i < L.length := (List.getElem?_eq_some_iff.1 hi).1
 obtain ⟨hn0, hn1⟩ := hn
 clear hs hi
 go_enter Tryz.func17, Tryz.ntmps17
 go_wp2_with (first
  | ((with_reducible refine gate_dst (N := 11) rfl ?_); refine slit kU8 5 ?hg (N := 11) ?hd (xs := [n / 256 % 256, n % 256]) (inner := [.int .u8 (n / 256 % 256), .int .u8 (n % 256)]) ?hr HS.out ?hp (by simp) ?_; (case hd => rfl); (case hg => rfl); (case hr => first | (go_simp; done) | (go_simp; rfl)); (case hp => exact Reps.one (PK.scalar _) (Reps.one (PK.scalar _) (Reps.none _ _))); clear HS; intro v30 w30 hs; have HS := aM hs; clear hs)
  | ((with_reducible refine gate_builtin (b := .append) (xs := #[.tmp 5, .tmp 11]) rfl ?_); at_builtin; refine sgrow kU8 i rfl (.tmp 5) (.tmp 11) 24 5 (.int .u8 0) 1 rfl Tryz.underlying24 info5 rfl (by decide) (by omega) _ _ xs [n / 256 % 256, n % 256] rfl rfl HS.out (by rw [List.getElem?_append_left hlt]; exact HI.out) (HS.out.ro L.length List.getElem?_concat_length) (by rw [List.length_cons, lS]; omega) ?_; intro v1 w1 hs; rw [List.set_append, if_pos hlt] at hs; have hs2 := hs.sub (List.sublist_append_left _ _); clear HS; have HS := aM hs2; clear hs hs2))
 go_ret
 exact ⟨_, rfl, HS.out⟩
set_option maxHeartbeats 4000000 in
theorem lay1_calls (X : Nat → Prop) (w0 w : World) (L : List PX.Item) (i : Nat) (v : Value) (xs : List Int) (k : Int) (hs : Sep X w0 w L) (hi : L[i]? = some (.row kU8 5 v xs)) (hl : xs.length ≤ 1000000000) :
  Calls Tryz.prog 20 #[v, .int .u8 k] w fun ee w' => ∃ v1, ee = .returned v1 ∧ Sep X w0 w' (L.set i (.row kU8 5 v1 (xs ++ [k]))) := by
 have HS := aM hs
 obtain ⟨A0, c0, rfl⟩ := hs.form i hi
 have HI := aM hi
 have hlt : i < L.length := (List.getElem?_eq_some_iff.1 hi).1
 clear hs hi
 go_enter Tryz.func20, Tryz.ntmps20
 go_wp2_with (first
  | ((with_reducible refine gate_dst (N := 7) rfl ?_); refine slit kU8 5 ?hg (N := 7) ?hd (xs := [k]) (inner := [.int .u8 k]) ?hr HS.out ?hp (by simp) ?_; (case hd => rfl); (case hg => rfl); (case hr => first | (go_simp; done) | (go_simp; rfl)); (case hp => exact Reps.one (PK.scalar _) (Reps.none _ _)); clear HS; intro v30 w30 hs; have HS := aM hs; clear hs)
  | ((with_reducible refine gate_builtin (b := .append) (xs := #[.tmp 5, .tmp 7]) rfl ?_); at_builtin; refine sgrow kU8 i rfl (.tmp 5) (.tmp 7) 24 5 (.int .u8 0) 1 rfl Tryz.underlying24 info5 rfl (by decide) (by omega) _ _ xs [k] rfl rfl HS.out (by rw [List.getElem?_append_left hlt]; exact HI.out) (HS.out.ro L.length List.getElem?_concat_length) (by rw [lS]; omega) ?_; intro v1 w1 hs; rw [List.set_append, if_pos hlt] at hs; have hs2 := hs.sub (List.sublist_append_left _ _); clear HS; have HS := aM hs2; clear hs hs2))
 go_ret
 exact ⟨_, rfl, HS.out⟩
theorem lay2_calls (X : Nat → Prop) (w0 w : World) (L : List PX.Item) (i : Nat) (v : Value) (xs : List Int) (x : Int) (hs : Sep X w0 w L) (hi : L[i]? = some (.row kU8 5 v xs)) (hx : -1 ≤ x ∧ x < 1000000) (hl : xs.length ≤ 1000000000) :
  Calls Tryz.prog 22 #[v, .int .i64 x] w fun ee w' => ∃ v1, ee = .returned v1 ∧ Sep X w0 w' (L.set i (.row kU8 5 v1 (xs ++ two15 (x + 1)))) := by
 have HS := aM hs
 obtain ⟨A0, c0, rfl⟩ := hs.form i hi
 have HI := aM hi
 obtain ⟨hx0, hx1⟩ := hx
 clear hs hi
 go_enter Tryz.func22, Tryz.ntmps22
 go_wp2_with (first
  | (go_at_call 17; (with_reducible refine (two_calls X w0 _ L i _ xs (x + 1) HS.out HI.out (by omega) hl).mono ?_); rintro ee w5 ⟨v1, rfl, hs⟩; clear HS; have HS := aM hs; clear hs))
 go_ret
 exact ⟨_, rfl, HS.out⟩
end Go.Proofs.YtplhfgobeicegaaGreatDoor.P
