/- Part 11 of the proof: S14b, S14c, V6p, VD, V8, V9. -/
import Derived.Test.YtplhfgobeicegaaGreatDoorPe9
import Derived.Test.YtplhfgobeicegaaGreatDoorPe10
namespace Go.Proofs.YtplhfgobeicegaaGreatDoor.P
open Go Go.RowKit Go.Proofs.YtplhfgobeicegaaGreatDoorW.PrintWords Go.Proofs.YtplhfgobeicegaaGreatDoorW.PrintLast Go.Proofs.YtplhfgobeicegaaGreatDoorW.PrintMore Go.Proofs.YtplhfgobeicegaaGreatDoor.PX
set_option linter.unusedVariables false
set_option linter.unusedSimpArgs false
set_option maxRecDepth 100000
theorem manyGo_le : ∀ (l : List Int) (n : Int), (∀ c ∈ l, 0 ≤ c ∧ c < 256) → -1 ≤ n → n ≤ 256 → -1 ≤ manyGo l n ∧ manyGo l n ≤ 256
 | [], n, _, h0, h1 => ⟨h0, h1⟩
 | c :: t, n, h, h0, h1 => by
  rw [manyGo]
  have hc := h c (List.mem_cons_self ..)
  by_cases h2 : c > n
  ·rw [if_pos h2]; omega
  ·rw [if_neg h2]; exact manyGo_le t _ (fun x hx => h x (List.mem_cons_of_mem _ hx)) (by omega) (by omega)
theorem many14_le {l : List Int} (h : U8s l) : ∃ n : Nat, many14 l = (n : Int) ∧ n ≤ 256 := by
 have h1 := manyGo_le l 0 h (by omega) (by omega)
 unfold many14
 by_cases h2 : manyGo l 0 = -1 ∨ l.length ≠ 256
 ·exact ⟨0, by rw [if_pos h2]; rfl, by omega⟩
 ·exact ⟨(manyGo l 0).toNat, by rw [if_neg h2]; omega, by omega⟩
def TRow (n : Nat) (next : List (List Int)) (tags : List Int) (i : Nat) : Prop := (next.getD i []).length = n ∧ -1 ≤ tags.getD i 0 ∧ ∀ j, j < n → -1 ≤ (next.getD i []).getD j 0 ∧ (next.getD i []).getD j 0 < (tags.length : Int)
def THead (n : Nat) (next : List (List Int)) (tags : List Int) : Prop := n ≠ 0 ∧ 1 ≤ tags.length ∧ tags.length ≤ 40000 ∧ next.length = tags.length
def TSoundN (n : Nat) (next : List (List Int)) (tags : List Int) : Prop := THead n next tags ∧ (∀ i, i < tags.length → TRow n next tags i) ∧ ∀ a, a < n → ∀ b, b < a → sameCol next a b = false
def TSound (cl : List Int) (next : List (List Int)) (tags : List Int) : Prop := TSoundN (many14 cl).toNat next tags
instance (n : Nat) (next : List (List Int)) (tags : List Int) (i : Nat) : Decidable (TRow n next tags i) := by unfold TRow; infer_instance
instance (n : Nat) (next : List (List Int)) (tags : List Int) : Decidable (THead n next tags) := by unfold THead; infer_instance
instance (n : Nat) (next : List (List Int)) (tags : List Int) : Decidable (TSoundN n next tags) := by unfold TSoundN; infer_instance
instance (cl : List Int) (next : List (List Int)) (tags : List Int) : Decidable (TSound cl next tags) := by unfold TSound; infer_instance
set_option maxHeartbeats 8000000 in
theorem tsound_calls (X : Nat → Prop) (vc vn vt : Value) (cl : List Int) (next : List (List Int)) (tags : List Int) (w : World) (hX : ∀ k, X k → k < w.heap.size) (hc : PV kU8 X w vc cl) (hn : PV kRow X w vn next) (ht : PV kInt X w vt tags) (hu : U8s cl) :
  Calls Tryz.prog 24 #[.agg #[vc, vn, vt]] w fun e w' => e = .returned (.bool (decide (TSound cl next tags))) ∧ Below w.heap.size w w' := by
 have H0 := aM hc
 have H1 := aM hn
 have H2 := aM ht
 have HU := aM hu
 have m1 := hn.max
 have m2 := ht.max
 obtain ⟨Ac, cc, rfl, _, _⟩ := hc.now
 obtain ⟨An, cn, rfl, _, _⟩ := hn.now
 obtain ⟨At, ct, rfl, _, _⟩ := ht.now
 have HS := aM ((Sep.start hX).push_box [.slice Ac cl.length cc, .slice An next.length cn, .slice At tags.length ct] 28)
 obtain ⟨n, hnn, hn256⟩ := many14_le hu
 obtain ⟨q, hq⟩ : ∃ q, q = decide (TSound cl next tags) := ⟨_, rfl⟩
 rw [← hq]
 have HQ := aM (show q = true ↔ TSoundN n next tags by rw [hq, decide_eq_true_iff, TSound, hnn]; exact Iff.rfl)
 have HN := aM hnn
 clear hc hn ht hX hq hu hnn
 have no : ¬ TSoundN n next tags → q = false := fun h => by
  cases hqq : q
  ·rfl
  ·exact absurd (HQ.out.1 hqq) h
 have HNO := aM no
 clear no
 by_cases hh : THead n next tags
 case neg =>
  have q0 : q = false := HNO.out (fun h => hh h.1)
  clear HQ HNO
  subst q0
  unfold THead at hh
  rcases Nat.eq_zero_or_pos n with h0 | h0
  case' inl =>
   have d0 : ((n : Int) == 0) = true := beq_iff_eq.mpr (by omega)
  case' inr =>
   have d0 : ((n : Int) == 0) = false := bF (by omega)
   rcases Nat.lt_or_ge tags.length 1 with h1 | h1
  case' inr.inl =>
   have d1 : decide ((tags.length : Int) < 1) = true := dT (by omega)
   have d1' : decide (tags.length < 1) = true := dT h1
  case' inr.inr =>
   have d1 : decide ((tags.length : Int) < 1) = false := dF (by omega)
   have d1' : decide (tags.length < 1) = false := dF (by omega)
   rcases Nat.lt_or_ge 40000 tags.length with h2 | h2
  case' inr.inr.inl =>
   have d2 : decide ((tags.length : Int) > 40000) = true := dT (by omega)
   have d2' : decide (40000 < tags.length) = true := dT h2
  case' inr.inr.inr =>
   have d2 : decide ((tags.length : Int) > 40000) = false := dF (by omega)
   have d2' : decide (40000 < tags.length) = false := dF (by omega)
   have d3 : ((next.length : Int) == (tags.length : Int)) = false := bF (by omega)
   have d3' : ((next.length : Int) != (tags.length : Int)) = true := bne_iff_ne.mpr (by omega)
  all_goals
   clear hh
   go_enter Tryz.func24, Tryz.ntmps24
   go_wp2_with (first
    | (go_at_call 46; (with_reducible refine (many14_calls _ _ cl _ (HS.out.arg H0.out) HU.out).mono ?_); rintro ee w5 ⟨rfl, hb⟩; rw [HN.out]; have hs := HS.out.call hb; have y1 := (hs.box 0 rfl).cell 1 rfl; have y2 := (hs.box 0 rfl).cell 2 rfl; clear hb; clear HS; have HS := aM hs; clear hs))
   go_ret
   exact ⟨rfl, HS.out.below⟩
 case pos =>
  have HH := aM hh
  obtain ⟨h0, h1, h2, h3⟩ := hh
  have d0 : ((n : Int) == 0) = false := bF (by omega)
  have d1 : decide ((tags.length : Int) < 1) = false := dF (by omega)
  have d1' : decide (tags.length < 1) = false := dF (by omega)
  have d2 : decide ((tags.length : Int) > 40000) = false := dF (by omega)
  have d2' : decide (40000 < tags.length) = false := dF (by omega)
  have d3 : ((next.length : Int) == (tags.length : Int)) = true := beq_iff_eq.mpr (by omega)
  have d3' : ((next.length : Int) != (tags.length : Int)) = false := bne_eq_false_iff_eq.mpr (by omega)
  have HL3 := aM h3
  clear h0 h1 h2 h3
  go_enter Tryz.func24, Tryz.ntmps24
  go_wp2_with (first
   | (go_at_call 46; (with_reducible refine (many14_calls _ _ cl _ (HS.out.arg H0.out) HU.out).mono ?_); rintro ee w5 ⟨rfl, hb⟩; rw [HN.out]; have hs := HS.out.call hb; have y1 := (hs.box 0 rfl).cell 1 rfl; have y2 := (hs.box 0 rfl).cell 2 rfl; clear hb; clear HS; have HS := aM hs; clear hs))
  obtain ⟨g0, hg0⟩ : ∃ g, g = w.heap.size := ⟨_, rfl⟩
  rw [← hg0] at HS ⊢
  clear hg0 d0 d1 d1' d2 d2' d3 d3' y1 y2
  go_loopg [5] tags.length (fun m v5 w' => ∃ (i : Nat), v5 = .int .i64 i ∧ Aside0 (i + m = tags.length) ∧ Aside0 (∀ i', i' < i → TRow n next tags i') ∧ Aside0 (Sep X w w' [.box g0 28 [.slice Ac cl.length cc, .slice An next.length cn, .slice At tags.length ct]]))
  case atStart => exact ⟨0, rfl, ⟨by omega⟩, ⟨fun i' h => by omega⟩, HS⟩
  case round =>
   clear HS
   obtain ⟨i, rfl, HJ, HI, HS⟩ := hrel
   cases gk with
   | zero =>
    have e1 : decide ((i : Int) < (tags.length : Int)) = false := dF (by have := HJ.out; omega)
    have e2 : decide (i < tags.length) = false := dF (by have := HJ.out; omega)
    have HROWS := aM (show ∀ i', i' < tags.length → TRow n next tags i' from fun i' h => HI.out i' (by have := HJ.out; omega))
    have HNC := aM (fun (h : ¬ ∀ a, a < n → ∀ b, b < a → sameCol next a b = false) => HNO.out (fun hs => h hs.2.2))
    have HW := aM (show ∀ row ∈ next, row.length = n from fun row hrow => by
     obtain ⟨i', hi', e'⟩ := List.getElem_of_mem hrow
     have h := (HROWS.out i' (by rw [← HL3.out]; exact hi')).1
     rw [List.getD_eq_getElem?_getD, List.getElem?_eq_getElem hi', e'] at h
     exact h)
    go_wp2_with fail
    clear e1 e2 HJ HI HNO
    go_loopg [7] n (fun m v7 w' => ∃ (a : Nat), v7 = .int .i64 a ∧ Aside0 (a + m = n) ∧ Aside0 (∀ a', a' < a → ∀ b, b < a' → sameCol next a' b = false) ∧ Aside0 (Sep X w w' [.box g0 28 [.slice Ac cl.length cc, .slice An next.length cn, .slice At tags.length ct]]))
    case atStart => exact ⟨0, rfl, ⟨by omega⟩, ⟨fun a' h => by omega⟩, HS⟩
    case round =>
     clear HS
     obtain ⟨a, rfl, HJ, HI, HS⟩ := hrel
     cases gk with
     | zero =>
      have e1 : decide ((a : Int) < (n : Int)) = false := dF (by have := HJ.out; omega)
      have e2 : decide (a < n) = false := dF (by have := HJ.out; omega)
      have q0 : q = true := HQ.out.2 ⟨HH.out, HROWS.out, fun a' h => HI.out a' (by have := HJ.out; omega)⟩
      clear HQ HNC
      subst q0
      go_wp2_with fail
      go_ret
      exact ⟨rfl, HS.out.below⟩
     | succ k1 =>
      have ha : a < n := by have := HJ.out; omega
      have e1 : decide ((a : Int) < (n : Int)) = true := dT (by omega)
      have e2 : decide (a < n) = true := dT ha
      have HA := aM ha
      go_wp2_with fail
      clear e1 e2
      go_loopg [8] a (fun m v8 w' => ∃ (b : Nat), v8 = .int .i64 b ∧ Aside0 (b + m = a) ∧ Aside0 (∀ b', b' < b → sameCol next a b' = false) ∧ Aside0 (Sep X w w' [.box g0 28 [.slice Ac cl.length cc, .slice An next.length cn, .slice At tags.length ct]]))
      case atStart => exact ⟨0, rfl, ⟨by omega⟩, ⟨fun b' h => by omega⟩, HS⟩
      case round =>
       clear HS
       obtain ⟨b, rfl, HJ2, HI2, HS⟩ := hrel
       cases gk with
       | zero =>
        have e1 : decide ((b : Int) < (a : Int)) = false := dF (by have := HJ2.out; omega)
        have e2 : decide (b < a) = false := dF (by have := HJ2.out; omega)
        have HI3 := aM (show ∀ a', a' < a + 1 → ∀ b, b < a' → sameCol next a' b = false from fun a' h b' hb' => (Nat.lt_or_ge a' a).elim (fun h2 => HI.out a' h2 b' hb') (fun h2 => by
         have : a' = a := by omega
         subst this
         exact HI2.out b' (by have := HJ2.out; omega)))
        go_wp2_with fail
        go_roundg k1
        case measure => omega
        case rel => exact ⟨a + 1, by go_num, ⟨by have := HJ.out; omega⟩, HI3, HS⟩
       | succ b1 =>
        have hb : b < a := by have := HJ2.out; omega
        have e1 : decide ((b : Int) < (a : Int)) = true := dT (by omega)
        have e2 : decide (b < a) = true := dT hb
        have y1 := (HS.out.box 0 rfl).cell 1 rfl
        have HNB := aM (fun (h : sameCol next a b = true) => HNC.out (fun hs => by
         have := hs a HA.out b hb
         rw [h] at this
         cases this))
        have HST := aM (show sameCol next a b = false → ∀ b', b' < b + 1 → sameCol next a b' = false from fun h b' hb' => (Nat.lt_or_ge b' b).elim (HI2.out b') (fun h2 => by
         have : b' = b := by omega
         rw [this]; exact h))
        obtain ⟨x, hx⟩ : ∃ x, x = sameCol next a b := ⟨_, rfl⟩
        have HX := aM hx.symm
        rw [← hx] at HNB HST
        clear hx
        cases x
        case false =>
         have HI3 := aM (HST.out rfl)
         go_wp2_with (first
          | (go_at_call 39; (with_reducible refine (alike14_calls _ _ next a b _ (HS.out.arg H1.out) (fun row hrow => by have := HW.out row hrow; have := HA.out; omega)).mono ?_); rintro ee w5 ⟨rfl, hb⟩; rw [HX.out]; have hs := HS.out.call hb; clear hb; clear HS; have HS := aM hs; clear hs))
         go_roundg b1
         case measure => omega
         case rel => exact ⟨b + 1, by go_num, ⟨by have := HJ2.out; omega⟩, HI3, HS⟩
        case true =>
         have q0 : q = false := HNB.out rfl
         clear HQ HNC HNB
         subst q0
         go_wp2_with (first
          | (go_at_call 39; (with_reducible refine (alike14_calls _ _ next a b _ (HS.out.arg H1.out) (fun row hrow => by have := HW.out row hrow; have := HA.out; omega)).mono ?_); rintro ee w5 ⟨rfl, hb⟩; rw [HX.out]; have hs := HS.out.call hb; clear hb; clear HS; have HS := aM hs; clear hs))
         go_ret
         exact ⟨rfl, HS.out.below⟩
   | succ k1 =>
    have hi : i < tags.length := by have := HJ.out; omega
    have hin : i < next.length := by rw [HL3.out]; exact hi
    have e1 : decide ((i : Int) < (tags.length : Int)) = true := dT (by omega)
    have e2 : decide (i < tags.length) = true := dT hi
    have hi0 : (0 : Int) ≤ (i : Int) := by omega
    have hi1 : (i : Int) < (tags.length : Int) := by omega
    have hi2 : (i : Int) < (next.length : Int) := by omega
    obtain ⟨an, cn', u, en, hu, yn0⟩ := H1.out.row i hin
    cases en
    obtain ⟨at_, ct', et, yt0⟩ := int_cell H2.out i hi
    cases et
    obtain ⟨Au, cu, rfl, _, _⟩ := hu.now
    have HU := aM hu
    have HYN := aM yn0
    have y0 := (HS.out.box 0 rfl).cell 1 rfl
    have y1 := (HS.out.box 0 rfl).cell 2 rfl
    have yn := pw_cell_below HS.out.below yn0
    have yt := pw_cell_below HS.out.below yt0
    have HROW := aM (fun (h : TRow n next tags i) => (show (next.getD i []).length = n ∧ -1 ≤ tags.getD i 0 ∧ ∀ j, j < n → -1 ≤ (next.getD i []).getD j 0 ∧ (next.getD i []).getD j 0 < (tags.length : Int) from h))
    have HROW2 := aM (fun (h : (next.getD i []).length = n ∧ -1 ≤ tags.getD i 0 ∧ ∀ j, j < n → -1 ≤ (next.getD i []).getD j 0 ∧ (next.getD i []).getD j 0 < (tags.length : Int)) => (show TRow n next tags i from h))
    have HNR := aM (fun (h : ¬ TRow n next tags i) => HNO.out (fun hs => h (hs.2.1 i hi)))
    generalize next.getD i [] = row at *
    generalize tags.getD i 0 = tg at *
    clear hu yn0 yt0
    rcases Decidable.em (row.length = n ∧ -1 ≤ tg) with hr | hr
    case inr =>
     have q0 : q = false := HNR.out (fun h => hr ⟨(HROW.out h).1, (HROW.out h).2.1⟩)
     clear HQ HNO HNR HROW HROW2
     subst q0
     rcases Decidable.em (row.length = n) with h4 | h4
     case' inl =>
      have d4 : ((row.length : Int) == (n : Int)) = true := beq_iff_eq.mpr (by omega)
      have d4' : ((row.length : Int) != (n : Int)) = false := bne_eq_false_iff_eq.mpr (by omega)
      have d5 : decide (tg < -1) = true := dT (by omega)
     case' inr =>
      have d4 : ((row.length : Int) == (n : Int)) = false := bF (by omega)
      have d4' : ((row.length : Int) != (n : Int)) = true := bne_iff_ne.mpr (by omega)
     all_goals
      clear hr h4
      go_wp2_with fail
      go_ret
      exact ⟨rfl, HS.out.below⟩
    case inl =>
     obtain ⟨h4, h5⟩ := hr
     have d4 : ((row.length : Int) == (n : Int)) = true := beq_iff_eq.mpr (by omega)
     have d4' : ((row.length : Int) != (n : Int)) = false := bne_eq_false_iff_eq.mpr (by omega)
     have d5 : decide (tg < -1) = false := dF (by omega)
     have HR4 := aM (And.intro h4 h5)
     go_wp2_with fail
     clear d4 d4' d5 y0 y1 yn yt e1 e2 h4 h5
     go_loopg [6] n (fun m v6 w' => ∃ (j : Nat), v6 = .int .i64 j ∧ Aside0 (j + m = n) ∧ Aside0 (∀ j', j' < j → -1 ≤ row.getD j' 0 ∧ row.getD j' 0 < (tags.length : Int)) ∧ Aside0 (Sep X w w' [.box g0 28 [.slice Ac cl.length cc, .slice (some an) next.length cn, .slice (some at_) tags.length ct]]))
     case atStart => exact ⟨0, rfl, ⟨by omega⟩, ⟨fun j' h => by omega⟩, HS⟩
     case round =>
      clear HS
      obtain ⟨j, rfl, HJ2, HI2, HS⟩ := hrel
      have y0 := (HS.out.box 0 rfl).cell 1 rfl
      have yn := pw_cell_below HS.out.below HYN.out
      cases gk with
      | zero =>
       have e1 : decide ((j : Int) < (n : Int)) = false := dF (by have := HJ2.out; omega)
       have e2 : decide (j < n) = false := dF (by have := HJ2.out; omega)
       have HB := aM (HROW2.out ⟨HR4.out.1, HR4.out.2, fun j' h => HI2.out j' (by have := HJ2.out; omega)⟩)
       go_wp2_with fail
       go_roundg k1
       case measure => omega
       case rel => exact ⟨i + 1, by go_num, ⟨by have := HJ.out; omega⟩, ⟨fun i' h => (Nat.lt_or_ge i' i).elim (HI.out i') (fun h2 => by
        have : i' = i := by omega
        rw [this]; exact HB.out)⟩, HS⟩
      | succ j1 =>
       have hj : j < n := by have := HJ2.out; omega
       have hjr : j < row.length := by have := HR4.out; omega
       have e1 : decide ((j : Int) < (n : Int)) = true := dT (by omega)
       have e2 : decide (j < n) = true := dT hj
       have hj0 : (0 : Int) ≤ (j : Int) := by omega
       have hj1 : (j : Int) < (row.length : Int) := by omega
       obtain ⟨ar, cr, er, yr0⟩ := int_cell HU.out j hjr
       cases er
       have yr := pw_cell_below HS.out.below yr0
       obtain ⟨x, hx⟩ : ∃ x, x = row.getD j 0 := ⟨_, rfl⟩
       rw [← hx] at yr
       have HX := aM hx.symm
       clear yr0 hx
       rcases Decidable.em (-1 ≤ x ∧ x < (tags.length : Int)) with h6 | h6
       case inl =>
        have d6 : decide (x < -1) = false := dF (by omega)
        have d7 : decide (x ≥ (tags.length : Int)) = false := dF (by omega)
        have d8 : decide ((tags.length : Int) ≤ x) = false := dF (by omega)
        have HI3 := aM (show ∀ j', j' < j + 1 → -1 ≤ row.getD j' 0 ∧ row.getD j' 0 < (tags.length : Int) from fun j' h => (Nat.lt_or_ge j' j).elim (HI2.out j') (fun h2 => by
         have : j' = j := by omega
         rw [this, HX.out]; exact h6))
        go_wp2_with fail
        go_roundg j1
        case measure => omega
        case rel => exact ⟨j + 1, by go_num, ⟨by have := HJ2.out; omega⟩, HI3, HS⟩
       case inr =>
        have q0 : q = false := HNR.out (fun h => h6 (by have := (HROW.out h).2.2 j hj; rwa [HX.out] at this))
        clear HQ HNO HNR HROW HROW2
        subst q0
        rcases Decidable.em (x < -1) with h7 | h7
        case' inl => have d6 : decide (x < -1) = true := dT h7
        case' inr =>
         have d6 : decide (x < -1) = false := dF h7
         have d7 : decide (x ≥ (tags.length : Int)) = true := dT (by omega)
         have d8 : decide ((tags.length : Int) ≤ x) = true := dT (by omega)
        all_goals
         clear h6 h7
         go_wp2_with fail
         go_ret
         exact ⟨rfl, HS.out.below⟩
theorem manyGo_all : ∀ (l : List Int) (n : Int), manyGo l n ≠ -1 → 0 ≤ n → n ≤ manyGo l n ∧ ∀ c ∈ l, c < manyGo l n
 | [], n, _, _ => ⟨Int.le_refl _, fun c h => by cases h⟩
 | c :: t, n, h, h0 => by
  rw [manyGo] at h ⊢
  by_cases h2 : c > n
  ·rw [if_pos h2] at h; exact absurd rfl h
  ·rw [if_neg h2] at h ⊢
   obtain ⟨h3, h4⟩ := manyGo_all t _ h (by omega)
   refine ⟨by omega, fun x hx => ?_⟩
   rcases List.mem_cons.1 hx with h5 | h5
   ·subst h5; omega
   ·exact h4 x h5
theorem many14_all {l : List Int} {n : Nat} (h : many14 l = (n : Int)) (h0 : n ≠ 0) : l.length = 256 ∧ ∀ c ∈ l, c < (n : Int) := by
 unfold many14 at h
 by_cases h2 : manyGo l 0 = -1 ∨ l.length ≠ 256
 ·rw [if_pos h2] at h; omega
 ·rw [if_neg h2] at h
  obtain ⟨h3, h4⟩ := manyGo_all l 0 (fun e => h2 (.inl e)) (by omega)
  rw [h] at h4
  exact ⟨Decidable.not_not.1 (fun e => h2 (.inr e)), h4⟩
theorem tsound_head {cl : List Int} {next : List (List Int)} {tags : List Int} (hu : U8s cl) (h : TSound cl next tags) : ∃ n : Nat, many14 cl = (n : Int) ∧ n ≤ 256 ∧ cl.length = 256 ∧ (∀ c ∈ cl, 0 ≤ c ∧ c < (n : Int)) ∧ TSoundN n next tags := by
 obtain ⟨n, hn, h256⟩ := many14_le hu
 unfold TSound at h
 rw [hn] at h
 have h' : TSoundN n next tags := h
 have h0 : n ≠ 0 := h'.1.1
 obtain ⟨h1, h2⟩ := many14_all hn h0
 exact ⟨n, hn, h256, h1, fun c hc => ⟨(hu c hc).1, h2 c hc⟩, h'⟩
end Go.Proofs.YtplhfgobeicegaaGreatDoor.P
namespace Go.Proofs.YtplhfgobeicegaaGreatDoor.P
open Go Go.RowKit Go.Proofs.YtplhfgobeicegaaGreatDoorW.PrintWords Go.Proofs.YtplhfgobeicegaaGreatDoor.PX
set_option linter.unusedVariables false
set_option linter.unusedSimpArgs false
def headE (cl tags : List Int) : List Int := ([71, 67, 1] ++ two15 (tags.length : Int)) ++ runsF (fun x => [x]) cl.length cl
def rowsE : List (List Int) → List Int → List Int
 | [], _ => []
 | row :: t, tags => (two15 (tags.getD 0 0 + 1) ++ runsF (fun x => two15 (x + 1)) row.length row) ++ rowsE t (tags.drop 1)
def bodyE (cl : List Int) (next : List (List Int)) (tags : List Int) : List Int := headE cl tags ++ rowsE next tags
def sealE (b : List Int) : List Int := (b ++ two15 ((sumL b / 65536 : Nat) : Int)) ++ two15 ((sumL b % 65536 : Nat) : Int)
def EncOk (cl : List Int) (next : List (List Int)) (tags : List Int) : Prop := TSound cl next tags ∧ maxF tags ≤ 65534
instance (cl : List Int) (next : List (List Int)) (tags : List Int) : Decidable (EncOk cl next tags) := by unfold EncOk; infer_instance
def encR (cl : List Int) (next : List (List Int)) (tags : List Int) : List Int × Int := if EncOk cl next tags then (sealE (bodyE cl next tags), 0) else ([], 1)
theorem U8s.app {a b : List Int} (h : U8s a) (h2 : U8s b) : U8s (a ++ b) := fun c hc => (List.mem_append.1 hc).elim (h c) (h2 c)
theorem two15_u8 (n : Int) : U8s (two15 n) := fun c hc => by
 simp only [two15, List.mem_cons, List.not_mem_nil, or_false] at hc
 rcases hc with rfl | rfl <;> omega
theorem runsF_u8 (lay : Int → List Int) (good : Int → Prop) (h : ∀ x, good x → U8s (lay x)) : ∀ (f : Nat) (l : List Int), (∀ x ∈ l, good x) → U8s (runsF lay f l)
 | 0, l, _ => fun c hc => by rw [runsF] at hc; cases hc
 | f + 1, [], _ => fun c hc => by rw [runsF] at hc; cases hc
 | f + 1, x :: t, hg => by
  have hl := (lead_le x 254 t).1
  have ih := runsF_u8 lay good h f (t.drop (lead x 254 t)) (fun y hy => hg y (List.mem_cons_of_mem _ (List.mem_of_mem_drop hy)))
  rw [runsF]
  intro c hc
  rcases List.mem_cons.1 hc with rfl | hc
  ·omega
  ·exact (U8s.app (h x (hg x List.mem_cons_self)) ih) c hc
theorem runsF_len (lay : Int → List Int) (h : ∀ x, (lay x).length ≤ 2) : ∀ (f : Nat) (l : List Int), (runsF lay f l).length ≤ 3 * l.length
 | 0, l => by rw [runsF]; simp
 | f + 1, [] => by rw [runsF]; simp
 | f + 1, x :: t => by
  have ih := runsF_len lay h f (t.drop (lead x 254 t))
  have hx := h x
  rw [runsF, List.length_cons, lA, List.length_cons]
  rw [List.length_drop] at ih
  omega
theorem headE_u8 {cl : List Int} (h : U8s cl) (tags : List Int) : U8s (headE cl tags) := by
 unfold headE
 refine U8s.app (U8s.app (fun c hc => ?_) (two15_u8 _)) (runsF_u8 (fun x => [x]) (fun x => 0 ≤ x ∧ x < 256) (fun x hx c hc => ?_) _ _ h)
 ·simp only [List.mem_cons, List.not_mem_nil, or_false] at hc
  rcases hc with rfl | rfl | rfl <;> omega
 ·obtain rfl := List.mem_singleton.1 hc; exact hx
theorem headE_len (cl tags : List Int) : (headE cl tags).length ≤ 5 + 3 * cl.length := by
 have := runsF_len (fun x => [x]) (fun x => by simp) cl.length cl
 unfold headE two15
 simp only [lA, List.length_cons, List.length_nil]
 omega
theorem rowsE_u8 : ∀ (next : List (List Int)) (tags : List Int), U8s (rowsE next tags)
 | [], tags => fun c hc => by cases hc
 | row :: t, tags => by
  rw [rowsE]
  exact U8s.app (U8s.app (two15_u8 _) (runsF_u8 _ (fun _ => True) (fun x _ => two15_u8 _) _ _ (fun _ _ => trivial))) (rowsE_u8 t _)
theorem sealE_u8 {b : List Int} (h : U8s b) : U8s (sealE b) := U8s.app (U8s.app h (two15_u8 _)) (two15_u8 _)
theorem encR_u8 {cl : List Int} (h : U8s cl) (next : List (List Int)) (tags : List Int) : U8s (encR cl next tags).1 := by
 unfold encR
 split
 ·exact sealE_u8 (U8s.app (headE_u8 h tags) (rowsE_u8 next tags))
 ·exact fun c hc => by cases hc
end Go.Proofs.YtplhfgobeicegaaGreatDoor.P
namespace Go.Proofs.YtplhfgobeicegaaGreatDoor.P
open Go Go.RowKit Go.Proofs.YtplhfgobeicegaaGreatDoorW.PrintWords Go.Proofs.YtplhfgobeicegaaGreatDoorW.PrintLast Go.Proofs.YtplhfgobeicegaaGreatDoorW.PrintMore Go.Proofs.YtplhfgobeicegaaGreatDoor.PX
set_option linter.unusedVariables false
set_option linter.unusedSimpArgs false
set_option maxRecDepth 100000
theorem one_cast : (1 : Int) = ((1 : Nat) : Int) := rfl
theorem two_cast : (2 : Int) = ((2 : Nat) : Int) := rfl
theorem one_ne2 : 1 ≠ 2 := by decide
theorem one_le2 : 1 ≤ 2 := by decide
theorem two_le2 : 2 ≤ 2 := by decide
theorem lead_map (x : Int) : ∀ (f : Nat) (t : List Int), lead (x + 1) f (t.map (· + 1)) = lead x f t
 | 0, t => by rw [lead_0, lead_0]
 | f + 1, [] => rfl
 | f + 1, y :: t => by
  rw [List.map_cons, lead, lead, lead_map x f t]
  by_cases h : y = x
  ·rw [if_pos h, if_pos (by omega)]
  ·rw [if_neg h, if_neg (by omega)]
theorem runsF_map (lay : Int → List Int) : ∀ (f : Nat) (t : List Int), runsF lay f (t.map (· + 1)) = runsF (fun x => lay (x + 1)) f t
 | 0, t => rfl
 | f + 1, [] => rfl
 | f + 1, x :: t => by
  rw [List.map_cons, runsF, runsF, lead_map, ← List.map_drop, runsF_map lay f]
theorem runs15_2 (row : List Int) : runsF (lay15 2) (row.map (· + 1)).length (row.map (· + 1)) = runsF (fun x => two15 (x + 1)) row.length row := by
 rw [List.length_map, runsF_map]
 rfl
theorem runs15_1 (cl : List Int) : runsF (lay15 1) cl.length cl = runsF (fun x => [x]) cl.length cl := rfl
theorem take_map1 (row : List Int) (j : Nat) (hj : j < row.length) : (row.take j).map (· + 1) ++ [row.getD j 0 + 1] = (row.take (j + 1)).map (· + 1) := by
 rw [take_at row 0 j hj, List.map_append]
 rfl
set_option maxHeartbeats 16000000 in
theorem rencode_calls (X : Nat → Prop) (vc vn vt : Value) (cl : List Int) (next : List (List Int)) (tags : List Int) (w : World) (hX : ∀ k, X k → k < w.heap.size) (hc : PV kU8 X w vc cl) (hn : PV kRow X w vn next) (ht : PV kInt X w vt tags) (hu : U8s cl) :
  Calls Tryz.prog 7 #[.agg #[vc, vn, vt]] w fun e w' => ∃ v, e = .returned (.tuple #[v, .int .i64 (encR cl next tags).2]) ∧ Sep X w w' [.row kU8 5 v (encR cl next tags).1] := by
 have H0 := aM hc
 have H1 := aM hn
 have H2 := aM ht
 have HU := aM hu
 have m0 := hc.max
 have m1 := hn.max
 have m2 := ht.max
 obtain ⟨Ac, cc, rfl, _, _⟩ := hc.now
 obtain ⟨An, cn, rfl, _, _⟩ := hn.now
 obtain ⟨At, ct, rfl, _, _⟩ := ht.now
 have HS := aM ((Sep.start hX).push_box [.slice Ac cl.length cc, .slice An next.length cn, .slice At tags.length ct] 28)
 obtain ⟨g0, hg0⟩ : ∃ g, g = w.heap.size := ⟨_, rfl⟩
 obtain ⟨q, hq⟩ : ∃ q, q = decide (TSound cl next tags) := ⟨_, rfl⟩
 have HQ := aM hq.symm
 obtain ⟨r, hr⟩ : ∃ r, r = encR cl next tags := ⟨_, rfl⟩
 rw [← hr]
 have HR := aM (show r = if EncOk cl next tags then (sealE (bodyE cl next tags), 0) else ([], 1) from hr)
 clear hc hn ht hX hu hq hr
 go_enter Tryz.func7, Tryz.ntmps7
 have x0 := (HS.out.box 0 rfl).cell 0 rfl
 have x1 := (HS.out.box 0 rfl).cell 1 rfl
 have x2 := (HS.out.box 0 rfl).cell 2 rfl
 cases q
 case false =>
  have HE := aM (show r = ([], 1) by rw [HR.out, if_neg (fun h => of_decide_eq_false HQ.out h.1)])
  go_wp2_with (first
   | (go_at_call 24; (with_reducible refine (tsound_calls _ _ _ _ cl next tags _ HS.out.lt (HS.out.arg H0.out) (HS.out.arg H1.out) (HS.out.arg H2.out) HU.out).mono ?_); rintro ee w5 ⟨rfl, hb⟩; rw [HQ.out]; have hs := HS.out.call hb; clear hb x0 x1 x2; clear HS; have HS := aM hs; clear hs))
  go_ret2
  rw [HE.out]
  have hd := (HS.out.push_nil kU8 5).sub (List.drop_sublist 1 _)
  exact ⟨_, rfl, hd⟩
 case true =>
  have HTS := aM (of_decide_eq_true HQ.out)
  obtain ⟨cs, hcs, hn256, hcl, hcb, hso⟩ := tsound_head HU.out HTS.out
  have HTL := aM (show 1 ≤ tags.length from hso.1.2.1)
  have HB := aM (show cl.length = 256 ∧ next.length = tags.length ∧ tags.length ≤ 40000 ∧ (∀ i, i < tags.length → (next.getD i []).length ≤ 256 ∧ -1 ≤ tags.getD i 0 ∧ ∀ x ∈ next.getD i [], -1 ≤ x ∧ x < 999999) from by
   refine ⟨hcl, hso.1.2.2.2, hso.1.2.2.1, fun i hi => ?_⟩
   have h1 := hso.2.1 i hi
   refine ⟨by rw [h1.1]; exact hn256, h1.2.1, fun x hx => ?_⟩
   obtain ⟨j, hj, e⟩ := List.getElem_of_mem hx
   have h2 := h1.2.2 j (by rw [← h1.1]; exact hj)
   rw [List.getD_eq_getElem?_getD, List.getElem?_eq_getElem hj, Option.getD_some, e] at h2
   have := hso.1.2.2.1
   omega)
  have HCB := aM (show LayOk 1 cl from fun x hx => by have := hcb x hx; have := HU.out x hx; omega)
  have HR2 := aM (show (maxF tags ≤ 65534 → r = (sealE (bodyE cl next tags), 0)) ∧ (¬ maxF tags ≤ 65534 → r = ([], 1)) from ⟨fun h => by rw [HR.out, if_pos ⟨HTS.out, h⟩], fun h => by rw [HR.out, if_neg (fun h2 => h h2.2)]⟩)
  clear hcs hn256 hcl hcb hso HR HQ
  have htw : 0 ≤ (tags.length : Int) := by omega
  obtain ⟨hd0, hhd0⟩ : ∃ l, l = [71, 67, 1] ++ two15 (tags.length : Int) := ⟨_, rfl⟩
  have HHD := aM hhd0.symm
  have HHL := aM (show hd0.length = 5 by rw [hhd0]; rfl)
  clear hhd0
  go_upto_region 3 with (first
   | (go_at_call 24; (with_reducible refine (tsound_calls _ _ _ _ cl next tags _ HS.out.lt (HS.out.arg H0.out) (HS.out.arg H1.out) (HS.out.arg H2.out) HU.out).mono ?_); rintro ee w5 ⟨rfl, hb⟩; simp only [dT HTS.out]; have hs := HS.out.call hb; clear hb x0 x1 x2; clear HS; have HS := aM hs; clear hs))
  rw [← hg0] at HS ⊢
  clear hg0
  have x2 := (HS.out.box 0 rfl).cell 2 rfl
  go_upto_region 4 with (first
   | ((with_reducible refine gate_dst (N := 14) rfl ?_); refine slit_row kU8 5 ?hg (N := 14) ?hd (xs := [(71 : Int), 67, 1]) (inner := [.int .u8 71, .int .u8 67, .int .u8 1]) ?hr HS.out ?hp (by simp) ?_; (case hd => rfl); (case hg => rfl); (case hr => first | (go_simp; done) | (go_simp; rfl)); (case hp => exact Reps.one (PK.scalar _) (Reps.one (PK.scalar _) (Reps.one (PK.scalar _) (Reps.none _ _)))); clear HS; intro v30 w30 hs; clear x2; have x2 := (hs.box 0 rfl).cell 2 rfl; have HS := aM hs; clear hs)
   | (go_at_call 25; (with_reducible refine (two15_calls X w _ _ 1 _ [71, 67, 1] (tags.length : Int) HS.out rfl (by have := HB.out.2.2.1; omega) (by decide)).mono ?_); rintro e w7 ⟨v7, rfl, hs⟩; have hs : Sep X w w7 [.box g0 28 [.slice Ac cl.length cc, .slice An next.length cn, .slice At tags.length ct], .row kU8 5 v7 hd0] := (by rw [← HHD.out]; exact hs); clear x2; clear HS; have HS := aM hs; clear hs))
  have hs := HS.out.push_nil kInt 3
  simp only [List.cons_append, List.nil_append] at hs
  clear HS
  have HS := aM hs
  clear hs
  go_wp2_with fail
  go_loopg [5, 6] 256 (fun m v5 v6 w' => ∃ (i : Nat) (ls : List Int), v6 = .int .i64 i ∧ Aside0 (i + m = 256) ∧ Aside0 (ls = cl.take i) ∧ Aside0 (Sep X w w' [.box g0 28 [.slice Ac cl.length cc, .slice An next.length cn, .slice At tags.length ct], .row kU8 5 v7 hd0, .row kInt 3 v5 ls]))
  case atStart => exact ⟨0, [], rfl, ⟨by omega⟩, ⟨rfl⟩, HS⟩
  case round =>
   clear HS
   obtain ⟨i, ls, rfl, HJ, HLS, HS⟩ := hrel
   obtain ⟨A8, c8, e8⟩ := HS.out.form 2 rfl
   subst e8
   obtain ⟨A7, c7, e7⟩ := HS.out.form 1 rfl
   subst e7
   cases gk with
   | succ k1 =>
    have hi : i < 256 := by have := HJ.out; omega
    have hic : i < cl.length := by have := HB.out.1; omega
    have e1 : decide ((i : Int) < 256) = true := dT (by omega)
    have e2 : decide (i < 256) = true := dT hi
    have hi0 : (0 : Int) ≤ (i : Int) := by omega
    have hi1 : (i : Int) < (cl.length : Int) := by omega
    obtain ⟨ad, cd, ed, ya0⟩ := u8_cell H0.out i hic
    cases ed
    have ya := pw_cell_below HS.out.below ya0
    have HLS2 := aM (show ls ++ [cl.getD i 0] = cl.take (i + 1) by rw [take_at cl 0 i hic, HLS.out])
    have hbx := HU.out _ (mem_getD cl 0 i hic)
    have HLL := aM (show ls.length ≤ 256 by rw [HLS.out, List.length_take]; omega)
    generalize cl.getD i 0 = x at *
    have hx0 := hbx.1
    have hx1 := hbx.2
    have hwx : wrap64 x = x := IntWalk.wrap64_in _ (by omega)
    have x0 := (HS.out.box 0 rfl).cell 0 rfl
    clear ya0 HLS hbx
    go_wp2_with (first
     | ((with_reducible refine gate_dst (N := 30) rfl ?_); refine slit kInt 3 ?hg (N := 30) ?hd (xs := [x]) (inner := [.int .i64 x]) ?hr HS.out ?hp (by simp) ?_; (case hd => rfl); (case hg => rfl); (case hr => first | (go_simp; done) | (go_simp; rfl)); (case hp => exact (Reps.one (PK.scalar _) (Reps.none _ _))); clear HS; intro v31 w31 hs; have HS := aM hs; clear hs)
     | ((with_reducible refine gate_builtin (b := .append) (xs := #[.tmp 23, .tmp 30]) rfl ?_); at_builtin; refine sgrow kInt 2 rfl (.tmp 23) (.tmp 30) 26 3 (.int .i64 0) 8 rfl Tryz.underlying26 info3' rfl (by decide) (by omega) _ _ ls [x] rfl rfl HS.out rfl (HS.out.ro 3 rfl) (by have := HLL.out; rw [lS]; omega) ?_; clear HS; intro v1 w1 hs; have HS := aM hs; clear hs))
    go_roundg k1
    case measure => omega
    case rel => exact ⟨i + 1, _, by go_num, ⟨by have := HJ.out; omega⟩, HLS2, ⟨HS.out.take 3⟩⟩
   | zero =>
    have hi : i = 256 := by have := HJ.out; omega
    have e1 : decide ((i : Int) < 256) = false := dF (by omega)
    have e2 : decide (i < 256) = false := dF (by omega)
    have hls : ls = cl := by rw [HLS.out, List.take_of_length_le (by have := HB.out.1; omega)]
    clear HLS HJ hi
    subst hls
    obtain ⟨hb0, hhb0⟩ : ∃ l, l = headE ls tags := ⟨_, rfl⟩
    have HH := aM (show hd0 ++ runsF (lay15 1) ls.length ls = hb0 by rw [hhb0, headE, ← HHD.out, runs15_1])
    go_upto_region 10 with (first
     | (go_at_call 26; (with_reducible refine (rruns_calls X w _ _ 1 2 _ _ hd0 ls 1 HS.out one_ne2 rfl rfl (by have := HB.out.1; have := HHL.out; omega) HCB.out one_le2 1 one_cast).mono ?_); rintro ee w9 ⟨v9, rfl, hs2⟩; have hs : Sep X w w9 [.box g0 28 [.slice Ac ls.length cc, .slice An next.length cn, .slice At tags.length ct], .row kU8 5 v9 hb0] := (by rw [← HH.out]; exact hs2.take 2); clear hs2; clear HS; have HS := aM hs; clear hs))
    have HB0 := aM (show hb0.length ≤ 800 ∧ U8s hb0 by rw [hhb0]; exact ⟨by have := headE_len ls tags; have := HB.out.1; omega, headE_u8 HU.out tags⟩)
    obtain ⟨bz, hbz⟩ : ∃ l, l = bodyE ls next tags := ⟨_, rfl⟩
    rw [← hbz] at HR2
    have HBZ := aM (show hb0 ++ rowsE (next.drop 0) (tags.drop 0) = bz by rw [hbz, bodyE, hhb0]; rfl)
    have HBU := aM (show U8s bz by rw [hbz]; exact U8s.app (headE_u8 HU.out tags) (rowsE_u8 next tags))
    clear HH hbz hhb0
    clear e1 e2
    go_wp2_with fail
    go_loopg [4, 7, 8, 9] tags.length (fun m v4 v7 v8 v9 w' => ∃ (i : Nat) (bs : List Int), v7 = .int .i64 i ∧ Aside0 (i + m = tags.length) ∧ Aside0 (∀ k, k < i → tags.getD k 0 ≤ 65534) ∧ Aside0 (bs.length ≤ 800 + 770 * i) ∧ Aside0 (bs ++ rowsE (next.drop i) (tags.drop i) = bz) ∧ Aside0 (Sep X w w' [.box g0 28 [.slice Ac ls.length cc, .slice An next.length cn, .slice At tags.length ct], .row kU8 5 v4 bs]))
    case atStart => exact ⟨0, hb0, rfl, ⟨by omega⟩, ⟨fun k hk => by omega⟩, ⟨by have := HB0.out.1; omega⟩, HBZ, HS⟩
    case round =>
     clear HS HBZ HB0
     obtain ⟨i, bs, rfl, HJ, HTG, HBL, HBZ, HS⟩ := hrel
     obtain ⟨A4, c4, e4⟩ := HS.out.form 1 rfl
     subst e4
     have x2 := (HS.out.box 0 rfl).cell 2 rfl
     cases gk with
     | zero =>
      have hi : i = tags.length := by have := HJ.out; omega
      have e1 : decide ((i : Int) < (tags.length : Int)) = false := dF (by omega)
      have e2 : decide (i < tags.length) = false := dF (by omega)
      have hbz : bs = bz := by have h := HBZ.out; rw [hi, ← HB.out.2.1, List.drop_length, rowsE, List.append_nil] at h; exact h
      have HL2 := aM (show bs.length ≤ 100000000 by have := HBL.out; have := HB.out.2.1; have := HB.out.2.2.1; omega)
      have HE := aM (HR2.out.1 ((maxF_le tags 65534 HTL.out).2 (fun x hx => by
       obtain ⟨j, hj, e⟩ := List.getElem_of_mem hx
       have h := HTG.out j (by omega)
       rw [List.getD_eq_getElem?_getD, List.getElem?_eq_getElem hj, Option.getD_some, e] at h
       exact h)))
      clear HBZ HBL HJ hi HTG
      subst hbz
      obtain ⟨n, hn⟩ : ∃ n, n = sumL bs := ⟨_, rfl⟩
      have HN := aM hn.symm
      have hnlt := (sumL_lt bs).lt
      rw [← hn] at hnlt
      have HNL := aM hnlt
      have HW1 := aM (show wrap64 ((n : Int) / 65536) = ((n / 65536 : Nat) : Int) from IntWalk.wrap64_in _ (by omega))
      have HW2 := aM (show (n : Int) % 65536 = ((n % 65536 : Nat) : Int) by omega)
      have hw0 : wrap64 (n : Int) = (n : Int) := IntWalk.wrap64_in _ (by omega)
      have hq1 : (n : Int).tdiv 65536 = (n : Int) / 65536 := Int.tdiv_eq_ediv_of_nonneg (by omega)
      have hq2 : (n : Int).tmod 65536 = (n : Int) % 65536 := Int.tmod_eq_emod_of_nonneg (by omega)
      clear hn hnlt
      go_wp2_with (first
       | (go_at_call 12; (with_reducible refine (rsum_calls _ _ bs _ (HS.out.res_row 1 rfl) HBU.out).mono ?_); rintro ee w8 ⟨rfl, rfl⟩; rw [HN.out])
       | (go_at_call 25; rw [HW1.out]; (with_reducible refine (two15_calls X w _ [.box g0 28 [.slice Ac ls.length cc, .slice An next.length cn, .slice At tags.length ct], .row kU8 5 (.slice A4 bs.length c4) bs] 1 _ bs ((n / 65536 : Nat) : Int) HS.out rfl (by have := HNL.out; omega) (by have := HL2.out; omega)).mono ?_); rintro ee w9 ⟨v9, rfl, hs⟩; clear HS; have HS := aM hs; clear hs)
       | (go_at_call 25; rw [HW2.out]; (with_reducible refine (two15_calls X w _ _ 1 _ _ ((n % 65536 : Nat) : Int) HS.out rfl (by omega) (by have := HL2.out; rw [lA, show (two15 ((n / 65536 : Nat) : Int)).length = 2 from rfl]; omega)).mono ?_); rintro ee w10 ⟨v10, rfl, hs⟩; clear HS; have HS := aM hs; clear hs))
      go_ret2
      rw [HE.out]
      have hd := HS.out.sub (List.drop_sublist 1 _)
      refine ⟨_, rfl, ?_⟩
      rw [show sealE bs = (bs ++ two15 ((n / 65536 : Nat) : Int)) ++ two15 ((n % 65536 : Nat) : Int) by rw [sealE, HN.out]]
      exact hd
     | succ k1 =>
      have hit : i < tags.length := by have := HJ.out; omega
      have hi : i < next.length := by have := HB.out.2.1; omega
      have e1 : decide ((i : Int) < (tags.length : Int)) = true := dT (by omega)
      have e2 : decide (i < tags.length) = true := dT hit
      have hi0 : (0 : Int) ≤ (i : Int) := by omega
      have hi1 : (i : Int) < (next.length : Int) := by omega
      have hi2 : (i : Int) < (tags.length : Int) := by omega
      obtain ⟨an, cn', u, en, hun, yn0⟩ := H1.out.row i hi
      cases en
      obtain ⟨at_, ct', et, yt0⟩ := int_cell H2.out i hit
      cases et
      obtain ⟨h3, h4, h6⟩ := HB.out.2.2.2 i hit
      have HTG2 := aM (show tags.getD i 0 ≤ 65534 → ∀ k, k < i + 1 → tags.getD k 0 ≤ 65534 from fun h k hk => by
       rcases Nat.lt_or_ge k i with h7 | h7
       ·exact HTG.out k h7
       ·rw [show k = i by omega]; exact h)
      have HTM := aM (show ¬ tags.getD i 0 ≤ 65534 → r = ([], 1) from fun h => HR2.out.2 (by rcases Int.lt_or_le 65534 (maxF tags) with h8 | h8; (omega); exact absurd ((maxF_le tags 65534 HTL.out).1 h8 _ (mem_getD tags 0 i hit)) h))
      have HBZ2 := aM (show ((bs ++ two15 (tags.getD i 0 + 1)) ++ runsF (fun x => two15 (x + 1)) (next.getD i []).length (next.getD i [])) ++ rowsE (next.drop (i + 1)) (tags.drop (i + 1)) = bz by
       have h := HBZ.out
       rw [drop_at next [] i hi, rowsE, drop_at tags 0 i hit] at h
       rw [← h]
       simp only [List.append_assoc, List.getD_cons_zero, List.drop_succ_cons, List.drop_zero])
      generalize next.getD i [] = row at *
      generalize tags.getD i 0 = tg at *
      have HUN := aM hun
      have m3 := hun.max
      obtain ⟨Au, cu, rfl, _, _⟩ := hun.now
      have HRB := aM (And.intro h3 h6)
      have HYN := aM yn0
      have yt := pw_cell_below HS.out.below yt0
      clear hun yn0 yt0 h3 h6 HBZ HTG
      rcases Int.lt_or_le 65534 tg with htg | htg
      case inl =>
       have d1 : decide (tg ≥ 65535) = true := dT (by omega)
       have d2 : decide (65535 ≤ tg) = true := dT (by omega)
       have HE := aM (HTM.out (by omega))
       go_wp2_with fail
       go_ret2
       rw [HE.out]
       have hd := (HS.out.push_nil kU8 5).sub (List.drop_sublist 2 _)
       exact ⟨_, rfl, hd⟩
      case inr =>
       have d1 : decide (tg ≥ 65535) = false := dF (by omega)
       have d2 : decide (65535 ≤ tg) = false := dF (by omega)
       have HTG3 := aM (HTG2.out htg)
       have hw1 : wrap64 (tg + 1) = tg + 1 := IntWalk.wrap64_in _ (by omega)
       have HTGB := aM (And.intro h4 htg)
       clear HTM HTG2
       go_upto_region 16 with (first
        | (go_at_call 25; (with_reducible refine (two15_calls X w _ [.box g0 28 [.slice Ac ls.length cc, .slice (some an) next.length cn, .slice (some at_) tags.length ct], .row kU8 5 (.slice A4 bs.length c4) bs] 1 _ bs (tg + 1) HS.out rfl (by have := HTGB.out; omega) (by have := HBL.out; have := HB.out.2.1; have := HB.out.2.2.1; omega)).mono ?_); rintro ee w9 ⟨v9, rfl, hs⟩; clear HS; have HS := aM hs; clear hs))
       clear e1 e2 d1 d2 x2 yt hw1
       obtain ⟨b1, hb1⟩ : ∃ l, l = bs ++ two15 (tg + 1) := ⟨_, rfl⟩
       have hs := HS.out.push_nil kInt 3
       simp only [List.cons_append, List.nil_append, List.set_cons_succ, List.set_cons_zero] at hs
       rw [← hb1] at hs HBZ2
       have HB1L := aM (show b1.length = bs.length + 2 by rw [hb1, lA]; rfl)
       clear HS hb1
       have HS := aM hs
       clear hs
       go_wp2_with fail
       go_loopg [8, 9] row.length (fun m v8 v10 w' => ∃ (j : Nat) (tz : List Int), v10 = .int .i64 j ∧ Aside0 (j + m = row.length) ∧ Aside0 (tz = (row.take j).map (· + 1)) ∧ Aside0 (Sep X w w' [.box g0 28 [.slice Ac ls.length cc, .slice (some an) next.length cn, .slice (some at_) tags.length ct], .row kU8 5 v9 b1, .row kInt 3 v8 tz]))
       case atStart => exact ⟨0, [], rfl, ⟨by omega⟩, ⟨rfl⟩, HS⟩
       case round =>
        clear HS
        obtain ⟨j, tz, rfl, HC, HTO, HS⟩ := hrel
        obtain ⟨A8, c8, e8⟩ := HS.out.form 2 rfl
        subst e8
        have x1 := (HS.out.box 0 rfl).cell 1 rfl
        have yn := pw_cell_below HS.out.below HYN.out
        cases gk with
        | zero =>
         have hc : j = row.length := by have := HC.out; omega
         have e1 : decide ((j : Int) < (row.length : Int)) = false := dF (by omega)
         have e2 : decide (j < row.length) = false := dF (by omega)
         have hto : tz = row.map (· + 1) := by rw [HTO.out, hc, List.take_length]
         have HTOL := aM (show tz.length = row.length by rw [hto, List.length_map])
         have HTOK := aM (show LayOk 2 tz by rw [hto]; intro x hx; obtain ⟨y, hy, rfl⟩ := List.mem_map.1 hx; have := HRB.out.2 y hy; exact ⟨by omega, by omega, fun h => absurd rfl h⟩)
         have HRU := aM (show runsF (lay15 2) tz.length tz = runsF (fun x => two15 (x + 1)) row.length row by rw [hto]; exact runs15_2 row)
         clear HTO hto HC
         go_wp2_with (first
          | (go_at_call 26; (with_reducible refine (rruns_calls X w _ _ 1 2 _ _ b1 tz 2 HS.out one_ne2 rfl rfl (by have := HTOL.out; have := HB1L.out; have := HBL.out; have := HRB.out.1; have := HB.out.2.2.1; omega) HTOK.out two_le2 2 two_cast).mono ?_); rintro ee w11 ⟨v11, rfl, hs2⟩; rw [HRU.out] at hs2; have hs := hs2.take 2; clear hs2 x1 yn; clear HS; have HS := aM hs; clear hs))
         go_roundg k1
         case measure => omega
         case rel =>
          refine ⟨i + 1, b1 ++ runsF (fun x => two15 (x + 1)) row.length row, by go_num, ⟨by have := HJ.out; omega⟩, HTG3, ⟨?_⟩, HBZ2, HS⟩
          have h1 := runsF_len (fun x => two15 (x + 1)) (fun x => Nat.le_refl _) row.length row
          have h2 := HBL.out
          have h3 := HRB.out.1
          have h5 := HB1L.out
          rw [lA]
          omega
        | succ k2 =>
         have hj : j < row.length := by have := HC.out; omega
         have e1 : decide ((j : Int) < (row.length : Int)) = true := dT (by omega)
         have e2 : decide (j < row.length) = true := dT hj
         have hj0 : (0 : Int) ≤ (j : Int) := by omega
         have hj1 : (j : Int) < (row.length : Int) := by omega
         obtain ⟨ax, cx, ex, yx0⟩ := int_cell HUN.out j hj
         cases ex
         have yx := pw_cell_below HS.out.below yx0
         have hxb := HRB.out.2 _ (mem_getD row 0 j hj)
         have HTO2 := aM (show tz ++ [row.getD j 0 + 1] = (row.take (j + 1)).map (· + 1) by rw [HTO.out]; exact take_map1 row j hj)
         have HTL2 := aM (show tz.length ≤ 256 by rw [HTO.out]; have := HRB.out.1; simp; omega)
         generalize row.getD j 0 = x at *
         obtain ⟨hxb0, hxb1⟩ := hxb
         have hwx : wrap64 (x + 1) = x + 1 := IntWalk.wrap64_in _ (by omega)
         clear yx0 HTO
         go_wp2_with (first
          | ((with_reducible refine gate_dst (N := 76) rfl ?_); refine slit kInt 3 ?hg (N := 76) ?hd (xs := [x + 1]) (inner := [.int .i64 (x + 1)]) ?hr HS.out ?hp (by simp) ?_; (case hd => rfl); (case hg => rfl); (case hr => first | (go_simp; done) | (go_simp; rfl)); (case hp => exact (Reps.one (PK.scalar _) (Reps.none _ _))); clear HS; intro v31 w31 hs; have HS := aM hs; clear hs)
          | ((with_reducible refine gate_builtin (b := .append) (xs := #[.tmp 66, .tmp 76]) rfl ?_); at_builtin; refine sgrow kInt 2 rfl (.tmp 66) (.tmp 76) 26 3 (.int .i64 0) 8 rfl Tryz.underlying26 info3' rfl (by decide) (by omega) _ _ tz [x + 1] rfl rfl HS.out rfl (HS.out.ro 3 rfl) (by have := HTL2.out; rw [lS]; omega) ?_; clear HS; intro v1 w1 hs; have HS := aM hs; clear hs))
         go_roundg k2
         case measure => omega
         case rel => exact ⟨j + 1, _, by go_num, ⟨by have := HC.out; omega⟩, HTO2, ⟨HS.out.take 3⟩⟩
structure Rd where
 b : List Int
 short : Bool
def takeR (n : Nat) (r : Rd) : List Int × Rd := if r.b.length < n then (List.replicate n 0, ⟨[], true⟩) else (r.b.take n, ⟨r.b.drop n, r.short⟩)
theorem PV.take_cap {α : Type} {d : Kd α} {X : Nat → Prop} {w : World} {A : Option Addr} {n c : Nat} {xs : List α} (h : PV d X w (.slice A n c) xs) (m : Nat) (hm : m ≤ xs.length) : PV d X w (.slice A m m) (xs.take m) := by
 obtain ⟨A', c', he, hc, hC⟩ := h
 cases he
 exact ⟨A, m, by rw [List.length_take, Nat.min_eq_left hm], by rw [List.length_take]; omega, fun w' hw => Kd.C_take (hC w' hw) hm⟩
set_option maxHeartbeats 4000000 in
theorem take_calls (X : Nat → Prop) (w0 w : World) (L : List PX.Item) (i g : Nat) (vb : Value) (r : Rd) (n : Nat) (hs : Sep X w0 w L) (hi : L[i]? = some (.box g 62 [vb, .bool r.short])) (hb : PV kU8 X w0 vb r.b) (hn : 1 ≤ n ∧ n ≤ 1000) :
  Calls Tryz.prog 31 #[.pointer (some ⟨g, 0, none⟩), .int .i64 n] w fun e w' => ∃ v, e = .returned v ∧ PV kU8 X w' v (takeR n r).1 ∧ ∃ vb', PV kU8 X w0 vb' (takeR n r).2.b ∧ Sep X w0 w' (L.set i (.box g 62 [vb', .bool (takeR n r).2.short])) := by
 have HS := aM hs
 have HB := aM hb
 have HI := aM hi
 have m0 := hb.max
 obtain ⟨A0, c0, rfl, hc0, _⟩ := hb.now
 obtain ⟨hn1, hn2⟩ := hn
 have x0 := (hs.box i hi).cell 0 rfl
 have x1 := (hs.box i hi).cell 1 rfl
 have f0 := (hs.box i hi).open_ 0
 have f1 := (hs.box i hi).open_ 1
 clear hs hi hb
 go_enter Tryz.func31, Tryz.ntmps31
 rcases Nat.lt_or_ge r.b.length n with hl | hl
 case inl =>
  have d1 : decide ((r.b.length : Int) < (n : Int)) = true := dT (by omega)
  have d2 : decide (r.b.length < n) = true := dT hl
  rw [show takeR n r = (List.replicate n 0, ⟨[], true⟩) by unfold takeR; rw [if_pos hl]]
  have hnc : (n : Int) ≤ 281474976710656 := by omega
  go_upto_region 3 with fail
  have hs := (HS.out.set_box i HI.out 1 (.bool true)).set_box i (by rw [List.getElem?_set_self (List.getElem?_eq_some_iff.1 HI.out).1]) 0 (.slice none 0 0)
  rw [List.set_set] at hs
  obtain ⟨w1, hw1⟩ : ∃ x, x = (w.setCell ⟨g, 1, none⟩ (.bool true)).setCell ⟨g, 0, none⟩ (.slice none 0 0) := ⟨_, rfl⟩
  rw [← hw1] at hs ⊢
  clear HS x0 x1 f0 f1 hw1
  have HS := aM hs
  clear hs
  go_wp2_with (first
   | ((with_reducible refine gate_dst (N := 20) rfl ?_); refine smake .u8 5 rfl (N := 20) rfl 24 (.tmp 19) (.tmp 19) rfl n rfl rfl Tryz.underlying24 1 info5 (by omega) (by omega) HS.out ?_; clear HS; intro v30 w30 hs; have HS := aM hs; clear hs))
  go_ret
  have hv := HS.out.res_row _ List.getElem?_concat_length
  exact ⟨_, rfl, hv, .slice none 0 0, PV.nil _ _ _, HS.out.sub (List.sublist_append_left _ _)⟩
 case inr =>
  have d1 : decide ((r.b.length : Int) < (n : Int)) = false := dF (by omega)
  have d2 : decide (r.b.length < n) = false := dF (by omega)
  rw [show takeR n r = (r.b.take n, ⟨r.b.drop n, r.short⟩) by unfold takeR; rw [if_neg (by omega)]]
  obtain ⟨j0, hj0, _, hjz0, _⟩ := info_parts info5
  obtain ⟨u9, hu9, hrun9⟩ := HB.out.from_ (P := Tryz.prog) 24 5 Tryz.underlying24 hj0 hjz0 n hl
  obtain ⟨db, hdb⟩ : ∃ l, l = r.b.drop n := ⟨_, rfl⟩
  rw [← hdb] at hu9 ⊢
  clear hdb
  obtain ⟨A9, c9, rfl, _, _⟩ := hu9.now
  have HU9 := aM hu9
  have HT := aM (PV.take_cap HB.out n hl)
  clear hu9 hj0 hjz0
  go_wp2_with fail
  go_ret
  have hs := HS.out.set_box i HI.out 0 (.slice A9 db.length c9)
  exact ⟨_, rfl, (hs.arg HT.out).to (fun k _ hk => .inl hk), _, HU9.out, hs⟩
end Go.Proofs.YtplhfgobeicegaaGreatDoor.P
namespace Go.Proofs.YtplhfgobeicegaaGreatDoor.P
open Go Go.RowKit Go.Proofs.YtplhfgobeicegaaGreatDoorW.PrintWords Go.Proofs.YtplhfgobeicegaaGreatDoorW.PrintLast Go.Proofs.YtplhfgobeicegaaGreatDoorW.PrintMore Go.Proofs.YtplhfgobeicegaaGreatDoor.PX
set_option linter.unusedVariables false
set_option linter.unusedSimpArgs false
set_option maxRecDepth 100000
theorem takeR_len (n : Nat) (r : Rd) : (takeR n r).1.length = n := by
 unfold takeR
 split
 ·simp
 ·next h => simp only [List.length_take]; omega
theorem takeR_u8 (n : Nat) {r : Rd} (h : U8s r.b) : U8s (takeR n r).1 ∧ U8s (takeR n r).2.b := by
 unfold takeR
 split
 ·exact ⟨fun c hc => by rw [List.eq_of_mem_replicate hc]; omega, fun c hc => by cases hc⟩
 ·exact ⟨fun c hc => h c (List.mem_of_mem_take hc), fun c hc => h c (List.mem_of_mem_drop hc)⟩
def twoR (r : Rd) : Int × Rd := ((takeR 2 r).1.getD 0 0 * 256 + (takeR 2 r).1.getD 1 0, (takeR 2 r).2)
theorem or8 {p q : Nat} (hp : p < 256) (hq : q < 256) : bits .or .i64 ((p : Int) * 256) (q : Int) = (p : Int) * 256 + (q : Int) := by
 have e62 : (2 : Int) ^ 62 = 4611686018427387904 := by decide
 have e8 : (2 : Int) ^ 8 = 256 := by decide
 refine bits_join .i64 62 (by decide) (fun n h0 h1 => ?_) 8 _ _ ?_ ?_ ?_ ?_ ?_ ?_
 ·rw [IntKind.wrap_i64]
  rw [e62] at h1
  omega
 ·omega
 ·rw [e8]; omega
 ·rw [e62]; omega
 ·omega
 ·rw [e8]; omega
 ·rw [e62]; omega
theorem PV.lenlit2 {α : Type} {d : Kd α} {X : Nat → Prop} {w : World} {v : Value} {xs : List α} (h : PV d X w v xs) (n : Nat) (hn : xs.length = n) : ∃ A c, v = .slice A n c := by
 obtain ⟨A, c, e, _⟩ := h
 exact ⟨A, c, by rw [e, hn]⟩
set_option maxHeartbeats 4000000 in
theorem rtwo_calls (X : Nat → Prop) (w0 w : World) (L : List PX.Item) (i g : Nat) (vb : Value) (r : Rd) (hs : Sep X w0 w L) (hi : L[i]? = some (.box g 62 [vb, .bool r.short])) (hb : PV kU8 X w0 vb r.b) (hu : U8s r.b) :
  Calls Tryz.prog 28 #[.pointer (some ⟨g, 0, none⟩)] w fun e w' => e = .returned (.int .i64 (twoR r).1) ∧ ∃ vb', PV kU8 X w0 vb' (twoR r).2.b ∧ Sep X w0 w' (L.set i (.box g 62 [vb', .bool (twoR r).2.short])) := by
 have HS := aM hs
 have HB := aM hb
 have HI := aM hi
 have HTL := aM (takeR_len 2 r)
 have HTU := aM (takeR_u8 2 hu)
 obtain ⟨q, hq⟩ : ∃ q, q = takeR 2 r := ⟨_, rfl⟩
 have HQ := aM hq.symm
 rw [show twoR r = (q.1.getD 0 0 * 256 + q.1.getD 1 0, q.2) by rw [hq]; rfl]
 rw [← hq] at HTL HTU
 obtain ⟨p0, hp0, hp1⟩ := u8s_at HTU.out.1 0 (by rw [HTL.out]; decide)
 obtain ⟨p2, hp2, hp3⟩ := u8s_at HTU.out.1 1 (by rw [HTL.out]; decide)
 rw [hp0, hp2]
 have HP := aM (And.intro hp0 hp2)
 have HOR := aM (show bits .or .i64 (wrap64 (wrap64 (p0 : Int) * 256)) (wrap64 (p2 : Int)) = (p0 : Int) * 256 + (p2 : Int) by
  rw [IntWalk.wrap64_in (p0 : Int) (by omega), IntWalk.wrap64_in ((p0 : Int) * 256) (by omega), IntWalk.wrap64_in (p2 : Int) (by omega)]
  exact or8 hp1 hp3)
 have HPP := aM (And.intro hp1 hp3)
 clear hp0 hp2 hp1 hp3
 clear hs hi hb hu hq
 go_enter Tryz.func28, Tryz.ntmps28
 go_upto_region 2 with (first
  | (go_at_call 31; (refine (take_calls X w0 _ L i g _ r 2 HS.out HI.out HB.out (by decide)).mono ?_); rintro ee w5 ⟨v5, rfl, hv, vb', hb', hs⟩; rw [HQ.out] at hv hb' hs; obtain ⟨A5, c5, e5⟩ := PV.lenlit2 hv 2 HTL.out; subst e5; have HV := aM hv; have HB2 := aM hb'; clear HS hv hb'; have HS := aM hs; clear hs))
 obtain ⟨ad, cd, ed, ya⟩ := u8_cell HV.out 0 (by rw [HTL.out]; decide)
 rw [HTL.out] at ed
 cases ed
 obtain ⟨ad2, cd2, ed2, yb⟩ := u8_cell HV.out 1 (by rw [HTL.out]; decide)
 rw [HTL.out] at ed2
 cases ed2
 change World.cell? _ ad = _ at ya
 rw [add_pos _ (by decide)] at yb
 rw [HP.out.1] at ya
 rw [HP.out.2] at yb
 go_wp2_with fail
 go_quiet (fail)
 rw [HOR.out]
 go_wp2_with fail
 go_ret
 exact ⟨rfl, _, HB2.out, HS.out.drewN nq⟩
def oneR (r : Rd) : Int × Rd := ((takeR 1 r).1.getD 0 0, (takeR 1 r).2)
def twoM (r : Rd) : Int × Rd := ((twoR r).1 - 1, (twoR r).2)
theorem twoR_in {r : Rd} (hu : U8s r.b) : 0 ≤ (twoR r).1 ∧ (twoR r).1 < 65536 := by
 have h := (takeR_u8 2 hu).1
 have hl := takeR_len 2 r
 obtain ⟨p0, hp0, hp1⟩ := u8s_at h 0 (by omega)
 obtain ⟨p2, hp2, hp3⟩ := u8s_at h 1 (by omega)
 unfold twoR
 dsimp only
 rw [hp0, hp2]
 omega
set_option maxHeartbeats 4000000 in
theorem rd1_calls (X : Nat → Prop) (w0 w : World) (L : List PX.Item) (i j g gp : Nat) (vb : Value) (r : Rd) (hs : Sep X w0 w L) (hi : L[i]? = some (.box g 62 [vb, .bool r.short])) (hj : L[j]? = some (.box gp 60 [.pointer (some ⟨g, 0, none⟩)])) (hb : PV kU8 X w0 vb r.b) (hu : U8s r.b) :
  Calls Tryz.prog 30 #[.pointer (some ⟨gp, 0, none⟩)] w fun e w' => e = .returned (.int .i64 (oneR r).1) ∧ ∃ vb', PV kU8 X w0 vb' (oneR r).2.b ∧ Sep X w0 w' (L.set i (.box g 62 [vb', .bool (oneR r).2.short])) := by
 have HS := aM hs
 have HB := aM hb
 have HI := aM hi
 have x0 := (hs.box j hj).cell 0 rfl
 have HTL := aM (takeR_len 1 r)
 have HTU := aM (takeR_u8 1 hu)
 obtain ⟨q, hq⟩ : ∃ q, q = takeR 1 r := ⟨_, rfl⟩
 have HQ := aM hq.symm
 rw [show oneR r = (q.1.getD 0 0, q.2) by rw [hq]; rfl]
 rw [← hq] at HTL HTU
 obtain ⟨p0, hp0, hp1⟩ := u8s_at HTU.out.1 0 (by rw [HTL.out]; decide)
 rw [hp0]
 have HP := aM hp0
 have HW := aM (show wrap64 (p0 : Int) = (p0 : Int) from IntWalk.wrap64_in _ (by omega))
 clear hs hi hj hb hu hq hp0 hp1
 go_enter Tryz.func30, Tryz.ntmps30
 go_wp2_with (first
  | (go_at_call 31; (refine (take_calls X w0 _ L i g _ r 1 HS.out HI.out HB.out (by decide)).mono ?_); rintro ee w5 ⟨v5, rfl, hv, vb', hb', hs⟩; rw [HQ.out] at hv hb' hs; obtain ⟨A5, c5, e5⟩ := PV.lenlit2 hv 1 HTL.out; subst e5; have HV := aM hv; have HB2 := aM hb'; clear HS hv hb' x0; have HS := aM hs; clear hs; obtain ⟨ad, cd, ed, ya⟩ := u8_cell HV.out 0 (by rw [HTL.out]; decide); rw [HTL.out] at ed; cases ed; change World.cell? _ ad = _ at ya; rw [HP.out] at ya))
 rw [HW.out]
 go_ret
 exact ⟨rfl, _, HB2.out, HS.out⟩
set_option maxHeartbeats 4000000 in
theorem rd2_calls (X : Nat → Prop) (w0 w : World) (L : List PX.Item) (i j g gp : Nat) (vb : Value) (r : Rd) (hs : Sep X w0 w L) (hi : L[i]? = some (.box g 62 [vb, .bool r.short])) (hj : L[j]? = some (.box gp 60 [.pointer (some ⟨g, 0, none⟩)])) (hb : PV kU8 X w0 vb r.b) (hu : U8s r.b) :
  Calls Tryz.prog 33 #[.pointer (some ⟨gp, 0, none⟩)] w fun e w' => e = .returned (.int .i64 (twoM r).1) ∧ ∃ vb', PV kU8 X w0 vb' (twoM r).2.b ∧ Sep X w0 w' (L.set i (.box g 62 [vb', .bool (twoM r).2.short])) := by
 have HS := aM hs
 have HB := aM hb
 have HI := aM hi
 have HU := aM hu
 have x0 := (hs.box j hj).cell 0 rfl
 obtain ⟨h0, h1⟩ := twoR_in hu
 obtain ⟨⟨q1, q2⟩, hq⟩ : ∃ q, q = twoR r := ⟨_, rfl⟩
 have HQ := aM hq.symm
 rw [show twoM r = (q1 - 1, q2) by unfold twoM; rw [← hq]]
 rw [← hq] at h0 h1
 have HW := aM (show wrap64 (q1 - 1) = q1 - 1 from IntWalk.wrap64_in _ (by dsimp only at h0 h1; omega))
 clear hs hi hj hb hu hq h0 h1
 go_enter Tryz.func33, Tryz.ntmps33
 go_wp2_with (first
  | (go_at_call 28; (refine (rtwo_calls X w0 _ L i g _ r HS.out HI.out HB.out HU.out).mono ?_); rintro ee w5 ⟨rfl, vb', hb', hs⟩; rw [HQ.out] at hb' hs ⊢; have HB2 := aM hb'; clear HS hb' x0; have HS := aM hs; clear hs))
 rw [HW.out]
 go_ret
 exact ⟨rfl, _, HB2.out, HS.out⟩
end Go.Proofs.YtplhfgobeicegaaGreatDoor.P
