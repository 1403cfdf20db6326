/- Part 9 of the proof: S14b. -/
import Derived.Test.YtfbfeimildkigaaDoorCq8
namespace Go.Proofs.YtfbfeimildkigaaDoor.P
open Go Go.RowKit Go.Proofs.YtfbfeimildkigaaDoorW.PrintWords Go.Proofs.YtfbfeimildkigaaDoorW.PrintLast Go.Proofs.YtfbfeimildkigaaDoorW.PrintMore Go.Proofs.YtfbfeimildkigaaDoor.PX
set_option linter.unusedVariables false
set_option linter.unusedSimpArgs false
set_option maxRecDepth 100000
theorem manyGo_le : ∀ (l : List Int) (n : Int), (∀ c ∈ l, 0 ≤ c ∧ c < 256) → -1 ≤ n → n ≤ 256 → -1 ≤ manyGo l n ∧ manyGo l n ≤ 256
  | [], n, _, h0, h1 => ⟨h0, h1⟩
  | c :: t, n, h, h0, h1 => by
    rw [manyGo]
    have hc := h c (List.mem_cons_self ..)
    by_cases h2 : c > n
    · rw [if_pos h2]; omega
    · rw [if_neg h2]; exact manyGo_le t _ (fun x hx => h x (List.mem_cons_of_mem _ hx)) (by omega) (by omega)
theorem many14_le {l : List Int} (h : U8s l) : ∃ n : Nat, many14 l = (n : Int) ∧ n ≤ 256 := by
  have h1 := manyGo_le l 0 h (by omega) (by omega)
  unfold many14
  by_cases h2 : manyGo l 0 = -1 ∨ l.length ≠ 256
  · exact ⟨0, by rw [if_pos h2]; rfl, by omega⟩
  · exact ⟨(manyGo l 0).toNat, by rw [if_neg h2]; omega, by omega⟩
def TRow (n : Nat) (next : List (List Int)) (tags : List Int) (i : Nat) : Prop := (next.getD i []).length = n ∧ -1 ≤ tags.getD i 0 ∧ ∀ j, j < n → -1 ≤ (next.getD i []).getD j 0 ∧ (next.getD i []).getD j 0 < (tags.length : Int)
def THead (n : Nat) (next : List (List Int)) (tags : List Int) : Prop := n ≠ 0 ∧ 1 ≤ tags.length ∧ tags.length ≤ 40000 ∧ next.length = tags.length
def TSoundN (n : Nat) (next : List (List Int)) (tags : List Int) : Prop := THead n next tags ∧ (∀ i, i < tags.length → TRow n next tags i) ∧ ∀ a, a < n → ∀ b, b < a → sameCol next a b = false
def TSound (cl : List Int) (next : List (List Int)) (tags : List Int) : Prop := TSoundN (many14 cl).toNat next tags
instance (n : Nat) (next : List (List Int)) (tags : List Int) (i : Nat) : Decidable (TRow n next tags i) := by unfold TRow; infer_instance
instance (n : Nat) (next : List (List Int)) (tags : List Int) : Decidable (THead n next tags) := by unfold THead; infer_instance
instance (n : Nat) (next : List (List Int)) (tags : List Int) : Decidable (TSoundN n next tags) := by unfold TSoundN; infer_instance
instance (cl : List Int) (next : List (List Int)) (tags : List Int) : Decidable (TSound cl next tags) := by unfold TSound; infer_instance
set_option maxHeartbeats 8000000 in
theorem tsound_calls (X : Nat → Prop) (vc vn vt : Value) (cl : List Int) (next : List (List Int)) (tags : List Int) (w : World) (hX : ∀ k, X k → k < w.heap.size) (hc : PV kU8 X w vc cl) (hn : PV kRow X w vn next) (ht : PV kInt X w vt tags) (hu : U8s cl) :
    Calls Tryd.prog 19 #[.agg #[vc, vn, vt]] w fun e w' => e = .returned (.bool (decide (TSound cl next tags))) ∧ Below w.heap.size w w' := by
  have H0 := Aside0.mk hc
  have H1 := Aside0.mk hn
  have H2 := Aside0.mk ht
  have HU := Aside0.mk hu
  have m1 := hn.max
  have m2 := ht.max
  obtain ⟨Ac, cc, rfl, _, _⟩ := hc.now
  obtain ⟨An, cn, rfl, _, _⟩ := hn.now
  obtain ⟨At, ct, rfl, _, _⟩ := ht.now
  have HS := Aside0.mk ((Sep.start hX).push_box [.slice Ac cl.length cc, .slice An next.length cn, .slice At tags.length ct] 31)
  obtain ⟨n, hnn, hn256⟩ := many14_le hu
  obtain ⟨q, hq⟩ : ∃ q, q = decide (TSound cl next tags) := ⟨_, rfl⟩
  rw [← hq]
  have HQ := Aside0.mk (show q = true ↔ TSoundN n next tags by rw [hq, decide_eq_true_iff, TSound, hnn]; exact Iff.rfl)
  have HN := Aside0.mk hnn
  clear hc hn ht hX hq hu hnn
  have no : ¬ TSoundN n next tags → q = false := fun h => by
    cases hqq : q
    · rfl
    · exact absurd (HQ.out.1 hqq) h
  have HNO := Aside0.mk no
  clear no
  by_cases hh : THead n next tags
  case neg =>
    have q0 : q = false := HNO.out (fun h => hh h.1)
    clear HQ HNO
    subst q0
    unfold THead at hh
    rcases Nat.eq_zero_or_pos n with h0 | h0
    case' inl =>
      have d0 : ((n : Int) == 0) = true := beq_iff_eq.mpr (by omega)
    case' inr =>
      have d0 : ((n : Int) == 0) = false := beq_eq_false_iff_ne.mpr (by omega)
      rcases Nat.lt_or_ge tags.length 1 with h1 | h1
    case' inr.inl =>
      have d1 : decide ((tags.length : Int) < 1) = true := decide_eq_true (by omega)
      have d1' : decide (tags.length < 1) = true := decide_eq_true h1
    case' inr.inr =>
      have d1 : decide ((tags.length : Int) < 1) = false := decide_eq_false (by omega)
      have d1' : decide (tags.length < 1) = false := decide_eq_false (by omega)
      rcases Nat.lt_or_ge 40000 tags.length with h2 | h2
    case' inr.inr.inl =>
      have d2 : decide ((tags.length : Int) > 40000) = true := decide_eq_true (by omega)
      have d2' : decide (40000 < tags.length) = true := decide_eq_true h2
    case' inr.inr.inr =>
      have d2 : decide ((tags.length : Int) > 40000) = false := decide_eq_false (by omega)
      have d2' : decide (40000 < tags.length) = false := decide_eq_false (by omega)
      have d3 : ((next.length : Int) == (tags.length : Int)) = false := beq_eq_false_iff_ne.mpr (by omega)
      have d3' : ((next.length : Int) != (tags.length : Int)) = true := bne_iff_ne.mpr (by omega)
    all_goals
      clear hh
      go_enter Tryd.func19, Tryd.ntmps19
      go_wp2_with (first
        | (go_at_call 34; (with_reducible refine (many14_calls _ _ cl _ (HS.out.arg H0.out) HU.out).mono ?_); rintro ee w5 ⟨rfl, hb⟩; rw [HN.out]; have hs := HS.out.call hb; have y1 := (hs.box 0 rfl).cell 1 rfl; have y2 := (hs.box 0 rfl).cell 2 rfl; clear hb; clear HS; have HS := Aside0.mk hs; clear hs))
      go_ret
      exact ⟨rfl, HS.out.below⟩
  case pos =>
    have HH := Aside0.mk hh
    obtain ⟨h0, h1, h2, h3⟩ := hh
    have d0 : ((n : Int) == 0) = false := beq_eq_false_iff_ne.mpr (by omega)
    have d1 : decide ((tags.length : Int) < 1) = false := decide_eq_false (by omega)
    have d1' : decide (tags.length < 1) = false := decide_eq_false (by omega)
    have d2 : decide ((tags.length : Int) > 40000) = false := decide_eq_false (by omega)
    have d2' : decide (40000 < tags.length) = false := decide_eq_false (by omega)
    have d3 : ((next.length : Int) == (tags.length : Int)) = true := beq_iff_eq.mpr (by omega)
    have d3' : ((next.length : Int) != (tags.length : Int)) = false := bne_eq_false_iff_eq.mpr (by omega)
    have HL3 := Aside0.mk h3
    clear h0 h1 h2 h3
    go_enter Tryd.func19, Tryd.ntmps19
    go_wp2_with (first
      | (go_at_call 34; (with_reducible refine (many14_calls _ _ cl _ (HS.out.arg H0.out) HU.out).mono ?_); rintro ee w5 ⟨rfl, hb⟩; rw [HN.out]; have hs := HS.out.call hb; have y1 := (hs.box 0 rfl).cell 1 rfl; have y2 := (hs.box 0 rfl).cell 2 rfl; clear hb; clear HS; have HS := Aside0.mk hs; clear hs))
    obtain ⟨g0, hg0⟩ : ∃ g, g = w.heap.size := ⟨_, rfl⟩
    rw [← hg0] at HS ⊢
    clear hg0 d0 d1 d1' d2 d2' d3 d3' y1 y2
    go_loopg [5] tags.length (fun m v5 w' => ∃ (i : Nat), v5 = .int .i64 i ∧ Aside0 (i + m = tags.length) ∧ Aside0 (∀ i', i' < i → TRow n next tags i') ∧ Aside0 (Sep X w w' [.box g0 31 [.slice Ac cl.length cc, .slice An next.length cn, .slice At tags.length ct]]))
    case atStart => exact ⟨0, rfl, ⟨by omega⟩, ⟨fun i' h => by omega⟩, HS⟩
    case round =>
      clear HS
      obtain ⟨i, rfl, HJ, HI, HS⟩ := hrel
      cases gk with
      | zero =>
        have e1 : decide ((i : Int) < (tags.length : Int)) = false := decide_eq_false (by have := HJ.out; omega)
        have e2 : decide (i < tags.length) = false := decide_eq_false (by have := HJ.out; omega)
        have HROWS := Aside0.mk (show ∀ i', i' < tags.length → TRow n next tags i' from fun i' h => HI.out i' (by have := HJ.out; omega))
        have HNC := Aside0.mk (fun (h : ¬ ∀ a, a < n → ∀ b, b < a → sameCol next a b = false) => HNO.out (fun hs => h hs.2.2))
        have HW := Aside0.mk (show ∀ row ∈ next, row.length = n from fun row hrow => by
          obtain ⟨i', hi', e'⟩ := List.getElem_of_mem hrow
          have h := (HROWS.out i' (by rw [← HL3.out]; exact hi')).1
          rw [List.getD_eq_getElem?_getD, List.getElem?_eq_getElem hi', e'] at h
          exact h)
        go_wp2_with fail
        clear e1 e2 HJ HI HNO
        go_loopg [7] n (fun m v7 w' => ∃ (a : Nat), v7 = .int .i64 a ∧ Aside0 (a + m = n) ∧ Aside0 (∀ a', a' < a → ∀ b, b < a' → sameCol next a' b = false) ∧ Aside0 (Sep X w w' [.box g0 31 [.slice Ac cl.length cc, .slice An next.length cn, .slice At tags.length ct]]))
        case atStart => exact ⟨0, rfl, ⟨by omega⟩, ⟨fun a' h => by omega⟩, HS⟩
        case round =>
          clear HS
          obtain ⟨a, rfl, HJ, HI, HS⟩ := hrel
          cases gk with
          | zero =>
            have e1 : decide ((a : Int) < (n : Int)) = false := decide_eq_false (by have := HJ.out; omega)
            have e2 : decide (a < n) = false := decide_eq_false (by have := HJ.out; omega)
            have q0 : q = true := HQ.out.2 ⟨HH.out, HROWS.out, fun a' h => HI.out a' (by have := HJ.out; omega)⟩
            clear HQ HNC
            subst q0
            go_wp2_with fail
            go_ret
            exact ⟨rfl, HS.out.below⟩
          | succ k1 =>
            have ha : a < n := by have := HJ.out; omega
            have e1 : decide ((a : Int) < (n : Int)) = true := decide_eq_true (by omega)
            have e2 : decide (a < n) = true := decide_eq_true ha
            have HA := Aside0.mk ha
            go_wp2_with fail
            clear e1 e2
            go_loopg [8] a (fun m v8 w' => ∃ (b : Nat), v8 = .int .i64 b ∧ Aside0 (b + m = a) ∧ Aside0 (∀ b', b' < b → sameCol next a b' = false) ∧ Aside0 (Sep X w w' [.box g0 31 [.slice Ac cl.length cc, .slice An next.length cn, .slice At tags.length ct]]))
            case atStart => exact ⟨0, rfl, ⟨by omega⟩, ⟨fun b' h => by omega⟩, HS⟩
            case round =>
              clear HS
              obtain ⟨b, rfl, HJ2, HI2, HS⟩ := hrel
              cases gk with
              | zero =>
                have e1 : decide ((b : Int) < (a : Int)) = false := decide_eq_false (by have := HJ2.out; omega)
                have e2 : decide (b < a) = false := decide_eq_false (by have := HJ2.out; omega)
                have HI3 := Aside0.mk (show ∀ a', a' < a + 1 → ∀ b, b < a' → sameCol next a' b = false from fun a' h b' hb' => (Nat.lt_or_ge a' a).elim (fun h2 => HI.out a' h2 b' hb') (fun h2 => by
                  have : a' = a := by omega
                  subst this
                  exact HI2.out b' (by have := HJ2.out; omega)))
                go_wp2_with fail
                go_roundg k1
                case measure => omega
                case rel => exact ⟨a + 1, by go_num, ⟨by have := HJ.out; omega⟩, HI3, HS⟩
              | succ b1 =>
                have hb : b < a := by have := HJ2.out; omega
                have e1 : decide ((b : Int) < (a : Int)) = true := decide_eq_true (by omega)
                have e2 : decide (b < a) = true := decide_eq_true hb
                have y1 := (HS.out.box 0 rfl).cell 1 rfl
                have HNB := Aside0.mk (fun (h : sameCol next a b = true) => HNC.out (fun hs => by
                  have := hs a HA.out b hb
                  rw [h] at this
                  cases this))
                have HST := Aside0.mk (show sameCol next a b = false → ∀ b', b' < b + 1 → sameCol next a b' = false from fun h b' hb' => (Nat.lt_or_ge b' b).elim (HI2.out b') (fun h2 => by
                  have : b' = b := by omega
                  rw [this]; exact h))
                obtain ⟨x, hx⟩ : ∃ x, x = sameCol next a b := ⟨_, rfl⟩
                have HX := Aside0.mk hx.symm
                rw [← hx] at HNB HST
                clear hx
                cases x
                case false =>
                  have HI3 := Aside0.mk (HST.out rfl)
                  go_wp2_with (first
                    | (go_at_call 29; (with_reducible refine (alike14_calls _ _ next a b _ (HS.out.arg H1.out) (fun row hrow => by have := HW.out row hrow; have := HA.out; omega)).mono ?_); rintro ee w5 ⟨rfl, hb⟩; rw [HX.out]; have hs := HS.out.call hb; clear hb; clear HS; have HS := Aside0.mk hs; clear hs))
                  go_roundg b1
                  case measure => omega
                  case rel => exact ⟨b + 1, by go_num, ⟨by have := HJ2.out; omega⟩, HI3, HS⟩
                case true =>
                  have q0 : q = false := HNB.out rfl
                  clear HQ HNC HNB
                  subst q0
                  go_wp2_with (first
                    | (go_at_call 29; (with_reducible refine (alike14_calls _ _ next a b _ (HS.out.arg H1.out) (fun row hrow => by have := HW.out row hrow; have := HA.out; omega)).mono ?_); rintro ee w5 ⟨rfl, hb⟩; rw [HX.out]; have hs := HS.out.call hb; clear hb; clear HS; have HS := Aside0.mk hs; clear hs))
                  go_ret
                  exact ⟨rfl, HS.out.below⟩
      | succ k1 =>
        have hi : i < tags.length := by have := HJ.out; omega
        have hin : i < next.length := by rw [HL3.out]; exact hi
        have e1 : decide ((i : Int) < (tags.length : Int)) = true := decide_eq_true (by omega)
        have e2 : decide (i < tags.length) = true := decide_eq_true hi
        have hi0 : (0 : Int) ≤ (i : Int) := by omega
        have hi1 : (i : Int) < (tags.length : Int) := by omega
        have hi2 : (i : Int) < (next.length : Int) := by omega
        obtain ⟨an, cn', u, en, hu, yn0⟩ := H1.out.row i hin
        cases en
        obtain ⟨at_, ct', et, yt0⟩ := int_cell H2.out i hi
        cases et
        obtain ⟨Au, cu, rfl, _, _⟩ := hu.now
        have HU := Aside0.mk hu
        have HYN := Aside0.mk yn0
        have y0 := (HS.out.box 0 rfl).cell 1 rfl
        have y1 := (HS.out.box 0 rfl).cell 2 rfl
        have yn := pw_cell_below HS.out.below yn0
        have yt := pw_cell_below HS.out.below yt0
        have HROW := Aside0.mk (fun (h : TRow n next tags i) => (show (next.getD i []).length = n ∧ -1 ≤ tags.getD i 0 ∧ ∀ j, j < n → -1 ≤ (next.getD i []).getD j 0 ∧ (next.getD i []).getD j 0 < (tags.length : Int) from h))
        have HROW2 := Aside0.mk (fun (h : (next.getD i []).length = n ∧ -1 ≤ tags.getD i 0 ∧ ∀ j, j < n → -1 ≤ (next.getD i []).getD j 0 ∧ (next.getD i []).getD j 0 < (tags.length : Int)) => (show TRow n next tags i from h))
        have HNR := Aside0.mk (fun (h : ¬ TRow n next tags i) => HNO.out (fun hs => h (hs.2.1 i hi)))
        generalize next.getD i [] = row at *
        generalize tags.getD i 0 = tg at *
        clear hu yn0 yt0
        rcases Decidable.em (row.length = n ∧ -1 ≤ tg) with hr | hr
        case inr =>
          have q0 : q = false := HNR.out (fun h => hr ⟨(HROW.out h).1, (HROW.out h).2.1⟩)
          clear HQ HNO HNR HROW HROW2
          subst q0
          rcases Decidable.em (row.length = n) with h4 | h4
          case' inl =>
            have d4 : ((row.length : Int) == (n : Int)) = true := beq_iff_eq.mpr (by omega)
            have d4' : ((row.length : Int) != (n : Int)) = false := bne_eq_false_iff_eq.mpr (by omega)
            have d5 : decide (tg < -1) = true := decide_eq_true (by omega)
          case' inr =>
            have d4 : ((row.length : Int) == (n : Int)) = false := beq_eq_false_iff_ne.mpr (by omega)
            have d4' : ((row.length : Int) != (n : Int)) = true := bne_iff_ne.mpr (by omega)
          all_goals
            clear hr h4
            go_wp2_with fail
            go_ret
            exact ⟨rfl, HS.out.below⟩
        case inl =>
          obtain ⟨h4, h5⟩ := hr
          have d4 : ((row.length : Int) == (n : Int)) = true := beq_iff_eq.mpr (by omega)
          have d4' : ((row.length : Int) != (n : Int)) = false := bne_eq_false_iff_eq.mpr (by omega)
          have d5 : decide (tg < -1) = false := decide_eq_false (by omega)
          have HR4 := Aside0.mk (And.intro h4 h5)
          go_wp2_with fail
          clear d4 d4' d5 y0 y1 yn yt e1 e2 h4 h5
          go_loopg [6] n (fun m v6 w' => ∃ (j : Nat), v6 = .int .i64 j ∧ Aside0 (j + m = n) ∧ Aside0 (∀ j', j' < j → -1 ≤ row.getD j' 0 ∧ row.getD j' 0 < (tags.length : Int)) ∧ Aside0 (Sep X w w' [.box g0 31 [.slice Ac cl.length cc, .slice (some an) next.length cn, .slice (some at_) tags.length ct]]))
          case atStart => exact ⟨0, rfl, ⟨by omega⟩, ⟨fun j' h => by omega⟩, HS⟩
          case round =>
            clear HS
            obtain ⟨j, rfl, HJ2, HI2, HS⟩ := hrel
            have y0 := (HS.out.box 0 rfl).cell 1 rfl
            have yn := pw_cell_below HS.out.below HYN.out
            cases gk with
            | zero =>
              have e1 : decide ((j : Int) < (n : Int)) = false := decide_eq_false (by have := HJ2.out; omega)
              have e2 : decide (j < n) = false := decide_eq_false (by have := HJ2.out; omega)
              have HB := Aside0.mk (HROW2.out ⟨HR4.out.1, HR4.out.2, fun j' h => HI2.out j' (by have := HJ2.out; omega)⟩)
              go_wp2_with fail
              go_roundg k1
              case measure => omega
              case rel => exact ⟨i + 1, by go_num, ⟨by have := HJ.out; omega⟩, ⟨fun i' h => (Nat.lt_or_ge i' i).elim (HI.out i') (fun h2 => by
                have : i' = i := by omega
                rw [this]; exact HB.out)⟩, HS⟩
            | succ j1 =>
              have hj : j < n := by have := HJ2.out; omega
              have hjr : j < row.length := by have := HR4.out; omega
              have e1 : decide ((j : Int) < (n : Int)) = true := decide_eq_true (by omega)
              have e2 : decide (j < n) = true := decide_eq_true hj
              have hj0 : (0 : Int) ≤ (j : Int) := by omega
              have hj1 : (j : Int) < (row.length : Int) := by omega
              obtain ⟨ar, cr, er, yr0⟩ := int_cell HU.out j hjr
              cases er
              have yr := pw_cell_below HS.out.below yr0
              obtain ⟨x, hx⟩ : ∃ x, x = row.getD j 0 := ⟨_, rfl⟩
              rw [← hx] at yr
              have HX := Aside0.mk hx.symm
              clear yr0 hx
              rcases Decidable.em (-1 ≤ x ∧ x < (tags.length : Int)) with h6 | h6
              case inl =>
                have d6 : decide (x < -1) = false := decide_eq_false (by omega)
                have d7 : decide (x ≥ (tags.length : Int)) = false := decide_eq_false (by omega)
                have d8 : decide ((tags.length : Int) ≤ x) = false := decide_eq_false (by omega)
                have HI3 := Aside0.mk (show ∀ j', j' < j + 1 → -1 ≤ row.getD j' 0 ∧ row.getD j' 0 < (tags.length : Int) from fun j' h => (Nat.lt_or_ge j' j).elim (HI2.out j') (fun h2 => by
                  have : j' = j := by omega
                  rw [this, HX.out]; exact h6))
                go_wp2_with fail
                go_roundg j1
                case measure => omega
                case rel => exact ⟨j + 1, by go_num, ⟨by have := HJ2.out; omega⟩, HI3, HS⟩
              case inr =>
                have q0 : q = false := HNR.out (fun h => h6 (by have := (HROW.out h).2.2 j hj; rwa [HX.out] at this))
                clear HQ HNO HNR HROW HROW2
                subst q0
                rcases Decidable.em (x < -1) with h7 | h7
                case' inl => have d6 : decide (x < -1) = true := decide_eq_true h7
                case' inr =>
                  have d6 : decide (x < -1) = false := decide_eq_false h7
                  have d7 : decide (x ≥ (tags.length : Int)) = true := decide_eq_true (by omega)
                  have d8 : decide ((tags.length : Int) ≤ x) = true := decide_eq_true (by omega)
                all_goals
                  clear h6 h7
                  go_wp2_with fail
                  go_ret
                  exact ⟨rfl, HS.out.below⟩
end Go.Proofs.YtfbfeimildkigaaDoor.P
