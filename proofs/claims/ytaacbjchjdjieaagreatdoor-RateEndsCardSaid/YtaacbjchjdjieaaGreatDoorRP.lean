/- Ends: the program's and the document's. -/
import Derived.Test.YtaacbjchjdjieaaGreatDoorRN
namespace Go.Proofs.YtaacbjchjdjieaaGreatDoor.P
open Go Go.RowKit Go.Proofs.YtaacbjchjdjieaaGreatDoorW.PrintWords Go.Proofs.YtaacbjchjdjieaaGreatDoorW.PrintLast Go.Proofs.YtaacbjchjdjieaaGreatDoorW.PrintMore
set_option linter.unusedVariables false
set_option linter.unusedSimpArgs false
set_option maxRecDepth 100000
def fk : Kd Nat := Kd.scalar (Value.float .f64) (fun _ => rfl)
theorem fk_at {w : World} {A : Option Addr} {n : Nat} {xs : List Nat} (h : fk.C w A n xs) (j : Nat) (h1 : j < n) : ∃ ad, A = some ad ∧ w.cell? (ad.add j) = some (.float .f64 (xs.getD j 0)) := by
  obtain ⟨ad, e, hc⟩ := ReadsOf.at_ (Kd.reads_of_C (enc := Value.float .f64) (d := (0:Nat)) (h1 := fun _ => rfl) h) (j : Int) (by omega) (by omega)
  exact ⟨ad, e, by simpa [rdOf] using hc⟩
noncomputable def lowOf (x lo : Nat) : Nat := if FL.cmpK x lo < 0 then x else lo
noncomputable def highOf (x hi : Nat) : Nat := if FL.cmpK x hi > 0 then x else hi
noncomputable def endsL : List Nat → Nat → Nat → Nat × Nat
  | [], lo, hi => (lo, hi)
  | x :: t, lo, hi => if FL.nan x = true then endsL t lo hi else endsL t (lowOf x lo) (highOf x hi)
def word (n : Nat) : Prop := n < 18446744073709551616
def words (l : List Nat) : Prop := ∀ x ∈ l, x < 18446744073709551616
theorem lowOf_word {x lo : Nat} (hx : word x) (h : word lo) : word (lowOf x lo) := by unfold lowOf; split <;> assumption
theorem highOf_word {x lo : Nat} (hx : word x) (h : word lo) : word (highOf x lo) := by unfold highOf; split <;> assumption
theorem endsL_word : ∀ (l : List Nat) (lo hi : Nat), words l → word lo → word hi → word (endsL l lo hi).1 ∧ word (endsL l lo hi).2
  | [], _, _, _, h1, h2 => ⟨h1, h2⟩
  | x :: t, lo, hi, hw, h1, h2 => by
    have ht : words t := fun y hy => hw y (List.mem_cons_of_mem _ hy)
    have hx : word x := hw x List.mem_cons_self
    unfold endsL
    split
    · exact endsL_word t lo hi ht h1 h2
    · exact endsL_word t _ _ ht (lowOf_word hx h1) (highOf_word hx h2)
theorem endsL_key : ∀ (l : List Nat) (lo hi : Nat), FL.key (endsL l lo hi).1 ≤ FL.key lo ∧ FL.key hi ≤ FL.key (endsL l lo hi).2 ∧ ∀ x ∈ l, FL.nan x = false → FL.key (endsL l lo hi).1 ≤ FL.key x ∧ FL.key x ≤ FL.key (endsL l lo hi).2
  | [], lo, hi => ⟨Int.le_refl _, Int.le_refl _, fun x hx => by cases hx⟩
  | x :: t, lo, hi => by
    unfold endsL
    by_cases hn : FL.nan x = true
    · rw [if_pos hn]
      obtain ⟨h1, h2, h3⟩ := endsL_key t lo hi
      refine ⟨h1, h2, fun y hy hyn => ?_⟩
      rcases List.mem_cons.1 hy with rfl | hy
      · rw [hn] at hyn; cases hyn
      · exact h3 y hy hyn
    · rw [if_neg hn]
      obtain ⟨h1, h2, h3⟩ := endsL_key t (lowOf x lo) (highOf x hi)
      have k1 : FL.key (lowOf x lo) ≤ FL.key lo ∧ FL.key (lowOf x lo) ≤ FL.key x := by
        unfold lowOf
        have ha := FL.cmpK_le x lo
        have hb := FL.cmpK_le lo x
        have hs := FL.cmpK_swap x lo
        split
        · exact ⟨ha.1 (by omega), Int.le_refl _⟩
        · exact ⟨Int.le_refl _, hb.1 (by omega)⟩
      have k2 : FL.key hi ≤ FL.key (highOf x hi) ∧ FL.key x ≤ FL.key (highOf x hi) := by
        unfold highOf
        have ha := FL.cmpK_le x hi
        have hb := FL.cmpK_le hi x
        have hs := FL.cmpK_swap x hi
        split
        · exact ⟨hb.1 (by omega), Int.le_refl _⟩
        · exact ⟨Int.le_refl _, ha.1 (by omega)⟩
      refine ⟨by omega, by omega, fun y hy hyn => ?_⟩
      rcases List.mem_cons.1 hy with rfl | hy
      · exact ⟨by omega, by omega⟩
      · exact h3 y hy hyn
theorem drop_at (l : List Nat) (j : Nat) (h : j < l.length) : l.drop j = l.getD j 0 :: l.drop (j + 1) := by
  rw [List.drop_eq_getElem_cons h]; simp [List.getD_eq_getElem?_getD, h]
theorem selfNe' (x : Nat) : (FloatKind.f64.format.order x x != some Ordering.eq) = FL.nan x := FL.selfNe x
theorem words_at {l : List Nat} (h : words l) (j : Nat) (hj : j < l.length) : word (l.getD j 0) := by
  simp only [List.getD_eq_getElem?_getD, hj, List.getElem?_eq_getElem, Option.getD_some]
  exact h _ (List.getElem_mem hj)
set_option maxHeartbeats 2000000 in
theorem Ends_calls (A : Option Addr) (c : Nat) (l : List Nat) (hb : words l) (w : World) (hr : fk.C w A l.length l) :
    Calls Tryz.prog 21 #[.slice A l.length c] w fun e w' => e = .returned (.tuple #[.float .f64 (endsL l 9218868437227405312 18442240474082181120).1, .float .f64 (endsL l 9218868437227405312 18442240474082181120).2]) ∧ w' = w := by
  have HR := Aside0.mk hr
  have HB := Aside0.mk hb
  have hmx : l.length ≤ 9223372036854775807 := Kd.C_max hr
  have C0 := Aside0.mk (show endsL (l.drop 0) 9218868437227405312 18442240474082181120 = endsL l 9218868437227405312 18442240474082181120 from rfl)
  generalize endsL l 9218868437227405312 18442240474082181120 = r at *
  clear hr hb
  go_enter Tryz.func21, Tryz.ntmps21
  go_wp2_with fail
  refine (InfP_calls _).mono ?_
  rintro e w1 ⟨rfl, hw1⟩
  subst hw1
  go_wp2_with fail
  refine (InfN_calls _).mono ?_
  rintro e w1 ⟨rfl, hw1⟩
  subst hw1
  go_wp2_with fail
  go_loopg [2, 3, 10] l.length (fun m v2 v3 v10 w' => ∃ (j lo hi : Nat), v2 = .float .f64 lo ∧ v3 = .float .f64 hi ∧ v10 = .int .i64 j ∧ Aside0 (j + m = l.length) ∧ Aside0 (word lo ∧ word hi) ∧ Aside0 (endsL (l.drop j) lo hi = r) ∧ w' = w1)
  case atStart => exact ⟨0, _, _, rfl, rfl, rfl, ⟨by omega⟩, ⟨by unfold word; omega, by unfold word; omega⟩, C0, rfl⟩
  case round =>
    clear C0
    obtain ⟨j, lo, hi, rfl, rfl, rfl, HJ, HW, HE, hw2⟩ := hrel
    subst hw2
    cases gk with
    | zero =>
      have hd : decide ((j : Int) < (l.length : Int)) = false := decide_eq_false (by have := HJ.out; omega)
      have hd2 : decide (j < l.length) = false := decide_eq_false (by have := HJ.out; omega)
      go_wp2_with fail
      go_ret2
      refine ⟨?_, rfl⟩
      rw [← HE.out, List.drop_eq_nil_of_le (by have := HJ.out; omega)]
      rfl
    | succ k1 =>
      have hj : j < l.length := by have := HJ.out; omega
      obtain ⟨ad, rfl, hc⟩ := fk_at HR.out j hj
      have HE1 := HE.out
      rw [drop_at l j hj, endsL] at HE1
      have hwx := words_at HB.out j hj
      generalize l.getD j 0 = x at *
      have hn := selfNe' x
      cases nx : FL.nan x with
      | true =>
        rw [nx, if_pos rfl] at HE1
        rw [nx] at hn
        have HE2 := Aside0.mk HE1
        clear HE1 hwx
        go_wp2_with fail
        go_roundg k1
        case measure => omega
        case rel => exact ⟨j + 1, lo, hi, rfl, rfl, by go_num, ⟨by have := HJ.out; omega⟩, HW, HE2, rfl⟩
      | false =>
        rw [nx, if_neg (by decide)] at HE1
        rw [nx] at hn
        have HWN := Aside0.mk (⟨lowOf_word hwx HW.out.1, highOf_word hwx HW.out.2⟩ : word (lowOf x lo) ∧ word (highOf x hi))
        have HC1 := Aside0.mk (fun w => Cmp_calls x lo hwx HW.out.1 w)
        have HC2 := Aside0.mk (fun w => Cmp_calls x hi hwx HW.out.2 w)
        clear hwx
        by_cases c1 : FL.cmpK x lo < 0 <;> by_cases c2 : FL.cmpK x hi > 0
        all_goals
          unfold lowOf highOf at HE1 HWN
          first | rw [if_pos c1] at HE1 HWN | rw [if_neg c1] at HE1 HWN
          first | rw [if_pos c2] at HE1 HWN | rw [if_neg c2] at HE1 HWN
          generalize FL.cmpK x lo = q1 at *
          generalize FL.cmpK x hi = q2 at *
          have HE2 := Aside0.mk HE1
          clear HE1
          first | (have d1 := decide_eq_false c1; clear c1) | (have d1 := decide_eq_true c1; clear c1)
          first | (have d2 := decide_eq_false c2; clear c2) | (have d2 := decide_eq_true c2; clear c2)
          go_wp2_with fail
          refine (HC1.out _).mono ?_
          rintro e w3 ⟨rfl, hw3⟩
          subst hw3
          go_wp2_with fail
          refine (HC2.out _).mono ?_
          rintro e w4 ⟨rfl, hw4⟩
          subst hw4
          go_wp2_with fail
          go_roundg k1
          case measure => omega
          case rel => exact ⟨j + 1, _, _, rfl, rfl, by go_num, ⟨by have := HJ.out; omega⟩, HWN, HE2, rfl⟩
set_option maxHeartbeats 4000000 in
theorem REnds_calls (A : Option Addr) (c : Nat) (l : List Nat) (hb : words l) (w : World) (hr : fk.C w A l.length l) :
    Calls Tryz.prog 22 #[.slice A l.length c] w fun e w' => e = .returned (.tuple #[.float .f64 (endsL l 9218868437227405312 18442240474082181120).1, .float .f64 (endsL l 9218868437227405312 18442240474082181120).2]) ∧ w' = w := by
  have HR := Aside0.mk hr
  have HB := Aside0.mk hb
  have hmx : l.length ≤ 9223372036854775807 := Kd.C_max hr
  have C0 := Aside0.mk (show endsL (l.drop 0) 9218868437227405312 18442240474082181120 = endsL l 9218868437227405312 18442240474082181120 from rfl)
  generalize endsL l 9218868437227405312 18442240474082181120 = r at *
  clear hr hb
  go_enter Tryz.func22, Tryz.ntmps22
  go_wp2_with fail
  refine (InfP_calls _).mono ?_
  rintro e w1 ⟨rfl, hw1⟩
  subst hw1
  go_wp2_with fail
  refine (InfN_calls _).mono ?_
  rintro e w1 ⟨rfl, hw1⟩
  subst hw1
  go_wp2_with fail
  go_loopg [4, 5, 6] l.length (fun m v2 v3 v10 w' => ∃ (j lo hi : Nat), v2 = .float .f64 lo ∧ v3 = .float .f64 hi ∧ v10 = .int .i64 j ∧ Aside0 (j + m = l.length) ∧ Aside0 (word lo ∧ word hi) ∧ Aside0 (endsL (l.drop j) lo hi = r) ∧ w' = w1)
  case atStart => exact ⟨0, _, _, rfl, rfl, rfl, ⟨by omega⟩, ⟨by unfold word; omega, by unfold word; omega⟩, C0, rfl⟩
  case round =>
    clear C0
    obtain ⟨j, lo, hi, rfl, rfl, rfl, HJ, HW, HE, hw2⟩ := hrel
    subst hw2
    cases gk with
    | zero =>
      have hd : decide ((j : Int) < (l.length : Int)) = false := decide_eq_false (by have := HJ.out; omega)
      have hd2 : decide (j < l.length) = false := decide_eq_false (by have := HJ.out; omega)
      go_wp2_with fail
      go_ret2
      refine ⟨?_, rfl⟩
      rw [← HE.out, List.drop_eq_nil_of_le (by have := HJ.out; omega)]
      rfl
    | succ k1 =>
      have hj : j < l.length := by have := HJ.out; omega
      obtain ⟨ad, rfl, hc⟩ := fk_at HR.out j hj
      have HE1 := HE.out
      rw [drop_at l j hj, endsL] at HE1
      have hwx := words_at HB.out j hj
      generalize l.getD j 0 = x at *
      have HN := Aside0.mk (fun w => isNaN_calls x w)
      cases nx : FL.nan x with
      | true =>
        rw [nx, if_pos rfl] at HE1
        rw [nx] at HN
        have HE2 := Aside0.mk HE1
        clear HE1 hwx
        go_wp2_with fail
        refine (HN.out _).mono ?_
        rintro e w3 ⟨rfl, hw3⟩
        subst hw3
        go_wp2_with fail
        go_roundg k1
        case measure => omega
        case rel => exact ⟨j + 1, lo, hi, rfl, rfl, by go_num, ⟨by have := HJ.out; omega⟩, HW, HE2, rfl⟩
      | false =>
        rw [nx, if_neg (by decide)] at HE1
        rw [nx] at HN
        have HWN := Aside0.mk (⟨lowOf_word hwx HW.out.1, highOf_word hwx HW.out.2⟩ : word (lowOf x lo) ∧ word (highOf x hi))
        have HC1 := Aside0.mk (fun w => RCmp_calls x lo hwx HW.out.1 w)
        have HC2 := Aside0.mk (fun w => RCmp_calls x hi hwx HW.out.2 w)
        clear hwx
        by_cases c1 : FL.cmpK x lo < 0 <;> by_cases c2 : FL.cmpK x hi > 0
        all_goals
          unfold lowOf highOf at HE1 HWN
          first | rw [if_pos c1] at HE1 HWN | rw [if_neg c1] at HE1 HWN
          first | rw [if_pos c2] at HE1 HWN | rw [if_neg c2] at HE1 HWN
          generalize FL.cmpK x lo = q1 at *
          generalize FL.cmpK x hi = q2 at *
          have HE2 := Aside0.mk HE1
          clear HE1
          first | (have d1 := decide_eq_false c1; clear c1) | (have d1 := decide_eq_true c1; clear c1)
          first | (have d2 := decide_eq_false c2; clear c2) | (have d2 := decide_eq_true c2; clear c2)
          go_wp2_with fail
          refine (HN.out _).mono ?_
          rintro e w3 ⟨rfl, hw3⟩
          subst hw3
          go_wp2_with fail
          refine (HC1.out _).mono ?_
          rintro e w3 ⟨rfl, hw3⟩
          subst hw3
          go_wp2_with fail
          refine (HC2.out _).mono ?_
          rintro e w4 ⟨rfl, hw4⟩
          subst hw4
          go_wp2_with fail
          go_roundg k1
          case measure => omega
          case rel => exact ⟨j + 1, _, _, rfl, rfl, by go_num, ⟨by have := HJ.out; omega⟩, HWN, HE2, rfl⟩
end Go.Proofs.YtaacbjchjdjieaaGreatDoor.P
