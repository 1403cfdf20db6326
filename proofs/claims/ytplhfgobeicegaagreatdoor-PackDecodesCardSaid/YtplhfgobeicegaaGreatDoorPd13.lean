/- Part 13 of the proof: T04, T05, T06, IT, T01, T02, T03, T07a. -/
import Derived.Shelf.Abstract
import Derived.Test.YtplhfgobeicegaaGreatDoorPd11
namespace Go.Proofs.YtplhfgobeicegaaGreatDoor.P
open Go Go.RowKit Go.Proofs.YtplhfgobeicegaaGreatDoorW.PrintWords Go.Proofs.YtplhfgobeicegaaGreatDoorW.PrintLast Go.Proofs.YtplhfgobeicegaaGreatDoorW.PrintMore Go.Proofs.YtplhfgobeicegaaGreatDoor.PX
set_option linter.unusedVariables false
set_option linter.unusedSimpArgs false
set_option maxRecDepth 100000
def Pred (g : Nat) (lb : Array Value) (p : Int → Bool) (w : World) : Prop := ∀ (W : World) (x : Int), Below w.heap.size w W → Calls Tryz.prog g (#[.int .i64 x] ++ lb) W fun e w' => e = .returned (.bool (p x)) ∧ Below W.heap.size W w'
def idxGo (p : Int → Bool) : List Int → Nat → Int
 | [], _ => -1
 | x :: t, i => if p x then (i : Int) else idxGo p t (i + 1)
theorem idxGo_any (p : Int → Bool) : ∀ (l : List Int) (i : Nat), l.any p = decide (0 ≤ idxGo p l i)
 | [], i => by simp [idxGo]
 | x :: t, i => by
  rw [List.any_cons, idxGo]
  cases h : p x
  ·simp only [Bool.false_or, Bool.false_eq_true, if_false]
   exact idxGo_any p t (i + 1)
  ·simp
set_option maxHeartbeats 8000000 in
theorem indexFunc_calls (X : Nat → Prop) (v : Value) (xs : List Int) (w : World) (hv : PV kInt X w v xs) (g : Nat) (lb : Array Value) (eg : ∀ args w, (callFunc g args).run Tryz.prog w = .ok (.enter g args) w) (p : Int → Bool) (hp : Pred g lb p w) :
  Calls Tryz.prog 54 #[v, .func (.func g) #[] lb] w fun e w' => e = .returned (.int .i64 (idxGo p xs 0)) ∧ Below w.heap.size w w' := by
 have H1 := aM hv
 have HP := aM hp
 have m1 := hv.max
 obtain ⟨A0, c0, rfl, _, _⟩ := hv.now
 obtain ⟨q, hq⟩ : ∃ q, q = idxGo p xs 0 := ⟨_, rfl⟩
 rw [← hq]
 have HQ := aM (show idxGo p (xs.drop 0) 0 = q from hq.symm)
 clear hv hp hq
 go_enter Tryz.func54, Tryz.ntmps54
 go_wp2_with fail
 go_loopg [5, 8] xs.length (fun m v5 v8 w' => ∃ (i : Nat), v8 = .int .i64 i ∧ Aside0 (i + m = xs.length) ∧ Aside0 (idxGo p (xs.drop i) i = q) ∧ Aside0 (Below w.heap.size w w'))
 case atStart => exact ⟨0, rfl, ⟨by omega⟩, HQ, ⟨Below.refl _ _⟩⟩
 case round =>
  clear HQ
  obtain ⟨i, rfl, HJ, HQ, HB⟩ := hrel
  cases gk with
  | zero =>
   have hi : i = xs.length := by have := HJ.out; omega
   have e1 : decide ((i : Int) < (xs.length : Int)) = false := dF (by omega)
   have e2 : decide (i < xs.length) = false := dF (by omega)
   have q0 : (-1 : Int) = q := by have h := HQ.out; rwa [hi, List.drop_length, idxGo] at h
   clear HQ hi
   subst q0
   go_wp2_with fail
   go_ret
   exact ⟨rfl, HB.out⟩
  | succ k1 =>
   have hi : i < xs.length := by have := HJ.out; omega
   have e1 : decide ((i : Int) < (xs.length : Int)) = true := dT (by omega)
   have e2 : decide (i < xs.length) = true := dT hi
   have hi0 : (0 : Int) ≤ (i : Int) := by omega
   have hi1 : (i : Int) < (xs.length : Int) := by omega
   obtain ⟨ad, c, e, y0⟩ := int_cell H1.out i hi
   cases e
   have y := pw_cell_below HB.out y0
   have h := HQ.out
   rw [drop_at xs 0 i hi, idxGo] at h
   generalize xs.getD i 0 = x at *
   have hcall := HP.out _ x HB.out
   clear y0 HQ
   cases hpx : p x
   case true =>
    rw [hpx, if_pos rfl] at h
    subst h
    rw [hpx] at hcall
    have HCALL := aM hcall
    clear hcall
    go_wp2_with fail
    refine HCALL.out.mono ?_
    rintro e w' ⟨rfl, hb'⟩
    go_wp2_with fail
    go_ret
    exact ⟨rfl, below_step HB.out hb'⟩
   case false =>
    rw [hpx, if_neg (by decide)] at h
    rw [hpx] at hcall
    have HCALL := aM hcall
    have HQ := aM h
    clear hcall h
    go_wp2_with fail
    refine HCALL.out.mono ?_
    rintro e w' ⟨rfl, hb'⟩
    go_wp2_with fail
    go_roundg k1
    case measure => omega
    case rel => exact ⟨i + 1, by go_num, ⟨by have := HJ.out; omega⟩, HQ, ⟨below_step HB.out hb'⟩⟩
theorem containsFunc_calls (X : Nat → Prop) (v : Value) (xs : List Int) (w : World) (hv : PV kInt X w v xs) (g : Nat) (lb : Array Value) (eg : ∀ args w, (callFunc g args).run Tryz.prog w = .ok (.enter g args) w) (p : Int → Bool) (hp : Pred g lb p w) :
  Calls Tryz.prog 44 #[v, .func (.func g) #[] lb] w fun e w' => e = .returned (.bool (xs.any p)) ∧ Below w.heap.size w w' := by
 rw [idxGo_any p xs 0]
 have H1 := aM hv
 have HP := aM hp
 obtain ⟨A0, c0, rfl, _, _⟩ := hv.now
 clear hv hp
 go_enter Tryz.func44, Tryz.ntmps44
 go_wp2_with (first
  | (go_at_call 54; (with_reducible refine (indexFunc_calls X _ xs w H1.out g lb eg p HP.out).mono ?_); rintro ee w5 ⟨rfl, hb⟩))
 go_ret
 exact ⟨rfl, hb⟩
def oddB (k : Nat) (x : Int) : Bool := decide (x < -1) || decide ((k : Int) ≤ x)
theorem odd14_pred (k B : Nat) (w : World) (hB : B < w.heap.size) (hc : w.cell? ⟨B, 0, none⟩ = some (.int .i64 k)) : Pred 43 #[.pointer (some ⟨B, 0, none⟩)] (oddB k) w := fun W x hb => by
 have hc : W.cell? ⟨B, 0, none⟩ = some (.int .i64 k) := (hb.cell (p := ⟨B, 0, none⟩) hB).trans hc
 show Calls Tryz.prog 43 #[.int .i64 x, .pointer (some ⟨B, 0, none⟩)] W _
 unfold oddB
 go_enter Tryz.func43, Tryz.ntmps43
 go_wp2
 all_goals (go_ret; refine ⟨by simp_all, Below.refl _ _⟩)
theorem any_odd (k : Nat) (row : List Int) : row.any (oddB k) = false ↔ ∀ j, j < row.length → -1 ≤ row.getD j 0 ∧ row.getD j 0 < (k : Int) := by
 rw [List.any_eq_false]
 constructor
 ·intro h j hj
  have h1 := h _ (mem_getD row 0 j hj)
  simp only [oddB, Bool.or_eq_true, decide_eq_true_eq, not_or] at h1
  omega
 ·intro h x hx
  obtain ⟨j, hj, rfl⟩ := List.getElem_of_mem hx
  have h1 := h j hj
  rw [List.getD_eq_getElem?_getD, List.getElem?_eq_getElem hj] at h1
  simp only [Option.getD_some] at h1
  simp only [oddB, Bool.or_eq_true, decide_eq_true_eq, not_or]
  omega
end Go.Proofs.YtplhfgobeicegaaGreatDoor.P
namespace Go.Proofs.YtplhfgobeicegaaGreatDoor.P
open Go Go.RowKit Go.Proofs.YtplhfgobeicegaaGreatDoorW.PrintWords Go.Proofs.YtplhfgobeicegaaGreatDoorW.PrintLast Go.Proofs.YtplhfgobeicegaaGreatDoorW.PrintMore Go.Proofs.YtplhfgobeicegaaGreatDoor.PX
set_option linter.unusedVariables false
set_option linter.unusedSimpArgs false
set_option maxRecDepth 100000
set_option maxHeartbeats 8000000 in
theorem clmany_calls (X : Nat → Prop) (vl : Value) (l : List Int) (w : World) (hl : PV kU8 X w vl l) (hu : U8s l) :
  Calls Tryz.prog 42 #[vl] w fun e w' => e = .returned (.int .i64 (many14 l)) ∧ Below w.heap.size w w' := by
 have H1 := aM hl
 have HU := aM hu
 have m1 := hl.max
 obtain ⟨An, cn, rfl, _, _⟩ := hl.now
 obtain ⟨r, hr⟩ : ∃ r, r = many14 l := ⟨_, rfl⟩
 rw [← hr]
 clear hl hu
 rcases Nat.decEq l.length 256 with h | h
 case isFalse =>
  have d1 : ((l.length : Int) == 256) = false := bF (by omega)
  have d1' : ((l.length : Int) != 256) = true := bne_iff_ne.mpr (by omega)
  have q1 : r = 0 := by rw [hr, many14, if_pos (.inr h)]
  clear hr h
  subst q1
  go_enter Tryz.func42, Tryz.ntmps42
  go_wp2_with fail
  go_ret
  exact ⟨rfl, Below.refl _ _⟩
 case isTrue =>
  have d1 : ((l.length : Int) == 256) = true := beq_iff_eq.mpr (by omega)
  have d1' : ((l.length : Int) != 256) = false := bne_eq_false_iff_eq.mpr (by omega)
  obtain ⟨g, hg⟩ : ∃ g, g = manyGo l 0 := ⟨_, rfl⟩
  have HR := aM (show r = if g = -1 then 0 else g by rw [hr, many14, ← hg]; by_cases c : g = -1 <;> simp [c, h])
  have HG := aM (show manyGo (l.drop 0) 0 = g from hg.symm)
  have HL := aM h
  clear hr hg h
  go_enter Tryz.func42, Tryz.ntmps42
  go_wp2_with fail
  clear d1 d1'
  go_loopg [3, 11] l.length (fun m v3 v11 w' => ∃ (i : Nat) (n : Int), v3 = .int .i64 n ∧ v11 = .int .i64 i ∧ Aside0 (i + m = l.length) ∧ (0 ≤ n ∧ n ≤ 256) ∧ Aside0 (manyGo (l.drop i) n = g) ∧ Aside0 (Below w.heap.size w w'))
  case atStart => exact ⟨0, 0, rfl, rfl, ⟨by omega⟩, by omega, HG, ⟨Below.refl _ _⟩⟩
  case round =>
   clear HG
   obtain ⟨i, n, rfl, rfl, HJ, ⟨hn0, hn1⟩, HG, HB⟩ := hrel
   cases gk with
   | zero =>
    have e1 : decide ((i : Int) < (l.length : Int)) = false := dF (by have := HJ.out; omega)
    have e2 : decide (i < l.length) = false := dF (by have := HJ.out; omega)
    have q0 : n = g := by have h := HG.out; rw [List.drop_of_length_le (by have := HJ.out; omega)] at h; exact h
    subst q0
    have q1 : r = n := by rw [HR.out, if_neg (by omega)]
    clear HR HG
    subst q1
    go_wp2_with fail
    go_ret
    exact ⟨rfl, HB.out⟩
   | succ k1 =>
    have hi : i < l.length := by have := HJ.out; omega
    have e1 : decide ((i : Int) < (l.length : Int)) = true := dT (by omega)
    have e2 : decide (i < l.length) = true := dT hi
    have hi0 : (0 : Int) ≤ (i : Int) := by omega
    have hi1 : (i : Int) < (l.length : Int) := by omega
    obtain ⟨c, hc, hc2⟩ := u8s_at HU.out i hi
    obtain ⟨as_, cs', es, ys0⟩ := u8_cell H1.out i hi
    cases es
    rw [hc] at ys0
    have ys := pw_cell_below HB.out ys0
    have HR3 := HG.out
    rw [drop_at l 0 i hi, hc, manyGo] at HR3
    clear hc ys0 HG
    rcases Int.lt_or_le n c with h | h
    case inl =>
     have d1 : decide ((c : Int) > n) = true := dT h
     have d1' : decide (n < (c : Int)) = true := dT h
     rw [if_pos h] at HR3
     have q1 : r = 0 := by rw [HR.out, if_pos HR3.symm]
     clear HR HR3
     subst q1
     go_wp2_with fail
     go_ret
     exact ⟨rfl, HB.out⟩
    case inr =>
     have d1 : decide ((c : Int) > n) = false := dF (by omega)
     have d1' : decide (n < (c : Int)) = false := dF (by omega)
     rw [if_neg (by omega)] at HR3
     rcases Int.lt_or_le c n with h2 | h2
     case inl =>
      have d2 : ((c : Int) == n) = false := bF (by omega)
      rw [show max n ((c : Int) + 1) = n by omega] at HR3
      have HR4 := aM HR3
      clear HR3
      go_wp2_with fail
      go_roundg k1
      case measure => omega
      case rel => exact ⟨i + 1, n, rfl, by go_num, ⟨by have := HJ.out; omega⟩, by omega, HR4, HB⟩
     case inr =>
      have d2 : ((c : Int) == n) = true := beq_iff_eq.mpr (by omega)
      rw [show max n ((c : Int) + 1) = n + 1 by omega] at HR3
      have HR4 := aM HR3
      clear HR3
      go_wp2_with fail
      go_roundg k1
      case measure => omega
      case rel => exact ⟨i + 1, n + 1, by go_num, by go_num, ⟨by have := HJ.out; omega⟩, by omega, HR4, HB⟩
end Go.Proofs.YtplhfgobeicegaaGreatDoor.P
namespace Go.Proofs.YtplhfgobeicegaaGreatDoor.IT
def dig (d : Nat) : Int := if d < 10 then 48 + (d : Int) else 87 + (d : Int)
def digs : Nat → Nat → List Int
 | 0, n => [dig n]
 | k + 1, n => if n < 36 then [dig n] else digs k (n / 36) ++ [dig (n % 36)]
def itoa (n : Int) : List Int := if n < 0 then 45 :: digs 13 n.natAbs else digs 13 n.natAbs
def undig (d : Int) : Nat := if d < 58 then (d - 48).toNat else (d - 87).toNat
theorem undig_dig (d : Nat) (h : d < 36) : undig (dig d) = d := by
 unfold undig dig
 split <;> split <;> omega
def val (l : List Int) : Nat := l.foldl (fun a d => a * 36 + undig d) 0
theorem val_snoc (l : List Int) (d : Int) : val (l ++ [d]) = val l * 36 + undig d := by unfold val; rw [List.foldl_append]; rfl
theorem val_digs : ∀ (k n : Nat), n < 36 ^ (k + 1) → val (digs k n) = n
 | 0, n, h => by
  simp only [digs, val, List.foldl_cons, List.foldl_nil]
  rw [undig_dig n (by simpa using h)]; omega
 | k + 1, n, h => by
  unfold digs
  split
  ·simp only [val, List.foldl_cons, List.foldl_nil]
   rw [undig_dig n (by omega)]; omega
  ·rw [val_snoc, val_digs k (n / 36) (by rw [Nat.div_lt_iff_lt_mul (by decide)]; rw [Nat.pow_succ] at h; exact h), undig_dig _ (Nat.mod_lt _ (by decide))]
   omega
theorem dig_range (d : Nat) (h : d < 36) : 48 ≤ dig d ∧ dig d ≤ 122 := by unfold dig; split <;> omega
theorem digs_range : ∀ (k n : Nat), n < 36 ^ (k + 1) → ∀ x ∈ digs k n, 48 ≤ x ∧ x ≤ 122
 | 0, n, h, x, hx => by
  simp only [digs, List.mem_singleton] at hx
  subst hx
  exact dig_range n (by simpa using h)
 | k + 1, n, h, x, hx => by
  unfold digs at hx
  split at hx
  ·simp only [List.mem_singleton] at hx
   subst hx
   exact dig_range n (by omega)
  ·rcases List.mem_append.1 hx with hx | hx
   ·exact digs_range k (n / 36) (by rw [Nat.div_lt_iff_lt_mul (by decide)]; rw [Nat.pow_succ] at h; exact h) x hx
   ·simp only [List.mem_singleton] at hx
    subst hx
    exact dig_range _ (Nat.mod_lt _ (by decide))
theorem digs_len : ∀ (k n : Nat), 1 ≤ (digs k n).length ∧ (digs k n).length ≤ k + 1
 | 0, n => by simp [digs]
 | k + 1, n => by
  unfold digs
  split
  ·simp
  ·have := digs_len k (n / 36)
   simp
   omega
def Fits (n : Int) : Prop := -9223372036854775808 ≤ n ∧ n ≤ 9223372036854775807
theorem pow13 (n : Int) (h : Fits n) : n.natAbs < 36 ^ (13 + 1) := by
 have : (36 : Nat) ^ (13 + 1) = 6140942214464815497216 := by decide
 unfold Fits at h
 omega
theorem itoa_range (n : Int) (h : Fits n) : ∀ x ∈ itoa n, 45 ≤ x ∧ x ≤ 122 := by
 intro x hx
 unfold itoa at hx
 split at hx
 ·rcases List.mem_cons.1 hx with rfl | hx
  ·omega
  ·have := digs_range 13 _ (pow13 n h) x hx; omega
 ·have := digs_range 13 _ (pow13 n h) x hx; omega
theorem itoa_len (n : Int) : 1 ≤ (itoa n).length ∧ (itoa n).length ≤ 15 := by
 unfold itoa
 have := digs_len 13 n.natAbs
 split
 ·rw [List.length_cons]; omega
 ·omega
theorem itoa_inj (a b : Int) (ha : Fits a) (hb : Fits b) (h : itoa a = itoa b) : a = b := by
 have va := val_digs 13 _ (pow13 a ha)
 have vb := val_digs 13 _ (pow13 b hb)
 have ra := digs_range 13 _ (pow13 a ha)
 have rb := digs_range 13 _ (pow13 b hb)
 unfold itoa at h
 split at h <;> split at h
 ·have := List.tail_eq_of_cons_eq h
  rw [this] at va
  omega
 ·have h1 : (45 : Int) ∈ digs 13 b.natAbs := by rw [← h]; exact List.mem_cons_self
  have := rb _ h1
  omega
 ·have h1 : (45 : Int) ∈ digs 13 a.natAbs := by rw [h]; exact List.mem_cons_self
  have := ra _ h1
  omega
 ·rw [h] at va
  omega
def colText : List Int → List Int
 | [] => []
 | x :: t => itoa x ++ 32 :: colText t
theorem split_at : ∀ (a b s t : List Int), (∀ x ∈ a, x ≠ 32) → (∀ x ∈ b, x ≠ 32) → a ++ 32 :: s = b ++ 32 :: t → a = b ∧ s = t
 | [], [], s, t, _, _, h => ⟨rfl, by simpa using h⟩
 | [], y :: b, s, t, _, hb, h => by
  exfalso
  simp only [List.nil_append, List.cons_append, List.cons.injEq] at h
  exact hb y List.mem_cons_self h.1.symm
 | x :: a, [], s, t, ha, _, h => by
  exfalso
  simp only [List.nil_append, List.cons_append, List.cons.injEq] at h
  exact ha x List.mem_cons_self h.1
 | x :: a, y :: b, s, t, ha, hb, h => by
  simp only [List.cons_append, List.cons.injEq] at h
  obtain ⟨h1, h2⟩ := split_at a b s t (fun z hz => ha z (List.mem_cons_of_mem _ hz)) (fun z hz => hb z (List.mem_cons_of_mem _ hz)) h.2
  exact ⟨by rw [h.1, h1], h2⟩
theorem colText_inj : ∀ (a b : List Int), (∀ x ∈ a, Fits x) → (∀ x ∈ b, Fits x) → colText a = colText b → a = b
 | [], [], _, _, _ => rfl
 | [], y :: b, _, hb, h => by
  exfalso
  have := congrArg List.length h
  simp [colText] at this
 | x :: a, [], _, _, h => by
  exfalso
  have := congrArg List.length h
  simp [colText] at this
 | x :: a, y :: b, ha, hb, h => by
  simp only [colText] at h
  have fx := ha x List.mem_cons_self
  have fy := hb y List.mem_cons_self
  obtain ⟨h1, h2⟩ := split_at _ _ _ _ (fun z hz => by have := itoa_range x fx z hz; omega) (fun z hz => by have := itoa_range y fy z hz; omega) h
  rw [itoa_inj x y fx fy h1, colText_inj a b (fun z hz => ha z (List.mem_cons_of_mem _ hz)) (fun z hz => hb z (List.mem_cons_of_mem _ hz)) h2]
theorem colText_len : ∀ (a : List Int), (colText a).length ≤ 16 * a.length
 | [] => by simp [colText]
 | x :: t => by
  have h1 := itoa_len x
  have h2 := colText_len t
  simp [colText]
  omega
theorem colText_bytes : ∀ (a : List Int), (∀ x ∈ a, Fits x) → ∀ x ∈ colText a, 0 ≤ x ∧ x ≤ 255
 | [], _, x, hx => by cases hx
 | y :: t, ha, x, hx => by
  simp only [colText] at hx
  rcases List.mem_append.1 hx with hx | hx
  ·have := itoa_range y (ha y List.mem_cons_self) x hx; omega
  ·rcases List.mem_cons.1 hx with rfl | hx
   ·omega
   ·exact colText_bytes t (fun z hz => ha z (List.mem_cons_of_mem _ hz)) x hx
theorem colText_snoc : ∀ (a : List Int) (x : Int), colText (a ++ [x]) = colText a ++ itoa x ++ [32]
 | [], x => by simp [colText]
 | y :: t, x => by simp [colText, colText_snoc t x]
end Go.Proofs.YtplhfgobeicegaaGreatDoor.IT
namespace Go.Proofs.YtplhfgobeicegaaGreatDoor.P
open Go Go.RowKit Go.Proofs.YtplhfgobeicegaaGreatDoorW.PrintWords Go.Proofs.YtplhfgobeicegaaGreatDoorW.PrintLast Go.Proofs.YtplhfgobeicegaaGreatDoorW.PrintMore Go.Proofs.YtplhfgobeicegaaGreatDoor.PX Go.Proofs.YtplhfgobeicegaaGreatDoor.IT
set_option linter.unusedVariables false
set_option linter.unusedSimpArgs false
set_option maxRecDepth 100000
def buf (ds : List Int) : List Value := List.replicate (65 - ds.length) (.int .u8 0) ++ ds.map (Value.int .u8)
theorem buf_at {ds : List Int} {k : Nat} (h : k < 65 - ds.length) : (buf ds)[k]? = some (.int .u8 0) := by
 unfold buf
 rw [List.getElem?_append_left (by simpa using h), List.getElem?_replicate, if_pos h]
theorem dig_at (u : Nat) (h : u < 36) (h2) : ((({ data := #[48, 49, 50, 51, 52, 53, 54, 55, 56, 57, 97, 98, 99, 100, 101, 102, 103, 104, 105, 106, 107, 108, 109, 110, 111, 112, 113, 114, 115, 116, 117, 118, 119, 120, 121, 122] } : ByteArray)[u]'h2).toNat : Int) = dig u := by
 have : ∀ v : Fin 36, ((({ data := #[48, 49, 50, 51, 52, 53, 54, 55, 56, 57, 97, 98, 99, 100, 101, 102, 103, 104, 105, 106, 107, 108, 109, 110, 111, 112, 113, 114, 115, 116, 117, 118, 119, 120, 121, 122] } : ByteArray)[v.1]'v.2).toNat : Int) = dig v.1 := by decide
 exact this ⟨u, h⟩
theorem slBuf (g k : Nat) (hk : k < 65) (W : World) : (Instr.sliceAt 160 (.pointer (some ⟨g, 0, none⟩)) (some (.int .i64 k)) none none).run Tryz.prog W = .ok (.slice (some ⟨g, k, none⟩) (65 - k) (65 - k)) W := by
 have h := run_sliceAt_array_l (P := Tryz.prog) W 160 ⟨g, 0, none⟩ (by rfl) .i64 k (by omega) (by show (k : Int) ≤ 65; omega)
 rw [h]
 have h1 : (⟨g, 0, none⟩ : Addr).add (k * 1) = ⟨g, k, none⟩ := by
  unfold Addr.add
  split
  ·obtain rfl : k = 0 := by omega
   rfl
  ·simp
 show Result.ok (slicedAt ⟨g, 0, none⟩ (k : Int).toNat 65 65 1) W = _
 rw [slicedAt, Int.toNat_natCast, if_neg (by omega), h1]
theorem buf_get {ds : List Int} {k j : Nat} (h : k = 65 - ds.length) (hj : j < ds.length) : (buf ds)[k + j]? = some (.int .u8 (ds.getD j 0)) := by
 unfold buf
 rw [List.getElem?_append_right (by simp; omega), List.length_replicate, show k + j - (65 - ds.length) = j by omega, List.getElem?_map, List.getElem?_eq_getElem hj, List.getD_eq_getElem?_getD, List.getElem?_eq_getElem hj]
 rfl
theorem _root_.Go.Proofs.YtplhfgobeicegaaGreatDoor.PX.Sep.set_buf {X : Nat → Prop} {w0 w : World} {L : List PX.Item} {g : Nat} {ds : List Int} (h : Sep X w0 w (L ++ [.box g 160 (buf ds)])) (d : Int) (k : Nat) (hk : k + ds.length = 64) : Sep X w0 (w.setCell ⟨g, k, none⟩ (.int .u8 d)) (L ++ [.box g 160 (buf (d :: ds))]) := by
 have h1 := h.set_box L.length (by rw [List.getElem?_append_right (Nat.le_refl _), Nat.sub_self]; rfl) k (.int .u8 d)
 rw [List.set_append, if_neg (by omega), Nat.sub_self] at h1
 have e1 : (buf ds).set k (.int .u8 d) = buf (d :: ds) := by
  unfold buf
  rw [List.set_append, if_pos (by simp; omega), show 65 - ds.length = k + 1 by omega, List.length_cons, show 65 - (ds.length + 1) = k by omega, List.replicate_succ', List.set_append, if_neg (by simp), List.length_replicate, Nat.sub_self]
  simp
 rw [← e1]
 exact h1
theorem digs_small (m u : Nat) (h : u < 36) : digs m u = [dig u] := by
 cases m with
 | zero => rfl
 | succ m => rw [digs, if_pos h]
theorem pow36 (w : World) : Calls Tryz.prog 104 #[.int .i64 36] w fun e w' => e = .returned (.bool false) ∧ w' = w := by
 go_enter Tryz.func104, Tryz.ntmps104
 go_wp2_with fail
 go_ret
 exact ⟨rfl, rfl⟩
set_option maxHeartbeats 16000000 in
theorem fbits_calls (X : Nat → Prop) (w0 w : World) (L : List PX.Item) (i : Nat) (v : Value) (xs : List Int) (n : Nat) (hs : Sep X w0 w L) (hi : L[i]? = some (.row kU8 5 v xs)) (hn : n < 18446744073709551616) (hl : xs.length ≤ 1000000000) :
  Calls Tryz.prog 98 #[v, .int .u64 n, .int .i64 36, .bool false, .bool true] w fun ee w' => ∃ v1, ee = .returned (.tuple #[v1, .string { data := #[] }]) ∧ Sep X w0 w' (L.set i (.row kU8 5 v1 (xs ++ digs 13 n))) := by
 have HS := aM hs
 obtain ⟨A0, c0, rfl⟩ := hs.form i hi
 have HI := aM hi
 clear hs hi
 go_enter Tryz.func98, Tryz.ntmps98
 go_wp2_with fail
 case _ =>
  refine (pow36 _).mono ?_
  rintro e w1 ⟨rfl, rfl⟩
  go_wp2_with fail
  have hs : Sep X w0 (w.alloc (.cells Tryz.zeroCells160 160)) (L ++ [.box w.heap.size 160 (buf [])]) := HS.out.push_box (buf []) 160
  obtain ⟨g, hg⟩ : ∃ g, g = w.heap.size := ⟨_, rfl⟩
  rw [← hg] at hs ⊢
  clear HS hg
  have HS := aM hs
  clear hs
  go_loopg [1, 13, 18] 13 (fun m v1 v13 v18 w' => ∃ (u k : Nat) (ds : List Int), v1 = .int .u64 u ∧ v13 = .int .i64 ((k : Int) + 1) ∧ Aside0 (k + ds.length = 64 ∧ ds.length + m = 13) ∧ Aside0 (u < 36 ^ (m + 1) ∧ u < 18446744073709551616) ∧ Aside0 (digs m u ++ ds = digs 13 n) ∧ Aside0 (Sep X w0 w' (L ++ [.box g 160 (buf ds)])))
  case atStart => exact ⟨n, 64, [], rfl, rfl, ⟨rfl, rfl⟩, ⟨by omega, hn⟩, ⟨by simp⟩, HS⟩
  case round =>
   clear HS
   obtain ⟨u, k, ds, rfl, rfl, HK, HU, HD, HS⟩ := hrel
   have hk := HK.out
   obtain ⟨hu, hub⟩ := HU.out
   have y0 := (HS.out.box L.length (by rw [List.getElem?_append_right (Nat.le_refl _), Nat.sub_self]; rfl)).cell k (buf_at (by omega))
   have f0 := (HS.out.box L.length (by rw [List.getElem?_append_right (Nat.le_refl _), Nat.sub_self]; rfl)).open_ k
   have k0 : (0 : Int) ≤ (k : Int) := by omega
   have k1 : (k : Int) < 65 := by omega
   have k2 : k < 65 := by omega
   rcases Nat.lt_or_ge u 36 with hu36 | hu36
   case inl =>
    have e1 : decide ((u : Int) ≥ 36) = false := dF (by omega)
    have e2 : decide ((36 : Int) ≤ (u : Int)) = false := dF (by omega)
    have e3 : decide (36 ≤ u) = false := dF (by omega)
    have sl : ∀ W, (Instr.sliceAt 160 (.pointer (some ⟨g, 0, none⟩)) (some (.int .i64 k)) none none).run Tryz.prog W = .ok (.slice (some ⟨g, k, none⟩) (dig u :: ds).length (dig u :: ds).length) W := fun W => by
     rw [slBuf g k k2 W, show (dig u :: ds).length = 65 - k by rw [List.length_cons]; omega]
    go_wp2_with (first
     | ((with_reducible refine gate_builtin (b := .append) (xs := #[.tmp 95, .tmp 97]) rfl ?_); at_builtin; rw [dig_at u hu36]; refine sgrow kU8 i rfl (.tmp 95) (.tmp 97) 24 5 (.int .u8 0) 1 rfl Tryz.underlying24 info5 rfl (by decide) (by omega) _ _ xs (dig u :: ds) rfl rfl ((HS.out.set_buf (dig u) k (by omega)).sub (List.sublist_append_left _ _)) HI.out ((HS.out.set_buf (dig u) k (by omega)).box_row (fun j hj => buf_get (by rw [List.length_cons]; omega) hj) (by rw [List.length_cons]; omega)) (by rw [List.length_cons]; omega) ?_; intro v1 w1 hs))
    go_ret2
    have hd := HD.out
    rw [digs_small _ _ hu36] at hd
    rw [← hd]
    exact ⟨_, rfl, hs⟩
   case inr =>
    cases gk with
    | zero => exact absurd hu (by omega)
    | succ k1 =>
     have e1 : decide ((u : Int) ≥ 36) = true := dT (by omega)
     have e2 : decide ((36 : Int) ≤ (u : Int)) = true := dT (by omega)
     have e3 : decide (36 ≤ u) = true := dT (by omega)
     obtain ⟨q, hq⟩ : ∃ q, q = u / 36 := ⟨_, rfl⟩
     obtain ⟨r, hr⟩ : ∃ r, r = u % 36 := ⟨_, rfl⟩
     have q1 : IntKind.u64.wrap ((u : Int) / 36) = (q : Int) := by rw [IntKind.wrap_u64]; omega
     have q2 : IntKind.u64.wrap ((q : Int) * 36) = (q : Int) * 36 := by rw [IntKind.wrap_u64]; omega
     have q3 : IntKind.u64.wrap ((u : Int) - (q : Int) * 36) = (r : Int) := by rw [IntKind.wrap_u64]; omega
     have r36 : r < 36 := by omega
     have HQ := aM (And.intro hq hr)
     clear hq hr
     go_wp2_with fail
     have hd := HD.out
     rw [digs, if_neg (by omega), ← HQ.out.1, ← HQ.out.2, List.append_assoc, List.singleton_append] at hd
     have hs := HS.out.set_buf (dig r) k (by omega)
     rw [dig_at r r36]
     obtain ⟨k', hk'⟩ : ∃ k', k = k' + 1 := ⟨k - 1, by omega⟩
     have hq := HQ.out.1
     go_roundg k1
     case measure => omega
     case rel => exact ⟨q, k', dig r :: ds, rfl, by rw [hk']; rfl, ⟨by rw [List.length_cons]; omega⟩, ⟨by rw [hq, Nat.div_lt_iff_lt_mul (by decide)]; rw [Nat.pow_succ] at hu; exact hu, by omega⟩, ⟨hd⟩, ⟨hs⟩⟩
end Go.Proofs.YtplhfgobeicegaaGreatDoor.P
namespace Go.Proofs.YtplhfgobeicegaaGreatDoor.P
open Go Go.RowKit Go.Proofs.YtplhfgobeicegaaGreatDoorW.PrintWords Go.Proofs.YtplhfgobeicegaaGreatDoorW.PrintLast Go.Proofs.YtplhfgobeicegaaGreatDoorW.PrintMore Go.Proofs.YtplhfgobeicegaaGreatDoor.PX Go.Proofs.YtplhfgobeicegaaGreatDoor.IT
set_option linter.unusedVariables false
set_option linter.unusedSimpArgs false
set_option maxRecDepth 100000
set_option maxHeartbeats 16000000 in
theorem auint_calls (X : Nat → Prop) (w0 w : World) (L : List PX.Item) (i : Nat) (v : Value) (xs : List Int) (n : Nat) (hs : Sep X w0 w L) (hi : L[i]? = some (.row kU8 5 v xs)) (hn : n < 18446744073709551616) (hl : xs.length ≤ 1000000000) :
  Calls Tryz.prog 86 #[v, .int .u64 n, .int .i64 36] w fun ee w' => ∃ v1, ee = .returned v1 ∧ Sep X w0 w' (L.set i (.row kU8 5 v1 (xs ++ digs 13 n))) := by
 have HS := aM hs
 obtain ⟨A0, c0, rfl⟩ := hs.form i hi
 have HI := aM hi
 clear hs hi
 go_enter Tryz.func86, Tryz.ntmps86
 go_wp2_with (first
  | (go_at_call 98; (with_reducible refine (fbits_calls X w0 _ L i _ xs n HS.out HI.out hn hl).mono ?_); rintro ee w5 ⟨v1, rfl, hs⟩))
 go_ret
 exact ⟨_, rfl, hs⟩
set_option maxHeartbeats 16000000 in
theorem aint_calls (X : Nat → Prop) (w0 w : World) (L : List PX.Item) (i : Nat) (v : Value) (xs : List Int) (x : Int) (hs : Sep X w0 w L) (hi : L[i]? = some (.row kU8 5 v xs)) (hx : Fits x) (hl : xs.length + 1 ≤ 1000000000) :
  Calls Tryz.prog 73 #[v, .int .i64 x, .int .i64 36] w fun ee w' => ∃ v1, ee = .returned v1 ∧ Sep X w0 w' (L.set i (.row kU8 5 v1 (xs ++ itoa x))) := by
 have HS := aM hs
 obtain ⟨A0, c0, rfl⟩ := hs.form i hi
 have HI := aM hi
 have hlt : i < L.length := (List.getElem?_eq_some_iff.1 hi).1
 obtain ⟨hx1, hx2⟩ := hx
 clear hs hi
 rcases Int.lt_or_le x 0 with h0 | h0
 case inl =>
  have e1 : decide (x < 0) = true := dT h0
  obtain ⟨n, hn⟩ : ∃ n : Nat, x = -(n : Int) := ⟨x.natAbs, by omega⟩
  subst hn
  have q1 : IntKind.u64.wrap (-(n : Int)) = 18446744073709551616 - (n : Int) := by rw [IntKind.wrap_u64]; omega
  have q2 : IntKind.u64.wrap (-(18446744073709551616 - (n : Int))) = (n : Int) := by rw [IntKind.wrap_u64]; omega
  have HE := aM (show itoa (-(n : Int)) = 45 :: digs 13 n by rw [itoa, if_pos h0, Int.natAbs_neg, Int.natAbs_natCast])
  go_enter Tryz.func73, Tryz.ntmps73
  go_wp2_with (first
   | ((with_reducible refine gate_dst (N := 13) rfl ?_); refine slit kU8 5 ?hg (N := 13) ?hd (xs := [(45 : Int)]) (inner := [.int .u8 45]) ?hr HS.out ?hp (by simp) ?_; (case hd => rfl); (case hg => rfl); (case hr => first | (go_simp; done) | (go_simp; rfl)); (case hp => exact Reps.one (PK.scalar _) (Reps.none _ _)); clear HS; intro v30 w30 hs; have HS := aM hs; clear hs)
   | ((with_reducible refine gate_builtin (b := .append) (xs := #[.tmp 12, .tmp 13]) rfl ?_); at_builtin; refine sgrow kU8 i rfl (.tmp 12) (.tmp 13) 24 5 (.int .u8 0) 1 rfl Tryz.underlying24 info5 rfl (by decide) (by omega) _ _ xs [(45 : Int)] rfl rfl HS.out (by rw [List.getElem?_append_left hlt]; exact HI.out) (HS.out.ro L.length List.getElem?_concat_length) (by rw [lS]; omega) ?_; intro v1 w1 hs; rw [List.set_append, if_pos hlt] at hs; have hs2 := hs.sub (List.sublist_append_left _ _); clear HS; have HS := aM hs2; clear hs hs2)
   | (go_at_call 86; (with_reducible refine (auint_calls X w0 _ _ i _ (xs ++ [45]) n HS.out (by rw [List.getElem?_set_self hlt]) (by omega) (by rw [lA, lS]; omega)).mono ?_); rintro ee w5 ⟨v5, rfl, hs⟩))
  go_ret
  rw [HE.out]
  rw [List.set_set, List.append_assoc] at hs
  exact ⟨_, rfl, hs⟩
 case inr =>
  have e1 : decide (x < 0) = false := dF (by omega)
  obtain ⟨n, hn⟩ : ∃ n : Nat, x = (n : Int) := ⟨x.natAbs, by omega⟩
  subst hn
  have q1 : IntKind.u64.wrap (n : Int) = (n : Int) := by rw [IntKind.wrap_u64]; omega
  have HE := aM (show itoa (n : Int) = digs 13 n by rw [itoa, if_neg (by omega), Int.natAbs_natCast])
  go_enter Tryz.func73, Tryz.ntmps73
  go_wp2_with (first
   | (go_at_call 86; (with_reducible refine (auint_calls X w0 _ _ i _ xs n HS.out HI.out (by omega) (by omega)).mono ?_); rintro ee w5 ⟨v5, rfl, hs⟩))
  go_ret
  rw [HE.out]
  exact ⟨_, rfl, hs⟩
theorem appendInt_calls (X : Nat → Prop) (w0 w : World) (L : List PX.Item) (i : Nat) (v : Value) (xs : List Int) (x : Int) (hs : Sep X w0 w L) (hi : L[i]? = some (.row kU8 5 v xs)) (hx : Fits x) (hl : xs.length + 1 ≤ 1000000000) :
  Calls Tryz.prog 55 #[v, .int .i64 x, .int .i64 36] w fun ee w' => ∃ v1, ee = .returned v1 ∧ Sep X w0 w' (L.set i (.row kU8 5 v1 (xs ++ itoa x))) := by
 have HS := aM hs
 obtain ⟨A0, c0, rfl⟩ := hs.form i hi
 have HI := aM hi
 clear hs hi
 go_enter Tryz.func55, Tryz.ntmps55
 go_wp2_with (first
  | (go_at_call 73; (with_reducible refine (aint_calls X w0 _ L i _ xs x HS.out HI.out hx hl).mono ?_); rintro ee w5 ⟨v1, rfl, hs⟩))
 go_ret
 exact ⟨_, rfl, hs⟩
end Go.Proofs.YtplhfgobeicegaaGreatDoor.P
namespace Go.Proofs.YtplhfgobeicegaaGreatDoor.P
open Go Go.RowKit Go.Proofs.YtplhfgobeicegaaGreatDoorW.PrintWords Go.Proofs.YtplhfgobeicegaaGreatDoorW.PrintLast Go.Proofs.YtplhfgobeicegaaGreatDoorW.PrintMore Go.Proofs.YtplhfgobeicegaaGreatDoor.PX Go.Proofs.YtplhfgobeicegaaGreatDoor.IT
set_option linter.unusedVariables false
set_option linter.unusedSimpArgs false
set_option maxRecDepth 100000
def colAt (next : List (List Int)) (c : Nat) : List Int := next.map (fun row => row.getD c 0)
set_option maxHeartbeats 16000000 in
theorem column_calls (X : Nat → Prop) (vn : Value) (next : List (List Int)) (c : Nat) (w : World) (hX : ∀ k, X k → k < w.heap.size) (hn : PV kRow X w vn next) (hr : ∀ row ∈ next, c < row.length) (hf : ∀ row ∈ next, Fits (row.getD c 0)) (hl : next.length ≤ 1000000) :
  Calls Tryz.prog 45 #[vn, .int .i64 c] w fun e w' => e = .returned (.string (strOfNums (colText (colAt next c)))) ∧ Below w.heap.size w w' := by
 have H1 := aM hn
 have HR := aM (show ∀ i, i < next.length → c < (next.getD i []).length ∧ Fits ((next.getD i []).getD c 0) from fun i hi => ⟨hr _ (mem_getD next [] i hi), hf _ (mem_getD next [] i hi)⟩)
 obtain ⟨An, cn, rfl, _, _⟩ := hn.now
 have HS := aM ((Sep.start hX).push_nil kU8 5)
 clear hn hr hf hX
 go_enter Tryz.func45, Tryz.ntmps45
 go_wp2_with fail
 go_loopg [5, 10] next.length (fun m v5 v10 w' => ∃ (i : Nat) (b : List Int), v10 = .int .i64 i ∧ Aside0 (i + m = next.length) ∧ Aside0 (b = colText (colAt (next.take i) c)) ∧ Aside0 (Sep X w w' [.row kU8 5 v5 b]))
 case atStart => exact ⟨0, [], rfl, ⟨by omega⟩, ⟨rfl⟩, HS⟩
 case round =>
  clear HS
  obtain ⟨i, b, rfl, HJ, HB, HS⟩ := hrel
  obtain ⟨A5, c5, e5⟩ := HS.out.form 0 rfl
  subst e5
  cases gk with
  | zero =>
   have hi : i = next.length := by have := HJ.out; omega
   have e1 : decide ((i : Int) < (next.length : Int)) = false := dF (by omega)
   have e2 : decide (i < next.length) = false := dF (by omega)
   have st := HS.out.str (P := Tryz.prog) 0 _ rfl Tryz.underlying24 Tryz.underlying5 Tryz.underlying9
   have HB3 := aM (show b = colText (colAt next c) by have hb := HB.out; rwa [hi, List.take_length] at hb)
   go_wp2_with fail
   go_ret
   rw [← HB3.out]
   exact ⟨rfl, HS.out.below⟩
  | succ k1 =>
   have hi : i < next.length := by have := HJ.out; omega
   have e1 : decide ((i : Int) < (next.length : Int)) = true := dT (by omega)
   have e2 : decide (i < next.length) = true := dT hi
   have hi0 : (0 : Int) ≤ (i : Int) := by omega
   have hi1 : (i : Int) < (next.length : Int) := by omega
   have hc0 : (0 : Int) ≤ (c : Int) := by omega
   obtain ⟨an, cn', u, en, hun, yn0⟩ := H1.out.row i hi
   cases en
   obtain ⟨hcl, hfx⟩ := HR.out i hi
   have hlen : b.length ≤ 16 * i := by
    rw [HB.out]
    have := colText_len (colAt (next.take i) c)
    have h2 : (colAt (next.take i) c).length = i := by simp [colAt]; omega
    omega
   have HB2 := aM (show b ++ itoa ((next.getD i []).getD c 0) ++ [32] = colText (colAt (next.take (i + 1)) c) by rw [take_at next [] i hi, colAt, List.map_append, List.map_cons, List.map_nil, colText_snoc, HB.out]; rfl)
   obtain ⟨row, hrow⟩ : ∃ r, r = next.getD i [] := ⟨_, rfl⟩
   rw [← hrow] at hun hcl hfx HB2
   clear hrow
   have hc1 : (c : Int) < (row.length : Int) := by omega
   obtain ⟨Au, cu, rfl, _, _⟩ := hun.now
   obtain ⟨ar, cr, er, yr0⟩ := int_cell hun c hcl
   cases er
   have yn := pw_cell_below HS.out.below yn0
   have yr := pw_cell_below HS.out.below yr0
   clear hun yn0 yr0 hcl HB
   generalize row.getD c 0 = x at *
   have hxl := itoa_len x
   go_wp2_with (first
    | (go_at_call 55; (with_reducible refine (appendInt_calls X w _ _ 0 _ b x HS.out rfl hfx (by omega)).mono ?_); rintro ee w5 ⟨v5, rfl, hs⟩; clear HS; have HS := aM hs; clear hs)
    | ((with_reducible refine gate_dst (N := 21) rfl ?_); refine slit kU8 5 ?hg (N := 21) ?hd (xs := [(32 : Int)]) (inner := [.int .u8 32]) ?hr HS.out ?hp (by simp) ?_; (case hd => rfl); (case hg => rfl); (case hr => first | (go_simp; done) | (go_simp; rfl)); (case hp => exact Reps.one (PK.scalar _) (Reps.none _ _)); clear HS; intro v30 w30 hs; have HS := aM hs; clear hs)
    | ((with_reducible refine gate_builtin (b := .append) (xs := #[.tmp 20, .tmp 21]) rfl ?_); at_builtin; refine sgrow kU8 0 rfl (.tmp 20) (.tmp 21) 24 5 (.int .u8 0) 1 rfl Tryz.underlying24 info5 rfl (by decide) (by omega) _ _ (b ++ itoa x) [(32 : Int)] rfl rfl HS.out rfl (HS.out.ro 1 rfl) (by rw [lA, lS]; omega) ?_; clear HS; intro v1 w1 hs; have hs := hs.take 1; have HS := aM hs; clear hs))
   go_roundg k1
   case measure => omega
   case rel => exact ⟨i + 1, _, by go_num, ⟨by have := HJ.out; omega⟩, HB2, HS⟩
end Go.Proofs.YtplhfgobeicegaaGreatDoor.P
namespace Go.Proofs.YtplhfgobeicegaaGreatDoor.P
open Go Go.RowKit Go.Proofs.YtplhfgobeicegaaGreatDoorW.PrintWords Go.Proofs.YtplhfgobeicegaaGreatDoor.PX Go.Proofs.YtplhfgobeicegaaGreatDoor.IT
open Go.Maps (Tidy IsMap)
set_option linter.unusedVariables false
def keyL (next : List (List Int)) (a : Nat) : Lit := .string (strOfNums (colText (colAt next a))).data.toList
theorem colAt_iff (next : List (List Int)) (a b : Nat) : colAt next a = colAt next b ↔ sameCol next a b = true := by
 unfold colAt sameCol
 rw [List.map_inj_left, List.all_eq_true]
 exact ⟨fun h x hx => dT (h x hx), fun h x hx => of_decide_eq_true (h x hx)⟩
theorem colAt_fits {next : List (List Int)} {a : Nat} (h : ∀ row ∈ next, Fits (row.getD a 0)) : ∀ x ∈ colAt next a, Fits x := by
 intro x hx
 obtain ⟨row, hr, rfl⟩ := List.mem_map.1 hx
 exact h row hr
theorem keyL_iff {next : List (List Int)} {a b : Nat} (ha : ∀ row ∈ next, Fits (row.getD a 0)) (hb : ∀ row ∈ next, Fits (row.getD b 0)) : keyL next a = keyL next b ↔ sameCol next a b = true := by
 rw [← colAt_iff]
 constructor
 ·intro h
  unfold keyL at h
  have h1 := Lit.string.inj h
  rw [strOfNums_data, strOfNums_data] at h1
  have h2 := str_inj _ _ (fun x hx => by have := colText_bytes _ (colAt_fits ha) x hx; omega) (fun x hx => by have := colText_bytes _ (colAt_fits hb) x hx; omega) h1
  exact colText_inj _ _ (colAt_fits ha) (colAt_fits hb) h2
 ·intro h
  unfold keyL
  rw [h]
theorem keyL_key (next : List (List Int)) (a : Nat) : WideAt.IsKeyLit (keyL next a) := trivial
theorem key_string {P : Program} {k : TypeId} (hk : P.underlying k = some .string) (next : List (List Int)) (a : Nat) (hl : next.length ≤ 1000000) : keyOf P k (.string (strOfNums (colText (colAt next a)))) = some (keyL next a) := by
 refine WideMaps.keyOf_string_mk hk ?_
 rw [strOfNums_size]
 have h1 := colText_len (colAt next a)
 have h2 : (colAt next a).length = next.length := by simp [colAt]
 unfold maxLen
 omega
structure MapD (K : Nat → Lit) (c : Nat) (D : DataW Unit) : Prop where
 tidy : Tidy D
 has : ∀ x, Maps.has D x = true ↔ ∃ a, a < c ∧ K a = x
 le : Maps.size D ≤ c
 eq : Maps.size D = c ↔ ∀ a, a < c → ∀ b, b < a → K a ≠ K b
theorem MapD.start (K : Nat → Lit) : MapD K 0 (.map []) := ⟨Maps.tidy_empty, fun x => ⟨fun h => by simp [Maps.has] at h, fun ⟨a, h, _⟩ => by omega⟩, Nat.le_refl _, ⟨fun _ a h => by omega, fun _ => rfl⟩⟩
theorem has_put {D : DataW Unit} (hD : IsMap D) {k : Lit} (hk : WideAt.IsKeyLit k) (d : DataW Unit) (x : Lit) : Maps.has (D.put k d) x = true ↔ x = k ∨ Maps.has D x = true := by
 by_cases c : x = k
 ·subst c
  simp [Maps.has_put_same hD hk]
 ·rw [Maps.has_put_other c]
  simp [c]
theorem MapD.step {K : Nat → Lit} {c : Nat} {D : DataW Unit} (h : MapD K c D) (hk : WideAt.IsKeyLit (K c)) (d : DataW Unit) : MapD K (c + 1) (D.put (K c) d) := by
 have hs := Maps.size_put (k := K c) h.tidy d
 refine ⟨h.tidy.put hk d, fun x => ?_, ?_, ?_⟩
 ·rw [has_put h.tidy.isMap hk, h.has]
  constructor
  ·rintro (rfl | ⟨a, ha, rfl⟩)
   ·exact ⟨c, by omega, rfl⟩
   ·exact ⟨a, by omega, rfl⟩
  ·rintro ⟨a, ha, rfl⟩
   by_cases hc : a = c
   ·subst hc; exact .inl rfl
   ·exact .inr ⟨a, by omega, rfl⟩
 ·rw [hs]
  have := h.le
  split <;> omega
 ·rw [hs]
  have hle := h.le
  cases hh : Maps.has D (K c)
  ·rw [if_neg (by decide)]
   have hn : ∀ b, b < c → K c ≠ K b := fun b hb he => by
    have := (h.has (K c)).2 ⟨b, hb, he.symm⟩
    rw [hh] at this
    cases this
   constructor
   ·intro he a ha b hb
    by_cases hc : a = c
    ·subst hc; exact hn b hb
    ·exact h.eq.1 (by omega) a (by omega) b hb
   ·intro hall
    have := h.eq.2 (fun a ha b hb => hall a (by omega) b hb)
    omega
  ·rw [if_pos rfl]
   obtain ⟨b, hb, he⟩ := (h.has (K c)).1 hh
   constructor
   ·intro he2; omega
   ·intro hall
    exact absurd he.symm (hall c (by omega) b hb)
structure KnownD (K : Nat → Lit) (F : List Int) (D : DataW Unit) : Prop where
 isMap : IsMap D
 has : ∀ x, Maps.has D x = true ↔ ∃ j, j < F.length ∧ K (F.getD j 0).toNat = x
 at_ : ∀ j, j < F.length → ∀ z, D.atKey (K (F.getD j 0).toNat) z = .lit (.int .i64 (j : Int))
theorem KnownD.start (K : Nat → Lit) : KnownD K [] (.map []) := ⟨Maps.isMap_empty, fun x => ⟨fun h => by simp [Maps.has] at h, fun ⟨a, h, _⟩ => by simp at h⟩, fun j h => by simp at h⟩
theorem getD_snoc {F : List Int} {c : Int} (j : Nat) (h : j < F.length) : (F ++ [c]).getD j 0 = F.getD j 0 := by
 rw [List.getD_eq_getElem?_getD, List.getElem?_append_left h, ← List.getD_eq_getElem?_getD]
theorem getD_last (F : List Int) (c : Int) : (F ++ [c]).getD F.length 0 = c := by simp
theorem KnownD.step {K : Nat → Lit} {F : List Int} {c : Nat} {D : DataW Unit} (h : KnownD K F D) (hk : WideAt.IsKeyLit (K c)) (hn : Maps.has D (K c) = false) : KnownD K (F ++ [(c : Int)]) (D.put (K c) (.lit (.int .i64 (F.length : Int)))) := by
 have hne : ∀ j, j < F.length → K (F.getD j 0).toNat ≠ K c := fun j hj he => by
  have := (h.has (K c)).2 ⟨j, hj, he⟩
  rw [hn] at this
  cases this
 refine ⟨h.isMap.put _ _, fun x => ?_, fun j hj z => ?_⟩
 ·rw [has_put h.isMap hk, h.has]
  constructor
  ·rintro (rfl | ⟨j, hj, rfl⟩)
   ·exact ⟨F.length, by simp, by rw [getD_last, Int.toNat_natCast]⟩
   ·exact ⟨j, by simp; omega, by rw [getD_snoc j hj]⟩
  ·rintro ⟨j, hj, rfl⟩
   by_cases hc : j = F.length
   ·subst hc; rw [getD_last, Int.toNat_natCast]; exact .inl rfl
   ·have hj' : j < F.length := by simp at hj; omega
    rw [getD_snoc j hj']
    exact .inr ⟨j, hj', rfl⟩
 ·by_cases hc : j = F.length
  ·subst hc
   rw [getD_last, Int.toNat_natCast]
   exact Maps.atKey_put_same h.isMap hk _ _
  ·have hj' : j < F.length := by simp at hj; omega
   rw [getD_snoc j hj', Maps.atKey_put_other (hne j hj')]
   exact h.at_ j hj' z
end Go.Proofs.YtplhfgobeicegaaGreatDoor.P
